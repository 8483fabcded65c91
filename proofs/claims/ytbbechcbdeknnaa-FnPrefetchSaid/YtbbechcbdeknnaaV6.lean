/- The calculus' rules: stores, make, append, literals, slices (as operations). -/
import Derived.Test.YtbbechcbdeknnaaV5
set_option linter.all false
namespace Go.V
open Go Go.RowKit

section
variable {P : Program} {fr : Fr} {st : St} {ops : Array Oper} {rest : List Oper} {k : List It}
variable {d : Nat} {t : TypeId} {pos : String} {aft : Array Edge}

theorem AO.store {ty : TypeId} {x y : Operand} {av vv : AV} {vs : List AV} {n id : Nat} {r' : Res} (hsz : ∀ w, (sizeOf ty).run P w = .ok n w) (hx : st.ev x = some av) (hy : st.ev y = some vv)
    (hc : st.cellsOf vv = some vs) (hn : Nat.beq vs.length n = true) (ho : st.ones vs = true) (hs : st.store vs av = some (id, r'))
    (hk : AO P fr ops rest k false ⟨st.tm, setR id r' st.hp⟩) : AO P fr ops (⟨none, .store ty x y, t, pos, aft, none⟩ :: rest) k false st :=
  AO.of_run0 rfl rfl (fun a w ⟨η, φ, hr⟩ => by
    obtain ⟨w', h1, h2⟩ := hr.store hs (hr.ev hx) (cellsOf_rel hc hr (hr.ev hy)) hsz (Nat.eq_of_beq_eq_true hn) ho
    exact ⟨w', by simp [execOp, h1], η, φ, h2⟩) hk

/-- A type's zero, its cells and its bytes, all together. -/
def TyIs (P : Program) (e : TypeId) (z : Value) (size bytes : Nat) : Prop := (P.info? e).map (fun i => (i.zero, i.size, i.bytes)) = some (some z, size, bytes)

theorem mod_list {z : Array Value} (hz : 0 < z.size) : ∀ n, (madeCells z (n * z.size)).toList = (List.replicate n z.toList).flatten := by
  intro n
  apply List.ext_getElem?
  intro i
  have hl : ∀ r ∈ List.replicate n z.toList, r.length = z.size := fun r hr => by rw [List.eq_of_mem_replicate hr]; simp
  have hflat : ∀ (n i : Nat), i < n * z.size → (List.replicate n z.toList).flatten[i]? = z.toList[i % z.size]? := by
    intro n
    induction n with
    | zero => intro i hi; simp at hi
    | succ n ih =>
      intro i hi
      rw [List.replicate_succ, List.flatten_cons]
      by_cases h : i < z.size
      · rw [List.getElem?_append_left (by simpa using h), Nat.mod_eq_of_lt h]
      · rw [List.getElem?_append_right (by simpa using h)]
        simp only [Array.length_toList]
        rw [ih (i - z.size) (by rw [Nat.add_mul] at hi; omega)]
        congr 1
        rw [Nat.mod_eq_sub_mod (by omega : i ≥ z.size)]
  by_cases h : i < n * z.size
  · rw [hflat n i h]
    have hm : i % z.size < z.size := Nat.mod_lt _ hz
    simp [madeCells, h, hm]
  · rw [List.getElem?_eq_none (by simpa [madeCells] using h), List.getElem?_eq_none (by rw [flatten_length _ hl]; simpa using h)]

theorem relL_replicate {S : Nat → Prop} {w : World} {l : List PV} {us : List Value} (h : RelL S w l us) : ∀ n, RelL S w (List.replicate n l).flatten (List.replicate n us).flatten
  | 0 => by simp [RelL]
  | n + 1 => by
    rw [List.replicate_succ, List.replicate_succ, List.flatten_cons, List.flatten_cons]
    exact relL_append _ _ _ _ h (relL_replicate h n)

theorem take_flatten_replicate {α : Type} (z : List α) : ∀ (l c : Nat), l ≤ c → (List.replicate c z).flatten.take (l * z.length) = (List.replicate l z).flatten
  | 0, c, _ => by simp
  | l + 1, 0, h => by omega
  | l + 1, c + 1, h => by
    rw [List.replicate_succ, List.replicate_succ, List.flatten_cons, List.flatten_cons, Nat.add_mul, Nat.one_mul, Nat.add_comm, List.take_length_add_append, take_flatten_replicate z l c (by omega)]

theorem AO.make {ty e : TypeId} {l c : Operand} {n m : Nat} {kl kc : IntKind} (id : Nat) {z : Value} {rs bytes : Nat} {row : List PV} (hs : P.underlying ty = some (.slice e)) (hi : TyIs P e z rs bytes) (hz : z.cells.toList.map zpv = row)
    (hrow : Nat.beq row.length rs = true) (hrs : Nat.blt 0 rs = true) (hl : st.ev l = some (.p (.v (.int kl n)))) (hc : st.ev c = some (.p (.v (.int kc m)))) (hle : n ≤ m) (hb : bytes * m ≤ 281474976710656) (hm : m ≤ 4611686018427387904)
    (hf : st.fresh id = true) (hlt : Nat.blt d fr.nt = true)
    (hk : AO P fr ops rest k false ⟨(d, .h id) :: st.tm, (id, .vec e rs (List.replicate n row)) :: st.hp⟩) (hpin : get fr.pin id = none := by rfl) : AO P fr ops (⟨some d, .makeSlice ty l c, t, pos, aft, none⟩ :: rest) k false st :=
  AO.of_run rfl rfl (fun a w ⟨η, φ, hr⟩ => by
    obtain ⟨i, h1, h2, h3, h4⟩ := info_parts hi
    have e1 := hr.ev hl
    have e2 := hr.ev hc
    simp only [ARel, Rel] at e1 e2
    have hbI : (i.bytes : Int) * (m : Int) ≤ 281474976710656 := by
      rw [h4]
      have : ((bytes * m : Nat) : Int) ≤ 281474976710656 := by omega
      rwa [Int.natCast_mul] at this
    have hrun := run_make (P := P) w ty e i z hs h1 h2 kl kc n m (by omega) (by omega) hbI (by omega)
    simp only [Int.toNat_natCast] at hrun
    have hzs : z.cells.size = rs := by
      have := congrArg List.length hz
      simp only [List.length_map, Array.length_toList] at this
      rw [this]; exact Nat.eq_of_beq_eq_true hrow
    have hrs0 : 0 < rs := Nat.le_of_ble_eq_true hrs
    refine ⟨_, _, by simp only [execOp, e1, e2, Sem.run_bind, hrun]; rfl, _, _, hr.addPut ((Below.refl _ _).alloc (Nat.le_refl _) _) id hf (.vec e rs (List.replicate n row)) _ [w.heap.size] (by simp)
      ⟨(List.replicate n z.cells.toList).flatten, ?_, ?_, ⟨?_, .inr ⟨w.heap.size, m, _, ?_, Nat.zero_le _, heap_alloc_new w _, ?_, ?_, ?_, ?_⟩⟩, ?_⟩ hlt hpin⟩
    · exact relL_replicate (hz ▸ zpvs_rel _ _ _) n
    · intro r hr'; rw [List.eq_of_mem_replicate hr']; exact Nat.eq_of_beq_eq_true hrow
    · rw [flatten_length (rs := rs) _ (fun r hr' => by rw [List.eq_of_mem_replicate hr']; simpa using hzs)]; simp
    · simp
    · simpa using hle
    · simp only [maxLen]; omega
    · rw [h3]; simp [size_madeCells]
    · rw [h3]
      simp only [List.length_replicate]
      rw [← hzs, mod_list (by rw [hzs]; exact hrs0), show z.cells.size = z.cells.toList.length by simp, take_flatten_replicate _ _ _ hle]
    · rfl) hk

/-- What is appended: rows that are read. -/
def St.rowsOf (st : St) : AV → Option (Nat × List (List PV))
  | .p (.sl rs rows) => some (rs, rows)
  | .h id => match get st.hp id with
    | some (.vec _ rs rows) => some (rs, rows)
    | _ => none
  | _ => none

theorem relRows_list {S : Nat → Prop} {w : World} {b rs : Nat} : ∀ (o : Nat) (rows : List (List PV)), RelRows S w b rs o rows →
    (∀ r ∈ rows, r.length = rs) ∧ ∃ us : List Value, us.length = rows.length * rs ∧ (∀ j u, us[j]? = some u → w.cell? ⟨b, o + j, none⟩ = some u) ∧ RelL S w rows.flatten us
  | _, [], _ => ⟨by simp, [], by simp, by simp, by simp [RelL]⟩
  | o, r :: rows, h => by
    simp only [RelRows] at h
    obtain ⟨h1, h2, h3⟩ := h
    obtain ⟨g1, us, g2, g3, g4⟩ := relRows_list (o + rs) rows h3
    have hone : ∀ (o : Nat) (cs : List PV), RelAt S w b o cs → ∃ us : List Value, us.length = cs.length ∧ (∀ j u, us[j]? = some u → w.cell? ⟨b, o + j, none⟩ = some u) ∧ RelL S w cs us := by
      intro o cs
      induction cs generalizing o with
      | nil => intro _; exact ⟨[], rfl, by simp, by simp [RelL]⟩
      | cons c cs ih =>
        intro h
        simp only [RelAt] at h
        obtain ⟨⟨u, f1, f2⟩, f3⟩ := h
        obtain ⟨us, e, f4, f5⟩ := ih (o + 1) f3
        refine ⟨u :: us, by simp [e], fun j v hj => ?_, by simp only [RelL]; exact ⟨u, us, rfl, f2, f5⟩⟩
        cases j with
        | zero => simp at hj; subst hj; simpa using f1
        | succ j => simp at hj; have := f4 j v hj; rwa [show o + (j + 1) = o + 1 + j by omega]
    obtain ⟨vs, f1, f2, f3⟩ := hone o r h2
    refine ⟨?_, vs ++ us, by simp [f1, g2, h1, Nat.add_mul]; omega, fun j u hj => ?_, ?_⟩
    · intro q hq
      rcases List.mem_cons.1 hq with rfl | hq
      · exact h1
      · exact g1 q hq
    · by_cases hlt : j < vs.length
      · rw [List.getElem?_append_left hlt] at hj; exact f2 j u hj
      · rw [List.getElem?_append_right (by omega)] at hj
        have := g3 _ u hj
        rwa [show o + rs + (j - vs.length) = o + j by omega] at this
    · rw [List.flatten_cons]; exact relL_append _ _ _ _ f3 g4

theorem rowsOf_rel {av : AV} {rs : Nat} {rows : List (List PV)} (hb : st.rowsOf av = some (rs, rows)) {η : Nat → Value} {φ : Nat → List Nat} {a : Act} {w : World} (hr : RepE fr η φ st a w) {u : Value}
    (h : ARel η (SOf φ st.hp) w av u) : (∀ r ∈ rows, r.length = rs) ∧ ∃ x cap us, u = .slice x rows.length cap ∧ us.length = rows.length * rs ∧ RelL (SOf φ st.hp) w rows.flatten us ∧
      (rows = [] ∨ ∃ b o, x = some ⟨b, o, none⟩ ∧ b < w.heap.size ∧ ∀ j u, us[j]? = some u → w.cell? ⟨b, o + j, none⟩ = some u) := by
  cases av with
  | p x =>
    cases x with
    | sl rs' rows' =>
      simp only [St.rowsOf, Option.some.injEq, Prod.mk.injEq] at hb
      obtain ⟨rfl, rfl⟩ := hb
      simp only [ARel, Rel] at h
      obtain ⟨a, cap, h1, h2, h3⟩ := h
      rcases h3 with h3 | ⟨b, o, e1, e2, e3, e4⟩
      · subst h3; exact ⟨by simp, a, cap, [], h1, by simp, by simp [RelL], .inl rfl⟩
      · obtain ⟨g1, us, g2, g3, g4⟩ := relRows_list o rows' e4
        exact ⟨g1, a, cap, us, h1, g2, g4, .inr ⟨b, o, e1, e3, g3⟩⟩
    | _ => cases hb
  | h id =>
    simp only [St.rowsOf] at hb
    cases hg : get st.hp id with
    | none => rw [hg] at hb; cases hb
    | some r =>
      rw [hg] at hb
      cases r with
      | cust C => cases hb
      | box ty cs' => cases hb
      | vec ty rs' rows' =>
        simp only [Option.some.injEq, Prod.mk.injEq] at hb
        obtain ⟨rfl, rfl⟩ := hb
        obtain ⟨xs, h1, h2, h3, h4⟩ := hr.res id _ hg
        simp only [ARel] at h
        rcases h3.2 with ⟨e, hn⟩ | ⟨g', cap, cur, e, _, hgb, _⟩
        · have : rows' = [] := List.eq_nil_of_length_eq_zero hn
          subst this
          exact ⟨h2, none, 0, xs, by rw [h, e]; rfl, h3.1, h1, .inl rfl⟩
        · refine ⟨h2, _, cap, xs, by rw [h, e], h3.1, h1, .inr ⟨g', 0, rfl, ?_, fun j u hj => ?_⟩⟩
          · exact (Array.getElem?_eq_some_iff.1 hgb).1
          · have := h3.cells (by rw [e]; rfl : (η id).ownBlock = some g') j u hj
            rwa [add_plain] at this
  | _ => cases hb

/-- Each of some plain data fits one cell. -/
def pvOne : PV → Bool
  | .v (.agg _) => false
  | .v (.tuple _) => false
  | .agg _ => false
  | .tup _ => false
  | _ => true

theorem pvOne_spec {S : Nat → Prop} {w : World} {x : PV} {u : Value} (h : Rel S w x u) (hx : pvOne x = true) : u.oneCell' = true := by
  cases x with
  | v y => simp only [Rel] at h; subst h; cases u <;> first | rfl | (simp [pvOne] at hx)
  | ptr cs => simp only [Rel] at h; obtain ⟨b, o, rfl, _⟩ := h; rfl
  | sl rs rows => simp only [Rel] at h; obtain ⟨a, cap, rfl, _⟩ := h; rfl
  | agg cs => simp [pvOne] at hx
  | tup cs => simp [pvOne] at hx
  | clo f cs => simp only [Rel] at h; obtain ⟨us, rfl, _⟩ := h; rfl

theorem pvOnes_spec {S : Nat → Prop} {w : World} : ∀ (l : List PV) (us : List Value), RelL S w l us → (∀ x ∈ l, pvOne x = true) → ∀ u ∈ us, u.oneCell' = true
  | [], us, h, _, u, hu => by simp only [RelL] at h; subst h; cases hu
  | c :: l, us, h, ho, u, hu => by
    simp only [RelL] at h
    obtain ⟨u0, us', rfl, h2, h3⟩ := h
    rcases List.mem_cons.1 hu with rfl | hu
    · exact pvOne_spec h2 (ho c (by simp))
    · exact pvOnes_spec l us' h3 (fun x hx => ho x (by simp [hx])) u hu

theorem nextcap_bound (need old : Nat) (h : old < need) : Builtin.nextslicecap need old ≤ 2 * need + 1000 := by
  unfold Builtin.nextslicecap
  split
  · omega
  · split
    · omega
    · have key : ∀ (r c : Nat), c ≤ 2 * need + 1000 → c < need ∨ c ≤ 2 * need + 1000 → Builtin.growBy need r c ≤ 2 * need + 1000 := by
        intro r
        induction r with
        | zero => intro c h1 _; exact h1
        | succ r ih =>
          intro c h1 _
          unfold Builtin.growBy
          split
          · exact h1
          · exact ih _ (by omega) (.inr (by omega))
      exact key 4 old (by omega) (.inl h)

/-- append, on what one owns: in place or anew. -/
theorem run_append {ty e tr : TypeId} {z : Value} {rs bytes : Nat} (hs : P.underlying ty = some (.slice e)) (hi : TyIs P e z rs bytes) (hzs : z.cells.size = rs) (_hrs : 0 < rs)
    {w : World} {v : Value} {n : Nat} {xs : List Value} (hown : w.ownsRow 0 e rs v n xs) {a : Option Addr} {m c : Nat} {news : List Value} (hl : news.length = m * rs)
    (hnews : m = 0 ∨ ∃ b o, a = some ⟨b, o, none⟩ ∧ ∀ j u, news[j]? = some u → w.cell? ⟨b, o + j, none⟩ = some u) (h1 : ∀ u ∈ news, u.oneCell' = true) (hbytes : (2 * (n + m) + 1000) * bytes ≤ 281474976710656) (hnm : n + m ≤ 4611686018427387904) :
    ∃ v' w', (Builtin.append_ #[ty, ty] tr #[v, .slice a m c]).run P w = .ok v' w' ∧ w'.ownsRow 0 e rs v' (n + m) (xs ++ news) ∧ w'.os = w.os ∧ w'.tape = w.tape ∧ w'.output = w.output ∧ w.heap.size ≤ w'.heap.size ∧
      (∀ k, k < w.heap.size → k ∉ v.ownBlock.toList → w'.heap[k]? = w.heap[k]?) ∧ (∀ k ∈ v'.ownBlock.toList, (k ∈ v.ownBlock.toList ∨ w.heap.size ≤ k) ∧ k < w'.heap.size) := by
  obtain ⟨i, e1, e2, e3, e4⟩ := info_parts hi
  have hm' : n + m ≤ maxLen := by simp only [maxLen]; omega
  rcases Nat.eq_zero_or_pos m with hm0 | hmp
  · subst hm0
    have hn0 : news = [] := List.eq_nil_of_length_eq_zero (by simpa using hl)
    subst hn0
    rcases hown.2 with ⟨rfl, rfl⟩ | ⟨g, cap, cur, rfl, _, hg, hnc, hcm, hcs, htake⟩
    · refine ⟨.slice none 0 0, w, ?_, by simpa using hown, rfl, rfl, rfl, Nat.le_refl _, fun _ _ _ => rfl, by simp [Value.ownBlock]⟩
      cases a <;> simp [Builtin.append_, run_underlying hs, sizeOf, typeInfo, e1, Builtin.lenOf, Builtin.firstCells, loadCells, loadCellsFrom]
    · refine ⟨.slice (some ⟨g, 0, none⟩) n cap, w, ?_, by simpa using hown, rfl, rfl, rfl, Nat.le_refl _, fun _ _ _ => rfl, fun k hk => ⟨.inl hk, ?_⟩⟩
      · cases a <;> simp [Builtin.append_, run_underlying hs, sizeOf, typeInfo, e1, Builtin.lenOf, Builtin.firstCells, loadCells, loadCellsFrom, hnc, storeCells]
      · simp [Value.ownBlock] at hk; subst hk; exact (Array.getElem?_eq_some_iff.1 hg).1
  · rcases hnews with hnews | ⟨b, o, rfl, hnews⟩
    · omega
    have hnews' : ∀ j u, news[j]? = some u → w.cell? ((⟨b, o, none⟩ : Addr).add j) = some u := fun j u hj => by rw [add_plain]; exact hnews j u hj
    have hfresh : ∀ (old : Nat), old < n + m → ∃ cap', (n + m ≤ cap' ∧ cap' ≤ maxLen) ∧ cap' = grownCap w (n + m) old e := fun old _ =>
      ⟨_, ⟨grownCap_ge w (n + m) old e, grownCap_le_maxLen w (n + m) old e hm'⟩, rfl⟩
    have hxl : xs.length = n * rs := hown.1
    have anew : ∀ (cap' : Nat), n + m ≤ cap' → cap' ≤ maxLen →
        (w.drew.alloc (.cells (xs.toArray ++ news.toArray ++ Builtin.zeroCells z.cells (cap' - (n + m))) e)).ownsRow 0 e rs (.slice (some ⟨w.heap.size, 0, none⟩) (n + m) cap') (n + m) (xs ++ news) := by
      intro cap' h1 h2
      refine ⟨by rw [List.length_append, hxl, hl, Nat.add_mul], .inr ⟨w.heap.size, cap', _, rfl, Nat.zero_le _, heap_alloc_new w.drew _, h1, h2, ?_, ?_⟩⟩
      · simp only [Array.size_append, List.size_toArray, size_zeroCells, hzs, hxl, hl, ← Nat.add_mul]
        congr 1; omega
      · simp only [Array.toList_append, List.append_assoc]
        rw [← List.append_assoc, show (n + m) * rs = (xs ++ news).length by rw [List.length_append, hxl, hl, Nat.add_mul]]
        exact List.take_left
    rcases hown.2 with ⟨rfl, rfl⟩ | ⟨g, cap, cur, rfl, _, hg, hnc, hcm, hcs, htake⟩
    · have hx : xs = [] := List.eq_nil_of_length_eq_zero (by simpa using hxl)
      subst hx
      have hr := run_append_nil (P := P) w ty tr e i z hs e1 e2 ⟨b, o, none⟩ m c news (by rw [hl, e3]) hnews' hmp (by omega) (by rw [e4]; have : m * bytes ≤ (2 * (0 + m) + 1000) * bytes := Nat.mul_le_mul_right _ (by omega); omega)
      obtain ⟨cap', ⟨c1, c2⟩, c3⟩ := hfresh 0 (by omega)
      have ha := anew cap' c1 c2
      simp only [Nat.zero_add] at c3 ha
      rw [← c3] at hr
      refine ⟨_, _, hr, ?_, rfl, rfl, rfl, by simp, fun k hk _ => Go.heap_alloc_old w.drew _ (by exact hk), fun k hk => ?_⟩
      · simpa using ha
      · simp [Value.ownBlock] at hk; subst hk; simp
    · by_cases hroom : n + m ≤ cap
      · have hcap : (n + m) * rs ≤ cap * rs := Nat.mul_le_mul_right _ hroom
        have hr := run_append_room (P := P) w ty tr e i hs e1 g n cap cur hg ⟨b, o, none⟩ m c news (by rw [hl, e3]) hnews' h1 hroom (by rw [e3, hl, hcs, ← Nat.add_mul]; exact hcap)
        rw [e3] at hr
        refine ⟨_, _, hr, ⟨by rw [List.length_append, hxl, hl, Nat.add_mul], .inr ⟨g, cap, _, rfl, Nat.zero_le _, setRow_heap w g cur _ e (0, 0) hg, hroom, hcm, ?_, ?_⟩⟩, rfl, rfl, rfl, by simp, ?_, fun k hk => ⟨.inl hk, ?_⟩⟩
        · have : n * rs ≤ cap * rs := Nat.mul_le_mul_right _ hnc
          rw [Nat.add_mul] at hcap
          simp [hl, hcs, Nat.min_eq_left hnc]; omega
        · have hl1 : (cur.toList.take (n * rs) ++ news).length = (n + m) * rs := by
            have : n * rs ≤ cap * rs := Nat.mul_le_mul_right _ hnc
            simp [hl, hcs, Nat.add_mul, Nat.min_eq_left hnc]
          rw [← htake]
          show ((cur.toList.take (n * rs) ++ news) ++ _).take _ = _
          rw [← hl1]; exact List.take_left
        · intro k hk hne
          exact setRow_other w g k _ (fun e => hne (by simp [Value.ownBlock, e]))
        · simp [Value.ownBlock] at hk; subst hk; simpa using (Array.getElem?_eq_some_iff.1 hg).1
      · have holds : ∀ j v, xs[j]? = some v → w.cell? ((⟨g, 0, none⟩ : Addr).add j) = some v := hown.cells rfl
        have hnb : Builtin.nextslicecap (n + m) cap * i.bytes ≤ 281474976710656 := by
          rw [e4]; exact Nat.le_trans (Nat.mul_le_mul_right _ (nextcap_bound (n + m) cap (by omega))) hbytes
        have hr := run_append_grow (P := P) w ty tr e i z hs e1 e2 ⟨g, 0, none⟩ n cap xs (by rw [hxl, e3]) holds ⟨b, o, none⟩ m c news (by rw [hl, e3]) hnews' (by omega) (by omega) hnb
        obtain ⟨cap', ⟨c1, c2⟩, c3⟩ := hfresh cap (by omega)
        have ha := anew cap' c1 c2
        rw [← c3] at hr
        refine ⟨_, _, hr, ha, rfl, rfl, rfl, by simp, fun k hk _ => Go.heap_alloc_old w.drew _ (by exact hk), fun k hk => ?_⟩
        simp [Value.ownBlock] at hk; subst hk; simp

theorem exec_append {A : Act} {x y : Operand} {ty ty' tr : TypeId} {g : Option (Nat × Bool)} {w w' : World} {v' : Value} (h : (Builtin.append_ #[ty, ty'] tr #[A.eval x, A.eval y]).run P w = .ok v' w') :
    (execOp A.eval ⟨some d, .call { callee := .builtin .append, args := #[x, y], argTypes := #[ty, ty'] }, tr, pos, aft, g⟩).run P w = .ok (.value v') w' := by
  have key : ∀ cs, (builtin .append #[ty, ty'] tr cs #[A.eval x, A.eval y]).run P w = .ok (.value v') w' := by
    intro cs
    simp only [builtin, Sem.run_bind, h]; rfl
  simp [execOp, resolve, invoke, key]

/-- append onto what one owns. -/
theorem AO.append {ty e : TypeId} {x y : Operand} (id : Nat) {z : Value} {rs bytes : Nat} {av : AV} {rows rows2 : List (List PV)} (hs : P.underlying ty = some (.slice e)) (hi : TyIs P e z rs bytes)
    (hzs : Nat.beq z.cells.size rs = true) (hrs : Nat.blt 0 rs = true) (hx : st.ev x = some (.h id)) (hid : get st.hp id = some (.vec e rs rows)) (hy : st.ev y = some av) (hav : av.names id = false) (hrows : st.rowsOf av = some (rs, rows2))
    (hone : ∀ r ∈ rows2, ∀ q ∈ r, pvOne q = true)
    (hbytes : (2 * (rows.length + rows2.length) + 1000) * bytes ≤ 281474976710656) (hnm : rows.length + rows2.length ≤ 4611686018427387904) (hlt : Nat.blt d fr.nt = true)
    (hk : AO P fr ops rest k false ⟨(d, .h id) :: dropT id st.tm, setR id (.vec e rs (rows ++ rows2)) (dropH id st.hp)⟩) (hpin : get fr.pin id = none := by rfl) :
    AO P fr ops (⟨some d, .call { callee := .builtin .append, args := #[x, y], argTypes := #[ty, ty] }, t, pos, aft, none⟩ :: rest) k false st :=
  AO.of_run rfl rfl (fun a w ⟨η, φ, hr⟩ => by
    have ex := hr.ev hx
    simp only [ARel] at ex
    obtain ⟨hr2, p, cap, us, ey, hul, hrel2, hcells⟩ := rowsOf_rel hrows hr (hr.ev hy)
    obtain ⟨xs, f1, f2, f3, f4⟩ := hr.res id _ hid
    obtain ⟨v', w', g1, g2, g3, g4, g5, g6, g7, g8⟩ := run_append (tr := t) (c := cap) hs hi (Nat.eq_of_beq_eq_true hzs) (Nat.le_of_ble_eq_true hrs) f3 (a := p) (m := rows2.length) (news := us) hul
      (by rcases hcells with h | ⟨b, o, h1, _, h2⟩
          · exact .inl (by rw [h]; rfl)
          · exact .inr ⟨b, o, h1, h2⟩)
      (pvOnes_spec _ us hrel2 (fun q hq => by obtain ⟨r, hr1, hr2⟩ := List.mem_flatten.1 hq; exact hone r hr1 q hr2)) hbytes hnm
    refine ⟨v', w', exec_append (by rw [ex, ey]; exact g1), ?_⟩
    have hd := hr.drop id
    have hg0 : get (dropH id st.hp) id = some (.vec e rs rows) := by rw [get_dropH, hid]; rfl
    rw [← f4] at g7
    have hch := hd.change id hg0 (.vec e rs (rows ++ rows2)) v' v'.ownBlock.toList g3 g4 g5 g6 g7 (by rw [← f4] at g8; exact g8)
      (.inr ⟨freshT_drop id st.tm, fun j r _ hg => by rw [get_dropH] at hg; obtain ⟨r0, _, rfl⟩ := Option.map_eq_some_iff.1 hg; exact Res.drop_names id r0, hpin⟩) (by
        have hSame : Same (SOf φ st.hp) w w' := ⟨g6, fun k hk hn => g7 k hk (fun h => hn ⟨id, _, hid, h⟩)⟩
        have hS : ∀ k, k < w.heap.size → SOf (upd φ id v'.ownBlock.toList) (setR id (.vec e rs (rows ++ rows2)) (dropH id st.hp)) k → SOf φ st.hp k := by
          rintro k hk ⟨i, r', hg, hm⟩
          rw [get_setR id _ _ _ hg0] at hg
          by_cases e1 : i = id
          · subst e1; rw [upd_self] at hm
            rcases (g8 k hm).1 with h | h
            · exact ⟨i, _, hid, by rw [f4]; exact h⟩
            · omega
          · rw [if_neg e1, get_dropH] at hg
            obtain ⟨r0, h0, _⟩ := Option.map_eq_some_iff.1 hg
            rw [upd_ne _ _ e1] at hm; exact ⟨i, r0, h0, hm⟩
        refine ⟨xs ++ us, ?_, ?_, ?_, rfl⟩
        · rw [List.flatten_append]
          exact relL_append _ _ _ _ (RelL.mono hSame hS _ _ f1) (RelL.mono hSame hS _ _ hrel2)
        · intro r hr'
          rcases List.mem_append.1 hr' with h | h
          · exact f2 r h
          · exact hr2 r h
        · rw [List.length_append]; exact g2)
    exact ⟨_, _, hch.put hlt (av := .h id) (by simp only [ARel]; rw [upd_self])⟩) hk

/-- A nil slice. -/
def AV.isNil : AV → Bool
  | .p (.v (.slice none 0 0)) => true
  | _ => false

/-- append onto nil. -/
theorem AO.appendNil {ty e : TypeId} {x y : Operand} (id : Nat) {z : Value} {rs bytes : Nat} {av : AV} {rows2 : List (List PV)} (hs : P.underlying ty = some (.slice e)) (hi : TyIs P e z rs bytes)
    (hzs : Nat.beq z.cells.size rs = true) (hrs : Nat.blt 0 rs = true) (hx : st.ev x = some (.p (.v (.slice none 0 0)))) (hy : st.ev y = some av) (hrows : st.rowsOf av = some (rs, rows2))
    (hone : ∀ r ∈ rows2, ∀ q ∈ r, pvOne q = true)
    (hbytes : (2 * (0 + rows2.length) + 1000) * bytes ≤ 281474976710656) (hnm : 0 + rows2.length ≤ 4611686018427387904) (hf : st.fresh id = true) (hlt : Nat.blt d fr.nt = true)
    (hk : AO P fr ops rest k false ⟨(d, .h id) :: st.tm, (id, .vec e rs rows2) :: st.hp⟩) (hpin : get fr.pin id = none := by rfl) :
    AO P fr ops (⟨some d, .call { callee := .builtin .append, args := #[x, y], argTypes := #[ty, ty] }, t, pos, aft, none⟩ :: rest) k false st :=
  AO.of_run rfl rfl (fun a w ⟨η, φ, hr⟩ => by
    have ex := hr.ev hx
    simp only [ARel, Rel] at ex
    obtain ⟨hr2, p, cap, us, ey, hul, hrel2, hcells⟩ := rowsOf_rel hrows hr (hr.ev hy)
    obtain ⟨v', w', g1, g2, g3, g4, g5, g6, g7, g8⟩ := run_append (tr := t) (c := cap) hs hi (Nat.eq_of_beq_eq_true hzs) (Nat.le_of_ble_eq_true hrs) (World.ownsRow_nil w 0 e rs) (a := p) (m := rows2.length) (news := us) hul
      (by rcases hcells with h | ⟨b, o, h1, _, h2⟩
          · exact .inl (by rw [h]; rfl)
          · exact .inr ⟨b, o, h1, h2⟩)
      (pvOnes_spec _ us hrel2 (fun q hq => by obtain ⟨r, hr1, hr2⟩ := List.mem_flatten.1 hq; exact hone r hr1 q hr2)) hbytes hnm
    refine ⟨v', w', exec_append (by rw [ex, ey]; exact g1), ?_⟩
    have hb : Below w.heap.size w w' := ⟨g3, g4, g5, g6, fun k hk => g7 k hk (by simp [Value.ownBlock])⟩
    have hres := hr.addPut hb id hf (.vec e rs rows2) v' v'.ownBlock.toList (fun k hk => by
        have := g8 k hk
        simpa [Value.ownBlock] using this) (by
        have hSame : Same (SOf φ st.hp) w w' := Same.of_below hb
        have hS : ∀ k, k < w.heap.size → SOf (upd φ id v'.ownBlock.toList) ((id, .vec e rs rows2) :: st.hp) k → SOf φ st.hp k := by
          rintro k hk ⟨i, r', hg, hm⟩
          rw [get_cons] at hg
          split at hg
          · next e1 =>
            subst e1; rw [upd_self] at hm
            have := (g8 k hm).1
            simp [Value.ownBlock] at this
            omega
          · next e1 => rw [upd_ne _ _ (fun h => e1 h.symm)] at hm; exact ⟨i, r', hg, hm⟩
        refine ⟨us, RelL.mono hSame hS _ _ hrel2, hr2, ?_, rfl⟩
        simpa using g2) hlt hpin
    exact ⟨_, _, hres⟩) hk

end
end Go.V
