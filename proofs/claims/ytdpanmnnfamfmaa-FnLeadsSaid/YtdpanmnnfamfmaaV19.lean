/- The calculus' rules: an own slice of numbers that begins behind its block's first cell. -/
import Derived.Test.YtdpanmnnfamfmaaV18
import Derived.Test.YtdpanmnnfamfmaaD4
set_option linter.all false
namespace Go.V
open Go Go.RowKit

def TailR (v : Value) (ty : TypeId) (xs : List Int) (w : World) (F : List Nat) : Prop :=
  ((∃ a c, v = .slice a 0 c) ∧ xs = []) ∨
  ∃ b c cur, v = .slice (some ⟨b, 1, none⟩) xs.length c ∧ F = [b] ∧ w.heap[b]? = some (.cells cur ty (0, 0)) ∧ xs.length ≤ c ∧ 1 + xs.length ≤ cur.size ∧ ∀ i z, xs[i]? = some z → cur[1 + i]? = some (.int .i64 z)
theorem TailR.mono {v : Value} {ty : TypeId} {xs : List Int} {w w' : World} {F : List Nat} (hF : ∀ k ∈ F, w'.heap[k]? = w.heap[k]?) (h : TailR v ty xs w F) : TailR v ty xs w' F := by
  rcases h with h | ⟨b, c, cur, h1, h2, h3, h4⟩
  · exact .inl h
  · exact .inr ⟨b, c, cur, h1, h2, (hF b (by rw [h2]; simp)).trans h3, h4⟩
theorem tail_cell {w : World} {b o : Nat} {cur : Array Value} {ty : TypeId} {u : Value} (h : w.heap[b]? = some (.cells cur ty (0, 0))) (hu : cur[o]? = some u) : w.cell? ⟨b, o, none⟩ = some u := by
  simp [World.cell?, h, hu]
theorem tail_view {v : Value} {ty : TypeId} {xs : List Int} {w : World} {F : List Nat} (h : TailR v ty xs w F) : Rel (fun _ => False) w (.sl 1 (xs.map encI)) v := by
  simp only [Rel, List.length_map]
  rcases h with ⟨⟨a, c, h1⟩, h2⟩ | ⟨b, c, cur, h1, h2, h3, h4, h5, h6⟩
  · exact ⟨a, c, by rw [h1, h2]; rfl, by rw [h2]; simp, .inl (by rw [h2]; rfl)⟩
  · refine ⟨_, c, h1, h4, .inr ⟨b, 1, rfl, (fun h => h), (Array.getElem?_eq_some_iff.1 h3).1, ?_⟩⟩
    refine relRows_of_at _ 1 (fun r hr => by obtain ⟨x, _, rfl⟩ := List.mem_map.1 hr; rfl) (fun i r hir => ?_)
    rw [List.getElem?_map] at hir
    obtain ⟨z, hz, rfl⟩ := Option.map_eq_some_iff.1 hir
    refine ⟨⟨.int .i64 z, ?_, by simp only [Rel]⟩, trivial⟩
    exact tail_cell h3 (by rw [Nat.mul_one]; exact h6 i z hz)
theorem tail_shape {v : Value} {ty : TypeId} {xs : List Int} {w : World} {F : List Nat} (h : TailR v ty xs w F) : ∃ a n c, v = .slice a n c := by
  rcases h with ⟨⟨a, c, h1⟩, _⟩ | ⟨b, c, cur, h1, _⟩
  · exact ⟨_, _, _, h1⟩
  · exact ⟨_, _, _, h1⟩
def tailC (ty : TypeId) (xs : List Int) (V : List (List PV)) (hV : xs.map encI = V) : Cust where
  R := fun _ w hd F => TailR hd ty xs w F
  view := some (.sl 1 V)
  mono := fun _ _ hF h => TailR.mono hF h
  shape := fun h => .inr (tail_shape h)
  ok := fun h h1 => by cases h; rw [← hV]; exact tail_view h1
def tailAt (v : Value) (ty : TypeId) (xs : List Int) : Cust where
  R := fun _ w hd F => hd = v ∧ TailR v ty xs w F
  view := none
  mono := fun _ _ hF ⟨h0, h⟩ => ⟨h0, TailR.mono hF h⟩
  shape := fun ⟨h0, h⟩ => by rw [h0]; exact .inr (tail_shape h)
  ok := fun h => by cases h

section
variable {P : Program} {fr : Fr} {st : St} {ops : Array Oper} {rest : List Oper} {k : List It} {t : TypeId} {pos : String} {aft : Array Edge} {g : Option (Nat × Bool)} {d : Option Nat}
theorem SOf_get {φ : Nat → List Nat} {hp hp' : List (Nat × Res)} (h : ∀ i, (∃ r, get hp' i = some r) → ∃ r, get hp i = some r) : ∀ k, SOf φ hp' k → SOf φ hp k := by
  rintro k ⟨i, r, h1, h2⟩
  obtain ⟨r', h3⟩ := h i ⟨r, h1⟩
  exact ⟨i, r', h3, h2⟩
theorem AC.tailOpen (id : Nat) {ty : TypeId} {xs : List Int} {V : List (List PV)} {hV : xs.map encI = V} (hg : get st.hp id = some (.cust (tailC ty xs V hV)))
    (hk : ∀ a c, (xs ≠ [] → ∃ b, a = some ⟨b, 1, none⟩) → AC P fr k ⟨substT id (.v (.slice a xs.length c)) st.tm, (id, .cust (tailAt (.slice a xs.length c) ty xs)) :: substH id (.v (.slice a xs.length c)) st.hp⟩) : AC P fr k st := by
  rintro a w ⟨η, φ, hr⟩
  have hres : TailR (η id) ty xs w (φ id) := hr.res id _ hg
  have main : ∀ ad c, η id = .slice ad xs.length c → RepE fr η φ ⟨substT id (.v (.slice ad xs.length c)) st.tm, (id, .cust (tailAt (.slice ad xs.length c) ty xs)) :: substH id (.v (.slice ad xs.length c)) st.hp⟩ a w := by
    intro ad c he
    have hget : ∀ i r, get ((id, .cust (tailAt (.slice ad xs.length c) ty xs)) :: substH id (.v (.slice ad xs.length c)) st.hp) i = some r → (i = id ∧ r = .cust (tailAt (.slice ad xs.length c) ty xs)) ∨ (i ≠ id ∧ ∃ r0, get st.hp i = some r0 ∧ r = r0.subst id (.v (.slice ad xs.length c))) := by
      intro i r h
      rw [get_cons] at h
      by_cases e : id = i
      · rw [if_pos e] at h; exact .inl ⟨e.symm, (Option.some.inj h).symm⟩
      · rw [if_neg e, get_substH, if_neg (fun h => e h.symm)] at h
        obtain ⟨r0, h1, rfl⟩ := Option.map_eq_some_iff.1 h
        exact .inr ⟨fun h => e h.symm, r0, h1, rfl⟩
    have hS : ∀ k, SOf φ ((id, .cust (tailAt (.slice ad xs.length c) ty xs)) :: substH id (.v (.slice ad xs.length c)) st.hp) k → SOf φ st.hp k := by
      refine SOf_get (fun i ⟨r, h⟩ => ?_)
      rcases hget i r h with ⟨rfl, _⟩ | ⟨_, r0, h1, _⟩
      · exact ⟨_, hg⟩
      · exact ⟨_, h1⟩
    have hw : ∀ {S}, Same S w w := ⟨Nat.le_refl _, fun _ _ _ => rfl⟩
    have hx : Rel (SOf φ ((id, .cust (tailAt (.slice ad xs.length c) ty xs)) :: substH id (.v (.slice ad xs.length c)) st.hp)) w (.v (.slice ad xs.length c)) (η id) := by simp only [Rel]; exact he
    refine hr.re (fun i r k h1 h2 => hS k ⟨i, r, h1, h2⟩) ?_ ?_ ?_ (fun _ _ _ => rfl)
    · intro i av h
      simp only [get_substT] at h
      obtain ⟨a0, h1, rfl⟩ := Option.map_eq_some_iff.1 h
      obtain ⟨u, h2, h3⟩ := hr.slots i a0 h1
      exact ⟨u, h2, ARel.subst hS hx a0 u h3⟩
    · intro i r h
      rcases hget i r h with ⟨rfl, rfl⟩ | ⟨e, r0, h3, rfl⟩
      · exact ⟨he, by rw [← he]; exact hres⟩
      · have hr0 := hr.res i r0 h3
        cases r0 with
        | box ty cs =>
          obtain ⟨b, arr, e1, e2, e3, e4⟩ := hr0
          exact ⟨b, arr, e1, e2, e3, ARelL.subst hS hx cs _ e4⟩
        | vec ty rs rows => exact RRes.mono hw (fun k _ h => hS k h) (fun _ _ => rfl) (.vec ty rs rows) (fun _ _ => rfl) hr0
        | cust C => exact RRes.mono hw (fun k _ h => hS k h) (fun _ _ => rfl) (.cust C) (fun _ _ => rfl) hr0
    · intro i j r r' k h1 h2 h3 h4
      have e1 : ∃ q, get st.hp i = some q := by
        rcases hget i r h1 with ⟨rfl, _⟩ | ⟨_, r0, h, _⟩
        · exact ⟨_, hg⟩
        · exact ⟨_, h⟩
      have e2 : ∃ q, get st.hp j = some q := by
        rcases hget j r' h2 with ⟨rfl, _⟩ | ⟨_, r0, h, _⟩
        · exact ⟨_, hg⟩
        · exact ⟨_, h⟩
      obtain ⟨q1, e1⟩ := e1
      obtain ⟨q2, e2⟩ := e2
      exact hr.disj i j q1 q2 k e1 e2 h3 h4
  rcases hres with ⟨⟨a0, c0, h1⟩, h2⟩ | ⟨b, c, cur, h1, h2, h3, h4, h5, h6⟩
  · exact hk a0 c0 (fun h => absurd h2 h) a w ⟨η, φ, main a0 c0 (by rw [h1, h2]; rfl)⟩
  · exact hk _ c (fun _ => ⟨b, rfl⟩) a w ⟨η, φ, main _ c h1⟩
theorem RepE.recust {η : Nat → Value} {φ : Nat → List Nat} {a : Act} {w : World} (hr : RepE fr η φ st a w) (id : Nat) {r r' : Res} (hg : get st.hp id = some r) (hres : RRes η (SOf φ st.hp) w (η id) (φ id) r') : RepE fr η φ ⟨st.tm, setR id r' st.hp⟩ a w := by
  have h := hr.change id hg r' (η id) (φ id) rfl rfl rfl (Nat.le_refl _) (fun _ _ _ => rfl) (fun k hk => ⟨.inl hk, hr.lt id _ k hg hk⟩) (.inl rfl) (by rw [upd_same, upd_same, SOf_setR φ id r' r st.hp hg]; exact hres)
  rwa [upd_same, upd_same] at h
theorem AC.tailClose (id : Nat) {v : Value} {ty : TypeId} {xs : List Int} {V : List (List PV)} (hV : xs.map encI = V) (hg : get st.hp id = some (.cust (tailAt v ty xs))) (hk : AC P fr k ⟨st.tm, setR id (.cust (tailC ty xs V hV)) st.hp⟩) : AC P fr k st :=
  fun a w ⟨_, _, hr⟩ => hk a w ⟨_, _, hr.recust id hg (by obtain ⟨h1, h2⟩ := hr.res id _ hg; show TailR _ _ _ _ _; rw [h1]; exact h2)⟩
theorem Yld.lenC {ty e : TypeId} {x : Operand} {a : Option Addr} {n c : Nat} (hs : P.underlying ty = some (.slice e)) (hx : st.ev x = some (.p (.v (.slice a n c)))) :
    Yld P fr ⟨d, .call { callee := .builtin .len, args := #[x], argTypes := #[ty] }, t, pos, aft, g⟩ st (.p (.v (.int .i64 n))) :=
  Yld.of_run fun _ _ A w hr => by
    have h1 := hr.ev hx
    simp only [ARel, Rel] at h1
    exact ⟨.int .i64 n, fun w' hw' => by simp [execOp, resolve, invoke, builtin, h1, Builtin.len_, run_underlying hs, goInt], by simp [ARel, Rel]⟩
theorem Yld.idxC {ty e : TypeId} {x i : Operand} {b o n c m : Nat} {kk : IntKind} {j : Int} (hs : P.underlying ty = some (.slice e)) (hsz : ∀ w, (sizeOf e).run P w = .ok 1 w) (hx : st.ev x = some (.p (.v (.slice (some ⟨b, o, none⟩) n c))))
    (hi : st.ev i = some (.p (.v (.int kk j)))) (hj : j = m) (hm : m < n) : Yld P fr ⟨d, .indexAddr ty x i, t, pos, aft, g⟩ st (.p (.v (.pointer (some ⟨b, o + m, none⟩)))) :=
  Yld.of_run fun _ _ A w hr => by
    subst hj
    have h1 := hr.ev hx
    have h2 := hr.ev hi
    simp only [ARel, Rel] at h1 h2
    refine ⟨.pointer (some ⟨b, o + m, none⟩), fun w' hw' => ?_, by simp [ARel, Rel]⟩
    have h0 : (0 : Int) ≤ (m : Int) := by omega
    have h3 : (m : Int) < (n : Int) := by omega
    simp [execOp, h1, h2, Instr.indexAt, asIntOf, run_underlying hs, h0, h3, hsz, add_plain]
    intro h; omega
theorem AO.storeC {ty : TypeId} {x y : Operand} (id : Nat) {b n c m : Nat} {xs : List Int} {z : Int} {e : TypeId} (hsz : ∀ w, (sizeOf ty).run P w = .ok 1 w) (hx : st.ev x = some (.p (.v (.pointer (some ⟨b, 1 + m, none⟩))))) (hy : st.ev y = some (.p (.v (.int .i64 z))))
    (hg : get st.hp id = some (.cust (tailAt (.slice (some ⟨b, 1, none⟩) n c) e xs))) (hm : m < xs.length)
    (hk : AO P fr ops rest k false ⟨st.tm, setR id (.cust (tailAt (.slice (some ⟨b, 1, none⟩) n c) e (xs.set m z))) st.hp⟩) : AO P fr ops (⟨none, .store ty x y, t, pos, aft, none⟩ :: rest) k false st :=
  AO.of_run0 rfl rfl (fun a w ⟨η, φ, hr⟩ => by
    have h1 := hr.ev hx
    have h2 := hr.ev hy
    simp only [ARel, Rel] at h1 h2
    obtain ⟨hv, hres⟩ := hr.res id _ hg
    rcases hres with ⟨_, e1⟩ | ⟨b', c', cur, e1, e2, e3, e4, e5, e6⟩
    · subst e1; simp at hm
    · have eb : b' = b := by simp only [Value.slice.injEq, Option.some.injEq, Addr.mk.injEq] at e1; exact e1.1.1.symm
      subst eb
      have hrun : (Instr.storeAt ty (.pointer (some ⟨b', 1 + m, none⟩)) (.int .i64 z)).run P w = .ok () (w.setRow b' (spl cur.toList (1 + m) (Value.int .i64 z).cells.toList).toArray) := by
        simp [Instr.storeAt, Instr.sureAddr, run_storeVar hsz w b' (1 + m) e cur (.int .i64 z) e3 rfl (by omega) (by intro u hu; simp [Value.cells] at hu; subst hu; rfl)]
      refine ⟨w.setRow b' (spl cur.toList (1 + m) (Value.int .i64 z).cells.toList).toArray, by simp [execOp, h1, h2, hrun], η, φ, ?_⟩
      have hblk : ∀ k, k < w.heap.size → k ∉ φ id → (w.setRow b' (spl cur.toList (1 + m) (Value.int .i64 z).cells.toList).toArray).heap[k]? = w.heap[k]? := fun k _ hk =>
        setRow_other w b' k _ (fun e => hk (by rw [e2]; simp [e]))
      have hch := hr.change id hg (.cust (tailAt (.slice (some ⟨b', 1, none⟩) n c) e (xs.set m z))) (η id) (φ id) (setRow_os _ _ _) (setRow_tape _ _ _) (setRow_output _ _ _) (by simp) hblk
        (fun k hk => ⟨.inl hk, by simpa using hr.lt id _ k hg hk⟩) (.inl rfl) (by
          rw [upd_same, upd_same, SOf_setR φ id _ _ st.hp hg]
          refine ⟨hv, .inr ⟨b', c', _, by rw [List.length_set]; exact e1, e2, setRow_heap w b' cur _ e (0, 0) e3, by rw [List.length_set]; exact e4, ?_, ?_⟩⟩
          · rw [List.length_set]; simp [spl, Value.cells]; omega
          · intro i u hu
            have hc : (Value.int .i64 z).cells.toList = [Value.int .i64 z] := rfl
            rw [hc]
            have hspl : spl cur.toList (1 + m) [Value.int .i64 z] = cur.toList.set (1 + m) (.int .i64 z) := by
              unfold spl
              rw [List.set_eq_take_append_cons_drop, if_pos (by simp; omega)]
              simp
            rw [hspl]
            simp only [List.getElem?_toArray]
            by_cases him : i = m
            · subst him
              rw [List.getElem?_set_self (by simpa using hm)] at hu
              obtain rfl := Option.some.inj hu
              rw [List.getElem?_set_self (by simp; omega)]
            · rw [List.getElem?_set_ne (fun h => him h.symm)] at hu
              rw [List.getElem?_set_ne (by omega)]
              simpa using e6 i u hu)
      rwa [upd_same, upd_same] at hch) hk
/-- All but the first. -/
theorem AO.tail {dd : Nat} {ty e : TypeId} {x : Operand} (id : Nat) {lo : Option Operand} {n0 : Int} {xs : List Int} {rows : List (List PV)} {V : List (List PV)} (hV : xs.map encI = V) (hs : P.underlying ty = some (.slice e)) (hsz : ∀ w, (sizeOf e).run P w = .ok 1 w)
    (hx : st.ev x = some (.h id)) (hid : get st.hp id = some (.vec e 1 rows)) (hrows : rows = (n0 :: xs).map encI) (hlo : Bnd st 0 lo 1) (hlt : Nat.blt dd fr.nt = true)
    (hk : AO P fr ops rest k false ⟨(dd, .h id) :: dropT id st.tm, setR id (.cust (tailC e xs V hV)) (dropH id st.hp)⟩) (hpin : get fr.pin id = none := by rfl) :
    AO P fr ops (⟨some dd, .slice ty x lo none none, t, pos, aft, none⟩ :: rest) k false st :=
  AO.of_run rfl rfl (fun a w ⟨η, φ, hr⟩ => by
    subst hrows
    have ex := hr.ev hx
    simp only [ARel] at ex
    obtain ⟨us, f1, f2, f3, f4⟩ := hr.res id _ hid
    rcases f3.2 with ⟨e0, hn0⟩ | ⟨gb, cap, cur, e0, hb0, hgb, hnc, hcm, hcs, htk⟩
    · simp at hn0
    · simp only [List.length_map, List.length_cons] at hnc htk e0
      have hb := bnds_run (P := P) (w' := w) hr hlo (n := xs.length + 1) (cap := cap) (Bnd.none (st := st) (dflt := xs.length + 1)) (by omega) (by omega) true
      obtain ⟨a', c', hv', hc'⟩ : ∃ a' c', (Instr.sliceAt ty (η id) (lo.map a.eval) (Option.map a.eval none) none).run P w = .ok (.slice a' xs.length c') w ∧ (xs ≠ [] → a' = some ⟨gb, 1, none⟩ ∧ xs.length ≤ c') := by
        by_cases hcap : cap = 1
        · refine ⟨some ⟨gb, 0, none⟩, 0, ?_, fun h => ?_⟩
          · have hx0 : xs = [] := List.eq_nil_of_length_eq_zero (by omega)
            rw [e0, run_sliceAt hs hsz hb]
            simp [add_plain, hcap, hx0]
          · have : 0 < xs.length := List.length_pos_iff.2 h
            omega
        · refine ⟨some ⟨gb, 1, none⟩, cap - 1, ?_, fun _ => ⟨rfl, by omega⟩⟩
          rw [e0, run_sliceAt hs hsz hb]
          simp [add_plain]; omega
      refine ⟨.slice a' xs.length c', w, by simp only [execOp, ex, Sem.run_bind, Option.map_none] at hv' ⊢; rw [hv']; rfl, ?_⟩
      have hd := hr.drop id
      have hg0 : get (dropH id st.hp) id = some (.vec e 1 ((n0 :: xs).map encI)) := by rw [get_dropH, hid]; rfl
      have hF : φ id = [gb] := by rw [f4, e0]; rfl
      have hul : us.length = xs.length + 1 := by rw [f3.1]; simp
      have hch := hd.change id hg0 (.cust (tailC e xs V hV)) (.slice a' xs.length c') [gb] rfl rfl rfl (Nat.le_refl _) (fun _ _ _ => rfl) (fun k hk => ⟨.inl (by rw [hF]; exact hk), hr.lt id _ k hid (by rw [hF]; exact hk)⟩)
        (.inr ⟨freshT_drop id st.tm, fun j r _ hg => by rw [get_dropH] at hg; obtain ⟨r0, _, rfl⟩ := Option.map_eq_some_iff.1 hg; exact Res.drop_names id r0, hpin⟩) (by
          by_cases hne : xs = []
          · exact .inl ⟨⟨a', c', by rw [hne]; rfl⟩, hne⟩
          obtain ⟨ha', hc2⟩ := hc' hne
          refine .inr ⟨gb, c', cur, by rw [ha'], rfl, hgb, hc2, by omega, fun i z hz => ?_⟩
          have hi := lt_of_get hz
          have hus : us[1 + i]? = some (.int .i64 z) := by
            have hl := relL_getElem _ _ (1 + i) (.v (.int .i64 z)) f1 (by
              have hfl : ((n0 :: xs).map encI).flatten = (n0 :: xs).map fun n => PV.v (.int .i64 n) := by
                generalize n0 :: xs = l
                induction l with
                | nil => rfl
                | cons a l ih => simp only [List.map_cons, List.flatten_cons, ih]; rfl
              rw [hfl, List.getElem?_map, Nat.add_comm, List.getElem?_cons_succ, hz]; rfl)
            obtain ⟨u, hu1, hu2⟩ := hl
            simp only [Rel] at hu2; subst hu2; exact hu1
          rw [← htk, List.getElem?_take_of_lt (by omega)] at hus
          simpa using hus)
      exact ⟨_, _, hch.put hlt (av := .h id) (by simp only [ARel]; rw [upd_self])⟩) hk
theorem AC.vecTail (id : Nat) {ty : TypeId} (hg : get st.hp id = some (.vec ty 1 [])) (hk : AC P fr k ⟨st.tm, setR id (.cust (tailC ty [] [] rfl)) st.hp⟩) : AC P fr k st :=
  fun a w ⟨_, _, hr⟩ => hk a w ⟨_, _, hr.recust id hg (by
    obtain ⟨us, _, _, f3, _⟩ := hr.res id _ hg
    rcases f3.2 with ⟨e0, _⟩ | ⟨gb, cap, cur, e0, _⟩
    · exact .inl ⟨⟨_, _, e0⟩, rfl⟩
    · exact .inl ⟨⟨_, _, e0⟩, rfl⟩)⟩
end
theorem tailE {ty : TypeId} {xs ys : List Int} (h : xs = ys) : Res.cust (tailC ty xs (xs.map encI) rfl) = .cust (tailC ty ys (ys.map encI) rfl) := by subst h; rfl
end Go.V
