/- The calculus' rules: literals, slices of slices, bytes and strings, a thing given up. -/
import Derived.Test.YtbbechcbdeknnaaV14
import Derived.Laws.BytesArg
import Derived.Laws.IdiomStrings
import Derived.Great.BuildSlice
import Derived.Laws.PanicsMore
set_option linter.all false
namespace Go.V
open Go Go.RowKit

theorem spl_nil {α : Type} (l : List α) (o : Nat) : spl l o [] = l := by simp [spl]
theorem spl_cons {α : Type} (l : List α) (o : Nat) (v : α) (vs : List α) (h : o < l.length) : spl (l.set o v) (o + 1) vs = spl l o (v :: vs) := by
  have h1 : (l.set o v).take (o + 1) = l.take o ++ [v] := by
    rw [List.take_add_one, List.take_set_of_le (Nat.le_refl _)]
    simp [h]
  have h2 : (l.set o v).drop (o + 1 + vs.length) = l.drop (o + 1 + vs.length) := by
    rw [List.drop_set_of_lt (by omega)]
  unfold spl
  rw [h1, h2, List.append_assoc]
  simp [Nat.add_assoc, Nat.add_comm 1]
theorem foldl_set (off : Nat) : ∀ (vs : List Value) (j0 : Nat) (cs : Array Value), off + j0 + vs.length ≤ cs.size → ((vs.zipIdx j0).foldl (fun cs (x : Value × Nat) => cs.setIfInBounds (off + x.2) x.1) cs).toList = spl cs.toList (off + j0) vs
  | [], j0, cs, _ => by simp [spl_nil]
  | v :: vs, j0, cs, h => by
    simp only [List.length_cons] at h
    rw [List.zipIdx_cons, List.foldl_cons, foldl_set off vs (j0 + 1) _ (by simp; omega)]
    simp only [Array.toList_setIfInBounds]
    rw [show off + (j0 + 1) = off + j0 + 1 by omega, spl_cons _ _ _ _ (by simp; omega)]

section
variable {P : Program} {fr : Fr} {st : St}

/-- A literal's cells. -/
def St.fillA (st : St) (place : Nat → Option (Nat × Nat)) : List AV → List (Nat × Operand) → Option (List AV)
  | cs, [] => some cs
  | cs, (i, x) :: l => match place i with
    | none => none
    | some (off, size) => match st.ev x with
      | none => none
      | some av => match st.cellsOf av with
        | none => none
        | some vs => match Nat.beq vs.length size with
          | false => none
          | true => match Nat.ble (off + vs.length) cs.length with
            | true => St.fillA st place (spl cs off vs) l
            | false => none

theorem fillA_rel {place : Nat → Option (Nat × Nat)} {η : Nat → Value} {φ : Nat → List Nat} {a : Act} {w : World} (hr : RepE fr η φ st a w) : ∀ (l : List (Nat × Operand)) (cs cs' : List AV) (us : Array Value), st.fillA place cs l = some cs' → ARelL η (SOf φ st.hp) w cs us.toList →
    ∃ us', Instr.fill place us (l.map fun (i, x) => (i, a.eval x)) = some us' ∧ ARelL η (SOf φ st.hp) w cs' us'.toList
  | [], cs, cs', us, h, hrel => by
    simp only [St.fillA, Option.some.injEq] at h; subst h
    exact ⟨us, rfl, hrel⟩
  | (i, x) :: l, cs, cs', us, h, hrel => by
    simp only [St.fillA] at h
    cases hp : place i with
    | none => rw [hp] at h; cases h
    | some p =>
      obtain ⟨off, size⟩ := p
      rw [hp] at h
      simp only at h
      cases hx : st.ev x with
      | none => rw [hx] at h; cases h
      | some av =>
        rw [hx] at h
        simp only at h
        cases hc : st.cellsOf av with
        | none => rw [hc] at h; cases h
        | some vs =>
          rw [hc] at h
          simp only at h
          cases hb : Nat.beq vs.length size with
          | false => rw [hb] at h; cases h
          | true =>
            rw [hb] at h
            simp only at h
            cases hb2 : Nat.ble (off + vs.length) cs.length with
            | false => rw [hb2] at h; cases h
            | true =>
              rw [hb2] at h
              simp only at h
              have hv := cellsOf_rel hc hr (hr.ev hx)
              have hvl : (a.eval x).cells.size = vs.length := by have := aRelL_length vs _ hv; simpa using this
              have hcl : us.size = cs.length := by have := aRelL_length cs _ hrel; simpa using this
              have hsz := Nat.eq_of_beq_eq_true hb
              have hle := Nat.le_of_ble_eq_true hb2
              have hset := foldl_set off (a.eval x).cells.toList 0 us (by simp; omega)
              have hfold : ((a.eval x).cells.zipIdx.foldl (fun cs (x : Value × Nat) => cs.setIfInBounds (off + x.2) x.1) us).toList = spl us.toList off (a.eval x).cells.toList := by
                rw [← Array.foldl_toList, Array.toList_zipIdx]; simpa using hset
              obtain ⟨us', g1, g2⟩ := fillA_rel hr l (spl cs off vs) cs' ((a.eval x).cells.zipIdx.foldl (fun cs (x : Value × Nat) => cs.setIfInBounds (off + x.2) x.1) us) h (by rw [hfold]; exact aRelL_spl off hrel hv)
              refine ⟨us', ?_, g2⟩
              simp only [List.map_cons, Instr.fill, hp]
              rw [if_neg (by simp [hvl, hsz, hcl]; omega)]
              exact g1

/-- How a struct literal runs. -/
def BuildIs (P : Program) (ty : TypeId) (pl : List (Nat × Nat)) (z : Value) : Prop :=
  ∀ (ps : Array (Nat × Value)) (cells : Array Value) (w : World), Instr.fill (fun i => pl[i]?) z.cells ps.toList = some cells → (Instr.build ty ps).run P w = .ok (.agg cells) w

variable {d : Option Tmp} {t : TypeId} {pos : String} {aft : Array Edge} {g : Option (Nat × Bool)}

/-- A struct literal. -/
theorem Yld.buildA {ty : TypeId} {l : List (Nat × Operand)} {pl : List (Nat × Nat)} {z : Value} {zs : List PV} {cs : List AV} (hB : BuildIs P ty pl z) (hz : z.cells.toList.map zpv = zs) (hf : st.fillA (fun i => pl[i]?) (zs.map .p) l = some cs) :
    Yld P fr ⟨d, .build ty l.toArray, t, pos, aft, g⟩ st (.agg cs) :=
  Yld.of_run fun η φ A w hr => by
    obtain ⟨us, h1, h2⟩ := fillA_rel hr l (zs.map .p) cs z.cells hf (relL_map zs _ (hz ▸ zpvs_rel _ _ _))
    refine ⟨.agg us, fun w' _ => ?_, by simp only [ARel]; exact ⟨us, rfl, h2⟩⟩
    have e : (l.toArray.map (fun (i, x) => (i, A.eval x))).toList = l.map (fun (i, x) => (i, A.eval x)) := by simp
    simp only [execOp]
    rw [Sem.run_bind, hB _ us w' (by rw [e]; exact h1)]
    rfl

variable {ops : Array Oper} {rest : List Oper} {k : List It}

theorem junkL {η : Nat → Value} {S : Nat → Prop} {w : World} : ∀ us : List Value, ARelL η S w (List.replicate us.length .junk) us
  | [] => by simp [ARelL]
  | u :: us => by
    rw [List.length_cons, List.replicate_succ]
    simp only [ARelL]
    exact ⟨u, us, rfl, by simp only [ARel], junkL us⟩

/-- Rows out of cells. -/
def chunk {α : Type} (rs : Nat) : Nat → List α → List (List α)
  | 0, _ => []
  | n + 1, xs => xs.take rs :: chunk rs n (xs.drop rs)
theorem chunk_spec {α : Type} {rs : Nat} : ∀ (n : Nat) (xs : List α), xs.length = n * rs → (chunk rs n xs).flatten = xs ∧ (chunk rs n xs).length = n ∧ ∀ r ∈ chunk rs n xs, r.length = rs
  | 0, xs, h => by
    have : xs = [] := List.eq_nil_of_length_eq_zero (by simpa using h)
    subst this; simp [chunk]
  | n + 1, xs, h => by
    rw [Nat.add_mul] at h
    obtain ⟨h1, h2, h3⟩ := chunk_spec (rs := rs) n (xs.drop rs) (by rw [List.length_drop]; omega)
    refine ⟨by simp only [chunk, List.flatten_cons, h1, List.take_append_drop], by simp [chunk, h2], fun r hr => ?_⟩
    simp only [chunk, List.mem_cons] at hr
    rcases hr with rfl | hr
    · simp; omega
    · exact h3 r hr

theorem run_buildSlice0 {ty e' : TypeId} {i : TypeInfo} (hs : P.underlying ty = some (.slice e')) (h1 : P.info? e' = some i) (parts : Array (Nat × Value)) (us : Array Value) (w : World) (h : Instr.fill (fun j => some (j * i.size, i.size)) #[] parts.toList = some us) :
    (Instr.buildSlice ty 0 parts).run P w = .ok (.slice (some ⟨w.heap.size, 0, none⟩) 0 0) (w.alloc (.cells us e')) := by
  have h0 : ∀ f : Nat → Value, Array.map f (Array.range 0) = #[] := fun f => by simp
  have h2 : (sizeOf e').run P w = .ok i.size w := by simp [sizeOf, typeInfo, h1]
  have h3 : ∀ (c : Array Value) (els : Sem Value), ((match Instr.fill (fun j => some (j * i.size, i.size)) #[] parts.toList with
    | some cells => Functor.map (fun a => Value.slice (some ⟨a, 0, none⟩) 0 0) (newObj (.cells cells e'))
    | _ => els : Sem Value)).run P w = .ok (.slice (some ⟨w.heap.size, 0, none⟩) 0 0) (w.alloc (.cells us e')) := fun _ _ => by rw [h]; simp
  simp [Instr.buildSlice, run_underlying hs, h2, newRow]
  rw [show (Array.map (fun x => default) (Array.range 0) : Array Value) = #[] from by simp]
  exact h3 #[] _

/-- A slice literal. -/
theorem AO.buildSlice {dd : Nat} {ty e' : TypeId} {n : Nat} {l : List (Nat × Operand)} (id : Nat) {z : Value} {rs bytes : Nat} {cs : List AV} {xs : List PV} {rows : List (List PV)} (hs : P.underlying ty = some (.slice e')) (hi : TyIs P e' z rs bytes) (_hzs : Nat.beq z.cells.size rs = true)
    (hrs : Nat.blt 0 rs = true) (hn : Nat.blt (n * rs) 1000000 = true) (hf : st.fillA (fun i => some (i * rs, rs)) (List.replicate (n * rs) .junk) l = some cs) (hp : pvs cs = some xs) (hxl : Nat.beq xs.length (n * rs) = true) (hch : chunk rs n xs = rows)
    (hfr : st.fresh id = true) (hlt : Nat.blt dd fr.nt = true)
    (hk : AO P fr ops rest k false ⟨(dd, .h id) :: st.tm, (id, .vec e' rs rows) :: st.hp⟩) (hpin : get fr.pin id = none := by rfl) : AO P fr ops (⟨some dd, .buildSlice ty n l.toArray, t, pos, aft, none⟩ :: rest) k false st :=
  AO.of_run rfl rfl (fun a w ⟨η, φ, hr⟩ => by
    obtain ⟨i, h1, h2, h3, h4⟩ := info_parts hi
    obtain ⟨hrows, hnl, hrl⟩ := chunk_spec (rs := rs) n xs (Nat.eq_of_beq_eq_true hxl)
    rw [hch] at hrows hnl hrl
    have hn' : n * rs < 1000000 := Nat.le_of_ble_eq_true hn
    have hrs0 : 0 < rs := Nat.le_of_ble_eq_true hrs
    have hnn : n < 1000000 := by
      have : n * 1 ≤ n * rs := Nat.mul_le_mul_left n hrs0
      omega
    have e : (l.toArray.map (fun (i, x) => (i, a.eval x))).toList = l.map (fun (i, x) => (i, a.eval x)) := by simp
    have main : ∃ us : Array Value, (Instr.buildSlice ty n (l.toArray.map fun (i, x) => (i, a.eval x))).run P w = .ok (.slice (some ⟨w.heap.size, 0, none⟩) n n) (w.alloc (.cells us e')) ∧ ARelL η (SOf φ st.hp) w cs us.toList := by
      rcases Nat.eq_zero_or_pos n with h0 | h0
      · subst h0
        obtain ⟨us, g1, g2⟩ := fillA_rel hr l (List.replicate (0 * rs) .junk) cs #[] hf (by simp [ARelL])
        exact ⟨us, run_buildSlice0 hs h1 _ us w (by rw [h3, e]; exact g1), g2⟩
      · obtain ⟨us, g1, g2⟩ := fillA_rel hr l (List.replicate (n * rs) .junk) cs ((Array.range (n * rs)).map (z.cells[· % z.cells.size]!)) hf (by
          have := junkL (η := η) (S := SOf φ st.hp) (w := w) ((Array.range (n * rs)).map (z.cells[· % z.cells.size]!)).toList
          simpa using this)
        refine ⟨us, ?_, g2⟩
        have hpos : ¬ n * i.size = 0 := by rw [h3]; have := Nat.mul_pos h0 hrs0; omega
        exact run_buildSlice w ty e' n _ us i z hs h1 h2 (by rw [h3]; omega) hpos (by rw [h3, e]; exact g1)
    obtain ⟨us, g1, g2⟩ := main
    have hrel := pvs_rel cs xs _ hp g2
    rw [← hrows] at hrel
    have husl : us.size = n * rs := by
      have := relL_length _ _ hrel
      rw [flatten_length rows hrl, hnl] at this
      simpa using this
    have hb : Below w.heap.size w (w.alloc (.cells us e')) := (Below.refl _ _).alloc (Nat.le_refl _) _
    refine ⟨_, _, by simp only [execOp, Sem.run_bind, g1]; rfl, _, _, hr.addPut hb id hfr (.vec e' rs rows) (.slice (some ⟨w.heap.size, 0, none⟩) n n) [w.heap.size] (by simp) ⟨us.toList, ?_, hrl, ⟨?_, .inr ⟨w.heap.size, n, us, by rw [hnl], Nat.zero_le _, heap_alloc_new w _, by omega, by simp only [maxLen]; omega, husl, ?_⟩⟩, rfl⟩ hlt hpin⟩
    · refine RelL.mono (Same.of_below hb) ?_ _ _ hrel
      rintro k hk ⟨i, r', hg, hm⟩
      rw [get_cons] at hg
      split at hg
      · next e => subst e; rw [upd_self] at hm; simp at hm; omega
      · next e => rw [upd_ne _ _ (fun h => e h.symm)] at hm; exact ⟨i, r', hg, hm⟩
    · simp [husl, hnl]
    · rw [hnl, List.take_of_length_le (by simp [husl])]) hk

/-- A bound of a slice expression. -/
inductive Bnd (st : St) (dflt : Nat) : Option Operand → Nat → Prop
  | none : Bnd st dflt none dflt
  | some {x : Operand} {kk : IntKind} {j : Int} {n : Nat} : st.ev x = some (.p (.v (.int kk j))) → j = (n : Int) → Bnd st dflt (some x) n

theorem bnds_run {lo hi : Option Operand} {l h n cap : Nat} {η : Nat → Value} {φ : Nat → List Nat} {a : Act} {w w' : World} (hr : RepE fr η φ st a w) (hl : Bnd st 0 lo l) (hh : Bnd st n hi h) (h1 : l ≤ h) (h2 : h ≤ cap) (b : Bool) :
    (Instr.sliceBounds b n cap (lo.map a.eval) (hi.map a.eval) none).run P w' = .ok (l, h, cap) w' := by
  cases hl with
  | none =>
    cases hh with
    | none => simp [Instr.sliceBounds]
    | some hx he =>
      have e := hr.ev hx
      simp only [ARel, Rel] at e
      simp [Instr.sliceBounds, e, he, run_sliceBound, h2]
  | some gx ge =>
    have f := hr.ev gx
    simp only [ARel, Rel] at f
    cases hh with
    | none => simp [Instr.sliceBounds, f, ge, run_sliceBound, h1]
    | some hx he =>
      have e := hr.ev hx
      simp only [ARel, Rel] at e
      simp [Instr.sliceBounds, e, he, f, ge, run_sliceBound, h1, h2]

theorem run_sliceAt {ty e : TypeId} (hs : P.underlying ty = some (.slice e)) {rs : Nat} (hsz : ∀ w, (sizeOf e).run P w = .ok rs w) {a : Option Addr} {n cap l h : Nat} {lo hi : Option Value} {w : World} (hb : (Instr.sliceBounds true n cap lo hi none).run P w = .ok (l, h, cap) w) :
    (Instr.sliceAt ty (.slice a n cap) lo hi none).run P w = .ok (.slice (if cap = l then a else a.map (·.add (l * rs))) (h - l) (cap - l)) w := by
  simp [Instr.sliceAt, Instr.slice, run_underlying hs, hb, hsz]

/-- A slice of a slice that is only read. -/
theorem Yld.sliceSl {ty e : TypeId} {x : Operand} {lo hi : Option Operand} {l h rs : Nat} {rows : List (List PV)} (hs : P.underlying ty = some (.slice e)) (hsz : ∀ w, (sizeOf e).run P w = .ok rs w)
    (hx : st.ev x = some (.p (.sl rs rows))) (hl : Bnd st 0 lo l) (hh : Bnd st rows.length hi h) (h1 : l ≤ h) (h2 : h ≤ rows.length) :
    Yld P fr ⟨d, .slice ty x lo hi none, t, pos, aft, g⟩ st (.p (.sl rs ((rows.take h).drop l))) :=
  Yld.of_run fun η φ A w hr => by
    have hrel := hr.ev hx
    simp only [ARel, Rel] at hrel
    obtain ⟨a, cap, e1, e2, e3⟩ := hrel
    refine ⟨.slice (if cap = l then a else a.map (·.add (l * rs))) (h - l) (cap - l), fun w' hw' => ?_, ?_⟩
    · have := run_sliceAt (P := P) hs hsz (a := a) (n := rows.length) (cap := cap) (w := w') (bnds_run hr hl hh h1 (by omega) true)
      simp only [execOp, e1, Sem.run_bind, Option.map_none, this]; rfl
    · simp only [ARel, Rel]
      have hlen : ((rows.take h).drop l).length = h - l := by simp; omega
      refine ⟨_, cap - l, by rw [hlen], by rw [hlen]; omega, ?_⟩
      rcases e3 with e3 | ⟨b, o, rfl, e4, e5, e6⟩
      · subst e3; left; simp
      · by_cases hc : cap = l
        · left
          exact List.eq_nil_of_length_eq_zero (by rw [hlen]; omega)
        · right
          refine ⟨b, o + l * rs, by rw [if_neg hc]; simp [add_plain], e4, e5, ?_⟩
          exact relRows_drop l o _ (relRows_take h o _ e6)

/-- A piece of a string. -/
theorem Yld.sliceStr {ty : TypeId} {x : Operand} {lo hi : Option Operand} {l h : Nat} {s : List UInt8} (hs : P.underlying ty = some .string)
    (hx : st.ev x = some (.p (.v (str s)))) (hl : Bnd st 0 lo l) (hh : Bnd st s.length hi h) (h1 : l ≤ h) (h2 : h ≤ s.length) :
    Yld P fr ⟨d, .slice ty x lo hi none, t, pos, aft, g⟩ st (.p (.v (str ((s.take h).drop l)))) :=
  Yld.of_run fun η φ A w hr => by
    have e := hr.ev hx
    simp only [ARel, Rel] at e
    refine ⟨str ((s.take h).drop l), fun w' hw' => ?_, by simp [ARel, Rel]⟩
    have hsz : (ByteArray.mk s.toArray).size = s.length := by simp [ByteArray.size]
    have hb := bnds_run (P := P) (w' := w') hr hl (n := s.length) (cap := s.length) hh h1 h2 false
    have : (Instr.sliceAt ty (A.eval x) (lo.map A.eval) (hi.map A.eval) none).run P w' = .ok (str ((s.take h).drop l)) w' := by
      rw [e]
      simp only [str, Instr.sliceAt, Instr.slice, Sem.run_bind, run_underlying hs, Result.andThen_ok, hsz, Option.isSome_none]
      have hx : (ByteArray.mk s.toArray).extract l h = ⟨((s.take h).drop l).toArray⟩ := by
        apply ByteArray.ext
        simp [ByteArray.data_extract, List.drop_take]
      simp only [Bool.false_eq_true, if_false, Sem.run_bind, Sem.run_pure]
      rw [hb]
      simp [hx]
    simp only [execOp, Sem.run_bind, Option.map_none, this]; rfl

/-- The bytes of a slice, as a string. -/
def encB (c : UInt8) : List PV := [.v (.int .u8 c.toNat)]
theorem Yld.convBytes {src dst e : TypeId} {x : Operand} {av : AV} {l : List UInt8} (hs : P.underlying src = some (.slice e)) (he : P.underlying e = some (.int .u8)) (hd : P.underlying dst = some .string) (hx : st.ev x = some av) (hv : st.view av = some (.sl 1 (l.map encB))) :
    Yld P fr ⟨d, .convert src dst x, t, pos, aft, g⟩ st (.p (.v (str l))) :=
  Yld.of_run fun η φ A w hr => by
    refine ⟨str l, fun w' hw' => ?_, by simp [ARel, Rel]⟩
    have hrel := view_rel hv (hr.below hw') ((hr.below hw').ev hx)
    simp only [Rel, List.length_map] at hrel
    obtain ⟨a, cap, e1, e2, e3⟩ := hrel
    have : (convert src dst (A.eval x)).run P w' = .ok (str l) w' := by
      rw [e1]
      rcases e3 with e3 | ⟨b, o, rfl, _, e5, e6⟩
      · have : l = [] := by simpa using e3
        subst this
        cases a with
        | none => exact run_convert_bytes_nil w' src e hs he _ _ dst hd
        | some a => exact run_convert_bytes_back w' src dst e a cap [] hs he hd (fun j hj => by simp at hj)
      · refine run_convert_bytes_back w' src dst e ⟨b, o, none⟩ cap l hs he hd (fun j hj => ?_)
        have hrow := relRows_getElem o _ j (encB l[j]) e6 (by simp [List.getElem?_eq_getElem hj])
        obtain ⟨⟨u, f1, f2⟩, _⟩ := hrow.2
        simp only [Rel] at f2
        rw [add_plain]
        simp only [Nat.mul_one] at f1
        rw [f1, f2]
    simp only [execOp, Sem.run_bind, this]; rfl

/-! A thing of one's own that is given up: from then on it is only read. -/
mutual
def AV.subst (id : Nat) (x : PV) : AV → AV
  | .h i => match Nat.beq i id with
    | true => .p x
    | false => .h i
  | .el i rs row off => match Nat.beq i id with
    | true => .junk
    | false => .el i rs row off
  | .agg cs => .agg (AV.substL id x cs)
  | .tup cs => .tup (AV.substL id x cs)
  | .clo f cs => .clo f (AV.substL id x cs)
  | .p y => .p y
  | .junk => .junk
def AV.substL (id : Nat) (x : PV) : List AV → List AV
  | [] => []
  | c :: cs => c.subst id x :: AV.substL id x cs
end
def substT (id : Nat) (x : PV) : List (Nat × AV) → List (Nat × AV)
  | [] => []
  | (i, a) :: l => (i, a.subst id x) :: substT id x l
def Res.subst (id : Nat) (x : PV) : Res → Res
  | .box ty cs => .box ty (AV.substL id x cs)
  | .vec ty rs rows => .vec ty rs rows
  | .cust C => .cust C
def substH (id : Nat) (x : PV) : List (Nat × Res) → List (Nat × Res)
  | [] => []
  | (j, r) :: l => match Nat.beq j id with
    | true => substH id x l
    | false => (j, r.subst id x) :: substH id x l
theorem get_substT (id : Nat) (x : PV) : ∀ l i, get (substT id x l) i = (get l i).map (AV.subst id x)
  | [], _ => rfl
  | (j, a) :: l, i => by
    simp only [substT, get_cons, get_substT id x l i]
    split <;> rfl
theorem get_substH (id : Nat) (x : PV) : ∀ l i, get (substH id x l) i = if i = id then none else (get l i).map (Res.subst id x)
  | [], i => by simp [substH, get]
  | (j, a) :: l, i => by
    simp only [substH]
    by_cases hj : j = id
    · subst hj
      have : Nat.beq j j = true := by simp
      rw [this]
      simp only [get_cons, get_substH j x l i]
      by_cases hi : i = j
      · rw [if_pos hi, if_pos hi]
      · rw [if_neg hi, if_neg hi, if_neg (fun e => hi e.symm)]
    · rw [beq_false hj]
      simp only [get_cons, get_substH id x l i]
      by_cases hi : j = i
      · subst hi; rw [if_pos rfl, if_neg hj, if_pos rfl]; rfl
      · rw [if_neg hi, if_neg hi]
mutual
theorem ARel.subst {η : Nat → Value} {S S' : Nat → Prop} {w : World} {id : Nat} {x : PV} (hS : ∀ k, S' k → S k) (hx : Rel S' w x (η id)) : ∀ (a : AV) (u : Value), ARel η S w a u → ARel η S' w (a.subst id x) u
  | .p y, u, h => by simp only [ARel, AV.subst] at h ⊢; exact Rel.mono ⟨Nat.le_refl _, fun _ _ _ => rfl⟩ (fun k _ h => hS k h) y u h
  | .h i, u, h => by
    simp only [ARel, AV.subst] at h ⊢
    by_cases e : i = id
    · subst e
      have : Nat.beq i i = true := by simp
      rw [this]; simp only [ARel]; rw [h]; exact hx
    · rw [beq_false e]; simp only [ARel]; exact h
  | .el i rs row off, u, h => by
    simp only [AV.subst]
    by_cases e : i = id
    · subst e
      have : Nat.beq i i = true := by simp
      rw [this]; simp only [ARel]
    · rw [beq_false e]; simpa only [ARel] using h
  | .agg cs, u, h => by
    simp only [ARel, AV.subst] at h ⊢
    obtain ⟨us, h1, h2⟩ := h
    exact ⟨us, h1, ARelL.subst hS hx cs us.toList h2⟩
  | .tup cs, u, h => by
    simp only [ARel, AV.subst] at h ⊢
    obtain ⟨us, h1, h2⟩ := h
    exact ⟨us, h1, ARelL.subst hS hx cs us.toList h2⟩
  | .clo f cs, u, h => by
    simp only [ARel, AV.subst] at h ⊢
    obtain ⟨us, h1, h2⟩ := h
    exact ⟨us, h1, ARelL.subst hS hx cs us.toList h2⟩
  | .junk, _, _ => by simp only [ARel, AV.subst]
theorem ARelL.subst {η : Nat → Value} {S S' : Nat → Prop} {w : World} {id : Nat} {x : PV} (hS : ∀ k, S' k → S k) (hx : Rel S' w x (η id)) : ∀ (cs : List AV) (us : List Value), ARelL η S w cs us → ARelL η S' w (AV.substL id x cs) us
  | [], _, h => by simpa only [ARelL, AV.substL] using h
  | c :: cs, us, h => by
    simp only [ARelL, AV.substL] at h ⊢
    obtain ⟨u, us', h1, h2, h3⟩ := h
    exact ⟨u, us', h1, ARel.subst hS hx c u h2, ARelL.subst hS hx cs us' h3⟩
end

theorem RepE.freeze {η : Nat → Value} {φ : Nat → List Nat} {a : Act} {w : World} (hr : RepE fr η φ st a w) (id : Nat) {ty : TypeId} {rs : Nat} {rows : List (List PV)} (hg : get st.hp id = some (.vec ty rs rows)) :
    RepE fr η φ ⟨substT id (.sl rs rows) st.tm, substH id (.sl rs rows) st.hp⟩ a w := by
  have hget : ∀ i r, get (substH id (.sl rs rows) st.hp) i = some r → i ≠ id ∧ ∃ r0, get st.hp i = some r0 ∧ r = r0.subst id (.sl rs rows) := by
    intro i r h
    rw [get_substH] at h
    split at h
    · cases h
    · next e => obtain ⟨r0, h1, rfl⟩ := Option.map_eq_some_iff.1 h; exact ⟨e, r0, h1, rfl⟩
  have hS : ∀ k, SOf φ (substH id (.sl rs rows) st.hp) k → SOf φ st.hp k := by
    rintro k ⟨i, r, h1, h2⟩
    obtain ⟨_, r0, h3, _⟩ := hget i r h1
    exact ⟨i, r0, h3, h2⟩
  have hx : Rel (SOf φ (substH id (.sl rs rows) st.hp)) w (.sl rs rows) (η id) := by
    refine vec_viewS hr hg hS ?_
    rintro k ⟨i, r, h1, h2⟩ h3
    obtain ⟨hne, r0, h4, _⟩ := hget i r h1
    exact hne (hr.disj i id r0 _ k h4 hg h2 h3)
  refine ⟨hr.defers, hr.size, ?_, ?_, ?_, ?_, ?_, hr.keep, hr.pin⟩
  · intro i av h
    rw [get_substT] at h
    obtain ⟨a0, h1, rfl⟩ := Option.map_eq_some_iff.1 h
    obtain ⟨u, h2, h3⟩ := hr.slots i a0 h1
    exact ⟨u, h2, ARel.subst hS hx a0 u h3⟩
  · intro i r h
    obtain ⟨hne, r0, h1, rfl⟩ := hget i r h
    have hres := hr.res i r0 h1
    cases r0 with
    | box ty cs =>
      obtain ⟨b, arr, e1, e2, e3, e4⟩ := hres
      exact ⟨b, arr, e1, e2, e3, ARelL.subst hS hx cs _ e4⟩
    | vec ty rs rows =>
      exact RRes.mono ⟨Nat.le_refl _, fun _ _ _ => rfl⟩ (fun k _ h => hS k h) (fun _ _ => rfl) (.vec ty rs rows) (fun _ _ => rfl) hres
    | cust C => exact RRes.mono ⟨Nat.le_refl _, fun _ _ _ => rfl⟩ (fun k _ h => hS k h) (fun _ _ => rfl) (.cust C) (fun _ _ => rfl) hres
  · intro i j r r' k h1 h2
    obtain ⟨_, r0, h3, _⟩ := hget i r h1
    obtain ⟨_, r1, h4, _⟩ := hget j r' h2
    exact hr.disj i j r0 r1 k h3 h4
  · intro i r k h1
    obtain ⟨_, r0, h3, _⟩ := hget i r h1
    exact hr.low i r0 k h3
  · intro i r k h1
    obtain ⟨_, r0, h3, _⟩ := hget i r h1
    exact hr.lt i r0 k h3
theorem AC.freeze (id : Nat) {ty : TypeId} {rs : Nat} {rows : List (List PV)} (hg : get st.hp id = some (.vec ty rs rows)) (hk : AC P fr k ⟨substT id (.sl rs rows) st.tm, substH id (.sl rs rows) st.hp⟩) : AC P fr k st :=
  fun a w ⟨_, _, hr⟩ => hk a w ⟨_, _, hr.freeze id hg⟩
theorem AO.freeze (id : Nat) {ty : TypeId} {rs : Nat} {rows : List (List PV)} (hg : get st.hp id = some (.vec ty rs rows)) (hk : AO P fr ops rest k false ⟨substT id (.sl rs rows) st.tm, substH id (.sl rs rows) st.hp⟩) : AO P fr ops rest k false st :=
  fun a w ⟨_, _, hr⟩ => hk a w ⟨_, _, hr.freeze id hg⟩

/-- A slice of one's own is made shorter. -/
theorem AO.truncate {dd : Nat} {ty e : TypeId} {x : Operand} (id : Nat) {hi : Option Operand} {h rs : Nat} {rows : List (List PV)} (hs : P.underlying ty = some (.slice e)) (hsz : ∀ w, (sizeOf e).run P w = .ok rs w)
    (hx : st.ev x = some (.h id)) (hid : get st.hp id = some (.vec e rs rows)) (hh : Bnd st rows.length hi h) (h2 : h ≤ rows.length) (hlt : Nat.blt dd fr.nt = true)
    (hk : AO P fr ops rest k false ⟨(dd, .h id) :: dropT id st.tm, setR id (.vec e rs (rows.take h)) (dropH id st.hp)⟩) (hpin : get fr.pin id = none := by rfl) :
    AO P fr ops (⟨some dd, .slice ty x none hi none, t, pos, aft, none⟩ :: rest) k false st :=
  AO.of_run rfl rfl (fun a w ⟨η, φ, hr⟩ => by
    have ex := hr.ev hx
    simp only [ARel] at ex
    obtain ⟨xs, f1, f2, f3, f4⟩ := hr.res id _ hid
    have hrow : (rows.take h).length = h := by simp; omega
    have hflat : (rows.take h).flatten = rows.flatten.take (h * rs) := by
      have : ∀ (rows : List (List PV)) (h : Nat), (∀ r ∈ rows, r.length = rs) → h ≤ rows.length → (rows.take h).flatten = rows.flatten.take (h * rs) := by
        intro rows
        induction rows with
        | nil => intro h _ _; simp
        | cons r rows ih =>
          intro h hl hh
          cases h with
          | zero => simp
          | succ h =>
            have hr0 := hl r (by simp)
            simp only [List.take_succ_cons, List.flatten_cons]
            rw [ih h (fun q hq => hl q (by simp [hq])) (by simpa using hh), show (h + 1) * rs = r.length + h * rs by rw [hr0, Nat.add_mul]; omega, List.take_length_add_append]
      exact this rows h f2 h2
    have main : ∃ v', (Instr.sliceAt ty (η id) (Option.map a.eval none) (hi.map a.eval) none).run P w = .ok v' w ∧ w.ownsRow 0 e rs v' h (xs.take (h * rs)) ∧ v'.ownBlock = (η id).ownBlock := by
      rcases f3.2 with ⟨e0, hn0⟩ | ⟨gb, cap, cur, e0, hb0, hgb, hnc, hcm, hcs, htk⟩
      · have hh0 : h = 0 := by omega
        subst hh0
        have hb := bnds_run (P := P) (w' := w) hr (Bnd.none (st := st) (dflt := 0)) (n := rows.length) (cap := 0) hh (Nat.le_refl _) (by omega) true
        rw [hn0] at hb
        refine ⟨.slice none 0 0, ?_, by simpa using World.ownsRow_nil w 0 e rs, by rw [e0]⟩
        rw [e0]
        rw [run_sliceAt hs hsz hb]
        simp
      · have hb := bnds_run (P := P) (w' := w) hr (Bnd.none (st := st) (dflt := 0)) (n := rows.length) (cap := cap) hh (Nat.zero_le _) (by omega) true
        refine ⟨.slice (some ⟨gb, 0, none⟩) h cap, ?_, ⟨?_, .inr ⟨gb, cap, cur, rfl, hb0, hgb, by omega, hcm, hcs, ?_⟩⟩, by rw [e0]; rfl⟩
        · rw [e0, run_sliceAt hs hsz hb]
          simp [add_plain]
        · rw [List.length_take, f3.1, Nat.min_eq_left (Nat.mul_le_mul_right _ h2)]
        · rw [← htk, List.take_take, Nat.min_eq_left (Nat.mul_le_mul_right _ h2)]
    obtain ⟨v', g1, g2, g3⟩ := main
    refine ⟨v', w, by simp only [execOp, ex, Sem.run_bind, Option.map_none] at g1 ⊢; rw [g1]; rfl, ?_⟩
    have hd := hr.drop id
    have hg0 : get (dropH id st.hp) id = some (.vec e rs rows) := by rw [get_dropH, hid]; rfl
    have hch := hd.change id hg0 (.vec e rs (rows.take h)) v' v'.ownBlock.toList rfl rfl rfl (Nat.le_refl _) (fun _ _ _ => rfl) (fun k hk => by rw [g3, ← f4] at hk; exact ⟨.inl hk, hr.lt id _ k hid hk⟩)
      (.inr ⟨freshT_drop id st.tm, fun j r _ hg => by rw [get_dropH] at hg; obtain ⟨r0, _, rfl⟩ := Option.map_eq_some_iff.1 hg; exact Res.drop_names id r0, hpin⟩) (by
        have hS : ∀ k, k < w.heap.size → SOf (upd φ id v'.ownBlock.toList) (setR id (.vec e rs (rows.take h)) (dropH id st.hp)) k → SOf φ st.hp k := by
          rintro k hk ⟨i, r', hg, hm⟩
          rw [get_setR id _ _ _ hg0] at hg
          by_cases e1 : i = id
          · subst e1; rw [upd_self, g3, ← f4] at hm; exact ⟨i, _, hid, hm⟩
          · rw [if_neg e1, get_dropH] at hg
            obtain ⟨r0, h0, _⟩ := Option.map_eq_some_iff.1 hg
            rw [upd_ne _ _ e1] at hm; exact ⟨i, r0, h0, hm⟩
        refine ⟨xs.take (h * rs), ?_, fun r hr' => f2 r (List.mem_of_mem_take hr'), by rw [hrow]; exact g2, rfl⟩
        rw [hflat]
        exact RelL.mono (S := SOf φ st.hp) ⟨Nat.le_refl _, fun _ _ _ => rfl⟩ hS _ _ (relL_take _ _ _ f1))
    exact ⟨_, _, hch.put hlt (av := .h id) (by simp only [ARel]; rw [upd_self])⟩) hk

end
end Go.V
