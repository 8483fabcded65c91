/- The calculus' rules: nil slices, and append of what make would make. -/
import Derived.Test.YtdpanmnnfamfmaaV22
import Derived.Lib.AppendZeros
set_option linter.all false
namespace Go.V
open Go Go.RowKit
section
variable {P : Program} {fr : Fr} {st : St} {d : Option Tmp} {t : TypeId} {pos : String} {aft : Array Edge} {g : Option (Nat × Bool)}
theorem Yld.lenNil {ty : TypeId} {x : Operand} {e : TypeId} (hs : P.underlying ty = some (.slice e)) (hx : st.ev x = some (.p (.v (.slice none 0 0)))) :
    Yld P fr ⟨d, .call { callee := .builtin .len, args := #[x], argTypes := #[ty] }, t, pos, aft, g⟩ st (.p (.v (.int .i64 0))) :=
  Yld.of_run fun _ _ A w hr => by
    have h1 := hr.ev hx
    simp only [ARel, Rel] at h1
    exact ⟨.int .i64 0, fun w' hw' => by simp [execOp, resolve, invoke, builtin, h1, Builtin.len_, run_underlying hs, goInt], by simp [ARel, Rel]⟩
theorem Yld.capNil {ty : TypeId} {x : Operand} {e : TypeId} (hs : P.underlying ty = some (.slice e)) (hx : st.ev x = some (.p (.v (.slice none 0 0)))) :
    Yld P fr ⟨d, .call { callee := .builtin .cap, args := #[x], argTypes := #[ty] }, t, pos, aft, g⟩ st (.p (.v (.int .i64 0))) :=
  Yld.of_run fun _ _ A w hr => by
    have h1 := hr.ev hx
    simp only [ARel, Rel] at h1
    exact ⟨.int .i64 0, fun w' hw' => by simp [execOp, resolve, invoke, builtin, h1, Builtin.cap_, run_underlying hs, goInt], by simp [ARel, Rel]⟩
theorem Yld.sliceNil {ty : TypeId} {x y : Operand} {e : TypeId} {rs : Nat} (hs : P.underlying ty = some (.slice e)) (hsz : ∀ w, (sizeOf e).run P w = .ok rs w) (hx : st.ev x = some (.p (.v (.slice none 0 0)))) (hy : st.ev y = some (.p (.v (.int .i64 0)))) :
    Yld P fr ⟨d, .slice ty x none (some y) none, t, pos, aft, g⟩ st (.p (.v (.slice none 0 0))) :=
  Yld.of_run fun η φ A w hr => by
    have h1 := hr.ev hx
    simp only [ARel, Rel] at h1
    refine ⟨.slice none 0 0, fun w' hw' => ?_, by simp [ARel, Rel]⟩
    have hb := bnds_run (P := P) (fr := fr) (st := st) (a := A) (w' := w') (lo := none) (hi := some y) (l := 0) (h := 0) (n := 0) (cap := 0) hr .none (.some hy (by rfl)) (Nat.le_refl _) (Nat.le_refl _) true
    have := run_sliceAt (P := P) hs hsz (a := none) (n := 0) (cap := 0) (w := w') hb
    simp only [Option.map_none] at this
    simp only [execOp, h1, Sem.run_bind, Option.map_none, this]; simp
end
section
variable {P : Program} {fr : Fr} {ops : Array Oper} {rest : List Oper} {k : List It} {st : St} {d : Nat} {t : TypeId} {pos : String} {aft : Array Edge}
theorem exec_append2 {A : Act} {x y : Operand} {ty ty' tr : TypeId} {g : Option (Nat × Bool)} {w w' : World} {v' : Value} (h : (Builtin.append_ #[ty, ty'] tr #[A.eval x, A.eval y]).run P w = .ok v' w') :
    (execOp A.eval ⟨some d, .call { callee := .builtin .append, args := #[x, y], argTypes := #[ty, ty'] }, tr, pos, aft, g⟩).run P w = .ok (.value v') w' := by
  have key : ∀ cs, (builtin .append #[ty, ty'] tr cs #[A.eval x, A.eval y]).run P w = .ok (.value v') w' := by
    intro cs
    simp only [builtin, Sem.run_bind, h]; rfl
  simp [execOp, resolve, invoke, key]
/-- append(nil, make([]E, n)...). -/
theorem AO.appendMake {ty tn e : TypeId} {x y : Operand} {n : Nat} {kk kn : IntKind} (id : Nat) {z : Value} {rs bytes : Nat} {row : List PV} (hs : P.underlying ty = some (.slice e)) (htn : P.underlying tn = some (.int kn)) (hi : TyIs P e z rs bytes) (hz : z.cells.toList.map zpv = row)
    (hrow : Nat.beq row.length rs = true) (hrs : Nat.blt 0 rs = true) (hx : st.ev x = some (.p (.v (.slice none 0 0)))) (hy : st.ev y = some (.p (.v (.int kk n)))) (h0 : 0 < n) (hb : n * bytes ≤ 281474976710656) (hm : n ≤ 4611686018427387904)
    (hf : st.fresh id = true) (hlt : Nat.blt d fr.nt = true)
    (hk : AO P fr ops rest k false ⟨(d, .h id) :: st.tm, (id, .vec e rs (List.replicate n row)) :: st.hp⟩) (hpin : get fr.pin id = none := by rfl) : AO P fr ops (⟨some d, .call { callee := .builtin .append, args := #[x, y], argTypes := #[ty, tn] }, t, pos, aft, none⟩ :: rest) k false st :=
  AO.of_run rfl rfl (fun a w ⟨η, φ, hr⟩ => by
    obtain ⟨i, h1, h2, h3, h4⟩ := info_parts hi
    have e1 := hr.ev hx
    have e2 := hr.ev hy
    simp only [ARel, Rel] at e1 e2
    have hrs0 : 0 < rs := Nat.le_of_ble_eq_true hrs
    have hrun := Lib.run_append_nil_zeros (P := P) w ty tn t e i z kk kn hs htn h1 h2 n h0 (by omega) (by omega) (by rw [h4]; exact hb)
    have hm' : n ≤ maxLen := by simp only [maxLen]; omega
    have hzs : z.cells.size = rs := by
      have := congrArg List.length hz
      simp only [List.length_map, Array.length_toList] at this
      rw [this]; exact Nat.eq_of_beq_eq_true hrow
    have hge := grownCap_ge w n 0 e
    have hbw : Below w.heap.size w (w.drew.alloc (.cells (Builtin.zeroCells z.cells n ++ Builtin.zeroCells z.cells (grownCap w n 0 e - n)) e)) := (Below.drew (Below.refl _ _)).alloc (Nat.le_refl _) _
    refine ⟨_, _, exec_append2 (by rw [e1, e2]; exact hrun), _, _, hr.addPut hbw id hf (.vec e rs (List.replicate n row)) _ [w.heap.size] (by simp)
      ⟨(List.replicate n z.cells.toList).flatten, ?_, ?_, ⟨?_, .inr ⟨w.heap.size, grownCap w n 0 e, _, ?_, Nat.zero_le _, heap_alloc_new w.drew _, ?_, ?_, ?_, ?_⟩⟩, ?_⟩ hlt hpin⟩
    · exact relL_replicate (hz ▸ zpvs_rel _ _ _) n
    · intro r hr'; rw [List.eq_of_mem_replicate hr']; exact Nat.eq_of_beq_eq_true hrow
    · rw [flatten_length (rs := rs) _ (fun r hr' => by rw [List.eq_of_mem_replicate hr']; simpa using hzs)]; simp
    · simp
    · simpa using hge
    · exact grownCap_le_maxLen w n 0 e hm'
    · simp only [Array.size_append, size_zeroCells, hzs, ← Nat.add_mul]
      congr 1; omega
    · have hmk : (Builtin.zeroCells z.cells n).toList = (List.replicate n z.cells.toList).flatten := mod_list (z := z.cells) (by rw [hzs]; exact hrs0) n
      have hl9 : ((List.replicate n z.cells.toList).flatten).length = n * rs := by rw [flatten_length (rs := rs) _ (fun r hr' => by rw [List.eq_of_mem_replicate hr']; simpa using hzs)]; simp
      simp only [List.length_replicate, Array.toList_append, hmk]
      rw [← hl9]; exact List.take_left
    · rfl) hk
end
end Go.V
