/- The library's iterator over a slice from its end. -/
import Derived.Test.YtdpanmnnfamfmaaV30
import Derived.Test.YtdpanmnnfamfmaaProg
set_option linter.all false
namespace Go.Proofs.Ytdpanmnnfamfmaa
open Go Go.V Go.RowKit Go.Shelf
attribute [local go_sem] Oper.semAt_some
def sesV (x : Session) : Value := .agg #[.int .i64 x.day, .int .i64 x.turn, .int .i64 x.lift, .int .i64 x.error]
structure SesAt (n₀ : Nat) (W : World) (b o : Nat) (x : Session) : Prop where
  c0 : W.cell? ⟨b, o, none⟩ = some (.int .i64 x.day)
  c1 : W.cell? ⟨b, o + 1, none⟩ = some (.int .i64 x.turn)
  c2 : W.cell? ⟨b, o + 2, none⟩ = some (.int .i64 x.lift)
  c3 : W.cell? ⟨b, o + 3, none⟩ = some (.int .i64 x.error)
theorem SesAt.below {n₀ : Nat} {A B : World} {b o : Nat} {x : Session} (hb : b < n₀) (h : Below n₀ A B) (hs : SesAt n₀ A b o x) : SesAt n₀ B b o x :=
  ⟨(h.cell (p := ⟨b, o, none⟩) hb).trans hs.c0, (h.cell (p := ⟨b, o + 1, none⟩) hb).trans hs.c1, (h.cell (p := ⟨b, o + 2, none⟩) hb).trans hs.c2, (h.cell (p := ⟨b, o + 3, none⟩) hb).trans hs.c3⟩
def bf (zs : List Session) (j : Nat) : Nat × Session := (zs.length - 1 - j, zs[zs.length - 1 - j]?.getD ⟨0, 0, 0, 0⟩)
def backTo (zs : List Session) (k : Nat) : List (Nat × Session) := (List.range k).map (bf zs)
theorem backTo_succ {zs : List Session} {k : Nat} {x : Session} (hx : zs[zs.length - 1 - k]? = some x) : backTo zs (k + 1) = backTo zs k ++ [(zs.length - 1 - k, x)] := by
  simp [backTo, List.range_succ, bf, hx]
theorem backTo_len (zs : List Session) (k : Nat) : (backTo zs k).length = k := by simp [backTo]
def encBk (x : Nat × Session) : Array Value := #[.int .i64 (x.1 : Int), sesV x.2]
set_option maxHeartbeats 1000000 in
theorem back_in (F : Fence) (n : Nat) (h5 : F.fn 41) (hro : F.round = none) (a : Option Addr) (len cap : Nat) (w : World) :
    CallsIn F n Try.prog 41 #[.slice a len cap] w fun e w' => e = .returned (.func (.func 69) #[] #[.pointer (some ⟨w.heap.size, 0, none⟩)]) ∧ w' = w.alloc (.cells #[.slice a len cap] 26) := by
  refine callsIn_of_wp Try.func41 rfl h5 ?_ hro
  simp only [Try.ntmps41, List.size_toArray, List.length_cons, List.length_nil, Nat.reduceAdd, Nat.reduceSub, Array.replicate_succ, Array.replicate_zero, List.push_toArray, List.append_toArray, List.nil_append, List.cons_append]
  gi_wp2
  go_ret
  exact ⟨rfl, rfl⟩
set_option maxRecDepth 100000 in
set_option maxHeartbeats 2000000 in
theorem back1_in (F : Fence) (n : Nat) (h7 : F.fn 69) (hro : F.round = none) (hn : 1 ≤ n) (l Bs n₀ b off cap : Nat) (zs : List Session) (hreach : zs.length ≤ 1048576) (hb : b < n₀) (J Jx : List (Nat × Session) → World → Prop)
    (hY : ∀ pre x W, J pre W → pre.length < zs.length → YieldAt F (n - 1) Try.prog l (encBk x) W fun e W' =>
      (e = .returned (.bool true) ∧ J (pre ++ [x]) W' ∧ Below n₀ W W') ∨ (e = .returned (.bool false) ∧ Jx (pre ++ [x]) W'))
    (W : World) (hBs : W.cell? ⟨Bs, 0, none⟩ = some (.slice (some ⟨b, off, none⟩) zs.length cap)) (hBn : Bs < n₀) (hc : ∀ (j : Nat) x, zs[j]? = some x → SesAt n₀ W b (off + j * 4) x) (h0 : J [] W) :
    CallsIn F n Try.prog 69 #[.func (.yield l) #[] #[], .pointer (some ⟨Bs, 0, none⟩)] W fun e W' => (∃ v, e = .returned v) ∧
      ((∃ ys, ys = backTo zs zs.length ∧ J ys W') ∨ (∃ pre, (∃ k, k ≤ zs.length ∧ pre = backTo zs k) ∧ Jx pre W')) := by
  refine callsIn_of_wp Try.func69 rfl h7 ?_ hro
  simp only [Try.ntmps69, List.size_toArray, List.length_cons, List.length_nil, Nat.reduceAdd, Nat.reduceSub, Array.replicate_succ, Array.replicate_zero, List.push_toArray, List.append_toArray, List.nil_append, List.cons_append]
  gi_wp2
  gi_loopw [3] (fun i wr => ∃ k : Nat, k ≤ zs.length ∧ i = .int .i64 ((zs.length : Int) - 1 - k) ∧ J (backTo zs k) wr ∧ Below n₀ W wr)
    (fun i _ => (intOf i + 1).toNat)
  case atStart => exact ⟨0, Nat.zero_le _, by simp, h0, Below.refl _ _⟩
  case round =>
    obtain ⟨k, hk, rfl, hJs, hnx⟩ := hrel
    by_cases hlt : k < zs.length
    · obtain ⟨x, hx⟩ := get_some (xs := zs) (k := zs.length - 1 - k) (by omega)
      have hse := (hc _ x hx).below hb hnx
      have hBs2 := (hnx.cell (p := ⟨Bs, 0, none⟩) hBn).trans hBs
      obtain ⟨fn, tmps, assign, body, hy, hR⟩ := hY _ (zs.length - 1 - k, x) wr hJs (by rw [backTo_len]; exact hlt)
      unfold encBk sesV at hy
      dsimp only at hy
      obtain ⟨i, hi⟩ : ∃ i : Nat, (zs.length : Int) - 1 - k = i := ⟨zs.length - 1 - k, by omega⟩
      have hi2 : zs.length - 1 - k = i := by omega
      have hil : i < zs.length := by omega
      rw [hi2] at hse
      rw [hi2] at hy
      rw [hi]
      obtain ⟨s0, s1, s2, s3⟩ := hse
      gi_wp2
      refine hR.mono ?_
      rintro e W3 (⟨rfl, hJ3, hk3⟩ | ⟨rfl, hJx3⟩)
      · gi_wp2
        go_roundw
        case rel => exact ⟨k + 1, by omega, by rw [show (zs.length : Int) - 1 - ((k + 1 : Nat) : Int) = (i : Int) - 1 by omega], by rw [backTo_succ hx]; exact hJ3, hnx.trans hk3⟩
        case measure => simp [intOf]
      · gi_wp2
        refine bodyPost_ret (results_none rfl _ _ _) rfl ?_
        exact ⟨⟨_, rfl⟩, .inr ⟨_, ⟨k + 1, by omega, (backTo_succ hx).symm⟩, hJx3⟩⟩
    · obtain rfl : k = zs.length := by omega
      gi_wp2
      go_end0
      exact ⟨⟨_, rfl⟩, .inl ⟨_, rfl, hJs⟩⟩
set_option maxRecDepth 100000 in
set_option maxHeartbeats 1000000 in
theorem back1_nil_in (F : Fence) (n : Nat) (h7 : F.fn 69) (hro : F.round = none) (l Bs cap : Nat) (J : List (Nat × Session) → World → Prop) (W : World) (a : Option Addr) (hBs : W.cell? ⟨Bs, 0, none⟩ = some (.slice a 0 cap)) (h0 : J [] W) :
    CallsIn F n Try.prog 69 #[.func (.yield l) #[] #[], .pointer (some ⟨Bs, 0, none⟩)] W fun e W' => (∃ v, e = .returned v) ∧ J [] W' := by
  refine callsIn_of_wp Try.func69 rfl h7 ?_ hro
  simp only [Try.ntmps69, List.size_toArray, List.length_cons, List.length_nil, Nat.reduceAdd, Nat.reduceSub, Array.replicate_succ, Array.replicate_zero, List.push_toArray, List.append_toArray, List.nil_append, List.cons_append]
  gi_wp2
  gi_loopw [3] (fun i wr => i = .int .i64 (-1) ∧ J [] wr) (fun _ _ => 0)
  case atStart => exact ⟨by simp, h0⟩
  case round =>
    obtain ⟨rfl, hJs⟩ := hrel
    gi_wp2
    go_end0
    exact ⟨⟨_, rfl⟩, hJs⟩
/-- The slice value holds these sessions, in a block below n₀; or there are none. -/
def SesIn (n₀ : Nat) (W : World) (sv : Value) (zs : List Session) : Prop :=
  (∃ a cap, sv = .slice a 0 cap ∧ zs = []) ∨ ∃ b off cap, sv = .slice (some ⟨b, off, none⟩) zs.length cap ∧ b < n₀ ∧ ∀ (j : Nat) x, zs[j]? = some x → SesAt n₀ W b (off + j * 4) x
theorem SesIn.below {n₀ : Nat} {A B : World} (h : Below n₀ A B) {sv : Value} {zs : List Session} : SesIn n₀ A sv zs → SesIn n₀ B sv zs
  | .inl e => .inl e
  | .inr ⟨b, off, cap, e, hb, hc⟩ => .inr ⟨b, off, cap, e, hb, fun j x hx => (hc j x hx).below hb h⟩
theorem back_stops (F : Fence) (n : Nat) (h7 : F.fn 69) (hro : F.round = none) (hn : 1 ≤ n) (Bs n₀ : Nat) (sv : Value) (zs : List Session) (hreach : zs.length ≤ 1048576) (w : World) (hBs : Bs < w.heap.size) (hBn : Bs < n₀) (hn₀ : n₀ ≤ w.heap.size)
    (hc : w.cell? ⟨Bs, 0, none⟩ = some sv) (hI : SesIn n₀ w sv zs) :
    SeqStopsK F n Try.prog 69 #[.pointer (some ⟨Bs, 0, none⟩)] encBk (Below n₀) (fun ys => ys = backTo zs zs.length) (fun pre => ∃ k, k ≤ zs.length ∧ pre = backTo zs k) zs.length w := fun l J Jx W hW _ _ hY h0 => by
  have hc' := (hW.cell (p := ⟨Bs, 0, none⟩) hBs).trans hc
  rcases hI.below (hW.mono hn₀) with ⟨a, cap, rfl, rfl⟩ | ⟨b, off, cap, rfl, hb, hcs⟩
  · exact (back1_nil_in F n h7 hro l Bs cap J W a hc' h0).mono fun e W' ⟨he, hj⟩ => ⟨he, .inl ⟨_, rfl, hj⟩⟩
  · exact back1_in F n h7 hro hn l Bs n₀ b off cap zs hreach hb J Jx hY W hc' hBn hcs h0
end Go.Proofs.Ytdpanmnnfamfmaa
