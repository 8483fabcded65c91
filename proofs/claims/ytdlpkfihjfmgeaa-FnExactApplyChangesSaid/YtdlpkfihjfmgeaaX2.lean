/- The library's sort at settings, by their names: in place. -/
import Derived.Test.YtdlpkfihjfmgeaaX1
import Derived.Test.YtdlpkfihjfmgeaaV34
import Derived.Test.YtdlpkfihjfmgeaaShS
import Derived.Test.YtdlpkfihjfmgeaaSh
import Derived.Test.YtdlpkfihjfmgeaaD32
import Derived.Shelf.SlSortCmp.WholeK
import Derived.Shelf.Abstract
import Derived.Lib.RowBridge
set_option linter.all false
namespace Go.Proofs.Ytdlpkfihjfmgeaa
open Go Go.V Go.RowKit Go.Shelf Go.Lib Go.Sort
theorem cmp_less : ∀ (a b : List UInt8), decide (Lib.compareBytes a b < 0) = Op.bytesLess a b
  | [], [] => rfl
  | [], _ :: _ => rfl
  | _ :: _, [] => rfl
  | x :: a, y :: b => by
    simp only [Lib.compareBytes, Op.bytesLess]
    by_cases h1 : x < y
    · simp [h1]
    · by_cases h2 : y < x
      · have : ¬ x = y := fun e => by subst e; exact UInt8.lt_irrefl _ h2
        simp [h1, h2, this]
      · have : x = y := UInt8.le_antisymm (UInt8.not_lt.1 h2) (UInt8.not_lt.1 h1)
        simp [h1, h2, this, cmp_less a b]
def cfN (x y : NV) : Int := Lib.compareBytes x.name y.name
theorem lt_cfN (x y : NV) : ltOf cfN x y = Op.bytesLess x.name y.name := cmp_less _ _
theorem less_total {a b : List UInt8} (h1 : Op.bytesLess a b = false) (h2 : Op.bytesLess b a = false) : a = b := by
  induction a generalizing b with
  | nil => cases b with
    | nil => rfl
    | cons y b => simp [Op.bytesLess] at h1
  | cons x a ih => cases b with
    | nil => simp [Op.bytesLess] at h2
    | cons y b =>
      simp only [Op.bytesLess, Bool.or_eq_false_iff, decide_eq_false_iff_not, Bool.and_eq_false_iff, beq_eq_false_iff_ne, ne_eq] at h1 h2
      have hxy : x = y := UInt8.le_antisymm (UInt8.not_lt.1 h2.1) (UInt8.not_lt.1 h1.1)
      subst hxy
      rw [ih (h1.2.resolve_left (fun h => h rfl)) (h2.2.resolve_left (fun h => h rfl))]
theorem swoN : SWO (ltOf cfN) where
  irrefl x := by rw [lt_cfN]; exact bytesLess_irrefl _
  trans x y z h1 h2 := by rw [lt_cfN] at *; exact bytesLess_trans h1 h2
  ntrans x y z h1 h2 := by
    rw [lt_cfN] at *
    cases h : Op.bytesLess x.name z.name with
    | false => rfl
    | true =>
      cases h3 : Op.bytesLess y.name x.name with
      | true => rw [bytesLess_trans h3 h] at h2; cases h2
      | false => rw [less_total h1 h3, h2] at h; cases h
def encN (x : NV) : List Value := [str x.name, .int .i64 x.val]
set_option maxHeartbeats 1000000 in
theorem cmpClo (x y : NV) (W : World) : Calls Try.prog 43 #[.agg #[str x.name, .int .i64 x.val], .agg #[str y.name, .int .i64 y.val]] W fun e w' => e = .returned (.int .i64 (cfN x y)) ∧ ∃ q os', w' = grow (W.drewN q) os' := by
  have hcon := fun W' => Try.strings_Compare ⟨x.name.toArray⟩ ⟨y.name.toArray⟩ W'
  have e : Lib.compareBytes (ByteArray.mk x.name.toArray).data.toList (ByteArray.mk y.name.toArray).data.toList = cfN x y := by simp [cfN]
  simp only [e] at hcon
  generalize cfN x y = r at hcon ⊢
  unfold str
  go_enter Try.func43, Try.ntmps43
  go_wp2_with (go_at_call 44; refine (hcon _).mono ?_; rintro e w' ⟨rfl, rfl⟩)
  go_ret
  exact ⟨rfl, 0, _, by rw [alloc_eq_grow, alloc_eq_grow, grow_grow]; rfl⟩
theorem flat_list (zs : List NV) : (flatK encN 2 zs.toArray).toList = (zs.map encN).flatten := by
  have key : ∀ (n : Nat), n ≤ zs.length → (List.range (n * 2)).map (fun t => (encN zs.toArray[t / 2]!)[t % 2]!) = ((zs.take n).map encN).flatten := by
    intro n
    induction n with
    | zero => intro _; simp
    | succ n ih =>
      intro hn
      obtain ⟨x, hx⟩ := get_some (xs := zs) (k := n) (by omega)
      have hx2 : zs.toArray[n]! = x := by
        rw [getElem!_pos zs.toArray n (by simp; omega)]
        obtain ⟨hl, e⟩ := List.getElem?_eq_some_iff.1 hx
        simpa using e
      rw [show (n + 1) * 2 = n * 2 + 1 + 1 by omega, List.range_succ, List.range_succ, List.map_append, List.map_append, ih (by omega), take_snoc hx]
      simp only [List.map_cons, List.map_nil, List.map_append, List.flatten_append, List.flatten_cons, List.flatten_nil, List.append_nil]
      rw [show n * 2 / 2 = n by omega, show (n * 2 + 1) / 2 = n by omega, show n * 2 % 2 = 0 by omega, show (n * 2 + 1) % 2 = 1 by omega, hx2]
      simp [encN]
  have h := key zs.length (Nat.le_refl _)
  rw [List.take_length] at h
  rw [← h]
  simp [flatK, Array.toList_range]
theorem rel_flat {S : Nat → Prop} {w : World} : ∀ {zs : List NV} {xs : List Value}, RelL S w (zs.map encNV).flatten xs → xs = (zs.map encN).flatten
  | [], xs, h => by simpa [RelL] using h
  | z :: zs, xs, h => by
    simp only [List.map_cons, List.flatten_cons, encNV, List.cons_append, List.nil_append, RelL, Rel] at h
    obtain ⟨_, us', rfl, rfl, _, us2, rfl, rfl, h⟩ := h
    rw [rel_flat h]; rfl
theorem flat_rel {S : Nat → Prop} {w : World} : ∀ {zs : List NV}, RelL S w (zs.map encNV).flatten (zs.map encN).flatten
  | [] => by simp [RelL]
  | z :: zs => by
    simp only [List.map_cons, List.flatten_cons, encNV, encN, List.cons_append, List.nil_append, RelL, Rel]
    exact ⟨_, _, rfl, rfl, _, _, rfl, rfl, flat_rel⟩
theorem flat_two (zs : List NV) : (zs.map encN).flatten.length = zs.length * 2 := by
  induction zs with
  | nil => rfl
  | cons z zs ih => simp only [List.map_cons, List.flatten_cons, List.length_append, ih, encN, List.length_cons, List.length_nil]; omega
theorem sort_raw (g n cap : Nat) (cur : Array Value) (zs : List NV) (w : World) (hg : w.heap[g]? = some (.cells cur 62 (0, 0))) (hn : n = zs.length) (hnc : n ≤ cap) (hsz : n ≤ 1048576) (hcs : cur.size = cap * 2) (hcur : cur.toList.take (n * 2) = (zs.map encN).flatten) :
    Calls Try.prog 42 #[.slice (some ⟨g, 0, none⟩) n cap, .func (.func 43) #[] #[]] w fun e w' => e = .returned (.tuple #[]) ∧ ∃ ds : List NV, ds.Perm zs ∧ ds.Pairwise (fun x y => Op.bytesLess y.name x.name = false) ∧
      ∃ cur' : Array Value, w'.heap[g]? = some (.cells cur' 62 (0, 0)) ∧ cur'.size = cap * 2 ∧ cur'.toList.take (n * 2) = (ds.map encN).flatten ∧ w.grownBy w' (some g) := by
  subst hn
  have hblk : g < w.heap.size := (Array.getElem?_eq_some_iff.1 hg).1
  have hH : HoldsK encN 2 w g 0 zs.toArray := by
    intro j hj
    rw [size_flatK] at hj
    have hj2 : j < zs.length * 2 := by simpa using hj
    have hlt : j < cur.size := by omega
    rw [Nat.zero_add]
    refine ⟨?_, (cells_some hg hlt).2⟩
    rw [(cells_some hg hlt).1]
    congr 1
    have h1 : (flatK encN 2 zs.toArray)[j]! = (flatK encN 2 zs.toArray).toList[j]! := by
      rw [getElem!_pos _ j (by simpa using hj2), getElem!_pos _ j (by simpa using hj2)]; simp
    rw [show id (flatK encN 2 zs.toArray)[j]! = (flatK encN 2 zs.toArray)[j]! from rfl, h1, flat_list, ← hcur]
    rw [getElem!_pos _ j (by simp; omega)]
    simp
  have eg : ∀ args w, (callFunc 43 args).run Try.prog w = .ok (.enter 43 args) w := enters_of Try.func43 (by kernel_rfl) rfl
  have hcon := AnyQ.slices_SortFunc Try.sortSet 2 Try.isAgg62 Try.sizeOf62 encN (fun _ => rfl) (fun x v hv => by simp only [encN, List.mem_cons, List.not_mem_nil, or_false] at hv; rcases hv with rfl | rfl <;> rfl) cfN swoN 43 #[] g 0 cap zs.toArray w eg (fun _ _ _ _ x y => cmpClo x y _) hH hblk (by simp; omega)
  change Calls Try.prog 42 _ _ _ at hcon
  rw [show zs.toArray.size = zs.length by simp] at hcon
  refine hcon.mono ?_
  rintro e w' ⟨rfl, d', q, os, hp, hs, rfl⟩
  have hdl : d'.size = zs.length := by simpa using hp.1
  have hperm : d'.toList.Perm zs := by
    have := hp.2.2
    rwa [show d'.extract 0 zs.length = d' by rw [← hdl]; simp, show zs.toArray.extract 0 zs.length = zs.toArray by simp] at this
  refine ⟨rfl, d'.toList, hperm, ?_, ?_⟩
  · rw [List.pairwise_iff_getElem]
    intro i j hi hj hij
    have hi' : i < d'.size := by simpa using hi
    have hj' : j < d'.size := by simpa using hj
    have := hs i j (Nat.zero_le _) hij (by omega)
    rw [lt_cfN, getElem!_pos d' i hi', getElem!_pos d' j hj'] at this
    simpa using this
  · have hrow := putRow_eq_setCells id w g 0 (flatK encN 2 zs.toArray) (flatK encN 2 d').toList q hH (by simp [hdl])
    rw [Array.toArray_toList, List.map_id] at hrow
    obtain ⟨cur', a1, a2, a3, a4⟩ := setCells_row g 62 (flatK encN 2 d').toList 0 (w.drewN q) cur hg (by simp; omega)
    have hw : sortWorldK encN 2 w g 0 q d' os = grow ((w.drewN q).setCells g 0 (flatK encN 2 d').toList) os := by
      unfold sortWorldK putRowK; rw [hrow]
    have hfl : (flatK encN 2 d').toList = (d'.toList.map encN).flatten := by have := flat_list d'.toList; rwa [Array.toArray_toList] at this
    rw [hw]
    have hold : ∀ k, k < ((w.drewN q).setCells g 0 (flatK encN 2 d').toList).heap.size → (grow ((w.drewN q).setCells g 0 (flatK encN 2 d').toList) os).heap[k]? = ((w.drewN q).setCells g 0 (flatK encN 2 d').toList).heap[k]? := fun k hk => by
      show (_ ++ os)[k]? = _
      rw [Array.getElem?_append_left hk]
    refine ⟨cur', (hold g (Nat.lt_of_lt_of_le hblk a4.size)).trans a1, by omega, ?_, ⟨a4.os, a4.tape, a4.output, ?_, fun k hk hne => (hold k (Nat.lt_of_lt_of_le hk a4.size)).trans (a4.block k hk hne)⟩⟩
    · rw [a3, List.take_zero, List.nil_append, hfl, List.take_append_of_le_length (by rw [flat_two]; simp; omega), List.take_of_length_le (by rw [flat_two]; simp; omega)]
    · refine Nat.le_trans a4.size ?_
      show _ ≤ (_ ++ os).size
      rw [Array.size_append]; omega
/-- What is sorted, as a thing of one's own. -/
theorem sortN_c {zs ys : List NV} (hne : zs ≠ []) (hl : zs.length ≤ 1048576) (hys : ∀ ds : List NV, ds.Perm zs → ds.Pairwise (fun x y => Op.bytesLess y.name x.name = false) → ds = ys) :
    FnE (α := Unit) Try.prog 42 [.h 0, .p (.clo 43 [])] [(0, .vec 62 2 (zs.map encNV))] [0] (fun _ => True) (fun _ => .tup []) (fun _ => [(0, .vec 62 2 (ys.map encNV))]) := by
  intro w0 F0 η φ w us hk hrel
  simp only [ARelL, ARel, RelL, Rel] at hrel
  obtain ⟨_, _, rfl, rfl, _, _, rfl, ⟨us9, rfl, he9⟩, rfl⟩ := hrel
  obtain rfl : us9 = #[] := by simpa [ARelL] using he9
  obtain ⟨xs, h1, h2, h3, h4⟩ := hk.res 0 _ rfl
  obtain ⟨hl3, h3⟩ := h3
  rw [List.length_map] at h3 hl3
  rcases h3 with ⟨_, hn0⟩ | ⟨g, cap, cur, e0, _, hg, hnc, hcm, hcs, htk⟩
  · exact absurd (List.length_eq_zero_iff.1 hn0) hne
  have hxs := rel_flat h1
  rw [e0]
  refine (sort_raw g zs.length cap cur zs w hg rfl hnc hl hcs (by rw [htk, hxs])).mono ?_
  rintro e w' ⟨rfl, ds, hp, hs, cur', a1, a2, a3, a4⟩
  obtain rfl := hys ds hp hs
  have hdl := hp.length_eq
  obtain ⟨b1, b2, b3⟩ := vec_inplace (rows' := ds.map encNV) hk e0 (by rw [h4, e0]; rfl) a4 a1 a2 hcm (fun r hr => by obtain ⟨x, _, rfl⟩ := List.mem_map.1 hr; rfl) (by rw [List.length_map]; omega) (by rw [List.length_map, hdl]; exact a3) (by rw [flat_two, List.length_map]) flat_rel
  refine ⟨(), trivial, _, _, φ, rfl, b1, ?_, ?_, b2, b3⟩
  · simp [ARel, ARelL]
  · intro i hi
    rw [List.mem_singleton] at hi
    subst hi
    simp only [if_true, List.length_map]
    rw [e0, hdl]
end Go.Proofs.Ytdlpkfihjfmgeaa
