/- A region that draws its order, by an invariant over what is done: inside any fence, a round's too. -/
import Derived.Test.YtdpanmnnfamfmaaV30
set_option linter.all false
namespace Go.V
open Go
theorem anyIn_inv {F : Fence} {n : Nat} {P : Program} {md : Region.Mode} {ops : Array Oper} {Q : Exit → Act → World → Prop} {I : Array Bool → Act → World → Prop}
    (hstep : ∀ (listed : Array Bool) (a : Act) (w : World) (i : Nat), I listed a w → i ∈ Region.ready md ops listed → wpOpIn F n P ops Q i (I (listed.setIfInBounds i true)) a w)
    (hdone : ∀ (listed : Array Bool) (a : Act) (w : World), I listed a w → Region.ready md ops listed = [] → Q .normal a w) :
    ∀ (fuel : Nat) (listed : Array Bool) (a : Act) (w : World), listed.toList.count false ≤ fuel → listed.size = ops.size → I listed a w → wpAnyIn F n P md ops Q fuel listed a w := by
  intro fuel
  induction fuel with
  | zero =>
    intro listed a w hc hs h
    have hr : Region.ready md ops listed = [] := by
      refine List.eq_nil_iff_forall_not_mem.2 (fun i hi => ?_)
      obtain ⟨h1, o, ho, _⟩ := mem_ready.1 hi
      have hlt : i < listed.size := by rw [hs]; exact (Array.getElem?_eq_some_iff.1 ho).1
      have hm : false ∈ listed.toList := by
        rw [Array.getD_eq_getD_getElem?, Array.getElem?_eq_getElem hlt, Option.getD_some] at h1
        rw [← h1]; exact Array.getElem_mem_toList hlt
      have := List.count_pos_iff.2 hm
      omega
    exact ⟨hr, hdone _ _ _ h hr⟩
  | succ fuel ih =>
    intro listed a w hc hs h
    refine ⟨fun hr => hdone _ _ _ h hr, fun i hi => wpOpIn_mono (fun a' w' h' => ih _ _ _ ?_ (by rw [Array.size_setIfInBounds]; exact hs) h') (hstep _ _ _ _ h hi)⟩
    obtain ⟨h1, o, ho, _⟩ := mem_ready.1 hi
    have hlt : i < listed.size := by rw [hs]; exact (Array.getElem?_eq_some_iff.1 ho).1
    rw [Array.getD_eq_getD_getElem?, Array.getElem?_eq_getElem hlt, Option.getD_some] at h1
    rw [Array.toList_setIfInBounds, List.count_set (by simpa using hlt)]
    have h2 : listed.toList[i]'(by simpa using hlt) = false := by simpa using h1
    have hm : false ∈ listed.toList := by rw [← h2]; exact List.getElem_mem _
    have := List.count_pos_iff.2 hm
    rw [h2, if_pos (by decide), if_neg (by decide)]; omega
end Go.V
