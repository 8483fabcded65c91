/- Contracts of functions of the program, each by a walk of its text in the calculus V. -/
import Derived.Test.YtdlpkfihjfmgeaaR5B
import Derived.Test.YtdlpkfihjfmgeaaD34
set_option linter.all false
set_option linter.unusedSimpArgs false
set_option linter.unnecessarySimpa false
set_option linter.unusedVariables false
namespace Go.Proofs.Ytdlpkfihjfmgeaa
open Go Go.V

theorem impl_stateOf_c {xs : List Ver} {n : Int} (hg : VersGood xs) (h0 : 0 ≤ n) (h1 : n ≤ xs.length) :
    FnE (α := Unit) Try.prog 59 [.p (.sl 4 (xs.map encVer)), .p (.v (.int .i64 n))] [] [] (fun _ => True) (fun _ => .p (.sl 2 ((stT xs n).map encNV))) (fun _ => []) := by
  have hn := hg.1
  refine FnE.intro Try.func59 rfl Try.ntmps59 rfl rfl (fun w0 F0 η φ w => ?_)
  refine AC.seq ?_
  refine AC.region ?_
  refine AO.yld _ (Yld.assign rfl) rfl rfl rfl ?_
  refine AO.nil ?_
  refine AC.seq ?_
  refine AC.seq ?_
  refine AC.region ?_
  refine AO.yld _ (Yld.move rfl) rfl rfl rfl ?_
  refine AO.yld _ (Yld.int rfl rfl rfl) rfl rfl rfl ?_
  refine AO.nil ?_
  refine AC.cond _ rfl (fun c6 => ?_) (fun c6 => ?_)
  · -- c6 True
    have hz : n = 0 := by simpa using c6
    refine AC.seq ?_
    refine AC.region ?_
    refine AO.yld _ (Yld.assign rfl) rfl rfl rfl ?_
    refine AO.nil ?_
    refine AC.nilVec 4 0 62 2 rfl rfl ?_
    refine AC.freeze 0 rfl ?_
    refine FnE.ret () [] [] Try.results59 (RVs.cons (RV.tmp rfl) RVs.nil) rfl rfl rfl ?_ ?_ trivial
    · -- holds
      trivial
    · -- value
      first | (rw [stT_zero hz]; rfl) | (rw [stT_get hz hx]; rfl) | (rw [stT_zero hz]; done) | (rw [stT_get hz hx]; done)
  · -- c6 False
    have hz : ¬ n = 0 := by simpa using c6
    obtain ⟨x, hx⟩ := get_some (xs := xs) (k := (n - 1).toNat) (by omega)
    have hrow := map_row (enc := encVer) hx
    refine AC.skip ?_
    refine AC.seq ?_
    refine AC.region ?_
    refine AO.yld _ (Yld.move rfl) rfl rfl rfl ?_
    refine AO.yld _ (Yld.move rfl) rfl rfl rfl ?_
    refine AO.yld _ (Yld.sub rfl rfl (by omega) (by omega)) rfl rfl rfl ?_
    refine AO.yld _ (Yld.indexSl Try.underlying46 Try.sizeOf109 rfl rfl hrow (by omega)) rfl rfl rfl ?_
    refine AO.yld _ (Yld.fieldAddr Try.underlying109 rfl rfl Try.sizeOf26 rfl rfl rfl) rfl rfl rfl ?_
    refine AO.yld _ (Yld.load Try.isAgg26 rfl rfl) rfl rfl rfl ?_
    refine AO.yld _ (Yld.assign rfl) rfl rfl rfl ?_
    refine AO.nil ?_
    refine FnE.ret () [] [] Try.results59 (RVs.cons (RV.tmp rfl) RVs.nil) rfl rfl rfl ?_ ?_ trivial
    · -- holds
      trivial
    · -- value
      first | (rw [stT_zero hz]; rfl) | (rw [stT_get hz hx]; rfl) | (rw [stT_zero hz]; done) | (rw [stT_get hz hx]; done)

theorem impl_MergeVersions_c {xs : List Ver} {a b : Int} {memo : List UInt8} (hg : VersGood xs) (hmm : memo.length ≤ 1048576) :
    FnE (α := Unit) Try.prog 26 [.p (.sl 4 (xs.map encVer)), .p (.v (.int .i64 a)), .p (.v (.int .i64 b)), .p (.v (str memo))] [] [] (fun _ => True) (fun _ => .tup [.h 0, .p (.v (.int .i64 (mergeVersions xs a b memo).2))]) (fun _ => [(0, .cust (nestC 109 4 62 2 (((mergeVersions xs a b memo).1).map verC) (((mergeVersions xs a b memo).1).map verI) (((mergeVersions xs a b memo).1).map encVer) ver_nest))]) := by
  have hn := hg.1
  have hM : (xs.map encVer).length = xs.length := List.length_map ..
  refine FnE.intro Try.func26 rfl Try.ntmps26 rfl rfl (fun w0 F0 η φ w => ?_)
  refine AC.seq ?_
  refine AC.region ?_
  refine AO.yld _ (Yld.assign rfl) rfl rfl rfl ?_
  refine AO.yld _ (Yld.assign rfl) rfl rfl rfl ?_
  refine AO.nil ?_
  refine AC.seq ?_
  refine AC.seq ?_
  refine AC.region ?_
  refine AO.yld _ (Yld.move rfl) rfl rfl rfl ?_
  refine AO.yld _ (Yld.call rfl rfl Try.call55 rfl rfl rfl (impl_ValidHistory_c (by assumption)) rfl) rfl rfl rfl ?_
  refine AO.yld _ (Yld.not rfl) rfl rfl rfl ?_
  refine AO.yld _ (Yld.move rfl) rfl rfl rfl ?_
  refine AO.splitAt 16 _ rfl (fun s16 => ?_) (fun s16 => ?_)
  · -- s16 True
    refine AO.skipF rfl rfl rfl rfl rfl ?_
    refine AO.skipF rfl rfl rfl rfl rfl ?_
    refine AO.skipF rfl rfl rfl rfl rfl ?_
    refine AO.yld _ (Yld.pickT rfl rfl) rfl rfl rfl ?_
    refine AO.nil ?_
    refine AC.condT rfl ?_
    refine AC.seq ?_
    refine AC.region ?_
    refine AO.yld _ (Yld.assign rfl) rfl rfl rfl ?_
    refine AO.yld _ (Yld.assign rfl) rfl rfl rfl ?_
    refine AO.nil ?_
    refine AC.nilVec 8 0 109 4 rfl rfl ?_
    refine AC.poolNew 1 62 2 rfl ?_
    refine AC.nestJoin 0 1 (cs := ([] : List Ver).map verC) (ins := ([] : List Ver).map verI) (hV := ver_nest) (vs := []) rfl rfl rfl rfl rfl rfl rfl ?_
    refine FnE.ret () [0] [0] Try.results26 (RVs.cons (RV.tmp rfl) (RVs.cons (RV.tmp rfl) RVs.nil)) rfl rfl rfl ?_ ?_ ⟨⟨_, rfl, ?_⟩, trivial⟩
    · -- holds
      trivial
    · -- value
      refine tupE ?_; (try simp only [hM] at *); unfold mergeVersions; first | (rw [if_pos (by simp [hok, hme]), if_pos (by simp [hia, hib]), if_pos hc]; first | done | rfl) | (rw [if_pos (by simp [hok, hme]), if_pos (by simp [hia, hib]), if_neg hc]; first | done | rfl) | (clear hg; simp_all [inVers]; done) | (clear hg; grind [inVers])
    · -- thing 0
      exact nestE (by (try simp only [hM] at *); unfold mergeVersions; first | (rw [if_pos (by simp [hok, hme]), if_pos (by simp [hia, hib]), if_pos hc]; first | done | rfl) | (rw [if_pos (by simp [hok, hme]), if_pos (by simp [hia, hib]), if_neg hc]; first | done | rfl) | (clear hg; simp_all [inVers]; done) | (clear hg; grind [inVers]))
  · -- s16 False
    refine AO.yldG _ (Yld.move rfl) rfl rfl rfl rfl rfl ?_
    refine AO.yldG _ (Yld.call rfl rfl Try.call58 rfl rfl rfl (impl_validMemo_c (by first | assumption | omega)) rfl) rfl rfl rfl rfl rfl ?_
    refine AO.yldG _ (Yld.not rfl) rfl rfl rfl rfl rfl ?_
    refine AO.yld _ (Yld.pickF rfl rfl) rfl rfl rfl ?_
    refine AO.nil ?_
    refine AC.cond _ rfl (fun c20 => ?_) (fun c20 => ?_)
    · -- c20 True
      refine AC.seq ?_
      refine AC.region ?_
      refine AO.yld _ (Yld.assign rfl) rfl rfl rfl ?_
      refine AO.yld _ (Yld.assign rfl) rfl rfl rfl ?_
      refine AO.nil ?_
      refine AC.nilVec 8 0 109 4 rfl rfl ?_
      refine AC.poolNew 1 62 2 rfl ?_
      refine AC.nestJoin 0 1 (cs := ([] : List Ver).map verC) (ins := ([] : List Ver).map verI) (hV := ver_nest) (vs := []) rfl rfl rfl rfl rfl rfl rfl ?_
      refine FnE.ret () [0] [0] Try.results26 (RVs.cons (RV.tmp rfl) (RVs.cons (RV.tmp rfl) RVs.nil)) rfl rfl rfl ?_ ?_ ⟨⟨_, rfl, ?_⟩, trivial⟩
      · -- holds
        trivial
      · -- value
        refine tupE ?_; (try simp only [hM] at *); unfold mergeVersions; first | (rw [if_pos (by simp [hok, hme]), if_pos (by simp [hia, hib]), if_pos hc]; first | done | rfl) | (rw [if_pos (by simp [hok, hme]), if_pos (by simp [hia, hib]), if_neg hc]; first | done | rfl) | (clear hg; simp_all [inVers]; done) | (clear hg; grind [inVers])
      · -- thing 0
        exact nestE (by (try simp only [hM] at *); unfold mergeVersions; first | (rw [if_pos (by simp [hok, hme]), if_pos (by simp [hia, hib]), if_pos hc]; first | done | rfl) | (rw [if_pos (by simp [hok, hme]), if_pos (by simp [hia, hib]), if_neg hc]; first | done | rfl) | (clear hg; simp_all [inVers]; done) | (clear hg; grind [inVers]))
    · -- c20 False
      have hok : okVers xs = true := by simpa using s16
      have hme : okMemo memo = true := by simpa using c20
      have hl32 := vers_len hok
      refine AC.skip ?_
      refine AC.seq ?_
      refine AC.seq ?_
      refine AC.region ?_
      refine AO.yld _ (Yld.move rfl) rfl rfl rfl ?_
      refine AO.yld _ (Yld.move rfl) rfl rfl rfl ?_
      refine AO.yld _ (Yld.len Try.underlying46 rfl rfl) rfl rfl rfl ?_
      refine AO.yld _ (Yld.call rfl rfl Try.call56 rfl rfl rfl (impl_within_c) rfl) rfl rfl rfl ?_
      refine AO.yld _ (Yld.not rfl) rfl rfl rfl ?_
      refine AO.yld _ (Yld.move rfl) rfl rfl rfl ?_
      refine AO.splitAt 26 _ rfl (fun s26 => ?_) (fun s26 => ?_)
      · -- s26 True
        refine AO.skipF rfl rfl rfl rfl rfl ?_
        refine AO.skipF rfl rfl rfl rfl rfl ?_
        refine AO.skipF rfl rfl rfl rfl rfl ?_
        refine AO.skipF rfl rfl rfl rfl rfl ?_
        refine AO.skipF rfl rfl rfl rfl rfl ?_
        refine AO.yld _ (Yld.pickT rfl rfl) rfl rfl rfl ?_
        refine AO.nil ?_
        refine AC.condT rfl ?_
        refine AC.seq ?_
        refine AC.region ?_
        refine AO.yld _ (Yld.assign rfl) rfl rfl rfl ?_
        refine AO.yld _ (Yld.assign rfl) rfl rfl rfl ?_
        refine AO.nil ?_
        refine AC.nilVec 8 0 109 4 rfl rfl ?_
        refine AC.poolNew 1 62 2 rfl ?_
        refine AC.nestJoin 0 1 (cs := ([] : List Ver).map verC) (ins := ([] : List Ver).map verI) (hV := ver_nest) (vs := []) rfl rfl rfl rfl rfl rfl rfl ?_
        refine FnE.ret () [0] [0] Try.results26 (RVs.cons (RV.tmp rfl) (RVs.cons (RV.tmp rfl) RVs.nil)) rfl rfl rfl ?_ ?_ ⟨⟨_, rfl, ?_⟩, trivial⟩
        · -- holds
          trivial
        · -- value
          refine tupE ?_; (try simp only [hM] at *); unfold mergeVersions; first | (rw [if_pos (by simp [hok, hme]), if_pos (by simp [hia, hib]), if_pos hc]; first | done | rfl) | (rw [if_pos (by simp [hok, hme]), if_pos (by simp [hia, hib]), if_neg hc]; first | done | rfl) | (clear hg; simp_all [inVers]; done) | (clear hg; grind [inVers])
        · -- thing 0
          exact nestE (by (try simp only [hM] at *); unfold mergeVersions; first | (rw [if_pos (by simp [hok, hme]), if_pos (by simp [hia, hib]), if_pos hc]; first | done | rfl) | (rw [if_pos (by simp [hok, hme]), if_pos (by simp [hia, hib]), if_neg hc]; first | done | rfl) | (clear hg; simp_all [inVers]; done) | (clear hg; grind [inVers]))
      · -- s26 False
        refine AO.yldG _ (Yld.move rfl) rfl rfl rfl rfl rfl ?_
        refine AO.yldG _ (Yld.move rfl) rfl rfl rfl rfl rfl ?_
        refine AO.yldG _ (Yld.len Try.underlying46 rfl rfl) rfl rfl rfl rfl rfl ?_
        refine AO.yldG _ (Yld.call rfl rfl Try.call56 rfl rfl rfl (impl_within_c) rfl) rfl rfl rfl rfl rfl ?_
        refine AO.yldG _ (Yld.not rfl) rfl rfl rfl rfl rfl ?_
        refine AO.yld _ (Yld.pickF rfl rfl) rfl rfl rfl ?_
        refine AO.nil ?_
        refine AC.cond _ rfl (fun c32 => ?_) (fun c32 => ?_)
        · -- c32 True
          refine AC.seq ?_
          refine AC.region ?_
          refine AO.yld _ (Yld.assign rfl) rfl rfl rfl ?_
          refine AO.yld _ (Yld.assign rfl) rfl rfl rfl ?_
          refine AO.nil ?_
          refine AC.nilVec 8 0 109 4 rfl rfl ?_
          refine AC.poolNew 1 62 2 rfl ?_
          refine AC.nestJoin 0 1 (cs := ([] : List Ver).map verC) (ins := ([] : List Ver).map verI) (hV := ver_nest) (vs := []) rfl rfl rfl rfl rfl rfl rfl ?_
          refine FnE.ret () [0] [0] Try.results26 (RVs.cons (RV.tmp rfl) (RVs.cons (RV.tmp rfl) RVs.nil)) rfl rfl rfl ?_ ?_ ⟨⟨_, rfl, ?_⟩, trivial⟩
          · -- holds
            trivial
          · -- value
            refine tupE ?_; (try simp only [hM] at *); unfold mergeVersions; first | (rw [if_pos (by simp [hok, hme]), if_pos (by simp [hia, hib]), if_pos hc]; first | done | rfl) | (rw [if_pos (by simp [hok, hme]), if_pos (by simp [hia, hib]), if_neg hc]; first | done | rfl) | (clear hg; simp_all [inVers]; done) | (clear hg; grind [inVers])
          · -- thing 0
            exact nestE (by (try simp only [hM] at *); unfold mergeVersions; first | (rw [if_pos (by simp [hok, hme]), if_pos (by simp [hia, hib]), if_pos hc]; first | done | rfl) | (rw [if_pos (by simp [hok, hme]), if_pos (by simp [hia, hib]), if_neg hc]; first | done | rfl) | (clear hg; simp_all [inVers]; done) | (clear hg; grind [inVers]))
        · -- c32 False
          have hia : inVers xs a = true := by have h9 := s26; (try simp only [hM] at h9); first | (simpa using h9) | (simp [inVers] at h9 ⊢; exact h9)
          have hib : inVers xs b = true := by have h9 := c32; (try simp only [hM] at h9); first | (simpa using h9) | (simp [inVers] at h9 ⊢; exact h9)
          have ha : 1 ≤ a ∧ a ≤ xs.length := by simpa [inVers] using hia
          have hb : 1 ≤ b ∧ b ≤ xs.length := by simpa [inVers] using hib
          have hcm := common_lim hok ha.1 hb.1
          have k1 := stT_ok hok (commonA xs a b)
          have k2 := stT_ok hok a
          have k3 := stT_ok hok b
          have j1 := stT_names hok (commonA xs a b)
          have j2 := stT_names hok a
          have j3 := stT_names hok b
          have q1 := state_len k1; have q2 := state_len k2; have q3 := state_len k3
          have hms : mergeStates (stT xs (commonA xs a b)) (stT xs a) (stT xs b) = merge2V xs a b := mergeStates_ok (by rw [k1, k2, k3]; rfl)
          have hml : (merge2V xs a b).1.length ≤ 24 := merge2_len (stT xs (commonA xs a b)) (stT xs a) (stT xs b)
          refine AC.skip ?_
          refine AC.seq ?_
          refine AC.region ?_
          refine AO.yld _ (Yld.move rfl) rfl rfl rfl ?_
          refine AO.yld _ (Yld.move rfl) rfl rfl rfl ?_
          refine AO.yld _ (Yld.move rfl) rfl rfl rfl ?_
          refine AO.yld _ (Yld.move rfl) rfl rfl rfl ?_
          refine AO.yld _ (Yld.call rfl rfl Try.call57 rfl rfl rfl (impl_commonAncestor_c (by assumption) (by assumption) (by omega) (by omega)) rfl) rfl rfl rfl ?_
          refine AO.callW (wantedN rfl) [] [] [] rfl rfl Try.call59 rfl (impl_stateOf_c (by assumption) (by omega) (by omega)) (.own rfl) rfl (fun _ => rfl) trivial rfl (fun _ => rfl) (fun _ => rfl) (fun _ _ => ?_)
          refine AO.yld _ (Yld.assign rfl) rfl rfl rfl ?_
          refine AO.nil ?_
          refine AC.seq ?_
          refine AC.region ?_
          refine AO.yld _ (Yld.move rfl) rfl rfl rfl ?_
          refine AO.yld _ (Yld.move rfl) rfl rfl rfl ?_
          refine AO.yld _ (Yld.move rfl) rfl rfl rfl ?_
          refine AO.callW (wantedN rfl) [] [] [] rfl rfl Try.call59 rfl (impl_stateOf_c (by assumption) (by omega) (by omega)) (.own rfl) rfl (fun _ => rfl) trivial rfl (fun _ => rfl) (fun _ => rfl) (fun _ _ => ?_)
          refine AO.yld _ (Yld.move rfl) rfl rfl rfl ?_
          refine AO.yld _ (Yld.move rfl) rfl rfl rfl ?_
          refine AO.callW (wantedN rfl) [] [] [] rfl rfl Try.call59 rfl (impl_stateOf_c (by assumption) (by omega) (by omega)) (.own rfl) rfl (fun _ => rfl) trivial rfl (fun _ => rfl) (fun _ => rfl) (fun _ _ => ?_)
          refine AO.callW (wantedN rfl) [0] [] [0] rfl rfl Try.call19 rfl (impl_MergeStates_c (by first | assumption | omega) (by first | assumption | omega) (by first | assumption | omega) (by assumption) (by assumption) (by assumption)) (.flat (.view rfl rfl (.view rfl rfl (.view rfl rfl .nil))) (fun _ => by simp [AV.Flat, AV.FlatL, PV.Flat, PV.FlatL]) (fun _ => ⟨flat_map flatNV _, trivial⟩)) rfl (fun _ => rfl) trivial rfl (fun _ => rfl) (fun _ => rfl) (fun _ _ => ?_)
          first | rw [hms] | (rw [show merge2 (stT xs (commonA xs a b)) (stT xs a) (stT xs b) = merge2V xs a b from rfl])
          refine AO.yld _ (Yld.move rfl) rfl rfl rfl ?_
          refine AO.yld _ (Yld.extract rfl rfl rfl) rfl rfl rfl ?_
          refine AO.yld _ (Yld.extract rfl rfl rfl) rfl rfl rfl ?_
          refine AO.yld _ (Yld.assign rfl) rfl rfl rfl ?_
          refine AO.yld _ (Yld.assign rfl) rfl rfl rfl ?_
          refine AO.nil ?_
          refine AC.seq ?_
          refine AC.seq ?_
          refine AC.region ?_
          refine AO.yld _ (Yld.move rfl) rfl rfl rfl ?_
          refine AO.yld _ (Yld.int rfl rfl rfl) rfl rfl rfl ?_
          refine AO.nil ?_
          refine AC.cond _ rfl (fun c51 => ?_) (fun c51 => ?_)
          · -- c51 True
            have hc : (merge2V xs a b).2 ≠ 0 := by simpa using c51
            refine AC.seq ?_
            refine AC.region ?_
            refine AO.yld _ (Yld.move rfl) rfl rfl rfl ?_
            refine AO.yld _ (Yld.assign rfl) rfl rfl rfl ?_
            refine AO.yld _ (Yld.assign rfl) rfl rfl rfl ?_
            refine AO.nil ?_
            refine AC.nilVec 8 1 109 4 rfl rfl ?_
            refine AC.poolNew 2 62 2 rfl ?_
            refine AC.nestJoin 1 2 (cs := ([] : List Ver).map verC) (ins := ([] : List Ver).map verI) (hV := ver_nest) (vs := []) rfl rfl rfl rfl rfl rfl rfl ?_
            refine FnE.ret () [1] [0] Try.results26 (RVs.cons (RV.tmp rfl) (RVs.cons (RV.tmp rfl) RVs.nil)) rfl rfl rfl ?_ ?_ ⟨⟨_, rfl, ?_⟩, trivial⟩
            · -- holds
              trivial
            · -- value
              refine tupE ?_; (try simp only [hM] at *); unfold mergeVersions; first | (rw [if_pos (by simp [hok, hme]), if_pos (by simp [hia, hib]), if_pos hc]; first | done | rfl) | (rw [if_pos (by simp [hok, hme]), if_pos (by simp [hia, hib]), if_neg hc]; first | done | rfl) | (clear hg; simp_all [inVers]; done) | (clear hg; grind [inVers])
            · -- thing 0
              exact nestE (by (try simp only [hM] at *); unfold mergeVersions; first | (rw [if_pos (by simp [hok, hme]), if_pos (by simp [hia, hib]), if_pos hc]; first | done | rfl) | (rw [if_pos (by simp [hok, hme]), if_pos (by simp [hia, hib]), if_neg hc]; first | done | rfl) | (clear hg; simp_all [inVers]; done) | (clear hg; grind [inVers]))
          · -- c51 False
            have hc : ¬ (merge2V xs a b).2 ≠ 0 := by simpa using c51
            refine AC.skip ?_
            refine AC.seq ?_
            refine AC.region ?_
            refine AO.yld _ (Yld.move rfl) rfl rfl rfl ?_
            refine AO.yld _ (Yld.move rfl) rfl rfl rfl ?_
            refine AO.yld _ (Yld.move rfl) rfl rfl rfl ?_
            refine AO.yld _ (Yld.move rfl) rfl rfl rfl ?_
            refine AO.freeze 0 rfl ?_
            refine AO.callW (wantedN rfl) [1] [] [0] rfl rfl Try.call60 rfl (impl_addVersion_c (by assumption) (by first | assumption | omega)) (.own rfl) rfl (fun _ => rfl) trivial rfl (fun _ => rfl) (fun _ => rfl) (fun _ _ => ?_)
            refine AO.yld _ (Yld.extract rfl rfl rfl) rfl rfl rfl ?_
            refine AO.yld _ (Yld.extract rfl rfl rfl) rfl rfl rfl ?_
            refine AO.yld _ (Yld.assign rfl) rfl rfl rfl ?_
            refine AO.yld _ (Yld.assign rfl) rfl rfl rfl ?_
            refine AO.nil ?_
            refine FnE.ret () [1] [0] Try.results26 (RVs.cons (RV.tmp rfl) (RVs.cons (RV.tmp rfl) RVs.nil)) rfl rfl rfl ?_ ?_ ⟨⟨_, rfl, ?_⟩, trivial⟩
            · -- holds
              trivial
            · -- value
              refine tupE ?_; (try simp only [hM] at *); unfold mergeVersions; first | (rw [if_pos (by simp [hok, hme]), if_pos (by simp [hia, hib]), if_pos hc]; first | done | rfl) | (rw [if_pos (by simp [hok, hme]), if_pos (by simp [hia, hib]), if_neg hc]; first | done | rfl) | (clear hg; simp_all [inVers]; done) | (clear hg; grind [inVers])
            · -- thing 0
              exact nestE (by (try simp only [hM] at *); unfold mergeVersions; first | (rw [if_pos (by simp [hok, hme]), if_pos (by simp [hia, hib]), if_pos hc]; first | done | rfl) | (rw [if_pos (by simp [hok, hme]), if_pos (by simp [hia, hib]), if_neg hc]; first | done | rfl) | (clear hg; simp_all [inVers]; done) | (clear hg; grind [inVers]))

end Go.Proofs.Ytdlpkfihjfmgeaa
