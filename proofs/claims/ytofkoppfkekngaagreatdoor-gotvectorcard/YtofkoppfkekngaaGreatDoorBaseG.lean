/- Shared texts of this seat's proofs, joined: an abstract interpreter of the compiled code, its soundness, contracts of the program's functions. -/
import Derived.Test.YtofkoppfkekngaaGreatDoorBaseF

/- got: what its functions compute. -/
namespace Go.Proofs.YtofkoppfkekngaaGreatDoor
open Go.Abs
set_option linter.unusedSimpArgs false
attribute [local irreducible] aops awp goD seqQ blockQ loopQ regS regQ Tri seqLess seqDiff farFrom sOf

theorem seq1_tri {h : Heap} {n : Int} : Tri Tryz.prog 41 [.sc (.int .u64 n)] h fun v h' => v = .sc (.int .u64 (n.tmod 281474976710656)) ∧ h' = h := by
  refine Tri.of_bodyR progOk Tryz.func41 k41 c41 rfl fun _ _ => ?_
  dsimp only [a41]
  (repeat (first | (show aops _ _ _ _ _; first | refine a_mov ?_ | refine a_endS ?_ | refine a_endQ ?_ | refine a_gT ?_ | refine a_gF ?_ | refine a_gU ?_ | refine a_gA ?_ | refine a_gB ?_ | refine a_addI ?_ | refine a_subI ?_ | refine a_addU ?_ | refine a_subU ?_ | refine a_mulI ?_ | refine a_mulU ?_ | refine a_convI ?_ | refine a_convU ?_ | refine a_index ?_ | refine a_load ?_ | refine a_loadN ?_ | refine a_pickT ?_ | refine a_pickF ?_ | refine a_append ?_ | refine a_appendN ?_ | refine a_lookI ?_ | refine a_lookB ?_ | refine a_lenMI ?_ | refine a_go ?_ | refine a_store ?_ | refine q_call0 rfl of_tri ?_ | refine q_call0 rfl diff_tri ?_ | refine q_call0 rfl less_tri ?_ | refine q_call0 rfl add_tri ?_) | refine q_sr ?_ | refine q_r ?_ | refine q_sd ?_ | refine q_rd ?_ | refine awp_seq ?_ | refine awp_block ?_ | refine awp_skip ?_ | refine awp_exit ?_ | refine awp_ret ?_ | refine seqQ_normal ?_ | refine seqQ_exit ?_ | refine seqQ_ret ?_ | refine blockQ_normal ?_ | refine blockQ_self ?_ | refine blockQ_ret ?_ | refine loopQ_exit ?_ | refine loopQ_ret ?_ | refine a_ifT ?_ | refine a_ifF ?_ | refine a_ifA ?_ | refine a_ifB ?_ | refine blockQ_other (by decide) ?_))
  exact retR_0 rfl rfl

theorem tmod_neg {n m : Int} (h : n < 0) : n.tmod m = -((-n) % m) := by
  rw [← Int.tmod_eq_emod_of_nonneg (by omega), Int.neg_tmod, Int.neg_neg]

theorem step_tri {h : Heap} {s n : Int} (hs : 0 ≤ s) : Tri Tryz.prog 24 [.sc (.int .u64 s), .sc (.int .i64 n)] h fun v h' => v = .sc (.int .u64 (sOf (s + n))) ∧ h' = h := by
  refine Tri.of_bodyR progOk Tryz.func24 k24 c24 rfl fun _ _ => ?_
  dsimp only [a24]
  have e1 : s.tmod 281474976710656 = s % 281474976710656 := Int.tmod_eq_emod_of_nonneg hs
  rcases Int.lt_or_le n 0 with hn | hn
  · have e2 := tmod_neg (n := n) (m := 281474976710656) hn
    (repeat' (first | (show aops _ _ _ _ _; first | refine a_mov ?_ | refine a_endS ?_ | refine a_endQ ?_ | refine a_gT ?_ | refine a_gF ?_ | refine a_gU ?_ | refine a_gA ?_ | refine a_gB ?_ | refine a_addI ?_ | refine a_subI ?_ | refine a_addU ?_ | refine a_subU ?_ | refine a_mulI ?_ | refine a_mulU ?_ | refine a_convI ?_ | refine a_convU ?_ | refine a_index ?_ | refine a_load ?_ | refine a_loadN ?_ | refine a_pickT ?_ | refine a_pickF ?_ | refine a_append ?_ | refine a_appendN ?_ | refine a_lookI ?_ | refine a_lookB ?_ | refine a_lenMI ?_ | refine a_go ?_ | refine a_store ?_ | refine q_call0 rfl of_tri ?_ | refine q_call0 rfl diff_tri ?_ | refine q_call0 rfl less_tri ?_ | refine q_call0 rfl add_tri ?_ | refine q_call0 rfl seq1_tri ?_) | refine q_sr ?_ | refine q_r ?_ | refine q_sd ?_ | refine q_rd ?_ | refine awp_seq ?_ | refine awp_block ?_ | refine awp_skip ?_ | refine awp_exit ?_ | refine awp_ret ?_ | refine seqQ_normal ?_ | refine seqQ_exit ?_ | refine seqQ_ret ?_ | refine blockQ_normal ?_ | refine blockQ_self ?_ | refine blockQ_ret ?_ | refine loopQ_exit ?_ | refine loopQ_ret ?_ | refine a_ifT ?_ | refine a_ifF ?_ | refine a_ifA ?_ | refine a_ifB ?_ | refine blockQ_other (by decide) ?_ | refine s_cE (fun hc hd => ?_) (fun hc hd => ?_) | refine s_cX (fun hc hd => ?_) (fun hc hd => ?_) | refine s_cD (fun hc hd => ?_) (fun hc hd => ?_) | refine s_cN (fun hc hd => ?_) (fun hc hd => ?_) | refine s_c (fun hc hd => ?_) (fun hc hd => ?_) | refine s_aE (fun hc hd => ?_) (fun hc hd => ?_) | refine s_aX (fun hc hd => ?_) (fun hc hd => ?_) | refine s_aD (fun hc hd => ?_) (fun hc hd => ?_) | refine s_aN (fun hc hd => ?_) (fun hc hd => ?_) | refine s_a (fun hc hd => ?_) (fun hc hd => ?_)))
    · refine retR_0 rfl ?_
      show AV.sc (.int .u64 ((s.tmod 281474976710656 + (n.tmod 281474976710656 + 281474976710656)).tmod 281474976710656)) = _
      congr 2
      rw [Int.tmod_eq_emod_of_nonneg (by omega)]
      unfold sOf
      omega
    · refine retR_0 rfl ?_
      show AV.sc (.int .u64 ((s.tmod 281474976710656 + n.tmod 281474976710656).tmod 281474976710656)) = _
      congr 2
      rw [Int.tmod_eq_emod_of_nonneg (by omega)]
      unfold sOf
      omega
  · have e2 : n.tmod 281474976710656 = n % 281474976710656 := Int.tmod_eq_emod_of_nonneg hn
    (repeat' (first | (show aops _ _ _ _ _; first | refine a_mov ?_ | refine a_endS ?_ | refine a_endQ ?_ | refine a_gT ?_ | refine a_gF ?_ | refine a_gU ?_ | refine a_gA ?_ | refine a_gB ?_ | refine a_addI ?_ | refine a_subI ?_ | refine a_addU ?_ | refine a_subU ?_ | refine a_mulI ?_ | refine a_mulU ?_ | refine a_convI ?_ | refine a_convU ?_ | refine a_index ?_ | refine a_load ?_ | refine a_loadN ?_ | refine a_pickT ?_ | refine a_pickF ?_ | refine a_append ?_ | refine a_appendN ?_ | refine a_lookI ?_ | refine a_lookB ?_ | refine a_lenMI ?_ | refine a_go ?_ | refine a_store ?_ | refine q_call0 rfl of_tri ?_ | refine q_call0 rfl diff_tri ?_ | refine q_call0 rfl less_tri ?_ | refine q_call0 rfl add_tri ?_ | refine q_call0 rfl seq1_tri ?_) | refine q_sr ?_ | refine q_r ?_ | refine q_sd ?_ | refine q_rd ?_ | refine awp_seq ?_ | refine awp_block ?_ | refine awp_skip ?_ | refine awp_exit ?_ | refine awp_ret ?_ | refine seqQ_normal ?_ | refine seqQ_exit ?_ | refine seqQ_ret ?_ | refine blockQ_normal ?_ | refine blockQ_self ?_ | refine blockQ_ret ?_ | refine loopQ_exit ?_ | refine loopQ_ret ?_ | refine a_ifT ?_ | refine a_ifF ?_ | refine a_ifA ?_ | refine a_ifB ?_ | refine blockQ_other (by decide) ?_ | refine s_cE (fun hc hd => ?_) (fun hc hd => ?_) | refine s_cX (fun hc hd => ?_) (fun hc hd => ?_) | refine s_cD (fun hc hd => ?_) (fun hc hd => ?_) | refine s_cN (fun hc hd => ?_) (fun hc hd => ?_) | refine s_c (fun hc hd => ?_) (fun hc hd => ?_) | refine s_aE (fun hc hd => ?_) (fun hc hd => ?_) | refine s_aX (fun hc hd => ?_) (fun hc hd => ?_) | refine s_aD (fun hc hd => ?_) (fun hc hd => ?_) | refine s_aN (fun hc hd => ?_) (fun hc hd => ?_) | refine s_a (fun hc hd => ?_) (fun hc hd => ?_)))
    · omega
    · refine retR_0 rfl ?_
      show AV.sc (.int .u64 ((s.tmod 281474976710656 + n.tmod 281474976710656).tmod 281474976710656)) = _
      congr 2
      rw [Int.tmod_eq_emod_of_nonneg (by omega)]
      unfold sOf
      omega

/-- What got keeps. -/
structure GotSt where
  ms : List (Int × Int)
  newest : Int
  any : Bool
  gone : Int
  forgot : Bool

def GotSt.os (g : GotSt) : List (Option AObj) := [some (.cells [.map 1, .int .u64 g.newest, .bool g.any, .int .u64 g.gone, .bool g.forgot]), some (.map .u64 (mpI g.ms))]

def GotSt.has (g : GotSt) (s : Int) : Bool := (mget (sOf s) g.ms).isSome

theorem new_tri : Tri Tryz.prog 22 [] (hp []) (Ans (.sc (.ptr 0 0)) (GotSt.os ⟨[], 0, false, 0, false⟩)) := by
  refine Tri.of_bodyR progOk Tryz.func22 k22 c22 rfl fun _ _ => ?_
  dsimp only [a22]
  (repeat (first | (show aops _ _ _ _ _; first | refine a_mov ?_ | refine a_endS ?_ | refine a_endQ ?_ | refine a_gT ?_ | refine a_gF ?_ | refine a_gU ?_ | refine a_gA ?_ | refine a_gB ?_ | refine a_addI ?_ | refine a_subI ?_ | refine a_addU ?_ | refine a_subU ?_ | refine a_mulI ?_ | refine a_mulU ?_ | refine a_convI ?_ | refine a_convU ?_ | refine a_index ?_ | refine a_load ?_ | refine a_loadN ?_ | refine a_pickT ?_ | refine a_pickF ?_ | refine a_append ?_ | refine a_appendN ?_ | refine a_lookI ?_ | refine a_lookB ?_ | refine a_lenMI ?_ | refine a_go ?_ | refine a_store ?_ | refine q_call0 rfl of_tri ?_ | refine q_call0 rfl diff_tri ?_ | refine q_call0 rfl less_tri ?_ | refine q_call0 rfl add_tri ?_ | refine q_call0 rfl seq1_tri ?_) | refine q_sr ?_ | refine q_r ?_ | refine q_sd ?_ | refine q_rd ?_ | refine awp_seq ?_ | refine awp_block ?_ | refine awp_skip ?_ | refine awp_exit ?_ | refine awp_ret ?_ | refine seqQ_normal ?_ | refine seqQ_exit ?_ | refine seqQ_ret ?_ | refine blockQ_normal ?_ | refine blockQ_self ?_ | refine blockQ_ret ?_ | refine loopQ_exit ?_ | refine loopQ_ret ?_ | refine a_ifT ?_ | refine a_ifF ?_ | refine a_ifA ?_ | refine a_ifB ?_ | refine blockQ_other (by decide) ?_))
  exact retR_hp [1, 0] rfl rfl (by (repeat' (first | exact trivial | exact rfl | refine And.intro ?_ ?_ | (simp only [renObj, renSc_int, renSc_bool, renSc_str, renSc_ptr, renSc_slice, renSc_map, renSc_nilp, renSc_nils, renSc_nilm, renSc_nilf, renSc_func, List.map_cons, List.map_nil, List.map_append, ren_ints, ren_flat, ren_u64s, ren_pks, ren_mpI, ren_mkB]; exact rfl) | (simp [Heap.get, find, Env.get_cons, renAV, renSc, renObj, rho_cons_zero, rho_cons_succ, ints, flat, u64s, pks, pk]; done)))) rfl rfl

theorem has_tri (g : GotSt) (s : Int) : Tri Tryz.prog 31 [.sc (.ptr 0 0), .sc (.int .u64 s)] (hp g.os) (Ans (.sc (.bool (g.has s))) g.os) := by
  refine Tri.of_bodyR progOk Tryz.func31 k31 c31 rfl fun _ _ => ?_
  dsimp only [a31]
  simp only [GotSt.os]
  (repeat (first | (show aops _ _ _ _ _; first | refine a_mov ?_ | refine a_endS ?_ | refine a_endQ ?_ | refine a_gT ?_ | refine a_gF ?_ | refine a_gU ?_ | refine a_gA ?_ | refine a_gB ?_ | refine a_addI ?_ | refine a_subI ?_ | refine a_addU ?_ | refine a_subU ?_ | refine a_mulI ?_ | refine a_mulU ?_ | refine a_convI ?_ | refine a_convU ?_ | refine a_index ?_ | refine a_load ?_ | refine a_loadN ?_ | refine a_pickT ?_ | refine a_pickF ?_ | refine a_append ?_ | refine a_appendN ?_ | refine a_lookI ?_ | refine a_lookB ?_ | refine a_lenMI ?_ | refine a_go ?_ | refine a_store ?_ | refine q_call0 rfl of_tri ?_ | refine q_call0 rfl diff_tri ?_ | refine q_call0 rfl less_tri ?_ | refine q_call0 rfl add_tri ?_ | refine q_call0 rfl seq1_tri ?_) | (show goD _ _ _ _ _ _; first | refine d_mov ?_ | refine d_endS ?_ | refine d_endQ ?_ | refine d_gT ?_ | refine d_gF ?_ | refine d_gU ?_ | refine d_gA ?_ | refine d_gB ?_ | refine d_addI ?_ | refine d_subI ?_ | refine d_addU ?_ | refine d_subU ?_ | refine d_mulI ?_ | refine d_mulU ?_ | refine d_convI ?_ | refine d_convU ?_ | refine d_index ?_ | refine d_load ?_ | refine d_loadN ?_ | refine d_pickT ?_ | refine d_pickF ?_ | refine d_lookI ?_ | refine d_lookB ?_ | refine d_lenMI ?_ | refine d_pure ?_ | refine d_read ?_ | refine d_append ?_ | refine d_appendN ?_ | refine d_eff ?_ | refine d_store ?_ | refine qd_call0 rfl (by decide) rfl of_tri ?_ | refine qd_call0 rfl (by decide) rfl diff_tri ?_ | refine qd_call0 rfl (by decide) rfl less_tri ?_ | refine qd_call0 rfl (by decide) rfl add_tri ?_ | refine qd_call0 rfl (by decide) rfl seq1_tri ?_) | refine q_sr ?_ | refine q_r ?_ | refine q_sd ?_ | refine q_rd ?_ | refine awp_seq ?_ | refine awp_block ?_ | refine awp_skip ?_ | refine awp_exit ?_ | refine awp_ret ?_ | refine seqQ_normal ?_ | refine seqQ_exit ?_ | refine seqQ_ret ?_ | refine blockQ_normal ?_ | refine blockQ_self ?_ | refine blockQ_ret ?_ | refine loopQ_exit ?_ | refine loopQ_ret ?_ | refine a_ifT ?_ | refine a_ifF ?_ | refine a_ifA ?_ | refine a_ifB ?_ | refine blockQ_other (by decide) ?_))
  exact retR_hp [0, 1] rfl rfl (by (repeat' (first | exact trivial | exact rfl | refine And.intro ?_ ?_ | (simp only [renObj, renSc_int, renSc_bool, renSc_str, renSc_ptr, renSc_slice, renSc_map, renSc_nilp, renSc_nils, renSc_nilm, renSc_nilf, renSc_func, List.map_cons, List.map_nil, List.map_append, ren_ints, ren_flat, ren_u64s, ren_pks, ren_mpI, ren_mkB]; exact rfl) | (simp [Heap.get, find, Env.get_cons, renAV, renSc, renObj, rho_cons_zero, rho_cons_succ, ints, flat, u64s, pks, pk]; done)))) rfl rfl

theorem newest_tri (g : GotSt) : Tri Tryz.prog 45 [.sc (.ptr 0 0)] (hp g.os) (Ans (.tup [.inl (.int .u64 (if g.any then g.newest else 0)), .inl (.bool g.any)]) g.os) := by
  refine Tri.of_bodyR progOk Tryz.func45 k45 c45 rfl fun _ _ => ?_
  dsimp only [a45]
  simp only [GotSt.os]
  cases ha : g.any
  all_goals
    (repeat (first | (show aops _ _ _ _ _; first | refine a_mov ?_ | refine a_endS ?_ | refine a_endQ ?_ | refine a_gT ?_ | refine a_gF ?_ | refine a_gU ?_ | refine a_gA ?_ | refine a_gB ?_ | refine a_addI ?_ | refine a_subI ?_ | refine a_addU ?_ | refine a_subU ?_ | refine a_mulI ?_ | refine a_mulU ?_ | refine a_convI ?_ | refine a_convU ?_ | refine a_index ?_ | refine a_load ?_ | refine a_loadN ?_ | refine a_pickT ?_ | refine a_pickF ?_ | refine a_append ?_ | refine a_appendN ?_ | refine a_lookI ?_ | refine a_lookB ?_ | refine a_lenMI ?_ | refine a_go ?_ | refine a_store ?_ | refine q_call0 rfl of_tri ?_ | refine q_call0 rfl diff_tri ?_ | refine q_call0 rfl less_tri ?_ | refine q_call0 rfl add_tri ?_ | refine q_call0 rfl seq1_tri ?_) | refine q_sr ?_ | refine q_r ?_ | refine q_sd ?_ | refine q_rd ?_ | refine awp_seq ?_ | refine awp_block ?_ | refine awp_skip ?_ | refine awp_exit ?_ | refine awp_ret ?_ | refine seqQ_normal ?_ | refine seqQ_exit ?_ | refine seqQ_ret ?_ | refine blockQ_normal ?_ | refine blockQ_self ?_ | refine blockQ_ret ?_ | refine loopQ_exit ?_ | refine loopQ_ret ?_ | refine a_ifT ?_ | refine a_ifF ?_ | refine a_ifA ?_ | refine a_ifB ?_ | refine blockQ_other (by decide) ?_))
    exact retR_hp [0, 1] rfl rfl (by (repeat' (first | exact trivial | exact rfl | refine And.intro ?_ ?_ | (simp only [renObj, renSc_int, renSc_bool, renSc_str, renSc_ptr, renSc_slice, renSc_map, renSc_nilp, renSc_nils, renSc_nilm, renSc_nilf, renSc_func, List.map_cons, List.map_nil, List.map_append, ren_ints, ren_flat, ren_u64s, ren_pks, ren_mpI, ren_mkB]; exact rfl) | (simp [Heap.get, find, Env.get_cons, renAV, renSc, renObj, rho_cons_zero, rho_cons_succ, ints, flat, u64s, pks, pk]; done)))) rfl rfl

end Go.Proofs.YtofkoppfkekngaaGreatDoor

/- got's Put: what it computes. -/
namespace Go.Proofs.YtofkoppfkekngaaGreatDoor
open Go.Abs
set_option linter.unusedSimpArgs false
attribute [local irreducible] aops awp goD seqQ blockQ loopQ regS regQ Tri seqLess seqDiff farFrom sOf

theorem mset_keys (n v : Int) : ∀ (ms : List (Int × Int)), (mset n v ms).map (·.1) = if n ∈ ms.map (·.1) then ms.map (·.1) else ms.map (·.1) ++ [n]
  | [] => rfl
  | (k, u) :: r => by
    have := mset_keys n v r
    simp only [mset, List.map_cons, List.mem_cons]
    by_cases h : n = k
    · subst h; simp
    · rw [if_neg h]
      simp only [List.map_cons, this, h, false_or]
      split <;> simp

def GotSt.keys (g : GotSt) : List Int := g.ms.map (·.1)

theorem mset_nodup {n v : Int} {ms : List (Int × Int)} (h : (ms.map (·.1)).Nodup) : ((mset n v ms).map (·.1)).Nodup := by
  rw [mset_keys]
  split
  · exact h
  · rename_i hn
    rw [List.nodup_append]
    refine ⟨h, by simp, fun a ha b hb => ?_⟩
    simp only [List.mem_singleton] at hb
    rw [hb]
    rintro rfl
    exact hn ha

theorem mset_twice (n u v : Int) : ∀ (ms : List (Int × Int)), mset n v (mset n u ms) = mset n v ms
  | [] => by simp [mset]
  | (k, w) :: r => by
    simp only [mset]
    split
    · rename_i h; simp [mset]
    · rename_i h; simp only [mset, if_neg h, mset_twice n u v r]

def GotSt.put (g : GotSt) (s0 : Int) (mark : Bool) : Bool × GotSt :=
  let s := sOf s0
  if g.has s then (false, g)
  else if g.any && decide (seqDiff g.newest s ≥ 250) then (false, g)
  else if g.forgot && !seqLess g.gone s then (false, g)
  else
    let ms1 := mset s (if mark then 1 else 0) g.ms
    if !g.any || seqLess g.newest s then (true, ⟨ms1.filter fun p => p.1 == s || !farFrom s p.1, s, true, g.gone, g.forgot⟩)
    else (true, ⟨ms1, g.newest, g.any, g.gone, g.forgot⟩)

set_option maxHeartbeats 4000000 in
theorem put_tri (g : GotSt) (hk : (g.ms.map (·.1)).Nodup) (s0 : Int) (mark : Bool) : Tri Tryz.prog 23 [.sc (.ptr 0 0), .sc (.int .u64 s0), .sc (.bool mark)] (hp g.os) (Ans (.sc (.bool (g.put s0 mark).1)) (g.put s0 mark).2.os) := by
  refine Tri.of_bodyR progOk Tryz.func23 k23 c23 rfl fun _ _ => ?_
  dsimp only [a23]
  obtain ⟨ms, newest, any, gone, forgot⟩ := g
  simp only [GotSt.os]
  generalize hs : sOf s0 = s
  have hp0 : GotSt.put ⟨ms, newest, any, gone, forgot⟩ s0 mark = (let s := s; if GotSt.has ⟨ms, newest, any, gone, forgot⟩ s then (false, ⟨ms, newest, any, gone, forgot⟩) else if any && decide (seqDiff newest s ≥ 250) then (false, ⟨ms, newest, any, gone, forgot⟩) else if forgot && !seqLess gone s then (false, ⟨ms, newest, any, gone, forgot⟩) else
    let ms1 := mset s (if mark then 1 else 0) ms
    if !any || seqLess newest s then (true, ⟨ms1.filter fun p => p.1 == s || !farFrom s p.1, s, true, gone, forgot⟩) else (true, ⟨ms1, newest, any, gone, forgot⟩)) := by rw [← hs]; rfl
  rw [hp0]
  (repeat (first | (show aops _ _ _ _ _; first | refine a_mov ?_ | refine a_endS ?_ | refine a_endQ ?_ | refine a_gT ?_ | refine a_gF ?_ | refine a_gU ?_ | refine a_gA ?_ | refine a_gB ?_ | refine a_addI ?_ | refine a_subI ?_ | refine a_addU ?_ | refine a_subU ?_ | refine a_mulI ?_ | refine a_mulU ?_ | refine a_convI ?_ | refine a_convU ?_ | refine a_index ?_ | refine a_load ?_ | refine a_loadN ?_ | refine a_pickT ?_ | refine a_pickF ?_ | refine a_append ?_ | refine a_appendN ?_ | refine a_lookI ?_ | refine a_lookB ?_ | refine a_lenMI ?_ | refine a_go ?_ | refine a_store ?_ | refine q_call0 rfl of_tri ?_ | refine q_call0 rfl diff_tri ?_ | refine q_call0 rfl less_tri ?_ | refine q_call0 rfl add_tri ?_ | refine q_call0 rfl (Tri.keep [0, 1] (has_tri ⟨ms, newest, _, gone, _⟩ s) rfl (by (repeat' (first | exact trivial | exact rfl | refine And.intro ?_ ?_ | (simp only [renObj, renSc_int, renSc_bool, renSc_str, renSc_ptr, renSc_slice, renSc_map, renSc_nilp, renSc_nils, renSc_nilm, renSc_nilf, renSc_func, List.map_cons, List.map_nil, List.map_append, ren_ints, ren_flat, ren_u64s, ren_pks, ren_mpI, ren_mkB]; exact rfl) | (simp [Heap.get, find, Env.get_cons, renAV, renSc, renObj, rho_cons_zero, rho_cons_succ, ints, flat, u64s, pks, pk]; done)))) rfl rfl) ?_) | refine q_sr ?_ | refine q_r ?_ | refine q_sd ?_ | refine q_rd ?_ | refine awp_seq ?_ | refine awp_block ?_ | refine awp_skip ?_ | refine awp_exit ?_ | refine awp_ret ?_ | refine seqQ_normal ?_ | refine seqQ_exit ?_ | refine seqQ_ret ?_ | refine blockQ_normal ?_ | refine blockQ_self ?_ | refine blockQ_ret ?_ | refine loopQ_exit ?_ | refine loopQ_ret ?_ | refine a_ifT ?_ | refine a_ifF ?_ | refine a_ifA ?_ | refine a_ifB ?_ | refine blockQ_other (by decide) ?_))
  rw [hs]
  cases any <;> cases forgot
  all_goals (repeat' (first | (show aops _ _ _ _ _; first | refine a_mov ?_ | refine a_endS ?_ | refine a_endQ ?_ | refine a_gT ?_ | refine a_gF ?_ | refine a_gU ?_ | refine a_gA ?_ | refine a_gB ?_ | refine a_addI ?_ | refine a_subI ?_ | refine a_addU ?_ | refine a_subU ?_ | refine a_mulI ?_ | refine a_mulU ?_ | refine a_convI ?_ | refine a_convU ?_ | refine a_index ?_ | refine a_load ?_ | refine a_loadN ?_ | refine a_pickT ?_ | refine a_pickF ?_ | refine a_append ?_ | refine a_appendN ?_ | refine a_lookI ?_ | refine a_lookB ?_ | refine a_lenMI ?_ | refine a_go ?_ | refine a_store ?_ | refine q_call0 rfl of_tri ?_ | refine q_call0 rfl diff_tri ?_ | refine q_call0 rfl less_tri ?_ | refine q_call0 rfl add_tri ?_ | refine q_call0 rfl (Tri.keep [0, 1] (has_tri ⟨ms, newest, _, gone, _⟩ s) rfl (by (repeat' (first | exact trivial | exact rfl | refine And.intro ?_ ?_ | (simp only [renObj, renSc_int, renSc_bool, renSc_str, renSc_ptr, renSc_slice, renSc_map, renSc_nilp, renSc_nils, renSc_nilm, renSc_nilf, renSc_func, List.map_cons, List.map_nil, List.map_append, ren_ints, ren_flat, ren_u64s, ren_pks, ren_mpI, ren_mkB]; exact rfl) | (simp [Heap.get, find, Env.get_cons, renAV, renSc, renObj, rho_cons_zero, rho_cons_succ, ints, flat, u64s, pks, pk]; done)))) rfl rfl) ?_) | (show goD _ _ _ _ _ _; first | refine d_mov ?_ | refine d_endS ?_ | refine d_endQ ?_ | refine d_gT ?_ | refine d_gF ?_ | refine d_gU ?_ | refine d_gA ?_ | refine d_gB ?_ | refine d_addI ?_ | refine d_subI ?_ | refine d_addU ?_ | refine d_subU ?_ | refine d_mulI ?_ | refine d_mulU ?_ | refine d_convI ?_ | refine d_convU ?_ | refine d_index ?_ | refine d_load ?_ | refine d_loadN ?_ | refine d_pickT ?_ | refine d_pickF ?_ | refine d_lookI ?_ | refine d_lookB ?_ | refine d_lenMI ?_ | refine d_pure ?_ | refine d_read ?_ | refine d_append ?_ | refine d_appendN ?_ | refine d_eff ?_ | refine d_store ?_ | refine qd_call0 rfl (by decide) rfl of_tri ?_ | refine qd_call0 rfl (by decide) rfl diff_tri ?_ | refine qd_call0 rfl (by decide) rfl less_tri ?_ | refine qd_call0 rfl (by decide) rfl add_tri ?_ | refine qd_call0 rfl (by decide) rfl (Tri.keep [0, 1] (has_tri ⟨ms, newest, _, gone, _⟩ s) rfl (by (repeat' (first | exact trivial | exact rfl | refine And.intro ?_ ?_ | (simp only [renObj, renSc_int, renSc_bool, renSc_str, renSc_ptr, renSc_slice, renSc_map, renSc_nilp, renSc_nils, renSc_nilm, renSc_nilf, renSc_func, List.map_cons, List.map_nil, List.map_append, ren_ints, ren_flat, ren_u64s, ren_pks, ren_mpI, ren_mkB]; exact rfl) | (simp [Heap.get, find, Env.get_cons, renAV, renSc, renObj, rho_cons_zero, rho_cons_succ, ints, flat, u64s, pks, pk]; done)))) rfl rfl) ?_) | refine q_sr ?_ | refine q_r ?_ | refine q_sd ?_ | refine q_rd ?_ | refine awp_seq ?_ | refine awp_block ?_ | refine awp_skip ?_ | refine awp_exit ?_ | refine awp_ret ?_ | refine seqQ_normal ?_ | refine seqQ_exit ?_ | refine seqQ_ret ?_ | refine blockQ_normal ?_ | refine blockQ_self ?_ | refine blockQ_ret ?_ | refine loopQ_exit ?_ | refine loopQ_ret ?_ | refine a_ifT ?_ | refine a_ifF ?_ | refine a_ifA ?_ | refine a_ifB ?_ | refine blockQ_other (by decide) ?_ | refine s_cE (fun hc hd => ?_) (fun hc hd => ?_) | refine s_cX (fun hc hd => ?_) (fun hc hd => ?_) | refine s_cD (fun hc hd => ?_) (fun hc hd => ?_) | refine s_cN (fun hc hd => ?_) (fun hc hd => ?_) | refine s_c (fun hc hd => ?_) (fun hc hd => ?_) | refine s_aE (fun hc hd => ?_) (fun hc hd => ?_) | refine s_aX (fun hc hd => ?_) (fun hc hd => ?_) | refine s_aD (fun hc hd => ?_) (fun hc hd => ?_) | refine s_aN (fun hc hd => ?_) (fun hc hd => ?_) | refine s_a (fun hc hd => ?_) (fun hc hd => ?_) | refine s_dE (fun hc hd => ?_) (fun hc hd => ?_) | refine s_dX (fun hc hd => ?_) (fun hc hd => ?_) | refine s_dD (fun hc hd => ?_) (fun hc hd => ?_) | refine s_dN (fun hc hd => ?_) (fun hc hd => ?_) | refine s_d (fun hc hd => ?_) (fun hc hd => ?_)))
  all_goals first
    | (simp only [*, mset_twice, if_true, if_false, Bool.false_eq_true, Bool.and_true, Bool.true_and, Bool.and_false, Bool.false_and, Bool.or_false, Bool.or_true, Bool.false_or, Bool.true_or, Bool.not_true, Bool.not_false]; exact retR_hp [0, 1] rfl rfl (by (repeat' (first | exact trivial | exact rfl | refine And.intro ?_ ?_ | (simp only [renObj, renSc_int, renSc_bool, renSc_str, renSc_ptr, renSc_slice, renSc_map, renSc_nilp, renSc_nils, renSc_nilm, renSc_nilf, renSc_func, List.map_cons, List.map_nil, List.map_append, ren_ints, ren_flat, ren_u64s, ren_pks, ren_mpI, ren_mkB]; exact rfl) | (simp [Heap.get, find, Env.get_cons, renAV, renSc, renObj, rho_cons_zero, rho_cons_succ, ints, flat, u64s, pks, pk]; done)))) rfl rfl)
    | skip
  all_goals
    refine q_call1 rfl (drop_tri (g := 0) (m := 1) (newest := s) (f := 80) (caps := [(2, 0)]) (es := mpI _) rfl rfl (by rw [mpI_keys]; first | exact mset_nodup (mset_nodup hk) | exact mset_nodup hk) (farFrom s) (fun x _ _ => far_tri rfl)) ?_
    rw [mpI_filter (fun x => x == s || !farFrom s x)]
    (repeat (first | (show aops _ _ _ _ _; first | refine a_mov ?_ | refine a_endS ?_ | refine a_endQ ?_ | refine a_gT ?_ | refine a_gF ?_ | refine a_gU ?_ | refine a_gA ?_ | refine a_gB ?_ | refine a_addI ?_ | refine a_subI ?_ | refine a_addU ?_ | refine a_subU ?_ | refine a_mulI ?_ | refine a_mulU ?_ | refine a_convI ?_ | refine a_convU ?_ | refine a_index ?_ | refine a_load ?_ | refine a_loadN ?_ | refine a_pickT ?_ | refine a_pickF ?_ | refine a_append ?_ | refine a_appendN ?_ | refine a_lookI ?_ | refine a_lookB ?_ | refine a_lenMI ?_ | refine a_go ?_ | refine a_store ?_ | refine q_call0 rfl of_tri ?_ | refine q_call0 rfl diff_tri ?_ | refine q_call0 rfl less_tri ?_ | refine q_call0 rfl add_tri ?_ | refine q_call0 rfl (Tri.keep [0, 1] (has_tri ⟨ms, newest, _, gone, _⟩ s) rfl (by (repeat' (first | exact trivial | exact rfl | refine And.intro ?_ ?_ | (simp only [renObj, renSc_int, renSc_bool, renSc_str, renSc_ptr, renSc_slice, renSc_map, renSc_nilp, renSc_nils, renSc_nilm, renSc_nilf, renSc_func, List.map_cons, List.map_nil, List.map_append, ren_ints, ren_flat, ren_u64s, ren_pks, ren_mpI, ren_mkB]; exact rfl) | (simp [Heap.get, find, Env.get_cons, renAV, renSc, renObj, rho_cons_zero, rho_cons_succ, ints, flat, u64s, pks, pk]; done)))) rfl rfl) ?_) | (show goD _ _ _ _ _ _; first | refine d_mov ?_ | refine d_endS ?_ | refine d_endQ ?_ | refine d_gT ?_ | refine d_gF ?_ | refine d_gU ?_ | refine d_gA ?_ | refine d_gB ?_ | refine d_addI ?_ | refine d_subI ?_ | refine d_addU ?_ | refine d_subU ?_ | refine d_mulI ?_ | refine d_mulU ?_ | refine d_convI ?_ | refine d_convU ?_ | refine d_index ?_ | refine d_load ?_ | refine d_loadN ?_ | refine d_pickT ?_ | refine d_pickF ?_ | refine d_lookI ?_ | refine d_lookB ?_ | refine d_lenMI ?_ | refine d_pure ?_ | refine d_read ?_ | refine d_append ?_ | refine d_appendN ?_ | refine d_eff ?_ | refine d_store ?_ | refine qd_call0 rfl (by decide) rfl of_tri ?_ | refine qd_call0 rfl (by decide) rfl diff_tri ?_ | refine qd_call0 rfl (by decide) rfl less_tri ?_ | refine qd_call0 rfl (by decide) rfl add_tri ?_ | refine qd_call0 rfl (by decide) rfl (Tri.keep [0, 1] (has_tri ⟨ms, newest, _, gone, _⟩ s) rfl (by (repeat' (first | exact trivial | exact rfl | refine And.intro ?_ ?_ | (simp only [renObj, renSc_int, renSc_bool, renSc_str, renSc_ptr, renSc_slice, renSc_map, renSc_nilp, renSc_nils, renSc_nilm, renSc_nilf, renSc_func, List.map_cons, List.map_nil, List.map_append, ren_ints, ren_flat, ren_u64s, ren_pks, ren_mpI, ren_mkB]; exact rfl) | (simp [Heap.get, find, Env.get_cons, renAV, renSc, renObj, rho_cons_zero, rho_cons_succ, ints, flat, u64s, pks, pk]; done)))) rfl rfl) ?_) | refine q_sr ?_ | refine q_r ?_ | refine q_sd ?_ | refine q_rd ?_ | refine awp_seq ?_ | refine awp_block ?_ | refine awp_skip ?_ | refine awp_exit ?_ | refine awp_ret ?_ | refine seqQ_normal ?_ | refine seqQ_exit ?_ | refine seqQ_ret ?_ | refine blockQ_normal ?_ | refine blockQ_self ?_ | refine blockQ_ret ?_ | refine loopQ_exit ?_ | refine loopQ_ret ?_ | refine a_ifT ?_ | refine a_ifF ?_ | refine a_ifA ?_ | refine a_ifB ?_ | refine blockQ_other (by decide) ?_))
    simp only [*, mset_twice, if_true, if_false, Bool.false_eq_true, Bool.and_true, Bool.true_and, Bool.and_false, Bool.false_and, Bool.or_false, Bool.or_true, Bool.false_or, Bool.true_or, Bool.not_true, Bool.not_false]; exact retR_hp [0, 1] rfl rfl (by (repeat' (first | exact trivial | exact rfl | refine And.intro ?_ ?_ | (simp only [renObj, renSc_int, renSc_bool, renSc_str, renSc_ptr, renSc_slice, renSc_map, renSc_nilp, renSc_nils, renSc_nilm, renSc_nilf, renSc_func, List.map_cons, List.map_nil, List.map_append, ren_ints, ren_flat, ren_u64s, ren_pks, ren_mpI, ren_mkB]; exact rfl) | (simp [Heap.get, find, Env.get_cons, renAV, renSc, renObj, rho_cons_zero, rho_cons_succ, ints, flat, u64s, pks, pk]; done)))) rfl rfl

end Go.Proofs.YtofkoppfkekngaaGreatDoor

/- got's Forget and Cells: what they compute. -/
namespace Go.Proofs.YtofkoppfkekngaaGreatDoor
open Go.Abs
set_option linter.unusedSimpArgs false
attribute [local irreducible] aops awp goD seqQ blockQ loopQ regS regQ Tri seqLess seqDiff farFrom sOf

theorem retN {rs : List ARes} {h0 h1 : Heap} {e : Env} {Q : AV → Heap → Prop} (h : RetR rs h0 Q .ret e h1) : RetR rs h0 Q .normal e h1 := h

theorem keepsOf_tri {h : Heap} {k : Nat} {s x : Int} (hk : h.get k = some (.cells [.int .u64 s])) : Tri Tryz.prog 88 [.sc (.int .u64 x), .sc (.ptr k 0)] h fun v h' => v = .sc (.bool (!seqLess s x)) ∧ h' = h := by
  refine Tri.of_bodyR progOk Tryz.func88 k88 c88 rfl fun _ _ => ?_
  dsimp only [a88]
  (repeat (first | (show aops _ _ _ _ _; first | refine a_mov ?_ | refine a_endS ?_ | refine a_endQ ?_ | refine a_gT ?_ | refine a_gF ?_ | refine a_gU ?_ | refine a_gA ?_ | refine a_gB ?_ | refine a_addI ?_ | refine a_subI ?_ | refine a_addU ?_ | refine a_subU ?_ | refine a_mulI ?_ | refine a_mulU ?_ | refine a_convI ?_ | refine a_convU ?_ | refine a_index ?_ | refine a_load ?_ | refine a_loadN ?_ | refine a_pickT ?_ | refine a_pickF ?_ | refine a_append ?_ | refine a_appendN ?_ | refine a_lookI ?_ | refine a_lookB ?_ | refine a_lenMI ?_ | refine a_go ?_ | refine a_store ?_ | refine q_call0 rfl of_tri ?_ | refine q_call0 rfl diff_tri ?_ | refine q_call0 rfl less_tri ?_ | refine q_call0 rfl add_tri ?_) | refine q_sr ?_ | refine q_r ?_ | refine q_sd ?_ | refine q_rd ?_ | refine awp_seq ?_ | refine awp_block ?_ | refine awp_skip ?_ | refine awp_exit ?_ | refine awp_ret ?_ | refine seqQ_normal ?_ | refine seqQ_exit ?_ | refine seqQ_ret ?_ | refine blockQ_normal ?_ | refine blockQ_self ?_ | refine blockQ_ret ?_ | refine loopQ_exit ?_ | refine loopQ_ret ?_ | refine a_ifT ?_ | refine a_ifF ?_ | refine a_ifA ?_ | refine a_ifB ?_ | refine blockQ_other (by decide) ?_))
  refine aops_go (aop_load rfl hk rfl) ?_
  (repeat (first | (show aops _ _ _ _ _; first | refine a_mov ?_ | refine a_endS ?_ | refine a_endQ ?_ | refine a_gT ?_ | refine a_gF ?_ | refine a_gU ?_ | refine a_gA ?_ | refine a_gB ?_ | refine a_addI ?_ | refine a_subI ?_ | refine a_addU ?_ | refine a_subU ?_ | refine a_mulI ?_ | refine a_mulU ?_ | refine a_convI ?_ | refine a_convU ?_ | refine a_index ?_ | refine a_load ?_ | refine a_loadN ?_ | refine a_pickT ?_ | refine a_pickF ?_ | refine a_append ?_ | refine a_appendN ?_ | refine a_lookI ?_ | refine a_lookB ?_ | refine a_lenMI ?_ | refine a_go ?_ | refine a_store ?_ | refine q_call0 rfl of_tri ?_ | refine q_call0 rfl diff_tri ?_ | refine q_call0 rfl less_tri ?_ | refine q_call0 rfl add_tri ?_) | refine q_sr ?_ | refine q_r ?_ | refine q_sd ?_ | refine q_rd ?_ | refine awp_seq ?_ | refine awp_block ?_ | refine awp_skip ?_ | refine awp_exit ?_ | refine awp_ret ?_ | refine seqQ_normal ?_ | refine seqQ_exit ?_ | refine seqQ_ret ?_ | refine blockQ_normal ?_ | refine blockQ_self ?_ | refine blockQ_ret ?_ | refine loopQ_exit ?_ | refine loopQ_ret ?_ | refine a_ifT ?_ | refine a_ifF ?_ | refine a_ifA ?_ | refine a_ifB ?_ | refine blockQ_other (by decide) ?_))
  exact retR_0 rfl rfl

def GotSt.forget (g : GotSt) (s0 : Int) : GotSt :=
  let s := sOf s0
  ⟨g.ms.filter fun p => p.1 == g.newest || !(!seqLess s p.1), g.newest, g.any, if !g.forgot || seqLess g.gone s then s else g.gone, true⟩

set_option maxHeartbeats 4000000 in
theorem forget_tri (g : GotSt) (hk : (g.ms.map (·.1)).Nodup) (s0 : Int) : Tri Tryz.prog 44 [.sc (.ptr 0 0), .sc (.int .u64 s0)] (hp g.os) (Ans (.tup []) (g.forget s0).os) := by
  refine Tri.of_bodyR progOk Tryz.func44 k44 c44 rfl fun _ _ => ?_
  dsimp only [a44]
  obtain ⟨ms, newest, any, gone, forgot⟩ := g
  simp only [GotSt.os]
  have hp0 : GotSt.forget ⟨ms, newest, any, gone, forgot⟩ s0 = ⟨ms.filter fun p => p.1 == newest || !(!seqLess (sOf s0) p.1), newest, any, if !forgot || seqLess gone (sOf s0) then sOf s0 else gone, true⟩ := rfl
  rw [hp0]
  (repeat' (first | (show aops _ _ _ _ _; first | refine a_mov ?_ | refine a_endS ?_ | refine a_endQ ?_ | refine a_gT ?_ | refine a_gF ?_ | refine a_gU ?_ | refine a_gA ?_ | refine a_gB ?_ | refine a_addI ?_ | refine a_subI ?_ | refine a_addU ?_ | refine a_subU ?_ | refine a_mulI ?_ | refine a_mulU ?_ | refine a_convI ?_ | refine a_convU ?_ | refine a_index ?_ | refine a_load ?_ | refine a_loadN ?_ | refine a_pickT ?_ | refine a_pickF ?_ | refine a_append ?_ | refine a_appendN ?_ | refine a_lookI ?_ | refine a_lookB ?_ | refine a_lenMI ?_ | refine a_go ?_ | refine a_store ?_ | refine q_call0 rfl of_tri ?_ | refine q_call0 rfl diff_tri ?_ | refine q_call0 rfl less_tri ?_ | refine q_call0 rfl add_tri ?_) | (show goD _ _ _ _ _ _; first | refine d_mov ?_ | refine d_endS ?_ | refine d_endQ ?_ | refine d_gT ?_ | refine d_gF ?_ | refine d_gU ?_ | refine d_gA ?_ | refine d_gB ?_ | refine d_addI ?_ | refine d_subI ?_ | refine d_addU ?_ | refine d_subU ?_ | refine d_mulI ?_ | refine d_mulU ?_ | refine d_convI ?_ | refine d_convU ?_ | refine d_index ?_ | refine d_load ?_ | refine d_loadN ?_ | refine d_pickT ?_ | refine d_pickF ?_ | refine d_lookI ?_ | refine d_lookB ?_ | refine d_lenMI ?_ | refine d_pure ?_ | refine d_read ?_ | refine d_append ?_ | refine d_appendN ?_ | refine d_eff ?_ | refine d_store ?_ | refine qd_call0 rfl (by decide) rfl of_tri ?_ | refine qd_call0 rfl (by decide) rfl diff_tri ?_ | refine qd_call0 rfl (by decide) rfl less_tri ?_ | refine qd_call0 rfl (by decide) rfl add_tri ?_) | refine q_sr ?_ | refine q_r ?_ | refine q_sd ?_ | refine q_rd ?_ | refine awp_seq ?_ | refine awp_block ?_ | refine awp_skip ?_ | refine awp_exit ?_ | refine awp_ret ?_ | refine seqQ_normal ?_ | refine seqQ_exit ?_ | refine seqQ_ret ?_ | refine blockQ_normal ?_ | refine blockQ_self ?_ | refine blockQ_ret ?_ | refine loopQ_exit ?_ | refine loopQ_ret ?_ | refine a_ifT ?_ | refine a_ifF ?_ | refine a_ifA ?_ | refine a_ifB ?_ | refine blockQ_other (by decide) ?_ | refine s_cE (fun hc hd => ?_) (fun hc hd => ?_) | refine s_cX (fun hc hd => ?_) (fun hc hd => ?_) | refine s_cD (fun hc hd => ?_) (fun hc hd => ?_) | refine s_cN (fun hc hd => ?_) (fun hc hd => ?_) | refine s_c (fun hc hd => ?_) (fun hc hd => ?_) | refine s_aE (fun hc hd => ?_) (fun hc hd => ?_) | refine s_aX (fun hc hd => ?_) (fun hc hd => ?_) | refine s_aD (fun hc hd => ?_) (fun hc hd => ?_) | refine s_aN (fun hc hd => ?_) (fun hc hd => ?_) | refine s_a (fun hc hd => ?_) (fun hc hd => ?_) | refine s_dE (fun hc hd => ?_) (fun hc hd => ?_) | refine s_dX (fun hc hd => ?_) (fun hc hd => ?_) | refine s_dD (fun hc hd => ?_) (fun hc hd => ?_) | refine s_dN (fun hc hd => ?_) (fun hc hd => ?_) | refine s_d (fun hc hd => ?_) (fun hc hd => ?_)))
  all_goals
    refine q_call1 rfl (drop_tri (g := 0) (m := 1) (newest := newest) (f := 88) (caps := [(2, 0)]) (es := mpI _) rfl rfl (by rw [mpI_keys]; exact hk) (fun x => !seqLess (sOf s0) x) (fun x _ _ => keepsOf_tri rfl)) ?_
    rw [mpI_filter (fun x => x == newest || !(!seqLess (sOf s0) x))]
    (repeat (first | (show aops _ _ _ _ _; first | refine a_mov ?_ | refine a_endS ?_ | refine a_endQ ?_ | refine a_gT ?_ | refine a_gF ?_ | refine a_gU ?_ | refine a_gA ?_ | refine a_gB ?_ | refine a_addI ?_ | refine a_subI ?_ | refine a_addU ?_ | refine a_subU ?_ | refine a_mulI ?_ | refine a_mulU ?_ | refine a_convI ?_ | refine a_convU ?_ | refine a_index ?_ | refine a_load ?_ | refine a_loadN ?_ | refine a_pickT ?_ | refine a_pickF ?_ | refine a_append ?_ | refine a_appendN ?_ | refine a_lookI ?_ | refine a_lookB ?_ | refine a_lenMI ?_ | refine a_go ?_ | refine a_store ?_ | refine q_call0 rfl of_tri ?_ | refine q_call0 rfl diff_tri ?_ | refine q_call0 rfl less_tri ?_ | refine q_call0 rfl add_tri ?_) | (show goD _ _ _ _ _ _; first | refine d_mov ?_ | refine d_endS ?_ | refine d_endQ ?_ | refine d_gT ?_ | refine d_gF ?_ | refine d_gU ?_ | refine d_gA ?_ | refine d_gB ?_ | refine d_addI ?_ | refine d_subI ?_ | refine d_addU ?_ | refine d_subU ?_ | refine d_mulI ?_ | refine d_mulU ?_ | refine d_convI ?_ | refine d_convU ?_ | refine d_index ?_ | refine d_load ?_ | refine d_loadN ?_ | refine d_pickT ?_ | refine d_pickF ?_ | refine d_lookI ?_ | refine d_lookB ?_ | refine d_lenMI ?_ | refine d_pure ?_ | refine d_read ?_ | refine d_append ?_ | refine d_appendN ?_ | refine d_eff ?_ | refine d_store ?_ | refine qd_call0 rfl (by decide) rfl of_tri ?_ | refine qd_call0 rfl (by decide) rfl diff_tri ?_ | refine qd_call0 rfl (by decide) rfl less_tri ?_ | refine qd_call0 rfl (by decide) rfl add_tri ?_) | refine q_sr ?_ | refine q_r ?_ | refine q_sd ?_ | refine q_rd ?_ | refine awp_seq ?_ | refine awp_block ?_ | refine awp_skip ?_ | refine awp_exit ?_ | refine awp_ret ?_ | refine seqQ_normal ?_ | refine seqQ_exit ?_ | refine seqQ_ret ?_ | refine blockQ_normal ?_ | refine blockQ_self ?_ | refine blockQ_ret ?_ | refine loopQ_exit ?_ | refine loopQ_ret ?_ | refine a_ifT ?_ | refine a_ifF ?_ | refine a_ifA ?_ | refine a_ifB ?_ | refine blockQ_other (by decide) ?_))
    simp only [*, if_true, if_false, Bool.false_eq_true, Bool.or_false, Bool.or_true, Bool.false_or, Bool.true_or, Bool.not_true, Bool.not_false]
    exact retN (retR_hp [0, 1] rfl rfl (by (repeat' (first | exact trivial | exact rfl | refine And.intro ?_ ?_ | (simp only [renObj, renSc_int, renSc_bool, renSc_str, renSc_ptr, renSc_slice, renSc_map, renSc_nilp, renSc_nils, renSc_nilm, renSc_nilf, renSc_func, List.map_cons, List.map_nil, List.map_append, ren_ints, ren_flat, ren_u64s, ren_pks, ren_mpI, ren_mkB]; exact rfl) | (simp [Heap.get, find, Env.get_cons, renAV, renSc, renObj, rho_cons_zero, rho_cons_succ, ints, flat, u64s, pks, pk]; done)))) rfl rfl)

/-- The states from a number down. -/
def cellsGo (ms : List (Int × Int)) : Nat → Int → Int → Option (List Int)
  | 0, _, left => if left > 0 then none else some []
  | f + 1, cur, left => if left > 0 then
      match mget cur ms with
      | some s => (cellsGo ms f (seqAdd cur (-1)) (left - 1)).map (s :: ·)
      | none => (cellsGo ms f (seqAdd cur (-1)) left).map (3 :: ·)
    else some []

def inS (k : Nat) : List Int → Sc
  | [] => .nils
  | _ :: out => .slice k 0 (out.length + 1) 1
def ceS (k : Nat) : List (Int × Int) → Sc
  | [] => .nils
  | _ :: out => .slice k 0 (out.length + 1) 2
def ceO : List (Int × Int) → List (Option AObj)
  | [] => []
  | x :: out => [some (.cells (flat (x :: out)))]

theorem slAt_own {h : Heap} {k n sz : Nat} {vs : List Sc} (hg : h.read k = some vs) (hl : vs.length = n * sz) : SlAt h (.slice k 0 n sz) sz vs n := ⟨hl, .inr ⟨k, 0, rfl, .inr (cellsAt_all hg hl)⟩⟩
theorem slAt_nil {h : Heap} {sz : Nat} : SlAt h .nils sz [] 0 := ⟨by simp, .inl ⟨rfl, rfl⟩⟩
theorem inS_snoc (k : Nat) (l : List Int) (x : Int) : inS k (l ++ [x]) = .slice k 0 (l.length + 1) 1 := by cases l <;> simp [inS]
theorem intO_snoc (l : List Int) (x : Int) : intO (l ++ [x]) = [some (.cells (ints l ++ [.int .i64 x]))] := by cases l <;> simp [intO, ints]

set_option maxHeartbeats 4000000 in
theorem cells_tri (g : GotSt) {fuel : Nat} {L : List Int} (hL : cellsGo g.ms fuel g.newest g.ms.length = some L) (hlen : L.length ≤ 1000000) (hms : g.ms.length ≤ 1000000) :
    Tri Tryz.prog 25 [.sc (.ptr 0 0)] (hp g.os) (Ans (.sc (ceS 2 ((ofGo [] L).getD []))) (g.os ++ ceO ((ofGo [] L).getD []))) := by
  refine Tri.of_bodyR progOk Tryz.func25 k25 c25 rfl fun hw _ => ?_
  dsimp only [a25]
  obtain ⟨ms, newest, any, gone, forgot⟩ := g
  simp only [GotSt.os]
  dsimp only at hL hms
  (repeat (first | (show aops _ _ _ _ _; first | refine a_mov ?_ | refine a_endS ?_ | refine a_endQ ?_ | refine a_gT ?_ | refine a_gF ?_ | refine a_gU ?_ | refine a_gA ?_ | refine a_gB ?_ | refine a_addI ?_ | refine a_subI ?_ | refine a_addU ?_ | refine a_subU ?_ | refine a_mulI ?_ | refine a_mulU ?_ | refine a_convI ?_ | refine a_convU ?_ | refine a_index ?_ | refine a_load ?_ | refine a_loadN ?_ | refine a_pickT ?_ | refine a_pickF ?_ | refine a_append ?_ | refine a_appendN ?_ | refine a_lookI ?_ | refine a_lookB ?_ | refine a_lenMI ?_ | refine a_go ?_ | refine a_store ?_ | refine q_call0 rfl of_tri ?_ | refine q_call0 rfl diff_tri ?_ | refine q_call0 rfl less_tri ?_ | refine q_call0 rfl add_tri ?_) | (show goD _ _ _ _ _ _; first | refine d_mov ?_ | refine d_endS ?_ | refine d_endQ ?_ | refine d_gT ?_ | refine d_gF ?_ | refine d_gU ?_ | refine d_gA ?_ | refine d_gB ?_ | refine d_addI ?_ | refine d_subI ?_ | refine d_addU ?_ | refine d_subU ?_ | refine d_mulI ?_ | refine d_mulU ?_ | refine d_convI ?_ | refine d_convU ?_ | refine d_index ?_ | refine d_load ?_ | refine d_loadN ?_ | refine d_pickT ?_ | refine d_pickF ?_ | refine d_lookI ?_ | refine d_lookB ?_ | refine d_lenMI ?_ | refine d_pure ?_ | refine d_read ?_ | refine d_append ?_ | refine d_appendN ?_ | refine d_eff ?_ | refine d_store ?_ | refine qd_call0 rfl (by decide) rfl of_tri ?_ | refine qd_call0 rfl (by decide) rfl diff_tri ?_ | refine qd_call0 rfl (by decide) rfl less_tri ?_ | refine qd_call0 rfl (by decide) rfl add_tri ?_) | refine q_sr ?_ | refine q_r ?_ | refine q_sd ?_ | refine q_rd ?_ | refine awp_seq ?_ | refine awp_block ?_ | refine awp_skip ?_ | refine awp_exit ?_ | refine awp_ret ?_ | refine seqQ_normal ?_ | refine seqQ_exit ?_ | refine seqQ_ret ?_ | refine blockQ_normal ?_ | refine blockQ_self ?_ | refine blockQ_ret ?_ | refine loopQ_exit ?_ | refine loopQ_ret ?_ | refine a_ifT ?_ | refine a_ifF ?_ | refine a_ifA ?_ | refine a_ifB ?_ | refine blockQ_other (by decide) ?_))
  refine awp_loop (fun m e1 h1 => ∃ (out rest : List Int) (cur left : Int), cellsGo ms m cur left = some rest ∧ out ++ rest = L ∧ left ≤ 1000000 ∧ h1 = hp (some (.cells [.map 1, .int .u64 newest, .bool any, .int .u64 gone, .bool forgot]) :: some (.map .u64 (mpI ms)) :: intO out) ∧ e1 = [(0, .sc (.ptr 0 0)), (3, .sc (inS 2 out)), (4, .sc (.int .i64 left)), (5, .sc (.int .u64 cur))]) fuel (e0 := [(0, .sc (.ptr 0 0)), (3, .sc .nils), (4, .sc (.int .i64 ms.length)), (5, .sc (.int .u64 newest))]) (h0 := hp [some (.cells [.map 1, .int .u64 newest, .bool any, .int .u64 gone, .bool forgot]), some (.map .u64 (mpI ms))]) (fgtE_hp [0, 1] (by (repeat' (first | exact trivial | exact rfl | refine And.intro ?_ ?_ | (simp only [renObj, renSc_int, renSc_bool, renSc_str, renSc_ptr, renSc_slice, renSc_map, renSc_nilp, renSc_nils, renSc_nilm, renSc_nilf, renSc_func, List.map_cons, List.map_nil, List.map_append, ren_ints, ren_flat, ren_u64s, ren_pks, ren_mpI, ren_mkB]; exact rfl) | (simp [Heap.get, find, Env.get_cons, renAV, renSc, renObj, rho_cons_zero, rho_cons_succ, ints, flat, u64s, pks, pk, inS, intO]; done)))) (by (repeat' (first | exact trivial | exact rfl | refine And.intro ?_ ?_ | (simp only [renObj, renSc_int, renSc_bool, renSc_str, renSc_ptr, renSc_slice, renSc_map, renSc_nilp, renSc_nils, renSc_nilm, renSc_nilf, renSc_func, List.map_cons, List.map_nil, List.map_append, ren_ints, ren_flat, ren_u64s, ren_pks, ren_mpI, ren_mkB]; exact rfl) | (simp [Heap.get, find, Env.get_cons, renAV, renSc, renObj, rho_cons_zero, rho_cons_succ, ints, flat, u64s, pks, pk, inS, intO]; done)))) rfl rfl) ⟨[], L, newest, ms.length, hL, rfl, by omega, rfl, rfl⟩ ?_
  rintro m e1 h1 ⟨out, rest, cur, left, hgo, hor, hle, rfl, rfl⟩ hw1
  have hol : out.length + rest.length = L.length := by rw [← hor, List.length_append]
  rcases Int.lt_or_le 0 left with hl | hl
  · have hc : decide (left > 0) = true := by simp only [decide_eq_true_eq]; omega
    cases m with
    | zero => simp only [cellsGo, if_pos hl] at hgo; cases hgo
    | succ m =>
      simp only [cellsGo, if_pos hl] at hgo
      cases hm : mget cur ms with
      | some s =>
        rw [hm] at hgo
        obtain ⟨rest', hr1, rfl⟩ := Option.map_eq_some_iff.1 hgo
        have f1 : (!(mget cur ms).isSome) = false := by rw [hm]; rfl
        have f2 : (mget cur ms).getD 0 = s := by rw [hm]; rfl
        simp only [List.length_cons] at hol
        cases out with
        | nil =>
          simp only [inS, intO]
          (repeat (first | (show aops _ _ _ _ _; first | refine a_mov ?_ | refine a_endS ?_ | refine a_endQ ?_ | refine a_gT ?_ | refine a_gF ?_ | refine a_gU ?_ | refine a_gA ?_ | refine a_gB ?_ | refine a_addI ?_ | refine a_subI ?_ | refine a_addU ?_ | refine a_subU ?_ | refine a_mulI ?_ | refine a_mulU ?_ | refine a_convI ?_ | refine a_convU ?_ | refine a_index ?_ | refine a_load ?_ | refine a_loadN ?_ | refine a_pickT ?_ | refine a_pickF ?_ | refine a_append ?_ | refine a_appendN ?_ | refine a_lookI ?_ | refine a_lookB ?_ | refine a_lenMI ?_ | refine a_go ?_ | refine a_store ?_ | refine q_call0 rfl of_tri ?_ | refine q_call0 rfl diff_tri ?_ | refine q_call0 rfl less_tri ?_ | refine q_call0 rfl add_tri ?_) | refine q_sr ?_ | refine q_r ?_ | refine q_sd ?_ | refine q_rd ?_ | refine awp_seq ?_ | refine awp_block ?_ | refine awp_skip ?_ | refine awp_exit ?_ | refine awp_ret ?_ | refine seqQ_normal ?_ | refine seqQ_exit ?_ | refine seqQ_ret ?_ | refine blockQ_normal ?_ | refine blockQ_self ?_ | refine blockQ_ret ?_ | refine loopQ_exit ?_ | refine loopQ_ret ?_ | refine a_ifT ?_ | refine a_ifF ?_ | refine a_ifA ?_ | refine a_ifB ?_ | refine blockQ_other (by decide) ?_))
          simp only [f2]
          exact loopQ_normal (m := m) (by omega) (fgtE_hp [0, 1, 3] (os := some (.cells [.map 1, .int .u64 newest, .bool any, .int .u64 gone, .bool forgot]) :: some (.map .u64 (mpI ms)) :: intO ([] ++ [s])) (e := [(0, .sc (.ptr 0 0)), (3, .sc (inS 2 ([] ++ [s]))), (4, .sc (.int .i64 (left - 1))), (5, .sc (.int .u64 (seqAdd cur (-1))))]) (by (repeat' (first | exact trivial | exact rfl | refine And.intro ?_ ?_ | (simp only [renObj, renSc_int, renSc_bool, renSc_str, renSc_ptr, renSc_slice, renSc_map, renSc_nilp, renSc_nils, renSc_nilm, renSc_nilf, renSc_func, List.map_cons, List.map_nil, List.map_append, ren_ints, ren_flat, ren_u64s, ren_pks, ren_mpI, ren_mkB]; exact rfl) | (simp [Heap.get, find, Env.get_cons, renAV, renSc, renObj, rho_cons_zero, rho_cons_succ, ints, flat, u64s, pks, pk, inS, intO]; done)))) (by (repeat' (first | exact trivial | exact rfl | refine And.intro ?_ ?_ | (simp only [renObj, renSc_int, renSc_bool, renSc_str, renSc_ptr, renSc_slice, renSc_map, renSc_nilp, renSc_nils, renSc_nilm, renSc_nilf, renSc_func, List.map_cons, List.map_nil, List.map_append, ren_ints, ren_flat, ren_u64s, ren_pks, ren_mpI, ren_mkB]; exact rfl) | (simp [Heap.get, find, Env.get_cons, renAV, renSc, renObj, rho_cons_zero, rho_cons_succ, ints, flat, u64s, pks, pk, inS, intO]; done)))) rfl rfl) ⟨([] ++ [s]), rest', _, _, hr1, by rw [← hor]; simp, by omega, rfl, rfl⟩
        | cons y out =>
          simp only [List.length_cons] at hol
          simp only [inS, intO]
          (repeat (first | (show aops _ _ _ _ _; first | refine a_mov ?_ | refine a_endS ?_ | refine a_endQ ?_ | refine a_gT ?_ | refine a_gF ?_ | refine a_gU ?_ | refine a_gA ?_ | refine a_gB ?_ | refine a_addI ?_ | refine a_subI ?_ | refine a_addU ?_ | refine a_subU ?_ | refine a_mulI ?_ | refine a_mulU ?_ | refine a_convI ?_ | refine a_convU ?_ | refine a_index ?_ | refine a_load ?_ | refine a_loadN ?_ | refine a_pickT ?_ | refine a_pickF ?_ | refine a_append ?_ | refine a_appendN ?_ | refine a_lookI ?_ | refine a_lookB ?_ | refine a_lenMI ?_ | refine a_go ?_ | refine a_store ?_ | refine q_call0 rfl of_tri ?_ | refine q_call0 rfl diff_tri ?_ | refine q_call0 rfl less_tri ?_ | refine q_call0 rfl add_tri ?_) | refine q_sr ?_ | refine q_r ?_ | refine q_sd ?_ | refine q_rd ?_ | refine awp_seq ?_ | refine awp_block ?_ | refine awp_skip ?_ | refine awp_exit ?_ | refine awp_ret ?_ | refine seqQ_normal ?_ | refine seqQ_exit ?_ | refine seqQ_ret ?_ | refine blockQ_normal ?_ | refine blockQ_self ?_ | refine blockQ_ret ?_ | refine loopQ_exit ?_ | refine loopQ_ret ?_ | refine a_ifT ?_ | refine a_ifF ?_ | refine a_ifA ?_ | refine a_ifB ?_ | refine blockQ_other (by decide) ?_))
          simp only [f2]
          exact loopQ_normal (m := m) (by omega) (fgtE_hp [0, 1, 4] (os := some (.cells [.map 1, .int .u64 newest, .bool any, .int .u64 gone, .bool forgot]) :: some (.map .u64 (mpI ms)) :: intO ((y :: out) ++ [s])) (e := [(0, .sc (.ptr 0 0)), (3, .sc (inS 2 ((y :: out) ++ [s]))), (4, .sc (.int .i64 (left - 1))), (5, .sc (.int .u64 (seqAdd cur (-1))))]) (by (repeat' (first | exact trivial | exact rfl | refine And.intro ?_ ?_ | (simp only [renObj, renSc_int, renSc_bool, renSc_str, renSc_ptr, renSc_slice, renSc_map, renSc_nilp, renSc_nils, renSc_nilm, renSc_nilf, renSc_func, List.map_cons, List.map_nil, List.map_append, ren_ints, ren_flat, ren_u64s, ren_pks, ren_mpI, ren_mkB]; exact rfl) | (simp [Heap.get, find, Env.get_cons, renAV, renSc, renObj, rho_cons_zero, rho_cons_succ, ints, flat, u64s, pks, pk, inS, intO]; done)))) (by (repeat' (first | exact trivial | exact rfl | refine And.intro ?_ ?_ | (simp only [renObj, renSc_int, renSc_bool, renSc_str, renSc_ptr, renSc_slice, renSc_map, renSc_nilp, renSc_nils, renSc_nilm, renSc_nilf, renSc_func, List.map_cons, List.map_nil, List.map_append, ren_ints, ren_flat, ren_u64s, ren_pks, ren_mpI, ren_mkB]; exact rfl) | (simp [Heap.get, find, Env.get_cons, renAV, renSc, renObj, rho_cons_zero, rho_cons_succ, ints, flat, u64s, pks, pk, inS, intO]; done)))) rfl rfl) ⟨((y :: out) ++ [s]), rest', _, _, hr1, by rw [← hor]; simp, by omega, rfl, rfl⟩
      | none =>
        rw [hm] at hgo
        obtain ⟨rest', hr1, rfl⟩ := Option.map_eq_some_iff.1 hgo
        have f1 : (!(mget cur ms).isSome) = true := by rw [hm]; rfl
        simp only [List.length_cons] at hol
        cases out with
        | nil =>
          simp only [inS, intO]
          (repeat (first | (show aops _ _ _ _ _; first | refine a_mov ?_ | refine a_endS ?_ | refine a_endQ ?_ | refine a_gT ?_ | refine a_gF ?_ | refine a_gU ?_ | refine a_gA ?_ | refine a_gB ?_ | refine a_addI ?_ | refine a_subI ?_ | refine a_addU ?_ | refine a_subU ?_ | refine a_mulI ?_ | refine a_mulU ?_ | refine a_convI ?_ | refine a_convU ?_ | refine a_index ?_ | refine a_load ?_ | refine a_loadN ?_ | refine a_pickT ?_ | refine a_pickF ?_ | refine a_append ?_ | refine a_appendN ?_ | refine a_lookI ?_ | refine a_lookB ?_ | refine a_lenMI ?_ | refine a_go ?_ | refine a_store ?_ | refine q_call0 rfl of_tri ?_ | refine q_call0 rfl diff_tri ?_ | refine q_call0 rfl less_tri ?_ | refine q_call0 rfl add_tri ?_) | refine q_sr ?_ | refine q_r ?_ | refine q_sd ?_ | refine q_rd ?_ | refine awp_seq ?_ | refine awp_block ?_ | refine awp_skip ?_ | refine awp_exit ?_ | refine awp_ret ?_ | refine seqQ_normal ?_ | refine seqQ_exit ?_ | refine seqQ_ret ?_ | refine blockQ_normal ?_ | refine blockQ_self ?_ | refine blockQ_ret ?_ | refine loopQ_exit ?_ | refine loopQ_ret ?_ | refine a_ifT ?_ | refine a_ifF ?_ | refine a_ifA ?_ | refine a_ifB ?_ | refine blockQ_other (by decide) ?_))
          exact loopQ_normal (m := m) (by omega) (fgtE_hp [0, 1, 3] (os := some (.cells [.map 1, .int .u64 newest, .bool any, .int .u64 gone, .bool forgot]) :: some (.map .u64 (mpI ms)) :: intO ([] ++ [3])) (e := [(0, .sc (.ptr 0 0)), (3, .sc (inS 2 ([] ++ [3]))), (4, .sc (.int .i64 left)), (5, .sc (.int .u64 (seqAdd cur (-1))))]) (by (repeat' (first | exact trivial | exact rfl | refine And.intro ?_ ?_ | (simp only [renObj, renSc_int, renSc_bool, renSc_str, renSc_ptr, renSc_slice, renSc_map, renSc_nilp, renSc_nils, renSc_nilm, renSc_nilf, renSc_func, List.map_cons, List.map_nil, List.map_append, ren_ints, ren_flat, ren_u64s, ren_pks, ren_mpI, ren_mkB]; exact rfl) | (simp [Heap.get, find, Env.get_cons, renAV, renSc, renObj, rho_cons_zero, rho_cons_succ, ints, flat, u64s, pks, pk, inS, intO]; done)))) (by (repeat' (first | exact trivial | exact rfl | refine And.intro ?_ ?_ | (simp only [renObj, renSc_int, renSc_bool, renSc_str, renSc_ptr, renSc_slice, renSc_map, renSc_nilp, renSc_nils, renSc_nilm, renSc_nilf, renSc_func, List.map_cons, List.map_nil, List.map_append, ren_ints, ren_flat, ren_u64s, ren_pks, ren_mpI, ren_mkB]; exact rfl) | (simp [Heap.get, find, Env.get_cons, renAV, renSc, renObj, rho_cons_zero, rho_cons_succ, ints, flat, u64s, pks, pk, inS, intO]; done)))) rfl rfl) ⟨([] ++ [3]), rest', _, _, hr1, by rw [← hor]; simp, by omega, rfl, rfl⟩
        | cons y out =>
          simp only [List.length_cons] at hol
          simp only [inS, intO]
          (repeat (first | (show aops _ _ _ _ _; first | refine a_mov ?_ | refine a_endS ?_ | refine a_endQ ?_ | refine a_gT ?_ | refine a_gF ?_ | refine a_gU ?_ | refine a_gA ?_ | refine a_gB ?_ | refine a_addI ?_ | refine a_subI ?_ | refine a_addU ?_ | refine a_subU ?_ | refine a_mulI ?_ | refine a_mulU ?_ | refine a_convI ?_ | refine a_convU ?_ | refine a_index ?_ | refine a_load ?_ | refine a_loadN ?_ | refine a_pickT ?_ | refine a_pickF ?_ | refine a_append ?_ | refine a_appendN ?_ | refine a_lookI ?_ | refine a_lookB ?_ | refine a_lenMI ?_ | refine a_go ?_ | refine a_store ?_ | refine q_call0 rfl of_tri ?_ | refine q_call0 rfl diff_tri ?_ | refine q_call0 rfl less_tri ?_ | refine q_call0 rfl add_tri ?_) | refine q_sr ?_ | refine q_r ?_ | refine q_sd ?_ | refine q_rd ?_ | refine awp_seq ?_ | refine awp_block ?_ | refine awp_skip ?_ | refine awp_exit ?_ | refine awp_ret ?_ | refine seqQ_normal ?_ | refine seqQ_exit ?_ | refine seqQ_ret ?_ | refine blockQ_normal ?_ | refine blockQ_self ?_ | refine blockQ_ret ?_ | refine loopQ_exit ?_ | refine loopQ_ret ?_ | refine a_ifT ?_ | refine a_ifF ?_ | refine a_ifA ?_ | refine a_ifB ?_ | refine blockQ_other (by decide) ?_))
          exact loopQ_normal (m := m) (by omega) (fgtE_hp [0, 1, 4] (os := some (.cells [.map 1, .int .u64 newest, .bool any, .int .u64 gone, .bool forgot]) :: some (.map .u64 (mpI ms)) :: intO ((y :: out) ++ [3])) (e := [(0, .sc (.ptr 0 0)), (3, .sc (inS 2 ((y :: out) ++ [3]))), (4, .sc (.int .i64 left)), (5, .sc (.int .u64 (seqAdd cur (-1))))]) (by (repeat' (first | exact trivial | exact rfl | refine And.intro ?_ ?_ | (simp only [renObj, renSc_int, renSc_bool, renSc_str, renSc_ptr, renSc_slice, renSc_map, renSc_nilp, renSc_nils, renSc_nilm, renSc_nilf, renSc_func, List.map_cons, List.map_nil, List.map_append, ren_ints, ren_flat, ren_u64s, ren_pks, ren_mpI, ren_mkB]; exact rfl) | (simp [Heap.get, find, Env.get_cons, renAV, renSc, renObj, rho_cons_zero, rho_cons_succ, ints, flat, u64s, pks, pk, inS, intO]; done)))) (by (repeat' (first | exact trivial | exact rfl | refine And.intro ?_ ?_ | (simp only [renObj, renSc_int, renSc_bool, renSc_str, renSc_ptr, renSc_slice, renSc_map, renSc_nilp, renSc_nils, renSc_nilm, renSc_nilf, renSc_func, List.map_cons, List.map_nil, List.map_append, ren_ints, ren_flat, ren_u64s, ren_pks, ren_mpI, ren_mkB]; exact rfl) | (simp [Heap.get, find, Env.get_cons, renAV, renSc, renObj, rho_cons_zero, rho_cons_succ, ints, flat, u64s, pks, pk, inS, intO]; done)))) rfl rfl) ⟨((y :: out) ++ [3]), rest', _, _, hr1, by rw [← hor]; simp, by omega, rfl, rfl⟩
  · have hc : decide (left > 0) = false := by simp only [decide_eq_false_iff_not]; omega
    have hrest : rest = [] := by
      cases m <;> simp only [cellsGo, if_neg (Int.not_lt.2 hl)] at hgo <;> exact (Option.some.inj hgo).symm
    rw [hrest, List.append_nil] at hor
    subst hor
    cases out with
    | nil =>
      simp only [inS, intO]
      (repeat (first | (show aops _ _ _ _ _; first | refine a_mov ?_ | refine a_endS ?_ | refine a_endQ ?_ | refine a_gT ?_ | refine a_gF ?_ | refine a_gU ?_ | refine a_gA ?_ | refine a_gB ?_ | refine a_addI ?_ | refine a_subI ?_ | refine a_addU ?_ | refine a_subU ?_ | refine a_mulI ?_ | refine a_mulU ?_ | refine a_convI ?_ | refine a_convU ?_ | refine a_index ?_ | refine a_load ?_ | refine a_loadN ?_ | refine a_pickT ?_ | refine a_pickF ?_ | refine a_append ?_ | refine a_appendN ?_ | refine a_lookI ?_ | refine a_lookB ?_ | refine a_lenMI ?_ | refine a_go ?_ | refine a_store ?_ | refine q_call0 rfl of_tri ?_ | refine q_call0 rfl diff_tri ?_ | refine q_call0 rfl less_tri ?_ | refine q_call0 rfl add_tri ?_) | refine q_sr ?_ | refine q_r ?_ | refine q_sd ?_ | refine q_rd ?_ | refine awp_seq ?_ | refine awp_block ?_ | refine awp_skip ?_ | refine awp_exit ?_ | refine awp_ret ?_ | refine seqQ_normal ?_ | refine seqQ_exit ?_ | refine seqQ_ret ?_ | refine blockQ_normal ?_ | refine blockQ_self ?_ | refine blockQ_ret ?_ | refine loopQ_exit ?_ | refine loopQ_ret ?_ | refine a_ifT ?_ | refine a_ifF ?_ | refine a_ifA ?_ | refine a_ifB ?_ | refine blockQ_other (by decide) ?_))
      refine q_call1 rfl (of_vec (l := []) slAt_nil (by decide)) ?_
      simp only [ofGo, newCV, newCH, if_true, Option.getD_some]
      (repeat (first | (show aops _ _ _ _ _; first | refine a_mov ?_ | refine a_endS ?_ | refine a_endQ ?_ | refine a_gT ?_ | refine a_gF ?_ | refine a_gU ?_ | refine a_gA ?_ | refine a_gB ?_ | refine a_addI ?_ | refine a_subI ?_ | refine a_addU ?_ | refine a_subU ?_ | refine a_mulI ?_ | refine a_mulU ?_ | refine a_convI ?_ | refine a_convU ?_ | refine a_index ?_ | refine a_load ?_ | refine a_loadN ?_ | refine a_pickT ?_ | refine a_pickF ?_ | refine a_append ?_ | refine a_appendN ?_ | refine a_lookI ?_ | refine a_lookB ?_ | refine a_lenMI ?_ | refine a_go ?_ | refine a_store ?_ | refine q_call0 rfl of_tri ?_ | refine q_call0 rfl diff_tri ?_ | refine q_call0 rfl less_tri ?_ | refine q_call0 rfl add_tri ?_) | refine q_sr ?_ | refine q_r ?_ | refine q_sd ?_ | refine q_rd ?_ | refine awp_seq ?_ | refine awp_block ?_ | refine awp_skip ?_ | refine awp_exit ?_ | refine awp_ret ?_ | refine seqQ_normal ?_ | refine seqQ_exit ?_ | refine seqQ_ret ?_ | refine blockQ_normal ?_ | refine blockQ_self ?_ | refine blockQ_ret ?_ | refine loopQ_exit ?_ | refine loopQ_ret ?_ | refine a_ifT ?_ | refine a_ifF ?_ | refine a_ifA ?_ | refine a_ifB ?_ | refine blockQ_other (by decide) ?_))
      exact retR_hp [0, 1] rfl rfl (by (repeat' (first | exact trivial | exact rfl | refine And.intro ?_ ?_ | (simp only [renObj, renSc_int, renSc_bool, renSc_str, renSc_ptr, renSc_slice, renSc_map, renSc_nilp, renSc_nils, renSc_nilm, renSc_nilf, renSc_func, List.map_cons, List.map_nil, List.map_append, ren_ints, ren_flat, ren_u64s, ren_pks, ren_mpI, ren_mkB]; exact rfl) | (simp [Heap.get, find, Env.get_cons, renAV, renSc, renObj, rho_cons_zero, rho_cons_succ, ints, flat, u64s, pks, pk, inS, intO]; done)))) rfl rfl
    | cons y out =>
      simp only [List.length_cons] at hol
      simp only [inS, intO]
      (repeat (first | (show aops _ _ _ _ _; first | refine a_mov ?_ | refine a_endS ?_ | refine a_endQ ?_ | refine a_gT ?_ | refine a_gF ?_ | refine a_gU ?_ | refine a_gA ?_ | refine a_gB ?_ | refine a_addI ?_ | refine a_subI ?_ | refine a_addU ?_ | refine a_subU ?_ | refine a_mulI ?_ | refine a_mulU ?_ | refine a_convI ?_ | refine a_convU ?_ | refine a_index ?_ | refine a_load ?_ | refine a_loadN ?_ | refine a_pickT ?_ | refine a_pickF ?_ | refine a_append ?_ | refine a_appendN ?_ | refine a_lookI ?_ | refine a_lookB ?_ | refine a_lenMI ?_ | refine a_go ?_ | refine a_store ?_ | refine q_call0 rfl of_tri ?_ | refine q_call0 rfl diff_tri ?_ | refine q_call0 rfl less_tri ?_ | refine q_call0 rfl add_tri ?_) | refine q_sr ?_ | refine q_r ?_ | refine q_sd ?_ | refine q_rd ?_ | refine awp_seq ?_ | refine awp_block ?_ | refine awp_skip ?_ | refine awp_exit ?_ | refine awp_ret ?_ | refine seqQ_normal ?_ | refine seqQ_exit ?_ | refine seqQ_ret ?_ | refine blockQ_normal ?_ | refine blockQ_self ?_ | refine blockQ_ret ?_ | refine loopQ_exit ?_ | refine loopQ_ret ?_ | refine a_ifT ?_ | refine a_ifF ?_ | refine a_ifA ?_ | refine a_ifB ?_ | refine blockQ_other (by decide) ?_))
      refine q_call1 rfl (of_vec (l := y :: out) (slAt_own (vs := ints (y :: out)) rfl (by simp [ints])) hlen) ?_
      generalize (ofGo [] (y :: out)).getD [] = cs
      cases cs with
      | nil =>
        simp only [newCV, newCH, if_true]
        (repeat (first | (show aops _ _ _ _ _; first | refine a_mov ?_ | refine a_endS ?_ | refine a_endQ ?_ | refine a_gT ?_ | refine a_gF ?_ | refine a_gU ?_ | refine a_gA ?_ | refine a_gB ?_ | refine a_addI ?_ | refine a_subI ?_ | refine a_addU ?_ | refine a_subU ?_ | refine a_mulI ?_ | refine a_mulU ?_ | refine a_convI ?_ | refine a_convU ?_ | refine a_index ?_ | refine a_load ?_ | refine a_loadN ?_ | refine a_pickT ?_ | refine a_pickF ?_ | refine a_append ?_ | refine a_appendN ?_ | refine a_lookI ?_ | refine a_lookB ?_ | refine a_lenMI ?_ | refine a_go ?_ | refine a_store ?_ | refine q_call0 rfl of_tri ?_ | refine q_call0 rfl diff_tri ?_ | refine q_call0 rfl less_tri ?_ | refine q_call0 rfl add_tri ?_) | refine q_sr ?_ | refine q_r ?_ | refine q_sd ?_ | refine q_rd ?_ | refine awp_seq ?_ | refine awp_block ?_ | refine awp_skip ?_ | refine awp_exit ?_ | refine awp_ret ?_ | refine seqQ_normal ?_ | refine seqQ_exit ?_ | refine seqQ_ret ?_ | refine blockQ_normal ?_ | refine blockQ_self ?_ | refine blockQ_ret ?_ | refine loopQ_exit ?_ | refine loopQ_ret ?_ | refine a_ifT ?_ | refine a_ifF ?_ | refine a_ifA ?_ | refine a_ifB ?_ | refine blockQ_other (by decide) ?_))
        exact retR_hp [0, 1] rfl rfl (by (repeat' (first | exact trivial | exact rfl | refine And.intro ?_ ?_ | (simp only [renObj, renSc_int, renSc_bool, renSc_str, renSc_ptr, renSc_slice, renSc_map, renSc_nilp, renSc_nils, renSc_nilm, renSc_nilf, renSc_func, List.map_cons, List.map_nil, List.map_append, ren_ints, ren_flat, ren_u64s, ren_pks, ren_mpI, ren_mkB]; exact rfl) | (simp [Heap.get, find, Env.get_cons, renAV, renSc, renObj, rho_cons_zero, rho_cons_succ, ints, flat, u64s, pks, pk, inS, intO]; done)))) rfl rfl
      | cons c cs =>
        simp only [newCV, newCH, reduceCtorEq, if_false]
        (repeat (first | (show aops _ _ _ _ _; first | refine a_mov ?_ | refine a_endS ?_ | refine a_endQ ?_ | refine a_gT ?_ | refine a_gF ?_ | refine a_gU ?_ | refine a_gA ?_ | refine a_gB ?_ | refine a_addI ?_ | refine a_subI ?_ | refine a_addU ?_ | refine a_subU ?_ | refine a_mulI ?_ | refine a_mulU ?_ | refine a_convI ?_ | refine a_convU ?_ | refine a_index ?_ | refine a_load ?_ | refine a_loadN ?_ | refine a_pickT ?_ | refine a_pickF ?_ | refine a_append ?_ | refine a_appendN ?_ | refine a_lookI ?_ | refine a_lookB ?_ | refine a_lenMI ?_ | refine a_go ?_ | refine a_store ?_ | refine q_call0 rfl of_tri ?_ | refine q_call0 rfl diff_tri ?_ | refine q_call0 rfl less_tri ?_ | refine q_call0 rfl add_tri ?_) | refine q_sr ?_ | refine q_r ?_ | refine q_sd ?_ | refine q_rd ?_ | refine awp_seq ?_ | refine awp_block ?_ | refine awp_skip ?_ | refine awp_exit ?_ | refine awp_ret ?_ | refine seqQ_normal ?_ | refine seqQ_exit ?_ | refine seqQ_ret ?_ | refine blockQ_normal ?_ | refine blockQ_self ?_ | refine blockQ_ret ?_ | refine loopQ_exit ?_ | refine loopQ_ret ?_ | refine a_ifT ?_ | refine a_ifF ?_ | refine a_ifA ?_ | refine a_ifB ?_ | refine blockQ_other (by decide) ?_))
        exact retR_hp [0, 1, 3] rfl rfl (by (repeat' (first | exact trivial | exact rfl | refine And.intro ?_ ?_ | (simp only [renObj, renSc_int, renSc_bool, renSc_str, renSc_ptr, renSc_slice, renSc_map, renSc_nilp, renSc_nils, renSc_nilm, renSc_nilf, renSc_func, List.map_cons, List.map_nil, List.map_append, ren_ints, ren_flat, ren_u64s, ren_pks, ren_mpI, ren_mkB]; exact rfl) | (simp [Heap.get, find, Env.get_cons, renAV, renSc, renObj, rho_cons_zero, rho_cons_succ, ints, flat, u64s, pks, pk, inS, intO]; done)))) rfl rfl

end Go.Proofs.YtofkoppfkekngaaGreatDoor

/- got, seen from its first number: offsets in place of numbers. -/
namespace Go.Proofs.YtofkoppfkekngaaGreatDoor
open Go.Abs
set_option linter.unusedSimpArgs false

/-- The slots and the heap in a normal form. -/
theorem a_norm {T : CallP} {l : List AOper} {K : Env → Heap → Prop} {e e2 : Env} {h h2 : Heap} (hk : aops T l K e2 h2) (he : e = e2 := by (conv => lhs; (try simp only [close_nil, close_cons, Env.put_cons, Env.put_nil, Env.get_cons, Env.get_nil, bindD_some, bindD_none, Option.getD_some, Option.getD_none, Nat.reduceEqDiff, if_true, if_false, reduceIte, reduceCtorEq, initEnv, List.zipIdx_cons, List.zipIdx_nil, Go.Abs.hp, hpGo, Heap.set_mk, Heap.del_mk, Heap.alloc_mk, put_nil, put_cons, drop_nil, drop_cons, plug, plugL, plugN, rho_cons_zero, rho_nil, rho_cons_succ, renObj, renSc_int, renSc_bool, renSc_str, renSc_ptr, renSc_slice, renSc_map, renSc_nilp, renSc_nils, renSc_nilm, renSc_nilf, renSc_func, renAV, renPart, List.map_cons, List.map_nil, List.map_append, List.length_cons, List.length_nil, List.drop_zero, List.drop_succ_cons, List.drop_nil, List.take_zero, List.take_succ_cons, List.take_nil, List.nil_append, List.cons_append, List.replicate_succ, List.replicate_zero, List.flatten_cons, List.flatten_nil, List.append_nil, Nat.reduceAdd, Nat.zero_add, splice_zero, splice_succ, ren_ints, ren_flat, ren_u64s, ren_pks, ren_mpI, ren_mkB, mput_mpI, mput_mkB]))) (hh : h = h2 := by (conv => lhs; (try simp only [close_nil, close_cons, Env.put_cons, Env.put_nil, Env.get_cons, Env.get_nil, bindD_some, bindD_none, Option.getD_some, Option.getD_none, Nat.reduceEqDiff, if_true, if_false, reduceIte, reduceCtorEq, initEnv, List.zipIdx_cons, List.zipIdx_nil, Go.Abs.hp, hpGo, Heap.set_mk, Heap.del_mk, Heap.alloc_mk, put_nil, put_cons, drop_nil, drop_cons, plug, plugL, plugN, rho_cons_zero, rho_nil, rho_cons_succ, renObj, renSc_int, renSc_bool, renSc_str, renSc_ptr, renSc_slice, renSc_map, renSc_nilp, renSc_nils, renSc_nilm, renSc_nilf, renSc_func, renAV, renPart, List.map_cons, List.map_nil, List.map_append, List.length_cons, List.length_nil, List.drop_zero, List.drop_succ_cons, List.drop_nil, List.take_zero, List.take_succ_cons, List.take_nil, List.nil_append, List.cons_append, List.replicate_succ, List.replicate_zero, List.flatten_cons, List.flatten_nil, List.append_nil, Nat.reduceAdd, Nat.zero_add, splice_zero, splice_succ, ren_ints, ren_flat, ren_u64s, ren_pks, ren_mpI, ren_mkB, mput_mpI, mput_mkB]))) : aops T l K e h := aops_to he hh hk

/-- A number so far behind the first one. -/
def key (F k : Int) : Int := sOf (F + k)
/-- Near enough that nothing goes round. -/
def Near (k : Int) : Prop := -1099511627776 ≤ k ∧ k ≤ 1099511627776

theorem sOf_sOf (x : Int) : sOf (sOf x) = sOf x := by unfold sOf; omega
theorem key_key (F k j : Int) : sOf (key F k + j) = key F (k + j) := by unfold key sOf; omega
theorem diff_key {F a b : Int} (ha : Near a) (hb : Near b) : seqDiff (key F a) (key F b) = a - b := by
  unfold Near at ha hb
  unfold seqDiff key sOf
  omega
theorem less_key {F a b : Int} (ha : Near a) (hb : Near b) : seqLess (key F a) (key F b) = decide (a < b) := by
  unfold seqLess
  rw [diff_key ha hb]
  by_cases h : a < b
  · rw [decide_eq_true h, decide_eq_true (by omega)]
  · rw [decide_eq_false h, decide_eq_false (by omega)]
theorem key_inj {F a b : Int} (ha : Near a) (hb : Near b) : key F a = key F b ↔ a = b := by
  unfold Near at ha hb
  unfold key sOf
  constructor
  · intro h; omega
  · rintro rfl; rfl
theorem add_key (F a b : Int) : seqAdd (key F a) b = key F (a + b) := by unfold seqAdd; exact key_key F a b
theorem far_key {F a b : Int} (ha : Near a) (hb : Near b) : farFrom (key F a) (key F b) = (decide (a < b) || decide (a - b ≥ 250)) := by
  unfold farFrom
  rw [diff_key ha hb]
  congr 1
  by_cases h : a < b
  · rw [decide_eq_true h, decide_eq_true (by omega)]
  · rw [decide_eq_false h, decide_eq_false (by omega)]

def absM (F : Int) (rs : List (Int × Int)) : List (Int × Int) := rs.map fun p => (key F p.1, p.2)
def NearAll (rs : List (Int × Int)) : Prop := ∀ p ∈ rs, Near p.1

theorem mget_abs {F k : Int} (hk : Near k) : ∀ {rs : List (Int × Int)}, NearAll rs → mget (key F k) (absM F rs) = mget k rs
  | [], _ => rfl
  | (j, v) :: rs, h => by
    have hj : Near j := h (j, v) (by simp)
    have ih := mget_abs (F := F) hk (rs := rs) fun p hp => h p (by simp [hp])
    simp only [absM, List.map_cons, mget] at ih ⊢
    by_cases e : k = j
    · subst e; simp
    · rw [if_neg e, if_neg (fun h => e ((key_inj hk hj).1 h))]; exact ih
theorem mset_abs {F k v : Int} (hk : Near k) : ∀ {rs : List (Int × Int)}, NearAll rs → mset (key F k) v (absM F rs) = absM F (mset k v rs)
  | [], _ => rfl
  | (j, u) :: rs, h => by
    have hj : Near j := h (j, u) (by simp)
    have ih := mset_abs (F := F) (v := v) hk (rs := rs) fun p hp => h p (by simp [hp])
    simp only [absM, List.map_cons, mset] at ih ⊢
    by_cases e : k = j
    · subst e; simp
    · rw [if_neg e, if_neg (fun h => e ((key_inj hk hj).1 h)), ih]; rfl
theorem mset_near {k v : Int} (hk : Near k) : ∀ {rs : List (Int × Int)}, NearAll rs → NearAll (mset k v rs)
  | [], _ => fun p hp => by simp only [mset, List.mem_singleton] at hp; rw [hp]; exact hk
  | (j, u) :: rs, h => by
    have ih := mset_near (v := v) hk (rs := rs) fun p hp => h p (by simp [hp])
    simp only [mset]
    split
    · intro p hp
      rcases List.mem_cons.1 hp with rfl | hp
      · exact hk
      · exact h p (by simp [hp])
    · intro p hp
      rcases List.mem_cons.1 hp with rfl | hp
      · exact h _ (by simp)
      · exact ih p hp
theorem filter_abs {F : Int} {f g : Int → Bool} : ∀ {rs : List (Int × Int)}, (∀ p ∈ rs, f (key F p.1) = g p.1) → (absM F rs).filter (fun p => f p.1) = absM F (rs.filter fun p => g p.1)
  | [], _ => rfl
  | p :: rs, h => by
    have ih := filter_abs (F := F) (f := f) (g := g) (rs := rs) fun q hq => h q (by simp [hq])
    have h0 := h p (by simp)
    simp only [absM, List.map_cons, List.filter_cons, h0] at ih ⊢
    split
    · rw [List.map_cons, ih]
    · exact ih
theorem absM_keys (F : Int) (rs : List (Int × Int)) : (absM F rs).map (·.1) = (rs.map (·.1)).map (key F) := by simp [absM]
theorem absM_nodup {F : Int} {rs : List (Int × Int)} (hn : NearAll rs) (h : (rs.map (·.1)).Nodup) : ((absM F rs).map (·.1)).Nodup := by
  rw [absM_keys]
  refine (List.pairwise_map).2 (List.Pairwise.imp_of_mem (fun {a b} ha hb hab => ?_) h)
  obtain ⟨p, hp, rfl⟩ := List.mem_map.1 ha
  obtain ⟨q, hq, rfl⟩ := List.mem_map.1 hb
  exact fun he => hab ((key_inj (hn p hp) (hn q hq)).1 he)

/-- What got keeps, by offsets. -/
structure GotR where
  rs : List (Int × Int)
  newest : Int
  any : Bool
  gone : Int
  forgot : Bool

structure GotR.Ok (r : GotR) : Prop where
  near : NearAll r.rs
  nodup : (r.rs.map (·.1)).Nodup
  top : Near r.newest
  low : Near r.gone

/-- (What was not told yet is zero, not an offset.) -/
def GotR.abs (F : Int) (r : GotR) : GotSt := ⟨absM F r.rs, if r.any then key F r.newest else 0, r.any, if r.forgot then key F r.gone else 0, r.forgot⟩

def GotR.has (r : GotR) (k : Int) : Bool := (mget k r.rs).isSome
def GotR.put (r : GotR) (k : Int) (mark : Bool) : Bool × GotR :=
  if r.has k then (false, r)
  else if r.any && decide (r.newest - k ≥ 250) then (false, r)
  else if r.forgot && !decide (r.gone < k) then (false, r)
  else
    let rs1 := mset k (if mark then 1 else 0) r.rs
    if !r.any || decide (r.newest < k) then (true, ⟨rs1.filter fun p => p.1 == k || !(decide (k < p.1) || decide (k - p.1 ≥ 250)), k, true, r.gone, r.forgot⟩)
    else (true, ⟨rs1, r.newest, r.any, r.gone, r.forgot⟩)

theorem has_abs {F k s0 : Int} {r : GotR} (hr : r.Ok) (hk : Near k) (hs : sOf s0 = key F k) : (r.abs F).has s0 = r.has k := by
  simp only [GotSt.has, GotR.has, GotR.abs, hs]
  rw [mget_abs hk hr.near]

theorem beq_key {F a b : Int} (ha : Near a) (hb : Near b) : (key F a == key F b) = (a == b) := by
  by_cases h : a = b
  · subst h; simp
  · have h1 : ¬ key F a = key F b := fun e => h ((key_inj ha hb).1 e)
    rw [beq_eq_false_iff_ne.2 h1, beq_eq_false_iff_ne.2 h]

theorem put_abs {F k s0 : Int} {r : GotR} (hr : r.Ok) (hk : Near k) (hs : sOf s0 = key F k) (mark : Bool) : (r.abs F).put s0 mark = ((r.put k mark).1, (r.put k mark).2.abs F) := by
  have hh : (r.abs F).has (sOf s0) = r.has k := has_abs hr hk (by rw [sOf_sOf]; exact hs)
  have hms := mset_abs (F := F) (v := if mark then 1 else 0) hk hr.near
  have hfil : ((absM F (mset k (if mark then 1 else 0) r.rs)).filter fun p => p.1 == key F k || !farFrom (key F k) p.1) = absM F ((mset k (if mark then 1 else 0) r.rs).filter fun p => p.1 == k || !(decide (k < p.1) || decide (k - p.1 ≥ 250))) := by
    refine filter_abs (f := fun x => x == key F k || !farFrom (key F k) x) (g := fun x => x == k || !(decide (k < x) || decide (k - x ≥ 250))) fun p hp => ?_
    have hp' := mset_near (v := if mark then 1 else 0) hk hr.near p hp
    rw [beq_key hp' hk, far_key hk hp']
  obtain ⟨rs, newest, any, gone, forgot⟩ := r
  have htop : Near newest := hr.top
  have hlow : Near gone := hr.low
  unfold GotSt.put
  dsimp only
  rw [hh, hs]
  unfold GotR.put
  dsimp only
  simp only [GotR.abs] at hms ⊢
  rw [hms, hfil]
  cases any <;> cases forgot <;> simp only [if_true, if_false, Bool.false_eq_true, Bool.true_and, Bool.false_and, Bool.not_false, Bool.not_true, Bool.true_or, Bool.false_or, diff_key htop hk, less_key hlow hk, less_key htop hk]
  all_goals (repeat' split) <;> first | rfl | simp_all

theorem put_ok {k : Int} {r : GotR} (hr : r.Ok) (hk : Near k) (mark : Bool) : (r.put k mark).2.Ok := by
  have h1 := mset_near (v := if mark then 1 else 0) hk hr.near
  have h2 : ((mset k (if mark then 1 else 0) r.rs).map (·.1)).Nodup := mset_nodup hr.nodup
  unfold GotR.put
  split
  · exact hr
  · split
    · exact hr
    · split
      · exact hr
      · dsimp only
        split
        · exact ⟨fun p hp => h1 p (List.mem_filter.1 hp).1, (List.Sublist.map _ List.filter_sublist).nodup h2, hk, hr.low⟩
        · exact ⟨h1, h2, hr.top, hr.low⟩

/-- Put, by offsets. -/
theorem put_rel {F k s0 : Int} {r : GotR} (hr : r.Ok) (hk : Near k) (hs : sOf s0 = key F k) (mark : Bool) : Tri Tryz.prog 23 [.sc (.ptr 0 0), .sc (.int .u64 s0), .sc (.bool mark)] (hp (r.abs F).os) (Ans (.sc (.bool (r.put k mark).1)) ((r.put k mark).2.abs F).os) := by
  have h := put_tri (r.abs F) (absM_nodup hr.near hr.nodup) s0 mark
  rw [put_abs hr hk hs] at h
  exact h

theorem has_rel {F k s0 : Int} {r : GotR} (hr : r.Ok) (hk : Near k) (hs : sOf s0 = key F k) : Tri Tryz.prog 31 [.sc (.ptr 0 0), .sc (.int .u64 s0)] (hp (r.abs F).os) (Ans (.sc (.bool (r.has k))) (r.abs F).os) := by
  have h := has_tri (r.abs F) s0
  rw [has_abs hr hk hs] at h
  exact h

/-- The states from an offset down. -/
def cellsR (rs : List (Int × Int)) : Nat → Int → Int → Option (List Int)
  | 0, _, left => if left > 0 then none else some []
  | f + 1, cur, left => if left > 0 then
      match mget cur rs with
      | some s => (cellsR rs f (cur - 1) (left - 1)).map (s :: ·)
      | none => (cellsR rs f (cur - 1) left).map (3 :: ·)
    else some []

theorem cells_abs {F : Int} {rs : List (Int × Int)} (hr : NearAll rs) : ∀ (f : Nat) (cur left : Int), -1099511627776 + f ≤ cur → cur ≤ 1099511627776 → cellsGo (absM F rs) f (key F cur) left = cellsR rs f cur left
  | 0, _, _, _, _ => rfl
  | f + 1, cur, left, h1, h2 => by
    simp only [cellsGo, cellsR]
    rw [mget_abs (show Near cur from ⟨by omega, h2⟩) hr, add_key, show cur + -1 = cur - 1 by omega, cells_abs hr f (cur - 1) (left - 1) (by omega) (by omega), cells_abs hr f (cur - 1) left (by omega) (by omega)] <;> rfl

theorem cells_rel {F : Int} {r : GotR} (hr : r.Ok) (ha : r.any = true) {fuel : Nat} {L : List Int} (hL : cellsR r.rs fuel r.newest r.rs.length = some L) (hf : -1099511627776 + fuel ≤ r.newest) (hlen : L.length ≤ 1000000) (hms : r.rs.length ≤ 1000000) :
    Tri Tryz.prog 25 [.sc (.ptr 0 0)] (hp (r.abs F).os) (Ans (.sc (ceS 2 ((ofGo [] L).getD []))) ((r.abs F).os ++ ceO ((ofGo [] L).getD []))) := by
  refine cells_tri (r.abs F) (fuel := fuel) ?_ hlen (by simpa [GotR.abs, absM] using hms)
  simp only [GotR.abs, ha, if_true]
  rw [cells_abs hr.near fuel _ _ hf hr.top.2]
  simpa [absM] using hL

end Go.Proofs.YtofkoppfkekngaaGreatDoor
