/- GotFar, walked: the law's call answers true. -/
import Derived.Test.YtofkoppfkekngaaGreatDoorBaseG
namespace Go.Proofs.YtofkoppfkekngaaGreatDoor
open Go.Abs
set_option linter.unusedSimpArgs false
attribute [local irreducible] aops awp goD seqQ blockQ loopQ regS regQ Tri seqLess seqDiff farFrom sOf
def a7 : AFunc := ⟨2, 68, [0, 1, 4, 5, 13, 6, 7, 32, 8, 9, 10, 40], [.tmp 4], (.seq (.region [⟨(some 4), (.mov (.const (.sc (.bool false)))), none⟩] [4]) (.seq (.region [⟨(some 11), (.call 18 []), none⟩, ⟨(some 5), (.mov (.tmp 11)), none⟩] [5]) (.seq (.seq (.region [⟨(some 12), (.mov (.tmp 5)), none⟩, ⟨(some 13), (.not (.tmp 12)), none⟩] [13]) (.cond (.tmp 13) (.seq (.region [⟨(some 4), (.mov (.const (.sc (.bool false)))), none⟩] [4]) .ret) .skip)) (.seq (.region [⟨(some 14), (.mov (.tmp 1)), none⟩, ⟨(some 15), (.bin .rem (.tmp 14) (.const (.sc (.int .i64 20)))), none⟩, ⟨(some 16), (.bin .add (.tmp 15) (.const (.sc (.int .i64 20)))), none⟩, ⟨(some 17), (.bin .rem (.tmp 16) (.const (.sc (.int .i64 20)))), none⟩, ⟨(some 18), (.bin .add (.const (.sc (.int .i64 240))) (.tmp 17)), none⟩, ⟨(some 1), (.mov (.tmp 18)), none⟩] [1]) (.seq (.region [⟨(some 19), (.call 22 []), none⟩, ⟨(some 6), (.mov (.tmp 19)), none⟩] [6]) (.seq (.region [⟨(some 20), (.mov (.tmp 0)), none⟩, ⟨(some 21), (.mov (.tmp 1)), none⟩, ⟨(some 22), (.call 24 [.tmp 20, .tmp 21]), none⟩, ⟨(some 7), (.mov (.tmp 22)), none⟩] [7]) (.seq (.seq (.region [⟨(some 23), (.mov (.tmp 6)), none⟩, ⟨(some 24), (.mov (.tmp 0)), none⟩, ⟨(some 25), (.call 23 [.tmp 23, .tmp 24, .const (.sc (.bool false))]), none⟩, ⟨(some 26), (.not (.tmp 25)), none⟩, ⟨(some 27), (.mov (.tmp 26)), none⟩, ⟨(some 28), (.mov (.tmp 6)), (some (27, false))⟩, ⟨(some 29), (.mov (.tmp 7)), (some (27, false))⟩, ⟨(some 30), (.call 23 [.tmp 28, .tmp 29, .const (.sc (.bool false))]), (some (27, false))⟩, ⟨(some 31), (.not (.tmp 30)), (some (27, false))⟩, ⟨(some 32), (.pick (.tmp 27) (.const (.sc (.bool true))) (.tmp 31)), none⟩] [32]) (.cond (.tmp 32) (.seq (.region [⟨(some 4), (.mov (.const (.sc (.bool false)))), none⟩] [4]) .ret) .skip)) (.seq (.region [⟨(some 33), (.mov (.tmp 1)), none⟩, ⟨(some 34), (.bin .geq (.tmp 33) (.const (.sc (.int .i64 250)))), none⟩, ⟨(some 8), (.mov (.tmp 34)), none⟩] [8]) (.seq (.region [⟨(some 35), (.mov (.tmp 6)), none⟩, ⟨(some 36), (.call 25 [.tmp 35]), none⟩, ⟨(some 37), (.call 20 [.tmp 36]), none⟩, ⟨(some 9), (.mov (.tmp 37)), none⟩] [9]) (.seq (.region [⟨(some 38), (.mov (.tmp 1)), none⟩, ⟨(some 39), (.bin .add (.tmp 38) (.const (.sc (.int .i64 1)))), none⟩, ⟨(some 10), (.mov (.tmp 39)), none⟩] [10]) (.seq (.seq (.region [⟨(some 40), (.mov (.tmp 8)), none⟩] [40]) (.cond (.tmp 40) (.region [⟨(some 10), (.mov (.const (.sc (.int .i64 1)))), none⟩] [10]) .skip)) (.seq (.region [⟨(some 41), (.mov (.tmp 6)), none⟩, ⟨(some 42), (.mov (.tmp 0)), none⟩, ⟨(some 43), (.call 31 [.tmp 41, .tmp 42]), none⟩, ⟨(some 44), (.mov (.tmp 8)), none⟩, ⟨(some 45), (.not (.tmp 44)), none⟩, ⟨(some 46), (.eqB false (.tmp 43) (.tmp 45)), none⟩, ⟨(some 47), (.mov (.tmp 46)), none⟩, ⟨(some 48), (.mov (.tmp 9)), (some (47, true))⟩, ⟨(some 49), (.len false (.tmp 48)), (some (47, true))⟩, ⟨(some 50), (.mov (.tmp 10)), (some (47, true))⟩, ⟨(some 51), (.bin .eql (.tmp 49) (.tmp 50)), (some (47, true))⟩, ⟨(some 52), (.pick (.tmp 47) (.tmp 51) (.const (.sc (.bool false)))), none⟩, ⟨(some 53), (.mov (.tmp 52)), none⟩, ⟨(some 54), (.mov (.tmp 6)), (some (53, true))⟩, ⟨(some 55), (.mov (.tmp 0)), (some (53, true))⟩, ⟨(some 56), (.call 23 [.tmp 54, .tmp 55, .const (.sc (.bool true))]), (some (53, true))⟩, ⟨(some 57), (.not (.tmp 56)), (some (53, true))⟩, ⟨(some 58), (.pick (.tmp 53) (.tmp 57) (.const (.sc (.bool false)))), none⟩, ⟨(some 59), (.mov (.tmp 58)), none⟩, ⟨(some 60), (.mov (.tmp 6)), (some (59, true))⟩, ⟨(some 61), (.mov (.tmp 7)), (some (59, true))⟩, ⟨(some 62), (.call 24 [.tmp 61, .const (.sc (.int .i64 (-249)))]), (some (59, true))⟩, ⟨(some 63), (.call 23 [.tmp 60, .tmp 62, .const (.sc (.bool false))]), (some (59, true))⟩, ⟨(some 64), (.mov (.tmp 1)), (some (59, true))⟩, ⟨(some 65), (.bin .neq (.tmp 64) (.const (.sc (.int .i64 249)))), (some (59, true))⟩, ⟨(some 66), (.eqB false (.tmp 63) (.tmp 65)), (some (59, true))⟩, ⟨(some 67), (.pick (.tmp 59) (.tmp 66) (.const (.sc (.bool false)))), none⟩, ⟨(some 4), (.mov (.tmp 67)), none⟩] [4]) .ret))))))))))))⟩
theorem c7 : compileFunc Tryz.prog Tryz.f7 = some a7 := by kernel_rfl
theorem k7 : okCallee Tryz.prog 7 = true := by kernel_rfl

theorem tmod_bd' (x m : Int) (hm : 0 < m) : -m < x.tmod m ∧ x.tmod m < m := by
  constructor
  · have := Int.lt_tmod_of_pos x hm; omega
  · exact Int.tmod_lt_of_pos x hm

/-- What the cells of a row of states tell. -/
theorem cells_of {L : List Int} (hL : ∀ s ∈ L, stateP s = true) (hn : L ≠ []) (hlen : L.length ≤ 1000) : ∃ out, (ofGo [] L).getD [] = out ∧ out ≠ [] ∧ out.length ≤ 1000 ∧ mayGo 0 out = true ∧ sp out = L := by
  obtain ⟨o, h1, h2, h3, h4⟩ := ofGo_spec L [] hL (by intro p hp; cases hp) rfl
  rw [show sp [] ++ L = L by simp [sp]] at h4
  refine ⟨o, by rw [h1]; rfl, fun h => ?_, ?_, mayGo_of h2 (by rw [h4]; omega), h4⟩
  · rw [(sp_nil_iff h2).2 h] at h4; exact hn h4.symm
  · have : ∀ {l : List (Int × Int)}, runOk l → l.length ≤ (sp l).length := by
      intro l
      induction l with
      | nil => intro _; simp
      | cons p l ih =>
        intro h
        have h1 := ih fun q hq => h q (by simp [hq])
        obtain ⟨_, g2, _⟩ := h p (by simp)
        have e : sp (p :: l) = List.replicate p.2.toNat p.1 ++ sp l := by simp [sp]
        rw [e, List.length_append, List.length_replicate, List.length_cons]
        omega
    have := this h2
    rw [h4] at this
    omega

theorem ceS_ne {l : List (Int × Int)} (h : l ≠ []) (k : Nat) : ceS k l = .slice k 0 l.length 2 := by cases l <;> simp [ceS] at h ⊢
theorem ceO_ne {l : List (Int × Int)} (h : l ≠ []) : ceO l = [some (.cells (flat l))] := by cases l <;> simp [ceO] at h ⊢

def r0 : GotR := ⟨[], 0, false, 0, false⟩
theorem near_of {k : Int} (h1 : -1000000 ≤ k) (h2 : k ≤ 1000000) : Near k := ⟨by omega, by omega⟩
theorem r0_ok : r0.Ok := ⟨fun p hp => (by cases hp), by simp [r0], near_of (by decide) (by decide), near_of (by decide) (by decide)⟩

def farA : Bool := (List.range 10).all fun i => decide (cellsR [(0, 0), ((240 + i : Nat), 0)] 300 (240 + i : Nat) 2 = some (0 :: (List.replicate (239 + i) 3 ++ [0])))
theorem farA_ok : farA = true := by kernel_rfl

set_option maxHeartbeats 4000000 in
theorem law7_walk {first far : Int} (hf : 0 ≤ first) : Tri Tryz.prog 7 [.sc (.int .u64 first), .sc (.int .i64 far)] (hp []) fun u _ => u = .sc (.bool true) := by
  refine Tri.of_bodyR progOk Tryz.func7 k7 c7 rfl fun hw hb => ?_
  dsimp only [a7]
  have b1 := tmod_bd' far 20 (by omega)
  have b2 := tmod_bd' (far.tmod 20 + 20) 20 (by omega)
  have b3 : 0 ≤ (far.tmod 20 + 20).tmod 20 := Int.tmod_nonneg _ (by omega)
  obtain ⟨N, hN⟩ : ∃ N : Nat, 240 + (far.tmod 20 + 20).tmod 20 = N := ⟨(240 + (far.tmod 20 + 20).tmod 20).toNat, by omega⟩
  have hN1 : 240 ≤ N := by omega
  have hN2 : N < 260 := by omega
  have hnN : Near (N : Int) := near_of (by omega) (by omega)
  have hn0 : Near 0 := near_of (by decide) (by decide)
  have e0 : sOf first = key first 0 := by unfold key; rw [Int.add_zero]
  have eN : sOf (sOf (first + N)) = key first N := by rw [sOf_sOf]; rfl
  have p1 : r0.put 0 false = (true, ⟨[(0, 0)], 0, true, 0, false⟩) := by rfl
  have o1 : GotR.Ok ⟨[(0, 0)], 0, true, 0, false⟩ := ⟨fun p hp => by simp only [List.mem_singleton] at hp; rw [hp]; exact hn0, by simp, hn0, hn0⟩
  have t1 := put_rel (F := first) r0_ok hn0 e0 false
  rw [p1] at t1
  simp only [r0] at t1
  simp only [GotSt.os, GotR.abs, if_true, if_false, Bool.false_eq_true, absM, List.map_nil] at t1
  have tn := new_tri
  simp only [GotSt.os, GotR.abs, if_true, if_false, Bool.false_eq_true, absM, List.map_nil] at tn
  have tc0 : ∀ (r : GotR), r.any = true → True := fun _ _ => trivial
  (repeat (first | (show aops _ _ _ _ _; first | refine a_mov ?_ | refine a_endS ?_ | refine a_endQ ?_ | refine a_gT ?_ | refine a_gF ?_ | refine a_gU ?_ | refine a_gA ?_ | refine a_gB ?_ | refine a_addI ?_ | refine a_subI ?_ | refine a_addU ?_ | refine a_subU ?_ | refine a_mulI ?_ | refine a_mulU ?_ | refine a_convI ?_ | refine a_convU ?_ | refine a_index ?_ | refine a_load ?_ | refine a_loadN ?_ | refine a_pickT ?_ | refine a_pickF ?_ | refine a_append ?_ | refine a_appendN ?_ | refine a_lookI ?_ | refine a_lookB ?_ | refine a_lenMI ?_ | refine a_go ?_ | refine a_store ?_ | refine q_call0 rfl begun_tri ?_) | refine q_sr ?_ | refine q_r ?_ | refine q_sd ?_ | refine q_rd ?_ | refine awp_seq ?_ | refine awp_block ?_ | refine awp_skip ?_ | refine awp_exit ?_ | refine awp_ret ?_ | refine seqQ_normal ?_ | refine seqQ_exit ?_ | refine seqQ_ret ?_ | refine blockQ_normal ?_ | refine blockQ_self ?_ | refine blockQ_ret ?_ | refine loopQ_exit ?_ | refine loopQ_ret ?_ | refine a_ifT ?_ | refine a_ifF ?_ | refine a_ifA ?_ | refine a_ifB ?_ | refine blockQ_other (by decide) ?_))
  refine q_call1 rfl (Tri.ans [] tn (by decide) rfl trivial rfl) ?_
  (repeat (first | (show aops _ _ _ _ _; first | refine a_mov ?_ | refine a_endS ?_ | refine a_endQ ?_ | refine a_gT ?_ | refine a_gF ?_ | refine a_gU ?_ | refine a_gA ?_ | refine a_gB ?_ | refine a_addI ?_ | refine a_subI ?_ | refine a_addU ?_ | refine a_subU ?_ | refine a_mulI ?_ | refine a_mulU ?_ | refine a_convI ?_ | refine a_convU ?_ | refine a_index ?_ | refine a_load ?_ | refine a_loadN ?_ | refine a_pickT ?_ | refine a_pickF ?_ | refine a_append ?_ | refine a_appendN ?_ | refine a_lookI ?_ | refine a_lookB ?_ | refine a_lenMI ?_ | refine a_go ?_ | refine a_store ?_ | refine q_call0 rfl begun_tri ?_) | refine q_sr ?_ | refine q_r ?_ | refine q_sd ?_ | refine q_rd ?_ | refine awp_seq ?_ | refine awp_block ?_ | refine awp_skip ?_ | refine awp_exit ?_ | refine awp_ret ?_ | refine seqQ_normal ?_ | refine seqQ_exit ?_ | refine seqQ_ret ?_ | refine blockQ_normal ?_ | refine blockQ_self ?_ | refine blockQ_ret ?_ | refine loopQ_exit ?_ | refine loopQ_ret ?_ | refine a_ifT ?_ | refine a_ifF ?_ | refine a_ifA ?_ | refine a_ifB ?_ | refine blockQ_other (by decide) ?_))
  rw [hN]
  (repeat (first | (show aops _ _ _ _ _; first | refine a_mov ?_ | refine a_endS ?_ | refine a_endQ ?_ | refine a_gT ?_ | refine a_gF ?_ | refine a_gU ?_ | refine a_gA ?_ | refine a_gB ?_ | refine a_addI ?_ | refine a_subI ?_ | refine a_addU ?_ | refine a_subU ?_ | refine a_mulI ?_ | refine a_mulU ?_ | refine a_convI ?_ | refine a_convU ?_ | refine a_index ?_ | refine a_load ?_ | refine a_loadN ?_ | refine a_pickT ?_ | refine a_pickF ?_ | refine a_append ?_ | refine a_appendN ?_ | refine a_lookI ?_ | refine a_lookB ?_ | refine a_lenMI ?_ | refine a_go ?_ | refine a_store ?_ | refine q_call0 rfl begun_tri ?_) | refine q_sr ?_ | refine q_r ?_ | refine q_sd ?_ | refine q_rd ?_ | refine awp_seq ?_ | refine awp_block ?_ | refine awp_skip ?_ | refine awp_exit ?_ | refine awp_ret ?_ | refine seqQ_normal ?_ | refine seqQ_exit ?_ | refine seqQ_ret ?_ | refine blockQ_normal ?_ | refine blockQ_self ?_ | refine blockQ_ret ?_ | refine loopQ_exit ?_ | refine loopQ_ret ?_ | refine a_ifT ?_ | refine a_ifF ?_ | refine a_ifA ?_ | refine a_ifB ?_ | refine blockQ_other (by decide) ?_))
  refine q_call0 rfl (step_tri hf) ?_
  (repeat (first | (show aops _ _ _ _ _; first | refine a_mov ?_ | refine a_endS ?_ | refine a_endQ ?_ | refine a_gT ?_ | refine a_gF ?_ | refine a_gU ?_ | refine a_gA ?_ | refine a_gB ?_ | refine a_addI ?_ | refine a_subI ?_ | refine a_addU ?_ | refine a_subU ?_ | refine a_mulI ?_ | refine a_mulU ?_ | refine a_convI ?_ | refine a_convU ?_ | refine a_index ?_ | refine a_load ?_ | refine a_loadN ?_ | refine a_pickT ?_ | refine a_pickF ?_ | refine a_append ?_ | refine a_appendN ?_ | refine a_lookI ?_ | refine a_lookB ?_ | refine a_lenMI ?_ | refine a_go ?_ | refine a_store ?_ | refine q_call0 rfl begun_tri ?_) | refine q_sr ?_ | refine q_r ?_ | refine q_sd ?_ | refine q_rd ?_ | refine awp_seq ?_ | refine awp_block ?_ | refine awp_skip ?_ | refine awp_exit ?_ | refine awp_ret ?_ | refine seqQ_normal ?_ | refine seqQ_exit ?_ | refine seqQ_ret ?_ | refine blockQ_normal ?_ | refine blockQ_self ?_ | refine blockQ_ret ?_ | refine loopQ_exit ?_ | refine loopQ_ret ?_ | refine a_ifT ?_ | refine a_ifF ?_ | refine a_ifA ?_ | refine a_ifB ?_ | refine blockQ_other (by decide) ?_))
  refine q_call1 rfl (Tri.ans [0, 1] t1 (Nat.le_refl _) rfl (by (repeat' (first | exact trivial | exact rfl | refine And.intro ?_ ?_ | (simp only [renObj, renSc_int, renSc_bool, renSc_str, renSc_ptr, renSc_slice, renSc_map, renSc_nilp, renSc_nils, renSc_nilm, renSc_nilf, renSc_func, List.map_cons, List.map_nil, List.map_append, ren_ints, ren_flat, ren_u64s, ren_pks, ren_mpI, ren_mkB]; exact rfl) | (simp [Heap.get, find, Env.get_cons, renAV, renSc, renObj, rho_cons_zero, rho_cons_succ, ints, flat, u64s, pks, pk]; done)))) rfl) ?_
  (repeat (first | (show aops _ _ _ _ _; first | refine a_mov ?_ | refine a_endS ?_ | refine a_endQ ?_ | refine a_gT ?_ | refine a_gF ?_ | refine a_gU ?_ | refine a_gA ?_ | refine a_gB ?_ | refine a_addI ?_ | refine a_subI ?_ | refine a_addU ?_ | refine a_subU ?_ | refine a_mulI ?_ | refine a_mulU ?_ | refine a_convI ?_ | refine a_convU ?_ | refine a_index ?_ | refine a_load ?_ | refine a_loadN ?_ | refine a_pickT ?_ | refine a_pickF ?_ | refine a_append ?_ | refine a_appendN ?_ | refine a_lookI ?_ | refine a_lookB ?_ | refine a_lenMI ?_ | refine a_go ?_ | refine a_store ?_ | refine q_call0 rfl begun_tri ?_) | refine q_sr ?_ | refine q_r ?_ | refine q_sd ?_ | refine q_rd ?_ | refine awp_seq ?_ | refine awp_block ?_ | refine awp_skip ?_ | refine awp_exit ?_ | refine awp_ret ?_ | refine seqQ_normal ?_ | refine seqQ_exit ?_ | refine seqQ_ret ?_ | refine blockQ_normal ?_ | refine blockQ_self ?_ | refine blockQ_ret ?_ | refine loopQ_exit ?_ | refine loopQ_ret ?_ | refine a_ifT ?_ | refine a_ifF ?_ | refine a_ifA ?_ | refine a_ifB ?_ | refine blockQ_other (by decide) ?_))
  rcases Nat.lt_or_ge N 250 with hlt | hge
  · have p2 : GotR.put ⟨[(0, 0)], 0, true, 0, false⟩ N false = (true, ⟨[(0, 0), ((N : Int), 0)], N, true, 0, false⟩) := by
      have h1 : ¬ (N : Int) = 0 := by omega
      have h2 : ¬ (0 : Int) = N := by omega
      simp only [GotR.put, GotR.has, mget, mset, h1, if_false, Option.isSome_none, Bool.false_eq_true, Bool.true_and, decide_eq_true_eq, Bool.false_and]
      rw [if_neg (by omega), if_pos (by simp; omega)]
      simp [List.filter_cons]
      omega
    have t2 := put_rel (F := first) o1 hnN eN false
    rw [p2] at t2
    simp only [GotSt.os, GotR.abs, if_true, if_false, Bool.false_eq_true, absM, List.map_nil] at t2
    refine q_call1 rfl (Tri.ans [0, 1] t2 (Nat.le_refl _) rfl (by (repeat' (first | exact trivial | exact rfl | refine And.intro ?_ ?_ | (simp only [renObj, renSc_int, renSc_bool, renSc_str, renSc_ptr, renSc_slice, renSc_map, renSc_nilp, renSc_nils, renSc_nilm, renSc_nilf, renSc_func, List.map_cons, List.map_nil, List.map_append, ren_ints, ren_flat, ren_u64s, ren_pks, ren_mpI, ren_mkB]; exact rfl) | (simp [Heap.get, find, Env.get_cons, renAV, renSc, renObj, rho_cons_zero, rho_cons_succ, ints, flat, u64s, pks, pk]; done)))) rfl) ?_
    (repeat (first | (show aops _ _ _ _ _; first | refine a_mov ?_ | refine a_endS ?_ | refine a_endQ ?_ | refine a_gT ?_ | refine a_gF ?_ | refine a_gU ?_ | refine a_gA ?_ | refine a_gB ?_ | refine a_addI ?_ | refine a_subI ?_ | refine a_addU ?_ | refine a_subU ?_ | refine a_mulI ?_ | refine a_mulU ?_ | refine a_convI ?_ | refine a_convU ?_ | refine a_index ?_ | refine a_load ?_ | refine a_loadN ?_ | refine a_pickT ?_ | refine a_pickF ?_ | refine a_append ?_ | refine a_appendN ?_ | refine a_lookI ?_ | refine a_lookB ?_ | refine a_lenMI ?_ | refine a_go ?_ | refine a_store ?_ | refine q_call0 rfl begun_tri ?_) | refine q_sr ?_ | refine q_r ?_ | refine q_sd ?_ | refine q_rd ?_ | refine awp_seq ?_ | refine awp_block ?_ | refine awp_skip ?_ | refine awp_exit ?_ | refine awp_ret ?_ | refine seqQ_normal ?_ | refine seqQ_exit ?_ | refine seqQ_ret ?_ | refine blockQ_normal ?_ | refine blockQ_self ?_ | refine blockQ_ret ?_ | refine loopQ_exit ?_ | refine loopQ_ret ?_ | refine a_ifT ?_ | refine a_ifF ?_ | refine a_ifA ?_ | refine a_ifB ?_ | refine blockQ_other (by decide) ?_))
    have o2 : GotR.Ok ⟨[(0, 0), ((N : Int), 0)], N, true, 0, false⟩ := ⟨fun p hp => by simp only [List.mem_cons, List.not_mem_nil, or_false] at hp; rcases hp with rfl | rfl; exact hn0; exact hnN, by simp; omega, hnN, hn0⟩
    have hfa : cellsR [(0, 0), ((N : Int), 0)] 300 N 2 = some (0 :: (List.replicate (N - 1) 3 ++ [0])) := by
      have h1 := List.all_eq_true.1 farA_ok (N - 240) (List.mem_range.2 (by omega))
      have h2 := of_decide_eq_true h1
      rw [show 240 + (N - 240) = N by omega, show 239 + (N - 240) = N - 1 by omega] at h2
      exact h2
    generalize hL : (0 :: (List.replicate (N - 1) 3 ++ [0]) : List Int) = L at hfa
    have hLl : L.length = N + 1 := by rw [← hL]; simp; omega
    obtain ⟨out, q1, q2, q3, q4, q5⟩ := cells_of (L := L) (by rw [← hL]; intro s hs; simp only [List.mem_cons, List.mem_append, List.mem_replicate, List.not_mem_nil, or_false] at hs; rcases hs with rfl | ⟨_, rfl⟩ | rfl <;> rfl) (by rw [← hL]; simp) (by omega)
    have t3 := cells_rel (F := first) o2 rfl hfa (by dsimp only; omega) (by omega) (by simp)
    rw [q1, ceS_ne q2, ceO_ne q2] at t3
    simp only [GotSt.os, GotR.abs, if_true, if_false, Bool.false_eq_true, absM, List.map_nil] at t3
    refine q_call1 rfl (Tri.ans [0, 1] t3 (Nat.le_add_right _ _) rfl (by (repeat' (first | exact trivial | exact rfl | refine And.intro ?_ ?_ | (simp only [renObj, renSc_int, renSc_bool, renSc_str, renSc_ptr, renSc_slice, renSc_map, renSc_nilp, renSc_nils, renSc_nilm, renSc_nilf, renSc_func, List.map_cons, List.map_nil, List.map_append, ren_ints, ren_flat, ren_u64s, ren_pks, ren_mpI, ren_mkB]; exact rfl) | (simp [Heap.get, find, Env.get_cons, renAV, renSc, renObj, rho_cons_zero, rho_cons_succ, ints, flat, u64s, pks, pk]; done)))) rfl) ?_
    refine a_norm ?_
    refine q_call1 rfl (spread_tri (l := out) (slAt_own (vs := flat out) rfl (flat_length out)) (by omega)) ?_
    rw [q4]
    simp only [newV, newH, if_true]
    have hLn : L ≠ [] := by rw [← hL]; simp
    rw [q5, if_neg hLn, if_neg hLn]
    have hge : decide ((N : Int) ≥ 250) = false := by simp only [decide_eq_false_iff_not]; omega
    (repeat (first | (show aops _ _ _ _ _; first | refine a_mov ?_ | refine a_endS ?_ | refine a_endQ ?_ | refine a_gT ?_ | refine a_gF ?_ | refine a_gU ?_ | refine a_gA ?_ | refine a_gB ?_ | refine a_addI ?_ | refine a_subI ?_ | refine a_addU ?_ | refine a_subU ?_ | refine a_mulI ?_ | refine a_mulU ?_ | refine a_convI ?_ | refine a_convU ?_ | refine a_index ?_ | refine a_load ?_ | refine a_loadN ?_ | refine a_pickT ?_ | refine a_pickF ?_ | refine a_append ?_ | refine a_appendN ?_ | refine a_lookI ?_ | refine a_lookB ?_ | refine a_lenMI ?_ | refine a_go ?_ | refine a_store ?_ | refine q_call0 rfl begun_tri ?_) | refine q_sr ?_ | refine q_r ?_ | refine q_sd ?_ | refine q_rd ?_ | refine awp_seq ?_ | refine awp_block ?_ | refine awp_skip ?_ | refine awp_exit ?_ | refine awp_ret ?_ | refine seqQ_normal ?_ | refine seqQ_exit ?_ | refine seqQ_ret ?_ | refine blockQ_normal ?_ | refine blockQ_self ?_ | refine blockQ_ret ?_ | refine loopQ_exit ?_ | refine loopQ_ret ?_ | refine a_ifT ?_ | refine a_ifF ?_ | refine a_ifA ?_ | refine a_ifB ?_ | refine blockQ_other (by decide) ?_))
    have t4 := has_rel (F := first) o2 hn0 e0
    rw [show GotR.has ⟨[(0, 0), ((N : Int), 0)], N, true, 0, false⟩ 0 = true from rfl] at t4
    simp only [GotSt.os, GotR.abs, if_true, if_false, Bool.false_eq_true, absM, List.map_nil] at t4
    refine q_call1 rfl (Tri.ans [0, 1] t4 (Nat.le_refl _) rfl (by (repeat' (first | exact trivial | exact rfl | refine And.intro ?_ ?_ | (simp only [renObj, renSc_int, renSc_bool, renSc_str, renSc_ptr, renSc_slice, renSc_map, renSc_nilp, renSc_nils, renSc_nilm, renSc_nilf, renSc_func, List.map_cons, List.map_nil, List.map_append, ren_ints, ren_flat, ren_u64s, ren_pks, ren_mpI, ren_mkB]; exact rfl) | (simp [Heap.get, find, Env.get_cons, renAV, renSc, renObj, rho_cons_zero, rho_cons_succ, ints, flat, u64s, pks, pk]; done)))) rfl) ?_
    have g1 : (true == !decide ((N : Int) ≥ 250)) = true := by rw [hge]; rfl
    have g2 : ((L.length : Int) == (N : Int) + 1) = true := by simp; omega
    (repeat (first | (show aops _ _ _ _ _; first | refine a_mov ?_ | refine a_endS ?_ | refine a_endQ ?_ | refine a_gT ?_ | refine a_gF ?_ | refine a_gU ?_ | refine a_gA ?_ | refine a_gB ?_ | refine a_addI ?_ | refine a_subI ?_ | refine a_addU ?_ | refine a_subU ?_ | refine a_mulI ?_ | refine a_mulU ?_ | refine a_convI ?_ | refine a_convU ?_ | refine a_index ?_ | refine a_load ?_ | refine a_loadN ?_ | refine a_pickT ?_ | refine a_pickF ?_ | refine a_append ?_ | refine a_appendN ?_ | refine a_lookI ?_ | refine a_lookB ?_ | refine a_lenMI ?_ | refine a_go ?_ | refine a_store ?_ | refine q_call0 rfl begun_tri ?_) | refine q_sr ?_ | refine q_r ?_ | refine q_sd ?_ | refine q_rd ?_ | refine awp_seq ?_ | refine awp_block ?_ | refine awp_skip ?_ | refine awp_exit ?_ | refine awp_ret ?_ | refine seqQ_normal ?_ | refine seqQ_exit ?_ | refine seqQ_ret ?_ | refine blockQ_normal ?_ | refine blockQ_self ?_ | refine blockQ_ret ?_ | refine loopQ_exit ?_ | refine loopQ_ret ?_ | refine a_ifT ?_ | refine a_ifF ?_ | refine a_ifA ?_ | refine a_ifB ?_ | refine blockQ_other (by decide) ?_))
    have p3 : GotR.put ⟨[(0, 0), ((N : Int), 0)], N, true, 0, false⟩ 0 true = (false, ⟨[(0, 0), ((N : Int), 0)], N, true, 0, false⟩) := rfl
    have t5 := put_rel (F := first) o2 hn0 e0 true
    rw [p3] at t5
    simp only [GotSt.os, GotR.abs, if_true, if_false, Bool.false_eq_true, absM, List.map_nil] at t5
    refine q_call1 rfl (Tri.ans [0, 1] t5 (Nat.le_refl _) rfl (by (repeat' (first | exact trivial | exact rfl | refine And.intro ?_ ?_ | (simp only [renObj, renSc_int, renSc_bool, renSc_str, renSc_ptr, renSc_slice, renSc_map, renSc_nilp, renSc_nils, renSc_nilm, renSc_nilf, renSc_func, List.map_cons, List.map_nil, List.map_append, ren_ints, ren_flat, ren_u64s, ren_pks, ren_mpI, ren_mkB]; exact rfl) | (simp [Heap.get, find, Env.get_cons, renAV, renSc, renObj, rho_cons_zero, rho_cons_succ, ints, flat, u64s, pks, pk]; done)))) rfl) ?_
    (repeat (first | (show aops _ _ _ _ _; first | refine a_mov ?_ | refine a_endS ?_ | refine a_endQ ?_ | refine a_gT ?_ | refine a_gF ?_ | refine a_gU ?_ | refine a_gA ?_ | refine a_gB ?_ | refine a_addI ?_ | refine a_subI ?_ | refine a_addU ?_ | refine a_subU ?_ | refine a_mulI ?_ | refine a_mulU ?_ | refine a_convI ?_ | refine a_convU ?_ | refine a_index ?_ | refine a_load ?_ | refine a_loadN ?_ | refine a_pickT ?_ | refine a_pickF ?_ | refine a_append ?_ | refine a_appendN ?_ | refine a_lookI ?_ | refine a_lookB ?_ | refine a_lenMI ?_ | refine a_go ?_ | refine a_store ?_ | refine q_call0 rfl begun_tri ?_) | refine q_sr ?_ | refine q_r ?_ | refine q_sd ?_ | refine q_rd ?_ | refine awp_seq ?_ | refine awp_block ?_ | refine awp_skip ?_ | refine awp_exit ?_ | refine awp_ret ?_ | refine seqQ_normal ?_ | refine seqQ_exit ?_ | refine seqQ_ret ?_ | refine blockQ_normal ?_ | refine blockQ_self ?_ | refine blockQ_ret ?_ | refine loopQ_exit ?_ | refine loopQ_ret ?_ | refine a_ifT ?_ | refine a_ifF ?_ | refine a_ifA ?_ | refine a_ifB ?_ | refine blockQ_other (by decide) ?_))
    refine q_call0 rfl (step_tri (by unfold sOf; omega)) ?_
    (repeat (first | (show aops _ _ _ _ _; first | refine a_mov ?_ | refine a_endS ?_ | refine a_endQ ?_ | refine a_gT ?_ | refine a_gF ?_ | refine a_gU ?_ | refine a_gA ?_ | refine a_gB ?_ | refine a_addI ?_ | refine a_subI ?_ | refine a_addU ?_ | refine a_subU ?_ | refine a_mulI ?_ | refine a_mulU ?_ | refine a_convI ?_ | refine a_convU ?_ | refine a_index ?_ | refine a_load ?_ | refine a_loadN ?_ | refine a_pickT ?_ | refine a_pickF ?_ | refine a_append ?_ | refine a_appendN ?_ | refine a_lookI ?_ | refine a_lookB ?_ | refine a_lenMI ?_ | refine a_go ?_ | refine a_store ?_ | refine q_call0 rfl begun_tri ?_) | refine q_sr ?_ | refine q_r ?_ | refine q_sd ?_ | refine q_rd ?_ | refine awp_seq ?_ | refine awp_block ?_ | refine awp_skip ?_ | refine awp_exit ?_ | refine awp_ret ?_ | refine seqQ_normal ?_ | refine seqQ_exit ?_ | refine seqQ_ret ?_ | refine blockQ_normal ?_ | refine blockQ_self ?_ | refine blockQ_ret ?_ | refine loopQ_exit ?_ | refine loopQ_ret ?_ | refine a_ifT ?_ | refine a_ifF ?_ | refine a_ifA ?_ | refine a_ifB ?_ | refine blockQ_other (by decide) ?_))
    have e6 : sOf (sOf (sOf (first + N) + -249)) = key first (N - 249) := by rw [sOf_sOf]; exact key_key first N (-249)
    have t6 := put_rel (F := first) o2 (near_of (by omega) (by omega)) e6 false
    have hb : (GotR.put ⟨[(0, 0), ((N : Int), 0)], N, true, 0, false⟩ (N - 249) false).1 = ((N : Int) != 249) := by
      rcases Classical.em (N = 249) with h | h
      · subst h; rfl
      · have h1 : ¬ (N : Int) - 249 = 0 := by omega
        have h2 : ¬ (N : Int) - 249 = N := by omega
        have h3 : ((N : Int) != 249) = true := by simp; omega
        rw [h3]
        simp only [GotR.put, GotR.has, mget, mset, h1, h2, if_false, Option.isSome_none, Bool.false_eq_true, Bool.true_and, decide_eq_true_eq, Bool.false_and]
        rw [if_neg (by omega), if_neg (by simp; omega)]
    rw [hb] at t6
    simp only [GotSt.os] at t6
    refine q_call1 rfl (Tri.ans [0, 1] t6 (Nat.le_refl _) rfl (by (repeat' (first | exact trivial | exact rfl | refine And.intro ?_ ?_ | (simp only [renObj, renSc_int, renSc_bool, renSc_str, renSc_ptr, renSc_slice, renSc_map, renSc_nilp, renSc_nils, renSc_nilm, renSc_nilf, renSc_func, List.map_cons, List.map_nil, List.map_append, ren_ints, ren_flat, ren_u64s, ren_pks, ren_mpI, ren_mkB]; exact rfl) | (simp [Heap.get, find, Env.get_cons, renAV, renSc, renObj, rho_cons_zero, rho_cons_succ, ints, flat, u64s, pks, pk]; done)))) rfl) ?_
    (repeat (first | (show aops _ _ _ _ _; first | refine a_mov ?_ | refine a_endS ?_ | refine a_endQ ?_ | refine a_gT ?_ | refine a_gF ?_ | refine a_gU ?_ | refine a_gA ?_ | refine a_gB ?_ | refine a_addI ?_ | refine a_subI ?_ | refine a_addU ?_ | refine a_subU ?_ | refine a_mulI ?_ | refine a_mulU ?_ | refine a_convI ?_ | refine a_convU ?_ | refine a_index ?_ | refine a_load ?_ | refine a_loadN ?_ | refine a_pickT ?_ | refine a_pickF ?_ | refine a_append ?_ | refine a_appendN ?_ | refine a_lookI ?_ | refine a_lookB ?_ | refine a_lenMI ?_ | refine a_go ?_ | refine a_store ?_ | refine q_call0 rfl begun_tri ?_) | refine q_sr ?_ | refine q_r ?_ | refine q_sd ?_ | refine q_rd ?_ | refine awp_seq ?_ | refine awp_block ?_ | refine awp_skip ?_ | refine awp_exit ?_ | refine awp_ret ?_ | refine seqQ_normal ?_ | refine seqQ_exit ?_ | refine seqQ_ret ?_ | refine blockQ_normal ?_ | refine blockQ_self ?_ | refine blockQ_ret ?_ | refine loopQ_exit ?_ | refine loopQ_ret ?_ | refine a_ifT ?_ | refine a_ifF ?_ | refine a_ifA ?_ | refine a_ifB ?_ | refine blockQ_other (by decide) ?_))
    refine retR_same rfl ?_
    show AV.sc (.bool (((N : Int) != 249) == ((N : Int) != 249))) = _
    simp
  · have p2 : GotR.put ⟨[(0, 0)], 0, true, 0, false⟩ N false = (true, ⟨[((N : Int), 0)], N, true, 0, false⟩) := by
      have h1 : ¬ (N : Int) = 0 := by omega
      have h2 : ¬ (0 : Int) = N := by omega
      simp only [GotR.put, GotR.has, mget, mset, h1, if_false, Option.isSome_none, Bool.false_eq_true, Bool.true_and, decide_eq_true_eq, Bool.false_and]
      rw [if_neg (by omega), if_pos (by simp; omega)]
      simp [List.filter_cons]
      omega
    have t2 := put_rel (F := first) o1 hnN eN false
    rw [p2] at t2
    simp only [GotSt.os, GotR.abs, if_true, if_false, Bool.false_eq_true, absM, List.map_nil] at t2
    refine q_call1 rfl (Tri.ans [0, 1] t2 (Nat.le_refl _) rfl (by (repeat' (first | exact trivial | exact rfl | refine And.intro ?_ ?_ | (simp only [renObj, renSc_int, renSc_bool, renSc_str, renSc_ptr, renSc_slice, renSc_map, renSc_nilp, renSc_nils, renSc_nilm, renSc_nilf, renSc_func, List.map_cons, List.map_nil, List.map_append, ren_ints, ren_flat, ren_u64s, ren_pks, ren_mpI, ren_mkB]; exact rfl) | (simp [Heap.get, find, Env.get_cons, renAV, renSc, renObj, rho_cons_zero, rho_cons_succ, ints, flat, u64s, pks, pk]; done)))) rfl) ?_
    (repeat (first | (show aops _ _ _ _ _; first | refine a_mov ?_ | refine a_endS ?_ | refine a_endQ ?_ | refine a_gT ?_ | refine a_gF ?_ | refine a_gU ?_ | refine a_gA ?_ | refine a_gB ?_ | refine a_addI ?_ | refine a_subI ?_ | refine a_addU ?_ | refine a_subU ?_ | refine a_mulI ?_ | refine a_mulU ?_ | refine a_convI ?_ | refine a_convU ?_ | refine a_index ?_ | refine a_load ?_ | refine a_loadN ?_ | refine a_pickT ?_ | refine a_pickF ?_ | refine a_append ?_ | refine a_appendN ?_ | refine a_lookI ?_ | refine a_lookB ?_ | refine a_lenMI ?_ | refine a_go ?_ | refine a_store ?_ | refine q_call0 rfl begun_tri ?_) | refine q_sr ?_ | refine q_r ?_ | refine q_sd ?_ | refine q_rd ?_ | refine awp_seq ?_ | refine awp_block ?_ | refine awp_skip ?_ | refine awp_exit ?_ | refine awp_ret ?_ | refine seqQ_normal ?_ | refine seqQ_exit ?_ | refine seqQ_ret ?_ | refine blockQ_normal ?_ | refine blockQ_self ?_ | refine blockQ_ret ?_ | refine loopQ_exit ?_ | refine loopQ_ret ?_ | refine a_ifT ?_ | refine a_ifF ?_ | refine a_ifA ?_ | refine a_ifB ?_ | refine blockQ_other (by decide) ?_))
    have o2 : GotR.Ok ⟨[((N : Int), 0)], N, true, 0, false⟩ := ⟨fun p hp => by simp only [List.mem_singleton] at hp; rw [hp]; exact hnN, by simp, hnN, hn0⟩
    have hfa : cellsR [((N : Int), 0)] 1 N 1 = some [0] := by simp [cellsR, mget]
    obtain ⟨out, q1, q2, q3, q4, q5⟩ := cells_of (L := [0]) (by intro s hs; simp only [List.mem_singleton] at hs; rw [hs]; rfl) (by simp) (by simp)
    have t3 := cells_rel (F := first) o2 rfl hfa (by dsimp only; omega) (by simp) (by simp)
    rw [q1, ceS_ne q2, ceO_ne q2] at t3
    simp only [GotSt.os, GotR.abs, if_true, if_false, Bool.false_eq_true, absM, List.map_nil] at t3
    refine q_call1 rfl (Tri.ans [0, 1] t3 (Nat.le_add_right _ _) rfl (by (repeat' (first | exact trivial | exact rfl | refine And.intro ?_ ?_ | (simp only [renObj, renSc_int, renSc_bool, renSc_str, renSc_ptr, renSc_slice, renSc_map, renSc_nilp, renSc_nils, renSc_nilm, renSc_nilf, renSc_func, List.map_cons, List.map_nil, List.map_append, ren_ints, ren_flat, ren_u64s, ren_pks, ren_mpI, ren_mkB]; exact rfl) | (simp [Heap.get, find, Env.get_cons, renAV, renSc, renObj, rho_cons_zero, rho_cons_succ, ints, flat, u64s, pks, pk]; done)))) rfl) ?_
    refine a_norm ?_
    refine q_call1 rfl (spread_tri (l := out) (slAt_own (vs := flat out) rfl (flat_length out)) (by omega)) ?_
    rw [q4]
    simp only [newV, newH, if_true]
    rw [q5, if_neg (by simp), if_neg (by simp)]
    have hge : decide ((N : Int) ≥ 250) = true := by simp only [decide_eq_true_eq]; omega
    (repeat (first | (show aops _ _ _ _ _; first | refine a_mov ?_ | refine a_endS ?_ | refine a_endQ ?_ | refine a_gT ?_ | refine a_gF ?_ | refine a_gU ?_ | refine a_gA ?_ | refine a_gB ?_ | refine a_addI ?_ | refine a_subI ?_ | refine a_addU ?_ | refine a_subU ?_ | refine a_mulI ?_ | refine a_mulU ?_ | refine a_convI ?_ | refine a_convU ?_ | refine a_index ?_ | refine a_load ?_ | refine a_loadN ?_ | refine a_pickT ?_ | refine a_pickF ?_ | refine a_append ?_ | refine a_appendN ?_ | refine a_lookI ?_ | refine a_lookB ?_ | refine a_lenMI ?_ | refine a_go ?_ | refine a_store ?_ | refine q_call0 rfl begun_tri ?_) | refine q_sr ?_ | refine q_r ?_ | refine q_sd ?_ | refine q_rd ?_ | refine awp_seq ?_ | refine awp_block ?_ | refine awp_skip ?_ | refine awp_exit ?_ | refine awp_ret ?_ | refine seqQ_normal ?_ | refine seqQ_exit ?_ | refine seqQ_ret ?_ | refine blockQ_normal ?_ | refine blockQ_self ?_ | refine blockQ_ret ?_ | refine loopQ_exit ?_ | refine loopQ_ret ?_ | refine a_ifT ?_ | refine a_ifF ?_ | refine a_ifA ?_ | refine a_ifB ?_ | refine blockQ_other (by decide) ?_))
    have t4 := has_rel (F := first) o2 hn0 e0
    rw [show GotR.has ⟨[((N : Int), 0)], N, true, 0, false⟩ 0 = false by
      have h1 : ¬ (0 : Int) = N := by omega
      simp [GotR.has, mget, h1]] at t4
    simp only [GotSt.os, GotR.abs, if_true, if_false, Bool.false_eq_true, absM, List.map_nil] at t4
    refine q_call1 rfl (Tri.ans [0, 1] t4 (Nat.le_refl _) rfl (by (repeat' (first | exact trivial | exact rfl | refine And.intro ?_ ?_ | (simp only [renObj, renSc_int, renSc_bool, renSc_str, renSc_ptr, renSc_slice, renSc_map, renSc_nilp, renSc_nils, renSc_nilm, renSc_nilf, renSc_func, List.map_cons, List.map_nil, List.map_append, ren_ints, ren_flat, ren_u64s, ren_pks, ren_mpI, ren_mkB]; exact rfl) | (simp [Heap.get, find, Env.get_cons, renAV, renSc, renObj, rho_cons_zero, rho_cons_succ, ints, flat, u64s, pks, pk]; done)))) rfl) ?_
    have g1 : (false == !decide ((N : Int) ≥ 250)) = true := by rw [hge]; rfl
    (repeat (first | (show aops _ _ _ _ _; first | refine a_mov ?_ | refine a_endS ?_ | refine a_endQ ?_ | refine a_gT ?_ | refine a_gF ?_ | refine a_gU ?_ | refine a_gA ?_ | refine a_gB ?_ | refine a_addI ?_ | refine a_subI ?_ | refine a_addU ?_ | refine a_subU ?_ | refine a_mulI ?_ | refine a_mulU ?_ | refine a_convI ?_ | refine a_convU ?_ | refine a_index ?_ | refine a_load ?_ | refine a_loadN ?_ | refine a_pickT ?_ | refine a_pickF ?_ | refine a_append ?_ | refine a_appendN ?_ | refine a_lookI ?_ | refine a_lookB ?_ | refine a_lenMI ?_ | refine a_go ?_ | refine a_store ?_ | refine q_call0 rfl begun_tri ?_) | refine q_sr ?_ | refine q_r ?_ | refine q_sd ?_ | refine q_rd ?_ | refine awp_seq ?_ | refine awp_block ?_ | refine awp_skip ?_ | refine awp_exit ?_ | refine awp_ret ?_ | refine seqQ_normal ?_ | refine seqQ_exit ?_ | refine seqQ_ret ?_ | refine blockQ_normal ?_ | refine blockQ_self ?_ | refine blockQ_ret ?_ | refine loopQ_exit ?_ | refine loopQ_ret ?_ | refine a_ifT ?_ | refine a_ifF ?_ | refine a_ifA ?_ | refine a_ifB ?_ | refine blockQ_other (by decide) ?_))
    have p3 : GotR.put ⟨[((N : Int), 0)], N, true, 0, false⟩ 0 true = (false, ⟨[((N : Int), 0)], N, true, 0, false⟩) := by
      have h1 : ¬ (0 : Int) = N := by omega
      simp only [GotR.put, GotR.has, mget, h1, if_false, Option.isSome_none, Bool.false_eq_true, Bool.true_and, decide_eq_true_eq]
      rw [if_pos (by omega)]
    have t5 := put_rel (F := first) o2 hn0 e0 true
    rw [p3] at t5
    simp only [GotSt.os, GotR.abs, if_true, if_false, Bool.false_eq_true, absM, List.map_nil] at t5
    refine q_call1 rfl (Tri.ans [0, 1] t5 (Nat.le_refl _) rfl (by (repeat' (first | exact trivial | exact rfl | refine And.intro ?_ ?_ | (simp only [renObj, renSc_int, renSc_bool, renSc_str, renSc_ptr, renSc_slice, renSc_map, renSc_nilp, renSc_nils, renSc_nilm, renSc_nilf, renSc_func, List.map_cons, List.map_nil, List.map_append, ren_ints, ren_flat, ren_u64s, ren_pks, ren_mpI, ren_mkB]; exact rfl) | (simp [Heap.get, find, Env.get_cons, renAV, renSc, renObj, rho_cons_zero, rho_cons_succ, ints, flat, u64s, pks, pk]; done)))) rfl) ?_
    (repeat (first | (show aops _ _ _ _ _; first | refine a_mov ?_ | refine a_endS ?_ | refine a_endQ ?_ | refine a_gT ?_ | refine a_gF ?_ | refine a_gU ?_ | refine a_gA ?_ | refine a_gB ?_ | refine a_addI ?_ | refine a_subI ?_ | refine a_addU ?_ | refine a_subU ?_ | refine a_mulI ?_ | refine a_mulU ?_ | refine a_convI ?_ | refine a_convU ?_ | refine a_index ?_ | refine a_load ?_ | refine a_loadN ?_ | refine a_pickT ?_ | refine a_pickF ?_ | refine a_append ?_ | refine a_appendN ?_ | refine a_lookI ?_ | refine a_lookB ?_ | refine a_lenMI ?_ | refine a_go ?_ | refine a_store ?_ | refine q_call0 rfl begun_tri ?_) | refine q_sr ?_ | refine q_r ?_ | refine q_sd ?_ | refine q_rd ?_ | refine awp_seq ?_ | refine awp_block ?_ | refine awp_skip ?_ | refine awp_exit ?_ | refine awp_ret ?_ | refine seqQ_normal ?_ | refine seqQ_exit ?_ | refine seqQ_ret ?_ | refine blockQ_normal ?_ | refine blockQ_self ?_ | refine blockQ_ret ?_ | refine loopQ_exit ?_ | refine loopQ_ret ?_ | refine a_ifT ?_ | refine a_ifF ?_ | refine a_ifA ?_ | refine a_ifB ?_ | refine blockQ_other (by decide) ?_))
    refine q_call0 rfl (step_tri (by unfold sOf; omega)) ?_
    (repeat (first | (show aops _ _ _ _ _; first | refine a_mov ?_ | refine a_endS ?_ | refine a_endQ ?_ | refine a_gT ?_ | refine a_gF ?_ | refine a_gU ?_ | refine a_gA ?_ | refine a_gB ?_ | refine a_addI ?_ | refine a_subI ?_ | refine a_addU ?_ | refine a_subU ?_ | refine a_mulI ?_ | refine a_mulU ?_ | refine a_convI ?_ | refine a_convU ?_ | refine a_index ?_ | refine a_load ?_ | refine a_loadN ?_ | refine a_pickT ?_ | refine a_pickF ?_ | refine a_append ?_ | refine a_appendN ?_ | refine a_lookI ?_ | refine a_lookB ?_ | refine a_lenMI ?_ | refine a_go ?_ | refine a_store ?_ | refine q_call0 rfl begun_tri ?_) | refine q_sr ?_ | refine q_r ?_ | refine q_sd ?_ | refine q_rd ?_ | refine awp_seq ?_ | refine awp_block ?_ | refine awp_skip ?_ | refine awp_exit ?_ | refine awp_ret ?_ | refine seqQ_normal ?_ | refine seqQ_exit ?_ | refine seqQ_ret ?_ | refine blockQ_normal ?_ | refine blockQ_self ?_ | refine blockQ_ret ?_ | refine loopQ_exit ?_ | refine loopQ_ret ?_ | refine a_ifT ?_ | refine a_ifF ?_ | refine a_ifA ?_ | refine a_ifB ?_ | refine blockQ_other (by decide) ?_))
    have e6 : sOf (sOf (sOf (first + N) + -249)) = key first (N - 249) := by rw [sOf_sOf]; exact key_key first N (-249)
    have t6 := put_rel (F := first) o2 (near_of (by omega) (by omega)) e6 false
    have hb : (GotR.put ⟨[((N : Int), 0)], N, true, 0, false⟩ (N - 249) false).1 = ((N : Int) != 249) := by
      have h2 : ¬ (N : Int) - 249 = N := by omega
      have h3 : ((N : Int) != 249) = true := by simp; omega
      rw [h3]
      simp only [GotR.put, GotR.has, mget, mset, h2, if_false, Option.isSome_none, Bool.false_eq_true, Bool.true_and, decide_eq_true_eq, Bool.false_and]
      rw [if_neg (by omega), if_neg (by simp; omega)]
    rw [hb] at t6
    simp only [GotSt.os] at t6
    refine q_call1 rfl (Tri.ans [0, 1] t6 (Nat.le_refl _) rfl (by (repeat' (first | exact trivial | exact rfl | refine And.intro ?_ ?_ | (simp only [renObj, renSc_int, renSc_bool, renSc_str, renSc_ptr, renSc_slice, renSc_map, renSc_nilp, renSc_nils, renSc_nilm, renSc_nilf, renSc_func, List.map_cons, List.map_nil, List.map_append, ren_ints, ren_flat, ren_u64s, ren_pks, ren_mpI, ren_mkB]; exact rfl) | (simp [Heap.get, find, Env.get_cons, renAV, renSc, renObj, rho_cons_zero, rho_cons_succ, ints, flat, u64s, pks, pk]; done)))) rfl) ?_
    (repeat (first | (show aops _ _ _ _ _; first | refine a_mov ?_ | refine a_endS ?_ | refine a_endQ ?_ | refine a_gT ?_ | refine a_gF ?_ | refine a_gU ?_ | refine a_gA ?_ | refine a_gB ?_ | refine a_addI ?_ | refine a_subI ?_ | refine a_addU ?_ | refine a_subU ?_ | refine a_mulI ?_ | refine a_mulU ?_ | refine a_convI ?_ | refine a_convU ?_ | refine a_index ?_ | refine a_load ?_ | refine a_loadN ?_ | refine a_pickT ?_ | refine a_pickF ?_ | refine a_append ?_ | refine a_appendN ?_ | refine a_lookI ?_ | refine a_lookB ?_ | refine a_lenMI ?_ | refine a_go ?_ | refine a_store ?_ | refine q_call0 rfl begun_tri ?_) | refine q_sr ?_ | refine q_r ?_ | refine q_sd ?_ | refine q_rd ?_ | refine awp_seq ?_ | refine awp_block ?_ | refine awp_skip ?_ | refine awp_exit ?_ | refine awp_ret ?_ | refine seqQ_normal ?_ | refine seqQ_exit ?_ | refine seqQ_ret ?_ | refine blockQ_normal ?_ | refine blockQ_self ?_ | refine blockQ_ret ?_ | refine loopQ_exit ?_ | refine loopQ_ret ?_ | refine a_ifT ?_ | refine a_ifF ?_ | refine a_ifA ?_ | refine a_ifB ?_ | refine blockQ_other (by decide) ?_))
    refine retR_same rfl ?_
    show AV.sc (.bool (((N : Int) != 249) == ((N : Int) != 249))) = _
    simp

end Go.Proofs.YtofkoppfkekngaaGreatDoor
