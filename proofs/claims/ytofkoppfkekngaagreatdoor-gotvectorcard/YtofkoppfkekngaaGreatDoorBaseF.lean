/- Shared texts of this seat's proofs, joined: an abstract interpreter of the compiled code, its soundness, contracts of the program's functions. -/
import Derived.Test.YtofkoppfkekngaaGreatDoorBaseE

/- vec.Of: what it computes. -/
namespace Go.Proofs.YtofkoppfkekngaaGreatDoor
open Go.Abs
set_option linter.unusedSimpArgs false
attribute [local irreducible] aops awp goD seqQ blockQ loopQ regS regQ




def outO : List (Int × Int) → List (Option AObj)
  | [] => []
  | p :: out => [some (.cells (flat (p :: out)))]
def outS : List (Int × Int) → Sc
  | [] => .nils
  | _ :: out => .slice 1 0 (out.length + 1) 2

theorem outS_snoc (init : List (Int × Int)) (p : Int × Int) : outS (init ++ [p]) = .slice 1 0 (init.length + 1) 2 := by cases init <;> simp [outS]
theorem outO_snoc (init : List (Int × Int)) (p : Int × Int) : outO (init ++ [p]) = [some (.cells (flat (init ++ [p])))] := by cases init <;> simp [outO]

set_option maxHeartbeats 2000000 in
theorem vecOf_sl {l : List Int} (hlen : l.length ≤ 1000000) : Tri Tryz.prog 19 [.sc (.slice 0 0 l.length 1)] (hp [some (.ro (ints l))]) fun u h' => match ofGo [] l with | none => Ans (.sc .nils) [some (.ro (ints l))] u h' | some out => Ans (.sc (outS out)) (some (.ro (ints l)) :: outO out) u h' := by
  refine Tri.of_bodyR progOk Tryz.func19 k19 c19 rfl fun hw hb => ?_
  dsimp only [a19]
  (repeat' (first | refine a_mov ?_ | refine a_endS ?_ | refine a_endQ ?_ | refine a_gT ?_ | refine a_gF ?_ | refine a_gA ?_ | refine a_gB ?_ | refine a_addI ?_ | refine a_subI ?_ | refine a_addU ?_ | refine a_subU ?_ | refine a_mulI ?_ | refine a_mulU ?_ | refine a_convI ?_ | refine a_convU ?_ | refine a_index ?_ | refine a_load ?_ | refine a_loadN ?_ | refine a_pickT ?_ | refine a_pickF ?_ | refine a_append ?_ | refine a_appendN ?_ | refine a_go ?_ | refine a_store ?_ | refine q_sr ?_ | refine q_r ?_ | refine q_sd ?_ | refine q_rd ?_ | refine awp_seq ?_ | refine awp_block ?_ | refine awp_skip ?_ | refine awp_exit ?_ | refine awp_ret ?_ | refine seqQ_normal ?_ | refine seqQ_exit ?_ | refine seqQ_ret ?_ | refine blockQ_normal ?_ | refine blockQ_self ?_ | refine blockQ_ret ?_ | refine loopQ_exit ?_ | refine loopQ_ret ?_ | refine a_ifT ?_ | refine a_ifF ?_ | refine a_ifA ?_ | refine a_ifB ?_ | refine blockQ_other (by decide) ?_ | refine q_call0 rfl state_tri ?_ | refine s_cE (fun hc hd => ?_) (fun hc hd => ?_) | refine s_cX (fun hc hd => ?_) (fun hc hd => ?_) | refine s_cD (fun hc hd => ?_) (fun hc hd => ?_) | refine s_cN (fun hc hd => ?_) (fun hc hd => ?_) | refine s_c (fun hc hd => ?_) (fun hc hd => ?_) | refine s_aE (fun hc hd => ?_) (fun hc hd => ?_) | refine s_aX (fun hc hd => ?_) (fun hc hd => ?_) | refine s_aD (fun hc hd => ?_) (fun hc hd => ?_) | refine s_aN (fun hc hd => ?_) (fun hc hd => ?_) | refine s_a (fun hc hd => ?_) (fun hc hd => ?_)))
  refine awp_loop (fun m e1 h1 => ∃ (i : Nat) (out : List (Int × Int)), i ≤ l.length ∧ m = l.length - i ∧ out.length ≤ i ∧ ofGo out (l.drop i) = ofGo [] l ∧ (∀ q ∈ out, 1 ≤ q.2 ∧ q.2 ≤ 64) ∧ h1 = hp (some (.ro (ints l)) :: outO out) ∧ e1 = [(3, .sc (outS out)), (7, .sc (.slice 0 0 l.length 1)), (8, .sc (.int .i64 l.length)), (9, .sc (.int .i64 i))]) l.length (e0 := [(3, .sc .nils), (7, .sc (.slice 0 0 l.length 1)), (8, .sc (.int .i64 l.length)), (9, .sc (.int .i64 0))]) (h0 := hp [some (.ro (ints l))]) (fgtE_hp [0] (by (repeat' (first | exact trivial | exact rfl | refine And.intro ?_ ?_ | (simp only [renObj, renSc, List.map_cons, List.map_nil, List.map_append, ren_ints, ren_flat, ren_u64s, ren_pks]; exact rfl)))) (by (repeat' (first | exact trivial | exact rfl | refine And.intro ?_ ?_ | (simp only [renObj, renSc, List.map_cons, List.map_nil, List.map_append, ren_ints, ren_flat, ren_u64s, ren_pks]; exact rfl)))) rfl rfl) ⟨0, [], by omega, rfl, by simp, rfl, by simp, rfl, rfl⟩ ?_
  rintro m e1 h1 ⟨i, out, hi, rfl, hol, hgo, hr, rfl, rfl⟩ hw1
  rcases Nat.lt_or_ge i l.length with hlt | hge
  · obtain ⟨s, hps⟩ : ∃ s, l[i]? = some s := ⟨l[i], by simp [hlt]⟩
    have hc : decide ((i : Int) < (l.length : Int)) = true := by simp; omega
    have hpi : (ints l)[0 + (i : Int).toNat * 1]? = some (.int .i64 s) := by simp [ints, hps]
    have hdrop : l.drop i = s :: l.drop (i + 1) := by
      obtain ⟨q1, q2⟩ := List.getElem?_eq_some_iff.1 hps
      rw [← q2]; exact List.drop_eq_getElem_cons q1
    have hm : ofGo out (l.drop i) = if !stateP s then none else ofGo (ofStep out s) (l.drop (i + 1)) := by rw [hdrop]; rfl
    have hN : (!stateP s) = true → ofGo [] l = none := fun h => by rw [← hgo, hm, if_pos h]
    have hY : (!stateP s) = false → ofGo (ofStep out s) (l.drop (i + 1)) = ofGo [] l := fun h => by rw [← hgo, hm, h]; rfl
    rcases nil_or_snoc out with rfl | ⟨init, p, rfl⟩
    · (repeat' (first | refine a_mov ?_ | refine a_endS ?_ | refine a_endQ ?_ | refine a_gT ?_ | refine a_gF ?_ | refine a_gA ?_ | refine a_gB ?_ | refine a_addI ?_ | refine a_subI ?_ | refine a_addU ?_ | refine a_subU ?_ | refine a_mulI ?_ | refine a_mulU ?_ | refine a_convI ?_ | refine a_convU ?_ | refine a_index ?_ | refine a_load ?_ | refine a_loadN ?_ | refine a_pickT ?_ | refine a_pickF ?_ | refine a_append ?_ | refine a_appendN ?_ | refine a_go ?_ | refine a_store ?_ | refine q_sr ?_ | refine q_r ?_ | refine q_sd ?_ | refine q_rd ?_ | refine awp_seq ?_ | refine awp_block ?_ | refine awp_skip ?_ | refine awp_exit ?_ | refine awp_ret ?_ | refine seqQ_normal ?_ | refine seqQ_exit ?_ | refine seqQ_ret ?_ | refine blockQ_normal ?_ | refine blockQ_self ?_ | refine blockQ_ret ?_ | refine loopQ_exit ?_ | refine loopQ_ret ?_ | refine a_ifT ?_ | refine a_ifF ?_ | refine a_ifA ?_ | refine a_ifB ?_ | refine blockQ_other (by decide) ?_ | refine q_call0 rfl state_tri ?_ | refine s_cE (fun hc hd => ?_) (fun hc hd => ?_) | refine s_cX (fun hc hd => ?_) (fun hc hd => ?_) | refine s_cD (fun hc hd => ?_) (fun hc hd => ?_) | refine s_cN (fun hc hd => ?_) (fun hc hd => ?_) | refine s_c (fun hc hd => ?_) (fun hc hd => ?_) | refine s_aE (fun hc hd => ?_) (fun hc hd => ?_) | refine s_aX (fun hc hd => ?_) (fun hc hd => ?_) | refine s_aD (fun hc hd => ?_) (fun hc hd => ?_) | refine s_aN (fun hc hd => ?_) (fun hc hd => ?_) | refine s_a (fun hc hd => ?_) (fun hc hd => ?_)))
      · rw [hN hc]
        exact retR_hp [0] rfl rfl (by (repeat' (first | exact trivial | exact rfl | refine And.intro ?_ ?_ | (simp only [renObj, renSc, List.map_cons, List.map_nil, List.map_append, ren_ints, ren_flat, ren_u64s, ren_pks]; exact rfl)))) rfl rfl
      · exact loopQ_normal (m := l.length - (i + 1)) (by omega) (fgtE_hp [0, 2] (e := [(3, .sc (outS [(s, 1)])), (7, .sc (.slice 0 0 l.length 1)), (8, .sc (.int .i64 l.length)), (9, .sc (.int .i64 ((i + 1 : Nat) : Int)))]) (os := some (.ro (ints l)) :: outO [(s, 1)]) (by (repeat' (first | exact trivial | exact rfl | refine And.intro ?_ ?_ | (simp only [renObj, renSc, List.map_cons, List.map_nil, List.map_append, ren_ints, ren_flat, ren_u64s, ren_pks]; exact rfl)))) (by (repeat' (first | exact trivial | exact rfl | refine And.intro ?_ ?_ | (simp only [renObj, renSc, List.map_cons, List.map_nil, List.map_append, ren_ints, ren_flat, ren_u64s, ren_pks]; exact rfl)))) rfl rfl) ⟨i + 1, [(s, 1)], by omega, rfl, by simp, hY hc, by simp, rfl, rfl⟩
    · have hS : outS (init ++ [p]) = .slice 1 0 (init.length + 1) 2 := outS_snoc init p
      have hO : outO (init ++ [p]) = [some (.cells (flat (init ++ [p])))] := outO_snoc init p
      have hil : init.length + 1 ≤ i := by simpa using hol
      rw [hS, hO]
      have hq : (((init.length + 1 : Nat) : Int) - 1).toNat = init.length := by omega
      have hq1 : (flat (init ++ [p]))[0 + (((init.length + 1 : Nat) : Int) - 1).toNat * 2 + 0]? = some (.int .i64 p.1) := by
        rw [hq, flat_append, get_at (j := 0) (by rw [flat_length]; omega)]; rfl
      have hq2 : (flat (init ++ [p]))[0 + (((init.length + 1 : Nat) : Int) - 1).toNat * 2 + 1]? = some (.int .i64 p.2) := by
        rw [hq, flat_append, get_at (j := 1) (by rw [flat_length]; omega)]; rfl
      have hsp : ∀ x, splice (flat (init ++ [p])) ((((init.length + 1 : Nat) : Int) - 1).toNat * 2 + 1) [.int .i64 x] = flat (init ++ [(p.1, x)]) := fun x => by
        rw [hq, flat_append, flat_append, splice_at (j := 1) _ _ _ _ (by rw [flat_length])]; rfl
      have hc0 : decide ((((init.length + 1 : Nat) : Int) - 1) ≥ 0) = true := by simp
      have hpr := hr p (by simp)
      (repeat' (first | refine a_mov ?_ | refine a_endS ?_ | refine a_endQ ?_ | refine a_gT ?_ | refine a_gF ?_ | refine a_gA ?_ | refine a_gB ?_ | refine a_addI ?_ | refine a_subI ?_ | refine a_addU ?_ | refine a_subU ?_ | refine a_mulI ?_ | refine a_mulU ?_ | refine a_convI ?_ | refine a_convU ?_ | refine a_index ?_ | refine a_load ?_ | refine a_loadN ?_ | refine a_pickT ?_ | refine a_pickF ?_ | refine a_append ?_ | refine a_appendN ?_ | refine a_go ?_ | refine a_store ?_ | refine q_sr ?_ | refine q_r ?_ | refine q_sd ?_ | refine q_rd ?_ | refine awp_seq ?_ | refine awp_block ?_ | refine awp_skip ?_ | refine awp_exit ?_ | refine awp_ret ?_ | refine seqQ_normal ?_ | refine seqQ_exit ?_ | refine seqQ_ret ?_ | refine blockQ_normal ?_ | refine blockQ_self ?_ | refine blockQ_ret ?_ | refine loopQ_exit ?_ | refine loopQ_ret ?_ | refine a_ifT ?_ | refine a_ifF ?_ | refine a_ifA ?_ | refine a_ifB ?_ | refine blockQ_other (by decide) ?_ | refine q_call0 rfl state_tri ?_ | refine s_cE (fun hc hd => ?_) (fun hc hd => ?_) | refine s_cX (fun hc hd => ?_) (fun hc hd => ?_) | refine s_cD (fun hc hd => ?_) (fun hc hd => ?_) | refine s_cN (fun hc hd => ?_) (fun hc hd => ?_) | refine s_c (fun hc hd => ?_) (fun hc hd => ?_) | refine s_aE (fun hc hd => ?_) (fun hc hd => ?_) | refine s_aX (fun hc hd => ?_) (fun hc hd => ?_) | refine s_aD (fun hc hd => ?_) (fun hc hd => ?_) | refine s_aN (fun hc hd => ?_) (fun hc hd => ?_) | refine s_a (fun hc hd => ?_) (fun hc hd => ?_)))
      · rw [hN hc]
        exact retR_hp [0] rfl rfl (by (repeat' (first | exact trivial | exact rfl | refine And.intro ?_ ?_ | (simp only [renObj, renSc, List.map_cons, List.map_nil, List.map_append, ren_ints, ren_flat, ren_u64s, ren_pks]; exact rfl)))) rfl rfl
      · have hps1 : p.1 = s := by assumption
        have h1 : ofStep (init ++ [p]) s = init ++ [(p.1, p.2 + 1)] := by
          simp only [ofStep, List.getLast?_append, List.getLast?_singleton, Option.some_or, List.dropLast_concat, hps1, hc]
          simp
        refine loopQ_normal (m := l.length - (i + 1)) (by omega) (fgtE_hp [0, 1] (e := [(3, .sc (outS (init ++ [(p.1, p.2 + 1)]))), (7, .sc (.slice 0 0 l.length 1)), (8, .sc (.int .i64 l.length)), (9, .sc (.int .i64 ((i + 1 : Nat) : Int)))]) (os := some (.ro (ints l)) :: outO (init ++ [(p.1, p.2 + 1)])) ?_ ?_ rfl rfl) ⟨i + 1, _, by omega, rfl, by simp; omega, by rw [← h1]; exact hY (by assumption), ?_, rfl, rfl⟩
        · rw [hsp, outO_snoc]; (repeat' (first | exact trivial | exact rfl | refine And.intro ?_ ?_ | (simp only [renObj, renSc, List.map_cons, List.map_nil, List.map_append, ren_ints, ren_flat, ren_u64s, ren_pks]; exact rfl)))
        · rw [outS_snoc]; (repeat' (first | exact trivial | exact rfl | refine And.intro ?_ ?_ | (simp only [renObj, renSc, List.map_cons, List.map_nil, List.map_append, ren_ints, ren_flat, ren_u64s, ren_pks]; exact rfl)))
        · intro q hq
          rcases List.mem_append.1 hq with hq | hq
          · exact hr q (by simp [hq])
          · simp only [List.mem_singleton] at hq; subst hq; dsimp only; omega
      · have h1 : ofStep (init ++ [p]) s = init ++ [p] ++ [(s, 1)] := by
          simp only [ofStep, List.getLast?_append, List.getLast?_singleton, Option.some_or, hc]
          simp
        (refine loopQ_normal (m := l.length - (i + 1)) (by omega) (fgtE_hp [0, 3] (e := [(3, .sc (outS (init ++ [p] ++ [(s, 1)]))), (7, .sc (.slice 0 0 l.length 1)), (8, .sc (.int .i64 l.length)), (9, .sc (.int .i64 ((i + 1 : Nat) : Int)))]) (os := some (.ro (ints l)) :: outO (init ++ [p] ++ [(s, 1)])) ?_ ?_ rfl rfl) ⟨i + 1, _, by omega, rfl, by simp; omega, by rw [← h1]; exact hY (by assumption), ?_, rfl, rfl⟩; (· rw [outO_snoc, show flat (init ++ [p] ++ [(s, 1)]) = flat (init ++ [p]) ++ [.int .i64 s, .int .i64 1] by rw [flat_append (init ++ [p])]; rfl]; (repeat' (first | exact trivial | exact rfl | refine And.intro ?_ ?_ | (simp only [renObj, renSc, List.map_cons, List.map_nil, List.map_append, ren_ints, ren_flat, ren_u64s, ren_pks]; exact rfl)))); (· rw [outS_snoc, List.length_append]; (repeat' (first | exact trivial | exact rfl | refine And.intro ?_ ?_ | (simp only [renObj, renSc, List.map_cons, List.map_nil, List.map_append, ren_ints, ren_flat, ren_u64s, ren_pks]; exact rfl)))); (· intro q hq; rcases List.mem_append.1 hq with hq | hq; (· exact hr q hq); (· simp only [List.mem_singleton] at hq; subst hq; dsimp only; omega)))
      · have h1 : ofStep (init ++ [p]) s = init ++ [p] ++ [(s, 1)] := by
          simp only [ofStep, List.getLast?_append, List.getLast?_singleton, Option.some_or, hc]
          simp
        (refine loopQ_normal (m := l.length - (i + 1)) (by omega) (fgtE_hp [0, 3] (e := [(3, .sc (outS (init ++ [p] ++ [(s, 1)]))), (7, .sc (.slice 0 0 l.length 1)), (8, .sc (.int .i64 l.length)), (9, .sc (.int .i64 ((i + 1 : Nat) : Int)))]) (os := some (.ro (ints l)) :: outO (init ++ [p] ++ [(s, 1)])) ?_ ?_ rfl rfl) ⟨i + 1, _, by omega, rfl, by simp; omega, by rw [← h1]; exact hY (by assumption), ?_, rfl, rfl⟩; (· rw [outO_snoc, show flat (init ++ [p] ++ [(s, 1)]) = flat (init ++ [p]) ++ [.int .i64 s, .int .i64 1] by rw [flat_append (init ++ [p])]; rfl]; (repeat' (first | exact trivial | exact rfl | refine And.intro ?_ ?_ | (simp only [renObj, renSc, List.map_cons, List.map_nil, List.map_append, ren_ints, ren_flat, ren_u64s, ren_pks]; exact rfl)))); (· rw [outS_snoc, List.length_append]; (repeat' (first | exact trivial | exact rfl | refine And.intro ?_ ?_ | (simp only [renObj, renSc, List.map_cons, List.map_nil, List.map_append, ren_ints, ren_flat, ren_u64s, ren_pks]; exact rfl)))); (· intro q hq; rcases List.mem_append.1 hq with hq | hq; (· exact hr q hq); (· simp only [List.mem_singleton] at hq; subst hq; dsimp only; omega)))
  · have hc : decide ((i : Int) < (l.length : Int)) = false := by simp; omega
    (repeat' (first | refine a_mov ?_ | refine a_endS ?_ | refine a_endQ ?_ | refine a_gT ?_ | refine a_gF ?_ | refine a_gA ?_ | refine a_gB ?_ | refine a_addI ?_ | refine a_subI ?_ | refine a_addU ?_ | refine a_subU ?_ | refine a_mulI ?_ | refine a_mulU ?_ | refine a_convI ?_ | refine a_convU ?_ | refine a_index ?_ | refine a_load ?_ | refine a_loadN ?_ | refine a_pickT ?_ | refine a_pickF ?_ | refine a_append ?_ | refine a_appendN ?_ | refine a_go ?_ | refine a_store ?_ | refine q_sr ?_ | refine q_r ?_ | refine q_sd ?_ | refine q_rd ?_ | refine awp_seq ?_ | refine awp_block ?_ | refine awp_skip ?_ | refine awp_exit ?_ | refine awp_ret ?_ | refine seqQ_normal ?_ | refine seqQ_exit ?_ | refine seqQ_ret ?_ | refine blockQ_normal ?_ | refine blockQ_self ?_ | refine blockQ_ret ?_ | refine loopQ_exit ?_ | refine loopQ_ret ?_ | refine a_ifT ?_ | refine a_ifF ?_ | refine a_ifA ?_ | refine a_ifB ?_ | refine blockQ_other (by decide) ?_ | refine q_call0 rfl state_tri ?_ | refine s_cE (fun hc hd => ?_) (fun hc hd => ?_) | refine s_cX (fun hc hd => ?_) (fun hc hd => ?_) | refine s_cD (fun hc hd => ?_) (fun hc hd => ?_) | refine s_cN (fun hc hd => ?_) (fun hc hd => ?_) | refine s_c (fun hc hd => ?_) (fun hc hd => ?_) | refine s_aE (fun hc hd => ?_) (fun hc hd => ?_) | refine s_aX (fun hc hd => ?_) (fun hc hd => ?_) | refine s_aD (fun hc hd => ?_) (fun hc hd => ?_) | refine s_aN (fun hc hd => ?_) (fun hc hd => ?_) | refine s_a (fun hc hd => ?_) (fun hc hd => ?_)))
    have hil : i = l.length := by omega
    rw [← hgo, hil, List.drop_length]
    cases out with
    | nil => exact retR_hp [0] rfl rfl (by (repeat' (first | exact trivial | exact rfl | refine And.intro ?_ ?_ | (simp only [renObj, renSc, List.map_cons, List.map_nil, List.map_append, ren_ints, ren_flat, ren_u64s, ren_pks]; exact rfl)))) rfl rfl
    | cons p out => exact retR_hp [0, 1] rfl rfl (by (repeat' (first | exact trivial | exact rfl | refine And.intro ?_ ?_ | (simp only [renObj, renSc, List.map_cons, List.map_nil, List.map_append, ren_ints, ren_flat, ren_u64s, ren_pks]; exact rfl)))) rfl rfl

end Go.Proofs.YtofkoppfkekngaaGreatDoor

/- vec.Spread: what it computes. -/
namespace Go.Proofs.YtofkoppfkekngaaGreatDoor
open Go.Abs
set_option linter.unusedSimpArgs false
attribute [local irreducible] aops awp goD seqQ blockQ loopQ regS regQ Tri

/-- The states of cells, one behind the other. -/
def sp (l : List (Int × Int)) : List Int := l.flatMap fun p => List.replicate p.2.toNat p.1

theorem sp_append (a b : List (Int × Int)) : sp (a ++ b) = sp a ++ sp b := by simp [sp]
theorem sp_one (p : Int × Int) : sp [p] = List.replicate p.2.toNat p.1 := by simp [sp]

theorem mayGo_spec : ∀ {l : List (Int × Int)} {n : Int}, mayGo n l = true → (∀ p ∈ l, stateP p.1 = true ∧ 1 ≤ p.2 ∧ p.2 ≤ 64) ∧ (n ≤ 1000 → n + (sp l).length ≤ 1000)
  | [], n, _ => ⟨by simp, by simp [sp]⟩
  | (s, r) :: l, n, h => by
    simp only [mayGo] at h
    split at h
    · cases h
    · rename_i h1
      split at h
      · cases h
      · rename_i h2
        obtain ⟨h3, h4⟩ := mayGo_spec h
        simp only [Bool.or_eq_true, Bool.not_eq_true', decide_eq_true_eq, not_or, Bool.not_eq_false, Int.not_lt] at h1
        refine ⟨fun p hp => ?_, fun hn => ?_⟩
        · rcases List.mem_cons.1 hp with rfl | hp
          · exact ⟨h1.1.1, h1.1.2, by omega⟩
          · exact h3 p hp
        · have := h4 (by omega)
          have e : sp ((s, r) :: l) = List.replicate r.toNat s ++ sp l := by simp [sp]
          rw [e, List.length_append, List.length_replicate]
          omega

def intO : List Int → List (Option AObj)
  | [] => []
  | x :: out => [some (.cells (ints (x :: out)))]
def intS : List Int → Sc
  | [] => .nils
  | _ :: out => .slice 1 0 (out.length + 1) 1
theorem intS_ne {l : List Int} (h : l ≠ []) : intS l = .slice 1 0 l.length 1 := by cases l <;> simp [intS] at h ⊢
theorem intO_ne {l : List Int} (h : l ≠ []) : intO l = [some (.cells (ints l))] := by cases l <;> simp [intO] at h ⊢


set_option maxHeartbeats 2000000 in
theorem spread_sl {l : List (Int × Int)} (hlen : l.length ≤ 4611686018427387904) : Tri Tryz.prog 20 [.sc (.slice 0 0 l.length 2)] (hp [some (.ro (flat l))]) (Ans (.sc (if mayGo 0 l then intS (sp l) else .nils)) (some (.ro (flat l)) :: if mayGo 0 l then intO (sp l) else [])) := by
  refine Tri.of_bodyR progOk Tryz.func20 k20 c20 rfl fun hw hb => ?_
  dsimp only [a20]
  (repeat (first | (show aops _ _ _ _ _; first | refine a_mov ?_ | refine a_endS ?_ | refine a_endQ ?_ | refine a_gT ?_ | refine a_gF ?_ | refine a_gU ?_ | refine a_gA ?_ | refine a_gB ?_ | refine a_addI ?_ | refine a_subI ?_ | refine a_addU ?_ | refine a_subU ?_ | refine a_mulI ?_ | refine a_mulU ?_ | refine a_convI ?_ | refine a_convU ?_ | refine a_index ?_ | refine a_load ?_ | refine a_loadN ?_ | refine a_pickT ?_ | refine a_pickF ?_ | refine a_append ?_ | refine a_appendN ?_ | refine a_lookI ?_ | refine a_lookB ?_ | refine a_lenMI ?_ | refine a_go ?_ | refine a_store ?_) | refine q_sr ?_ | refine q_r ?_ | refine q_sd ?_ | refine q_rd ?_ | refine awp_seq ?_ | refine awp_block ?_ | refine awp_skip ?_ | refine awp_exit ?_ | refine awp_ret ?_ | refine seqQ_normal ?_ | refine seqQ_exit ?_ | refine seqQ_ret ?_ | refine blockQ_normal ?_ | refine blockQ_self ?_ | refine blockQ_ret ?_ | refine loopQ_exit ?_ | refine loopQ_ret ?_ | refine a_ifT ?_ | refine a_ifF ?_ | refine a_ifA ?_ | refine a_ifB ?_ | refine blockQ_other (by decide) ?_))
  refine q_call0 rfl (may_tri (l := l) ⟨flat_length l, .inr ⟨0, 0, rfl, .inr ?_⟩⟩ hlen) ?_
  · exact cellsAt_all rfl (flat_length l)
  (repeat' (first | (show aops _ _ _ _ _; first | refine a_mov ?_ | refine a_endS ?_ | refine a_endQ ?_ | refine a_gT ?_ | refine a_gF ?_ | refine a_gU ?_ | refine a_gA ?_ | refine a_gB ?_ | refine a_addI ?_ | refine a_subI ?_ | refine a_addU ?_ | refine a_subU ?_ | refine a_mulI ?_ | refine a_mulU ?_ | refine a_convI ?_ | refine a_convU ?_ | refine a_index ?_ | refine a_load ?_ | refine a_loadN ?_ | refine a_pickT ?_ | refine a_pickF ?_ | refine a_append ?_ | refine a_appendN ?_ | refine a_lookI ?_ | refine a_lookB ?_ | refine a_lenMI ?_ | refine a_go ?_ | refine a_store ?_) | refine q_sr ?_ | refine q_r ?_ | refine q_sd ?_ | refine q_rd ?_ | refine awp_seq ?_ | refine awp_block ?_ | refine awp_skip ?_ | refine awp_exit ?_ | refine awp_ret ?_ | refine seqQ_normal ?_ | refine seqQ_exit ?_ | refine seqQ_ret ?_ | refine blockQ_normal ?_ | refine blockQ_self ?_ | refine blockQ_ret ?_ | refine loopQ_exit ?_ | refine loopQ_ret ?_ | refine a_ifT ?_ | refine a_ifF ?_ | refine a_ifA ?_ | refine a_ifB ?_ | refine blockQ_other (by decide) ?_ | refine s_cE (fun hc hd => ?_) (fun hc hd => ?_) | refine s_cX (fun hc hd => ?_) (fun hc hd => ?_) | refine s_cD (fun hc hd => ?_) (fun hc hd => ?_) | refine s_cN (fun hc hd => ?_) (fun hc hd => ?_) | refine s_c (fun hc hd => ?_) (fun hc hd => ?_) | refine s_aE (fun hc hd => ?_) (fun hc hd => ?_) | refine s_aX (fun hc hd => ?_) (fun hc hd => ?_) | refine s_aD (fun hc hd => ?_) (fun hc hd => ?_) | refine s_aN (fun hc hd => ?_) (fun hc hd => ?_) | refine s_a (fun hc hd => ?_) (fun hc hd => ?_)))
  · have hm : mayGo 0 l = false := by assumption
    rw [hm]
    exact retR_hp [0] rfl rfl (by (repeat' (first | exact trivial | exact rfl | refine And.intro ?_ ?_ | (simp only [renObj, renSc_int, renSc_bool, renSc_str, renSc_ptr, renSc_slice, renSc_map, renSc_nilp, renSc_nils, renSc_nilm, renSc_nilf, renSc_func, List.map_cons, List.map_nil, List.map_append, ren_ints, ren_flat, ren_u64s, ren_pks, ren_mpI, ren_mkB]; exact rfl) | (simp [Heap.get, find, Env.get_cons, renAV, renSc, renObj, rho_cons_zero, rho_cons_succ, ints, flat, u64s, pks, pk]; done)))) rfl rfl
  have hm : mayGo 0 l = true := by assumption
  obtain ⟨m1, m2⟩ := mayGo_spec hm
  have m3 := m2 (by omega)
  rw [hm]
  refine awp_loop (fun m e1 h1 => ∃ i : Nat, i ≤ l.length ∧ m = l.length - i ∧ h1 = hp (some (.ro (flat l)) :: intO (sp (l.take i))) ∧ e1 = [(3, .sc (intS (sp (l.take i)))), (9, .sc (.slice 0 0 l.length 2)), (10, .sc (.int .i64 l.length)), (11, .sc (.int .i64 i))]) l.length (e0 := [(3, .sc .nils), (9, .sc (.slice 0 0 l.length 2)), (10, .sc (.int .i64 l.length)), (11, .sc (.int .i64 0))]) (h0 := hp [some (.ro (flat l))]) (fgtE_hp [0] (by (repeat' (first | exact trivial | exact rfl | refine And.intro ?_ ?_ | (simp only [renObj, renSc_int, renSc_bool, renSc_str, renSc_ptr, renSc_slice, renSc_map, renSc_nilp, renSc_nils, renSc_nilm, renSc_nilf, renSc_func, List.map_cons, List.map_nil, List.map_append, ren_ints, ren_flat, ren_u64s, ren_pks, ren_mpI, ren_mkB]; exact rfl) | (simp [Heap.get, find, Env.get_cons, renAV, renSc, renObj, rho_cons_zero, rho_cons_succ, ints, flat, u64s, pks, pk]; done)))) (by (repeat' (first | exact trivial | exact rfl | refine And.intro ?_ ?_ | (simp only [renObj, renSc_int, renSc_bool, renSc_str, renSc_ptr, renSc_slice, renSc_map, renSc_nilp, renSc_nils, renSc_nilm, renSc_nilf, renSc_func, List.map_cons, List.map_nil, List.map_append, ren_ints, ren_flat, ren_u64s, ren_pks, ren_mpI, ren_mkB]; exact rfl) | (simp [Heap.get, find, Env.get_cons, renAV, renSc, renObj, rho_cons_zero, rho_cons_succ, ints, flat, u64s, pks, pk]; done)))) rfl rfl) ⟨0, by omega, rfl, rfl, rfl⟩ ?_
  rintro m e1 h1 ⟨i, hi, rfl, rfl, rfl⟩ hw1
  rcases Nat.lt_or_ge i l.length with hlt | hge
  · obtain ⟨⟨s, r⟩, hps⟩ : ∃ s, l[i]? = some s := ⟨l[i], by simp [hlt]⟩
    obtain ⟨g1, g2, g3⟩ := m1 _ (List.mem_of_getElem? hps)
    dsimp only at g1 g2 g3
    obtain ⟨r, rfl⟩ : ∃ n : Nat, r = n := ⟨r.toNat, by omega⟩
    have hc : decide ((i : Int) < (l.length : Int)) = true := by simp; omega
    have hpi : ((flat l).drop (0 + (i : Int).toNat * 2)).take 2 = [.int .i64 s, .int .i64 r] := by
      rw [Nat.zero_add]; exact flat_at hps
    have hnext : sp (l.take (i + 1)) = sp (l.take i) ++ List.replicate r s := by rw [take_snoc hps, sp_append, sp_one]; rfl
    have hne : sp (l.take i) ++ List.replicate r s ≠ [] := by
      cases r with
      | zero => omega
      | succ r => simp [List.replicate_succ]
    have hle : (sp (l.take i)).length + r ≤ 1000 := by
      have e : sp l = sp (l.take (i + 1)) ++ sp (l.drop (i + 1)) := by rw [← sp_append, List.take_append_drop]
      rw [e, hnext] at m3
      simp only [List.length_append, List.length_replicate] at m3
      omega
    have hx : ((sp (l.take i) ++ List.replicate r s).length) = (sp (l.take i)).length + r := by simp
    rcases Classical.em (sp (l.take i) = []) with h0 | h0
    · rw [h0] at hnext hle hx hne
      simp only [List.nil_append, List.length_nil, Nat.zero_add] at hnext hle hx hne
      rw [h0]
      simp only [intS, intO]
      (repeat (first | (show aops _ _ _ _ _; first | refine a_mov ?_ | refine a_endS ?_ | refine a_endQ ?_ | refine a_gT ?_ | refine a_gF ?_ | refine a_gU ?_ | refine a_gA ?_ | refine a_gB ?_ | refine a_addI ?_ | refine a_subI ?_ | refine a_addU ?_ | refine a_subU ?_ | refine a_mulI ?_ | refine a_mulU ?_ | refine a_convI ?_ | refine a_convU ?_ | refine a_index ?_ | refine a_load ?_ | refine a_loadN ?_ | refine a_pickT ?_ | refine a_pickF ?_ | refine a_append ?_ | refine a_appendN ?_ | refine a_lookI ?_ | refine a_lookB ?_ | refine a_lenMI ?_ | refine a_go ?_ | refine a_store ?_) | refine q_sr ?_ | refine q_r ?_ | refine q_sd ?_ | refine q_rd ?_ | refine awp_seq ?_ | refine awp_block ?_ | refine awp_skip ?_ | refine awp_exit ?_ | refine awp_ret ?_ | refine seqQ_normal ?_ | refine seqQ_exit ?_ | refine seqQ_ret ?_ | refine blockQ_normal ?_ | refine blockQ_self ?_ | refine blockQ_ret ?_ | refine loopQ_exit ?_ | refine loopQ_ret ?_ | refine a_ifT ?_ | refine a_ifF ?_ | refine a_ifA ?_ | refine a_ifB ?_ | refine blockQ_other (by decide) ?_))
      refine q_call1 rfl (rep_tri rfl (by omega) (by omega)) ?_
      (repeat (first | (show aops _ _ _ _ _; first | refine a_mov ?_ | refine a_endS ?_ | refine a_endQ ?_ | refine a_gT ?_ | refine a_gF ?_ | refine a_gU ?_ | refine a_gA ?_ | refine a_gB ?_ | refine a_addI ?_ | refine a_subI ?_ | refine a_addU ?_ | refine a_subU ?_ | refine a_mulI ?_ | refine a_mulU ?_ | refine a_convI ?_ | refine a_convU ?_ | refine a_index ?_ | refine a_load ?_ | refine a_loadN ?_ | refine a_pickT ?_ | refine a_pickF ?_ | refine a_append ?_ | refine a_appendN ?_ | refine a_lookI ?_ | refine a_lookB ?_ | refine a_lenMI ?_ | refine a_go ?_ | refine a_store ?_) | refine q_sr ?_ | refine q_r ?_ | refine q_sd ?_ | refine q_rd ?_ | refine awp_seq ?_ | refine awp_block ?_ | refine awp_skip ?_ | refine awp_exit ?_ | refine awp_ret ?_ | refine seqQ_normal ?_ | refine seqQ_exit ?_ | refine seqQ_ret ?_ | refine blockQ_normal ?_ | refine blockQ_self ?_ | refine blockQ_ret ?_ | refine loopQ_exit ?_ | refine loopQ_ret ?_ | refine a_ifT ?_ | refine a_ifF ?_ | refine a_ifA ?_ | refine a_ifB ?_ | refine blockQ_other (by decide) ?_))
      rw [ints_rep]
      refine loopQ_normal (m := l.length - (i + 1)) (by omega) (fgtE_hp [0, 4] (e := [(3, .sc (intS (sp (l.take (i + 1))))), (9, .sc (.slice 0 0 l.length 2)), (10, .sc (.int .i64 l.length)), (11, .sc (.int .i64 ((i + 1 : Nat) : Int)))]) (os := some (.ro (flat l)) :: intO (sp (l.take (i + 1)))) ?_ ?_ rfl rfl) ⟨i + 1, by omega, rfl, rfl, rfl⟩
      · rw [hnext, intO_ne hne]; (repeat' (first | exact trivial | exact rfl | refine And.intro ?_ ?_ | (simp only [renObj, renSc_int, renSc_bool, renSc_str, renSc_ptr, renSc_slice, renSc_map, renSc_nilp, renSc_nils, renSc_nilm, renSc_nilf, renSc_func, List.map_cons, List.map_nil, List.map_append, ren_ints, ren_flat, ren_u64s, ren_pks, ren_mpI, ren_mkB]; exact rfl) | (simp [Heap.get, find, Env.get_cons, renAV, renSc, renObj, rho_cons_zero, rho_cons_succ, ints, flat, u64s, pks, pk]; done)))
      · rw [hnext, intS_ne hne, hx]; (repeat' (first | exact trivial | exact rfl | refine And.intro ?_ ?_ | (simp only [renObj, renSc_int, renSc_bool, renSc_str, renSc_ptr, renSc_slice, renSc_map, renSc_nilp, renSc_nils, renSc_nilm, renSc_nilf, renSc_func, List.map_cons, List.map_nil, List.map_append, ren_ints, ren_flat, ren_u64s, ren_pks, ren_mpI, ren_mkB]; exact rfl) | (simp [Heap.get, find, Env.get_cons, renAV, renSc, renObj, rho_cons_zero, rho_cons_succ, ints, flat, u64s, pks, pk]; done)))
    · rw [intS_ne h0, intO_ne h0]
      (repeat (first | (show aops _ _ _ _ _; first | refine a_mov ?_ | refine a_endS ?_ | refine a_endQ ?_ | refine a_gT ?_ | refine a_gF ?_ | refine a_gU ?_ | refine a_gA ?_ | refine a_gB ?_ | refine a_addI ?_ | refine a_subI ?_ | refine a_addU ?_ | refine a_subU ?_ | refine a_mulI ?_ | refine a_mulU ?_ | refine a_convI ?_ | refine a_convU ?_ | refine a_index ?_ | refine a_load ?_ | refine a_loadN ?_ | refine a_pickT ?_ | refine a_pickF ?_ | refine a_append ?_ | refine a_appendN ?_ | refine a_lookI ?_ | refine a_lookB ?_ | refine a_lenMI ?_ | refine a_go ?_ | refine a_store ?_) | refine q_sr ?_ | refine q_r ?_ | refine q_sd ?_ | refine q_rd ?_ | refine awp_seq ?_ | refine awp_block ?_ | refine awp_skip ?_ | refine awp_exit ?_ | refine awp_ret ?_ | refine seqQ_normal ?_ | refine seqQ_exit ?_ | refine seqQ_ret ?_ | refine blockQ_normal ?_ | refine blockQ_self ?_ | refine blockQ_ret ?_ | refine loopQ_exit ?_ | refine loopQ_ret ?_ | refine a_ifT ?_ | refine a_ifF ?_ | refine a_ifA ?_ | refine a_ifB ?_ | refine blockQ_other (by decide) ?_))
      refine q_call1 rfl (rep_tri rfl (by omega) (by omega)) ?_
      (repeat (first | (show aops _ _ _ _ _; first | refine a_mov ?_ | refine a_endS ?_ | refine a_endQ ?_ | refine a_gT ?_ | refine a_gF ?_ | refine a_gU ?_ | refine a_gA ?_ | refine a_gB ?_ | refine a_addI ?_ | refine a_subI ?_ | refine a_addU ?_ | refine a_subU ?_ | refine a_mulI ?_ | refine a_mulU ?_ | refine a_convI ?_ | refine a_convU ?_ | refine a_index ?_ | refine a_load ?_ | refine a_loadN ?_ | refine a_pickT ?_ | refine a_pickF ?_ | refine a_append ?_ | refine a_appendN ?_ | refine a_lookI ?_ | refine a_lookB ?_ | refine a_lenMI ?_ | refine a_go ?_ | refine a_store ?_) | refine q_sr ?_ | refine q_r ?_ | refine q_sd ?_ | refine q_rd ?_ | refine awp_seq ?_ | refine awp_block ?_ | refine awp_skip ?_ | refine awp_exit ?_ | refine awp_ret ?_ | refine seqQ_normal ?_ | refine seqQ_exit ?_ | refine seqQ_ret ?_ | refine blockQ_normal ?_ | refine blockQ_self ?_ | refine blockQ_ret ?_ | refine loopQ_exit ?_ | refine loopQ_ret ?_ | refine a_ifT ?_ | refine a_ifF ?_ | refine a_ifA ?_ | refine a_ifB ?_ | refine blockQ_other (by decide) ?_))
      rw [ints_rep]
      refine loopQ_normal (m := l.length - (i + 1)) (by omega) (fgtE_hp [0, 5] (e := [(3, .sc (intS (sp (l.take (i + 1))))), (9, .sc (.slice 0 0 l.length 2)), (10, .sc (.int .i64 l.length)), (11, .sc (.int .i64 ((i + 1 : Nat) : Int)))]) (os := some (.ro (flat l)) :: intO (sp (l.take (i + 1)))) ?_ ?_ rfl rfl) ⟨i + 1, by omega, rfl, rfl, rfl⟩
      · rw [hnext, intO_ne hne, ints_append]; (repeat' (first | exact trivial | exact rfl | refine And.intro ?_ ?_ | (simp only [renObj, renSc_int, renSc_bool, renSc_str, renSc_ptr, renSc_slice, renSc_map, renSc_nilp, renSc_nils, renSc_nilm, renSc_nilf, renSc_func, List.map_cons, List.map_nil, List.map_append, ren_ints, ren_flat, ren_u64s, ren_pks, ren_mpI, ren_mkB]; exact rfl) | (simp [Heap.get, find, Env.get_cons, renAV, renSc, renObj, rho_cons_zero, rho_cons_succ, ints, flat, u64s, pks, pk]; done)))
      · rw [hnext, intS_ne hne, hx]; (repeat' (first | exact trivial | exact rfl | refine And.intro ?_ ?_ | (simp only [renObj, renSc_int, renSc_bool, renSc_str, renSc_ptr, renSc_slice, renSc_map, renSc_nilp, renSc_nils, renSc_nilm, renSc_nilf, renSc_func, List.map_cons, List.map_nil, List.map_append, ren_ints, ren_flat, ren_u64s, ren_pks, ren_mpI, ren_mkB]; exact rfl) | (simp [Heap.get, find, Env.get_cons, renAV, renSc, renObj, rho_cons_zero, rho_cons_succ, ints, flat, u64s, pks, pk]; done)))
  · have hc : decide ((i : Int) < (l.length : Int)) = false := by simp; omega
    (repeat (first | (show aops _ _ _ _ _; first | refine a_mov ?_ | refine a_endS ?_ | refine a_endQ ?_ | refine a_gT ?_ | refine a_gF ?_ | refine a_gU ?_ | refine a_gA ?_ | refine a_gB ?_ | refine a_addI ?_ | refine a_subI ?_ | refine a_addU ?_ | refine a_subU ?_ | refine a_mulI ?_ | refine a_mulU ?_ | refine a_convI ?_ | refine a_convU ?_ | refine a_index ?_ | refine a_load ?_ | refine a_loadN ?_ | refine a_pickT ?_ | refine a_pickF ?_ | refine a_append ?_ | refine a_appendN ?_ | refine a_lookI ?_ | refine a_lookB ?_ | refine a_lenMI ?_ | refine a_go ?_ | refine a_store ?_) | refine q_sr ?_ | refine q_r ?_ | refine q_sd ?_ | refine q_rd ?_ | refine awp_seq ?_ | refine awp_block ?_ | refine awp_skip ?_ | refine awp_exit ?_ | refine awp_ret ?_ | refine seqQ_normal ?_ | refine seqQ_exit ?_ | refine seqQ_ret ?_ | refine blockQ_normal ?_ | refine blockQ_self ?_ | refine blockQ_ret ?_ | refine loopQ_exit ?_ | refine loopQ_ret ?_ | refine a_ifT ?_ | refine a_ifF ?_ | refine a_ifA ?_ | refine a_ifB ?_ | refine blockQ_other (by decide) ?_))
    have hil : i = l.length := by omega
    rw [hil, List.take_length, if_pos rfl, if_pos rfl]
    cases sp l with
    | nil => exact retR_hp [0] rfl rfl (by (repeat' (first | exact trivial | exact rfl | refine And.intro ?_ ?_ | (simp only [renObj, renSc_int, renSc_bool, renSc_str, renSc_ptr, renSc_slice, renSc_map, renSc_nilp, renSc_nils, renSc_nilm, renSc_nilf, renSc_func, List.map_cons, List.map_nil, List.map_append, ren_ints, ren_flat, ren_u64s, ren_pks, ren_mpI, ren_mkB]; exact rfl) | (simp [Heap.get, find, Env.get_cons, renAV, renSc, renObj, rho_cons_zero, rho_cons_succ, ints, flat, u64s, pks, pk]; done)))) rfl rfl
    | cons p out => exact retR_hp [0, 1] rfl rfl (by (repeat' (first | exact trivial | exact rfl | refine And.intro ?_ ?_ | (simp only [renObj, renSc_int, renSc_bool, renSc_str, renSc_ptr, renSc_slice, renSc_map, renSc_nilp, renSc_nils, renSc_nilm, renSc_nilf, renSc_func, List.map_cons, List.map_nil, List.map_append, ren_ints, ren_flat, ren_u64s, ren_pks, ren_mpI, ren_mkB]; exact rfl) | (simp [Heap.get, find, Env.get_cons, renAV, renSc, renObj, rho_cons_zero, rho_cons_succ, ints, flat, u64s, pks, pk]; done)))) rfl rfl

/-- A new row of numbers, or none. -/
def newV (h : Heap) (l : List Int) : Sc := if l = [] then .nils else .slice h.next 0 l.length 1
def newH (h : Heap) (l : List Int) : Heap := if l = [] then h else h.alloc (.cells (ints l))


theorem spread_tri {h : Heap} {v : Sc} {l : List (Int × Int)} (hs : SlAt h v 2 (flat l) l.length) (hlen : l.length ≤ 4611686018427387904) : Tri Tryz.prog 20 [.sc v] h fun u h' => u = .sc (newV h (if mayGo 0 l then sp l else [])) ∧ h' = newH h (if mayGo 0 l then sp l else []) := by
  rcases Classical.em (l = []) with rfl | hne
  · refine Tri.of_bodyR progOk Tryz.func20 k20 c20 rfl fun hw hb => ?_
    dsimp only [a20]
    (repeat (first | (show aops _ _ _ _ _; first | refine a_mov ?_ | refine a_endS ?_ | refine a_endQ ?_ | refine a_gT ?_ | refine a_gF ?_ | refine a_gU ?_ | refine a_gA ?_ | refine a_gB ?_ | refine a_addI ?_ | refine a_subI ?_ | refine a_addU ?_ | refine a_subU ?_ | refine a_mulI ?_ | refine a_mulU ?_ | refine a_convI ?_ | refine a_convU ?_ | refine a_index ?_ | refine a_load ?_ | refine a_loadN ?_ | refine a_pickT ?_ | refine a_pickF ?_ | refine a_append ?_ | refine a_appendN ?_ | refine a_lookI ?_ | refine a_lookB ?_ | refine a_lenMI ?_ | refine a_go ?_ | refine a_store ?_) | refine q_sr ?_ | refine q_r ?_ | refine q_sd ?_ | refine q_rd ?_ | refine awp_seq ?_ | refine awp_block ?_ | refine awp_skip ?_ | refine awp_exit ?_ | refine awp_ret ?_ | refine seqQ_normal ?_ | refine seqQ_exit ?_ | refine seqQ_ret ?_ | refine blockQ_normal ?_ | refine blockQ_self ?_ | refine blockQ_ret ?_ | refine loopQ_exit ?_ | refine loopQ_ret ?_ | refine a_ifT ?_ | refine a_ifF ?_ | refine a_ifA ?_ | refine a_ifB ?_ | refine blockQ_other (by decide) ?_))
    refine q_call0 rfl (may_tri (l := []) hs (by decide)) ?_
    (repeat (first | (show aops _ _ _ _ _; first | refine a_mov ?_ | refine a_endS ?_ | refine a_endQ ?_ | refine a_gT ?_ | refine a_gF ?_ | refine a_gU ?_ | refine a_gA ?_ | refine a_gB ?_ | refine a_addI ?_ | refine a_subI ?_ | refine a_addU ?_ | refine a_subU ?_ | refine a_mulI ?_ | refine a_mulU ?_ | refine a_convI ?_ | refine a_convU ?_ | refine a_index ?_ | refine a_load ?_ | refine a_loadN ?_ | refine a_pickT ?_ | refine a_pickF ?_ | refine a_append ?_ | refine a_appendN ?_ | refine a_lookI ?_ | refine a_lookB ?_ | refine a_lenMI ?_ | refine a_go ?_ | refine a_store ?_) | refine q_sr ?_ | refine q_r ?_ | refine q_sd ?_ | refine q_rd ?_ | refine awp_seq ?_ | refine awp_block ?_ | refine awp_skip ?_ | refine awp_exit ?_ | refine awp_ret ?_ | refine seqQ_normal ?_ | refine seqQ_exit ?_ | refine seqQ_ret ?_ | refine blockQ_normal ?_ | refine blockQ_self ?_ | refine blockQ_ret ?_ | refine loopQ_exit ?_ | refine loopQ_ret ?_ | refine a_ifT ?_ | refine a_ifF ?_ | refine a_ifA ?_ | refine a_ifB ?_ | refine blockQ_other (by decide) ?_))
    refine aops_go (aop_len (n := 0) rfl hs) ?_
    (repeat (first | (show aops _ _ _ _ _; first | refine a_mov ?_ | refine a_endS ?_ | refine a_endQ ?_ | refine a_gT ?_ | refine a_gF ?_ | refine a_gU ?_ | refine a_gA ?_ | refine a_gB ?_ | refine a_addI ?_ | refine a_subI ?_ | refine a_addU ?_ | refine a_subU ?_ | refine a_mulI ?_ | refine a_mulU ?_ | refine a_convI ?_ | refine a_convU ?_ | refine a_index ?_ | refine a_load ?_ | refine a_loadN ?_ | refine a_pickT ?_ | refine a_pickF ?_ | refine a_append ?_ | refine a_appendN ?_ | refine a_lookI ?_ | refine a_lookB ?_ | refine a_lenMI ?_ | refine a_go ?_ | refine a_store ?_) | refine q_sr ?_ | refine q_r ?_ | refine q_sd ?_ | refine q_rd ?_ | refine awp_seq ?_ | refine awp_block ?_ | refine awp_skip ?_ | refine awp_exit ?_ | refine awp_ret ?_ | refine seqQ_normal ?_ | refine seqQ_exit ?_ | refine seqQ_ret ?_ | refine blockQ_normal ?_ | refine blockQ_self ?_ | refine blockQ_ret ?_ | refine loopQ_exit ?_ | refine loopQ_ret ?_ | refine a_ifT ?_ | refine a_ifF ?_ | refine a_ifA ?_ | refine a_ifB ?_ | refine blockQ_other (by decide) ?_))
    refine awp_loop (fun m e1 h1 => h1 = h ∧ e1 = [(3, .sc .nils), (10, .sc (.int .i64 0)), (11, .sc (.int .i64 0))]) 0 (e0 := [(3, .sc .nils), (10, .sc (.int .i64 0)), (11, .sc (.int .i64 0))]) (h0 := h) (fgtE_sub (by intro q hq; simp only [List.mem_cons, List.not_mem_nil, or_false] at hq; rcases hq with rfl | rfl | rfl <;> rfl)) ⟨rfl, rfl⟩ ?_
    rintro m e1 h1 ⟨rfl, rfl⟩ _
    (repeat (first | (show aops _ _ _ _ _; first | refine a_mov ?_ | refine a_endS ?_ | refine a_endQ ?_ | refine a_gT ?_ | refine a_gF ?_ | refine a_gU ?_ | refine a_gA ?_ | refine a_gB ?_ | refine a_addI ?_ | refine a_subI ?_ | refine a_addU ?_ | refine a_subU ?_ | refine a_mulI ?_ | refine a_mulU ?_ | refine a_convI ?_ | refine a_convU ?_ | refine a_index ?_ | refine a_load ?_ | refine a_loadN ?_ | refine a_pickT ?_ | refine a_pickF ?_ | refine a_append ?_ | refine a_appendN ?_ | refine a_lookI ?_ | refine a_lookB ?_ | refine a_lenMI ?_ | refine a_go ?_ | refine a_store ?_) | refine q_sr ?_ | refine q_r ?_ | refine q_sd ?_ | refine q_rd ?_ | refine awp_seq ?_ | refine awp_block ?_ | refine awp_skip ?_ | refine awp_exit ?_ | refine awp_ret ?_ | refine seqQ_normal ?_ | refine seqQ_exit ?_ | refine seqQ_ret ?_ | refine blockQ_normal ?_ | refine blockQ_self ?_ | refine blockQ_ret ?_ | refine loopQ_exit ?_ | refine loopQ_ret ?_ | refine a_ifT ?_ | refine a_ifF ?_ | refine a_ifA ?_ | refine a_ifB ?_ | refine blockQ_other (by decide) ?_))
    exact retR_same rfl ⟨rfl, rfl⟩
  · have hn : l.length ≠ 0 := by intro h; exact hne (List.length_eq_zero_iff.1 h)
    have h1 := spread_sl (l := l) hlen
    cases hm : mayGo 0 l with
    | false =>
      rw [hm] at h1
      exact (Tri.reader (as1 := []) (as2 := []) h1 hn hs (pure_flat l) (by intro v hv; cases hv) (by intro v hv; cases hv) trivial)
    | true =>
      have hsp : sp l ≠ [] := by
        cases l with
        | nil => exact absurd rfl hne
        | cons p l =>
          have := ((mayGo_spec hm).1 p (by simp)).2
          intro h0
          have : (sp (p :: l)).length = 0 := by rw [h0]; rfl
          simp only [sp, List.flatMap_cons, List.length_append, List.length_replicate] at this
          omega
      rw [hm, if_pos rfl, if_pos rfl, intS_ne hsp, intO_ne hsp] at h1
      rw [if_pos rfl, newV, newH, if_neg hsp, if_neg hsp]
      exact Tri.readerN (as1 := []) (as2 := []) h1 hn hs (pure_flat l) (by intro v hv; cases hv) (by intro v hv; cases hv) (pure_ints _)

/-- vec.Of, wherever the states lie. -/
def newCV (h : Heap) (l : List (Int × Int)) : Sc := if l = [] then .nils else .slice h.next 0 l.length 2
def newCH (h : Heap) (l : List (Int × Int)) : Heap := if l = [] then h else h.alloc (.cells (flat l))

theorem of_vec {h : Heap} {v : Sc} {l : List Int} (hs : SlAt h v 1 (ints l) l.length) (hlen : l.length ≤ 1000000) : Tri Tryz.prog 19 [.sc v] h fun u h' => u = .sc (newCV h ((ofGo [] l).getD [])) ∧ h' = newCH h ((ofGo [] l).getD []) := by
  rcases Classical.em (l = []) with rfl | hne
  · refine Tri.of_bodyR progOk Tryz.func19 k19 c19 rfl fun hw hb => ?_
    dsimp only [a19]
    (repeat (first | (show aops _ _ _ _ _; first | refine a_mov ?_ | refine a_endS ?_ | refine a_endQ ?_ | refine a_gT ?_ | refine a_gF ?_ | refine a_gU ?_ | refine a_gA ?_ | refine a_gB ?_ | refine a_addI ?_ | refine a_subI ?_ | refine a_addU ?_ | refine a_subU ?_ | refine a_mulI ?_ | refine a_mulU ?_ | refine a_convI ?_ | refine a_convU ?_ | refine a_index ?_ | refine a_load ?_ | refine a_loadN ?_ | refine a_pickT ?_ | refine a_pickF ?_ | refine a_append ?_ | refine a_appendN ?_ | refine a_lookI ?_ | refine a_lookB ?_ | refine a_lenMI ?_ | refine a_go ?_ | refine a_store ?_) | refine q_sr ?_ | refine q_r ?_ | refine q_sd ?_ | refine q_rd ?_ | refine awp_seq ?_ | refine awp_block ?_ | refine awp_skip ?_ | refine awp_exit ?_ | refine awp_ret ?_ | refine seqQ_normal ?_ | refine seqQ_exit ?_ | refine seqQ_ret ?_ | refine blockQ_normal ?_ | refine blockQ_self ?_ | refine blockQ_ret ?_ | refine loopQ_exit ?_ | refine loopQ_ret ?_ | refine a_ifT ?_ | refine a_ifF ?_ | refine a_ifA ?_ | refine a_ifB ?_ | refine blockQ_other (by decide) ?_))
    refine aops_go (aop_len (n := 0) rfl hs) ?_
    (repeat (first | (show aops _ _ _ _ _; first | refine a_mov ?_ | refine a_endS ?_ | refine a_endQ ?_ | refine a_gT ?_ | refine a_gF ?_ | refine a_gU ?_ | refine a_gA ?_ | refine a_gB ?_ | refine a_addI ?_ | refine a_subI ?_ | refine a_addU ?_ | refine a_subU ?_ | refine a_mulI ?_ | refine a_mulU ?_ | refine a_convI ?_ | refine a_convU ?_ | refine a_index ?_ | refine a_load ?_ | refine a_loadN ?_ | refine a_pickT ?_ | refine a_pickF ?_ | refine a_append ?_ | refine a_appendN ?_ | refine a_lookI ?_ | refine a_lookB ?_ | refine a_lenMI ?_ | refine a_go ?_ | refine a_store ?_) | refine q_sr ?_ | refine q_r ?_ | refine q_sd ?_ | refine q_rd ?_ | refine awp_seq ?_ | refine awp_block ?_ | refine awp_skip ?_ | refine awp_exit ?_ | refine awp_ret ?_ | refine seqQ_normal ?_ | refine seqQ_exit ?_ | refine seqQ_ret ?_ | refine blockQ_normal ?_ | refine blockQ_self ?_ | refine blockQ_ret ?_ | refine loopQ_exit ?_ | refine loopQ_ret ?_ | refine a_ifT ?_ | refine a_ifF ?_ | refine a_ifA ?_ | refine a_ifB ?_ | refine blockQ_other (by decide) ?_))
    refine awp_loop (fun m e1 h1 => h1 = h ∧ e1 = [(3, .sc .nils), (8, .sc (.int .i64 0)), (9, .sc (.int .i64 0))]) 0 (e0 := [(3, .sc .nils), (8, .sc (.int .i64 0)), (9, .sc (.int .i64 0))]) (h0 := h) (fgtE_sub (by intro q hq; simp only [List.mem_cons, List.not_mem_nil, or_false] at hq; rcases hq with rfl | rfl | rfl <;> rfl)) ⟨rfl, rfl⟩ ?_
    rintro m e1 h1 ⟨rfl, rfl⟩ _
    (repeat (first | (show aops _ _ _ _ _; first | refine a_mov ?_ | refine a_endS ?_ | refine a_endQ ?_ | refine a_gT ?_ | refine a_gF ?_ | refine a_gU ?_ | refine a_gA ?_ | refine a_gB ?_ | refine a_addI ?_ | refine a_subI ?_ | refine a_addU ?_ | refine a_subU ?_ | refine a_mulI ?_ | refine a_mulU ?_ | refine a_convI ?_ | refine a_convU ?_ | refine a_index ?_ | refine a_load ?_ | refine a_loadN ?_ | refine a_pickT ?_ | refine a_pickF ?_ | refine a_append ?_ | refine a_appendN ?_ | refine a_lookI ?_ | refine a_lookB ?_ | refine a_lenMI ?_ | refine a_go ?_ | refine a_store ?_) | refine q_sr ?_ | refine q_r ?_ | refine q_sd ?_ | refine q_rd ?_ | refine awp_seq ?_ | refine awp_block ?_ | refine awp_skip ?_ | refine awp_exit ?_ | refine awp_ret ?_ | refine seqQ_normal ?_ | refine seqQ_exit ?_ | refine seqQ_ret ?_ | refine blockQ_normal ?_ | refine blockQ_self ?_ | refine blockQ_ret ?_ | refine loopQ_exit ?_ | refine loopQ_ret ?_ | refine a_ifT ?_ | refine a_ifF ?_ | refine a_ifA ?_ | refine a_ifB ?_ | refine blockQ_other (by decide) ?_))
    exact retR_same rfl ⟨rfl, rfl⟩
  · have hn : l.length ≠ 0 := by intro h; exact hne (List.length_eq_zero_iff.1 h)
    have h1 := vecOf_sl (l := l) hlen
    cases ho : ofGo [] l with
    | none =>
      rw [ho] at h1
      exact Tri.reader (as1 := []) (as2 := []) h1 hn hs (pure_ints l) (by intro v hv; cases hv) (by intro v hv; cases hv) trivial
    | some out =>
      rw [ho] at h1
      cases out with
      | nil => exact Tri.reader (as1 := []) (as2 := []) h1 hn hs (pure_ints l) (by intro v hv; cases hv) (by intro v hv; cases hv) trivial
      | cons p out => exact Tri.readerN (as1 := []) (as2 := []) h1 hn hs (pure_ints l) (by intro v hv; cases hv) (by intro v hv; cases hv) (pure_flat _)

end Go.Proofs.YtofkoppfkekngaaGreatDoor

/- Plain laws of vectors: cells of states and back. -/
namespace Go.Proofs.YtofkoppfkekngaaGreatDoor
open Go.Abs
set_option linter.unusedSimpArgs false

/-- As few cells as there may be. -/
def adjOk : List (Int × Int) → Bool
  | p :: q :: l => (!(p.1 == q.1) || decide (p.2 ≥ 64)) && adjOk (q :: l)
  | _ => true

def runOk (l : List (Int × Int)) : Prop := ∀ p ∈ l, stateP p.1 = true ∧ 1 ≤ p.2 ∧ p.2 ≤ 64

theorem adjOk_snoc : ∀ (l : List (Int × Int)) (p q : Int × Int), adjOk (l ++ [p]) = true → (p.1 = q.1 → p.2 ≥ 64) → adjOk (l ++ [p, q]) = true
  | [], p, q, _, h => by
    simp only [List.nil_append, adjOk, Bool.and_true, Bool.or_eq_true, Bool.not_eq_true', beq_eq_false_iff_ne, ne_eq, decide_eq_true_eq]
    by_cases hpq : p.1 = q.1
    · exact .inr (h hpq)
    · exact .inl hpq
  | [a], p, q, h1, h => by
    simp only [List.cons_append, List.nil_append, adjOk, Bool.and_true, Bool.and_eq_true] at h1 ⊢
    refine ⟨h1, ?_⟩
    simp only [Bool.or_eq_true, Bool.not_eq_true', beq_eq_false_iff_ne, ne_eq, decide_eq_true_eq]
    by_cases hpq : p.1 = q.1
    · exact .inr (h hpq)
    · exact .inl hpq
  | a :: b :: l, p, q, h1, h => by
    simp only [List.cons_append, adjOk, Bool.and_eq_true] at h1 ⊢
    exact ⟨h1.1, adjOk_snoc (b :: l) p q h1.2 h⟩

theorem adjOk_turn : ∀ (l : List (Int × Int)) (s r r' : Int), adjOk (l ++ [(s, r)]) = true → adjOk (l ++ [(s, r')]) = true
  | [], _, _, _, _ => rfl
  | [a], s, r, r', h => h
  | a :: b :: l, s, r, r', h => by
    simp only [List.cons_append, adjOk, Bool.and_eq_true] at h ⊢
    exact ⟨h.1, adjOk_turn (b :: l) s r r' h.2⟩

theorem ofStep_spec {out : List (Int × Int)} {s : Int} (hs : stateP s = true) (hr : runOk out) (ha : adjOk out = true) : runOk (ofStep out s) ∧ adjOk (ofStep out s) = true ∧ sp (ofStep out s) = sp out ++ [s] ∧ ofStep out s ≠ [] := by
  rcases nil_or_snoc out with rfl | ⟨init, ⟨s', r⟩, rfl⟩
  · refine ⟨fun p hp => ?_, rfl, rfl, by simp [ofStep]⟩
    simp only [ofStep, List.getLast?_nil, List.mem_singleton] at hp
    subst hp
    exact ⟨hs, by dsimp only; omega, by dsimp only; omega⟩
  · obtain ⟨g1, g2, g3⟩ := hr (s', r) (by simp)
    dsimp only at g1 g2 g3
    have e : ofStep (init ++ [(s', r)]) s = if (s' == s && decide (r < 64)) = true then init ++ [(s', r + 1)] else init ++ [(s', r)] ++ [(s, 1)] := by
      simp only [ofStep, List.getLast?_append, List.getLast?_singleton, Option.some_or, List.dropLast_concat]
    rw [e]
    split
    · rename_i hc
      simp only [Bool.and_eq_true, beq_iff_eq, decide_eq_true_eq] at hc
      obtain ⟨rfl, hc⟩ := hc
      refine ⟨fun p hp => ?_, adjOk_turn _ _ _ _ ha, ?_, by simp⟩
      · rcases List.mem_append.1 hp with hp | hp
        · exact hr p (by simp [hp])
        · simp only [List.mem_singleton] at hp
          subst hp
          exact ⟨g1, by dsimp only; omega, by dsimp only; omega⟩
      · rw [sp_append, sp_append, sp_one, sp_one, List.append_assoc]
        congr 1
        rw [show (r + 1).toNat = r.toNat + 1 by omega, List.replicate_succ']
    · rename_i hc
      simp only [Bool.and_eq_true, beq_iff_eq, decide_eq_true_eq, not_and, Int.not_lt] at hc
      refine ⟨fun p hp => ?_, ?_, ?_, by simp⟩
      · rcases List.mem_append.1 hp with hp | hp
        · exact hr p hp
        · simp only [List.mem_singleton] at hp
          subst hp
          exact ⟨hs, by dsimp only; omega, by dsimp only; omega⟩
      · rw [List.append_assoc]
        exact adjOk_snoc init (s', r) (s, 1) ha fun h => hc h
      · rw [sp_append, sp_one]; rfl

theorem ofGo_spec : ∀ (l : List Int) (out : List (Int × Int)), (∀ s ∈ l, stateP s = true) → runOk out → adjOk out = true → ∃ o, ofGo out l = some o ∧ runOk o ∧ adjOk o = true ∧ sp o = sp out ++ l
  | [], out, _, hr, ha => ⟨out, rfl, hr, ha, by simp⟩
  | s :: l, out, hl, hr, ha => by
    have hs := hl s (by simp)
    obtain ⟨h1, h2, h3, _⟩ := ofStep_spec hs hr ha
    obtain ⟨o, g1, g2, g3, g4⟩ := ofGo_spec l (ofStep out s) (fun x hx => hl x (by simp [hx])) h1 h2
    refine ⟨o, ?_, g2, g3, ?_⟩
    · simp only [ofGo, hs, Bool.not_true, Bool.false_eq_true, if_false]; exact g1
    · rw [g4, h3]; simp

theorem mayGo_of : ∀ {l : List (Int × Int)} {n : Int}, runOk l → n + (sp l).length ≤ 1000 → mayGo n l = true
  | [], _, _, _ => rfl
  | (s, r) :: l, n, hr, hn => by
    obtain ⟨g1, g2, g3⟩ := hr (s, r) (by simp)
    dsimp only at g1 g2 g3
    have e : sp ((s, r) :: l) = List.replicate r.toNat s ++ sp l := by simp [sp]
    rw [e, List.length_append, List.length_replicate] at hn
    have h1 : mayGo (n + r) l = true := mayGo_of (fun p hp => hr p (by simp [hp])) (by omega)
    simp only [mayGo]
    rw [if_neg (by simp [g1]; omega), if_neg (by omega)]
    exact h1

theorem adjOk_get : ∀ {l : List (Int × Int)} {i : Nat} {p q : Int × Int}, adjOk l = true → l[i]? = some p → l[i + 1]? = some q → p.1 = q.1 → p.2 ≥ 64
  | [], _, _, _, _, h, _, _ => by simp at h
  | [a], i, p, q, _, _, h2, _ => by simp at h2
  | a :: b :: l, 0, p, q, h, h1, h2, he => by
    simp only [List.getElem?_cons_zero, Option.some.injEq] at h1
    simp only [List.getElem?_cons_succ, List.getElem?_cons_zero, Option.some.injEq] at h2
    subst h1; subst h2
    simp only [adjOk, Bool.and_eq_true, Bool.or_eq_true, Bool.not_eq_true', beq_eq_false_iff_ne, ne_eq, decide_eq_true_eq] at h
    rcases h.1 with h3 | h3
    · exact absurd he h3
    · exact h3
  | a :: b :: l, i + 1, p, q, h, h1, h2, he => by
    simp only [adjOk, Bool.and_eq_true] at h
    exact adjOk_get (l := b :: l) (i := i) h.2 (by simpa using h1) (by simpa using h2) he

theorem sp_nil_iff {l : List (Int × Int)} (hr : runOk l) : sp l = [] ↔ l = [] := by
  cases l with
  | nil => simp [sp]
  | cons p l =>
    obtain ⟨_, g2, _⟩ := hr p (by simp)
    constructor
    · intro h
      have : (sp (p :: l)).length = 0 := by rw [h]; rfl
      simp only [sp, List.flatMap_cons, List.length_append, List.length_replicate] at this
      omega
    · intro h; cases h

end Go.Proofs.YtofkoppfkekngaaGreatDoor
