/- Regions that draw, with a reading that an effect beside it leaves as it is; got, filled by numbers ahead of its newest one and behind. -/
import Derived.Test.YtofkoppfkekngaaGreatDoorQGotE
namespace Go.Abs
set_option linter.unusedSimpArgs false

/-- The rest of a region that draws; what is pending is among ids, or reads the same in every heap of which Hs holds. -/
def goDH (T : CallP) (Hs : Heap → Prop) (l : List DOper) (ids : List Nat) (K : Env → Heap → Prop) (e : Env) (h : Heap) : Prop :=
  ∀ ps : List Pend, PendOk ps h → (∀ p ∈ ps, p.id ∈ ids ∨ ∀ h', Hs h' → (aop p.op p.env h').map (·.1) = some p.val) → aopsD T l ps K e h

section
variable {P : Program} {T : CallP} {hb : Heap} {Hs : Heap → Prop} {l r : List DOper} {ids pre keep : List Nat} {K : Env → Heap → Prop} {e e0 e2 : Env} {h h2 : Heap} {v u : AV} {d : Option Nat} {o : AOp} {id kd : Nat} {b : ACode} {Q : AExit → Env → Heap → Prop} {f : FuncId} {args : List Opd} {vs : List AV}

theorem goD_hold (Hs : Heap → Prop) (hk : goDH T Hs l ids K e h) : goD T l ids K e h := by
  unfold goD
  intro ps hp hi
  exact hk ps hp fun p hm => (hi p hm).imp (fun x => x) fun hq h' _ => hq h'

theorem h_p (hk : goDH T Hs r ids K (bindD d v e) h) (ha : ∀ h', aop o e h' = some (v, h') := by exact fun _ => rfl) : goDH T Hs (⟨id, ⟨d, o, none⟩, pre, 0⟩ :: r) ids K e h := by
  intro ps hp hi
  simp only [aopsD, wantedA, ne_eq, not_true_eq_false, if_false, ha]
  refine hk _ (fun p hpm => ?_) fun p hpm => ?_
  · rcases List.mem_cons.1 hpm with rfl | hpm
    · rw [ha]; rfl
    · exact hp p hpm
  · rcases List.mem_cons.1 hpm with rfl | hpm
    · exact .inr fun h' _ => by rw [ha]; rfl
    · exact hi p hpm

theorem h_read (hh : Hs h) (ha : ∀ h', Hs h' → aop o e h' = some (v, h')) (hk : goDH T Hs r ids K (bindD d v e) h) : goDH T Hs (⟨id, ⟨d, o, none⟩, pre, 0⟩ :: r) ids K e h := by
  intro ps hp hi
  simp only [aopsD, wantedA, ne_eq, not_true_eq_false, if_false, ha h hh]
  refine hk _ (fun p hpm => ?_) fun p hpm => ?_
  · rcases List.mem_cons.1 hpm with rfl | hpm
    · rw [ha h hh]; rfl
    · exact hp p hpm
  · rcases List.mem_cons.1 hpm with rfl | hpm
    · exact .inr fun h' hh' => by rw [ha h' hh']; rfl
    · exact hi p hpm

theorem h_call0 (hv : evAll e args = some vs) (hT : Tri P f vs h fun v h' => v = u ∧ h' = h) (hk : goDH (Tri P) Hs r ids K (bindD d u e) h) (hkd : (Nat.beq kd 0) = false := by exact rfl) : goDH (Tri P) Hs (⟨id, ⟨d, .call f args, none⟩, pre, kd⟩ :: r) ids K e h := by
  intro ps hp hi
  have hkd' : kd ≠ 0 := by rintro rfl; cases hkd
  simp only [aopsD, wantedA, if_pos hkd', astep, hv]
  refine hT.mono ?_
  rintro v h' ⟨rfl, rfl⟩
  exact ⟨fun p hpm => hp p (List.mem_filter.1 hpm).1, hk _ (fun p hpm => hp p (List.mem_filter.1 hpm).1) fun p hpm => hi p (List.mem_filter.1 hpm).1⟩

theorem h_call1 (hv : evAll e args = some vs) (hT : Tri P f vs h fun v h' => v = u ∧ h' = h2) (hH : Hs h2) (hk : goDH (Tri P) Hs r [] K (bindD d u e) h2) (hsub : subN ids pre = true := by exact rfl) (hkd : (Nat.beq kd 0) = false := by exact rfl) : goDH (Tri P) Hs (⟨id, ⟨d, .call f args, none⟩, pre, kd⟩ :: r) ids K e h := by
  intro ps hp hi
  have hkd' : kd ≠ 0 := by rintro rfl; cases hkd
  simp only [aopsD, wantedA, if_pos hkd', astep, hv]
  refine hT.mono ?_
  rintro v h' ⟨rfl, rfl⟩
  have held : ∀ p ∈ ps.filter (fun p => !pre.contains p.id), ∀ h', Hs h' → (aop p.op p.env h').map (·.1) = some p.val := by
    intro p hpm
    rw [List.mem_filter] at hpm
    rcases hi p hpm.1 with h1 | h1
    · have := subN_spec hsub _ h1
      simp [this] at hpm
    · exact h1
  exact ⟨fun p hpm => held p hpm _ hH, hk _ (fun p hpm => held p hpm _ hH) fun p hpm => .inr (held p hpm)⟩

theorem h_endS (hk : awp T hb b Q e2 h2) (he : Env.close e0 e keep = e2 := by (conv => lhs; (try simp only [close_nil, close_cons, Env.put_cons, Env.put_nil, Env.get_cons, Env.get_nil, bindD_some, bindD_none, Option.getD_some, Option.getD_none, Nat.reduceEqDiff, if_true, if_false, reduceIte, reduceCtorEq, initEnv, List.zipIdx_cons, List.zipIdx_nil, Go.Abs.hp, hpGo, Heap.set_mk, Heap.del_mk, Heap.alloc_mk, put_nil, put_cons, drop_nil, drop_cons, plug, plugL, plugN, rho_cons_zero, rho_nil, rho_cons_succ, renObj, renSc_int, renSc_bool, renSc_str, renSc_ptr, renSc_slice, renSc_map, renSc_nilp, renSc_nils, renSc_nilm, renSc_nilf, renSc_func, renAV, renPart, List.map_cons, List.map_nil, List.map_append, List.length_cons, List.length_nil, List.drop_zero, List.drop_succ_cons, List.drop_nil, List.take_zero, List.take_succ_cons, List.take_nil, List.nil_append, List.cons_append, List.replicate_succ, List.replicate_zero, List.flatten_cons, List.flatten_nil, List.append_nil, Nat.reduceAdd, Nat.zero_add, splice_zero, splice_succ, ren_ints, ren_flat, ren_u64s, ren_pks, ren_mpI, ren_mkB, mput_mpI, mput_mkB]))) (hh : h = h2 := by (conv => lhs; (try simp only [close_nil, close_cons, Env.put_cons, Env.put_nil, Env.get_cons, Env.get_nil, bindD_some, bindD_none, Option.getD_some, Option.getD_none, Nat.reduceEqDiff, if_true, if_false, reduceIte, reduceCtorEq, initEnv, List.zipIdx_cons, List.zipIdx_nil, Go.Abs.hp, hpGo, Heap.set_mk, Heap.del_mk, Heap.alloc_mk, put_nil, put_cons, drop_nil, drop_cons, plug, plugL, plugN, rho_cons_zero, rho_nil, rho_cons_succ, renObj, renSc_int, renSc_bool, renSc_str, renSc_ptr, renSc_slice, renSc_map, renSc_nilp, renSc_nils, renSc_nilm, renSc_nilf, renSc_func, renAV, renPart, List.map_cons, List.map_nil, List.map_append, List.length_cons, List.length_nil, List.drop_zero, List.drop_succ_cons, List.drop_nil, List.take_zero, List.take_succ_cons, List.take_nil, List.nil_append, List.cons_append, List.replicate_succ, List.replicate_zero, List.flatten_cons, List.flatten_nil, List.append_nil, Nat.reduceAdd, Nat.zero_add, splice_zero, splice_succ, ren_ints, ren_flat, ren_u64s, ren_pks, ren_mpI, ren_mkB, mput_mpI, mput_mkB]))) : goDH T Hs [] ids (regS T hb b Q e0 keep) e h := by
  intro _ _ _
  subst he; subst hh
  exact hk

end
end Go.Abs
namespace Go.Proofs.YtofkoppfkekngaaGreatDoor
open Go.Abs
attribute [local irreducible] aops awp goD seqQ blockQ loopQ regS regQ Tri seqLess seqDiff farFrom sOf

theorem mget_mset (k a v : Int) : ∀ (ms : List (Int × Int)), mget k (mset a v ms) = if k = a then some v else mget k ms
  | [] => rfl
  | (j, u) :: ms => by
    have ih := mget_mset k a v ms
    simp only [mset]
    by_cases h : a = j
    · subst h
      simp only [if_true, mget]
      by_cases h2 : k = a
      · simp [h2]
      · simp [h2]
    · rw [if_neg h]
      simp only [mget, ih]
      by_cases h2 : k = j
      · subst h2
        have : ¬ k = a := fun h3 => h h3.symm
        simp [this]
      · simp [h2]
theorem mget_mem {k : Int} : ∀ {ms : List (Int × Int)}, (mget k ms).isSome = true ↔ k ∈ ms.map (·.1)
  | [] => by simp [mget]
  | (j, u) :: ms => by
    have ih := mget_mem (k := k) (ms := ms)
    simp only [mget, List.map_cons, List.mem_cons]
    by_cases h : k = j
    · simp [h]
    · rw [if_neg h, ih]; simp [h]

/-- Filled so far: the keys lie between 0 and the newest one; none is marked. -/
structure Fill (r : GotR) (top : Int) : Prop where
  any : r.any = true
  forgot : r.forgot = false
  newest : r.newest = top
  gone : r.gone = 0
  bd : 0 ≤ top ∧ top ≤ 210
  keys : ∀ p ∈ r.rs, 0 ≤ p.1 ∧ p.1 ≤ top
  nodup : (r.rs.map (·.1)).Nodup
  val : ∀ k v, mget k r.rs = some v → v = 0
  zero : r.has 0 = true

theorem Fill.ok {r : GotR} {top : Int} (h : Fill r top) : r.Ok :=
  ⟨fun p hp => near_of (by have := h.keys p hp; have := h.bd; omega) (by have := h.keys p hp; have := h.bd; omega), h.nodup, by rw [h.newest]; exact near_of (by have := h.bd; omega) (by have := h.bd; omega), by rw [h.gone]; exact near_of (by decide) (by decide)⟩

theorem Fill.put {r : GotR} {top a : Int} (h : Fill r top) (ha : 0 ≤ a) (ha2 : a ≤ 210) :
    (r.put a false).1 = (!r.has a) ∧ Fill (r.put a false).2 (if top > a then top else a) ∧ ∀ k, (r.put a false).2.has k = (r.has k || k == a) := by
  have hbd := h.bd
  unfold GotR.put
  by_cases hh : r.has a = true
  · rw [if_pos hh]
    have ha3 : a ≤ top := by
      have := mget_mem.1 (show (mget a r.rs).isSome = true from hh)
      obtain ⟨p, hp, rfl⟩ := List.mem_map.1 this
      exact (h.keys p hp).2
    refine ⟨by rw [hh]; rfl, ?_, fun k => ?_⟩
    · have : (if top > a then top else a) = top := by split <;> omega
      rw [this]; exact h
    · by_cases hk : k = a
      · subst hk; simp [hh]
      · have : (k == a) = false := by simp [hk]
        rw [this, Bool.or_false]
  · have hh' : r.has a = false := by simpa using hh
    have hb1 : decide (r.newest - a ≥ 250) = false := decide_eq_false (by rw [h.newest]; omega)
    rw [if_neg hh, hb1, Bool.and_false, if_neg (by simp), h.forgot, Bool.false_and, if_neg (by simp)]
    dsimp only
    have hset : ∀ k, mget k (mset a (if false = true then 1 else 0) r.rs) = if k = a then some 0 else mget k r.rs := fun k => mget_mset k a 0 r.rs
    have hnd := mset_nodup (n := a) (v := if false = true then 1 else 0) h.nodup
    have hkeys : ∀ p ∈ mset a (if false = true then 1 else 0) r.rs, p.1 = a ∨ (0 ≤ p.1 ∧ p.1 ≤ top) := by
      intro p hp
      have h1 : p.1 ∈ (mset a (if false = true then 1 else 0) r.rs).map (·.1) := List.mem_map_of_mem hp
      have h2 := mget_mem.2 h1
      rw [hset] at h2
      by_cases hpa : p.1 = a
      · exact .inl hpa
      · rw [if_neg hpa] at h2
        obtain ⟨q, hq, hqe⟩ := List.mem_map.1 (mget_mem.1 h2)
        have := h.keys q hq
        exact .inr (by rw [← hqe]; exact this)
    generalize mset a (if false = true then 1 else 0) r.rs = ms at hset hnd hkeys ⊢
    have hhas : ∀ k, (mget k ms).isSome = (r.has k || k == a) := fun k => by
      rw [hset]
      by_cases hk : k = a
      · subst hk; simp
      · have : (k == a) = false := by simp [hk]
        rw [if_neg hk, this, Bool.or_false]; rfl
    have hval : ∀ k v, mget k ms = some v → v = 0 := fun k v hv => by
      rw [hset] at hv
      split at hv
      · exact (Option.some.inj hv).symm
      · exact h.val k v hv
    have hnew : r.newest = top := h.newest
    by_cases hlt : r.newest < a
    · have ht : (!r.any || decide (r.newest < a)) = true := by rw [decide_eq_true hlt, Bool.or_true]
      have hf : (ms.filter fun p => p.1 == a || !(decide (a < p.1) || decide (a - p.1 ≥ 250))) = ms := by
        refine List.filter_eq_self.2 fun p hp => ?_
        rcases hkeys p hp with h1 | h1
        · simp [h1]
        · rw [decide_eq_false (show ¬ a < p.1 by omega), decide_eq_false (show ¬ a - p.1 ≥ 250 by omega)]; simp
      rw [if_pos ht, hf]
      have hmx : (if top > a then top else a) = a := by rw [if_neg (by omega)]
      rw [hmx]
      refine ⟨by rw [hh']; rfl, ⟨rfl, rfl, rfl, h.gone, ⟨ha, ha2⟩, fun p hp => ?_, hnd, hval, ?_⟩, hhas⟩
      · rcases hkeys p hp with h1 | h1 <;> omega
      · show (mget 0 ms).isSome = true
        rw [hhas, h.zero, Bool.true_or]
    · have ht : ¬ (!r.any || decide (r.newest < a)) = true := by rw [decide_eq_false hlt, h.any]; simp
      rw [if_neg ht]
      have hmx : (if top > a then top else a) = top := by split <;> omega
      rw [hmx]
      refine ⟨by rw [hh']; rfl, ⟨h.any, rfl, h.newest, h.gone, h.bd, fun p hp => ?_, hnd, hval, ?_⟩, hhas⟩
      · rcases hkeys p hp with h1 | h1 <;> omega
      · show (mget 0 ms).isSome = true
        rw [hhas, h.zero, Bool.true_or]

def cntTo (rs : List (Int × Int)) (c : Int) : Nat := (rs.filter fun p => decide (p.1 ≤ c)).length

theorem cntTo_step (c : Int) : ∀ {rs : List (Int × Int)}, (rs.map (·.1)).Nodup → cntTo rs c = cntTo rs (c - 1) + (mget c rs).isSome.toNat
  | [], _ => rfl
  | (j, u) :: rs, h => by
    simp only [List.map_cons, List.nodup_cons] at h
    have ih := cntTo_step c h.2
    simp only [cntTo, List.filter_cons] at ih ⊢
    by_cases hj : c = j
    · subst hj
      have hno : (mget c rs).isSome = false := by
        cases hq : (mget c rs).isSome with
        | false => rfl
        | true => exact absurd (mget_mem.1 hq) h.1
      have hm : mget c ((c, u) :: rs) = some u := if_pos rfl
      rw [hno] at ih
      rw [hm, if_pos (by simp), if_neg (by simp; omega), List.length_cons, ih]
      rfl
    · have hm : mget c ((j, u) :: rs) = mget c rs := if_neg hj
      rw [hm]
      by_cases h1 : j ≤ c
      · rw [if_pos (by simp [h1]), if_pos (by simp; omega), List.length_cons, List.length_cons, ih]; omega
      · rw [if_neg (by simp [h1]), if_neg (by simp; omega)]; exact ih

theorem cntTo_all {rs : List (Int × Int)} {c : Int} (h : ∀ p ∈ rs, p.1 ≤ c) : cntTo rs c = rs.length := by
  unfold cntTo
  rw [List.filter_eq_self.2 fun p hp => decide_eq_true (h p hp)]
theorem cntTo_none {rs : List (Int × Int)} {c : Int} (h : ∀ p ∈ rs, c < p.1) : cntTo rs c = 0 := by
  unfold cntTo
  rw [List.filter_eq_nil_iff.2 fun p hp => by have := h p hp; simp; omega]; rfl
theorem cntTo_pos {rs : List (Int × Int)} {k c : Int} (hk : (mget k rs).isSome = true) (hc : k ≤ c) : 0 < cntTo rs c := by
  unfold cntTo
  obtain ⟨p, hp, rfl⟩ := List.mem_map.1 (mget_mem.1 hk)
  exact List.length_pos_of_mem (List.mem_filter.2 ⟨hp, decide_eq_true hc⟩)

/-- The states, from the newest down to the first. -/
def fillL (r : GotR) (n : Nat) : List Int := (List.range n).map fun j : Nat => if r.has ((n : Int) - 1 - j) then 0 else 3
theorem fill_cells {r : GotR} {top : Int} (h : Fill r top) : ∀ (n f : Nat), n ≤ f → cellsR r.rs f ((n : Int) - 1) (cntTo r.rs ((n : Int) - 1)) = some (fillL r n)
  | 0, f, _ => by
    rw [cntTo_none fun p hp => by have := h.keys p hp; omega]
    cases f <;> simp [cellsR, fillL]
  | n + 1, 0, hf => by omega
  | n + 1, f + 1, hf => by
    have ih := fill_cells h n f (by omega)
    have hst := cntTo_step (((n + 1 : Nat) : Int) - 1) h.nodup
    have hpos := cntTo_pos (c := ((n + 1 : Nat) : Int) - 1) (show (mget 0 r.rs).isSome = true from h.zero) (by omega)
    rw [show ((n + 1 : Nat) : Int) - 1 - 1 = (n : Int) - 1 by omega] at hst
    simp only [cellsR]
    rw [if_pos (by omega)]
    have hlist : ∀ s, (s = if r.has (((n + 1 : Nat) : Int) - 1) then 0 else 3) → fillL r (n + 1) = s :: fillL r n := by
      intro s hs
      simp only [fillL]
      rw [List.range_succ_eq_map, List.map_cons, List.map_map]
      congr 1
      · rw [hs]; simp
      · refine List.map_congr_left fun j _ => ?_
        simp only [Function.comp]
        rw [show ((n + 1 : Nat) : Int) - 1 - ((j + 1 : Nat) : Int) = (n : Int) - 1 - j by omega]
    cases hm : mget (((n + 1 : Nat) : Int) - 1) r.rs with
    | none =>
      dsimp only
      rw [hm] at hst
      simp only [Option.isSome_none, Bool.toNat_false, Nat.add_zero] at hst
      rw [show ((n + 1 : Nat) : Int) - 1 - 1 = (n : Int) - 1 by omega, hst, ih, hlist 3 (by unfold GotR.has; rw [hm]; rfl)]
      rfl
    | some s =>
      dsimp only
      rw [hm] at hst
      simp only [Option.isSome_some, Bool.toNat_true] at hst
      rw [show ((n + 1 : Nat) : Int) - 1 - 1 = (n : Int) - 1 by omega, hst, show ((cntTo r.rs ((n : Int) - 1) + 1 : Nat) : Int) - 1 = (cntTo r.rs ((n : Int) - 1) : Nat) by omega, ih, hlist s (by unfold GotR.has; rw [hm]; exact h.val _ _ hm)]
      rfl

end Go.Proofs.YtofkoppfkekngaaGreatDoor
