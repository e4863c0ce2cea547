/- got, filled in a row; forgotten; the states of what stays. -/
import Derived.Test.YtofkoppfkekngaaGreatDoorQLaw7
namespace Go.Proofs.YtofkoppfkekngaaGreatDoor
open Go.Abs
set_option linter.unusedSimpArgs false
attribute [local irreducible] aops awp goD seqQ blockQ loopQ regS regQ Tri seqLess seqDiff farFrom sOf

theorem op_rem {e : Env} {h : Heap} {x y : Opd} {k : IntKind} {i j : Int} (hx : x.evs e = some (.int k i)) (hy : y.evs e = some (.int k j)) (hb : j ≠ 0) : aop (.bin .rem x y) e h = some (.sc (.int k (i.tmod j)), h) := by
  simp only [aop, hx, hy, intBin, if_true, if_neg hb, Option.map_some]

theorem mget_append (k : Int) : ∀ (a b : List (Int × Int)), mget k (a ++ b) = (mget k a).or (mget k b)
  | [], _ => rfl
  | (j, v) :: a, b => by
    simp only [List.cons_append, mget]
    split
    · rfl
    · exact mget_append k a b
theorem mset_new (k v : Int) : ∀ (ms : List (Int × Int)), mget k ms = none → mset k v ms = ms ++ [(k, v)]
  | [], _ => rfl
  | (j, u) :: ms, h => by
    simp only [mget] at h
    split at h
    · cases h
    · rename_i hn
      simp only [mset, if_neg hn, List.cons_append, mset_new k v ms h]
theorem mget_filter (f : Int → Bool) (k : Int) : ∀ (ms : List (Int × Int)), mget k (ms.filter fun p => f p.1) = if f k then mget k ms else none
  | [] => by simp [mget]
  | (j, u) :: ms => by
    have ih := mget_filter f k ms
    simp only [List.filter_cons]
    by_cases hj : f j = true
    · rw [if_pos hj]
      simp only [mget]
      by_cases hk : k = j
      · subst hk; simp [hj]
      · rw [if_neg hk, if_neg hk, ih]
    · rw [if_neg hj, ih]
      simp only [mget]
      by_cases hk : k = j
      · subst hk; simp [hj]
      · rw [if_neg hk]

/-- The first n numbers, each other one marked. -/
def rsN (n : Nat) : List (Int × Int) := (List.range n).map fun j : Nat => ((j : Int), (j : Int) % 2)
theorem rsN_succ (n : Nat) : rsN (n + 1) = rsN n ++ [((n : Int), (n : Int) % 2)] := by simp [rsN, List.range_succ]
theorem rsN_length (n : Nat) : (rsN n).length = n := by simp [rsN]
theorem rsN_get (k : Int) : ∀ (n : Nat), mget k (rsN n) = if 0 ≤ k ∧ k < n then some (k % 2) else none
  | 0 => by
    rw [if_neg (by omega)]; rfl
  | n + 1 => by
    rw [rsN_succ, mget_append, rsN_get k n]
    simp only [mget]
    by_cases h : k = n
    · rw [if_neg (by omega), if_pos h, if_pos (by omega), h]; rfl
    · rw [if_neg h]
      by_cases h2 : 0 ≤ k ∧ k < n
      · rw [if_pos h2, if_pos (by omega)]; rfl
      · rw [if_neg h2, if_neg (by omega)]; rfl
theorem rsN_mem {n : Nat} {p : Int × Int} (hp : p ∈ rsN n) : 0 ≤ p.1 ∧ p.1 < n := by
  simp only [rsN, List.mem_map, List.mem_range] at hp
  obtain ⟨j, hj, rfl⟩ := hp
  dsimp only; omega
theorem rsN_nodup (n : Nat) : ((rsN n).map (·.1)).Nodup := by
  simp only [rsN, List.map_map]
  refine (List.pairwise_map).2 (List.Pairwise.imp (fun {a b} hab => ?_) List.nodup_range)
  simp only [Function.comp]
  omega

/-- Filled with the first n. -/
def rowR (n : Nat) : GotR := ⟨rsN n, (n : Int) - 1, decide (0 < n), 0, false⟩
theorem rowR_ok {n : Nat} (hn : n ≤ 1000) : (rowR n).Ok := by
  refine ⟨fun p hp => ?_, rsN_nodup n, near_of (by simp only [rowR]; omega) (by simp only [rowR]; omega), near_of (by simp [rowR]) (by simp [rowR])⟩
  have := rsN_mem (n := n) hp
  exact near_of (by omega) (by omega)

theorem rowR_put {n : Nat} (hn : n < 250) : (rowR n).put n ((n : Int).tmod 2 == 1) = (true, rowR (n + 1)) := by
  have hm : mget (n : Int) (rsN n) = none := by rw [rsN_get, if_neg (by omega)]
  have hv : (if ((n : Int).tmod 2 == 1) = true then (1 : Int) else 0) = (n : Int) % 2 := by
    rw [Int.tmod_eq_emod_of_nonneg (by omega)]
    by_cases h : (n : Int) % 2 = 1
    · rw [h]; rfl
    · have h0 : (n : Int) % 2 = 0 := by omega
      rw [h0]; rfl
  have hf : (rsN (n + 1)).filter (fun p => p.1 == (n : Int) || !(decide ((n : Int) < p.1) || decide ((n : Int) - p.1 ≥ 250))) = rsN (n + 1) := by
    refine List.filter_eq_self.2 fun p hp => ?_
    have := rsN_mem hp
    have h1 : decide ((n : Int) < p.1) = false := by simp; omega
    have h2 : decide ((n : Int) - p.1 ≥ 250) = false := by simp; omega
    rw [h1, h2]; simp
  unfold GotR.put
  rw [if_neg (by simp [GotR.has, rowR, hm])]
  rw [if_neg (by simp [rowR]; omega), if_neg (by simp [rowR])]
  dsimp only
  have ht : decide ((rowR n).newest < (n : Int)) = true := decide_eq_true (show (n : Int) - 1 < n by omega)
  rw [if_pos (by rw [ht, Bool.or_true])]
  rw [show mset (n : Int) (if ((n : Int).tmod 2 == 1) = true then 1 else 0) (rowR n).rs = rsN (n + 1) by rw [hv, show (rowR n).rs = rsN n from rfl, mset_new _ _ _ hm, rsN_succ], hf]
  have e1 : ((n + 1 : Nat) : Int) - 1 = n := by omega
  simp [rowR, e1]

def GotR.forget (r : GotR) (k : Int) : GotR := ⟨r.rs.filter fun p => p.1 == r.newest || decide (k < p.1), r.newest, r.any, if !r.forgot || decide (r.gone < k) then k else r.gone, true⟩

theorem forget_abs {F k s0 : Int} {r : GotR} (hr : r.Ok) (ha : r.any = true) (hk : Near k) (hs : sOf s0 = key F k) : (r.abs F).forget s0 = (r.forget k).abs F := by
  have hfil : (absM F r.rs).filter (fun p => p.1 == key F r.newest || !(!seqLess (key F k) p.1)) = absM F (r.rs.filter fun p => p.1 == r.newest || decide (k < p.1)) := by
    refine filter_abs (f := fun x => x == key F r.newest || !(!seqLess (key F k) x)) (g := fun x => x == r.newest || decide (k < x)) fun p hp => ?_
    rw [beq_key (hr.near p hp) hr.top, less_key hk (hr.near p hp), Bool.not_not]
  unfold GotSt.forget GotR.forget
  simp only [GotR.abs, hs, ha, if_true, hfil]
  obtain ⟨rs, newest, any, gone, forgot⟩ := r
  have hlow : Near gone := hr.low
  cases forgot <;> simp only [if_true, if_false, Bool.false_eq_true, Bool.not_false, Bool.not_true, Bool.true_or, Bool.false_or, less_key hlow hk]
  split <;> rfl

theorem forget_ok {k : Int} {r : GotR} (hr : r.Ok) (hk : Near k) : (r.forget k).Ok := by
  refine ⟨fun p hp => hr.near p (List.mem_filter.1 hp).1, (List.Sublist.map _ List.filter_sublist).nodup hr.nodup, hr.top, ?_⟩
  show Near (if !r.forgot || decide (r.gone < k) then k else r.gone)
  split
  · exact hk
  · exact hr.low

theorem forget_rel {F k s0 : Int} {r : GotR} (hr : r.Ok) (ha : r.any = true) (hk : Near k) (hs : sOf s0 = key F k) : Tri Tryz.prog 44 [.sc (.ptr 0 0), .sc (.int .u64 s0)] (hp (r.abs F).os) (Ans (.tup []) ((r.forget k).abs F).os) := by
  have h := forget_tri (r.abs F) (absM_nodup hr.near hr.nodup) s0
  rw [forget_abs hr ha hk hs] at h
  exact h

/-- What stays: from lo on. -/
theorem keepN_length (lo : Nat) : ∀ (n : Nat), ((rsN n).filter fun p => decide ((lo : Int) ≤ p.1)).length = n - lo
  | 0 => by simp [rsN]
  | n + 1 => by
    rw [rsN_succ, List.filter_append, List.length_append, keepN_length lo n]
    simp only [List.filter_cons, List.filter_nil]
    by_cases h : lo ≤ n
    · rw [if_pos (by simp; omega)]; simp; omega
    · rw [if_neg (by simp; omega)]; simp; omega

theorem cellsR_row {rs : List (Int × Int)} {lo : Nat} : ∀ (t f : Nat), t ≤ f → (∀ k : Int, lo ≤ k → k < (lo + t : Nat) → mget k rs = some (k % 2)) → cellsR rs f ((lo + t : Nat) - 1 : Int) t = some ((List.range t).map fun j : Nat => (((lo + t : Nat) : Int) - 1 - j) % 2)
  | 0, f, _, _ => by
    cases f <;> simp [cellsR]
  | t + 1, 0, h, _ => by omega
  | t + 1, f + 1, h, hg => by
    have ih := cellsR_row (rs := rs) (lo := lo) t f (by omega) fun k h1 h2 => hg k h1 (by omega)
    simp only [cellsR]
    rw [if_pos (by omega), hg (((lo + (t + 1) : Nat) : Int) - 1) (by omega) (by omega)]
    dsimp only
    rw [show ((lo + (t + 1) : Nat) : Int) - 1 - 1 = ((lo + t : Nat) : Int) - 1 by omega, show ((t + 1 : Nat) : Int) - 1 = (t : Nat) by omega, ih]
    simp only [Option.map_some, Option.some.injEq]
    rw [List.range_succ_eq_map, List.map_cons, List.map_map]
    congr 1
    · simp
    · refine List.map_congr_left fun j _ => ?_
      simp only [Function.comp]
      congr 1
      omega

end Go.Proofs.YtofkoppfkekngaaGreatDoor
