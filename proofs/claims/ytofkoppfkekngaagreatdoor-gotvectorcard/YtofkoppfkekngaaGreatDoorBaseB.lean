/- Shared texts of this seat's proofs, joined: an abstract interpreter of the compiled code, its soundness, contracts of the program's functions. -/
import Derived.Test.YtofkoppfkekngaaGreatDoorBaseA
import Derived.Deep.LoopGhost

/- The law of one operation: whatever operation the abstract interpreter carries out, the model carries it out alike. -/
namespace Go.Abs
open Go.RowKit
set_option linter.unusedSimpArgs false

section
variable {P : Program} {w : World} {β : Names} {B : Nat} {h h' : Heap} {N : Nat} {e : Env} {a : Act} {v : AV} {ao : AOp}

theorem OkN.value (R : Rel B β h w.heap) {c : Value} {r : Result Next} (hr : r = .ok (.value c) w) (hv : VRel β v c) : OkN B β h v h w r :=
  ⟨c, w, β, .inl hr, hv, R, Step.refl _ _ _ _⟩

theorem OkN.skip {w' : World} {r : Result Next} (hr : r = .ok .skip w') (R : Rel B β h' w'.heap) (hB : Step B β h w β h' w') : OkN B β h .any h' w r :=
  ⟨undef, w', β, .inr ⟨hr, rfl⟩, trivial, R, hB⟩

theorem splice_length {xs cs : List Sc} {off : Nat} (hl : off + cs.length ≤ xs.length) : (splice xs off cs).length = xs.length := by
  simp [splice]; omega

theorem fillA_length : ∀ {ps : List (Nat × Nat × AV)} {xs ys : List Sc}, fillA xs ps = some ys → ys.length = xs.length
  | [], xs, ys, hf => by cases hf; rfl
  | (off, size, v) :: ps, xs, ys, hf => by
    simp only [fillA] at hf
    split at hf
    · rename_i cs hcs
      split at hf
      · rename_i hle
        rw [fillA_length hf, splice_length (by omega)]
      · cases hf
    · cases hf

theorem builtin_v {b : Builtin} {ts : Array TypeId} {ty : TypeId} {cs : Array Bool} {args : Array Value} {s : Sem Value} (hs : builtin b ts ty cs args = do pure (.value (← s))) (hk : Ok B β h v h' w (s.run P w)) :
    OkN B β h v h' w ((builtin b ts ty cs args).run P w) := by
  rw [hs]; exact OkN.of_v hk

theorem resolve_builtin {c : Call} {b : Builtin} {ty : TypeId} (hc : c.callee = .builtin b) :
    ((do let d ← resolve a.eval c ty; invoke d.target d.args) : Sem Next).run P w = (builtin b c.argTypes ty (c.args.map fun | .const _ => true | _ => false) (c.args.map a.eval)).run P w := by
  simp [resolve, hc, invoke]
  rfl

theorem sound_call (hP : ProgOk P) (R : Rel B β h w.heap) (he : EnvRel N β e a.tmps) {c : Call} {ty : TypeId} (hc : compileCall P c = some ao) (ha : aop ao e h = some (v, h')) :
    OkN B β h v h' w (((do let d ← resolve a.eval c ty; invoke d.target d.args) : Sem Next).run P w) := by
  unfold compileCall at hc
  split at hc
  · -- a function by its name
    rename_i f hcal
    split at hc
    · rename_i as has
      split at hc
      · cases hc; cases ha
      · split at hc
        · rename_i hadd
          split at hc
          · rename_i x y z
            cases hc
            simp only [aop] at ha
            split at ha
            · rename_i p q r h1 h2 h3
              split at ha
              · rename_i hb
                cases ha
                have hvs : evAll e [x, y, z] = some [.sc (.int .u64 p), .sc (.int .u64 q), .sc (.int .u64 r)] := by
                  simp [evAll, evs_ev h1, evs_ev h2, evs_ev h3]
                have hargs := opds_ev he has hvs
                have hargs' : c.args.map a.eval = #[.int .u64 p, .int .u64 q, .int .u64 r] := by
                  apply Array.ext'
                  rw [Array.toList_map]
                  revert hargs
                  generalize c.args.toList.map a.eval = l
                  intro hl
                  match l, hl with
                  | [u1, u2, u3], ⟨g1, g2, g3, _⟩ =>
                    simp only [VRel, ScRel] at g1 g2 g3
                    subst g1 g2 g3
                    rfl
                have hadd' := hadd
                unfold isAdd64 at hadd'
                split at hadd'
                · rename_i fn hfn
                  rw [Bool.and_eq_true] at hadd'
                  obtain ⟨g1, g2⟩ := hP.add64 f fn hfn hadd
                  have hname : (fn.name == "runtime.NumGoroutine") = false := by
                    have := eq_of_beq hadd'.2
                    rw [this]; decide
                  have key := run_callFunc_extern hfn hname hadd'.1 g1 g2 #[.int .u64 p, .int .u64 q, .int .u64 r] w
                  rw [run_add64 p q r hb.1 hb.2.1 hb.2.2.1 hb.2.2.2] at key
                  refine OkN.value R (c := .tuple #[.int .u64 ((p + q + r) % 18446744073709551616), .int .u64 ((p + q + r) / 18446744073709551616)]) ?_ ⟨_, rfl, rfl, rfl, trivial⟩
                  simp only [resolve, hcal, Act.eval, Deferred.ofValue, Sem.run_bind, Sem.run_pure, Result.andThen_ok, invoke, Array.append_empty, Array.empty_append]
                  rw [show c.args.map a.eval = c.args.map (fun x => a.eval x) from rfl] at hargs'
                  simp only [hargs', key, Result.andThen_ok]
                · cases hadd'
              · cases ha
            · cases ha
          · cases hc
        · cases hc
    · cases hc
  · -- a function's value
    split at hc
    · cases hc; cases ha
    · cases hc
  · -- a builtin
    rename_i b hcal
    rw [resolve_builtin hcal]
    generalize hcs : (c.args.map fun | .const _ => true | _ => false) = cs
    split at hc
    · rename_i s x t u hargs hts
      have hA : c.args.map a.eval = #[a.eval s, a.eval x] := by apply Array.ext'; rw [Array.toList_map, hargs]; rfl
      have hT : c.argTypes = #[t, u] := by apply Array.ext'; rw [hts]
      rw [hA, hT]
      split at hc
      · rename_i el s' x' ht hs hx
        split at hc
        · rename_i sz by' z hsz hby hz
          split at hc
          · rename_i hok
            cases hc
            refine builtin_v rfl ?_
            simp only [aop] at ha
            split at ha
            · rename_i m news h1 h2
              simp only [Option.bind_eq_some_iff] at h2
              obtain ⟨sc, h2, h3⟩ := h2
              have e1 : a.eval s = .slice none 0 0 := opd_evs he hs h1
              rw [e1]
              split at ha
              · rename_i hm
                cases ha
                have := run_append_nils R (ty := ty) ht hok.2.2 hsz hby hz hok.1 h3 (opd_evs he hx h2) (by rw [hm]; simp) (by rw [hm]; exact Nat.zero_le _)
                rwa [if_pos hm, if_pos hm] at this
              · rename_i hm
                split at ha
                · rename_i hb
                  cases ha
                  have := run_append_nils R (ty := ty) ht hok.2.2 hsz hby hz hok.1 h3 (opd_evs he hx h2) hb.1 hb.2
                  rwa [if_neg hm, if_neg hm] at this
                · cases ha
            · rename_i k off n sz' m news h1 h2
              simp only [Option.bind_eq_some_iff] at h2
              obtain ⟨sc, h2, h3⟩ := h2
              split at ha
              · rename_i vs hk
                split at ha
                · rename_i hb
                  cases ha
                  obtain ⟨rfl, hb1, hb2, hb3⟩ := hb
                  exact run_append_slice R ht hok.2.2 hsz hby hz hok.1 hok.2.1 h3 (opd_evs he hx h2) hk (opd_evs he hs h1) hb1 hb2 hb3
                · cases ha
              · cases ha
            · cases ha
          · cases hc
        · cases hc
      · cases hc
    · rename_i x t hargs hts
      have hA : c.args.map a.eval = #[a.eval x] := by apply Array.ext'; rw [Array.toList_map, hargs]; rfl
      have hT : c.argTypes = #[t] := by apply Array.ext'; rw [hts]
      rw [hA, hT]
      refine builtin_v rfl ?_
      split at hc
      · rename_i y hu hx
        cases hc
        simp only [aop] at ha
        split at ha
        · rename_i s h1
          simp only [Option.map_eq_some_iff, Prod.mk.injEq] at ha
          obtain ⟨n, h2, rfl, rfl⟩ := ha
          have hs := opd_evs he hx h1
          refine Ok.pure (c := .int .i64 n) R ?_ rfl
          cases s <;> simp [lenOfK] at h2
          subst h2
          simp only [ScRel] at hs; rw [hs]; simp [Builtin.len_, run_underlying hu, goInt, bytes_size]
        · cases ha
      · rename_i e' y hu hx
        cases hc
        simp only [aop] at ha
        split at ha
        · rename_i s h1
          simp only [Option.map_eq_some_iff, Prod.mk.injEq] at ha
          obtain ⟨n, h2, rfl, rfl⟩ := ha
          have hs := opd_evs he hx h1
          refine Ok.pure (c := .int .i64 n) R ?_ rfl
          cases s <;> simp [lenOfK] at h2
          · subst h2; simp only [ScRel] at hs; rw [hs]; simp [Builtin.len_, run_underlying hu, goInt]
          · subst h2; obtain ⟨a', cap', h3, _⟩ := hs; rw [h3]; simp [Builtin.len_, run_underlying hu, goInt]
        · cases ha
      · rename_i k' e' y hu hx
        cases hc
        simp only [aop] at ha
        split at ha
        · rename_i h1
          cases ha
          have hs := opd_evs he hx h1
          simp only [ScRel] at hs; rw [hs]
          exact Ok.pure (c := .int .i64 0) R (by simp [Builtin.len_, run_underlying hu, goInt]) rfl
        · rename_i r h1
          split at ha
          · rename_i kk es hr
            cases ha
            exact Ok.pure (c := .int .i64 es.length) R (run_lenM R (by simp) hu hr (opd_evs he hx h1)) rfl
          · cases ha
        · cases ha
      · cases hc
    · rename_i x y hargs
      have hA : c.args.map a.eval = #[a.eval x, a.eval y] := by apply Array.ext'; rw [Array.toList_map, hargs]; rfl
      rw [hA]
      refine builtin_v rfl ?_
      obtain ⟨x', y', hx, hy, rfl⟩ := op2_some hc
      simp only [aop] at ha
      split at ha
      · rename_i k p k' q h1 h2
        split at ha
        · subst_vars
          cases ha
          have e1 := opd_evs he hx h1
          have e2 := opd_evs he hy h2
          simp only [ScRel] at e1 e2
          rw [e1, e2]
          exact Ok.pure (c := .int _ _) R (run_minmax (ts := c.argTypes) (t := ty)).1 rfl
        · cases ha
      · cases ha
    · rename_i x y hargs
      have hA : c.args.map a.eval = #[a.eval x, a.eval y] := by apply Array.ext'; rw [Array.toList_map, hargs]; rfl
      rw [hA]
      refine builtin_v rfl ?_
      obtain ⟨x', y', hx, hy, rfl⟩ := op2_some hc
      simp only [aop] at ha
      split at ha
      · rename_i k p k' q h1 h2
        split at ha
        · subst_vars
          cases ha
          have e1 := opd_evs he hx h1
          have e2 := opd_evs he hy h2
          simp only [ScRel] at e1 e2
          rw [e1, e2]
          exact Ok.pure (c := .int _ _) R (run_minmax (ts := c.argTypes) (t := ty)).2 rfl
        · cases ha
      · cases ha
    · rename_i d s t u hargs hts
      have hA : c.args.map a.eval = #[a.eval d, a.eval s] := by apply Array.ext'; rw [Array.toList_map, hargs]; rfl
      have hT : c.argTypes = #[t, u] := by apply Array.ext'; rw [hts]
      rw [hA, hT]
      refine builtin_v rfl ?_
      split at hc
      · rename_i el d' s' ht hd hs
        simp only [Option.bind_eq_some_iff] at hc
        obtain ⟨sz, hsz, hc⟩ := hc
        split at hc
        · rename_i h0
          cases hc
          simp only [aop] at ha
          split at ha
          · rename_i ds ss h1 h2
            split at ha
            · rename_i dl sl h3 h4
              split at ha
              · rename_i n cs h5
                split at ha
                · rename_i k off len sz'
                  split at ha
                  · subst_vars
                    simp only [Option.map_eq_some_iff, Prod.mk.injEq] at ha
                    obtain ⟨h'', h6, rfl, rfl⟩ := ha
                    simp only [lenOfSc, Option.some.injEq] at h3
                    subst h3
                    exact run_copy R ht hsz (opd_evs he hd h1) (opd_evs he hs h2) h4 h5 h6
                  · cases ha
                · cases ha
              · cases ha
            · cases ha
          · cases ha
        · cases hc
      · cases hc
    · rename_i m k t u hargs hts
      have hA : c.args.map a.eval = #[a.eval m, a.eval k] := by apply Array.ext'; rw [Array.toList_map, hargs]; rfl
      have hT : c.argTypes = #[t, u] := by apply Array.ext'; rw [hts]
      rw [hA, hT]
      refine builtin_v rfl ?_
      split at hc
      · rename_i kk m' k' ht hm hk
        cases hc
        simp only [aop] at ha
        split at ha
        · rename_i r k2 n h1 h2
          split at ha
          · rename_i k3 es hr
            split at ha
            · rename_i hkk
              obtain ⟨rfl, rfl⟩ := hkk
              cases ha
              have e2 := opd_evs he hk h2
              simp only [ScRel] at e2
              rw [e2]
              obtain ⟨w', g1, g2, g3⟩ := run_delete (ts := #[t, u]) (ty := ty) R (by simp) ht hr (opd_evs he hm h1) (n := n)
              exact ⟨_, w', β, g1, ⟨#[], rfl, trivial⟩, g2, g3⟩
            · cases ha
          · cases ha
        · cases ha
      · cases hc
    · rename_i x t hargs hts
      have hA : c.args.map a.eval = #[a.eval x] := by apply Array.ext'; rw [Array.toList_map, hargs]; rfl
      have hT : c.argTypes = #[t] := by apply Array.ext'; rw [hts]
      rw [hA, hT]
      refine builtin_v rfl ?_
      split at hc
      · rename_i el x' ht hx
        simp only [Option.bind_eq_some_iff] at hc
        obtain ⟨z, hz, hc⟩ := hc
        split at hc
        · cases hc
          simp only [aop] at ha
          split at ha
          · rename_i h1
            cases ha
            have e1 := opd_evs he hx h1
            simp only [ScRel] at e1
            rw [e1]
            have hut := elemS_some ht
            exact Ok.pure (c := .tuple #[]) R (by simp [Builtin.clear_, run_underlying hut]) ⟨#[], rfl, trivial⟩
          · rename_i k off n sz h1
            split at ha
            · rename_i hszl
              simp only [Option.map_eq_some_iff, Prod.mk.injEq] at ha
              obtain ⟨h'', h6, rfl, rfl⟩ := ha
              subst hszl
              exact run_clear R ht hz (opd_evs he hx h1) h6
            · cases ha
          · cases ha
        · cases hc
      · cases hc
    · cases hc
  · cases hc

theorem sound_v {s : Sem Value} (hk : Ok B β h v h' w (s.run P w)) : OkN B β h v h' w ((do pure (.value (← s)) : Sem Next).run P w) := OkN.of_v hk

theorem loadN_field {xs : List Sc} {off : Nat} {n : Option Nat} {r : AV} (hr : fieldV xs off n = some r) : fieldV xs off n = some r := hr

set_option maxHeartbeats 1000000 in
/-- **The law of one operation.** -/
theorem aop_sound (hP : ProgOk P) (R : Rel B β h w.heap) (he : EnvRel N β e a.tmps) {o : Oper} (hc : compileOp P o.op = some ao) (ha : aop ao e h = some (v, h')) :
    OkN B β h v h' w ((execOp a.eval o).run P w) := by
  unfold execOp
  unfold compileOp at hc
  dsimp only
  split at hc
  · -- move
    rename_i x ho; rw [ho]; dsimp only
    simp only [Option.map_eq_some_iff] at hc
    obtain ⟨y, hx, rfl⟩ := hc
    simp only [aop, Option.map_eq_some_iff, Prod.mk.injEq] at ha
    obtain ⟨u, h1, rfl, rfl⟩ := ha
    exact OkN.value R (by simp) (opd_ev he hx h1)
  · -- assign
    rename_i x ho; rw [ho]; dsimp only
    simp only [Option.map_eq_some_iff] at hc
    obtain ⟨y, hx, rfl⟩ := hc
    simp only [aop, Option.map_eq_some_iff, Prod.mk.injEq] at ha
    obtain ⟨u, h1, rfl, rfl⟩ := ha
    exact OkN.value R (by simp) (opd_ev he hx h1)
  · -- pick
    rename_i c x y ho; rw [ho]; dsimp only
    split at hc
    · rename_i c' x' y' h1 h2 h3
      cases hc
      simp only [aop] at ha
      split at ha
      · rename_i t h4
        have e1 : a.eval c = .bool t := opd_evs he h1 h4
        rw [e1]
        cases t
        · simp only [Bool.false_eq_true, if_false, Option.map_eq_some_iff, Prod.mk.injEq] at ha
          obtain ⟨u, h5, rfl, rfl⟩ := ha
          exact OkN.value R (by simp [asBool]) (opd_ev he h3 h5)
        · simp only [if_true, Option.map_eq_some_iff, Prod.mk.injEq] at ha
          obtain ⟨u, h5, rfl, rfl⟩ := ha
          exact OkN.value R (by simp [asBool]) (opd_ev he h2 h5)
      · cases ha
    · cases hc
  · -- binOp
    rename_i op t x y yt ho; rw [ho]; dsimp only
    split at hc
    · exact sound_v (sound_eq (neg := false) R he hc ha)
    · exact sound_v (sound_eq (neg := true) R he hc ha)
    · obtain ⟨x', y', h1, h2, rfl⟩ := op2_some hc
      exact sound_v (sound_bin R he h1 h2 ha)
  · -- not
    rename_i t x ho; rw [ho]; dsimp only
    simp only [Option.map_eq_some_iff] at hc
    obtain ⟨y, hx, rfl⟩ := hc
    simp only [aop] at ha
    split at ha
    · rename_i b h1
      cases ha
      have e1 : a.eval x = .bool b := opd_evs he hx h1
      rw [e1]
      exact sound_v (Ok.pure (c := .bool !b) R (by simp [Op.unary]) rfl)
    · cases ha
  · -- neg
    rename_i t x ho; rw [ho]; dsimp only
    simp only [Option.map_eq_some_iff] at hc
    obtain ⟨y, hx, rfl⟩ := hc
    simp only [aop] at ha
    split at ha
    · rename_i k n h1
      cases ha
      have e1 : a.eval x = .int k n := opd_evs he hx h1
      rw [e1]
      exact sound_v (Ok.pure (c := .int k (wr k (0 - n))) R (by simp [Op.unary, Op.intArith, wr_eq]) rfl)
    · cases ha
  · -- convert
    rename_i src dst x ho; rw [ho]; dsimp only
    split at hc
    · rename_i d k y hs hd hx
      cases hc
      simp only [aop] at ha
      split at ha
      · rename_i k' n h1
        cases ha
        have e1 : a.eval x = .int k' n := opd_evs he hx h1
        rw [e1]
        exact sound_v (Ok.pure R (run_conv hs hd) rfl)
      · cases ha
    · rename_i el y hs hd hx
      split at hc
      · rename_i hel
        cases hc
        simp only [aop] at ha
        split at ha
        · rename_i h1
          cases ha
          have e1 : a.eval x = .slice none 0 0 := opd_evs he hx h1
          rw [e1]
          exact sound_v (Ok.pure R (run_b2s_nil hs hel hd) rfl)
        · rename_i k off len sz h1
          split at ha
          · subst_vars
            split at ha
            · rename_i cs h2
              simp only [Option.map_eq_some_iff, Prod.mk.injEq] at ha
              obtain ⟨bs, h3, rfl, rfl⟩ := ha
              exact sound_v (Ok.pure R (run_b2s R hs hel hd (opd_evs he hx h1) h2 h3) rfl)
            · cases ha
          · cases ha
        · cases ha
      · cases hc
    · cases hc
  · -- makeFunc
    rename_i f first captured ho; rw [ho]; dsimp only
    split at hc
    · rename_i hfirst
      simp only [Option.map_eq_some_iff] at hc
      obtain ⟨caps, hx, rfl⟩ := hc
      simp only [aop, Option.map_eq_some_iff, Prod.mk.injEq] at ha
      obtain ⟨ps, h1, rfl, rfl⟩ := ha
      have hf : first.map a.eval = #[] := by
        have : first = #[] := Array.eq_empty_of_size_eq_zero hfirst
        rw [this]; simp
      refine sound_v (Ok.pure (c := .func (.func f) #[] (captured.map a.eval)) R (by simp [Instr.makeFunc, hf]) ⟨_, rfl, ?_⟩)
      rw [Array.toList_map]
      exact evPtrs_rel he hx h1
    · cases hc
  · -- makeMap
    rename_i t ho; rw [ho]; dsimp only
    simp only [Option.map_eq_some_iff] at hc
    obtain ⟨k, hk, rfl⟩ := hc
    cases ha
    exact sound_v (by simpa using run_makeMap R t k)
  · -- makeSlice
    rename_i t l c ho; rw [ho]; dsimp only
    split at hc
    · rename_i el l' c' ht hl hcc
      split at hc
      · rename_i sz by' z hsz hby hz
        split at hc
        · rename_i hok
          cases hc
          simp only [aop] at ha
          split at ha
          · rename_i lv cv h1 h2
            split at ha
            · rename_i hb
              cases ha
              have e1 : a.eval l = .int .i64 lv := opd_evs he hl h1
              have e2 : a.eval c = .int .i64 cv := opd_evs he hcc h2
              rw [e1, e2, hok.1]
              exact sound_v (run_makeSlice R ht hsz hby hz hok.1 hok.2 hb.1 hb.2.1 hb.2.2.1 hb.2.2.2)
            · cases ha
          · cases ha
        · cases hc
      · cases hc
    · cases hc
  · -- slice
    rename_i t x lo hi mx ho; rw [ho]; dsimp only
    split at hc
    · rename_i x' lo' hi' mx' hx hlo hhi hmx
      split at hc
      · rename_i hu
        split at hc
        · cases hc
          have hmn : mx = none := by cases mx with | none => rfl | some m => simp [opdO] at hmx
          subst hmn
          simp only [aop] at ha
          split at ha
          · rename_i s h1
            split at ha
            · rename_i l u h2 h3
              split at ha
              · rename_i hb
                cases ha
                have e1 : a.eval x = .string ⟨s.toArray⟩ := opd_evs he hx h1
                rw [e1]
                exact sound_v (Ok.pure R (by simpa using run_sliceS hu (evIdx_rel he hlo h2) (evIdx_rel he hhi h3) hb.1 hb.2) rfl)
              · cases ha
            · cases ha
          · cases ha
        · cases hc
      · rename_i el hu
        split at hc
        · rename_i sz hsz
          have hmh : ∃ ao', ao = ao' ∧ ao' = .sliceV sz x' lo' hi' mx' ∧ ((mx.map a.eval).isSome = true → (hi.map a.eval).isSome = true) := by
            split at hc
            · cases hc
            · rename_i hne
              cases hc
              refine ⟨_, rfl, rfl, fun hm => ?_⟩
              cases mx with
              | none => simp at hm
              | some m =>
                cases hi with
                | some i => rfl
                | none =>
                  simp only [opdO, Option.some.injEq] at hhi
                  simp only [opdO, Option.map_eq_some_iff] at hmx
                  obtain ⟨m', _, rfl⟩ := hmx
                  exact absurd rfl (hne _ hhi.symm)
          obtain ⟨_, rfl, rfl, hm⟩ := hmh
          simp only [aop] at ha
          split at ha
          · rename_i h1
            split at ha
            · rename_i h2 h3 h4
              cases ha
              have e1 : a.eval x = .slice none 0 0 := opd_evs he hx h1
              rw [e1]
              exact sound_v (Ok.pure R (run_sliceV_nil hu hsz (evIdx_rel he hlo h2) (evIdx_rel he hhi h3) (evIdx_rel he hmx h4) hm) rfl)
            · cases ha
          · rename_i k off len sz' h1
            split at ha
            · rename_i l u m h2 h3 h4
              split at ha
              · rename_i hb
                cases ha
                obtain ⟨rfl, hb1, hb2, hb3⟩ := hb
                obtain ⟨r, g1, g2⟩ := run_sliceV (P := P) (w := w) hu hsz (opd_evs he hx h1) (evIdx_rel he hlo h2) (evIdx_rel he hhi h3) (evIdx_rel he hmx h4) hb1 hb2 hb3 hm
                exact sound_v (Ok.pure R g1 g2)
              · cases ha
            · cases ha
          · cases ha
        · cases hc
      · rename_i n el hu
        split at hc
        · rename_i sz hsz
          split at hc
          · cases hc
            have hmn : mx = none := by cases mx with | none => rfl | some m => simp [opdO] at hmx
            subst hmn
            simp only [aop] at ha
            split at ha
            · rename_i k off h1
              split at ha
              · rename_i l u vs h2 h3 h4
                split at ha
                · rename_i hb
                  cases ha
                  obtain ⟨r, g1, g2⟩ := run_sliceA (P := P) R hu hsz (opd_evs he hx h1) h4 hb.2.2.1 (evIdx_rel he hlo h2) (evIdx_rel he hhi h3) hb.1 hb.2.1 hb.2.2.2
                  exact sound_v (Ok.pure R (by simpa using g1) g2)
                · cases ha
              · cases ha
            · cases ha
          · cases hc
        · cases hc
      · cases hc
    · cases hc
  · -- fieldAddr
    rename_i t x f ho; rw [ho]; dsimp only
    split at hc
    · rename_i fd x' ht hx
      split at hc
      · rename_i s hs
        split at hc
        · rename_i h0
          cases hc
          simp only [aop] at ha
          split at ha
          · rename_i k off h1
            cases ha
            obtain ⟨u, g1, g2⟩ := run_fieldAddr (P := P) (w := w) ht hs h0 (opd_evs he hx h1)
            exact sound_v (Ok.pure R g1 g2)
          · cases ha
        · cases hc
      · cases hc
    · cases hc
  · -- field
    rename_i t x f ho; rw [ho]; dsimp only
    split at hc
    · rename_i fd x' ht hx
      simp only [Option.map_eq_some_iff] at hc
      obtain ⟨n, hn, rfl⟩ := hc
      simp only [aop] at ha
      split at ha
      · rename_i cs h1
        simp only [Option.map_eq_some_iff, Prod.mk.injEq] at ha
        obtain ⟨r, h2, rfl, rfl⟩ := ha
        obtain ⟨u, g1, g2⟩ := run_field (P := P) (w := w) ht hn (opd_ev he hx h1) h2
        exact sound_v (Ok.pure R g1 g2)
      · cases ha
    · cases hc
  · -- indexAddr
    rename_i t x i ho; rw [ho]; dsimp only
    split at hc
    · rename_i x' i' hx hi
      split at hc
      · rename_i el hu
        simp only [Option.map_eq_some_iff] at hc
        obtain ⟨sz, hsz, rfl⟩ := hc
        simp only [aop] at ha
        split at ha
        · rename_i k off len sz' kk n h1 h2
          split at ha
          · rename_i hb
            cases ha
            obtain ⟨rfl, hb1, hb2⟩ := hb
            have e2 : a.eval i = .int kk n := opd_evs he hi h2
            rw [e2]
            obtain ⟨u, g1, g2⟩ := run_indexAddr (P := P) (w := w) (kk := kk) hu hsz hb1 hb2 (opd_evs he hx h1)
            exact sound_v (Ok.pure R g1 g2)
          · cases ha
        · cases ha
      · rename_i m el hu
        simp only [Option.map_eq_some_iff] at hc
        obtain ⟨sz, hsz, rfl⟩ := hc
        simp only [aop] at ha
        split at ha
        · rename_i k off kk n h1 h2
          split at ha
          · rename_i hb
            cases ha
            have e2 : a.eval i = .int kk n := opd_evs he hi h2
            rw [e2]
            obtain ⟨u, g1, g2⟩ := run_indexAddrA (P := P) (w := w) (kk := kk) hu hsz hb.1 hb.2 (opd_evs he hx h1)
            exact sound_v (Ok.pure R g1 g2)
          · cases ha
        · cases ha
      · cases hc
    · cases hc
  · -- index
    rename_i t x i ho; rw [ho]; dsimp only
    split at hc
    · rename_i x' i' hu hx hi
      cases hc
      simp only [aop] at ha
      split at ha
      · rename_i s kk n h1 h2
        split at ha
        · rename_i h0
          simp only [Option.map_eq_some_iff, Prod.mk.injEq] at ha
          obtain ⟨b, h3, rfl, rfl⟩ := ha
          have e1 : a.eval x = .string ⟨s.toArray⟩ := opd_evs he hx h1
          have e2 : a.eval i = .int kk n := opd_evs he hi h2
          rw [e1, e2]
          exact sound_v (Ok.pure R (run_index_str hu h0 h3) rfl)
        · cases ha
      · cases ha
    · cases hc
  · -- lookup
    rename_i t x i ok ho; rw [ho]; dsimp only
    split at hc
    · rename_i kk x' i' hk hx hi
      split at hc
      · rename_i k0 el hu
        split at hc
        · rename_i z zv hag hz hzv
          split at hc
          · rename_i hone
            cases hc
            simp only [Option.bind_eq_some_iff] at hzv
            obtain ⟨inf, hinf, hzero⟩ := hzv
            have hzr : (zeroValue el).run P w = .ok zv w := by simp [zeroValue, typeInfo, hinf, hzero]
            have hzrel : ScRel β z zv := by
              unfold zeroT at hz
              rw [hinf] at hz
              simp only [hzero] at hz
              have hcz : CellsRel β [z] zv.cells.toList := scsOf_rel hz
              have : zv.cells = #[zv] := by cases zv <;> first | rfl | (simp [Value.oneCell'] at hone)
              rw [this] at hcz
              exact hcz.1
            simp only [aop] at ha
            split at ha
            · rename_i k' n h1 h2
              split at ha
              · subst_vars
                cases ha
                have e2 := opd_evs he hi h2
                simp only [ScRel] at e2
                rw [e2]
                obtain ⟨u, g1, g2⟩ := run_lookup (w := w) (n := n) (ok := ok) (res := none) (c := a.eval x) hk hu hzr hzrel (.inl ⟨opd_evs he hx h1, rfl⟩)
                exact sound_v (Ok.pure R g1 g2)
              · cases ha
            · rename_i r k' n h1 h2
              split at ha
              · rename_i k'' es hr
                split at ha
                · rename_i hkk
                  obtain ⟨rfl, rfl⟩ := hkk
                  cases ha
                  have e2 := opd_evs he hi h2
                  simp only [ScRel] at e2
                  rw [e2]
                  obtain ⟨b, o', m, ents, clock, q1, q2, q3, q4, q5, _⟩ := map_block R hr (opd_evs he hx h1)
                  obtain ⟨u, g1, g2⟩ := run_lookup (w := w) (n := n) (ok := ok) (res := mfind n es) (c := a.eval x) hk hu hzr hzrel (.inr ⟨b, ents, clock, es, q2, q4, q5, rfl⟩)
                  exact sound_v (Ok.pure R g1 g2)
                · cases ha
              · cases ha
            · cases ha
          · cases hc
        · cases hc
      · cases hc
    · cases hc
  iterate 2
    · -- mapUpdate, insert
      rename_i t m k u ho; rw [ho]; dsimp only
      split at hc
      · rename_i kk m' k' u' ht hm hk hu
        cases hc
        simp only [aop] at ha
        split at ha
        · rename_i r k2 n s h1 h2 h3
          split at ha
          · rename_i k3 es hr
            split at ha
            · rename_i hkk
              obtain ⟨rfl, rfl⟩ := hkk
              cases ha
              have e2 := opd_evs he hk h2
              simp only [ScRel] at e2
              rw [e2]
              obtain ⟨w', g1, g2, g3⟩ := run_mapUpdate (P := P) R ht hr (opd_evs he hm h1) (n := n) (opd_evs he hu h3)
              exact OkN.skip (by simp [g1]) g2 g3
            · cases ha
          · cases ha
        · cases ha
      · cases hc
  · -- extract
    rename_i x i ho; rw [ho]; dsimp only
    simp only [Option.map_eq_some_iff] at hc
    obtain ⟨x', hx, rfl⟩ := hc
    simp only [aop] at ha
    split at ha
    · rename_i vs h1
      split at ha
      · rename_i s h2
        cases ha
        obtain ⟨u, g1, g2⟩ := run_extract (P := P) (w := w) h2 (opd_ev he hx h1)
        exact sound_v (Ok.pure R g1 g2)
      · rename_i cs h2
        cases ha
        obtain ⟨u, g1, g2⟩ := run_extract (P := P) (w := w) h2 (opd_ev he hx h1)
        exact sound_v (Ok.pure R g1 g2)
      · cases ha
    · cases ha
  · -- nilCheck
    rename_i x ho; rw [ho]; dsimp only
    simp only [Option.map_eq_some_iff] at hc
    obtain ⟨x', hx, rfl⟩ := hc
    simp only [aop] at ha
    split at ha
    · rename_i k off h1
      cases ha
      have hs := opd_evs he hx h1
      have hs' := hs
      obtain ⟨b, o', n, _, e1⟩ := hs
      rw [e1]
      rw [e1] at hs'
      exact OkN.value R (by simp) hs'
    · rename_i f caps h1
      cases ha
      have hs := opd_evs he hx h1
      have hs' := hs
      obtain ⟨cs, e1, _⟩ := hs
      rw [e1]
      rw [e1] at hs'
      exact OkN.value R (by simp) hs'
    · cases ha
  · -- build
    rename_i t parts ho; rw [ho]; dsimp only
    split at hc
    · rename_i ps z hp hz
      split at hc
      · rename_i hok
        cases hc
        simp only [aop] at ha
        split at ha
        · rename_i pvs h1
          simp only [Option.map_eq_some_iff, Prod.mk.injEq] at ha
          obtain ⟨cs, h2, rfl, rfl⟩ := ha
          have hrel := parts_rel he hp h1
          obtain ⟨u, g1, g2⟩ := run_build (P := P) (w := w) (parts := parts.map fun (i, x) => (i, a.eval x)) hz hok (by rw [Array.toList_map]; exact hrel) h2
          exact sound_v (Ok.pure R g1 g2)
        · cases ha
      · cases hc
    · cases hc
  · -- buildSlice
    rename_i t len parts ho; rw [ho]; dsimp only
    split at hc
    · rename_i el ht
      split at hc
      · rename_i sz z hsz hz
        split at hc
        · rename_i ps hp
          split at hc
          · rename_i hok
            cases hc
            simp only [aop] at ha
            split at ha
            · rename_i pvs h1
              split at ha
              · rename_i hb
                simp only [Option.map_eq_some_iff, Prod.mk.injEq] at ha
                obtain ⟨cs, h2, rfl, rfl⟩ := ha
                have hrel := parts_rel he hp h1
                obtain ⟨hzl, h0⟩ := hok
                rw [hzl] at hb ⊢
                have hll : len ≤ len * sz := Nat.le_mul_of_pos_right _ h0
                exact sound_v (run_buildSlice R ht hsz hz hzl h0 hb (by simp only [maxL]; omega) (parts := parts.map fun (i, x) => (i, a.eval x)) (by rw [Array.toList_map]; exact hrel) h2 (by rw [fillA_length h2]; simp [hzl]))
              · cases ha
            · cases ha
          · cases hc
        · cases hc
      · cases hc
    · cases hc
  · -- alloc
    rename_i el ho; rw [ho]; dsimp only
    simp only [Option.map_eq_some_iff] at hc
    obtain ⟨z, hz, rfl⟩ := hc
    cases ha
    exact sound_v (run_alloc R hz)
  · -- box
    rename_i el x ho; rw [ho]; dsimp only
    simp only [Option.map_eq_some_iff] at hc
    obtain ⟨x', hx, rfl⟩ := hc
    simp only [aop] at ha
    split at ha
    · rename_i cs h1
      simp only [Option.bind_eq_some_iff] at h1
      obtain ⟨u, h1, h2⟩ := h1
      cases ha
      exact sound_v (run_box R h2 (opd_ev he hx h1))
    · cases ha
  · -- load
    rename_i t x ho; rw [ho]; dsimp only
    split at hc
    · rename_i n x' hn hx
      cases hc
      simp only [aop] at ha
      split at ha
      · rename_i k off h1
        split at ha
        · split at ha
          · rename_i vs h2
            simp only [Option.map_eq_some_iff, Prod.mk.injEq] at ha
            obtain ⟨s, h3, rfl, rfl⟩ := ha
            obtain ⟨u, g1, g2⟩ := run_load_scalar (P := P) R hn h2 h3 (opd_evs he hx h1)
            exact sound_v (Ok.pure R g1 g2)
          · cases ha
        · simp only [Option.map_eq_some_iff, Prod.mk.injEq] at ha
          obtain ⟨cs, h3, rfl, rfl⟩ := ha
          obtain ⟨u, g1, g2⟩ := run_load_agg (P := P) R hn h3 (opd_evs he hx h1)
          exact sound_v (Ok.pure R g1 g2)
      · cases ha
    · cases hc
  · -- store
    rename_i t x u ho; rw [ho]; dsimp only
    split at hc
    · rename_i n x' u' ht hx hu
      cases hc
      simp only [aop] at ha
      split at ha
      · rename_i k off cs h1 h2
        simp only [Option.bind_eq_some_iff] at h2
        obtain ⟨uv, h2, h3⟩ := h2
        split at ha
        · rename_i hn
          simp only [Option.map_eq_some_iff, Prod.mk.injEq] at ha
          obtain ⟨h'', h4, rfl, rfl⟩ := ha
          obtain ⟨w', g1, g2, g3⟩ := run_store (P := P) R ht (opd_evs he hx h1) h3 hn (opd_ev he hu h2) h4
          exact OkN.skip (by simp [g1]) g2 g3
        · cases ha
      · cases ha
    · cases hc
  · -- call
    rename_i c ho; rw [ho]; dsimp only
    exact sound_call hP R he hc ha
  · cases hc

end
end Go.Abs

/- Calls as triples over abstract arguments and heaps; one operation, a region, a function's body: what the predicate transformer tells of them holds of the model. -/
namespace Go.Abs
open Go.RowKit
set_option linter.unusedSimpArgs false

/-! ### An operation looks at its own slots alone -/

section
variable {e e' : Env}

theorem ev_congr {x : Opd} (hx : ∀ t ∈ x.tmps, e.get t = e'.get t) : x.ev e = x.ev e' := by
  cases x with
  | tmp t => exact hx t (by simp [Opd.tmps])
  | const v => rfl

theorem evs_congr {x : Opd} (hx : ∀ t ∈ x.tmps, e.get t = e'.get t) : x.evs e = x.evs e' := by
  simp only [Opd.evs, ev_congr hx]

theorem evIdx_congr {d : Nat} {x : Option Opd} (hx : ∀ t ∈ optTmps x, e.get t = e'.get t) : evIdx e d x = evIdx e' d x := by
  cases x with
  | none => rfl
  | some x => simp only [evIdx, evs_congr (e := e) (e' := e') (x := x) hx]

theorem evAll_congr : ∀ {l : List Opd}, (∀ t ∈ l.flatMap Opd.tmps, e.get t = e'.get t) → evAll e l = evAll e' l
  | [], _ => rfl
  | x :: r, h => by
    simp only [List.flatMap_cons, List.mem_append] at h
    simp only [evAll, ev_congr (e := e) (e' := e') (x := x) fun t ht => h t (.inl ht), evAll_congr (l := r) fun t ht => h t (.inr ht)]

theorem evPtrs_congr : ∀ {l : List Opd}, (∀ t ∈ l.flatMap Opd.tmps, e.get t = e'.get t) → evPtrs e l = evPtrs e' l
  | [], _ => rfl
  | x :: r, h => by
    simp only [List.flatMap_cons, List.mem_append] at h
    simp only [evPtrs, evs_congr (e := e) (e' := e') (x := x) fun t ht => h t (.inl ht), evPtrs_congr (l := r) fun t ht => h t (.inr ht)]

theorem evParts_congr : ∀ {l : List (Nat × Nat × Opd)}, (∀ t ∈ l.flatMap (fun p => p.2.2.tmps), e.get t = e'.get t) → evParts e l = evParts e' l
  | [], _ => rfl
  | (o, s, x) :: r, h => by
    simp only [List.flatMap_cons, List.mem_append] at h
    simp only [evParts, ev_congr (e := e) (e' := e') (x := x) fun t ht => h t (.inl ht), evParts_congr (l := r) fun t ht => h t (.inr ht)]

theorem aop_congr {o : AOp} (h : Heap) (ho : ∀ t ∈ o.tmps, e.get t = e'.get t) : aop o e h = aop o e' h := by
  cases o <;> simp only [AOp.tmps, List.mem_append] at ho
  case mov x => simp only [aop, ev_congr ho]
  case pick c a b => simp only [aop, evs_congr (x := c) fun t ht => ho t (.inl ht), ev_congr (x := a) fun t ht => ho t (.inr (.inl ht)), ev_congr (x := b) fun t ht => ho t (.inr (.inr ht))]
  case bin op x y => simp only [aop, evs_congr (x := x) fun t ht => ho t (.inl ht), evs_congr (x := y) fun t ht => ho t (.inr ht)]
  case eqB n x y => simp only [aop, evs_congr (x := x) fun t ht => ho t (.inl ht), evs_congr (x := y) fun t ht => ho t (.inr ht)]
  case eqN n k x => simp only [aop, evs_congr ho]
  case eqA n k x y => simp only [aop, ev_congr (x := x) fun t ht => ho t (.inl ht), ev_congr (x := y) fun t ht => ho t (.inr ht)]
  case not x => simp only [aop, evs_congr ho]
  case neg x => simp only [aop, evs_congr ho]
  case conv k x => simp only [aop, evs_congr ho]
  case b2s x => simp only [aop, evs_congr ho]
  case minmax m x y => simp only [aop, evs_congr (x := x) fun t ht => ho t (.inl ht), evs_congr (x := y) fun t ht => ho t (.inr ht)]
  case extract x i => simp only [aop, ev_congr ho]
  case field x o n => simp only [aop, ev_congr ho]
  case build z ps => simp only [aop, evParts_congr ho]
  case index x i => simp only [aop, evs_congr (x := x) fun t ht => ho t (.inl ht), evs_congr (x := i) fun t ht => ho t (.inr ht)]
  case sliceS x lo hi => simp only [aop, evs_congr (x := x) fun t ht => ho t (.inl ht), evIdx_congr (x := lo) fun t ht => ho t (.inr (.inl ht)), evIdx_congr (x := hi) fun t ht => ho t (.inr (.inr ht))]
  case sliceV sz x lo hi mx => simp only [aop, evs_congr (x := x) fun t ht => ho t (.inl ht), evIdx_congr (x := lo) fun t ht => ho t (.inr (.inl ht)), evIdx_congr (x := hi) fun t ht => ho t (.inr (.inr (.inl ht))), evIdx_congr (x := mx) fun t ht => ho t (.inr (.inr (.inr ht)))]
  case sliceA n sz x lo hi => simp only [aop, evs_congr (x := x) fun t ht => ho t (.inl ht), evIdx_congr (x := lo) fun t ht => ho t (.inr (.inl ht)), evIdx_congr (x := hi) fun t ht => ho t (.inr (.inr ht))]
  case nilCheck x => simp only [aop, evs_congr ho]
  case fieldAddr x o => simp only [aop, evs_congr ho]
  case indexAddr sz x i => simp only [aop, evs_congr (x := x) fun t ht => ho t (.inl ht), evs_congr (x := i) fun t ht => ho t (.inr ht)]
  case indexAddrA n sz x i => simp only [aop, evs_congr (x := x) fun t ht => ho t (.inl ht), evs_congr (x := i) fun t ht => ho t (.inr ht)]
  case load n x => simp only [aop, evs_congr ho]
  case store n x v => simp only [aop, evs_congr (x := x) fun t ht => ho t (.inl ht), ev_congr (x := v) fun t ht => ho t (.inr ht)]
  case alloc z => rfl
  case box v => simp only [aop, ev_congr ho]
  case buildSlice z n ps => simp only [aop, evParts_congr ho]
  case makeSlice z b l c => simp only [aop, evs_congr (x := l) fun t ht => ho t (.inl ht), evs_congr (x := c) fun t ht => ho t (.inr ht)]
  case makeMap k => rfl
  case mkfunc f l => simp only [aop, evPtrs_congr ho]
  case lookup k z ok m x => simp only [aop, evs_congr (x := m) fun t ht => ho t (.inl ht), evs_congr (x := x) fun t ht => ho t (.inr ht)]
  case mapUpdate k m x v => simp only [aop, evs_congr (x := m) fun t ht => ho t (.inl ht), evs_congr (x := x) fun t ht => ho t (.inr (.inl ht)), evs_congr (x := v) fun t ht => ho t (.inr (.inr ht))]
  case delete k m x => simp only [aop, evs_congr (x := m) fun t ht => ho t (.inl ht), evs_congr (x := x) fun t ht => ho t (.inr ht)]
  case lenM m => simp only [aop, evs_congr ho]
  case len s x => simp only [aop, evs_congr ho]
  case append sz b s x => simp only [aop, evs_congr (x := s) fun t ht => ho t (.inl ht), evs_congr (x := x) fun t ht => ho t (.inr ht)]
  case copy sz d s => simp only [aop, evs_congr (x := d) fun t ht => ho t (.inl ht), evs_congr (x := s) fun t ht => ho t (.inr ht)]
  case clear z x => simp only [aop, evs_congr ho]
  case add64 x y c => simp only [aop, evs_congr (x := x) fun t ht => ho t (.inl ht), evs_congr (x := y) fun t ht => ho t (.inr (.inl ht)), evs_congr (x := c) fun t ht => ho t (.inr (.inr ht))]
  case call => rfl
  case callv => rfl

theorem astep_congr {T : CallP} {o : AOp} {h : Heap} {K : AV → Heap → Prop} (ho : ∀ t ∈ o.tmps, e.get t = e'.get t) : astep T o e h K ↔ astep T o e' h K := by
  cases o
  case call f args => simp only [astep, evAll_congr (l := args) ho]
  case callv g args =>
    simp only [AOp.tmps, List.mem_append] at ho
    simp only [astep, evs_congr (x := g) fun t ht => ho t (.inl ht), evAll_congr (l := args) fun t ht => ho t (.inr ht)]
  all_goals simp only [astep, aop_congr h ho]

end

/-! ### Calls -/

/-- What holds behind a call that was made in such a state. -/
def Post (B : Nat) (β : Names) (h : Heap) (w : World) (Q : AV → Heap → Prop) (en : Ending) (w' : World) : Prop :=
  ∃ c v h' β', en = .returned c ∧ Q v h' ∧ VRel β' v c ∧ Rel B β' h' w'.heap ∧ Step B β h w β' h' w'

/-- **The triple**: called with such arguments in such a heap, the function returns, and Q holds of its answer and of the heap. -/
def Tri (P : Program) : CallP := fun f args h Q =>
  okCallee P f = true ∧ ∀ (B : Nat) (β : Names) (w : World) (cargs : Array Value), Rel B β h w.heap → All2 (VRel β) args cargs.toList → Calls P f cargs w (Post B β h w Q)

theorem Tri.mono {P : Program} {f : FuncId} {args : List AV} {h : Heap} {Q Q' : AV → Heap → Prop} (hk : Tri P f args h Q) (hq : ∀ v h', Q v h' → Q' v h') : Tri P f args h Q' :=
  ⟨hk.1, fun B β w cargs R ha => (hk.2 B β w cargs R ha).mono fun _ _ ⟨c, v, h', β', h1, h2, h3⟩ => ⟨c, v, h', β', h1, hq _ _ h2, h3⟩⟩

section
variable {P : Program} {w : World} {β : Names} {B : Nat} {h h' : Heap} {N : Nat} {e : Env} {a : Act} {v : AV} {ao : AOp}

theorem run_callFunc_enter {f : FuncId} (hf : okCallee P f = true) (args : Array Value) : (callFunc f args).run P w = .ok (.enter f args) w := by
  unfold okCallee at hf
  split at hf
  · rename_i fn hfn
    simp only [Bool.and_eq_true, Bool.not_eq_true', beq_eq_false_iff_ne] at hf
    obtain ⟨c, hb⟩ := Option.isSome_iff_exists.1 hf.1
    simp [callFunc, hfn, hf.2, hb]
  · cases hf

theorem upon_okN {o : Oper} {next : Act → World → Prop} {Qx : Exit → Act → World → Prop} (hk : OkN B β h v h' w ((execOp a.eval o).run P w))
    (hn : ∀ c w' β', VRel β' v c → Rel B β' h' w'.heap → Step B β h w β' h' w' → next (a.put o.dst c) w') : o.wp P a w next Qx := by
  obtain ⟨c, w', β', hr, hv, R, S⟩ := hk
  unfold Oper.wp
  rcases hr with hr | ⟨hr, rfl⟩
  · rw [hr]; exact hn c w' β' hv R S
  · rw [hr]; exact hn undef w' β' hv R S

theorem caps_rel : ∀ {caps : List (Nat × Nat)} {cs : List Value}, All2 (PtrRel β) caps cs → All2 (VRel β) (capArgs caps) cs
  | [], [], _ => trivial
  | [], _ :: _, h => h.elim
  | _ :: _, [], h => h.elim
  | _ :: _, _ :: _, h => ⟨h.1, caps_rel h.2⟩

theorem upon_call {o : Oper} {f : FuncId} {args : Array Value} {vs : List AV} {K : AV → Heap → Prop} {next : Act → World → Prop} {Qx : Exit → Act → World → Prop} (hrun : (execOp a.eval o).run P w = .ok (.enter f args) w) (hT : Tri P f vs h K)
    (R : Rel B β h w.heap) (ha : All2 (VRel β) vs args.toList) (hn : ∀ v h' c w' β', K v h' → VRel β' v c → Rel B β' h' w'.heap → Step B β h w β' h' w' → next (a.put o.dst c) w') : o.wp P a w next Qx := by
  unfold Oper.wp
  rw [hrun]
  refine (hT.2 B β w args R ha).mono ?_
  rintro en w' ⟨c, v, h', β', rfl, h1, h2, h3, h4⟩
  exact hn v h' c w' β' h1 h2 h3 h4

def AOp.isCall : AOp → Bool
  | .call .. | .callv .. => true
  | _ => false

theorem nil_notCall {neg : Bool} {kd : Nat} {x y : Operand} (hc : compileNil neg kd x y = some ao) : ao.isCall = false := by
  unfold compileNil at hc
  split at hc
  · simp only [Option.map_eq_some_iff] at hc; obtain ⟨_, _, rfl⟩ := hc; rfl
  · split at hc
    · simp only [Option.map_eq_some_iff] at hc; obtain ⟨_, _, rfl⟩ := hc; rfl
    · cases hc

theorem eq_notCall {neg : Bool} {op : BinOp} {t : TypeId} {x y : Operand} (hc : compileEq P neg op t x y = some ao) : ao.isCall = false := by
  unfold compileEq at hc
  split at hc
  · obtain ⟨_, _, _, _, rfl⟩ := op2_some hc; rfl
  · obtain ⟨_, _, _, _, rfl⟩ := op2_some hc; rfl
  · obtain ⟨_, _, _, _, rfl⟩ := op2_some hc; rfl
  · exact nil_notCall hc
  · exact nil_notCall hc
  · exact nil_notCall hc
  · exact nil_notCall hc
  · split at hc
    · obtain ⟨_, _, _, _, rfl⟩ := op2_some hc; rfl
    · cases hc
  · split at hc
    · obtain ⟨_, _, _, _, rfl⟩ := op2_some hc; rfl
    · cases hc
  · cases hc

theorem call_of_isCall {o : Op} (hc : compileOp P o = some ao) (hi : ao.isCall = true) : ∃ c, o = .call c ∧ compileCall P c = some ao := by
  unfold compileOp at hc
  split at hc
  case h_4 op t x y yt =>
    split at hc
    · rw [eq_notCall hc] at hi; cases hi
    · rw [eq_notCall hc] at hi; cases hi
    · obtain ⟨_, _, _, _, rfl⟩ := op2_some hc; cases hi
  case h_27 c => exact ⟨c, rfl, hc⟩
  all_goals
    repeat' (split at hc)
    all_goals first
      | (cases hc; done)
      | (cases hc; cases hi; done)
      | (simp only [Option.map_eq_some_iff] at hc; obtain ⟨_, _, rfl⟩ := hc; cases hi; done)

theorem builtin_notCall {c : Call} (hc : compileCall P c = some ao) (hi : ao.isCall = true) :
    (∃ f as, c.callee = .value (.func f) ∧ opds c.args.toList = some as ∧ ao = .call f as) ∨ (∃ x g as, c.callee = .value x ∧ opd x = some g ∧ opds c.args.toList = some as ∧ ao = .callv g as) := by
  unfold compileCall at hc
  split at hc
  · rename_i f hcal
    split at hc
    · rename_i as has
      split at hc
      · cases hc; exact .inl ⟨f, as, hcal, has, rfl⟩
      · split at hc
        · split at hc
          · cases hc; cases hi
          · cases hc
        · cases hc
    · cases hc
  · rename_i x hcal _
    split at hc
    · rename_i g as hg has
      cases hc
      exact .inr ⟨_, g, as, by assumption, hg, has, rfl⟩
    · cases hc
  · split at hc
    case h_3 => obtain ⟨_, _, _, _, rfl⟩ := op2_some hc; cases hi
    case h_4 => obtain ⟨_, _, _, _, rfl⟩ := op2_some hc; cases hi
    all_goals
      repeat' (split at hc)
      all_goals first
        | (cases hc; done)
        | (cases hc; cases hi; done)
        | (simp only [Option.bind_eq_some_iff] at hc
           obtain ⟨_, _, hc⟩ := hc
           split at hc
           · cases hc; cases hi
           · cases hc)
  · cases hc

/-- **One operation.** -/
theorem astep_sound (hP : ProgOk P) (R : Rel B β h w.heap) (he : EnvRel N β e a.tmps) {o : Oper} (hc : compileOp P o.op = some ao) {K : AV → Heap → Prop} (hs : astep (Tri P) ao e h K) {next : Act → World → Prop} {Qx : Exit → Act → World → Prop}
    (hn : ∀ v h' c w' β', K v h' → VRel β' v c → Rel B β' h' w'.heap → Step B β h w β' h' w' → next (a.put o.dst c) w') : o.wp P a w next Qx := by
  have plain : ∀ {v : AV} {h' : Heap}, aop ao e h = some (v, h') → K v h' → o.wp P a w next Qx := fun ha hK => upon_okN (aop_sound hP R he hc ha) fun c w' β' h1 h2 h3 => hn _ _ c w' β' hK h1 h2 h3
  cases hao : ao
  case call f args =>
    rw [hao] at hs hc
    simp only [astep] at hs
    split at hs
    · rename_i vs h1
      obtain ⟨c, hop, hcc⟩ := call_of_isCall hc rfl
      obtain ⟨hcal, has⟩ : c.callee = .value (.func f) ∧ opds c.args.toList = some args := by
        rcases builtin_notCall hcc rfl with ⟨f', as, q1, q2, q3⟩ | ⟨x, g, as, q1, q2, q3, q4⟩
        · cases q3; exact ⟨q1, q2⟩
        · cases q4
      have hrel := opds_ev he has h1
      refine upon_call (f := f) (args := c.args.map a.eval) ?_ hs R (by rw [Array.toList_map]; exact hrel) hn
      unfold execOp
      rw [hop]
      simp only [resolve, hcal, Act.eval, Deferred.ofValue, Sem.run_bind, Sem.run_pure, Result.andThen_ok, invoke, Array.append_empty, Array.empty_append]
      exact run_callFunc_enter hs.1 _
    · exact hs.elim
  case callv g args =>
    rw [hao] at hs hc
    simp only [astep] at hs
    split at hs
    · rename_i f caps vs h1 h2
      obtain ⟨c, hop, hcc⟩ := call_of_isCall hc rfl
      obtain ⟨x, hcal, hg, has⟩ : ∃ x, c.callee = .value x ∧ opd x = some g ∧ opds c.args.toList = some args := by
        rcases builtin_notCall hcc rfl with ⟨f', as, q1, q2, q3⟩ | ⟨x, g', as, q1, q2, q3, q4⟩
        · cases q3
        · cases q4; exact ⟨x, q1, q2, q3⟩
      obtain ⟨cs, e1, hcaps⟩ := opd_evs he hg h1
      have hrel := opds_ev he has h2
      refine upon_call (f := f) (args := c.args.map a.eval ++ cs) ?_ hs R (by rw [Array.toList_append, Array.toList_map]; exact forall₂_append hrel (caps_rel hcaps)) hn
      unfold execOp
      rw [hop]
      simp only [resolve, hcal, e1, Deferred.ofValue, Sem.run_bind, Sem.run_pure, Result.andThen_ok, invoke, Array.empty_append]
      exact run_callFunc_enter hs.1 _
    · exact hs.elim
  all_goals
    rw [hao] at hs
    simp only [astep] at hs
    rw [← hao] at hs
    split at hs
    · rename_i v h' h1
      exact plain h1 hs
    · exact hs.elim

end
/-! ### Names anew -/

section
variable {β : Names} {ρ : Nat → Nat}

theorem all2_map {α α' γ : Type} {R : α' → γ → Prop} {f : α → α'} : ∀ {l : List α} {m : List γ}, All2 R (l.map f) m → All2 (fun a c => R (f a) c) l m
  | [], [], _ => trivial
  | [], _ :: _, h => h.elim
  | _ :: _, [], h => h.elim
  | _ :: _, _ :: _, h => ⟨h.1, all2_map h.2⟩

theorem ren_sc {s : Sc} {c : Value} (h : ScRel β (renSc ρ s) c) : ScRel (fun k => β (ρ k)) s c := by
  cases s <;> try exact h
  case func f caps =>
    obtain ⟨cs, h1, h2⟩ := h
    exact ⟨cs, h1, all2_map (R := PtrRel β) (f := fun p : Nat × Nat => (ρ p.1, p.2)) h2⟩

theorem ren_cells {l : List Sc} {m : List Value} (h : CellsRel β (l.map (renSc ρ)) m) : CellsRel (fun k => β (ρ k)) l m := forall₂_imp (fun _ _ => ren_sc) (all2_map h)

theorem ren_part {s : Sc ⊕ List Sc} {c : Value} (h : PartRel β (renPart ρ s) c) : PartRel (fun k => β (ρ k)) s c := by
  cases s with
  | inl s => exact ren_sc h
  | inr l => obtain ⟨cs, h1, h2⟩ := h; exact ⟨cs, h1, ren_cells h2⟩

theorem ren_av {v : AV} {c : Value} (h : VRel β (renAV ρ v) c) : VRel (fun k => β (ρ k)) v c := by
  cases v with
  | any => trivial
  | sc s => exact ren_sc h
  | agg l => obtain ⟨cs, h1, h2⟩ := h; exact ⟨cs, h1, ren_cells h2⟩
  | tup l => obtain ⟨cs, h1, h2⟩ := h; exact ⟨cs, h1, forall₂_imp (fun _ _ => ren_part) (all2_map h2)⟩
  | raw b => exact h

theorem ren_owned {o : AObj} : (renObj ρ o).owned = o.owned := by cases o <;> rfl

theorem ren_row {l : List Sc} {c : Array Value} {o : Nat} (h : RowRel β (l.map (renSc ρ)) c o) : RowRel (fun k => β (ρ k)) l c o := fun i s hs => by
  obtain ⟨u, h1, h2⟩ := h i (renSc ρ s) (by rw [List.getElem?_map, hs]; rfl)
  exact ⟨u, h1, ren_sc h2⟩

theorem ren_obj {B : Nat} {H : Array Obj} {b o n : Nat} {x : AObj} (h : ORel β B H b o n (renObj ρ x)) : ORel (fun k => β (ρ k)) B H b o n x := by
  cases x with
  | cells l => obtain ⟨h0, c, e, h1, h2, h3, h4⟩ := h; exact ⟨h0, c, e, h1, h2, by simpa using h3, ren_row h4⟩
  | ro l => obtain ⟨h0, c, e, fr, h1, h2, h3, h4⟩ := h; exact ⟨h0, c, e, fr, h1, h2, by simpa using h3, ren_row h4⟩
  | map k es => obtain ⟨h0, ents, cl, h1, h2, h3⟩ := h; exact ⟨h0, ents, cl, h1, forall₂_imp (fun _ _ ⟨p, q⟩ => ⟨p, ren_sc q⟩) (all2_map h2), h3⟩

end

theorem Rel.fgt {B : Nat} {β β1 : Names} {h0 h h1 : Heap} {w w1 : World} {v v1 : AV} {c : Value} (R0 : Rel B β h0 w.heap) (R : Rel B β1 h1 w1.heap) (S : Step B β h0 w β1 h1 w1) (hv : VRel β1 v1 c) (hf : Fgt h0 v1 h1 v h) :
    ∃ β', VRel β' v c ∧ Rel B β' h w1.heap ∧ Step B β h0 w β' h w1 := by
  obtain ⟨ρ, f1, f2, rfl, f4, f5⟩ := hf
  have hobj : ∀ k o, h.get k = some o → ∃ b off n, β1 (ρ k) = some (b, off, n) ∧ ORel (fun k => β1 (ρ k)) B w1.heap b off n o := fun k o hk => by
    obtain ⟨b, off, n, h2, h3⟩ := R.objs _ _ (f4 k o hk)
    exact ⟨b, off, n, h2, ren_obj h3⟩
  refine ⟨fun k => β1 (ρ k), ren_av hv, ⟨fun k x hx => ?_, hobj, fun k k' o o' b off n b' off' n' hk hk' ho ho' hb hb' he => ?_, R.base⟩, ⟨fun k x hx => ?_, S.below, S.frame, fun b ⟨k, o, off, n, g1, g2, g3⟩ => ?_⟩⟩
  · rcases Nat.lt_or_ge k h.next with hlt | hge
    · exact hlt
    · have := R.names _ _ hx
      have := f2 k hge
      omega
  · exact f5 k k' o o' hk hk' ho ho' (R.inj _ _ _ _ _ _ _ _ _ _ (f4 k o hk) (f4 k' o' hk') (by rw [ren_owned]; exact ho) (by rw [ren_owned]; exact ho') hb hb' he)
  · show β1 (ρ k) = some x
    rw [f1 k (R0.names k x hx)]
    exact S.le k x hx
  · exact S.own b ⟨ρ k, renObj ρ o, off, n, f4 k o g1, by rw [ren_owned]; exact g2, g3⟩

theorem Rel.fgtE {B : Nat} {β β1 : Names} {h0 h h1 : Heap} {w w1 : World} {e e1 : Env} {tmps : Array Value} {N : Nat} (R0 : Rel B β h0 w.heap) (R : Rel B β1 h1 w1.heap) (S : Step B β h0 w β1 h1 w1) (he : EnvRel N β1 e1 tmps) (hf : FgtE h0 e1 h1 e h) :
    ∃ β', EnvRel N β' e tmps ∧ Rel B β' h w1.heap ∧ Step B β h0 w β' h w1 := by
  obtain ⟨ρ, f1, f2, f3, f4, f5⟩ := hf
  have hobj : ∀ k o, h.get k = some o → ∃ b off n, β1 (ρ k) = some (b, off, n) ∧ ORel (fun k => β1 (ρ k)) B w1.heap b off n o := fun k o hk => by
    obtain ⟨b, off, n, h2, h3⟩ := R.objs _ _ (f4 k o hk)
    exact ⟨b, off, n, h2, ren_obj h3⟩
  refine ⟨fun k => β1 (ρ k), ⟨he.size, fun t v ht => ?_⟩, ⟨fun k x hx => ?_, hobj, fun k k' o o' b off n b' off' n' hk hk' ho ho' hb hb' he => ?_, R.base⟩, ⟨fun k x hx => ?_, S.below, S.frame, fun b ⟨k, o, off, n, g1, g2, g3⟩ => ?_⟩⟩
  · obtain ⟨c, h1, h2⟩ := he.rel t _ (f3 t v ht)
    exact ⟨c, h1, ren_av h2⟩
  · rcases Nat.lt_or_ge k h.next with hlt | hge
    · exact hlt
    · have := R.names _ _ hx
      have := f2 k hge
      omega
  · exact f5 k k' o o' hk hk' ho ho' (R.inj _ _ _ _ _ _ _ _ _ _ (f4 k o hk) (f4 k' o' hk') (by rw [ren_owned]; exact ho) (by rw [ren_owned]; exact ho') hb hb' he)
  · show β1 (ρ k) = some x
    rw [f1 k (R0.names k x hx)]
    exact S.le k x hx
  · exact S.own b ⟨ρ k, renObj ρ o, off, n, f4 k o g1, by rw [ren_owned]; exact g2, g3⟩

/-! ### The names in it -/

section
variable {β : Names} {n : Nat}

theorem ptr_below (hn : ∀ k x, β k = some x → k < n) {p : Nat × Nat} {c : Value} (h : PtrRel β p c) : p.1 < n := by
  obtain ⟨b, o, m, h1, _⟩ := h
  exact hn _ _ h1

theorem all2_mem {α γ : Type} {R : α → γ → Prop} : ∀ {l : List α} {m : List γ}, All2 R l m → ∀ a ∈ l, ∃ c, R a c
  | [], _, _, a, h => by cases h
  | x :: l, [], h, _, _ => h.elim
  | x :: l, y :: m, h, a, ha => by
    rcases List.mem_cons.1 ha with rfl | ha
    · exact ⟨y, h.1⟩
    · exact all2_mem h.2 a ha

theorem sc_below (hn : ∀ k x, β k = some x → k < n) {s : Sc} {c : Value} (h : ScRel β s c) : s.below n := by
  cases s <;> try trivial
  case ptr k off => exact ptr_below hn h
  case slice k off len sz => obtain ⟨a, cap, _, _, _, ⟨y, hy⟩, _⟩ := h; exact hn _ _ hy
  case map k => obtain ⟨b, o, m, h1, _⟩ := h; exact hn _ _ h1
  case func f caps =>
    obtain ⟨cs, _, h2⟩ := h
    intro p hp
    obtain ⟨c', hc'⟩ := all2_mem h2 p hp
    exact ptr_below hn hc'

theorem cells_below (hn : ∀ k x, β k = some x → k < n) {l : List Sc} {m : List Value} (h : CellsRel β l m) : ∀ s ∈ l, Sc.below n s := fun s hs =>
  let ⟨_, hc⟩ := all2_mem h s hs; sc_below hn hc

theorem av_below (hn : ∀ k x, β k = some x → k < n) {v : AV} {c : Value} (h : VRel β v c) : v.below n := by
  cases v with
  | any => trivial
  | raw b => trivial
  | sc s => exact sc_below hn h
  | agg l => obtain ⟨cs, _, h1⟩ := h; exact cells_below hn h1
  | tup l =>
    obtain ⟨cs, _, h1⟩ := h
    intro p hp
    obtain ⟨c', hc'⟩ := all2_mem h1 p hp
    cases p with
    | inl s => exact sc_below hn hc'
    | inr l => obtain ⟨us, _, h2⟩ := hc'; exact cells_below hn h2

theorem Rel.wfh {B : Nat} {h : Heap} {H : Array Obj} (R : Rel B β h H) : WF h := by
  intro k o hk
  refine ⟨R.wf hk, ?_⟩
  obtain ⟨b, off, m, _, h2⟩ := R.objs k o hk
  have row : ∀ {vs : List Sc} {c : Array Value} {off : Nat}, RowRel β vs c off → ∀ s ∈ vs, Sc.below h.next s := fun hr s hs => by
    obtain ⟨i, hi⟩ := List.getElem?_of_mem hs
    obtain ⟨u, _, hu⟩ := hr i s hi
    exact sc_below R.names hu
  cases o with
  | cells vs => obtain ⟨_, c, e, _, _, _, h3⟩ := h2; exact row h3
  | ro vs => obtain ⟨_, c, e, fr, _, _, _, h3⟩ := h2; exact row h3
  | map kk es =>
    obtain ⟨_, ents, cl, _, h3, _⟩ := h2
    intro p hp
    obtain ⟨c', hc'⟩ := all2_mem h3 p hp
    exact sc_below R.names hc'.2

end
end Go.Abs

/- Regions in the order of the text, and the code's forms around them: the predicate transformer over the abstract code is sound for the model's code. -/
namespace Go.Abs
open Go.RowKit
set_option linter.unusedSimpArgs false

/-- An abstract state tells of a model's state. -/
structure St (N : Nat) (pers : List Nat) (B : Nat) (β : Names) (e : Env) (h : Heap) (a : Act) (w : World) : Prop where
  env : EnvRel N β e a.tmps
  rel : Rel B β h w.heap
  dom : ∀ t v, e.get t = some v → t ∈ pers
  defers : a.defers = []

section
variable {P : Program} {w : World} {β : Names} {B : Nat} {h h' : Heap} {N : Nat} {e : Env} {a : Act} {v : AV} {pers : List Nat}

theorem wanted_rel {ops : Array Oper} {o : Oper} {g : Option (Nat × Bool)} {b : Bool} (hg : guardOf ops o = some g) (hw : wantedA g e = some b) (he : ∀ t u, (g.map (·.1)) = some t → e.get t = some u → ∃ c, a.tmps[t]? = some c ∧ VRel β u c) :
    Region.wanted o (yielded ops a.tmps) = b := by
  unfold guardOf at hg
  unfold Region.wanted
  split at hg
  · rename_i hgd
    cases hg
    simp only [wantedA, Option.some.injEq] at hw
    rw [hgd]; exact hw
  · rename_i j want hgd
    split at hg
    · rename_i t ht
      cases hg
      rw [hgd]
      simp only [wantedA] at hw
      unfold yielded
      dsimp only
      rw [ht]
      simp only [Option.bind_some]
      split at hw
      · rename_i b' h1
        obtain ⟨c, h2, h3⟩ := he t _ rfl h1
        have : c = .bool b' := h3
        subst this
        rw [h2]
        simp only [Option.some.injEq] at hw
        rw [← hw]
        simp
      · rename_i h1
        obtain ⟨c, h2, h3⟩ := he t _ rfl h1
        obtain ⟨cs, rfl, _⟩ := h3
        rw [h2]
        simp only [Option.some.injEq] at hw
        rw [← hw]
        simp
      · cases hw
    · cases hg

theorem env_put (he : EnvRel N β e a.tmps) {dst : Option Nat} (hd : ∀ d, dst = some d → d < N) {c : Value} (hv : VRel β v c) : EnvRel N β (bindD dst v e) (a.put dst c).tmps := by
  cases dst with
  | none => exact he
  | some d =>
    have hlt := hd d rfl
    refine ⟨by simpa [Act.put] using he.size, fun t u ht => ?_⟩
    simp only [bindD, Env.get, beq_ite] at ht
    simp only [Act.put]
    by_cases htd : t = d
    · subst htd
      rw [if_pos rfl] at ht; cases ht
      refine ⟨c, ?_, hv⟩
      rw [Array.getElem?_setIfInBounds_self_of_lt (by rw [he.size]; exact hlt)]
    · rw [if_neg htd] at ht
      obtain ⟨c', h1, h2⟩ := he.rel t u ht
      exact ⟨c', by rw [Array.getElem?_setIfInBounds_ne (Ne.symm htd)]; exact h1, h2⟩

theorem put_defers {dst : Option Nat} {c : Value} (hd : a.defers = []) : (a.put dst c).defers = [] := by
  cases dst <;> exact hd

theorem undef_rel : VRel β (.tup []) undef := ⟨#[], rfl, trivial⟩

theorem bindD_get {dst : Option Nat} {t : Nat} (ht : dst ≠ some t) : (bindD dst v e).get t = e.get t := by
  cases dst with
  | none => rfl
  | some d =>
    simp only [bindD, Env.get, beq_ite]
    rw [if_neg (fun h => ht (by rw [h]))]

/-- The first operations of a region in the order of the text. -/
theorem aops_pre (hP : ProgOk P) {ops : Array Oper} {Q : Exit → Act → World → Prop} {K : Env → Heap → Prop} {l2 : List Oper} : ∀ (l : List Oper) (al : List AOper) (e : Env) (h : Heap) (β : Names) (a : Act) (w : World),
    compileOpers P ops l = some al → (∀ d ∈ dsts l, d < N) → aops (Tri P) al K e h → EnvRel N β e a.tmps → Rel B β h w.heap → a.defers = [] →
    (∀ e' h' β' a' w', K e' h' → EnvRel N β' e' a'.tmps → Rel B β' h' w'.heap → a'.defers = [] → (∀ t, t ∉ dsts l → e'.get t = e.get t) → Step B β h w β' h' w' → wpList P ops Q l2 a' w') → wpList P ops Q (l ++ l2) a w
  | [], al, e, h, β, a, w, hc, _, hk, he, R, hd, hQ => by
    cases hc
    exact hQ e h β a w hk he R hd (fun _ _ => rfl) (Step.refl _ _ _ _)
  | o :: l, al, e, h, β, a, w, hc, hN, hk, he, R, hd, hQ => by
    simp only [compileOpers] at hc
    split at hc
    · rename_i x al' hx hl
      cases hc
      unfold compileOper at hx
      split at hx
      · rename_i ao g hao hg
        cases hx
        have hdst : ∀ d, o.dst = some d → d < N := fun d hd => hN d (by simp [dsts, hd])
        have hN' : ∀ d ∈ dsts l, d < N := fun d hd => hN d (by simp only [dsts]; split <;> simp [hd])
        have hsub : ∀ t, t ∉ dsts (o :: l) → t ∉ dsts l ∧ o.dst ≠ some t := fun t ht => by
          simp only [dsts] at ht
          split at ht
          · rename_i d hd'
            simp only [List.mem_cons, not_or] at ht
            exact ⟨ht.2, by rw [hd']; exact fun h => ht.1 (Option.some.inj h).symm⟩
          · rename_i hd'
            exact ⟨ht, by rw [hd']; simp⟩
        simp only [aops] at hk
        have hwt : ∀ {b : Bool}, wantedA g e = some b → Region.wanted o (yielded ops a.tmps) = b := fun hb => wanted_rel (β := β) hg hb fun t u _ hu => he.rel t u hu
        split at hk
        · rename_i hw
          rw [List.cons_append]
          unfold wpList
          rw [if_pos (hwt hw)]
          refine .inl (astep_sound hP R he hao hk fun v h1 c w1 β1 hK hv R1 S1 => ?_)
          refine aops_pre hP l al' (bindD o.dst v e) h1 β1 (a.put o.dst c) w1 hl hN' hK (env_put (he.mono S1.le) hdst hv) R1 (put_defers hd) ?_
          intro e' h' β' a' w' q1 q2 q3 q4 q5 q6
          refine hQ e' h' β' a' w' q1 q2 q3 q4 (fun t ht => ?_) (S1.trans q6)
          rw [q5 t (hsub t ht).1, bindD_get (hsub t ht).2]
        · rename_i hw
          rw [List.cons_append]
          unfold wpList
          rw [if_neg (by rw [hwt hw]; simp)]
          refine aops_pre hP l al' (bindD o.dst (.tup []) e) h β (a.put o.dst undef) w hl hN' hk (env_put he hdst undef_rel) R (put_defers hd) ?_
          intro e' h' β' a' w' q1 q2 q3 q4 q5 q6
          refine hQ e' h' β' a' w' q1 q2 q3 q4 (fun t ht => ?_) q6
          rw [q5 t (hsub t ht).1, bindD_get (hsub t ht).2]
        · exact hk.elim
      · cases hx
    · cases hc

/-- A region in the order of the text. -/
theorem aops_sound (hP : ProgOk P) {ops : Array Oper} {Q : Exit → Act → World → Prop} {K : Env → Heap → Prop} (l : List Oper) (al : List AOper) (e : Env) (h : Heap) (β : Names) (a : Act) (w : World)
    (hc : compileOpers P ops l = some al) (hN : ∀ d ∈ dsts l, d < N) (hk : aops (Tri P) al K e h) (he : EnvRel N β e a.tmps) (R : Rel B β h w.heap) (hd : a.defers = [])
    (hQ : ∀ e' h' β' a' w', K e' h' → EnvRel N β' e' a'.tmps → Rel B β' h' w'.heap → a'.defers = [] → (∀ t, t ∉ dsts l → e'.get t = e.get t) → Step B β h w β' h' w' → Q .normal a' w') : wpList P ops Q l a w := by
  have := aops_pre hP (l2 := []) l al e h β a w hc hN hk he R hd hQ
  rwa [List.append_nil] at this

theorem close_get : ∀ (keep : List Nat) (outer e' : Env) (t : Nat), (Env.close outer e' keep).get t = if t ∈ keep then some ((e'.get t).getD .any) else outer.get t
  | [], outer, e', t => by simp [Env.close]
  | k :: ks, outer, e', t => by
    simp only [Env.close, close_get ks, Env.get_put, List.mem_cons]
    by_cases h1 : t ∈ ks
    · simp [h1]
    · by_cases h2 : t = k
      · subst h2; simp [h1]
      · simp [h1, h2]

/-- Behind a region: the slots that live on. -/
theorem close_st {l : List Oper} {e e' : Env} {β' : Names} {a' : Act} {w' : World} {h' : Heap} (hN : ∀ d ∈ dsts l, d < N) (hdom : ∀ t v, e.get t = some v → t ∈ pers) (he : EnvRel N β' e' a'.tmps) (R : Rel B β' h' w'.heap) (hd : a'.defers = [])
    (hsame : ∀ t, t ∉ dsts l → e'.get t = e.get t) : St N pers B β' (Env.close e e' (keepOf pers l)) h' a' w' := by
  refine ⟨⟨he.size, fun t v ht => ?_⟩, R, fun t v ht => ?_, hd⟩
  · rw [close_get] at ht
    split at ht
    · rename_i hk
      cases ht
      have hmem : t ∈ dsts l := (List.mem_filter.1 hk).1
      cases hg : e'.get t with
      | some u => exact he.rel t u hg
      | none =>
        have hlt : t < a'.tmps.size := by rw [he.size]; exact hN t hmem
        exact ⟨a'.tmps[t], by simp [hlt], trivial⟩
    · rename_i hk
      have hp := hdom t v ht
      have hnot : t ∉ dsts l := fun hm => hk (List.mem_filter.2 ⟨hm, by simpa using hp⟩)
      exact he.rel t v (by rw [hsame t hnot]; exact ht)
  · rw [close_get] at ht
    split at ht
    · rename_i hk
      have := (List.mem_filter.1 hk).2
      simpa using this
    · exact hdom t v ht

def exitOf : AExit → Exit
  | .normal => .normal
  | .exit id => .exit id
  | .ret => .ret

/-- The abstract post gives the model's, in every state behind. -/
def Meets (N : Nat) (pers : List Nat) (B : Nat) (β : Names) (h : Heap) (w : World) (Q : AExit → Env → Heap → Prop) (Q' : Exit → Act → World → Prop) : Prop :=
  ∀ x e' h' β' a' w', Q x e' h' → St N pers B β' e' h' a' w' → Step B β h w β' h' w' → Q' (exitOf x) a' w'

theorem Meets.step {β' : Names} {w' : World} {Q : AExit → Env → Heap → Prop} {Q' : Exit → Act → World → Prop} (S : Step B β h w β' h' w') (hm : Meets N pers B β h w Q Q') : Meets N pers B β' h' w' Q Q' :=
  fun x e' h'' β'' a' w'' hq hs hS => hm x e' h'' β'' a' w'' hq hs (S.trans hS)

/-- What is asked of a region that draws. -/
def DrawSound (P : Program) : Prop :=
  ∀ (N : Nat) (pers : List Nat) (B : Nat) (id : Nat) (ops : Array Oper) (l : List DOper) (K : Env → Heap → Prop) (Q : Exit → Act → World → Prop) (e : Env) (h : Heap) (β : Names) (a : Act) (w : World),
    compileD P ops = some l → (∀ d ∈ dsts ops.toList, d < N) → aopsD (Tri P) l [] K e h → St N pers B β e h a w →
    (∀ e' h' β' a' w', K e' h' → EnvRel N β' e' a'.tmps → Rel B β' h' w'.heap → a'.defers = [] → (∀ t, t ∉ dsts ops.toList → e'.get t = e.get t) → Step B β h w β' h' w' → Q .normal a' w') →
    (Code.region id ops true).wp P Q a w

theorem awp_sound (hP : ProgOk P) (hD : DrawSound P) {hb : Heap} {βb : Names} {wb : World} (Rb : Rel B βb hb wb.heap) : ∀ (c : Code), dstsIn N c = true → ∀ (Q : AExit → Env → Heap → Prop) (Q' : Exit → Act → World → Prop) (e : Env) (h : Heap) (β : Names) (a : Act) (w : World),
    awp (Tri P) hb (compileCode P pers c) Q e h → St N pers B β e h a w → Step B βb hb wb β h w → Meets N pers B βb hb wb Q Q' → c.wp P Q' a w := by
  intro c
  induction c with
  | skip => intro _ Q Q' e h β a w hk hs S hm; exact wp_skip (hm .normal e h β a w hk hs S)
  | ret => intro _ Q Q' e h β a w hk hs S hm; exact wp_ret (hm .ret e h β a w hk hs S)
  | exit id => intro _ Q Q' e h β a w hk hs S hm; exact wp_exit (hm (.exit id) e h β a w hk hs S)
  | region id ops draw =>
    intro hN Q Q' e h β a w hk hs S hm
    have hN' : ∀ d ∈ dsts ops.toList, d < N := fun d hd => by
      simp only [dstsIn, List.all_eq_true, decide_eq_true_eq] at hN
      exact hN d hd
    cases draw with
    | false =>
      simp only [compileCode, Bool.false_eq_true, if_false] at hk
      split at hk
      · rename_i al hal
        refine wp_region_list (aops_sound hP ops.toList al e h β a w hal hN' hk hs.env hs.rel hs.defers ?_)
        intro e' h' β' a' w' q1 q2 q3 q4 q5 q6
        exact hm .normal _ h' β' a' w' q1 (close_st hN' hs.dom q2 q3 q4 q5) (S.trans q6)
      · exact hk.elim
    | true =>
      simp only [compileCode, if_true] at hk
      split at hk
      · rename_i al hal
        refine hD N pers B id ops al _ Q' e h β a w hal hN' hk hs ?_
        intro e' h' β' a' w' q1 q2 q3 q4 q5 q6
        exact hm .normal _ h' β' a' w' q1 (close_st hN' hs.dom q2 q3 q4 q5) (S.trans q6)
      · exact hk.elim
  | seq x y ihx ihy =>
    intro hN Q Q' e h β a w hk hs S hm
    simp only [dstsIn, Bool.and_eq_true] at hN
    refine wp_seq (ihx hN.1 _ _ e h β a w hk hs S ?_)
    intro ex e' h' β' a' w' hq hs' S'
    cases ex with
    | normal => exact ihy hN.2 Q Q' e' h' β' a' w' hq hs' S' hm
    | exit id => exact hm (.exit id) e' h' β' a' w' hq hs' S'
    | ret => exact hm .ret e' h' β' a' w' hq hs' S'
  | cond c x y ihx ihy =>
    intro hN Q Q' e h β a w hk hs S hm
    simp only [dstsIn, Bool.and_eq_true] at hN
    simp only [compileCode] at hk
    split at hk
    · rename_i c' hc
      simp only [awp] at hk
      split at hk
      · rename_i t ht
        have e1 : a.eval c = .bool t := opd_evs hs.env hc ht
        refine wp_cond e1 ?_
        cases t
        · exact ihy hN.2 Q Q' e h β a w (hk.2 rfl) hs S hm
        · exact ihx hN.1 Q Q' e h β a w (hk.1 rfl) hs S hm
      · exact hk.elim
    · exact hk.elim
  | block id x ih =>
    intro hN Q Q' e h β a w hk hs S hm
    refine wp_block (ih hN _ _ e h β a w hk hs S ?_)
    intro ex e' h' β' a' w' hq hs' S'
    cases ex with
    | normal => exact hm .normal e' h' β' a' w' hq hs' S'
    | exit i =>
      simp only [exitOf, Exit.inBlock]
      by_cases hi : i = id
      · simp only [hi, if_true] at hq ⊢
        exact hm .normal e' h' β' a' w' hq hs' S'
      · simp only [hi, if_false] at hq ⊢
        exact hm (.exit i) e' h' β' a' w' hq hs' S'
    | ret => exact hm .ret e' h' β' a' w' hq hs' S'
  | loop x ih =>
    intro hN Q Q' e h β a w hk hs S hm
    simp only [compileCode, awp] at hk
    obtain ⟨Inv, n, ⟨e0, h0', hf0, h0⟩, hr⟩ := hk
    obtain ⟨β0, r1, r2, r3⟩ := Rel.fgtE Rb hs.rel S hs.env hf0
    have hs0 : St N pers B β0 e0 h0' a w := ⟨r1, r2, fun t v ht => (by obtain ⟨ρ, _, _, f3, _⟩ := hf0; exact hs.dom t _ (f3 t v ht)), hs.defers⟩
    refine wp_loop_ghost (fun n a' w' => ∃ e' h' β', Inv n e' h' ∧ St N pers B β' e' h' a' w' ∧ Step B βb hb wb β' h' w') n ⟨e0, h0', β0, h0, hs0, r3⟩ ?_
    rintro n a' w' ⟨e', h', β', hi, hs', S'⟩
    refine ih hN _ _ e' h' β' a' w' (hr n e' h' hi hs'.rel.wfh) hs' S' ?_
    intro ex e'' h'' β'' a'' w'' hq hs'' S''
    cases ex with
    | normal =>
      obtain ⟨m, hm1, e3, h3, hf, hm2⟩ := hq
      obtain ⟨β3, g1, g2, g3⟩ := Rel.fgtE Rb hs''.rel S'' hs''.env hf
      refine ⟨m, hm1, e3, h3, β3, hm2, ⟨g1, g2, fun t v ht => ?_, hs''.defers⟩, g3⟩
      obtain ⟨ρ, _, _, f3, _⟩ := hf
      exact hs''.dom t _ (f3 t v ht)
    | exit i => exact hm (.exit i) e'' h'' β'' a'' w'' hq hs'' S''
    | ret => exact hm .ret e'' h'' β'' a'' w'' hq hs'' S''
  | rangeFunc => intro _ Q Q' e h β a w hk; exact hk.elim
  | scope => intro _ Q Q' e h β a w hk; exact hk.elim
  | label => intro _ Q Q' e h β a w hk; exact hk.elim
  | goto => intro _ Q Q' e h β a w hk; exact hk.elim
  | refuse => intro _ Q Q' e h β a w hk; exact hk.elim

end
end Go.Abs

/- A function's body gives its triple; behind a call objects may be forgotten and new ones named anew. -/
namespace Go.Abs
open Go.RowKit
set_option linter.unusedSimpArgs false

/-! ### Results -/

section
variable {P : Program} {w : World} {β : Names} {B : Nat} {h h' : Heap} {N : Nat} {e : Env} {a : Act} {v : AV} {pers : List Nat}

theorem run_results (he : EnvRel N β e a.tmps) (R : Rel B β h w.heap) : ∀ {rs : List ResultVar} {ars : List ARes} {l : List (Sc ⊕ List Sc)}, compileRes P rs = some ars → resOf e h ars = some l →
    ∃ us : List Value, (rs.mapM (m := Sem) fun | .tmp t => pure (a.tmps.getD t undef) | .cell p t => do loadVar t (← asAddr (a.tmps.getD p undef))).run P w = .ok us w ∧ All2 (PartRel β) l us
  | [], ars, l, hc, hl => by
    cases hc
    cases hl
    exact ⟨[], by simp, trivial⟩
  | .tmp t :: rs, ars, l, hc, hl => by
    simp only [compileRes, Option.map_eq_some_iff] at hc
    obtain ⟨ars', hc, rfl⟩ := hc
    simp only [resOf] at hl
    split at hl
    · rename_i s l' h1 h2
      cases hl
      obtain ⟨us, g1, g2⟩ := run_results he R hc h2
      obtain ⟨c, q1, q2⟩ := he.rel t _ h1
      refine ⟨c :: us, ?_, q2, g2⟩
      have : a.tmps.getD t undef = c := by simp [Array.getD_eq_getD_getElem?, q1]
      simp only [List.mapM_cons, Sem.run_bind, Sem.run_pure, Result.andThen_ok, this, g1]
    · rename_i cs l' h1 h2
      cases hl
      obtain ⟨us, g1, g2⟩ := run_results he R hc h2
      obtain ⟨c, q1, q2⟩ := he.rel t _ h1
      refine ⟨c :: us, ?_, q2, g2⟩
      have : a.tmps.getD t undef = c := by simp [Array.getD_eq_getD_getElem?, q1]
      simp only [List.mapM_cons, Sem.run_bind, Sem.run_pure, Result.andThen_ok, this, g1]
    · cases hl
  | .cell p ty :: rs, ars, l, hc, hl => by
    simp only [compileRes] at hc
    split at hc
    · rename_i n ars' hn hc'
      cases hc
      simp only [resOf] at hl
      split at hl
      · rename_i k off l' h1 h2
        obtain ⟨us, g1, g2⟩ := run_results he R hc' h2
        obtain ⟨c, q1, q2⟩ := he.rel p _ h1
        have hg : a.tmps.getD p undef = c := by simp [Array.getD_eq_getD_getElem?, q1]
        have hc2 : ScRel β (.ptr k off) c := q2
        have hlo : ∀ {u : Value}, (Instr.loadAt ty c).run P w = .ok u w → ((do loadVar ty (← asAddr c) : Sem Value)).run P w = .ok u w := by
          intro u hu
          obtain ⟨b, o, m, _, rfl⟩ := hc2
          simpa [Instr.loadAt, Instr.sureAddr, asAddr] using hu
        split at hl
        · split at hl
          · rename_i vs h3
            split at hl
            · rename_i s h4
              cases hl
              obtain ⟨u, p1, p2⟩ := run_load_scalar (P := P) R hn h3 h4 hc2
              refine ⟨u :: us, ?_, p2, g2⟩
              have hlu := hlo p1
              simp only [List.mapM_cons, Sem.run_bind, Sem.run_pure, Result.andThen_ok, hg] at hlu ⊢
              rw [hlu]
              simp only [Result.andThen_ok, g1]
            · cases hl
          · cases hl
        · split at hl
          · rename_i cs h3
            cases hl
            obtain ⟨u, p1, p2⟩ := run_load_agg (P := P) R hn h3 hc2
            refine ⟨u :: us, ?_, p2, g2⟩
            have hlu := hlo p1
            simp only [List.mapM_cons, Sem.run_bind, Sem.run_pure, Result.andThen_ok, hg] at hlu ⊢
            rw [hlu]
            simp only [Result.andThen_ok, g1]
          · cases hl
      · cases hl
    · cases hc

theorem results_rel (he : EnvRel N β e a.tmps) (R : Rel B β h w.heap) {fn : Func} {ars : List ARes} {l : List (Sc ⊕ List Sc)} (hc : compileRes P fn.results.toList = some ars) (hl : resOf e h ars = some l) :
    ∃ c, (results fn a.tmps).run P w = .ok c w ∧ VRel β (resVal l) c := by
  obtain ⟨us, g1, g2⟩ := run_results he R hc hl
  have hrun : (fn.results.mapM (m := Sem) fun | .tmp t => pure (a.tmps.getD t undef) | .cell p t => do loadVar t (← asAddr (a.tmps.getD p undef))).run P w = .ok us.toArray w := by
    rw [Array.mapM_eq_mapM_toList, Sem.run_map, g1]
    rfl
  have hres : (results fn a.tmps).run P w = .ok (if h : us.toArray.size = 1 then us.toArray[0] else .tuple us.toArray) w := by
    unfold results
    rw [Sem.run_bind]
    exact congrArg (fun r : Result (Array Value) => r.andThen fun vs w' => (pure (if h : vs.size = 1 then vs[0] else .tuple vs) : Sem Value).run P w') hrun
  clear hrun g1
  clear hl
  match l, us, g2, hres with
  | [], [], _, hres => exact ⟨.tuple #[], by simpa using hres, ⟨#[], rfl, trivial⟩⟩
  | [.inl s], [u], h, hres => exact ⟨u, by simpa using hres, h.1⟩
  | [.inr cs], [u], h, hres => exact ⟨u, by simpa using hres, h.1⟩
  | x :: y :: l', u :: u' :: us', h, hres =>
    refine ⟨.tuple (u :: u' :: us').toArray, by simpa using hres, ?_⟩
    have : resVal (x :: y :: l') = .tup (x :: y :: l') := by cases x <;> rfl
    rw [this]
    exact ⟨_, rfl, h⟩
  | [], _ :: _, h, _ => exact h.elim
  | _ :: _, [], h, _ => exact h.elim
  | [_], _ :: _ :: _, h, _ => exact h.2.elim
  | _ :: _ :: _, [_], h, _ => exact h.2.elim

/-! ### A function -/

theorem initEnv_get : ∀ (args : List AV) (i t : Nat), Env.get ((args.zipIdx i).map fun p => (p.2, p.1)) t = if i ≤ t then args[t - i]? else none
  | [], i, t => by simp [Env.get]
  | x :: args, i, t => by
    simp only [List.zipIdx_cons, List.map_cons, Env.get, beq_ite, initEnv_get args]
    by_cases h1 : t = i
    · subst h1; simp
    · rw [if_neg h1]
      by_cases h2 : i + 1 ≤ t
      · rw [if_pos h2, if_pos (by omega)]
        rw [show t - i = (t - (i + 1)) + 1 by omega]
        simp
      · rw [if_neg h2, if_neg (by omega)]

/-- What is asked at a function's end. -/
def RetQ (af : AFunc) (h0 : Heap) (Q : AV → Heap → Prop) : AExit → Env → Heap → Prop
  | .exit _, _, _ => False
  | _, e, h1 => ∃ l, resOf e h1 af.results = some l ∧ ∃ v h, Fgt h0 (resVal l) h1 v h ∧ Q v h

theorem ret_case {af : AFunc} {h0 : Heap} {Q : AV → Heap → Prop} {x : AExit} {e : Env} {h1 : Heap} (hq : RetQ af h0 Q x e h1) : (exitOf x = .normal ∨ exitOf x = .ret) ∧ ∃ l, resOf e h1 af.results = some l ∧ ∃ v h, Fgt h0 (resVal l) h1 v h ∧ Q v h := by
  cases x with
  | normal => exact ⟨.inl rfl, hq⟩
  | ret => exact ⟨.inr rfl, hq⟩
  | exit i => exact hq.elim

theorem Tri.of_body (hP : ProgOk P) (hD : DrawSound P) {f : FuncId} {fn : Func} {af : AFunc} (hf : P.funcs[f]? = some fn) (hok : okCallee P f = true) (hc : compileFunc P fn = some af) {args : List AV} {h : Heap} {Q : AV → Heap → Prop} (hn : args.length = af.nparams)
    (hk : WF h → (∀ v ∈ args, AV.below h.next v) → awp (Tri P) h af.body (RetQ af h Q) (initEnv args) h) : Tri P f args h Q := by
  refine ⟨hok, fun B β w cargs R ha => ?_⟩
  unfold compileFunc at hc
  split at hc
  · rename_i c ars hb hrs
    dsimp only at hc
    split at hc
    · rename_i hchk
      simp only [Bool.and_eq_true, decide_eq_true_eq] at hchk
      cases hc
      refine calls_of_wp hf hb ?_
      have hlen := forall₂_length ha
      simp only [Array.length_toList] at hlen
      have hnp : cargs.size = fn.params.size + fn.nfree := by rw [← hlen]; exact hn
      refine awp_sound hP hD R c hchk.1.1 _ _ (initEnv args) h β _ w (hk R.wfh fun v hv => let ⟨_, hc⟩ := all2_mem ha v hv; av_below R.names hc) ⟨⟨by simp; omega, fun t u ht => ?_⟩, R, fun t u ht => ?_, rfl⟩ (Step.refl _ _ _ _) ?_
      · unfold initEnv at ht
        rw [initEnv_get] at ht
        simp only [Nat.zero_le, if_true, Nat.sub_zero] at ht
        obtain ⟨c', h1, h2⟩ := forall₂_get ha t u ht
        refine ⟨c', ?_, h2⟩
        have hlt : t < cargs.size := by
          have := (List.getElem?_eq_some_iff.1 h1).1; simpa using this
        rw [Array.getElem?_append_left hlt]
        simpa using h1
      · unfold initEnv at ht
        rw [initEnv_get] at ht
        simp only [Nat.zero_le, if_true, Nat.sub_zero] at ht
        have hlt : t < args.length := (List.getElem?_eq_some_iff.1 ht).1
        have := List.all_eq_true.1 hchk.1.2 t (by simp; omega)
        simpa using this
      · intro x e' h1 β1 a' w' hq hs S
        obtain ⟨hx, l, hl, v, h2, hfg, hQ⟩ := ret_case hq
        obtain ⟨cv, hr, hv⟩ := results_rel (P := P) hs.env hs.rel hrs hl
        obtain ⟨β', g1, g2, g3⟩ := Rel.fgt R hs.rel S hv hfg
        have hpost : Post B β h w Q (.returned cv) w' := ⟨cv, v, h2, β', rfl, hQ, g1, g2, g3⟩
        rcases hx with hx | hx <;> rw [hx] <;> exact ⟨hs.defers, cv, hr, hpost⟩
    · cases hc
  · cases hc

end
end Go.Abs

/- Regions that draw their order: one canonical order, in which what was read is read again behind each effect that may come ahead of it, serves every order. -/
namespace Go.Abs
open Go.RowKit
set_option linter.unusedSimpArgs false

theorem kind0_heap {o : AOp} {e : Env} {h h' : Heap} {v : AV} (hk : kindOf o = 0) (ha : aop o e h = some (v, h')) : h' = h := by
  cases o <;> simp only [kindOf] at hk <;> first | (cases hk; done) | skip
  all_goals
    simp only [aop] at ha
    repeat' (split at ha)
    all_goals first
      | (cases ha; rfl)
      | (cases ha; done)
      | (simp only [Option.map_eq_some_iff, Prod.mk.injEq] at ha; obtain ⟨_, _, _, rfl⟩ := ha; rfl)

theorem kindG_le {o : AOper} : kindG o = 0 → kindOf o.op = 0 := by
  unfold kindG
  split
  · split <;> intro h <;> cases h
  · exact id

theorem kindG_two {o : AOper} (h : kindG o = 2) : o.guard = none ∧ ∃ z, o.op = .alloc z := by
  unfold kindG at h
  split at h
  · rename_i hk
    split at h
    · rename_i hg
      refine ⟨by simpa using hg, ?_⟩
      cases ho : o.op <;> rw [ho] at hk <;> simp only [kindOf] at hk <;> first | (cases hk; done) | skip
      exact ⟨_, rfl⟩
    · cases h
  · rename_i hk; exact absurd h hk

section
variable {P : Program} {ops : Array Oper}

theorem compileOpers_get : ∀ {l : List Oper} {al : List AOper} (i : Nat) {x : AOper}, compileOpers P ops l = some al → al[i]? = some x → ∃ o, l[i]? = some o ∧ compileOper P ops o = some x
  | [], al, i, x, h, hx => by cases h; simp at hx
  | o :: l, al, i, x, h, hx => by
    simp only [compileOpers] at h
    split at h
    · rename_i y al' h1 h2
      cases h
      cases i with
      | zero => simp at hx; subst hx; exact ⟨o, rfl, h1⟩
      | succ i => simp at hx; obtain ⟨o', g1, g2⟩ := compileOpers_get i h2 hx; exact ⟨o', by simpa using g1, g2⟩
    · cases h

/-- An item is an operation of the region. -/
def ItemOk (P : Program) (ops : Array Oper) (x : DOper) : Prop := (∃ o, ops[x.id]? = some o ∧ compileOper P ops o = some x.op) ∧ x.kind = kindG x.op

theorem compileD_items {l : List DOper} (hc : compileD P ops = some l) : (∀ x ∈ l, ItemOk P ops x) ∧ checkD ops l = true := by
  unfold compileD at hc
  split at hc
  · rename_i al hal
    dsimp only at hc
    split at hc
    · rename_i hchk
      cases hc
      refine ⟨fun x hx => ?_, hchk⟩
      rw [List.mem_filterMap] at hx
      obtain ⟨i, _, hi⟩ := hx
      simp only [Option.map_eq_some_iff] at hi
      obtain ⟨o, h1, rfl⟩ := hi
      obtain ⟨o', g1, g2⟩ := compileOpers_get i hal h1
      refine ⟨⟨o', by simpa using g1, g2⟩, ?_⟩
      simp [List.getD, List.getElem?_map, h1]
    · cases hc
  · cases hc

theorem pairs_split : ∀ {l1 : List DOper} {x : DOper} {l2 : List DOper}, pairsOk (l1 ++ x :: l2) = true → (∀ y ∈ l2, pairOk x y = true) ∧ (∀ y ∈ l1, pairOk y x = true)
  | [], x, l2, h => by
    simp only [List.nil_append, pairsOk, Bool.and_eq_true, List.all_eq_true] at h
    exact ⟨h.1, by simp⟩
  | z :: l1, x, l2, h => by
    simp only [List.cons_append, pairsOk, Bool.and_eq_true, List.all_eq_true] at h
    obtain ⟨h1, h2⟩ := pairs_split h.2
    refine ⟨h1, fun y hy => ?_⟩
    rcases List.mem_cons.1 hy with rfl | hy
    · exact h.1 x (by simp)
    · exact h2 y hy

/-- What pairOk says. -/
theorem pair_spec {x y : DOper} (h : pairOk x y = true) : x.id ≠ y.id ∧ y.id ∉ x.pre ∧ (∀ d, x.op.dst = some d → y.op.dst ≠ some d) ∧
    (x.id ∈ y.pre ∨ ((x.kind = 0 ∨ y.kind = 2) ∧ (∀ d, x.op.dst = some d → d ∉ looksA y.op) ∧ (∀ d, y.op.dst = some d → d ∉ looksA x.op))) := by
  unfold pairOk at h
  simp only [Bool.and_eq_true, bne_iff_ne, ne_eq, Bool.not_eq_true', Bool.or_eq_true, beq_iff_eq] at h
  obtain ⟨⟨⟨h1, h2⟩, h3⟩, h4⟩ := h
  refine ⟨h1, by simpa using h2, fun d hd hy => ?_, ?_⟩
  · rw [hd, hy] at h3; simp at h3
  · rcases h4 with h4 | ⟨⟨h4, h5⟩, h6⟩
    · exact .inl (by simpa using h4)
    · refine .inr ⟨h4, fun d hd => ?_, fun d hd => ?_⟩
      · rw [hd] at h5; simpa using h5
      · rw [hd] at h6; simpa using h6

theorem check_spec {l : List DOper} (h : checkD ops l = true) : (∀ i, i < ops.size → ∃ x ∈ l, x.id = i) ∧ pairsOk l = true ∧
    ∀ x ∈ l, x.id ∉ x.pre ∧ (∀ j ∈ directOf ops x.id, j ∈ x.pre) ∧ (∀ j ∈ x.pre, j < ops.size) ∧ ∀ j ∈ x.pre, j ∈ directOf ops x.id ∨ ∃ k ∈ directOf ops x.id, j ∈ preOf l k := by
  unfold checkD at h
  simp only [Bool.and_eq_true, List.all_eq_true, List.mem_range, List.any_eq_true, beq_iff_eq, Bool.not_eq_true', Bool.or_eq_true, decide_eq_true_eq] at h
  obtain ⟨⟨h1, h2⟩, h3⟩ := h
  refine ⟨h1, h2, fun x hx => ?_⟩
  obtain ⟨⟨⟨g1, g2⟩, g3⟩, g4⟩ := h3 x hx
  refine ⟨by simpa using g1, fun j hj => by simpa using g2 j hj, g3, fun j hj => ?_⟩
  rcases g4 j hj with g | ⟨k, hk, g⟩
  · exact .inl (by simpa using g)
  · exact .inr ⟨k, hk, by simpa using g⟩

end

/-- The environment cut down to some slots. -/
def restr (pe : Env) : List Nat → Env
  | [] => []
  | t :: ts =>
    match pe.get t with
    | some v => (t, v) :: restr pe ts
    | none => restr pe ts

theorem get_restr (pe : Env) : ∀ (l : List Nat) (t : Nat), (restr pe l).get t = if t ∈ l then pe.get t else none
  | [], t => by simp [restr, Env.get]
  | s :: l, t => by
    simp only [restr]
    cases hs : pe.get s with
    | some v =>
      simp only [Env.get, beq_ite, get_restr pe l, List.mem_cons]
      by_cases h1 : t = s
      · subst h1; simp [hs]
      · simp [h1]
    | none =>
      simp only [get_restr pe l, List.mem_cons]
      by_cases h1 : t = s
      · subst h1; simp [hs]
      · simp [h1]

def TmpRel (β : Names) (tmps : Array Value) (t : Nat) (v : AV) : Prop := ∃ c, tmps[t]? = some c ∧ VRel β v c

/-- The slots that x looks at, as they were when x was taken: an earlier one's that x waits for; else as at the region's begin, and who writes them waits for x. -/
def Look (l done : List DOper) (x : DOper) (cur e0 pe : Env) : Prop :=
  ∀ t ∈ looksA x.op, (∃ y ∈ done, y.op.dst = some t ∧ y.id ∈ x.pre ∧ pe.get t = cur.get t) ∨ ((∀ y ∈ l, y.op.dst = some t → y.id = x.id ∨ x.id ∈ y.pre) ∧ pe.get t = e0.get t)

def DstIs (x : DOper) (cur : Env) (v : AV) : Prop := ∀ d, x.op.dst = some d → cur.get d = some v

def PendVal (ps : List Pend) (x : DOper) (pe cur : Env) (h : Heap) : Prop :=
  (wantedA x.op.guard pe = some false ∧ DstIs x cur (.tup [])) ∨
  (wantedA x.op.guard pe = some true ∧ ∃ v, ⟨x.id, x.op.op, pe, v⟩ ∈ ps ∧ (aop x.op.op pe h).map (·.1) = some v ∧ DstIs x cur v)

/-- A zero variable that was laid ahead of its turn. -/
def PreOk (n0 : Nat) (β : Names) (h : Heap) (a : Act) (w : World) (x : DOper) (b : Nat) : Prop :=
  ∃ z zc el, x.op.op = .alloc z ∧ x.op.guard = none ∧ (∀ d, x.op.dst = some d → a.tmps[d]? = some (.pointer (some ⟨b, 0, none⟩))) ∧ w.heap[b]? = some (.cells zc el (0, 0)) ∧ (∀ β, CellsRel β z zc.toList) ∧ n0 ≤ b ∧ ¬ Owned β h b

structure DI (P : Program) (N B : Nat) (ops : Array Oper) (l : List DOper) (K : Env → Heap → Prop) (e0 : Env) (β0 : Names) (h0 : Heap) (w0 : World)
    (listed : Array Bool) (done rest : List DOper) (ps : List Pend) (cur : Env) (h : Heap) (β : Names) (a : Act) (w : World) : Prop where
  spl : l = done ++ rest
  run : aopsD (Tri P) rest ps K cur h
  rel : Rel B β h w.heap
  size : a.tmps.size = N
  defers : a.defers = []
  lsize : listed.size = ops.size
  closed : ∀ x ∈ l, listed.getD x.id false = true → ∀ j ∈ x.pre, listed.getD j false = true
  doneEff : ∀ x ∈ done, x.kind ≠ 0 → listed.getD x.id false = true
  restPre : ∀ x ∈ rest, listed.getD x.id false = true → x.kind = 2
  pend : ∀ x ∈ done, ¬ listed.getD x.id false = true → ∃ pe, Look l done x cur e0 pe ∧ PendVal ps x pe cur h
  slotL : ∀ t v, (∃ y ∈ done, y.op.dst = some t ∧ listed.getD y.id false = true) → cur.get t = some v → TmpRel β a.tmps t v
  slotU : ∀ t v, (∀ y ∈ l, y.op.dst = some t → ¬ listed.getD y.id false = true) → e0.get t = some v → TmpRel β a.tmps t v
  curE : ∀ t, (∀ y ∈ done, y.op.dst ≠ some t) → cur.get t = e0.get t
  pre : ∃ blk : Nat → Nat, (∀ x ∈ rest, listed.getD x.id false = true → PreOk w0.heap.size β h a w x (blk x.id)) ∧ ∀ x ∈ rest, ∀ y ∈ rest, listed.getD x.id false = true → listed.getD y.id false = true → blk x.id = blk y.id → x.id = y.id
  step : Step B β0 h0 w0 β h w
  base : B ≤ w0.heap.size

/-- What the region's items keep, once and for all. -/
structure Items (P : Program) (N : Nat) (ops : Array Oper) (l : List DOper) : Prop where
  item : ∀ x ∈ l, ItemOk P ops x
  cover : ∀ i, i < ops.size → ∃ x ∈ l, x.id = i
  pairs : pairsOk l = true
  self : ∀ x ∈ l, x.id ∉ x.pre
  direct : ∀ x ∈ l, ∀ j ∈ directOf ops x.id, j ∈ x.pre
  lt : ∀ x ∈ l, ∀ j ∈ x.pre, j < ops.size
  clos : ∀ x ∈ l, ∀ j ∈ x.pre, j ∈ directOf ops x.id ∨ ∃ k ∈ directOf ops x.id, j ∈ preOf l k
  dst : ∀ x ∈ l, ∀ d, x.op.dst = some d → d < N

section
variable {P : Program} {N B : Nat} {ops : Array Oper} {l : List DOper} {K : Env → Heap → Prop} {e0 : Env} {β0 : Names} {h0 : Heap} {w0 : World}
  {listed : Array Bool} {done rest : List DOper} {ps : List Pend} {cur : Env} {h : Heap} {β : Names} {a : Act} {w : World}

/-- An item at the head of the rest sees what it looks at. -/
theorem look_head (I : Items P N ops l) {x : DOper} (hspl : l = done ++ x :: rest) (curE : ∀ t, (∀ y ∈ done, y.op.dst ≠ some t) → cur.get t = e0.get t) : Look l done x cur e0 cur := by
  obtain ⟨hr, hd⟩ := pairs_split (hspl ▸ I.pairs)
  intro t ht
  by_cases hw : ∃ y ∈ done, y.op.dst = some t
  · obtain ⟨y, hy, hyt⟩ := hw
    obtain ⟨_, _, _, h4⟩ := pair_spec (hd y hy)
    rcases h4 with h4 | ⟨_, h5, _⟩
    · exact .inl ⟨y, hy, hyt, h4, rfl⟩
    · exact absurd ht (h5 t hyt)
  · refine .inr ⟨fun y hy hyt => ?_, curE t fun y hy hyt => hw ⟨y, hy, hyt⟩⟩
    rw [hspl] at hy
    rcases List.mem_append.1 hy with hy | hy
    · exact absurd ⟨y, hy, hyt⟩ hw
    · rcases List.mem_cons.1 hy with rfl | hy
      · exact .inl rfl
      · obtain ⟨_, _, _, h4⟩ := pair_spec (hr y hy)
        rcases h4 with h4 | ⟨_, _, h6⟩
        · exact .inr h4
        · exact absurd ht (h6 t hyt)

/-- Who is ready has all listed that it waits for. -/
theorem ready_pre (I : Items P N ops l) (D : DI P N B ops l K e0 β0 h0 w0 listed done rest ps cur h β a w) {i : Nat} (hi : i ∈ Region.ready .any ops listed) :
    ∃ x ∈ l, x.id = i ∧ ¬ listed.getD x.id false = true ∧ ∀ j ∈ x.pre, listed.getD j false = true := by
  rw [mem_ready] at hi
  obtain ⟨h0, o, ho, hall⟩ := hi
  have hlt : i < ops.size := (Array.getElem?_eq_some_iff.1 ho).1
  obtain ⟨x, hx, rfl⟩ := I.cover i hlt
  have hdir : ∀ j ∈ directOf ops x.id, listed.getD j false = true := by
    intro j hj
    unfold directOf at hj
    rw [ho] at hj
    simp only [preds, List.mem_map, List.mem_filter, Array.mem_toList_iff] at hj
    obtain ⟨e, ⟨h1, h2⟩, rfl⟩ := hj
    exact hall e h1 h2
  refine ⟨x, hx, rfl, fun h => ?_, fun j hj => ?_⟩
  · have hl : x.id < listed.size := by rw [D.lsize]; exact hlt
    simp only [Array.getD_eq_getD_getElem?, Array.getElem?_eq_getElem hl, Option.getD_some] at h h0
    rw [h] at h0; cases h0
  · rcases I.clos x hx j hj with h | ⟨k, hk, h⟩
    · exact hdir j h
    · unfold preOf at h
      split at h
      · rename_i y hy
        have hyl := List.mem_of_find?_eq_some hy
        have hyk : y.id = k := by have := List.find?_some hy; simpa using this
        exact D.closed y hyl (by rw [hyk]; exact hdir k hk) j h
      · cases h

/-- The cut-down environment of an item that is carried out now. -/
theorem look_env (D : DI P N B ops l K e0 β0 h0 w0 listed done rest ps cur h β a w) {x : DOper} {pe : Env} (hlook : Look l done x cur e0 pe) (hun : ¬ listed.getD x.id false = true) (hpre : ∀ j ∈ x.pre, listed.getD j false = true) :
    EnvRel N β (restr pe (looksA x.op)) a.tmps := by
  refine ⟨D.size, fun t v ht => ?_⟩
  rw [get_restr] at ht
  split at ht
  · rename_i hm
    rcases hlook t hm with ⟨y, hy, hyt, hyp, hpe⟩ | ⟨hall, hpe⟩
    · exact D.slotL t v ⟨y, hy, hyt, hpre _ hyp⟩ (by rw [← hpe]; exact ht)
    · refine D.slotU t v (fun y hy hyt hl => ?_) (by rw [← hpe]; exact ht)
      rcases hall y hy hyt with h1 | h1
      · rw [h1] at hl; exact hun hl
      · exact hun (D.closed y hy hl _ h1)
  · cases ht

theorem look_op {x : DOper} {pe : Env} : (∀ t ∈ x.op.op.tmps, pe.get t = (restr pe (looksA x.op)).get t) ∧ wantedA x.op.guard (restr pe (looksA x.op)) = wantedA x.op.guard pe := by
  refine ⟨fun t ht => ?_, ?_⟩
  · rw [get_restr, if_pos]
    exact List.mem_append.2 (.inl ht)
  · unfold wantedA
    split
    · rfl
    · rename_i t want hg
      rw [get_restr, if_pos]
      exact List.mem_append.2 (.inr (by rw [hg]; simp))

end
end Go.Abs

/- Regions that draw their order: the proof that the canonical order serves every order. -/
namespace Go.Abs
open Go.RowKit
set_option linter.unusedSimpArgs false

section
variable {P : Program} {N B : Nat} {ops : Array Oper} {l : List DOper} {K : Env → Heap → Prop} {e0 : Env} {β0 : Names} {h0 : Heap} {w0 : World}
  {listed : Array Bool} {done rest : List DOper} {ps : List Pend} {cur : Env} {h : Heap} {β : Names} {a : Act} {w : World}

theorem TmpRel.mono {β' : Names} {tmps : Array Value} {t : Nat} {v : AV} (hb : β.le β') (ht : TmpRel β tmps t v) : TmpRel β' tmps t v :=
  let ⟨c, h1, h2⟩ := ht; ⟨c, h1, VRel.mono hb h2⟩

theorem TmpRel.put {d : Option Nat} {c : Value} {t : Nat} {v : AV} (hd : d ≠ some t) (ht : TmpRel β a.tmps t v) : TmpRel β (a.put d c).tmps t v := by
  obtain ⟨u, h1, h2⟩ := ht
  refine ⟨u, ?_, h2⟩
  cases d with
  | none => exact h1
  | some d =>
    simp only [Act.put]
    rw [Array.getElem?_setIfInBounds_ne (fun h => hd (by rw [h]))]
    exact h1

theorem TmpRel.own {d : Nat} {c : Value} {v : AV} (hd : d < a.tmps.size) (hv : VRel β v c) : TmpRel β (a.put (some d) c).tmps d v :=
  ⟨c, by simp only [Act.put]; rw [Array.getElem?_setIfInBounds_self_of_lt hd], hv⟩

theorem put_size {d : Option Nat} {c : Value} : (a.put d c).tmps.size = a.tmps.size := by
  cases d <;> simp [Act.put]

theorem Items.dst_ne (I : Items P N ops l) {x y : DOper} (hx : x ∈ l) (hy : y ∈ l) (hne : x.id ≠ y.id) {d : Nat} (hd : x.op.dst = some d) : y.op.dst ≠ some d := by
  obtain ⟨l1, l2, rfl⟩ := List.append_of_mem hx
  obtain ⟨h1, h2⟩ := pairs_split I.pairs
  rcases List.mem_append.1 hy with hy | hy
  · intro hyd
    exact (pair_spec (h2 y hy)).2.2.1 d hyd hd
  · rcases List.mem_cons.1 hy with rfl | hy
    · exact absurd rfl hne
    · exact (pair_spec (h1 y hy)).2.2.1 d hd

theorem Items.id_inj (I : Items P N ops l) {x y : DOper} (hx : x ∈ l) (hy : y ∈ l) (he : x.id = y.id) : x = y := by
  obtain ⟨l1, l2, rfl⟩ := List.append_of_mem hx
  obtain ⟨h1, h2⟩ := pairs_split I.pairs
  rcases List.mem_append.1 hy with hy | hy
  · exact absurd he.symm (pair_spec (h2 y hy)).1
  · rcases List.mem_cons.1 hy with rfl | hy
    · rfl
    · exact absurd he (pair_spec (h1 y hy)).1

/-- An item taken apart from those taken ahead of it. -/
theorem Items.fresh (I : Items P N ops l) {x : DOper} {rest : List DOper} (hspl : l = done ++ x :: rest) {y : DOper} (hy : y ∈ done) : y.id ≠ x.id := by
  obtain ⟨h1, h2⟩ := pairs_split (hspl ▸ I.pairs)
  exact (pair_spec (h2 y hy)).1

theorem Look.mono {x : DOper} {pe cur' : Env} {done' : List DOper} (hl : Look l done x cur e0 pe) (hs : ∀ y ∈ done, y ∈ done') (hc : ∀ y ∈ done, ∀ t, y.op.dst = some t → cur'.get t = cur.get t) : Look l done' x cur' e0 pe := by
  intro t ht
  rcases hl t ht with ⟨y, h1, h2, h3, h4⟩ | h
  · exact .inl ⟨y, hs y h1, h2, h3, by rw [h4, hc y h1 t h2]⟩
  · exact .inr h

/-- A listed flag is set. -/
theorem listed_set {i j : Nat} (hi : i < listed.size) : (listed.setIfInBounds i true).getD j false = true ↔ j = i ∨ listed.getD j false = true := by
  simp only [Array.getD_eq_getD_getElem?]
  by_cases hj : j = i
  · subst hj
    rw [Array.getElem?_setIfInBounds_self_of_lt hi]
    simp
  · rw [Array.getElem?_setIfInBounds_ne (Ne.symm hj)]
    simp [hj]

theorem PreOk.step {n0 : Nat} {β' : Names} {h' : Heap} {w' : World} {x : DOper} {b : Nat} (hp : PreOk n0 β h a w x b) (S : Step B β h w β' h' w') : PreOk n0 β' h' a w' x b := by
  obtain ⟨z, zc, el, h1, h2, h3, h4, h5, h6, h7⟩ := hp
  have hlt : b < w.heap.size := (Array.getElem?_eq_some_iff.1 h4).1
  refine ⟨z, zc, el, h1, h2, h3, by rw [S.frame b hlt h7]; exact h4, h5, h6, fun ho => ?_⟩
  rcases S.own b ho with h | h
  · exact h7 h
  · omega

theorem PreOk.put {n0 : Nat} {x : DOper} {b : Nat} {d : Option Nat} {c : Value} (hp : PreOk n0 β h a w x b) (hd : ∀ t, x.op.dst = some t → d ≠ some t) : PreOk n0 β h (a.put d c) w x b := by
  obtain ⟨z, zc, el, h1, h2, h3, h4⟩ := hp
  refine ⟨z, zc, el, h1, h2, fun t ht => ?_, h4⟩
  cases d with
  | none => exact h3 t ht
  | some d =>
    simp only [Act.put]
    rw [Array.getElem?_setIfInBounds_ne (fun h => hd t ht (by rw [h]))]
    exact h3 t ht

/-- What is left when no operation is ready. -/
theorem all_listed (I : Items P N ops l) (hsz : listed.size = ops.size) (hr : Region.ready .any ops listed = []) : ∀ (l2 l1 : List DOper), l = l1 ++ l2 → (∀ x ∈ l1, listed.getD x.id false = true) → ∀ x ∈ l2, listed.getD x.id false = true
  | [], _, _, _, x, hx => by cases hx
  | y :: l2, l1, hl, h1, x, hx => by
    have hy : listed.getD y.id false = true := by
      cases hb : listed.getD y.id false with
      | true => rfl
      | false =>
        exfalso
        have hyl : y ∈ l := by rw [hl]; simp
        obtain ⟨⟨o, ho, _⟩, _⟩ := I.item y hyl
        have hlt : y.id < ops.size := (Array.getElem?_eq_some_iff.1 ho).1
        have hm : y.id ∈ Region.ready .any ops listed := by
          rw [mem_ready]
          have hlt' : y.id < listed.size := by omega
          refine ⟨?_, o, ho, fun e he hbd => ?_⟩
          · rw [Array.getD_eq_getD_getElem?, Array.getElem?_eq_getElem hlt'] at hb ⊢
            exact hb
          · have hd : e.on ∈ directOf ops y.id := by
              unfold directOf
              rw [ho]
              simp only [preds, List.mem_map, List.mem_filter, Array.mem_toList_iff]
              exact ⟨e, ⟨he, hbd⟩, rfl⟩
            have hp := I.direct y hyl _ hd
            obtain ⟨z, hz, hzi⟩ := I.cover _ (I.lt y hyl _ hp)
            rw [← hzi]
            rw [hl] at hz
            rcases List.mem_append.1 hz with hz | hz
            · exact h1 z hz
            · rcases List.mem_cons.1 hz with rfl | hz
              · exact absurd (hzi ▸ hp) (I.self z hyl)
              · exact absurd (hzi ▸ hp) (pair_spec ((pairs_split (hl ▸ I.pairs)).1 z hz)).2.1
        rw [hr] at hm; cases hm
    rcases List.mem_cons.1 hx with rfl | hx
    · exact hy
    · refine all_listed I hsz hr l2 (l1 ++ [y]) (by rw [hl]; simp) (fun z hz => ?_) x hx
      rcases List.mem_append.1 hz with hz | hz
      · exact h1 z hz
      · rw [List.mem_singleton] at hz; rw [hz]; exact hy

theorem head_mem {x : DOper} (hspl : l = done ++ x :: rest) : x ∈ l := by rw [hspl]; simp
theorem done_mem {x : DOper} (hspl : l = done ++ rest) (hx : x ∈ done) : x ∈ l := by rw [hspl]; simp [hx]
theorem rest_mem {x : DOper} (hspl : l = done ++ rest) (hx : x ∈ rest) : x ∈ l := by rw [hspl]; simp [hx]

/-- The head, not listed, without an effect, is taken into the canonical state. -/
theorem take0 (I : Items P N ops l) {x : DOper} (D : DI P N B ops l K e0 β0 h0 w0 listed done (x :: rest) ps cur h β a w) (hun : ¬ listed.getD x.id false = true)
    (v : AV) (ps' : List Pend) (hrun : aopsD (Tri P) rest ps' K (bindD x.op.dst v cur) h) (hps : ∀ p ∈ ps, p ∈ ps')
    (hval : (wantedA x.op.guard cur = some false ∧ v = .tup []) ∨ (wantedA x.op.guard cur = some true ∧ ⟨x.id, x.op.op, cur, v⟩ ∈ ps' ∧ (aop x.op.op cur h).map (·.1) = some v)) (hk : x.kind = 0) :
    DI P N B ops l K e0 β0 h0 w0 listed (done ++ [x]) rest ps' (bindD x.op.dst v cur) h β a w := by
  have hxl := head_mem D.spl
  have hne : ∀ y ∈ done, ∀ t, y.op.dst = some t → (bindD x.op.dst v cur).get t = cur.get t := fun y hy t ht =>
    bindD_get (I.dst_ne (done_mem D.spl hy) hxl (I.fresh D.spl hy) ht)
  have hsub : ∀ y ∈ done, y ∈ done ++ [x] := fun y hy => by simp [hy]
  have hown : DstIs x (bindD x.op.dst v cur) v := fun d hd => by simp [hd, bindD, Env.get]
  refine { D with spl := by rw [D.spl]; simp, run := hrun, doneEff := ?_, restPre := fun y hy => D.restPre y (by simp [hy]), pend := ?_, slotL := ?_, curE := ?_, pre := ?_ }
  · intro y hy hyk
    rcases List.mem_append.1 hy with hy | hy
    · exact D.doneEff y hy hyk
    · rw [List.mem_singleton] at hy; subst hy; exact absurd hk hyk
  · intro y hy hyu
    rcases List.mem_append.1 hy with hy | hy
    · obtain ⟨pe, h1, h2⟩ := D.pend y hy hyu
      refine ⟨pe, h1.mono hsub hne, ?_⟩
      rcases h2 with ⟨g1, g2⟩ | ⟨g1, u, g2, g3, g4⟩
      · exact .inl ⟨g1, fun d hd => by rw [hne y hy d hd]; exact g2 d hd⟩
      · exact .inr ⟨g1, u, hps _ g2, g3, fun d hd => by rw [hne y hy d hd]; exact g4 d hd⟩
    · rw [List.mem_singleton] at hy; subst hy
      refine ⟨cur, (look_head I D.spl D.curE).mono hsub hne, ?_⟩
      rcases hval with ⟨g1, rfl⟩ | ⟨g1, g2, g3⟩
      · exact .inl ⟨g1, hown⟩
      · exact .inr ⟨g1, v, g2, g3, hown⟩
  · rintro t u ⟨y, hy, hyt, hyl⟩ hu
    rcases List.mem_append.1 hy with hy | hy
    · exact D.slotL t u ⟨y, hy, hyt, hyl⟩ (by rw [← hne y hy t hyt]; exact hu)
    · rw [List.mem_singleton] at hy; subst hy; exact absurd hyl hun
  · intro t ht
    rw [bindD_get (ht x (by simp))]
    exact D.curE t fun y hy => ht y (hsub y hy)
  · obtain ⟨blk, h1, h2⟩ := D.pre
    exact ⟨blk, fun y hy => h1 y (by simp [hy]), fun y hy z hz => h2 y (by simp [hy]) z (by simp [hz])⟩

/-- The head, laid ahead of its turn, is taken into the canonical state. -/
theorem take2 (I : Items P N ops l) {x : DOper} (D : DI P N B ops l K e0 β0 h0 w0 listed done (x :: rest) ps cur h β a w) (hli : listed.getD x.id false = true) :
    ∃ ps' cur' h' β', DI P N B ops l K e0 β0 h0 w0 listed (done ++ [x]) rest ps' cur' h' β' a w := by
  have hxl := head_mem D.spl
  have hk := D.restPre x (by simp) hli
  obtain ⟨blk, hpre, hinj⟩ := D.pre
  obtain ⟨z, zc, el, hop, hg, htmp, hblk, hz, hn0, hno⟩ := hpre x (by simp) hli
  have hrun := D.run
  simp only [aopsD, hg, wantedA, hk, hop, astep, aop] at hrun
  rw [if_pos (by decide)] at hrun
  obtain ⟨hst, hrun⟩ := hrun
  have hlen : z.length ≤ zc.size := by have := forall₂_length (hz β); simp at this; omega
  have hle : β.le (β.upd h.next (blk x.id, 0, zc.size)) := Names.le_upd D.rel.fresh
  have hB : B ≤ blk x.id := Nat.le_trans D.base hn0
  have hrow : RowRel β z zc 0 := fun i s hs => by obtain ⟨u, h1, h2⟩ := forall₂_get (hz β) i s hs; exact ⟨u, by simpa using h1, h2⟩
  have R : Rel B (β.upd h.next (blk x.id, 0, zc.size)) (h.alloc (.cells z)) w.heap := by
    refine D.rel.new (Nat.le_refl _) (fun k o b' off' n' hk' hb' he => ?_) (fun _ _ _ => rfl) ⟨hB, zc, el, hblk, by omega, hlen, hrow.mono hle⟩
    cases hw : o.owned with
    | true => exact hno ⟨k, o, off', n', hk', hw, by rw [← he]; exact hb'⟩
    | false =>
      obtain ⟨b, off, n, g1, g2⟩ := D.rel.objs k o hk'
      rw [hb'] at g1; cases g1
      have := g2.ro_lt hw
      omega
  have hown' : ∀ b, Owned (β.upd h.next (blk x.id, 0, zc.size)) (h.alloc (.cells z)) b → b = blk x.id ∨ Owned β h b := by
    rintro b ⟨k, o, off, n, g1, g2, g3⟩
    rw [Heap.get_alloc] at g1
    unfold Names.upd at g3
    by_cases hkn : k = h.next
    · rw [if_pos hkn] at g3; cases g3; exact .inl rfl
    · rw [if_neg hkn] at g1 g3; exact .inr ⟨k, o, off, n, g1, g2, g3⟩
  have hne : ∀ y ∈ done, ∀ t, y.op.dst = some t → (bindD x.op.dst (.sc (.ptr h.next 0)) cur).get t = cur.get t := fun y hy t ht =>
    bindD_get (I.dst_ne (done_mem D.spl hy) hxl (I.fresh D.spl hy) ht)
  have hsub : ∀ y ∈ done, y ∈ done ++ [x] := fun y hy => by simp [hy]
  refine ⟨_, _, _, β.upd h.next (blk x.id, 0, zc.size), { D with spl := by rw [D.spl]; simp, run := hrun, rel := R, doneEff := ?_, restPre := fun y hy => D.restPre y (by simp [hy]), pend := ?_, slotL := ?_, slotU := fun t v h1 h2 => (D.slotU t v h1 h2).mono hle, curE := ?_, pre := ?_, step := ?_ }⟩
  · intro y hy hyk
    rcases List.mem_append.1 hy with hy | hy
    · exact D.doneEff y hy hyk
    · rw [List.mem_singleton] at hy; subst hy; exact hli
  · intro y hy hyu
    rcases List.mem_append.1 hy with hy | hy
    · obtain ⟨pe, h1, h2⟩ := D.pend y hy hyu
      refine ⟨pe, h1.mono hsub hne, ?_⟩
      rcases h2 with ⟨g1, g2⟩ | ⟨g1, u, g2, g3, g4⟩
      · exact .inl ⟨g1, fun d hd => by rw [hne y hy d hd]; exact g2 d hd⟩
      · have hmem : (⟨y.id, y.op.op, pe, u⟩ : Pend) ∈ ps.filter fun p => !x.pre.contains p.id := by
          rw [List.mem_filter]
          refine ⟨g2, ?_⟩
          simp only [Bool.not_eq_true', List.contains_eq_mem, decide_eq_false_iff_not]
          exact fun hm => hyu (D.closed x hxl hli _ hm)
        exact .inr ⟨g1, u, hmem, hst _ hmem, fun d hd => by rw [hne y hy d hd]; exact g4 d hd⟩
    · rw [List.mem_singleton] at hy; subst hy; exact absurd hli hyu
  · rintro t u ⟨y, hy, hyt, hyl⟩ hu
    rcases List.mem_append.1 hy with hy | hy
    · exact (D.slotL t u ⟨y, hy, hyt, hyl⟩ (by rw [← hne y hy t hyt]; exact hu)).mono hle
    · rw [List.mem_singleton] at hy; subst hy
      rw [hyt] at hu
      simp only [bindD, Env.get, beq_ite, if_true, Option.some.injEq] at hu
      subst hu
      exact ⟨_, htmp t hyt, blk y.id, 0, zc.size, by simp [Names.upd], rfl⟩
  · intro t ht
    rw [bindD_get (ht x (by simp))]
    exact D.curE t fun y hy => ht y (hsub y hy)
  · refine ⟨blk, fun y hy hyl => ?_, fun y hy z hz => hinj y (by simp [hy]) z (by simp [hz])⟩
    obtain ⟨z', zc', el', g1, g2, g3, g4, g5, g6, g7⟩ := hpre y (by simp [hy]) hyl
    refine ⟨z', zc', el', g1, g2, g3, g4, g5, g6, fun ho => ?_⟩
    rcases hown' _ ho with h1 | h1
    · have := hinj y (by simp [hy]) x (by simp) hyl hli h1
      exact (pair_spec ((pairs_split (D.spl ▸ I.pairs)).1 y hy)).1 this.symm
    · exact g7 h1
  · refine ⟨Names.le_trans D.step.le hle, D.step.below, D.step.frame, fun b hb => ?_⟩
    rcases hown' b hb with h1 | h1
    · exact .inr (h1 ▸ hn0)
    · exact D.step.own b h1

/-- The canonical state is brought forward as far as it goes. -/
theorem norm (I : Items P N ops l) : ∀ (rest done : List DOper) (ps : List Pend) (cur : Env) (h : Heap) (β : Names), DI P N B ops l K e0 β0 h0 w0 listed done rest ps cur h β a w →
    ∃ done' rest' ps' cur' h' β', DI P N B ops l K e0 β0 h0 w0 listed done' rest' ps' cur' h' β' a w ∧ ∀ y r, rest' = y :: r → ¬ listed.getD y.id false = true ∧ y.kind ≠ 0
  | [], done, ps, cur, h, β, D => ⟨done, [], ps, cur, h, β, D, fun _ _ h => by cases h⟩
  | x :: rest, done, ps, cur, h, β, D => by
    by_cases hli : listed.getD x.id false = true
    · obtain ⟨ps', cur', h', β', D'⟩ := take2 I D hli
      exact norm I rest _ _ _ _ _ D'
    · by_cases hk : x.kind = 0
      · have hrun := D.run
        simp only [aopsD] at hrun
        split at hrun
        · rename_i hw
          rw [if_neg (by simp [hk])] at hrun
          split at hrun
          · rename_i v h' ha
            exact norm I rest _ _ _ _ _ (take0 I D hli v _ hrun (fun p hp => by simp [hp]) (.inr ⟨hw, by simp, by rw [ha]; rfl⟩) hk)
          · exact hrun.elim
        · rename_i hw
          exact norm I rest _ _ _ _ _ (take0 I D hli (.tup []) ps hrun (fun p hp => hp) (.inl ⟨hw, rfl⟩) hk)
        · exact hrun.elim
      · exact ⟨done, x :: rest, ps, cur, h, β, D, fun y r hy => by cases hy; exact ⟨hli, hk⟩⟩

end
end Go.Abs

/- Regions that draw their order: each operation that the model may take next is met by the canonical state; the region as a whole. -/
namespace Go.Abs
open Go.RowKit
set_option linter.unusedSimpArgs false

section
variable {P : Program} {N B : Nat} {ops : Array Oper} {l : List DOper} {K : Env → Heap → Prop} {e0 : Env} {β0 : Names} {h0 : Heap} {w0 : World}
  {listed : Array Bool} {done rest : List DOper} {ps : List Pend} {cur : Env} {h : Heap} {β : Names} {a : Act} {w : World}

theorem Items.apart (I : Items P N ops l) (hspl : l = done ++ rest) {x y : DOper} (hx : x ∈ done) (hy : y ∈ rest) : x.id ≠ y.id := by
  obtain ⟨r1, r2, rfl⟩ := List.append_of_mem hy
  have hs : l = (done ++ r1) ++ y :: r2 := by rw [hspl]; simp
  exact (pair_spec ((pairs_split (hs ▸ I.pairs)).2 x (by simp [hx]))).1

theorem DI.lt (I : Items P N ops l) (D : DI P N B ops l K e0 β0 h0 w0 listed done rest ps cur h β a w) {x : DOper} (hx : x ∈ l) : x.id < listed.size := by
  obtain ⟨⟨o, ho, _⟩, _⟩ := I.item x hx
  rw [D.lsize]
  exact (Array.getElem?_eq_some_iff.1 ho).1

theorem closed_set (I : Items P N ops l) (D : DI P N B ops l K e0 β0 h0 w0 listed done rest ps cur h β a w) {x : DOper} (hx : x ∈ l) (hpre : ∀ j ∈ x.pre, listed.getD j false = true) :
    ∀ y ∈ l, (listed.setIfInBounds x.id true).getD y.id false = true → ∀ j ∈ y.pre, (listed.setIfInBounds x.id true).getD j false = true := by
  intro y hy hl j hj
  rw [listed_set (D.lt I hx)] at hl ⊢
  rcases hl with hl | hl
  · have := I.id_inj hy hx hl
    subst this
    exact .inr (hpre j hj)
  · exact .inr (D.closed y hy hl j hj)

/-- An operation that the canonical state has taken already is carried out. -/
theorem step_done (I : Items P N ops l) (D : DI P N B ops l K e0 β0 h0 w0 listed done rest ps cur h β a w) {x : DOper} (hx : x ∈ done) (hpre : ∀ j ∈ x.pre, listed.getD j false = true)
    {v : AV} {c : Value} {w' : World} {β' : Names} (hv : DstIs x cur v) (hvc : VRel β' v c) (R : Rel B β' h w'.heap) (S : Step B β h w β' h w') :
    DI P N B ops l K e0 β0 h0 w0 (listed.setIfInBounds x.id true) done rest ps cur h β' (a.put x.op.dst c) w' := by
  have hxl := done_mem D.spl hx
  have hset : ∀ y : DOper, (listed.setIfInBounds x.id true).getD y.id false = true ↔ y.id = x.id ∨ listed.getD y.id false = true := fun y => listed_set (D.lt I hxl)
  refine { D with rel := R, size := by rw [put_size]; exact D.size, defers := put_defers D.defers, lsize := by simp [D.lsize], closed := closed_set I D hxl hpre, doneEff := ?_, restPre := ?_, pend := ?_, slotL := ?_, slotU := ?_, pre := ?_, step := D.step.trans S }
  · exact fun y hy hk => (hset y).2 (.inr (D.doneEff y hy hk))
  · intro y hy hl
    rcases (hset y).1 hl with h1 | h1
    · exact absurd h1.symm (I.apart D.spl hx hy)
    · exact D.restPre y hy h1
  · intro y hy hu
    exact D.pend y hy fun h1 => hu ((hset y).2 (.inr h1))
  · rintro t u ⟨y, hy, hyt, hyl⟩ hu
    rcases (hset y).1 hyl with h1 | h1
    · have := I.id_inj (done_mem D.spl hy) hxl h1
      subst this
      rw [hv t hyt] at hu
      cases hu
      rw [hyt]
      exact TmpRel.own (by rw [D.size]; exact I.dst y hxl t hyt) hvc
    · by_cases hid : y.id = x.id
      · have := I.id_inj (done_mem D.spl hy) hxl hid
        subst this
        rw [hv t hyt] at hu
        cases hu
        rw [hyt]
        exact TmpRel.own (by rw [D.size]; exact I.dst y hxl t hyt) hvc
      · exact ((D.slotL t u ⟨y, hy, hyt, h1⟩ hu).mono S.le).put (I.dst_ne (done_mem D.spl hy) hxl hid hyt)
  · intro t u hall hu
    have hxt : x.op.dst ≠ some t := fun h1 => hall x hxl h1 ((hset x).2 (.inl rfl))
    exact ((D.slotU t u (fun y hy hyt h1 => hall y hy hyt ((hset y).2 (.inr h1))) hu).mono S.le).put hxt
  · obtain ⟨blk, h1, h2⟩ := D.pre
    have old : ∀ y ∈ rest, (listed.setIfInBounds x.id true).getD y.id false = true → listed.getD y.id false = true := fun y hy hl => by
      rcases (hset y).1 hl with h1 | h1
      · exact absurd h1.symm (I.apart D.spl hx hy)
      · exact h1
    refine ⟨blk, fun y hy hl => ((h1 y hy (old y hy hl)).step S).put fun t ht => ?_, fun y hy z hz h3 h4 => h2 y hy z hz (old y hy h3) (old z hz h4)⟩
    exact I.dst_ne (rest_mem D.spl hy) hxl (fun he => I.apart D.spl hx hy he.symm) ht

/-- The operation at the head of the rest is carried out. -/
theorem step_head (I : Items P N ops l) {x : DOper} (D : DI P N B ops l K e0 β0 h0 w0 listed done (x :: rest) ps cur h β a w) (hun : ¬ listed.getD x.id false = true) (hpre : ∀ j ∈ x.pre, listed.getD j false = true)
    {v : AV} {c : Value} {w' : World} {β' : Names} {h' : Heap} {ps' : List Pend} (hvc : VRel β' v c) (R : Rel B β' h' w'.heap) (S : Step B β h w β' h' w') (hrun : aopsD (Tri P) rest ps' K (bindD x.op.dst v cur) h')
    (hps : ∀ p ∈ ps, p.id ∉ x.pre → (aop p.op p.env h).map (·.1) = some p.val → p ∈ ps' ∧ (aop p.op p.env h').map (·.1) = some p.val) :
    DI P N B ops l K e0 β0 h0 w0 (listed.setIfInBounds x.id true) (done ++ [x]) rest ps' (bindD x.op.dst v cur) h' β' (a.put x.op.dst c) w' := by
  have hxl := head_mem D.spl
  have hset : ∀ y : DOper, (listed.setIfInBounds x.id true).getD y.id false = true ↔ y.id = x.id ∨ listed.getD y.id false = true := fun y => listed_set (D.lt I hxl)
  have hne : ∀ y ∈ done, ∀ t, y.op.dst = some t → (bindD x.op.dst v cur).get t = cur.get t := fun y hy t ht =>
    bindD_get (I.dst_ne (done_mem D.spl hy) hxl (I.fresh D.spl hy) ht)
  have hsub : ∀ y ∈ done, y ∈ done ++ [x] := fun y hy => by simp [hy]
  have hspl : l = (done ++ [x]) ++ rest := by rw [D.spl]; simp
  refine { D with spl := hspl, run := hrun, rel := R, size := by rw [put_size]; exact D.size, defers := put_defers D.defers, lsize := by simp [D.lsize], closed := closed_set I D hxl hpre, doneEff := ?_, restPre := ?_, pend := ?_, slotL := ?_, slotU := ?_, curE := ?_, pre := ?_, step := D.step.trans S }
  · intro y hy hk
    rcases List.mem_append.1 hy with hy | hy
    · exact (hset y).2 (.inr (D.doneEff y hy hk))
    · rw [List.mem_singleton] at hy; subst hy; exact (hset y).2 (.inl rfl)
  · intro y hy hl
    rcases (hset y).1 hl with h1 | h1
    · exact absurd h1.symm (I.apart hspl (x := x) (by simp) hy)
    · exact D.restPre y (by simp [hy]) h1
  · intro y hy hu
    rcases List.mem_append.1 hy with hy | hy
    · have hyu : ¬ listed.getD y.id false = true := fun h1 => hu ((hset y).2 (.inr h1))
      obtain ⟨pe, h1, h2⟩ := D.pend y hy hyu
      refine ⟨pe, h1.mono hsub hne, ?_⟩
      rcases h2 with ⟨g1, g2⟩ | ⟨g1, u, g2, g3, g4⟩
      · exact .inl ⟨g1, fun d hd => by rw [hne y hy d hd]; exact g2 d hd⟩
      · obtain ⟨q1, q2⟩ := hps _ g2 (fun hm => hyu (hpre _ hm)) g3
        exact .inr ⟨g1, u, q1, q2, fun d hd => by rw [hne y hy d hd]; exact g4 d hd⟩
    · rw [List.mem_singleton] at hy; subst hy; exact absurd ((hset y).2 (.inl rfl)) hu
  · rintro t u ⟨y, hy, hyt, hyl⟩ hu
    rcases List.mem_append.1 hy with hy | hy
    · have hid := I.fresh D.spl hy
      rcases (hset y).1 hyl with h1 | h1
      · exact absurd h1 hid
      · exact ((D.slotL t u ⟨y, hy, hyt, h1⟩ (by rw [← hne y hy t hyt]; exact hu)).mono S.le).put (I.dst_ne (done_mem D.spl hy) hxl hid hyt)
    · rw [List.mem_singleton] at hy; subst hy
      rw [hyt] at hu ⊢
      simp only [bindD, Env.get, beq_ite, if_true, Option.some.injEq] at hu
      subst hu
      exact TmpRel.own (by rw [D.size]; exact I.dst y hxl t hyt) hvc
  · intro t u hall hu
    have hxt : x.op.dst ≠ some t := fun h1 => hall x hxl h1 ((hset x).2 (.inl rfl))
    exact ((D.slotU t u (fun y hy hyt h1 => hall y hy hyt ((hset y).2 (.inr h1))) hu).mono S.le).put hxt
  · intro t ht
    rw [bindD_get (ht x (by simp))]
    exact D.curE t fun y hy => ht y (hsub y hy)
  · obtain ⟨blk, h1, h2⟩ := D.pre
    have old : ∀ y ∈ rest, (listed.setIfInBounds x.id true).getD y.id false = true → listed.getD y.id false = true := fun y hy hl => by
      rcases (hset y).1 hl with h1 | h1
      · exact absurd h1.symm (I.apart hspl (x := x) (by simp) hy)
      · exact h1
    refine ⟨blk, fun y hy hl => ((h1 y (by simp [hy]) (old y hy hl)).step S).put fun t ht => ?_, fun y hy z hz h3 h4 => h2 y (by simp [hy]) z (by simp [hz]) (old y hy h3) (old z hz h4)⟩
    exact I.dst_ne (rest_mem hspl hy) hxl (fun he => I.apart hspl (x := x) (by simp) hy he.symm) ht

/-- A zero variable is laid ahead of its turn. -/
theorem step_pre (I : Items P N ops l) (D : DI P N B ops l K e0 β0 h0 w0 listed done rest ps cur h β a w) {x : DOper} (hx : x ∈ rest) (hpre : ∀ j ∈ x.pre, listed.getD j false = true)
    (hk : x.kind = 2) (hg : x.op.guard = none) {z : List Sc} (hop : x.op.op = .alloc z) {zc : Array Value} {el : TypeId} (hz : ∀ β, CellsRel β z zc.toList) :
    DI P N B ops l K e0 β0 h0 w0 (listed.setIfInBounds x.id true) done rest ps cur h β (a.put x.op.dst (.pointer (some ⟨w.heap.size, 0, none⟩))) (w.alloc (.cells zc el)) := by
  have hxl := rest_mem D.spl hx
  have hset : ∀ y : DOper, (listed.setIfInBounds x.id true).getD y.id false = true ↔ y.id = x.id ∨ listed.getD y.id false = true := fun y => listed_set (D.lt I hxl)
  have R : Rel B β h (w.alloc (.cells zc el)).heap := by
    refine ⟨D.rel.names, fun k o hk => ?_, D.rel.inj, by have := D.rel.base; simp; omega⟩
    obtain ⟨b, off, n, h1, h2⟩ := D.rel.objs k o hk
    exact ⟨b, off, n, h1, h2.same (heap_alloc_old w _ b h2.lt)⟩
  have S : Step B β h w β h (w.alloc (.cells zc el)) := ⟨β.le_refl, (Below.refl _ _).alloc D.rel.base _, fun b hb _ => heap_alloc_old w _ b hb, fun b hb => .inl hb⟩
  refine { D with rel := R, size := by rw [put_size]; exact D.size, defers := put_defers D.defers, lsize := by simp [D.lsize], closed := closed_set I D hxl hpre, doneEff := ?_, restPre := ?_, pend := ?_, slotL := ?_, slotU := ?_, pre := ?_, step := D.step.trans S }
  · exact fun y hy hk => (hset y).2 (.inr (D.doneEff y hy hk))
  · intro y hy hl
    rcases (hset y).1 hl with h1 | h1
    · rw [I.id_inj (rest_mem D.spl hy) hxl h1]; exact hk
    · exact D.restPre y hy h1
  · intro y hy hu
    exact D.pend y hy fun h1 => hu ((hset y).2 (.inr h1))
  · rintro t u ⟨y, hy, hyt, hyl⟩ hu
    have hid := I.apart D.spl hy hx
    rcases (hset y).1 hyl with h1 | h1
    · exact absurd h1 hid
    · exact (D.slotL t u ⟨y, hy, hyt, h1⟩ hu).put (I.dst_ne (done_mem D.spl hy) hxl hid hyt)
  · intro t u hall hu
    have hxt : x.op.dst ≠ some t := fun h1 => hall x hxl h1 ((hset x).2 (.inl rfl))
    exact (D.slotU t u (fun y hy hyt h1 => hall y hy hyt ((hset y).2 (.inr h1))) hu).put hxt
  · obtain ⟨blk, h1, h2⟩ := D.pre
    have blt : ∀ y ∈ rest, listed.getD y.id false = true → blk y.id < w.heap.size := fun y hy hl => by
      obtain ⟨_, _, _, _, _, _, g4, _⟩ := h1 y hy hl
      exact (Array.getElem?_eq_some_iff.1 g4).1
    refine ⟨fun i => if i = x.id then w.heap.size else blk i, fun y hy hl => ?_, fun y hy y' hy' h3 h4 he => ?_⟩
    · dsimp only
      by_cases hid : y.id = x.id
      · have := I.id_inj (rest_mem D.spl hy) hxl hid
        subst this
        rw [if_pos rfl]
        refine ⟨z, zc, el, hop, hg, fun d hd => ?_, heap_alloc_new w _, hz, D.step.below.size, fun ho => Nat.lt_irrefl _ (Owned.lt D.rel ho).2⟩
        rw [hd]
        simp only [Act.put]
        rw [Array.getElem?_setIfInBounds_self_of_lt (by rw [D.size]; exact I.dst y hxl d hd)]
      · rw [if_neg hid]
        rcases (hset y).1 hl with g | g
        · exact absurd g hid
        · exact ((h1 y hy g).step S).put fun t ht => I.dst_ne (rest_mem D.spl hy) hxl hid ht
    · dsimp only at he
      by_cases hid : y.id = x.id
      · by_cases hid' : y'.id = x.id
        · rw [hid, hid']
        · rw [if_pos hid, if_neg hid'] at he
          rcases (hset y').1 h4 with g | g
          · exact absurd g hid'
          · have := blt y' hy' g; omega
      · rw [if_neg hid] at he
        rcases (hset y).1 h3 with g | g
        · exact absurd g hid
        · by_cases hid' : y'.id = x.id
          · rw [if_pos hid'] at he
            have := blt y hy g; omega
          · rw [if_neg hid'] at he
            rcases (hset y').1 h4 with g' | g'
            · exact absurd g' hid'
            · exact h2 y hy y' hy' g g' he

def AOp.isAlloc : AOp → Bool
  | .alloc _ => true
  | _ => false

theorem nil_notAlloc {neg : Bool} {kd : Nat} {x y : Operand} {ao : AOp} (hc : compileNil neg kd x y = some ao) : ao.isAlloc = false := by
  unfold compileNil at hc
  split at hc
  · simp only [Option.map_eq_some_iff] at hc; obtain ⟨_, _, rfl⟩ := hc; rfl
  · split at hc
    · simp only [Option.map_eq_some_iff] at hc; obtain ⟨_, _, rfl⟩ := hc; rfl
    · cases hc

theorem eq_notAlloc {neg : Bool} {op : BinOp} {t : TypeId} {x y : Operand} {ao : AOp} (hc : compileEq P neg op t x y = some ao) : ao.isAlloc = false := by
  unfold compileEq at hc
  split at hc
  · obtain ⟨_, _, _, _, rfl⟩ := op2_some hc; rfl
  · obtain ⟨_, _, _, _, rfl⟩ := op2_some hc; rfl
  · obtain ⟨_, _, _, _, rfl⟩ := op2_some hc; rfl
  · exact nil_notAlloc hc
  · exact nil_notAlloc hc
  · exact nil_notAlloc hc
  · exact nil_notAlloc hc
  · split at hc
    · obtain ⟨_, _, _, _, rfl⟩ := op2_some hc; rfl
    · cases hc
  · split at hc
    · obtain ⟨_, _, _, _, rfl⟩ := op2_some hc; rfl
    · cases hc
  · cases hc

theorem call_notAlloc {c : Call} {ao : AOp} (hc : compileCall P c = some ao) : ao.isAlloc = false := by
  unfold compileCall at hc
  split at hc
  · split at hc
    · split at hc
      · cases hc; rfl
      · split at hc
        · split at hc
          · cases hc; rfl
          · cases hc
        · cases hc
    · cases hc
  · split at hc
    · cases hc; rfl
    · cases hc
  · split at hc
    case h_3 => obtain ⟨_, _, _, _, rfl⟩ := op2_some hc; rfl
    case h_4 => obtain ⟨_, _, _, _, rfl⟩ := op2_some hc; rfl
    all_goals
      repeat' (split at hc)
      all_goals first
        | (cases hc; done)
        | (cases hc; rfl)
        | (simp only [Option.bind_eq_some_iff] at hc
           obtain ⟨_, _, hc⟩ := hc
           split at hc
           · cases hc; rfl
           · cases hc)
  · cases hc

theorem alloc_of {o : Op} {z : List Sc} (hc : compileOp P o = some (.alloc z)) : ∃ e, o = .alloc e ∧ zeroT P e = some z := by
  generalize hao : AOp.alloc z = ao at hc
  have hi : ao.isAlloc = true := by rw [← hao]; rfl
  unfold compileOp at hc
  split at hc
  case h_4 op t x y yt =>
    split at hc
    · rw [eq_notAlloc hc] at hi; cases hi
    · rw [eq_notAlloc hc] at hi; cases hi
    · obtain ⟨_, _, _, _, rfl⟩ := op2_some hc; cases hi
  case h_27 c => rw [call_notAlloc hc] at hi; cases hi
  case h_23 e =>
    simp only [Option.map_eq_some_iff] at hc
    obtain ⟨z', hz, rfl⟩ := hc
    cases hao
    exact ⟨e, rfl, hz⟩
  all_goals
    repeat' (split at hc)
    all_goals first
      | (cases hc; done)
      | (cases hc; cases hi; done)
      | (simp only [Option.map_eq_some_iff] at hc; obtain ⟨_, _, rfl⟩ := hc; cases hi; done)

/-- A zero variable's operation, run. -/
theorem alloc_exec {o : Oper} {z : List Sc} (hc : compileOp P o.op = some (.alloc z)) (ev : Operand → Value) (w : World) : ∃ zc el, (∀ β, CellsRel β z zc.toList) ∧
    (execOp ev o).run P w = .ok (.value (.pointer (some ⟨w.heap.size, 0, none⟩))) (w.alloc (.cells zc el)) := by
  obtain ⟨e, ho, hz⟩ := alloc_of hc
  obtain ⟨u, h0, _⟩ := run_zero (w := w) (β := fun _ => none) hz
  refine ⟨u.cells, e, fun β => ?_, ?_⟩
  · obtain ⟨u', h1, h2⟩ := run_zero (w := w) (β := β) hz
    rw [h0] at h1; cases h1
    exact h2
  · unfold execOp
    rw [ho]
    simp [Instr.alloc, newVar, newRow, h0]

theorem count_set {listed : Array Bool} {i : Nat} (hi : i < listed.size) (hf : ¬ listed.getD i false = true) : (listed.setIfInBounds i true).toList.count false + 1 = listed.toList.count false := by
  have hg : listed.toList[i]'(by simpa using hi) = false := by
    rw [Array.getD_eq_getD_getElem?, Array.getElem?_eq_getElem hi] at hf
    simpa using hf
  have hl : i < listed.toList.length := by simpa using hi
  have hpos : 0 < listed.toList.count false := List.count_pos_iff.2 (hg ▸ List.getElem_mem hl)
  rw [Array.toList_setIfInBounds, List.count_set hl, hg]
  simp only [beq_self_eq_true, if_true]
  rw [if_neg (by decide)]
  omega

/-- Behind the last operation. -/
theorem di_end (I : Items P N ops l) (D : DI P N B ops l K e0 β0 h0 w0 listed done rest ps cur h β a w) (hr : Region.ready .any ops listed = []) :
    ∃ e' h' β', K e' h' ∧ EnvRel N β' e' a.tmps ∧ Rel B β' h' w.heap ∧ (∀ t, (∀ y ∈ l, y.op.dst ≠ some t) → e'.get t = e0.get t) ∧ Step B β0 h0 w0 β' h' w := by
  have hall : ∀ x ∈ l, listed.getD x.id false = true := all_listed I D.lsize hr l [] rfl (by simp)
  obtain ⟨done', rest', ps', cur', h', β', D', hhead⟩ := norm I rest done ps cur h β D
  have hnil : rest' = [] := by
    cases hr' : rest' with
    | nil => rfl
    | cons y r => exact absurd (hall y (rest_mem D'.spl (by rw [hr']; simp))) (hhead y r hr').1
  subst hnil
  have hdl : l = done' := by rw [D'.spl]; simp
  refine ⟨cur', h', β', D'.run, ⟨D'.size, fun t v ht => ?_⟩, D'.rel, fun t ht => D'.curE t fun y hy => ht y (by rw [hdl]; exact hy), D'.step⟩
  by_cases hw : ∃ y ∈ done', y.op.dst = some t
  · obtain ⟨y, hy, hyt⟩ := hw
    exact D'.slotL t v ⟨y, hy, hyt, hall y (by rw [hdl]; exact hy)⟩ ht
  · rw [D'.curE t fun y hy hyt => hw ⟨y, hy, hyt⟩] at ht
    exact D'.slotU t v (fun y hy hyt => absurd ⟨y, hdl ▸ hy, hyt⟩ hw) ht

/-- **Whatever the model takes next, the canonical state follows.** -/
theorem di_sound (hP : ProgOk P) (I : Items P N ops l) {Q : Exit → Act → World → Prop}
    (hQ : ∀ e' h' β' a' w', K e' h' → EnvRel N β' e' a'.tmps → Rel B β' h' w'.heap → a'.defers = [] → (∀ t, (∀ y ∈ l, y.op.dst ≠ some t) → e'.get t = e0.get t) → Step B β0 h0 w0 β' h' w' → Q .normal a' w') :
    ∀ (fuel : Nat) (listed : Array Bool) (done rest : List DOper) (ps : List Pend) (cur : Env) (h : Heap) (β : Names) (a : Act) (w : World),
      listed.toList.count false ≤ fuel → DI P N B ops l K e0 β0 h0 w0 listed done rest ps cur h β a w → wpAny P .any ops Q fuel listed a w := by
  have hend : ∀ {listed : Array Bool} {done rest : List DOper} {ps : List Pend} {cur : Env} {h : Heap} {β : Names} {a : Act} {w : World}, DI P N B ops l K e0 β0 h0 w0 listed done rest ps cur h β a w → Region.ready .any ops listed = [] → Q .normal a w := by
    intro listed done rest ps cur h β a w D hr
    obtain ⟨e', h', β', q1, q2, q3, q4, q5⟩ := di_end I D hr
    exact hQ e' h' β' a w q1 q2 q3 D.defers q4 q5
  intro fuel
  induction fuel with
  | zero =>
    intro listed done rest ps cur h β a w hc D
    have hr : Region.ready .any ops listed = [] := by
      apply List.eq_nil_iff_forall_not_mem.2
      intro i hi
      obtain ⟨x, hx, rfl, hu, _⟩ := ready_pre I D hi
      have := count_set (D.lt I hx) hu
      omega
    exact ⟨hr, hend D hr⟩
  | succ fuel ih =>
    intro listed done rest ps cur h β a w hc D
    refine ⟨hend D, fun i hi => ?_⟩
    obtain ⟨done, rest, ps, cur, h, β, D, hhead⟩ := norm I rest done ps cur h β D
    obtain ⟨x, hx, rfl, hu, hpre⟩ := ready_pre I D hi
    obtain ⟨⟨o, ho, hco⟩, hkx⟩ := I.item x hx
    unfold compileOper at hco
    split at hco
    · rename_i ao g hao hg
      simp only [Option.some.injEq] at hco
      have e1 : x.op.dst = o.dst := by rw [← hco]
      have e2 : x.op.op = ao := by rw [← hco]
      have e3 : x.op.guard = g := by rw [← hco]
      have hcnt : (listed.setIfInBounds x.id true).toList.count false ≤ fuel := by
        have := count_set (D.lt I hx) hu
        omega
      unfold wpOp
      rw [ho]
      dsimp only
      have want : ∀ {pe : Env} {b : Bool}, Look l done x cur e0 pe → wantedA x.op.guard pe = some b → Region.wanted o (yielded ops a.tmps) = b := by
        intro pe b hlook hw
        refine wanted_rel (β := β) (e := restr pe (looksA x.op)) hg ?_ fun t u _ hu' => (look_env D hlook hu hpre).rel t u hu'
        rw [← e3, look_op.2]
        exact hw
      rw [D.spl] at hx
      rcases List.mem_append.1 hx with hx | hx
      · -- taken already
        obtain ⟨pe, hlook, hval⟩ := D.pend x hx hu
        rcases hval with ⟨hw, hv⟩ | ⟨hw, v, hm, ha, hv⟩
        · rw [if_neg (by rw [want hlook hw]; simp)]
          rw [← e1]
          exact ih _ _ _ _ _ _ _ _ _ hcnt (step_done I D hx hpre hv undef_rel D.rel (Step.refl _ _ _ _))
        · rw [if_pos (want hlook hw)]
          simp only [Option.map_eq_some_iff] at ha
          obtain ⟨⟨v', h'⟩, ha, rfl⟩ := ha
          have hk0 : x.kind = 0 := Classical.byContradiction fun hk => hu (D.doneEff x hx hk)
          have := kind0_heap (kindG_le (hkx ▸ hk0)) ha
          subst this
          rw [aop_congr (e' := restr pe (looksA x.op)) _ look_op.1, e2] at ha
          refine .inl (upon_okN (aop_sound hP D.rel (look_env D hlook hu hpre) hao ha) fun c w' β' q1 q2 q3 => ?_)
          rw [← e1]
          exact ih _ _ _ _ _ _ _ _ _ hcnt (step_done I D hx hpre hv q1 q2 q3)
      · cases hr : rest with
        | nil => rw [hr] at hx; cases hx
        | cons y r =>
          subst hr
          obtain ⟨hyu, hyk⟩ := hhead y r rfl
          rcases List.mem_cons.1 hx with rfl | hx
          · -- at the head
            have hlook := look_head I D.spl D.curE
            have hrun := D.run
            simp only [aopsD] at hrun
            split at hrun
            · rename_i hw
              rw [if_pos hyk] at hrun
              rw [if_pos (want hlook hw)]
              rw [astep_congr (e' := restr cur (looksA x.op)) look_op.1, e2] at hrun
              refine .inl (astep_sound hP D.rel (look_env D hlook hu hpre) hao hrun fun v h' c w' β' hK q1 q2 q3 => ?_)
              rw [← e1]
              refine ih _ _ _ _ _ _ _ _ _ hcnt (step_head I D hu hpre q1 q2 q3 hK.2 fun p hp hnp _ => ?_)
              have hm : p ∈ ps.filter fun p => !x.pre.contains p.id := by
                rw [List.mem_filter]
                refine ⟨hp, ?_⟩
                simp only [Bool.not_eq_true', List.contains_eq_mem, decide_eq_false_iff_not]
                exact hnp
              exact ⟨hm, hK.1 p hm⟩
            · rename_i hw
              rw [if_neg (by rw [want hlook hw]; simp)]
              rw [← e1]
              exact ih _ _ _ _ _ _ _ _ _ hcnt (step_head I D hu hpre undef_rel D.rel (Step.refl _ _ _ _) hrun fun p hp _ h1 => ⟨hp, h1⟩)
            · exact hrun.elim
          · -- a zero variable ahead of its turn
            have hk2 : x.kind = 2 := by
              obtain ⟨_, _, _, h4⟩ := pair_spec ((pairs_split (D.spl ▸ I.pairs)).1 x hx)
              rcases h4 with h4 | ⟨h4, _, _⟩
              · exact absurd (hpre _ h4) hyu
              · rcases h4 with h4 | h4
                · exact absurd h4 hyk
                · exact h4
            obtain ⟨hgx, z, hz⟩ := kindG_two (hkx ▸ hk2)
            rw [if_pos (by unfold guardOf at hg; unfold Region.wanted; rw [← e3, hgx] at hg; split at hg <;> first | (rename_i hgd; rw [hgd]; done) | (split at hg <;> cases hg))]
            rw [← e2, hz] at hao
            obtain ⟨zc, el, hzc, hrun⟩ := alloc_exec hao a.eval w
            refine .inl ?_
            unfold Oper.wp
            rw [hrun]
            have D' := step_pre I D (x := x) (by simp [hx]) hpre hk2 hgx hz (zc := zc) (el := el) hzc
            rw [e1] at D'
            exact ih _ _ _ _ _ _ _ _ _ hcnt D'
    · cases hco

end

/-- **Regions that draw their order.** -/
theorem drawSound {P : Program} (hP : ProgOk P) : DrawSound P := by
  intro N pers B id ops l K Q e h β a w hc hN hrun hs hQ
  obtain ⟨hitems, hchk⟩ := compileD_items hc
  obtain ⟨h1, h2, h3⟩ := check_spec hchk
  have hdst : ∀ x ∈ l, ∀ d, x.op.dst = some d → d ∈ dsts ops.toList := by
    intro x hx d hd
    obtain ⟨⟨o, ho, hco⟩, _⟩ := hitems x hx
    have hod : o.dst = some d := by
      unfold compileOper at hco
      split at hco
      · simp only [Option.some.injEq] at hco; rw [← hco] at hd; exact hd
      · cases hco
    have hm : o ∈ ops.toList := by simpa using Array.mem_of_getElem? ho
    have : ∀ (m : List Oper), o ∈ m → d ∈ dsts m := by
      intro m
      induction m with
      | nil => intro h; cases h
      | cons y m ih =>
        intro hm
        simp only [dsts]
        rcases List.mem_cons.1 hm with rfl | hm
        · rw [hod]; simp
        · split
          · simp [ih hm]
          · exact ih hm
    exact this _ hm
  have I : Items P N ops l := ⟨hitems, h1, h2, fun x hx => (h3 x hx).1, fun x hx => (h3 x hx).2.1, fun x hx => (h3 x hx).2.2.1, fun x hx => (h3 x hx).2.2.2, fun x hx d hd => hN d (hdst x hx d hd)⟩
  refine wp_region_any hP.mixed ?_
  have hfalse : ∀ j, ¬ (Array.replicate ops.size false).getD j false = true := by
    intro j
    simp only [Array.getD_eq_getD_getElem?, Array.getElem?_replicate]
    split <;> simp
  refine di_sound hP I (e0 := e) (β0 := β) (h0 := h) (w0 := { w with drawn := w.drawn + 1 }) (B := B) (K := K) ?_ ops.size _ [] l [] e h β a _ (by simp) ?_
  · intro e' h' β' a' w' q1 q2 q3 q4 q5 q6
    refine hQ e' h' β' a' w' q1 q2 q3 q4 (fun t ht => q5 t fun y hy hyt => ht (hdst y hy t hyt)) ⟨q6.le, ⟨q6.below.os, q6.below.tape, q6.below.output, q6.below.size, q6.below.block⟩, q6.frame, q6.own⟩
  · exact { spl := rfl, run := hrun, rel := hs.rel, size := hs.env.size, defers := hs.defers, lsize := by simp, closed := fun x _ h1 => absurd h1 (hfalse _), doneEff := fun x hx => (by cases hx), restPre := fun x _ h1 => absurd h1 (hfalse _), pend := fun x hx => (by cases hx), slotL := fun t v ⟨y, hy, _⟩ => (by cases hy), slotU := fun t v _ ht => hs.env.rel t v ht, curE := fun _ _ => rfl, pre := ⟨fun _ => 0, fun x _ h1 => absurd h1 (hfalse _), fun x _ y _ h1 => absurd h1 (hfalse _)⟩, step := Step.refl _ _ _ _, base := hs.rel.base }

end Go.Abs

/- The evaluator's answers hold: what acall computes is the call's triple. -/
namespace Go.Abs
open Go.RowKit
set_option linter.unusedSimpArgs false

/-- A call by the table of compiled functions; ext answers for what the table does not cover. -/
def acall (tab : FuncId → Option AFunc) (ext : CallF) (n : Nat) : Nat → CallF
  | 0 => fun _ _ _ => none
  | d + 1 => fun f args h =>
    match ext f args h with
    | some r => some r
    | none =>
      match tab f with
      | some af => bif Nat.beq args.length af.nparams then retX af (aexec (acall tab ext n d) n af.body (initEnv args) h) else none
      | none => none

/-- The triple of a call that is known outright. -/
abbrev TriX (P : Program) (C : CallF) : Prop := ∀ f args h v h', C f args h = some (v, h') → Tri P f args h fun v1 h1 => v1 = v ∧ h1 = h'

theorem ren_id : renAV id = id ∧ renObj id = id := by
  have hs : ∀ s, renSc id s = s := by
    intro s; cases s <;> simp [renSc]
  have hsc : renSc id = id := funext hs
  have hp : renPart id = id := by funext x; cases x <;> simp [renPart, hsc]
  exact ⟨by funext v; cases v <;> simp [renAV, hsc, hp], by funext o; cases o <;> simp [renObj, hsc]⟩

theorem fgt_refl (h0 : Heap) (v : AV) (h : Heap) : Fgt h0 v h v h :=
  ⟨id, fun _ _ => rfl, fun _ hk => hk, by rw [ren_id.1]; rfl, fun k o hk => by rw [ren_id.2]; exact hk, fun _ _ _ _ _ _ _ _ h => h⟩

theorem fgtE_refl (h0 : Heap) (e : Env) (h : Heap) : FgtE h0 e h e h :=
  ⟨id, fun _ _ => rfl, fun _ hk => hk, fun t v ht => by rw [ren_id.1]; exact ht, fun k o hk => by rw [ren_id.2]; exact hk, fun _ _ _ _ _ _ _ _ h => h⟩

section
variable {P : Program} {C : CallF}

theorem stepX_sound (hC : TriX P C) {o : AOp} {e : Env} {h h' : Heap} {v : AV} {K : AV → Heap → Prop} (hx : stepX C o e h = some (v, h')) (hK : K v h') : astep (Tri P) o e h K := by
  unfold stepX at hx
  split at hx
  · split at hx
    · rename_i vs hvs
      simp only [astep, hvs]
      exact (hC _ _ _ _ _ hx).mono (by rintro _ _ ⟨rfl, rfl⟩; exact hK)
    · cases hx
  · split at hx
    · rename_i f caps vs hg hvs
      simp only [astep, hvs, hg]
      exact (hC _ _ _ _ _ hx).mono (by rintro _ _ ⟨rfl, rfl⟩; exact hK)
    · cases hx
  · rename_i hn1 hn2
    unfold astep
    split
    · exact (hn1 _ _ rfl).elim
    · exact (hn2 _ _ rfl).elim
    · rw [hx]; exact hK

theorem opsX_sound (hC : TriX P C) {K : Env → Heap → Prop} : ∀ (l : List AOper) {e e' : Env} {h h' : Heap}, opsX C l e h = some (e', h') → K e' h' → aops (Tri P) l K e h
  | [], e, e', h, h', hx, hK => by cases hx; exact hK
  | o :: l, e, e', h, h', hx, hK => by
    simp only [opsX] at hx
    simp only [aops]
    split at hx
    · split at hx
      · rename_i v h1 hs
        exact stepX_sound hC hs (opsX_sound hC l hx hK)
      · cases hx
    · exact opsX_sound hC l hx hK
    · cases hx

theorem stillX_sound {ps : List Pend} {h : Heap} (hs : stillX ps h = true) : stillSame ps h := by
  intro p hp
  have := List.all_eq_true.1 hs p hp
  split at this
  · rename_i v h1 ha
    rw [ha]
    simp only [decide_eq_true_eq] at this
    rw [← this]; rfl
  · cases this

theorem opsDX_sound (hC : TriX P C) {K : Env → Heap → Prop} : ∀ (l : List DOper) {ps : List Pend} {e e' : Env} {h h' : Heap}, opsDX C l ps e h = some (e', h') → K e' h' → aopsD (Tri P) l ps K e h
  | [], ps, e, e', h, h', hx, hK => by cases hx; exact hK
  | o :: l, ps, e, e', h, h', hx, hK => by
    simp only [opsDX] at hx
    simp only [aopsD]
    split at hx
    · split at hx
      · rename_i hk
        rw [if_pos hk]
        split at hx
        · rename_i v h1 hs
          split at hx
          · rename_i hst
            exact stepX_sound hC hs ⟨stillX_sound hst, opsDX_sound hC l hx hK⟩
          · cases hx
        · cases hx
      · rename_i hk
        rw [if_neg hk]
        split at hx
        · exact opsDX_sound hC l hx hK
        · cases hx
    · exact opsDX_sound hC l hx hK
    · cases hx

theorem aexec_sound (hC : TriX P C) {n : Nat} {hb : Heap} : ∀ (c : ACode) {Q : AExit → Env → Heap → Prop} {e e' : Env} {h h' : Heap} {x : AExit}, aexec C n c e h = some (x, e', h') → Q x e' h' → awp (Tri P) hb c Q e h := by
  intro c
  induction c with
  | skip => intro Q e e' h h' x hx hQ; cases hx; exact hQ
  | ret => intro Q e e' h h' x hx hQ; cases hx; exact hQ
  | exit id => intro Q e e' h h' x hx hQ; cases hx; exact hQ
  | bad => intro Q e e' h h' x hx hQ; cases hx
  | region ops keep =>
    intro Q e e' h h' x hx hQ
    simp only [aexec] at hx
    split at hx
    · rename_i e1 h1 hs
      cases hx
      exact opsX_sound hC ops hs hQ
    · cases hx
  | regionD ops keep =>
    intro Q e e' h h' x hx hQ
    simp only [aexec] at hx
    split at hx
    · rename_i e1 h1 hs
      cases hx
      exact opsDX_sound hC ops hs hQ
    · cases hx
  | seq a b iha ihb =>
    intro Q e e' h h' x hx hQ
    simp only [aexec] at hx
    split at hx
    · rename_i e1 h1 hs
      exact iha hs (ihb hx hQ)
    · rename_i hno
      refine iha hx ?_
      cases x with
      | normal => exact absurd hx (hno _ _)
      | exit i => exact hQ
      | ret => exact hQ
  | cond c a b iha ihb =>
    intro Q e e' h h' x hx hQ
    simp only [aexec] at hx
    simp only [awp]
    split at hx
    · rename_i hc
      rw [hc]
      exact And.intro (fun _ => iha hx hQ) (fun h => nomatch h)
    · rename_i hc
      rw [hc]
      exact And.intro (fun h => nomatch h) (fun _ => ihb hx hQ)
    · cases hx
  | block id c ih =>
    intro Q e e' h h' x hx hQ
    simp only [aexec] at hx
    split at hx
    · rename_i i e1 h1 hs
      refine ih hs ?_
      dsimp only
      split at hx
      · rename_i hi; rw [if_pos hi]; cases hx; exact hQ
      · rename_i hi; rw [if_neg hi]; cases hx; exact hQ
    · rename_i hno
      refine ih hx ?_
      cases x with
      | normal => exact hQ
      | exit i => exact absurd hx (hno _ _ _)
      | ret => exact hQ
  | loop c ih =>
    intro Q e e' h h' x hx hQ
    simp only [aexec] at hx
    refine ⟨fun m e1 h1 => iterX (aexec C n c) m e1 h1 = some (x, e', h'), n, ⟨e, h, fgtE_refl _ _ _, hx⟩, ?_⟩
    intro m e1 h1 hi _
    cases m with
    | zero => cases hi
    | succ m =>
      simp only [iterX] at hi
      split at hi
      · rename_i e2 h2 hs
        exact ih hs ⟨m, Nat.lt_succ_self m, _, _, fgtE_refl _ _ _, hi⟩
      · rename_i hno
        refine ih hi ?_
        cases x with
        | normal => exact absurd hi (hno _ _)
        | exit i => exact hQ
        | ret => exact hQ

/-- What the table of compiled functions must be. -/
def TabOk (P : Program) (tab : FuncId → Option AFunc) : Prop :=
  ∀ f af, tab f = some af → okCallee P f = true ∧ ∃ fn, P.funcs[f]? = some fn ∧ compileFunc P fn = some af

/-- **What acall computes is so.** -/
theorem acall_sound (hP : ProgOk P) {tab : FuncId → Option AFunc} {ext : CallF} {n : Nat} (hT : TabOk P tab) (hE : TriX P ext) : ∀ d, TriX P (acall tab ext n d) := by
  intro d
  induction d with
  | zero => intro f args h v h' hx; cases hx
  | succ d ih =>
    intro f args h v h' hx
    simp only [acall] at hx
    split at hx
    · rename_i r hr
      cases hx
      exact hE _ _ _ _ _ hr
    · split at hx
      · rename_i af haf
        obtain ⟨hok, fn, hf, hc⟩ := hT f af haf
        cases hb : Nat.beq args.length af.nparams with
        | false => rw [hb] at hx; cases hx
        | true =>
          rw [hb] at hx
          simp only [cond_true] at hx
          refine Tri.of_body hP (drawSound hP) hf hok hc (Nat.eq_of_beq_eq_true hb) fun _ _ => ?_
          unfold retX at hx
          split at hx
          · cases hx
          · rename_i x e1 h1 hno hs
            simp only [Option.map_eq_some_iff, Prod.mk.injEq] at hx
            obtain ⟨l, hl, rfl, rfl⟩ := hx
            refine aexec_sound ih _ hs ?_
            have hq : ∃ l', resOf e1 h1 af.results = some l' ∧ ∃ v h', Fgt h (resVal l') h1 v h' ∧ (v = resVal l ∧ h' = h1) := ⟨l, hl, _, _, fgt_refl _ _ _, rfl, rfl⟩
            cases x with
            | normal => exact hq
            | ret => exact hq
            | exit i => exact absurd rfl (hno _)
          · cases hx
      · cases hx

/-- A function whose body is known: its triple out of the predicate transformer. -/
theorem Tri.body (hP : ProgOk P) {f : FuncId} {af : AFunc} {tab : FuncId → Option AFunc} (hT : TabOk P tab) (hf : tab f = some af) {args : List AV} {h : Heap} {Q : AV → Heap → Prop} (hn : args.length = af.nparams)
    (hk : WF h → (∀ v ∈ args, AV.below h.next v) → awp (Tri P) h af.body (RetQ af h Q) (initEnv args) h) : Tri P f args h Q := by
  obtain ⟨hok, fn, h1, h2⟩ := hT f af hf
  exact Tri.of_body hP (drawSound hP) h1 hok h2 hn hk

end
end Go.Abs
