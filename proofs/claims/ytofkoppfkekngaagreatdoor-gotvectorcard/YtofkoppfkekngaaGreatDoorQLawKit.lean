/- From a law's triple to its row: arguments that read as they did; where the arguments lie. -/
import Derived.Test.YtofkoppfkekngaaGreatDoorCards
import Derived.Test.YtofkoppfkekngaaGreatDoorTie
import Derived.Test.YtofkoppfkekngaaGreatDoorBaseE
import Derived.ProofKit
import Derived.OpenShut
import Derived.ChangeSlices
import Derived.Carry
import Derived.LaidMore
import Derived.Lay
import Derived.SevenTiedAt
import Derived.Stop.Joined
namespace Go.Proofs.YtofkoppfkekngaaGreatDoor
open Go.Abs Go.ChangeShapes Go.WideShapes Go.ChangeAt Go.RowKit
set_option linter.unusedSimpArgs false

theorem own : ownKnob Tryz.prog.godebug = none := by kernel_rfl

section
variable {H : Type} {enc : TypeId × Value → H}

theorem laidOut : laidOutB Tryz.prog = true := by kernel_rfl

theorem trodAll_stays {W W' : World} {sp : Nat → Bool} (hb : Below W.heap.size W W') : ∀ (ts : List TypeId) (vs : List Value) (ds : List (DataW H)) (ps : List MemPlace),
    DataW.TrodAll enc Tryz.prog W 0 (fun _ => true) true ts vs ds ps → (∀ t ∈ ts, Tryz.prog.readableRec t = true ∧ t < Tryz.prog.types.size) → (∀ p ∈ ps, p.block < W.heap.size) → (∀ p ∈ ps, sp p.block = true) → DataW.TrodAll enc Tryz.prog W' 0 sp true ts vs ds ps
  | [], [], [], ps, h, _, _, _ => h
  | [], _ :: _, _, _, h, _, _, _ => h.elim
  | [], [], _ :: _, _, h, _, _, _ => h.elim
  | _ :: _, [], _, _, h, _, _, _ => h.elim
  | _ :: _, _ :: _, [], _, h, _, _, _ => h.elim
  | t :: ts, v :: vs, d :: ds, ps, h, hr, hlt, hs => by
    obtain ⟨p, q, h1, h2, rfl⟩ := h
    obtain ⟨r1, r2⟩ := hr t (by simp)
    exact ⟨p, q, WideElems.Trod_stays laidOut r1 r2 h1 (fun x hx => hb.same (hlt x (by simp [hx]))) (fun x hx => hs x (by simp [hx])),
      trodAll_stays hb ts vs ds q h2 (fun t ht => hr t (by simp [ht])) (fun x hx => hlt x (by simp [hx])) (fun x hx => hs x (by simp [hx])), rfl⟩

/-- What a row asks behind a law's call. -/
theorem law_post {fn : Func} {s : ChangeSpec} {W W' : World} {args : Array Value} {ds gs : List (DataW H)} {before : List MemPlace} (hW : DataW.Whole enc Tryz.prog fn.params.toList s.vars false W args.toList ds gs before) (hv : s.vars = []) (hr : fn.resultTypes = #[4])
    (hfn : (s.fn H ds).results = [.lit (.bool true)] ∧ (s.fn H ds).args = ds ∧ (s.fn H ds).vars = []) (hread : ∀ t ∈ fn.params.toList, Tryz.prog.readableRec t = true ∧ t < Tryz.prog.types.size) (hb : Below W.heap.size W W') :
    s.post enc Tryz.prog fn false true false false W args (.bool true) W' := by
  have hW' := hW
  obtain ⟨p, q, hA, hV, rfl, _, _⟩ := hW
  rw [hv] at hV
  obtain ⟨rfl, rfl⟩ := trodVars_none hV
  have hlt : ∀ x ∈ p, x.block < W.heap.size := fun x hx => hW'.lt x (by simpa using hx)
  refine ⟨ds, [], _, [], p, [], hW', ?_, ?_, ?_, hb.frame _, fun h => by cases h⟩
  · rw [List.append_nil, hfn.1, hr]
    exact trodAll_mk1 (shut_bool Tryz.underlying4 _)
  · rw [List.append_nil, hfn.2.1]
    exact trodAll_stays hb _ _ _ _ hA hread hlt (fun x hx => by simpa using hlt x hx)
  · rw [hv, List.append_nil, hfn.2.2]
    rfl

end

/-- A triple's call, in a world. -/
theorem call_of_tri {f : FuncId} {avs : List AV} {h : Heap} (hT : Tri Tryz.prog f avs h fun u _ => u = .sc (.bool true)) {β : Names} {W : World} {args : Array Value} (R : Rel W.heap.size β h W.heap) (ha : All2 (VRel β) avs args.toList) :
    Calls Tryz.prog f args W fun e W' => e = .returned (.bool true) ∧ Below W.heap.size W W' := by
  refine (hT.2 W.heap.size β W args R ha).mono ?_
  rintro en W' ⟨c, v, h', β', rfl, rfl, hv, _, S⟩
  exact ⟨by rw [show c = .bool true from hv], S.below⟩

/-- Some block of cells lies in the world. -/
def SomeBlock (W : World) : Prop := ∃ (b : Nat) (c : Array Value) (e : TypeId) (fr : Nat × Nat), W.heap[b]? = some (.cells c e fr)

theorem someBlock_of_cell {W : World} {a : Addr} {v : Value} (h : W.cell? a = some v) : SomeBlock W := by
  unfold World.cell? at h
  split at h
  · rename_i c e fr hc
    exact ⟨_, c, e, fr, hc⟩
  · cases h

/-- No arguments that name an object. -/
theorem rel_none (W : World) : Rel W.heap.size (fun _ => none) (hp []) W.heap := by
  refine ⟨fun _ _ h => (nomatch h), fun k o hk => ?_, fun k _ o _ _ _ _ _ _ _ hk => ?_, Nat.le_refl _⟩
  all_goals
    rw [hp_get] at hk
    simp at hk

/-- One object that is read. -/
theorem rel_one {W : World} {b o n : Nat} {vs : List Sc} {c : Array Value} {e : TypeId} {fr : Nat × Nat} (hc : W.heap[b]? = some (.cells c e fr)) (h1 : o + n ≤ c.size) (h2 : vs.length ≤ n) (hr : RowRel (fun k => if k = 0 then some (b, o, n) else none) vs c o) :
    Rel W.heap.size (fun k => if k = 0 then some (b, o, n) else none) (hp [some (.ro vs)]) W.heap := by
  have hlt : b < W.heap.size := (Array.getElem?_eq_some_iff.1 hc).1
  refine ⟨fun k x hx => ?_, fun k x hk => ?_, fun k k' x x' _ _ _ _ _ _ hk _ ho _ _ _ _ => ?_, Nat.le_refl _⟩
  · split at hx
    · rename_i h; rw [h]; exact Nat.zero_lt_one
    · cases hx
  · rw [hp_get] at hk
    match k, hk with
    | 0, hk => cases hk; exact ⟨b, o, n, rfl, hlt, c, e, fr, hc, h1, h2, hr⟩
    | k + 1, hk => simp at hk
  · rw [hp_get] at hk
    match k, hk with
    | 0, hk => cases hk; cases ho
    | k + 1, hk => simp at hk

/-- No object, one name free. -/
theorem rel_free (W : World) : Rel W.heap.size (fun _ => none) (hp [none]) W.heap := by
  refine ⟨fun _ _ h => (nomatch h), fun k o hk => ?_, fun k _ o _ _ _ _ _ _ _ hk => ?_, Nat.le_refl _⟩
  all_goals
    rw [hp_get] at hk
    match k, hk with
    | 0, hk => cases hk
    | k + 1, hk => simp at hk

theorem all2_one {α γ : Type} {R : α → γ → Prop} {a : α} {c : γ} (h : R a c) : All2 R [a] [c] := ⟨h, trivial⟩

section
variable {H : Type} {enc : TypeId × Value → H}

/-- A slice of ints that is handed in. -/
theorem arg_ints {P : Program} {W : World} (hsb : SomeBlock W) {t e : TypeId} (ht : P.underlying t = some (.slice e)) (he : P.underlying e = some (.int .i64)) (hc : P.cellsOf e = 1) {v : Value} {d : DataW H} {ps : List MemPlace} {r : Reach} {b0 : Nat} (hval : Value.okWide P W r b0 t v) (h : DataW.Trod enc P W 0 (fun _ => true) true t v d ps) :
    v = .slice none 0 0 ∨ ∃ (l : List Int) (β : Names), Rel W.heap.size β (hp [some (.ro (ints l))]) W.heap ∧ ScRel β (.slice 0 0 l.length 1) v := by
  have hsl := okWide_slice (P := P) ht hval
  obtain ⟨a0, l0, c0, h0⟩ := hsl
  subst h0
  obtain ⟨fuel, h⟩ := h
  rcases open_ints ht he hc h with ⟨h1, _⟩ | ⟨a, len, cap, zs, h1, _, hl, hcap, hz, _, hcell, _⟩
  · exact .inl (List.cons.inj (show [Value.slice a0 l0 c0] = [.slice none 0 0] from h1)).1
  · right
    have h1 := (List.cons.inj (show [Value.slice a0 l0 c0] = [.slice (some a) len cap] from h1)).1
    rw [h1]
    have hz : zs.length = cap := by simpa using hz
    rcases Nat.eq_zero_or_pos cap with h0 | h0
    · have hl0 : len = 0 := by omega
      subst h0; subst hl0
      obtain ⟨b, c, e', fr, hb⟩ := hsb
      refine ⟨[], _, rel_one (o := 0) (n := 0) hb (by omega) (by simp [ints]) (fun i s hi => by simp [ints] at hi), a, 0, rfl, by omega, hcap, ⟨_, rfl⟩, .inl rfl⟩
    · obtain ⟨b, off, rfl, hat⟩ := ints_at hcell (by omega)
      have hblk : ∃ c e' fr, W.heap[b]? = some (.cells c e' fr) := by
        have := hat 0 (by omega)
        unfold World.cell? at this
        split at this
        · rename_i c e' fr hc; exact ⟨c, e', fr, hc⟩
        · cases this
      obtain ⟨c, e', fr, hb⟩ := hblk
      have hcs : ∀ j, j < cap → c[off + j]? = some (.int .i64 (zs.getD j 0)) := fun j hj => by
        have := hat j (by omega)
        unfold World.cell? at this
        rw [hb] at this
        simpa using this
      have hsz : off + cap ≤ c.size := by
        have := hcs (cap - 1) (by omega)
        have := (Array.getElem?_eq_some_iff.1 this).1
        omega
      refine ⟨zs.take len, _, rel_one (o := off) (n := cap) hb hsz (by simp [ints]; omega) (fun i s hi => ?_), ⟨b, off, none⟩, cap, ?_, by simp; omega, hcap, ⟨_, rfl⟩, .inr ⟨b, off, cap, rfl, rfl, by omega⟩⟩
      · simp only [ints, List.getElem?_map, Option.map_eq_some_iff] at hi
        obtain ⟨x, hx, rfl⟩ := hi
        rw [List.getElem?_take] at hx
        split at hx
        · rename_i hil
          refine ⟨_, hcs i (by omega), ?_⟩
          rw [List.getD_eq_getElem?_getD, hx]; rfl
        · cases hx
      · rw [List.length_take]
        congr 1
        omega

end
/-- The closed facts, limb by limb. -/
theorem joined_of {P : Program} {f : FuncId} {fn : Func} {s : ChangeSpec} {c : OpenClaim} (k1 : c.wf (OpenSpec.ofChange s) = true) (k2 : laidOutB P = true) (k3 : mapsRowed P = true) (k4 : fn.params.all (P.readableRec ·) = true) (k5 : namedTie P c.named s.vars = true)
    (k6 : (c.stops == []) = true) (k7 : (P.stops == []) = true) (k8 : (c.knobs == []) = true) (k9 : (P.stopKnobs == []) = true) (k10 : (c.inPlace == P.inPlace f) = true) (k11 : (c.unfollowed == P.unfollowed f) = true) (k12 : (c.recurses == P.recurses f) = true) (k13 : (c.named == P.varsNamed f) = true)
    (k14 : (c.maps == (fn.params.toList ++ s.plain.varTypes P).any (P.mapsRec ·)) = true) (k15 : (c.ifaces == (fn.params.toList ++ s.plain.varTypes P).any (P.ifacesRec ·)) = true) (k16 : (c.mapsOut == P.mapsAmong fn.resultTypes.toList) = true) (k17 : (c.loops == (fn.params.toList ++ s.plain.varTypes P).any (P.loopsFrom ·)) = true)
    (k18 : (c.wideKeys == (fn.params.toList ++ s.plain.varTypes P ++ fn.resultTypes.toList).any (P.wideKeysFrom ·)) = true) (k19 : s.vars.all (P.varReadable ·) = true) (k20 : fn.resultTypes.all (fun t => P.readableRec t && decide (t < P.types.size)) = true) (k21 : (c.ifacesOut == fn.resultTypes.toList.any (P.ifacesRec ·)) = true)
    (k22 : (c.loopsOut == fn.resultTypes.toList.any (P.loopsFrom ·)) = true) (k23 : (c.plainKeys == P.plainKeys) = true) (k24 : c.shortTexts.isNone = true) (k25 : P.stopsHeard = true) (k26 : P.mayEnter = true) (k27 : (c.lifted == P.liftsFinal) = true) (k28 : (P.make == some c.make) = true)
    (k29 : (c.kinds == (if c.domain.isEmpty then [] else fn.params.toList.map fun t => match P.underlying t with | some (.int k) => some k | _ => none)) = true) (k30 : (c.pinned == c.pinnedBy) = true) (k31 : (c.veiled == (fn.params.toList ++ s.plain.varTypes P ++ fn.resultTypes.toList).any (P.veiledRec ·)) = true)
    (k32 : c.veiledFits P fn.params.toList (fn.params.toList ++ s.plain.varTypes P ++ fn.resultTypes.toList) = true) : joinedFacts P f fn s c = true := by
  unfold joinedFacts
  simp only [Bool.and_eq_true]
  repeat' apply And.intro
  all_goals assumption

theorem laid_block {W : World} (h : laidMetH Tryz.prog Rows.vecRunsRow.laid W) : SomeBlock W := by
  rw [MakeChecks.laidMetH_plain _ _ _ (by kernel_rfl)] at h
  obtain ⟨ps, ⟨g, t, cs, fuel, p, q, hg, ht, hv, hd, _, _⟩, _, _⟩ := h
  unfold World.var? at hv
  obtain ⟨g', _, hv⟩ := Option.bind_eq_some_iff.1 hv
  split at hv
  · rename_i c e fr hb
    exact ⟨_, c, e, fr, hb⟩
  · cases hv

end Go.Proofs.YtofkoppfkekngaaGreatDoor
