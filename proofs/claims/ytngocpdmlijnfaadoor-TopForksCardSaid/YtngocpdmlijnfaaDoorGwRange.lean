/- Ranges over functions: the statement, a round, a call of yield, the way out of a function that holds such loops. No condition. -/
import Derived.Test.YtngocpdmlijnfaaDoorGwMap
import Derived.RangeFuncIn
import Derived.RangeFuncRecord
namespace Go.Gw
set_option linter.unusedVariables false
set_option linter.unusedSimpArgs false
/-- the blocks for what rounds defer: nothing has been deferred -/
def DefsA (ds : List Nat) : Atom where
  own := true
  fp := fun k => k ∈ ds
  ok := fun w => ds.Nodup ∧ ∀ b ∈ ds, w.heap[b]? = some (.deferred (some []))
  loc := fun w w' h hok => ⟨hok.1, fun b hb => (h b hb).trans (hok.2 b hb)⟩
  lt := fun w b hok hb => (Array.getElem?_eq_some_iff.1 (hok.2 b hb)).1
/-- the record of a loop that is ready for a round -/
structure RecOK (R : Loop) (tm : Array Value) (ps : Array Tmp) (as bo : Code) : Prop where
  state : R.state = .ready
  pending : R.pending = none
  tmps : R.tmps = tm
  params : R.params = ps
  assign : R.assign = as
  body : R.body = bo
theorem RecOK.same {R : Loop} {tm : Array Value} {ps : Array Tmp} {as bo : Code} (h : RecOK R tm ps as bo) : ({ R with state := .ready, pending := none } : Loop) = R := by
  obtain ⟨h1, h2, _, _, _, _⟩ := h
  cases R; simp only at h1 h2; subst h1; subst h2; rfl
section
variable {r : Option Nat} {P : Program} {o : Oper} {n : Sz} {fl flU : Slots} {a : Act} {w w0 : World} {v : Value} {M : Nat → Prop} {l : List Atom} {ops : Array Oper} {d : Nat} {K : Act → World → Prop} {Q : Exit → Act → World → Prop}
theorem St.recd {m : Nat} {ds : List Nat} (S : St ⟨m, ds⟩ fl a) : St ⟨m, ds⟩ fl { tmps := a.tmps, defers := ds.map markOf } := ⟨S.size, rfl, S.get⟩
theorem HSat.defs0 (H : HSat M w0 l w) : HSat M w0 (DefsA [] :: l) w := by
  refine ⟨H.fr, fun x hx => ?_, fun x hx ho b hb => ?_, List.pairwise_cons.2 ⟨fun y hy ho b hb => (by cases hb), H.sep⟩⟩
  · rcases List.mem_cons.1 hx with rfl | hx
    · exact ⟨by simp, by simp⟩
    · exact H.ok x hx
  · rcases List.mem_cons.1 hx with rfl | hx
    · cases hb
    · exact H.mine x hx ho b hb
theorem HSat.putBlk {lb : Nat} {ob ob' : Obj} {l' : Obj → List Atom} (H : HSat M w0 l w) [h : HasBlk l lb ob l'] (hth : ThawO (some ob) → ThawO (some ob')) : HSat M w0 (l' ob') (w.putObj lb ob') := by
  have hb := H.blk lb (h := h)
  have hlt := (Array.getElem?_eq_some_iff.1 hb).1
  exact H.set lb (h := h) ob' hth rfl rfl rfl (by simp) (World.putObj_heap_same hlt) (fun k hk => World.putObj_heap_other hk)
/-- the rounds' blocks are shut, one after the other, on the way out -/
theorem leavesM {fn : Func} {R : Value → World → Prop} {tmps : Array Value} (hres : ∀ w, HSat M w0 l w → (results fn tmps).run P w = .ok v w) (hR : ∀ w, HSat M w0 l w → R v w) :
    ∀ (ds : List Nat) (w : World), HSat M w0 (DefsA ds :: l) w → LeavesInM Fence.wide 0 P fn tmps (fun e w' => ∃ v, e = .returned v ∧ R v w') (ds.map markOf) .returning w := by
  intro ds
  induction ds with
  | nil =>
    intro w H
    exact ⟨v, hres w H.tail, v, rfl, hR w H.tail⟩
  | cons b ds ih =>
    intro w H
    have hok := H.ok (DefsA (b :: ds)) (by simp)
    have hb := hok.2 b (by simp)
    have hlt := (Array.getElem?_eq_some_iff.1 hb).1
    have hn := List.nodup_cons.1 hok.1
    refine ⟨by simp, .inl ⟨b, _, rfl, run_takeDeferred hb, ih _ ?_⟩⟩
    have H' : HSat M w0 ([] ++ DefsA (b :: ds) :: l) w := H
    refine HSat.swap (y := DefsA ds) H' rfl rfl ⟨rfl, rfl, rfl, by simp, fun q _ hq => World.putObj_heap_other (fun e => hq (by subst e; simp [DefsA])), fun q _ hq => ?_⟩ ⟨hn.2, fun q hq => ?_⟩ (fun q hq => .inl (by simp only [DefsA] at hq ⊢; exact List.mem_cons_of_mem _ hq))
    · by_cases hqb : q = b
      · subst hqb; rw [World.putObj_heap_same hlt]; trivial
      · rw [World.putObj_heap_other hqb]; exact hq
    · rw [World.putObj_heap_other (fun e => by subst e; exact hn.1 hq)]; exact hok.2 q (by simp [hq])
theorem ret1M {fn : Func} {R : Value → World → Prop} {t : Nat} {m : Nat} {ds : List Nat} (hr : fn.results = #[.tmp t]) (S : St ⟨m, ds⟩ fl a) (H : HSat M w0 (DefsA ds :: l) w) (hv : fl.lookup t = some v) (hR : ∀ w, HSat M w0 l w → R v w) : endP P fn R .ret a w := by
  show LeavesInM Fence.wide 0 P fn a.tmps _ a.defers .returning w
  rw [S.defers]
  exact leavesM (fun w _ => by rw [results_tmp hr, S.get t v hv]) hR ds w H
/-- a call of yield runs a round, which hands back v in w' -/
def YieldRet (P : Program) (lb : Nat) (args : Array Value) (w : World) (R : Value → World → Prop) : Prop :=
  ∃ f tmps as bo, (Instr.yield lb args).run P w = .ok (.round lb f tmps as bo) w ∧ RoundIn Fence.wide 0 P lb f tmps as bo w (fun e w' => ∃ v, e = .returned v ∧ R v w')
theorem YieldRet.mono {lb : Nat} {args : Array Value} {R R' : Value → World → Prop} (h : YieldRet P lb args w R) (hr : ∀ v w', R v w' → R' v w') : YieldRet P lb args w R' := by
  obtain ⟨f, tm, as, bo, h1, h2⟩ := h
  exact ⟨f, tm, as, bo, h1, RoundIn.mono h2 fun e w'' ⟨v, he, hv⟩ => ⟨v, he, hr _ _ hv⟩⟩
theorem op_yield {x : Operand} {xs : Array Operand} {at_ : Array TypeId} {vs : List Value} {lb : Nat} (hw : Region.wanted o (yielded ops a.tmps) = true) (hd : o.dst = some d) (hn : Nat.blt d n.n = true) (ho : o.op = .call { callee := .value x, args := xs, argTypes := at_ }) (S : St n fl a) (hf : ev fl x = some (.func (.yield lb) #[] #[])) (hx : evs fl xs.toList = some vs) {R : Value → World → Prop} (h : YieldRet P lb vs.toArray w R)
    (k : ∀ v w', R v w' → ∀ a', St n ((d, v) :: fl) a' → K a' w') : opw P ops o a w K := by
  obtain ⟨f, tm, as, bo, h1, h2⟩ := h
  have hxs := S.evs hx
  have e2 : xs.map a.eval = vs.toArray := by rw [← hxs, ← Array.toList_map]
  have hrun : (execOp a.eval o).run P w = .ok (.round lb f tm as bo) w := by
    unfold execOp; rw [ho]
    simp only [resolve, S.ev hf, Deferred.ofValue, e2]
    simpa [invoke] using h1
  refine opw_is hw hrun ?_
  show RoundIn Fence.wide 0 P lb f tm as bo w _
  rw [hd]
  exact RoundIn.mono h2 fun e w'' ⟨v, he, hv⟩ => ⟨v, he, k v w'' hv _ (S.put hn v)⟩
theorem yield2 {lb m t u : Nat} {ds : List Nat} {R : Loop} {tm : Array Value} {as bo : Code} {v' : Value} {Rs : Value → World → Prop} (hR : RecOK R tm #[t, u] as bo) (S : St ⟨m, ds⟩ fl { tmps := tm, defers := ds.map markOf }) (H : HSat M w0 l w) [h : HasRd l lb (.loop R)] (ht : Nat.blt t m = true) (hu : Nat.blt u m = true)
    (hk : ∀ a, St ⟨m, []⟩ ((u, v') :: (t, v) :: fl) a → gp (some lb) P as (Exit.then (fun a₁ w₁ => ∃ w₂, (Instr.beginRound lb).run P w₁ = .ok () w₂ ∧ gp (some lb) P bo (roundPost P lb (fun e w' => ∃ v, e = .returned v ∧ Rs v w')) a₁ w₂) (fun _ _ _ => False)) a w) : YieldRet P lb #[v, v'] w Rs := by
  have hb := H.rd lb (h := h)
  refine ⟨_, _, _, _, run_yield hb (by rw [hR.params]; rfl), ?_⟩
  have S0 : St ⟨m, []⟩ fl { tmps := tm, defers := [] } := ⟨S.size, rfl, S.get⟩
  have S1 := S0.put (d := t) (by simpa using ht) v
  have S2 := S1.put (d := u) (by simpa using hu) v'
  have e1 : ((R.params.zip #[v, v']).foldl (fun tmps (x : Tmp × Value) => tmps.setIfInBounds x.1 x.2) R.tmps) = (tm.setIfInBounds t v).setIfInBounds u v' := by rw [hR.params, hR.tmps]; simp
  have := roundIn_of_wpIn (F := Fence.wide) (n := 0) (P := P) (l := lb) (f := R.fn) (tmps := (tm.setIfInBounds t v).setIfInBounds u v') (assign := as) (body := bo) (w := w) (R := fun e w' => ∃ v, e = .returned v ∧ Rs v w') trivial (hk _ S2)
  rw [hR.assign, hR.body]
  exact e1 ▸ this
/-- between a round's assignments and its body -/
theorem r_begin {lb : Nat} {R : Loop} {tm : Array Value} {ps : Array Tmp} {as bo : Code} {l' : Obj → List Atom} {G : World → Prop} (hR : RecOK R tm ps as bo) (H : HSat M w0 l w) [h : HasBlk l lb (.loop R) l'] (k : ∀ w', HSat M w0 (l' (.loop { R with state := .busy })) w' → G w') : ∃ w₂, (Instr.beginRound lb).run P w = .ok () w₂ ∧ G w₂ :=
  ⟨_, run_beginRound (H.blk lb (h := h)) hR.state, k _ (H.putBlk (h := h) (fun h => h))⟩
/-- the round's body has come to its end -/
theorem r_end {lb : Nat} {R : Loop} {tm : Array Value} {ps : Array Tmp} {as bo : Code} {l' : Obj → List Atom} {Rs : Value → World → Prop} (hR : RecOK R tm ps as bo) (H : HSat M w0 l w) [h : HasBlk l lb (.loop { R with state := .busy }) l'] (k : ∀ w', HSat M w0 (l' (.loop R)) w' → Rs (.bool true) w') : roundPost P lb (fun e w' => ∃ v, e = .returned v ∧ Rs v w') .normal a w := by
  refine ⟨_, _, run_endRound none (H.blk lb (h := h)), _, rfl, k _ ?_⟩
  have e : ({ ({ R with state := .busy } : Loop) with state := (if (none : Option Code).isNone = true then LoopState.ready else .done), pending := none } : Loop) = R := by
    obtain ⟨h1, h2, _, _, _, _⟩ := hR
    cases R; simp only at h1 h2; subst h1; subst h2; rfl
  have := H.putBlk (h := h) (ob' := .loop { ({ R with state := .busy } : Loop) with state := (if (none : Option Code).isNone = true then LoopState.ready else .done), pending := none }) (fun h => h)
  rw [e] at this ⊢
  exact this
theorem r_ret {lb : Nat} {R : Loop} {l' : Obj → List Atom} {Rs : Value → World → Prop} (H : HSat M w0 l w) [h : HasBlk l lb (.loop { R with state := .busy }) l'] (k : ∀ w', HSat M w0 (l' (.loop { R with state := .done, pending := some .ret })) w' → Rs (.bool false) w') : roundPost P lb (fun e w' => ∃ v, e = .returned v ∧ Rs v w') .ret a w :=
  ⟨_, _, run_endRound (some .ret) (H.blk lb (h := h)), _, rfl, k _ (H.putBlk (h := h) (fun h => h))⟩
/-- the statement: Φ says what the world holds behind it -/
theorem g_range {g : Operand} {ps : Array Tmp} {as bo : Code} {f : FuncId} {fi cap : List Value} {m : Nat} {ds : List Nat} (Φ : Option Code → List Atom → Prop) (S : St ⟨m, ds⟩ fl a) (H : HSat M w0 (DefsA ds :: l) w) (hg : ev fl g = some (.func (.func f) fi.toArray cap.toArray)) (he : Enters P f)
    (h : ∀ R lb w1, RecOK R a.tmps ps as bo → HSat M w0 (Blk lb (.loop R) :: DefsA (R.defers :: ds) :: l) w1 → Ret P f (fi ++ [Value.func (.yield lb) #[] #[]] ++ cap).toArray w1 (fun _ w2 => ∃ st pend l2, st ≠ .busy ∧ Φ pend l2 ∧ HSat M w0 (Blk lb (.loop { R with state := st, pending := pend }) :: DefsA (R.defers :: ds) :: l2) w2))
    (k : ∀ bd a' w' pend l2, St ⟨m, bd :: ds⟩ fl a' → HSat M w0 (DefsA (bd :: ds) :: l2) w' → Φ pend l2 → (match pend with | none => Q .normal a' w' | some c => gp none P c Q a' w')) : gp none P (.rangeFunc g ps as bo) Q a w := by
  refine wpIn_rangeFunc ?_
  intro fn _
  have hent := run_enterLoop_outer (P := P) (w := w) fn a.tmps ps as bo
  obtain ⟨R, hRdef⟩ : ∃ R : Loop, R = { state := .ready, pending := none, fn, tmps := a.tmps, params := ps, assign := as, body := bo, defers := w.heap.size } := ⟨_, rfl⟩
  have hR : RecOK R a.tmps ps as bo := by subst hRdef; exact ⟨rfl, rfl, rfl, rfl, rfl, rfl⟩
  have hRd : R.defers = w.heap.size := by subst hRdef; rfl
  rw [← hRdef] at hent
  have h1 := H.alloc (.deferred (some [])) trivial
  have h2 := h1.alloc (.loop R) trivial
  have hsz : (w.alloc (.deferred (some []))).heap.size = w.heap.size + 1 := by simp
  rw [hsz] at h2
  have h3 : HSat M w0 (Blk (w.heap.size + 1) (.loop R) :: DefsA (R.defers :: ds) :: l) ((w.alloc (.deferred (some []))).alloc (.loop R)) := by
    rw [hRd]
    have hp := h2.sep
    have hp1 := List.pairwise_cons.1 hp
    have hp2 := List.pairwise_cons.1 hp1.2
    have hp3 := List.pairwise_cons.1 hp2.2
    have hok := h2.ok
    have hd := hok (DefsA ds) (by simp)
    have hb := hok (Blk w.heap.size (.deferred (some []))) (by simp)
    have hmine := h2.mine
    refine ⟨h2.fr, fun x hx => ?_, fun x hx ho b hb' => ?_, List.pairwise_cons.2 ⟨fun y hy ho b hb1 hb2 => ?_, List.pairwise_cons.2 ⟨fun y hy ho b hb1 hb2 => ?_, hp3.2⟩⟩⟩
    · simp only [List.mem_cons] at hx
      rcases hx with rfl | rfl | hx
      · exact hok _ (by simp)
      · refine ⟨List.nodup_cons.2 ⟨fun hm => ?_, hd.1⟩, fun b hb' => ?_⟩
        · exact hp2.1 (DefsA ds) (by simp) (.inl rfl) w.heap.size rfl hm
        · rcases List.mem_cons.1 hb' with rfl | hb'
          · exact hb
          · exact hd.2 b hb'
      · exact hok x (by simp [hx])
    · simp only [List.mem_cons] at hx
      rcases hx with rfl | rfl | hx
      · exact hmine _ (by simp) ho b hb'
      · rcases List.mem_cons.1 hb' with rfl | hb'
        · exact hmine (Blk w.heap.size (.deferred (some []))) (by simp) rfl _ rfl
        · exact hmine (DefsA ds) (by simp) rfl b hb'
      · exact hmine x (by simp [hx]) ho b hb'
    · simp only [List.mem_cons] at hy
      rcases hy with rfl | hy
      · rcases List.mem_cons.1 hb2 with rfl | hb2
        · exact hp1.1 (Blk w.heap.size (.deferred (some []))) (by simp) (.inl rfl) _ hb1 rfl
        · exact hp1.1 (DefsA ds) (by simp) (.inl rfl) b hb1 hb2
      · exact hp1.1 y (by simp [hy]) (.inl rfl) b hb1 hb2
    · rcases List.mem_cons.1 hb1 with rfl | hb1
      · exact hp2.1 y (by simp [hy]) (.inl rfl) _ rfl hb2
      · exact hp3.1 y hy (.inl rfl) b hb1 hb2
  have hmark : ([{ target := .collected w.heap.size, args := #[] }] : List Deferred) = [markOf w.heap.size] := rfl
  refine ⟨_, _, _, { target := .fn (.func f) cap.toArray, args := (fi ++ [Value.func (.yield (w.heap.size + 1)) #[] #[]]).toArray }, (w.alloc (.deferred (some []))).alloc (.loop R), f, (fi ++ [Value.func (.yield (w.heap.size + 1)) #[] #[]] ++ cap).toArray, (w.alloc (.deferred (some []))).alloc (.loop R), hent, ?_, fun _ _ => trivial, ?_, fun h => (by cases h), ?_⟩
  · simp only [resolve, rangeCall, S.ev hg, Deferred.ofValue]
    simp [Act.eval]
  · simpa [invoke] using he ((fi ++ [Value.func (.yield (w.heap.size + 1)) #[] #[]] ++ cap).toArray) ((w.alloc (.deferred (some []))).alloc (.loop R))
  · refine fr_calls (Calls.mono (h R _ _ hR h3) fun e w2 ⟨v, hev, st, pend, l2, hst, hΦ, H2⟩ => ?_)
    subst hev
    refine ⟨pend, _, run_endLoop (H2.blk (w.heap.size + 1)) hst, ?_⟩
    have H3 := (H2.putBlk (lb := w.heap.size + 1) (ob' := .loop { ({ R with state := st, pending := pend } : Loop) with state := .exhausted }) (fun _ => trivial)).tail
    have S' : St ⟨m, R.defers :: ds⟩ fl { a with defers := [markOf w.heap.size] ++ a.defers } := ⟨S.size, by rw [hRd]; simp [S.defers], S.get⟩
    exact k R.defers _ _ pend l2 S' H3 hΦ
end
end Go.Gw
