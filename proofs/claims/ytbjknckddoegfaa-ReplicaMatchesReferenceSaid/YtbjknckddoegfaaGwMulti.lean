/- A region that draws its order and whose loud operations stand in no one chain: several orders, each walked. No condition. -/
import Derived.Test.YtbjknckddoegfaaGwDraw
namespace Go.Gw
set_option linter.unusedVariables false
set_option linter.unusedSimpArgs false
section
variable {r : Option Nat} {P : Program} {ops : Array Oper} {Q : Exit → Act → World → Prop} {md : Region.Mode} {loud tails : List Nat}
def readyB (md : Region.Mode) (ops : Array Oper) (rem : List Nat) (i : Nat) : Bool := match ops[i]? with
  | some o => o.after.toList.all fun e => !Region.binds md e || (decide (e.on < ops.size) && !rem.contains e.on)
  | none => false
/-- whatever is left waits for j, or has nothing to do with it -/
def quietOK (md : Region.Mode) (ops : Array Oper) (tails rem : List Nat) (j : Nat) : Bool :=
  rem.all fun i => i == j || depB md ops ops.size i j || (!tails.contains i && match ops[j]?, ops[i]? with | some oj, some oi => oj.apart ops oi && noSel oj && noSel oi | _, _ => false)
/-- the walk as a tree: a quiet operation is taken first; else whichever may come up comes up -/
def MixT (P : Program) (md : Region.Mode) (ops : Array Oper) (tails : List Nat) (D : World → Prop) (K : Act → World → Prop) : Nat → List Nat → Act → (World → Prop) → Prop
  | 0, rem, a, C => rem = [] ∧ ∀ w, C w → K a w
  | f + 1, rem, a, C => (∃ (free : Bool) (j : Nat) (o : Oper) (v : Value), ops[j]? = some o ∧ j ∈ rem ∧ (readyB md ops rem j && quietOK md ops (if free then [] else tails) rem j) = true ∧ ((Region.wanted o (yielded ops a.tmps) = true ∧ QuietAt P o a (if free then D else C) v) ∨ (Region.wanted o (yielded ops a.tmps) = false ∧ v = undef)) ∧ MixT P md ops tails D K f (rem.erase j) (a.put o.dst v) C) ∨
      (rem.any (readyB md ops rem) = true ∧ ∀ i ∈ rem, readyB md ops rem i = true → ∃ o, ops[i]? = some o ∧ ∀ w, C w → opw P ops o a w (fun a' w' => ∃ C', Stable C' ∧ C' w' ∧ ((∀ w, C' w → C w) ∨ tails.contains i = true) ∧ (∀ w, C' w → D w) ∧ MixT P md ops tails D K f (rem.erase i) a' C'))
theorem quietOK_sub {tails rem rem' : List Nat} {j : Nat} (h : quietOK md ops tails rem j = true) (hs : ∀ x ∈ rem', x ∈ rem) : quietOK md ops tails rem' j = true :=
  List.all_eq_true.2 fun x hx => List.all_eq_true.1 h x (hs x hx)
/-- what is done is closed under what it waits for, in terms of what is left -/
def ClosedR (md : Region.Mode) (ops : Array Oper) (rem : List Nat) : Prop :=
  ∀ i o, ops[i]? = some o → i ∉ rem → ∀ e ∈ o.after, Region.binds md e = true → e.on ∉ rem
theorem dep_left {rem : List Nat} (hcl : ClosedR md ops rem) {j : Nat} (hj : j ∈ rem) :
    ∀ (f i : Nat) (o : Oper), ops[i]? = some o → depB md ops f i j = true → ∃ e ∈ o.after, Region.binds md e = true ∧ e.on ∈ rem := by
  intro f
  induction f with
  | zero => intro i o _ h; cases h
  | succ f ih =>
    intro i o ho h
    simp only [depB, ho] at h
    obtain ⟨e, he, h⟩ := List.any_eq_true.1 h
    simp only [Bool.and_eq_true, Bool.or_eq_true, beq_iff_eq] at h
    obtain ⟨hb, h⟩ := h
    refine ⟨e, by simpa using he, hb, ?_⟩
    rcases h with rfl | h
    · exact hj
    · by_cases hon : e.on ∈ rem
      · exact hon
      · exfalso
        cases heo : ops[e.on]? with
        | none =>
          cases f with
          | zero => cases h
          | succ f => simp [depB, heo] at h
        | some oe =>
          obtain ⟨e', he', hb', hun⟩ := ih e.on oe heo h
          exact hcl e.on oe heo hon e' he' hb' hun
theorem ready_not_dep {rem : List Nat} (hcl : ClosedR md ops rem) {i j : Nat} (hj : j ∈ rem) (hr : readyB md ops rem i = true) : depB md ops ops.size i j = false := by
  cases hd : depB md ops ops.size i j with
  | false => rfl
  | true =>
    unfold readyB at hr
    split at hr
    · rename_i o ho
      obtain ⟨e, he, hb, hm⟩ := dep_left hcl hj ops.size i o ho hd
      have := List.all_eq_true.1 hr e (by simpa using he)
      simp [hb, hm] at this
    · cases hr
theorem ready_sub {rem rem' : List Nat} {i : Nat} (h : readyB md ops rem i = true) (hs : ∀ x ∈ rem', x ∈ rem) : readyB md ops rem' i = true := by
  unfold readyB at h ⊢
  split at h
  · refine List.all_eq_true.2 fun e he => ?_
    have := List.all_eq_true.1 h e he
    simp only [Bool.or_eq_true, Bool.and_eq_true, Bool.not_eq_true', List.contains_eq_mem, decide_eq_false_iff_not] at this ⊢
    rcases this with h1 | ⟨h1, h2⟩
    · exact .inl h1
    · exact .inr ⟨h1, fun hm => h2 (hs _ hm)⟩
  · cases h
theorem closed_erase {rem : List Nat} (hnd : rem.Nodup) (hcl : ClosedR md ops rem) {i : Nat} (hr : readyB md ops rem i = true) : ClosedR md ops (rem.erase i) := by
  intro x o hx hnot e he hb hm
  have hm' := List.mem_of_mem_erase hm
  by_cases hxi : x = i
  · subst hxi
    unfold readyB at hr
    rw [hx] at hr
    have := List.all_eq_true.1 hr e (by simpa using he)
    simp [hb, hm'] at this
  · exact hcl x o hx (fun h => hnot ((List.mem_erase_of_ne hxi).2 h)) e he hb hm'
theorem MixT.pull {tails : List Nat} {D : World → Prop} {K : Act → World → Prop} {i : Nat} {oi : Oper} (hi : ops[i]? = some oi) :
    ∀ (f : Nat) (rem : List Nat) (a : Act) (C : World → Prop), rem.Nodup → ClosedR md ops rem → Stable C → (∀ w, C w → D w) → i ∈ rem → readyB md ops rem i = true → MixT P md ops tails D K (f + 1) rem a C →
      ∀ w, C w → opw P ops oi a w (fun a' w' => ∃ C', Stable C' ∧ C' w' ∧ ((∀ w, C' w → C w) ∨ tails.contains i = true) ∧ (∀ w, C' w → D w) ∧ MixT P md ops tails D K f (rem.erase i) a' C') := by
  intro f
  induction f with
  | zero =>
    intro rem a C hnd hcl hst hCD him hr h w hw
    rcases h with ⟨free, j, o, v, ho, hj, hq, hv, hm⟩ | ⟨_, hb⟩
    · have hij : i = j := by
        have := hm.1
        by_cases hij : i = j
        · exact hij
        · have := (List.mem_erase_of_ne hij).2 him
          rw [hm.1] at this; cases this
      subst hij
      have : o = oi := Option.some.inj (ho.symm.trans hi)
      subst this
      rcases hv with ⟨hwt, hq⟩ | ⟨hwt, rfl⟩
      · rcases hq w (by cases free; exact hw; exact hCD w hw) with hy | ⟨f, args, hc, hr⟩
        · exact opw_val hwt hy ⟨C, hst, hw, .inl (fun _ h => h), hCD, hm⟩
        · refine opw_is hwt hc ?_
          exact Calls.mono hr fun e w' ⟨u, he, hu, hx⟩ => ⟨u, he, C, hst, hst _ _ hw hx, .inl (fun _ h => h), hCD, by subst hu; exact hm⟩
      · exact opw_un hwt ⟨C, hst, hw, .inl (fun _ h => h), hCD, hm⟩
    · obtain ⟨o, ho, h⟩ := hb i him hr
      have : o = oi := Option.some.inj (ho.symm.trans hi)
      subst this
      exact h w hw
  | succ f ih =>
    intro rem a C hnd hcl hst hCD him hr h w hw
    rcases h with ⟨free, j, o, v, ho, hj, hq, hv, hm⟩ | ⟨_, hb⟩
    · by_cases hij : i = j
      · subst hij
        have : o = oi := Option.some.inj (ho.symm.trans hi)
        subst this
        rcases hv with ⟨hwt, hq⟩ | ⟨hwt, rfl⟩
        · rcases hq w (by cases free; exact hw; exact hCD w hw) with hy | ⟨f, args, hc, hr⟩
          · exact opw_val hwt hy ⟨C, hst, hw, .inl (fun _ h => h), hCD, hm⟩
          · refine opw_is hwt hc ?_
            exact Calls.mono hr fun e w' ⟨u, he, hu, hx⟩ => ⟨u, he, C, hst, hst _ _ hw hx, .inl (fun _ h => h), hCD, by subst hu; exact hm⟩
        · exact opw_un hwt ⟨C, hst, hw, .inl (fun _ h => h), hCD, hm⟩
      · have hd := ready_not_dep hcl hj hr
        simp only [Bool.and_eq_true] at hq
        obtain ⟨hjr, hq⟩ := hq
        have hq' := List.all_eq_true.1 hq i him
        simp only [hd, Bool.or_false, Bool.or_eq_true, beq_iff_eq, hij, false_or, Bool.and_eq_true] at hq'
        obtain ⟨hnt, hap⟩ := hq'
        rw [ho, hi] at hap
        simp only [Bool.and_eq_true] at hap
        obtain ⟨⟨hap, hs1⟩, hs2⟩ := hap
        have hsi : ∀ cs b, oi.op ≠ .select cs b := fun cs b e => by simp [noSel, e] at hs2
        have hsj : ∀ cs b, o.op ≠ .select cs b := fun cs b e => by simp [noSel, e] at hs1
        obtain ⟨h1, h2, h3⟩ := Oper.apart_spec hap
        have him' : i ∈ rem.erase j := (List.mem_erase_of_ne hij).2 him
        have hjm' : j ∈ rem.erase i := (List.mem_erase_of_ne (Ne.symm hij)).2 hj
        have hp := ih (rem.erase j) (a.put o.dst v) C (hnd.erase j) (closed_erase hnd hcl hjr) hst hCD him' (ready_sub hr (fun x hx => List.mem_of_mem_erase hx)) hm w hw
        refine opw_mono (opw_put hap hsi hp) ?_
        rintro a' w' ⟨⟨u, rfl⟩, C', hst', hw', hsub, hCD', hm'⟩
        have hsub' : free = false → ∀ w, C' w → C w := fun hf => hsub.elim id (fun h => by subst hf; simp at hnt; simp [hnt] at h)
        refine ⟨C', hst', hw', hsub, hCD', .inl ⟨free, j, o, v, ho, hjm', ?_, ?_, ?_⟩⟩
        · rw [Bool.and_eq_true]; exact ⟨ready_sub hjr (fun x hx => List.mem_of_mem_erase hx), quietOK_sub hq (fun x hx => List.mem_of_mem_erase hx)⟩
        · rw [wanted_put o a oi.dst u h3]
          rcases hv with ⟨hwt, hqv⟩ | ⟨hwt, rfl⟩
          · refine .inl ⟨hwt, fun w1 hw1 => ?_⟩
            have := hqv w1 (by cases free; exact hsub' rfl w1 hw1; exact hw1)
            unfold Yld CallOp at *
            rwa [execOp_put o hsj a oi.dst u h3]
          · exact .inr ⟨hwt, rfl⟩
        · rw [List.erase_comm]; exact hm'
    · obtain ⟨o, ho, h⟩ := hb i him hr
      have : o = oi := Option.some.inj (ho.symm.trans hi)
      subst this
      exact h w hw
theorem mixT_any {tails : List Nat} {D : World → Prop} {K : Act → World → Prop} {Q' : Exit → Act → World → Prop} (hQ : ∀ a w, K a w → Q' .normal a w) :
    ∀ (fuel : Nat) (rem : List Nat) (listed : Array Bool) (a : Act) (C : World → Prop), Stable C → (∀ w, C w → D w) → rem.Nodup → listed.size = ops.size → ClosedR md ops rem →
      (∀ i, i < ops.size → (listed.getD i true = false ↔ i ∈ rem)) → (∀ i ∈ rem, i < ops.size) → rem.length = fuel → MixT P md ops tails D K fuel rem a C → ∀ w, C w → wpAnyIn (FR r) 0 P md ops Q' fuel listed a w := by
  intro fuel
  induction fuel with
  | zero =>
    intro rem listed a C hst hCD hnd hsz hcl hmem hlt hlen hm w hw
    obtain ⟨rfl, hm⟩ := hm
    refine ⟨?_, hQ _ _ (hm w hw)⟩
    cases hr : Region.ready md ops listed with
    | nil => rfl
    | cons x xs =>
      exfalso
      have hx : x ∈ Region.ready md ops listed := by rw [hr]; simp
      obtain ⟨h0, o, ho, _⟩ := mem_ready.1 hx
      have := (hmem x (Array.getElem?_eq_some_iff.1 ho).1).1 h0
      cases this
  | succ fuel ih =>
    intro rem listed a C hst hCD hnd hsz hcl hmem hlt hlen hm w hw
    have hready : ∀ i, i ∈ Region.ready md ops listed ↔ (i ∈ rem ∧ readyB md ops rem i = true) := by
      intro i
      rw [mem_ready]
      constructor
      · rintro ⟨h0, o, ho, hall⟩
        have hi := (Array.getElem?_eq_some_iff.1 ho).1
        refine ⟨(hmem i hi).1 h0, ?_⟩
        unfold readyB; rw [ho]
        refine List.all_eq_true.2 fun e he => ?_
        cases hb : Region.binds md e with
        | false => simp
        | true =>
          have hl := hall e (by simpa using he) hb
          have hlt' : e.on < listed.size := by
            rcases Nat.lt_or_ge e.on listed.size with h' | h'
            · exact h'
            · simp [Array.getElem?_eq_none h'] at hl
          have : ¬ e.on ∈ rem := fun hm => by
            have := (hmem e.on (by omega)).2 hm
            simp [hlt'] at this hl; rw [hl] at this; cases this
          simp [this]; omega
      · rintro ⟨hi, hr⟩
        refine ⟨(hmem i (hlt i hi)).2 hi, ?_⟩
        unfold readyB at hr
        split at hr
        · rename_i o ho
          refine ⟨o, ho, fun e he hb => ?_⟩
          have := List.all_eq_true.1 hr e (by simpa using he)
          rw [hb] at this
          simp only [Bool.not_true, Bool.false_or, Bool.and_eq_true, decide_eq_true_eq, Bool.not_eq_true', List.contains_eq_mem, decide_eq_false_iff_not] at this
          have h8 : ¬ listed.getD e.on true = false := fun hf => this.2 ((hmem e.on this.1).1 hf)
          have : e.on < listed.size := by omega
          simp [this] at h8 ⊢; exact h8
        · cases hr
    refine ⟨fun hr => ?_, fun i hi => ?_⟩
    · exfalso
      have : ∃ i ∈ rem, readyB md ops rem i = true := by
        rcases hm with ⟨free, j, o, v, ho, hj, hq, _⟩ | ⟨hany, _⟩
        · simp only [Bool.and_eq_true] at hq; exact ⟨j, hj, hq.1⟩
        · obtain ⟨i, hi, h⟩ := List.any_eq_true.1 hany; exact ⟨i, hi, h⟩
      obtain ⟨i, hi⟩ := this
      have := (hready i).2 hi
      rw [hr] at this; cases this
    · obtain ⟨him, hir⟩ := (hready i).1 hi
      obtain ⟨_, oi, hoi, hall⟩ := mem_ready.1 hi
      have hp := MixT.pull (P := P) (md := md) (tails := tails) (D := D) (K := K) hoi fuel rem a C hnd hcl hst hCD him hir hm w hw
      have h2 := opw_mono (K' := fun a' w' => wpAnyIn (FR r) 0 P md ops Q' fuel (listed.setIfInBounds i true) a' w') hp (fun a' w' ⟨C', hst', hw', _, hCD', hm'⟩ => by
        have hil : i < listed.size := by have := hlt i him; omega
        refine ih (rem.erase i) _ a' C' hst' hCD' (hnd.erase i) (by simp [hsz]) (closed_erase hnd hcl hir) ?_ (fun x hx => hlt x (List.mem_of_mem_erase hx)) (by rw [List.length_erase_of_mem him, hlen]; rfl) hm' w' hw'
        intro x hx
        by_cases hxi : i = x
        · subst hxi
          constructor
          · intro h; simp [hil] at h
          · intro h; exact absurd h (fun h => by have := hnd.not_mem_erase (a := i); exact this h)
        · rw [getD_set_ne true hxi, hmem x hx, List.mem_erase_of_ne (Ne.symm hxi)])
      unfold wpOpIn
      rw [hoi]
      exact opw_op h2
variable {ro : List Atom} {n : Sz} {d : Nat} {fl : Slots} {a : Act} {w0 : World} {M : Nat → Prop} {l : List Atom} {o : Oper} {v : Value} {K : Act → World → Prop} {f i : Nat} {rem : List Nat}
theorem t_st (ro : List Atom) [ROs ro] [HasRO l ro] {id : Nat} {w : World} (hm : P.follows .mixedOrders = true) (H : HSat M w0 l w) (h : MixT P .any ops tails (RO ro) (Q .normal) ops.size (List.range ops.size) a (HSat M w0 l)) : gp r P (Code.region id ops true) Q a w := by
  refine wpIn_region_any hm ?_
  have H' : HSat M w0 l { w with drawn := w.drawn + 1 } := H.ext (Ext.drawn w _)
  refine mixT_any (fun _ _ h => h) ops.size (List.range ops.size) _ a _ stable_hsat (RO.of ROs.all) List.nodup_range (by simp) ?_ ?_ (by simp) (by simp) h _ H'
  · intro i o hi hn
    exact absurd (List.mem_range.2 (Array.getElem?_eq_some_iff.1 hi).1) hn
  · intro i hi; simp [hi]
theorem t_q {rem' : List Nat} (i : Nat) (hi : ops[i]? = some o) (hm : (rem.contains i && (readyB .any ops rem i && quietOK .any ops tails rem i)) = true) (hr : rem.erase i = rem') (hg : o.guard = none) (hd : o.dst = some d) (hn : Nat.blt d n.n = true) (S : St n fl a) (hy : ∀ w, HSat M w0 l w → Yld P o a w v)
    (k : ∀ a', St n ((d, v) :: fl) a' → MixT P .any ops tails (RO ro) K f rem' a' (HSat M w0 l)) : MixT P .any ops tails (RO ro) K (f + 1) rem a (HSat M w0 l) := by
  rw [Bool.and_eq_true] at hm
  refine .inl ⟨false, i, o, v, hi, by simpa using hm.1, hm.2, .inl ⟨wn hg, fun w h => .inl (hy w h)⟩, ?_⟩
  rw [hd, hr]; exact k _ (S.put hn v)
/-- a quiet operation that does not look at memory -/
theorem t_p {rem' : List Nat} (i : Nat) (hi : ops[i]? = some o) (hm : (rem.contains i && (readyB .any ops rem i && quietOK .any ops [] rem i)) = true) (hr : rem.erase i = rem') (hg : o.guard = none) (hd : o.dst = some d) (hn : Nat.blt d n.n = true) (S : St n fl a) (hy : ∀ w, Yld P o a w v)
    (k : ∀ a', St n ((d, v) :: fl) a' → MixT P .any ops tails (RO ro) K f rem' a' (HSat M w0 l)) : MixT P .any ops tails (RO ro) K (f + 1) rem a (HSat M w0 l) := by
  rw [Bool.and_eq_true] at hm
  refine .inl ⟨true, i, o, v, hi, by simpa using hm.1, hm.2, .inl ⟨wn hg, fun w _ => .inl (hy w)⟩, ?_⟩
  rw [hd, hr]; exact k _ (S.put hn v)
/-- a quiet operation that looks only at atoms that nothing of the region turns -/
theorem t_f {rem' : List Nat} (i : Nat) (hi : ops[i]? = some o) (hm : (rem.contains i && (readyB .any ops rem i && quietOK .any ops [] rem i)) = true) (hr : rem.erase i = rem') (hg : o.guard = none) (hd : o.dst = some d) (hn : Nat.blt d n.n = true) (S : St n fl a) (hy : ∀ w, HSat (fun _ => True) w ro w → Yld P o a w v)
    (k : ∀ a', St n ((d, v) :: fl) a' → MixT P .any ops tails (RO ro) K f rem' a' (HSat M w0 l)) : MixT P .any ops tails (RO ro) K (f + 1) rem a (HSat M w0 l) := by
  rw [Bool.and_eq_true] at hm
  refine .inl ⟨true, i, o, v, hi, by simpa using hm.1, hm.2, .inl ⟨wn hg, fun w h => .inl (hy w (RO.sat h))⟩, ?_⟩
  rw [hd, hr]; exact k _ (S.put hn v)
/-- a branch: rs may come up -/
theorem t_b (rs : List Nat) (hrs : rem.filter (readyB .any ops rem) = rs) (hne : rs.isEmpty = false)
    (h : ∀ i ∈ rs, ∃ o, ops[i]? = some o ∧ ∀ w, HSat M w0 l w → opw P ops o a w (fun a' w' => ∃ C', Stable C' ∧ C' w' ∧ ((∀ w, C' w → HSat M w0 l w) ∨ tails.contains i = true) ∧ (∀ w, C' w → RO ro w) ∧ MixT P .any ops tails (RO ro) K f (rem.erase i) a' C')) : MixT P .any ops tails (RO ro) K (f + 1) rem a (HSat M w0 l) := by
  subst hrs
  refine .inr ⟨?_, fun i hi hr => h i (List.mem_filter.2 ⟨hi, hr⟩)⟩
  cases hf : rem.filter (readyB .any ops rem) with
  | nil => rw [hf] at hne; cases hne
  | cons x xs =>
    have : x ∈ rem.filter (readyB .any ops rem) := by rw [hf]; simp
    obtain ⟨h1, h2⟩ := List.mem_filter.1 this
    exact List.any_eq_true.2 ⟨x, h1, h2⟩
theorem t_next [ROs ro] {a' : Act} {w' : World} {l' : List Atom} {rem' : List Nat} [HasRO l' ro] (H : HSat M w0 l' w') (hs : l.Sublist l') (hr : rem.erase i = rem') (h : MixT P .any ops tails (RO ro) K f rem' a' (HSat M w0 l')) :
    ∃ C', Stable C' ∧ C' w' ∧ ((∀ w, C' w → HSat M w0 l w) ∨ tails.contains i = true) ∧ (∀ w, C' w → RO ro w) ∧ MixT P .any ops tails (RO ro) K f (rem.erase i) a' C' :=
  ⟨_, stable_hsat, H, .inl (fun w h => h.sub hs), RO.of ROs.all, hr ▸ h⟩
theorem t_tail [ROs ro] {a' : Act} {w' : World} {l' : List Atom} {rem' : List Nat} [HasRO l' ro] (H : HSat M w0 l' w') (ht : tails.contains i = true) (hr : rem.erase i = rem') (h : MixT P .any ops tails (RO ro) K f rem' a' (HSat M w0 l')) :
    ∃ C', Stable C' ∧ C' w' ∧ ((∀ w, C' w → HSat M w0 l w) ∨ tails.contains i = true) ∧ (∀ w, C' w → RO ro w) ∧ MixT P .any ops tails (RO ro) K f (rem.erase i) a' C' :=
  ⟨_, stable_hsat, H, .inr ht, RO.of ROs.all, hr ▸ h⟩
theorem t_nil (h : ∀ w, HSat M w0 l w → K a w) : MixT P .any ops tails (RO ro) K 0 [] a (HSat M w0 l) := ⟨rfl, h⟩
end
end Go.Gw
