/- A region that draws its order and whose loud operations stand in no one chain: several orders, each walked. No condition. -/
import Derived.Test.YtngocpdmlijnfaaDoorGwDraw
namespace Go.Gw
set_option linter.unusedVariables false
set_option linter.unusedSimpArgs false
section
variable {r : Option Nat} {P : Program} {ops : Array Oper} {Q : Exit → Act → World → Prop} {md : Region.Mode} {loud tails : List Nat}
def readyB (md : Region.Mode) (ops : Array Oper) (rem : List Nat) (i : Nat) : Bool := match ops[i]? with
  | some o => o.after.toList.all fun e => !Region.binds md e || (decide (e.on < ops.size) && !rem.contains e.on)
  | none => false
/-- whatever is left waits for j, or has nothing to do with it -/
def quietOK (md : Region.Mode) (ops : Array Oper) (tails rem : List Nat) (j : Nat) : Bool :=
  rem.all fun i => i == j || depB md ops ops.size i j || (!tails.contains i && match ops[j]?, ops[i]? with | some oj, some oi => oj.apart ops oi && noSel oj && noSel oi | _, _ => false)
/-- the walk as a tree: a quiet operation is taken first; else whichever may come up comes up -/
def MixT (P : Program) (md : Region.Mode) (ops : Array Oper) (tails : List Nat) (D : World → Prop) (K : Act → World → Prop) : Nat → List Nat → Act → (World → Prop) → Prop
  | 0, rem, a, C => rem = [] ∧ ∀ w, C w → K a w
  | f + 1, rem, a, C => (∃ (free : Bool) (j : Nat) (o : Oper) (v : Value), ops[j]? = some o ∧ j ∈ rem ∧ (readyB md ops rem j && quietOK md ops (if free then [] else tails) rem j) = true ∧ ((Region.wanted o (yielded ops a.tmps) = true ∧ QuietAt P o a (if free then D else C) v) ∨ (Region.wanted o (yielded ops a.tmps) = false ∧ v = undef)) ∧ MixT P md ops tails D K f (rem.erase j) (a.put o.dst v) C) ∨
      (rem.any (readyB md ops rem) = true ∧ ∀ i ∈ rem, readyB md ops rem i = true → ∃ o, ops[i]? = some o ∧ ∀ w, C w → opw P ops o a w (fun a' w' => ∃ C', Stable C' ∧ C' w' ∧ ((∀ w, C' w → C w) ∨ tails.contains i = true) ∧ (∀ w, C' w → D w) ∧ MixT P md ops tails D K f (rem.erase i) a' C'))
theorem quietOK_sub {tails rem rem' : List Nat} {j : Nat} (h : quietOK md ops tails rem j = true) (hs : ∀ x ∈ rem', x ∈ rem) : quietOK md ops tails rem' j = true :=
  List.all_eq_true.2 fun x hx => List.all_eq_true.1 h x (hs x hx)
/-- what is done is closed under what it waits for, in terms of what is left -/
def ClosedR (md : Region.Mode) (ops : Array Oper) (rem : List Nat) : Prop :=
  ∀ i o, ops[i]? = some o → i ∉ rem → ∀ e ∈ o.after, Region.binds md e = true → e.on ∉ rem
theorem dep_left {rem : List Nat} (hcl : ClosedR md ops rem) {j : Nat} (hj : j ∈ rem) :
    ∀ (f i : Nat) (o : Oper), ops[i]? = some o → depB md ops f i j = true → ∃ e ∈ o.after, Region.binds md e = true ∧ e.on ∈ rem := by
  intro f
  induction f with
  | zero => intro i o _ h; cases h
  | succ f ih =>
    intro i o ho h
    simp only [depB, ho] at h
    obtain ⟨e, he, h⟩ := List.any_eq_true.1 h
    simp only [Bool.and_eq_true, Bool.or_eq_true, beq_iff_eq] at h
    obtain ⟨hb, h⟩ := h
    refine ⟨e, by simpa using he, hb, ?_⟩
    rcases h with rfl | h
    · exact hj
    · by_cases hon : e.on ∈ rem
      · exact hon
      · exfalso
        cases heo : ops[e.on]? with
        | none =>
          cases f with
          | zero => cases h
          | succ f => simp [depB, heo] at h
        | some oe =>
          obtain ⟨e', he', hb', hun⟩ := ih e.on oe heo h
          exact hcl e.on oe heo hon e' he' hb' hun
theorem ready_not_dep {rem : List Nat} (hcl : ClosedR md ops rem) {i j : Nat} (hj : j ∈ rem) (hr : readyB md ops rem i = true) : depB md ops ops.size i j = false := by
  cases hd : depB md ops ops.size i j with
  | false => rfl
  | true =>
    unfold readyB at hr
    split at hr
    · rename_i o ho
      obtain ⟨e, he, hb, hm⟩ := dep_left hcl hj ops.size i o ho hd
      have := List.all_eq_true.1 hr e (by simpa using he)
      simp [hb, hm] at this
    · cases hr
theorem ready_sub {rem rem' : List Nat} {i : Nat} (h : readyB md ops rem i = true) (hs : ∀ x ∈ rem', x ∈ rem) : readyB md ops rem' i = true := by
  unfold readyB at h ⊢
  split at h
  · refine List.all_eq_true.2 fun e he => ?_
    have := List.all_eq_true.1 h e he
    simp only [Bool.or_eq_true, Bool.and_eq_true, Bool.not_eq_true', List.contains_eq_mem, decide_eq_false_iff_not] at this ⊢
    rcases this with h1 | ⟨h1, h2⟩
    · exact .inl h1
    · exact .inr ⟨h1, fun hm => h2 (hs _ hm)⟩
  · cases h
theorem closed_erase {rem : List Nat} (hnd : rem.Nodup) (hcl : ClosedR md ops rem) {i : Nat} (hr : readyB md ops rem i = true) : ClosedR md ops (rem.erase i) := by
  intro x o hx hnot e he hb hm
  have hm' := List.mem_of_mem_erase hm
  by_cases hxi : x = i
  · subst hxi
    unfold readyB at hr
    rw [hx] at hr
    have := List.all_eq_true.1 hr e (by simpa using he)
    simp [hb, hm'] at this
  · exact hcl x o hx (fun h => hnot ((List.mem_erase_of_ne hxi).2 h)) e he hb hm'
theorem MixT.pull {tails : List Nat} {D : World → Prop} {K : Act → World → Prop} {i : Nat} {oi : Oper} (hi : ops[i]? = some oi) :
    ∀ (f : Nat) (rem : List Nat) (a : Act) (C : World → Prop), rem.Nodup → ClosedR md ops rem → Stable C → (∀ w, C w → D w) → i ∈ rem → readyB md ops rem i = true → MixT P md ops tails D K (f + 1) rem a C →
      ∀ w, C w → opw P ops oi a w (fun a' w' => ∃ C', Stable C' ∧ C' w' ∧ ((∀ w, C' w → C w) ∨ tails.contains i = true) ∧ (∀ w, C' w → D w) ∧ MixT P md ops tails D K f (rem.erase i) a' C') := by
  intro f
  induction f with
  | zero =>
    intro rem a C hnd hcl hst hCD him hr h w hw
    rcases h with ⟨free, j, o, v, ho, hj, hq, hv, hm⟩ | ⟨_, hb⟩
    · have hij : i = j := by
        have := hm.1
        by_cases hij : i = j
        · exact hij
        · have := (List.mem_erase_of_ne hij).2 him
          rw [hm.1] at this; cases this
      subst hij
      have : o = oi := Option.some.inj (ho.symm.trans hi)
      subst this
      rcases hv with ⟨hwt, hq⟩ | ⟨hwt, rfl⟩
      · rcases hq w (by cases free; exact hw; exact hCD w hw) with hy | ⟨f, args, hc, hr⟩
        · exact opw_val hwt hy ⟨C, hst, hw, .inl (fun _ h => h), hCD, hm⟩
        · refine opw_is hwt hc ?_
          exact Calls.mono hr fun e w' ⟨u, he, hu, hx⟩ => ⟨u, he, C, hst, hst _ _ hw hx, .inl (fun _ h => h), hCD, by subst hu; exact hm⟩
      · exact opw_un hwt ⟨C, hst, hw, .inl (fun _ h => h), hCD, hm⟩
    · obtain ⟨o, ho, h⟩ := hb i him hr
      have : o = oi := Option.some.inj (ho.symm.trans hi)
      subst this
      exact h w hw
  | succ f ih =>
    intro rem a C hnd hcl hst hCD him hr h w hw
    rcases h with ⟨free, j, o, v, ho, hj, hq, hv, hm⟩ | ⟨_, hb⟩
    · by_cases hij : i = j
      · subst hij
        have : o = oi := Option.some.inj (ho.symm.trans hi)
        subst this
        rcases hv with ⟨hwt, hq⟩ | ⟨hwt, rfl⟩
        · rcases hq w (by cases free; exact hw; exact hCD w hw) with hy | ⟨f, args, hc, hr⟩
          · exact opw_val hwt hy ⟨C, hst, hw, .inl (fun _ h => h), hCD, hm⟩
          · refine opw_is hwt hc ?_
            exact Calls.mono hr fun e w' ⟨u, he, hu, hx⟩ => ⟨u, he, C, hst, hst _ _ hw hx, .inl (fun _ h => h), hCD, by subst hu; exact hm⟩
        · exact opw_un hwt ⟨C, hst, hw, .inl (fun _ h => h), hCD, hm⟩
      · have hd := ready_not_dep hcl hj hr
        simp only [Bool.and_eq_true] at hq
        obtain ⟨hjr, hq⟩ := hq
        have hq' := List.all_eq_true.1 hq i him
        simp only [hd, Bool.or_false, Bool.or_eq_true, beq_iff_eq, hij, false_or, Bool.and_eq_true] at hq'
        obtain ⟨hnt, hap⟩ := hq'
        rw [ho, hi] at hap
        simp only [Bool.and_eq_true] at hap
        obtain ⟨⟨hap, hs1⟩, hs2⟩ := hap
        have hsi : ∀ cs b, oi.op ≠ .select cs b := fun cs b e => by simp [noSel, e] at hs2
        have hsj : ∀ cs b, o.op ≠ .select cs b := fun cs b e => by simp [noSel, e] at hs1
        obtain ⟨h1, h2, h3⟩ := Oper.apart_spec hap
        have him' : i ∈ rem.erase j := (List.mem_erase_of_ne hij).2 him
        have hjm' : j ∈ rem.erase i := (List.mem_erase_of_ne (Ne.symm hij)).2 hj
        have hp := ih (rem.erase j) (a.put o.dst v) C (hnd.erase j) (closed_erase hnd hcl hjr) hst hCD him' (ready_sub hr (fun x hx => List.mem_of_mem_erase hx)) hm w hw
        refine opw_mono (opw_put hap hsi hp) ?_
        rintro a' w' ⟨⟨u, rfl⟩, C', hst', hw', hsub, hCD', hm'⟩
        have hsub' : free = false → ∀ w, C' w → C w := fun hf => hsub.elim id (fun h => by subst hf; simp at hnt; simp [hnt] at h)
        refine ⟨C', hst', hw', hsub, hCD', .inl ⟨free, j, o, v, ho, hjm', ?_, ?_, ?_⟩⟩
        · rw [Bool.and_eq_true]; exact ⟨ready_sub hjr (fun x hx => List.mem_of_mem_erase hx), quietOK_sub hq (fun x hx => List.mem_of_mem_erase hx)⟩
        · rw [wanted_put o a oi.dst u h3]
          rcases hv with ⟨hwt, hqv⟩ | ⟨hwt, rfl⟩
          · refine .inl ⟨hwt, fun w1 hw1 => ?_⟩
            have := hqv w1 (by cases free; exact hsub' rfl w1 hw1; exact hw1)
            unfold Yld CallOp at *
            rwa [execOp_put o hsj a oi.dst u h3]
          · exact .inr ⟨hwt, rfl⟩
        · rw [List.erase_comm]; exact hm'
    · obtain ⟨o, ho, h⟩ := hb i him hr
      have : o = oi := Option.some.inj (ho.symm.trans hi)
      subst this
      exact h w hw
variable {ro : List Atom} {n : Sz} {d : Nat} {fl : Slots} {a : Act} {w0 : World} {M : Nat → Prop} {l : List Atom} {o : Oper} {v : Value} {K : Act → World → Prop} {f i : Nat} {rem : List Nat}
end
end Go.Gw
