/- A region that draws its order: quiet operations may float, loud ones stand in a chain; one walk in one order serves. No condition. -/
import Derived.Test.YtngocpdmlijnfaaDoorGwCall
import Derived.Still
namespace Go.Gw
set_option linter.unusedVariables false
set_option linter.unusedSimpArgs false
/-- C goes on holding when new blocks come -/
def Stable (C : World → Prop) : Prop := ∀ w w', C w → Ext w w' → C w'
/-- in frame a, in every world of C, operation o leaves v in its slot and makes at most new blocks -/
def QuietAt (P : Program) (o : Oper) (a : Act) (C : World → Prop) (v : Value) : Prop :=
  ∀ w, C w → Yld P o a w v ∨ ∃ f args, CallOp P o a w f args ∧ Ret P f args w (fun u w' => u = v ∧ Ext w w')
section
variable {r : Option Nat} {P : Program} {ops : Array Oper} {Q : Exit → Act → World → Prop} {md : Region.Mode}
/-- the walk: loud operations in a chain; 'tails' may turn what C says; 'free' ones look at nothing but D, which lasts -/
def Mix (P : Program) (ops : Array Oper) (loud tails free : List Nat) (D : World → Prop) (K : Act → World → Prop) : List Nat → Act → (World → Prop) → Prop
  | [], a, C => ∀ w, C w → K a w
  | i :: rest, a, C => ∃ o, ops[i]? = some o ∧
    if loud.contains i = true then ∀ w, C w → opw P ops o a w (fun a' w' => ∃ C', Stable C' ∧ C' w' ∧ (∀ w, C' w → D w) ∧ ((∀ w, C' w → C w) ∨ tails.contains i = true) ∧ Mix P ops loud tails free D K rest a' C')
    else ∃ v, ((Region.wanted o (yielded ops a.tmps) = true ∧ QuietAt P o a (if free.contains i = true then D else C) v) ∨ (Region.wanted o (yielded ops a.tmps) = false ∧ v = undef)) ∧ Mix P ops loud tails free D K rest (a.put o.dst v) C
/-- i comes behind j, by the edges -/
def depB (md : Region.Mode) (ops : Array Oper) : Nat → Nat → Nat → Bool
  | 0, _, _ => false
  | f + 1, i, j => match ops[i]? with
    | some o => o.after.toList.any fun e => Region.binds md e && (e.on == j || depB md ops f e.on j)
    | none => false
def noSel (o : Oper) : Bool := match o.op with | .select .. => false | _ => true
/-- of two operations in the walk's order: the later waits for the earlier; or the earlier is quiet and they have nothing to do with each other -/
def pairOK (md : Region.Mode) (ops : Array Oper) (loud tails free : List Nat) (j i : Nat) : Bool :=
  depB md ops ops.size i j || (!loud.contains j && (!tails.contains i || free.contains j) && match ops[j]?, ops[i]? with | some oj, some oi => oj.apart ops oi && noSel oj && noSel oi | _, _ => false)
def firstOK (md : Region.Mode) (ops : Array Oper) (j : Nat) (rest : List Nat) : Bool := match ops[j]? with
  | some o => o.after.toList.all fun e => !Region.binds md e || (decide (e.on < ops.size) && !(j :: rest).contains e.on)
  | none => false
def orderOK (md : Region.Mode) (ops : Array Oper) (loud tails free : List Nat) : List Nat → Bool
  | [] => true
  | j :: rest => !rest.contains j && decide (j < ops.size) && rest.all (pairOK md ops loud tails free j) && (firstOK md ops j rest && orderOK md ops loud tails free rest)
theorem opw_put {oi oj : Oper} {v : Value} {a : Act} {w : World} {K : Act → World → Prop} (hap : oj.apart ops oi = true) (hsi : ∀ cs b, oi.op ≠ .select cs b)
    (h : opw P ops oi (a.put oj.dst v) w K) : opw P ops oi a w (fun a' w' => (∃ u, a' = a.put oi.dst u) ∧ K (a'.put oj.dst v) w') := by
  obtain ⟨h1, h2, h3⟩ := Oper.apart_spec hap
  have hp : ∀ u, (a.put oi.dst u).put oj.dst v = (a.put oj.dst v).put oi.dst u := fun u => Act.put_comm _ _ _ (fun d hd => fun hd' => h2 d hd' hd)
  refine ⟨fun hw => ?_, fun hw => ?_⟩
  · have h' := h.1 (by rw [wanted_put oi a oj.dst v h1]; exact hw)
    rw [execOp_put oi hsi a oj.dst v h1] at h'
    unfold upon at h' ⊢
    split at h'
    · exact ⟨⟨_, rfl⟩, by rw [hp]; exact h'⟩
    · exact ⟨⟨_, rfl⟩, by rw [hp]; exact h'⟩
    · exact Calls.mono h' fun e w'' ⟨u, he, hu⟩ => ⟨u, he, ⟨u, rfl⟩, by rw [hp]; exact hu⟩
    · exact RoundIn.mono h' fun e w'' ⟨u, he, hu⟩ => ⟨u, he, ⟨u, rfl⟩, by rw [hp]; exact hu⟩
    · exact h'.elim
  · exact ⟨⟨_, rfl⟩, by rw [hp]; exact h.2 (by rw [wanted_put oi a oj.dst v h1]; exact hw)⟩
/-- number i, which comes up now, is taken out of the walk's order; all that stands ahead of it there is quiet and apart -/
theorem Mix.pull {loud tails free : List Nat} {D : World → Prop} {K : Act → World → Prop} {post : List Nat} {i : Nat} {oi : Oper} (hi : ops[i]? = some oi) :
    ∀ (pre : List Nat) (a : Act) (C : World → Prop), Stable C → (∀ w, C w → D w) → (tails.contains i = true → ∀ j ∈ pre, free.contains j = true) →
      (∀ j ∈ pre, loud.contains j = false ∧ ∃ oj, ops[j]? = some oj ∧ oj.apart ops oi = true ∧ noSel oj = true ∧ noSel oi = true) →
      Mix P ops loud tails free D K (pre ++ i :: post) a C → ∀ w, C w → opw P ops oi a w (fun a' w' => ∃ C', Stable C' ∧ C' w' ∧ (∀ w, C' w → D w) ∧ ((∀ w, C' w → C w) ∨ tails.contains i = true) ∧ Mix P ops loud tails free D K (pre ++ post) a' C')
  | [], a, C, hst, hCD, _, _, h, w, hw => by
    obtain ⟨o, ho, h⟩ := h
    have : o = oi := Option.some.inj (ho.symm.trans hi)
    subst this
    split at h
    · exact h w hw
    · obtain ⟨v, hv, hm⟩ := h
      rcases hv with ⟨hwt, hq⟩ | ⟨hwt, rfl⟩
      · rcases hq w (by split; exact hCD w hw; exact hw) with hy | ⟨f, args, hc, hr⟩
        · exact opw_val hwt hy ⟨C, hst, hw, hCD, .inl (fun _ h => h), hm⟩
        · refine opw_is hwt hc ?_
          exact Calls.mono hr fun e w' ⟨u, he, hu, hx⟩ => ⟨u, he, C, hst, hst _ _ hw hx, hCD, .inl (fun _ h => h), by subst hu; exact hm⟩
      · exact opw_un hwt ⟨C, hst, hw, hCD, .inl (fun _ h => h), hm⟩
  | j :: pre, a, C, hst, hCD, ht, hpre, h, w, hw => by
    obtain ⟨hlj, oj, hoj, hap, hs1, hs2⟩ := hpre j (List.mem_cons_self ..)
    obtain ⟨o, ho, h⟩ := h
    have : o = oj := Option.some.inj (ho.symm.trans hoj)
    subst this
    rw [if_neg (by rw [hlj]; simp)] at h
    obtain ⟨v, hv, hm⟩ := h
    have hsi : ∀ cs b, oi.op ≠ .select cs b := fun cs b e => by simp [noSel, e] at hs2
    have hsj : ∀ cs b, o.op ≠ .select cs b := fun cs b e => by simp [noSel, e] at hs1
    have ih := Mix.pull hi pre (a.put o.dst v) C hst hCD (fun h x hx => ht h x (List.mem_cons_of_mem _ hx)) (fun x hx => hpre x (List.mem_cons_of_mem _ hx)) hm w hw
    obtain ⟨h1, h2, h3⟩ := Oper.apart_spec hap
    refine opw_mono (opw_put hap hsi ih) ?_
    rintro a' w' ⟨⟨u, rfl⟩, C', hst', hw', hD', hsub, hm'⟩
    refine ⟨C', hst', hw', hD', hsub, o, hoj, ?_⟩
    rw [if_neg (by rw [hlj]; simp)]
    have hsub' : free.contains j = false → ∀ w, C' w → C w := fun hf => hsub.elim id (fun h => by rw [ht h j (List.mem_cons_self ..)] at hf; cases hf)
    refine ⟨v, ?_, hm'⟩
    rw [wanted_put o a oi.dst u h3]
    rcases hv with ⟨hwt, hq⟩ | ⟨hwt, rfl⟩
    · refine .inl ⟨hwt, fun w1 hw1 => ?_⟩
      have := hq w1 (by
        split
        · rename_i hf; rwa [if_pos hf] at hw1
        · rename_i hf; rw [if_neg hf] at hw1; exact hsub' (by simpa using hf) w1 hw1)
      unfold Yld CallOp at *
      rwa [execOp_put o hsj a oi.dst u h3]
    · exact .inr ⟨hwt, rfl⟩
/-- what has come up is closed under what it waits for -/
def Closed (md : Region.Mode) (ops : Array Oper) (listed : Array Bool) : Prop :=
  ∀ i o, ops[i]? = some o → listed.getD i false = true → ∀ e ∈ o.after, Region.binds md e = true → listed.getD e.on false = true
theorem dep_unlisted {listed : Array Bool} (hcl : Closed md ops listed) {j : Nat} (hj : listed.getD j false = false) :
    ∀ (f i : Nat) (o : Oper), ops[i]? = some o → depB md ops f i j = true → ∃ e ∈ o.after, Region.binds md e = true ∧ listed.getD e.on false = false := by
  intro f
  induction f with
  | zero => intro i o _ h; cases h
  | succ f ih =>
    intro i o ho h
    simp only [depB, ho] at h
    obtain ⟨e, he, h⟩ := List.any_eq_true.1 h
    simp only [Bool.and_eq_true, Bool.or_eq_true, beq_iff_eq] at h
    obtain ⟨hb, h⟩ := h
    refine ⟨e, by simpa using he, hb, ?_⟩
    rcases h with rfl | h
    · exact hj
    · cases hon : listed.getD e.on false with
      | false => rfl
      | true =>
        exfalso
        cases heo : ops[e.on]? with
        | none =>
          cases f with
          | zero => cases h
          | succ f => simp [depB, heo] at h
        | some oe =>
          obtain ⟨e', he', hb', hun⟩ := ih e.on oe heo h
          rw [hcl e.on oe heo hon e' he' hb'] at hun
          cases hun
theorem firstOK_sub {j : Nat} {r r' : List Nat} (hs : ∀ x ∈ r', x ∈ r) (h : firstOK md ops j r = true) : firstOK md ops j r' = true := by
  unfold firstOK at h ⊢
  split at h
  · rw [List.all_eq_true] at h ⊢
    intro e he
    have := h e he
    simp only [Bool.or_eq_true, Bool.and_eq_true, Bool.not_eq_true', List.contains_eq_mem, decide_eq_false_iff_not] at this ⊢
    rcases this with h1 | ⟨h1, h2⟩
    · exact .inl h1
    · exact .inr ⟨h1, fun hm => h2 (by rcases List.mem_cons.1 hm with rfl | hm; exact List.mem_cons_self ..; exact List.mem_cons_of_mem _ (hs _ hm))⟩
  · cases h
theorem orderOK_split {loud tails free : List Nat} : ∀ (pre : List Nat) {i : Nat} {post : List Nat}, orderOK md ops loud tails free (pre ++ i :: post) = true →
    (∀ j ∈ pre, pairOK md ops loud tails free j i = true) ∧ orderOK md ops loud tails free (pre ++ post) = true ∧ i ∉ pre ++ post ∧ i < ops.size
  | [], i, post, h => by
    simp only [List.nil_append, orderOK, Bool.and_eq_true] at h
    obtain ⟨⟨⟨h1, h2⟩, h3⟩, h5, h4⟩ := h
    exact ⟨by simp, h4, by simpa using h1, by simpa using h2⟩
  | j :: pre, i, post, h => by
    simp only [List.cons_append, orderOK, Bool.and_eq_true] at h
    obtain ⟨⟨⟨h1, h2⟩, h3⟩, h5, h4⟩ := h
    obtain ⟨g1, g2, g3, g4⟩ := orderOK_split pre h4
    have h3' := List.all_eq_true.1 h3
    simp only [Bool.not_eq_true', List.contains_eq_mem, decide_eq_false_iff_not] at h1
    refine ⟨fun x hx => ?_, ?_, ?_, g4⟩
    · rcases List.mem_cons.1 hx with rfl | hx
      · exact h3' i (by simp)
      · exact g1 x hx
    · simp only [List.cons_append, orderOK, Bool.and_eq_true]
      refine ⟨⟨⟨?_, h2⟩, List.all_eq_true.2 fun x hx => h3' x ?_⟩, firstOK_sub (fun x hx => ?_) h5, g2⟩
      · simp only [Bool.not_eq_true', List.contains_eq_mem, decide_eq_false_iff_not]
        exact fun hm => h1 (by rcases List.mem_append.1 hm with h | h <;> simp [h])
      · rcases List.mem_append.1 hx with h | h <;> simp [h]
      · rcases List.mem_append.1 hx with h | h <;> simp [h]
    · intro hm
      rcases List.mem_cons.1 hm with rfl | hm
      · exact h1 (by simp)
      · exact g3 hm
theorem mix_any {loud tails free : List Nat} {D : World → Prop} {K : Act → World → Prop} {Q' : Exit → Act → World → Prop} (hQ : ∀ a w, K a w → Q' .normal a w) :
    ∀ (fuel : Nat) (order : List Nat) (listed : Array Bool) (a : Act) (C : World → Prop), Stable C → (∀ w, C w → D w) → order.length ≤ fuel → listed.size = ops.size → Closed md ops listed → orderOK md ops loud tails free order = true →
      (∀ i, i < ops.size → (listed.getD i true = false ↔ i ∈ order)) → Mix P ops loud tails free D K order a C → ∀ w, C w → wpAnyIn (FR r) 0 P md ops Q' fuel listed a w := by
  intro fuel
  induction fuel with
  | zero =>
    intro order listed a C hst hCD hlen hsz hcl hok hmem hm w hw
    have : order = [] := List.eq_nil_of_length_eq_zero (by omega)
    subst this
    refine ⟨?_, hQ _ _ (hm w hw)⟩
    cases hr : Region.ready md ops listed with
    | nil => rfl
    | cons x xs =>
      exfalso
      have hx : x ∈ Region.ready md ops listed := by rw [hr]; simp
      obtain ⟨h0, o, ho, _⟩ := mem_ready.1 hx
      have := (hmem x (Array.getElem?_eq_some_iff.1 ho).1).1 h0
      cases this
  | succ fuel ih =>
    intro order listed a C hst hCD hlen hsz hcl hok hmem hm w hw
    have hready : ∀ i ∈ Region.ready md ops listed, i ∈ order := fun i hi => by
      obtain ⟨h0, o, ho, _⟩ := mem_ready.1 hi
      exact (hmem i (Array.getElem?_eq_some_iff.1 ho).1).1 h0
    refine ⟨fun hr => ?_, fun i hi => ?_⟩
    · cases order with
      | nil => exact hQ _ _ (hm w hw)
      | cons x xs =>
        exfalso
        simp only [orderOK, Bool.and_eq_true] at hok
        have hx := hok.1.1.2
        have h5 := hok.2.1
        have hxs : x < ops.size := by simpa using hx
        have hxr : x ∈ Region.ready md ops listed := by
          rw [mem_ready]
          unfold firstOK at h5
          split at h5
          · rename_i o ho
            refine ⟨(hmem x hxs).2 (by simp), o, ho, fun e he hb => ?_⟩
            have := List.all_eq_true.1 h5 e (by simpa using he)
            rw [hb] at this
            simp only [Bool.not_true, Bool.false_or, Bool.and_eq_true, decide_eq_true_eq, Bool.not_eq_true', List.contains_eq_mem, decide_eq_false_iff_not] at this
            have h7 := this.2
            have h8 : ¬ listed.getD e.on true = false := fun hf => h7 ((hmem e.on this.1).1 hf)
            have : e.on < listed.size := by omega
            simp [this] at h8 ⊢; exact h8
          · cases h5
        rw [hr] at hxr; cases hxr
    · obtain ⟨h0, oi, hoi, hall⟩ := mem_ready.1 hi
      obtain ⟨pre, post, rfl⟩ := List.append_of_mem (hready i hi)
      obtain ⟨hp, hok', hnot, hlt⟩ := orderOK_split pre hok
      have hun : ∀ j ∈ pre, listed.getD j false = false ∧ depB md ops ops.size i j = false := fun j hj => by
        have hjm : j ∈ pre ++ i :: post := by simp [hj]
        have hjlt : j < ops.size := by
          obtain ⟨p1, p2, e⟩ := List.append_of_mem hjm
          rw [e] at hok
          exact (orderOK_split p1 hok).2.2.2
        have hjt := (hmem j hjlt).2 hjm
        have hj0 : listed.getD j false = false := by
          have : j < listed.size := by omega
          simp [this] at hjt ⊢; exact hjt
        refine ⟨hj0, ?_⟩
        cases hd : depB md ops ops.size i j with
        | false => rfl
        | true =>
          exfalso
          obtain ⟨e, he, hb, hun⟩ := dep_unlisted hcl hj0 ops.size i oi hoi hd
          rw [hall e he hb] at hun
          cases hun
      have hpull := Mix.pull (P := P) (loud := loud) (tails := tails) (free := free) (D := D) (K := K) (post := post) hoi pre a C hst hCD (fun ht j hj => by
          have h1 := hp j hj
          have h2 := (hun j hj).2
          simp only [pairOK, h2, Bool.false_or, Bool.and_eq_true, ht] at h1
          simpa using h1.1.2)
        (fun j hj => by
          have h1 := hp j hj
          have h2 := (hun j hj).2
          simp only [pairOK, h2, Bool.false_or, Bool.and_eq_true] at h1
          obtain ⟨⟨h1, _⟩, h3⟩ := h1
          refine ⟨by simpa using h1, ?_⟩
          rw [hoi] at h3
          cases hoj : ops[j]? with
          | none => rw [hoj] at h3; cases h3
          | some oj =>
            rw [hoj] at h3
            simp only [Bool.and_eq_true] at h3
            exact ⟨oj, rfl, h3.1.1, h3.1.2, h3.2⟩) hm w hw
      have h2 := opw_mono (K' := fun a' w' => wpAnyIn (FR r) 0 P md ops Q' fuel (listed.setIfInBounds i true) a' w') (hpull) (fun a' w' ⟨C', hst', hw', hD', _, hm'⟩ => by
        have hil : i < listed.size := by omega
        refine ih (pre ++ post) _ a' C' hst' hD' ?_ (by simp [hsz]) ?_ hok' ?_ hm' w' hw'
        · simp only [List.length_append, List.length_cons] at hlen ⊢; omega
        · intro x o hx hl e he hb
          by_cases hxi : i = x
          · subst hxi
            have : o = oi := Option.some.inj (hx.symm.trans hoi)
            subst this
            exact getD_set_true (hall e he hb)
          · rw [getD_set_ne false hxi] at hl
            exact getD_set_true (hcl x o hx hl e he hb)
        · intro x hx
          by_cases hxi : i = x
          · subst hxi
            constructor
            · intro h; simp [hil] at h
            · intro h; exact absurd h hnot
          · rw [getD_set_ne true hxi, hmem x hx]
            simp only [List.mem_append, List.mem_cons]
            constructor
            · rintro (h | h | h)
              · exact .inl h
              · exact absurd h.symm hxi
              · exact .inr h
            · rintro (h | h)
              · exact .inl h
              · exact .inr (.inr h))
      unfold wpOpIn
      rw [hoi]
      exact opw_op h2
/-- the law: one walk in the order 'order' serves every order that the tape may draw -/
theorem region_mix {id : Nat} {a : Act} {w : World} {loud tails free order : List Nat} {D : World → Prop} (hm : P.follows .mixedOrders = true) (hok : orderOK .any ops loud tails free order = true) (hall : (List.range ops.size).all (fun i => order.contains i) = true)
    (hlen : Nat.ble order.length ops.size = true) (C : World → Prop) (hst : Stable C) (hCD : ∀ w, C w → D w) (hw : C w) (h : Mix P ops loud tails free D (Q .normal) order a C) : gp r P (Code.region id ops true) Q a w := by
  refine wpIn_region_any hm ?_
  have hw' : C { w with drawn := w.drawn + 1 } := hst _ _ hw (Ext.drawn w _)
  refine mix_any (fun _ _ h => h) ops.size order _ a C hst hCD (by simpa using hlen) (by simp) ?_ hok ?_ h _ hw'
  · intro i o hi hl
    have hlt := (Array.getElem?_eq_some_iff.1 hi).1
    simp [hlt] at hl
  · intro i hi
    have := List.all_eq_true.1 hall i (List.mem_range.2 hi)
    simp [hi]; simpa using this
theorem stable_hsat {M : Nat → Prop} {w0 : World} {l : List Atom} : Stable (HSat M w0 l) := fun _ _ h e => h.ext e
/-- atoms that are read alone, and last -/
def RO (ro : List Atom) (w : World) : Prop := (∀ x ∈ ro, x.own = false) ∧ ∀ x ∈ ro, x.ok w
class HasAt (l : List Atom) (x : Atom) : Prop where
  mem : x ∈ l
instance (priority := 2000) HasAt.here (l : List Atom) (x : Atom) : HasAt (x :: l) x := ⟨List.mem_cons_self ..⟩
instance HasAt.there (l : List Atom) (y x : Atom) [h : HasAt l x] : HasAt (y :: l) x := ⟨List.mem_cons_of_mem _ h.mem⟩
instance (priority := 500) HasAt.app (l1 l : List Atom) (x : Atom) [h : HasAt l x] : HasAt (l1 ++ l) x := ⟨List.mem_append_right _ h.mem⟩
class HasRO (l ro : List Atom) : Prop where
  sub : ∀ x ∈ ro, x ∈ l
instance HasRO.nil (l : List Atom) : HasRO l [] := ⟨fun x h => by cases h⟩
instance HasRO.cons (l : List Atom) (x : Atom) (r : List Atom) [h1 : HasAt l x] [h2 : HasRO l r] : HasRO l (x :: r) := ⟨fun y hy => by rcases List.mem_cons.1 hy with rfl | hy; exact h1.mem; exact h2.sub y hy⟩
theorem RO.of {M : Nat → Prop} {w0 : World} {l ro : List Atom} [h : HasRO l ro] (ho : ro.all (fun x => !x.own) = true) (w : World) (H : HSat M w0 l w) : RO ro w :=
  ⟨fun x hx => by simpa using List.all_eq_true.1 ho x hx, fun x hx => H.ok x (h.sub x hx)⟩
theorem pair_ro : ∀ {ro : List Atom}, (∀ x ∈ ro, x.own = false) → ro.Pairwise apart
  | [], _ => .nil
  | x :: r, h => List.pairwise_cons.2 ⟨fun y hy ho => by rw [h x (by simp), h y (List.mem_cons_of_mem _ hy)] at ho; simp at ho, pair_ro (fun y hy => h y (List.mem_cons_of_mem _ hy))⟩
theorem RO.sat {ro : List Atom} {w : World} (h : RO ro w) : HSat (fun _ => True) w ro w :=
  ⟨Fr.refl _ _, h.2, fun x hx ho => (by rw [h.1 x hx] at ho; cases ho), pair_ro h.1⟩
/-- atoms that are read alone -/
class ROs (ro : List Atom) : Prop where
  all : ro.all (fun x => !x.own) = true
instance ROs.nil : ROs [] := ⟨rfl⟩
instance ROs.ro (x : Atom) (r : List Atom) [h : ROs r] : ROs (Atom.ro x :: r) := ⟨by simpa [Atom.ro] using h.all⟩
variable {loud tails free rest : List Nat} {ro : List Atom} {K : Act → World → Prop} {i d : Nat} {n : Sz} {fl : Slots} {a : Act} {w0 : World} {M : Nat → Prop} {l : List Atom} {o : Oper} {v : Value}
theorem m_nil (h : ∀ w, HSat M w0 l w → K a w) : Mix P ops loud tails free (RO ro) K [] a (HSat M w0 l) := h
theorem m_w (hi : ops[i]? = some o) (hl : (loud.contains i || free.contains i) = false) (hw : Region.wanted o (yielded ops a.tmps) = true) (hd : o.dst = some d) (hn : Nat.blt d n.n = true) (S : St n fl a) (hy : ∀ w, HSat M w0 l w → Yld P o a w v)
    (k : ∀ a', St n ((d, v) :: fl) a' → Mix P ops loud tails free (RO ro) K rest a' (HSat M w0 l)) : Mix P ops loud tails free (RO ro) K (i :: rest) a (HSat M w0 l) := by
  rw [Bool.or_eq_false_iff] at hl
  refine ⟨o, hi, ?_⟩
  rw [if_neg (by rw [hl.1]; simp)]
  refine ⟨v, .inl ⟨hw, fun w h => .inl (hy w (by rwa [if_neg (by rw [hl.2]; simp)] at h))⟩, ?_⟩
  rw [hd]; exact k _ (S.put hn v)
/-- a quiet operation that looks at nothing but what lasts -/
theorem m_f (hi : ops[i]? = some o) (hl : (!loud.contains i && free.contains i) = true) (hw : Region.wanted o (yielded ops a.tmps) = true) (hd : o.dst = some d) (hn : Nat.blt d n.n = true) (S : St n fl a) (hy : ∀ w, HSat (fun _ => True) w ro w → Yld P o a w v)
    (k : ∀ a', St n ((d, v) :: fl) a' → Mix P ops loud tails free (RO ro) K rest a' (HSat M w0 l)) : Mix P ops loud tails free (RO ro) K (i :: rest) a (HSat M w0 l) := by
  simp only [Bool.and_eq_true, Bool.not_eq_true'] at hl
  refine ⟨o, hi, ?_⟩
  rw [if_neg (by rw [hl.1]; simp)]
  refine ⟨v, .inl ⟨hw, fun w h => .inl (hy w (by rw [if_pos hl.2] at h; exact h.sat))⟩, ?_⟩
  rw [hd]; exact k _ (S.put hn v)
theorem m_c (hi : ops[i]? = some o) (hl : (loud.contains i || free.contains i) = false) (hw : Region.wanted o (yielded ops a.tmps) = true) (hd : o.dst = some d) (hn : Nat.blt d n.n = true) {f : FuncId} {args : Array Value} (S : St n fl a) (hc : ∀ w, CallOp P o a w f args)
    (h : ∀ w, HSat M w0 l w → Ret P f args w (fun u w' => u = v ∧ Ext w w'))
    (k : ∀ a', St n ((d, v) :: fl) a' → Mix P ops loud tails free (RO ro) K rest a' (HSat M w0 l)) : Mix P ops loud tails free (RO ro) K (i :: rest) a (HSat M w0 l) := by
  rw [Bool.or_eq_false_iff] at hl
  refine ⟨o, hi, ?_⟩
  rw [if_neg (by rw [hl.1]; simp)]
  refine ⟨v, .inl ⟨hw, fun w hH => .inr ⟨f, args, hc w, h w (by rwa [if_neg (by rw [hl.2]; simp)] at hH)⟩⟩, ?_⟩
  rw [hd]; exact k _ (S.put hn v)
theorem m_l (hi : ops[i]? = some o) (hl : loud.contains i = true)
    (h : ∀ w, HSat M w0 l w → opw P ops o a w (fun a' w' => ∃ C', Stable C' ∧ C' w' ∧ (∀ w, C' w → RO ro w) ∧ ((∀ w, C' w → HSat M w0 l w) ∨ tails.contains i = true) ∧ Mix P ops loud tails free (RO ro) K rest a' C')) : Mix P ops loud tails free (RO ro) K (i :: rest) a (HSat M w0 l) := by
  refine ⟨o, hi, ?_⟩
  rw [if_pos hl]
  exact h
theorem m_next [ROs ro] {a' : Act} {w' : World} {l' : List Atom} [HasRO l' ro] (H : HSat M w0 l' w') (hs : l.Sublist l') (h : Mix P ops loud tails free (RO ro) K rest a' (HSat M w0 l')) :
    ∃ C', Stable C' ∧ C' w' ∧ (∀ w, C' w → RO ro w) ∧ ((∀ w, C' w → HSat M w0 l w) ∨ tails.contains i = true) ∧ Mix P ops loud tails free (RO ro) K rest a' C' :=
  ⟨_, stable_hsat, H, RO.of ROs.all, .inl (fun w h => h.sub hs), h⟩
theorem m_tail [ROs ro] {a' : Act} {w' : World} {l' : List Atom} [HasRO l' ro] (H : HSat M w0 l' w') (ht : tails.contains i = true) (h : Mix P ops loud tails free (RO ro) K rest a' (HSat M w0 l')) :
    ∃ C', Stable C' ∧ C' w' ∧ (∀ w, C' w → RO ro w) ∧ ((∀ w, C' w → HSat M w0 l w) ∨ tails.contains i = true) ∧ Mix P ops loud tails free (RO ro) K rest a' C' :=
  ⟨_, stable_hsat, H, RO.of ROs.all, .inr ht, h⟩
theorem region_st {id : Nat} {w : World} (order : List Nat) (ro : List Atom) [ROs ro] [HasRO l ro] (hm : P.follows .mixedOrders = true) (hok : orderOK .any ops loud tails free order = true) (hall : (List.range ops.size).all (fun i => order.contains i) = true)
    (hlen : Nat.ble order.length ops.size = true) (H : HSat M w0 l w) (h : Mix P ops loud tails free (RO ro) (Q .normal) order a (HSat M w0 l)) : gp r P (Code.region id ops true) Q a w :=
  region_mix hm hok hall hlen _ stable_hsat (RO.of ROs.all) H h
end
end Go.Gw
