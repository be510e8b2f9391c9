/- Parts of the proof, joined: the program logic, the plain theory, the walks, as they are named inside. No condition. -/
import Derived.Test.YtienaifmlhcijaaGreatDoorM2
import Derived.Maps.RangeRun
import Derived.Test.YtienaifmlhcijaaGreatDoorChecked
import Derived.Shelf.Strings.SlTrimAscii
section
namespace Go.Gw
set_option linter.unusedVariables false
set_option linter.unusedSimpArgs false
set_option linter.unusedSectionVars false
section
variable {κ β : Type} [DecidableEq κ]
theorem memLookup {k : κ} {v : β} : ∀ {ps : List (κ × β)}, (ps.map (·.1)).Nodup → (k, v) ∈ ps → ps.lookup k = some v
  | [], _, h => by simp at h
  | (x, y) :: ps, hn, h0 => by
    rw [List.map_cons, List.nodup_cons] at hn
    rcases List.mem_cons.1 h0 with h | h
    · obtain ⟨rfl, rfl⟩ := Prod.mk.inj h; simp [List.lookup]
    · have hk : k ≠ x := fun e => hn.1 (e ▸ List.mem_map.2 ⟨(k, v), h, rfl⟩)
      simp only [List.lookup, beq_eq_false_iff_ne.2 hk]
      exact memLookup hn.2 h
theorem lookupMem {k : κ} {v : β} : ∀ {ps : List (κ × β)}, ps.lookup k = some v → (k, v) ∈ ps
  | [], h => by simp at h
  | (x, y) :: ps, h => by
    by_cases hk : k = x
    · subst hk; simp [List.lookup] at h; subst h; simp
    · simp only [List.lookup, beq_eq_false_iff_ne.2 hk] at h
      exact List.mem_cons_of_mem _ (lookupMem h)
/-- map b, walked by the iterator in block r: 'done' has been handed out, 'left' entries are to come -/
structure IsIt (w : World) (r b : Nat) (kenc : κ → Value) (enc : β → Value) (m : κ → Option β) (done : List (κ × β)) (left : Nat) : Prop where
  ok : ∃ (es : Array MapEntry) (clock : Nat) (ps : List (κ × β)) (seen : Array Nat), w.heap[b]? = some (.map es clock) ∧ w.heap[r]? = some (.mapIter (some b) clock seen clock) ∧ MapRep es kenc enc ps ∧ (ps.map (·.1)).Nodup ∧ (∀ k, m k = ps.lookup k) ∧ Borns es clock ∧
    (leftOf es seen).size = left ∧ (∀ (j : Nat) (e : MapEntry) (p : κ × β), es.toList[j]? = some e → ps[j]? = some p → (e.born ∈ seen.toList ↔ p ∈ done)) ∧ (done.map (·.1)).Nodup ∧ (∀ p ∈ done, p ∈ ps) ∧
    (∀ (d : List (κ × β)) (p : κ × β), done = d ++ [p] → ∃ (j : Nat) (e : MapEntry) (s : Array Nat), es.toList[j]? = some e ∧ ps[j]? = some p ∧ seen = s.push e.born)
def ItA (r b : Nat) (kenc : κ → Value) (enc : β → Value) (m : κ → Option β) (done : List (κ × β)) (left : Nat) : Atom where
  own := true
  fp := fun q => q = r ∨ q = b
  ok := fun w => IsIt w r b kenc enc m done left
  loc := fun w w' h hok => ⟨by obtain ⟨es, c, ps, seen, h1, h2, h3⟩ := hok.ok; exact ⟨es, c, ps, seen, (h b (.inr rfl)).trans h1, (h r (.inl rfl)).trans h2, h3⟩⟩
  lt := fun w k hok hk => by
    obtain ⟨es, c, ps, seen, h1, h2, _⟩ := hok.ok
    rcases hk with rfl | rfl
    · exact (Array.getElem?_eq_some_iff.1 h2).1
    · exact (Array.getElem?_eq_some_iff.1 h1).1
variable {P : Program} {o : Oper} {n : Sz} {fl : Slots} {a : Act} {w w0 : World} {v : Value} {M : Nat → Prop} {l : List Atom} {ops : Array Oper} {d : Nat} {K : Act → World → Prop}
variable {r b : Nat} {kenc : κ → Value} {enc : β → Value} {m : κ → Option β} {done : List (κ × β)} {left : Nat}
theorem HSat.it (H : HSat M w0 (ItA r b kenc enc m done left :: l) w) : IsIt w r b kenc enc m done left := H.ok (ItA r b kenc enc m done left) (List.mem_cons_self ..)
theorem IsIt.sub (h : IsIt w r b kenc enc m done left) {k : κ} {v : β} (hp : (k, v) ∈ done) : m k = some v := by
  obtain ⟨es, c, ps, seen, h1, h2, h3, h4, h5, h6, h7, h8, h9, h10, h11⟩ := h.ok
  rw [h5]; exact memLookup h4 (h10 _ hp)
theorem IsIt.nodup (h : IsIt w r b kenc enc m done left) : (done.map (·.1)).Nodup := by
  obtain ⟨es, c, ps, seen, h1, h2, h3, h4, h5, h6, h7, h8, h9, h10, h11⟩ := h.ok
  exact h9
theorem MapRep.at {es : Array MapEntry} {ps : List (κ × β)} (h : MapRep es kenc enc ps) {j : Nat} {e : MapEntry} (he : es.toList[j]? = some e) : ∃ p, ps[j]? = some p ∧ e.key = kenc p.1 ∧ e.val = enc p.2 := by
  have h2 := congrArg (fun q => q[j]?) h
  simp only [List.getElem?_map, he, Option.map_some] at h2
  cases hp : ps[j]? with
  | none => simp [hp] at h2
  | some p => simp [hp] at h2; exact ⟨p, rfl, h2.1, h2.2⟩
theorem MapRep.at' {es : Array MapEntry} {ps : List (κ × β)} (h : MapRep es kenc enc ps) {j : Nat} {p : κ × β} (he : ps[j]? = some p) : ∃ e, es.toList[j]? = some e ∧ e.key = kenc p.1 ∧ e.val = enc p.2 := by
  have h2 := congrArg (fun q => q[j]?) h
  simp only [List.getElem?_map, he, Option.map_some] at h2
  cases hp : es.toList[j]? with
  | none => simp [hp] at h2
  | some e => simp [hp] at h2; exact ⟨e, rfl, h2.1, h2.2⟩
theorem IsIt.all (h : IsIt w r b kenc enc m done left) (h0 : left = 0) {k : κ} {v : β} (hm : m k = some v) : (k, v) ∈ done := by
  obtain ⟨es, c, ps, seen, h1, h2, h3, h4, h5, h6, h7, h8, h9, h10, h11⟩ := h.ok
  rw [h5] at hm
  obtain ⟨j, hj⟩ := List.mem_iff_getElem?.1 (lookupMem hm)
  obtain ⟨e, he, _⟩ := h3.at' hj
  refine (h8 j e _ he hj).1 ?_
  have hz : leftOf es seen = #[] := Array.eq_empty_of_size_eq_zero (by omega)
  unfold leftOf at hz
  have hmem : e ∈ es := by
    have := List.mem_of_getElem? he
    exact Array.mem_def.2 this
  have := (Array.filter_eq_empty_iff.1 hz) e hmem
  simpa using this
/-- a walk begins -/
theorem op_range {T kt et : TypeId} {x : Operand} {c : Nat} (hw : Region.wanted o (yielded ops a.tmps) = true) (hd : o.dst = some d) (hn : Nat.blt d n.n = true) (ho : o.op = .range T x) (hT : P.underlying T = some (.map kt et)) (S : St n fl a) (H : HSat M w0 (MapA b kenc enc m c :: l) w)
    (hx : ev fl x = some (.map (some b))) (k : ∀ r a' w', St n ((d, .pointer (some ⟨r, 0, none⟩)) :: fl) a' → HSat M w0 (ItA r b kenc enc m [] c :: l) w' → K a' w') : opw P ops o a w K := by
  have hm : IsMap w b kenc enc m c := H.ok (MapA b kenc enc m c) (List.mem_cons_self ..)
  obtain ⟨es, clock, ps, h1, h2, h3, h4, h5, h6⟩ := hm.ok
  have hrun : (execOp a.eval o).run P w = .ok (.value (.pointer (some ⟨w.heap.size, 0, none⟩))) (w.alloc (.mapIter (some b) clock #[] clock)) := by
    unfold execOp; rw [ho]; simp only [S.ev hx]
    simp only [Sem.run_bind, run_range_map w T kt et b es clock hT h1, Result.andThen_ok, Sem.run_pure]
  refine opw_val hw hrun ?_
  rw [hd]
  refine k _ _ _ (S.put hn _) ?_
  have hbl : b < w.heap.size := (Array.getElem?_eq_some_iff.1 h1).1
  have H2 := H.alloc (.mapIter (some b) clock #[] clock) trivial
  refine HSat.merge H2 rfl rfl rfl (fun q hq => hq) (fun hx hy => ⟨es, clock, ps, #[], ?_, hx, h2, h3, h4, h6, ?_, ?_, by simp, by simp, by simp⟩)
  · exact (RowKit.Below.heap_alloc w _ b hbl).trans h1
  · have hl : es.toList.length = ps.length := by have := congrArg List.length h2; simpa using this
    simp [leftOf]
    rw [← h5, ← hl]; simp
  · intro j e p _ _; simp
/-- one entry more, or none -/
theorem run_next_it (h : IsIt w r b kenc enc m done left) (ty : TypeId) :
    (left = 0 ∧ (Instr.next (.pointer (some ⟨r, 0, none⟩)) false ty).run P w = .ok (.tuple #[.bool false]) w) ∨
    (0 < left ∧ ∃ (k : κ) (u : β) (w1 : World) (left' : Nat), (w1 = w ∨ w1 = w.drew) ∧ left' < left ∧ m k = some u ∧ k ∉ done.map (·.1) ∧ ∃ ob, (Instr.next (.pointer (some ⟨r, 0, none⟩)) false ty).run P w = .ok (.tuple #[.bool true, kenc k, enc u]) (setBlk w1 r ob) ∧ ThawO (some ob) ∧ r ≠ b ∧ IsIt (setBlk w1 r ob) r b kenc enc m (done ++ [(k, u)]) left') := by
  obtain ⟨es, clock, ps, seen, h1, h2, h3, h4, h5, h6, h7, h8, h9, h10, h11⟩ := h.ok
  rcases run_next_at (P := P) w ty r b clock clock seen es clock h2 h1 h6.1 (Nat.le_refl _) with ⟨hz, hr⟩ | ⟨e, he, w1, hw1, hr⟩
  · exact .inl ⟨by omega, hr⟩
  · have hne : r ≠ b := fun e => by subst e; rw [h1] at h2; cases h2
    have he' : e ∈ es.toList ∧ e.born ∉ seen.toList := by
      unfold leftOf at he
      simp at he
      exact ⟨by simpa using he.1, by simpa using he.2⟩
    obtain ⟨j, hj⟩ := List.mem_iff_getElem?.1 he'.1
    obtain ⟨p, hp, hk, hv⟩ := h3.at hj
    have hpd : p ∉ done := fun hin => he'.2 ((h8 j e p hj hp).2 hin)
    have hpm : p ∈ ps := List.mem_of_getElem? hp
    have hkd : p.1 ∉ done.map (·.1) := fun hin => by
      obtain ⟨q, hq, hqe⟩ := List.mem_map.1 hin
      have a1 := memLookup (v := q.2) h4 (h10 q hq)
      have a2 := memLookup (v := p.2) h4 hpm
      rw [hqe, a2] at a1
      have : q = p := Prod.ext hqe (by simpa using a1.symm)
      exact hpd (this ▸ hq)
    have hlt : (leftOf es (seen.push e.born)).size < left := by
      have e1 : ∀ s : Array Nat, (leftOf es s).size = (es.toList.filter fun e => !s.contains e.born).length := fun s => by unfold leftOf; rw [← Array.length_toList]; simp
      rw [← h7, e1, e1]
      exact filter_lt _ _ (fun x hx => by simp at hx ⊢; exact hx.1) e (by simpa using he'.2) (by simp) _ he'.1
    refine .inr ⟨by omega, p.1, p.2, w1, _, hw1, hlt, by rw [h5]; exact memLookup h4 hpm, hkd, .mapIter (some b) clock (seen.push e.born) clock, ?_, trivial, hne, ⟨es, clock, ps, seen.push e.born, ?_, ?_, h3, h4, h5, h6, rfl, ?_, ?_, ?_, ?_⟩⟩
    · rw [hr, hk, hv]; rfl
    · have e1 : w1.heap = w.heap := by rcases hw1 with rfl | rfl <;> rfl
      simp only [setBlk, Array.getElem?_setIfInBounds_ne hne, e1, h1]
    · have e1 : w1.heap = w.heap := by rcases hw1 with rfl | rfl <;> rfl
      have := (Array.getElem?_eq_some_iff.1 h2).1
      simp [setBlk, e1, this]
    · intro j' e' p' hj' hp'
      have hi := h8 j' e' p' hj' hp'
      rw [Array.toList_push, List.mem_append, List.mem_append, hi, List.mem_singleton, List.mem_singleton]
      refine or_congr Iff.rfl ⟨fun hb => ?_, fun hb => ?_⟩
      · have : j' = j := by
          have n1 := h6.2
          have l1 := (List.getElem?_eq_some_iff.1 hj').1
          have l2 := (List.getElem?_eq_some_iff.1 hj).1
          refine (List.getElem_inj (i := j') (j := j) (h₀ := by simpa using l1) (h₁ := by simpa using l2) n1).1 ?_
          simp only [List.getElem_map]
          rw [(List.getElem?_eq_some_iff.1 hj').2, (List.getElem?_eq_some_iff.1 hj).2]; exact hb
        subst this
        rw [hp] at hp'; exact (Option.some.inj hp').symm
      · subst hb
        have : j' = j := by
          have l1 := (List.getElem?_eq_some_iff.1 hp').1
          have l2 := (List.getElem?_eq_some_iff.1 hp).1
          refine (List.getElem_inj (i := j') (j := j) (h₀ := by simpa using l1) (h₁ := by simpa using l2) h4).1 ?_
          simp only [List.getElem_map]
          rw [(List.getElem?_eq_some_iff.1 hp').2, (List.getElem?_eq_some_iff.1 hp).2]
        subst this
        rw [hj] at hj'; rw [Option.some.inj hj']
    · rw [List.map_append, List.nodup_append]
      refine ⟨h9, by simp, fun x hx y hy => ?_⟩
      simp at hy; subst hy
      intro e; subst e; exact hkd hx
    · intro q hq
      rcases List.mem_append.1 hq with hq | hq
      · exact h10 q hq
      · simp at hq; subst hq; exact hpm
    · intro d' p' hd'
      have := List.append_inj' hd' rfl
      have e2 : (p.1, p.2) = p' := by simpa using this.2
      subst e2
      exact ⟨j, e, seen, hj, hp, rfl⟩
theorem op_nextE {x : Operand} (h0 : left = 0) (hw : Region.wanted o (yielded ops a.tmps) = true) (hd : o.dst = some d) (hn : Nat.blt d n.n = true) (ho : o.op = .next x false) (S : St n fl a) (H : HSat M w0 (ItA r b kenc enc m done left :: l) w)
    (hx : ev fl x = some (.pointer (some ⟨r, 0, none⟩))) (k : ∀ a' w', St n ((d, .tuple #[.bool false]) :: fl) a' → HSat M w0 (ItA r b kenc enc m done left :: l) w' → K a' w') : opw P ops o a w K := by
  rcases run_next_it (P := P) H.it o.type with ⟨_, hr⟩ | ⟨h1, _⟩
  · have hrun : (execOp a.eval o).run P w = .ok (.value (.tuple #[.bool false])) w := by
      unfold execOp; rw [ho]; simp only [S.ev hx]
      simp only [Sem.run_bind, hr, Result.andThen_ok, Sem.run_pure]
    refine opw_val hw hrun ?_
    rw [hd]
    exact k _ _ (S.put hn _) H
  · omega
theorem op_nextY {x : Operand} (h0 : 0 < left) (hw : Region.wanted o (yielded ops a.tmps) = true) (hd : o.dst = some d) (hn : Nat.blt d n.n = true) (ho : o.op = .next x false) (S : St n fl a) (H : HSat M w0 (ItA r b kenc enc m done left :: l) w)
    (hx : ev fl x = some (.pointer (some ⟨r, 0, none⟩))) (k : ∀ key u left' a' w', left' < left → m key = some u → key ∉ done.map (·.1) → St n ((d, .tuple #[.bool true, kenc key, enc u]) :: fl) a' → HSat M w0 (ItA r b kenc enc m (done ++ [(key, u)]) left' :: l) w' → K a' w') : opw P ops o a w K := by
  rcases run_next_it (P := P) H.it o.type with ⟨h1, hr⟩ | ⟨h1, key, u, w1, left', hw1, hlt, hm, hk, ob, hr, hth, hne, hit⟩
  · omega
  · have hrun : (execOp a.eval o).run P w = .ok (.value (.tuple #[.bool true, kenc key, enc u])) (setBlk w1 r ob) := by
      unfold execOp; rw [ho]; simp only [S.ev hx]
      simp only [Sem.run_bind, hr, Result.andThen_ok, Sem.run_pure]
    refine opw_val hw hrun ?_
    rw [hd]
    refine k key u left' _ _ hlt hm hk (S.put hn _) ?_
    have H1 : HSat M w0 ([] ++ ItA r b kenc enc m done left :: l) w1 := by
      rcases hw1 with rfl | rfl
      · exact H
      · exact H.ext (Ext.drew w)
    have hrl : r < w1.heap.size := by
      have := (ItA r b kenc enc m done left).lt w1 r (H1.ok _ (by simp)) (.inl rfl)
      exact this
    have hoth : ∀ q, q ≠ r → (setBlk w1 r ob).heap[q]? = w1.heap[q]? := fun q hq => by simp [setBlk, Array.getElem?_setIfInBounds_ne (Ne.symm hq)]
    refine HSat.swap H1 rfl rfl ⟨rfl, rfl, rfl, by simp [setBlk], fun q _ hq => hoth q (fun e => hq (.inl e)), fun q _ hq => ?_⟩ hit (fun q hq => .inl hq)
    by_cases hqr : q = r
    · subst hqr
      have : (setBlk w1 q ob).heap[q]? = some ob := by simp [setBlk, hrl]
      rw [this]; exact hth
    · rw [hoth q hqr]; exact hq
theorem y_entry {x : Operand} {key : κ} {u : β} (ho : o.op = .entry x) (S : St n fl a) (H : HSat M w0 (ItA r b kenc enc m (done ++ [(key, u)]) left :: l) w)
    (hx : ev fl x = some (.pointer (some ⟨r, 0, none⟩))) : Yld P o a w (.tuple #[kenc key, enc u]) := by
  obtain ⟨es, clock, ps, seen, h1, h2, h3, h4, h5, h6, h7, h8, h9, h10, h11⟩ := H.it.ok
  obtain ⟨j, e, s, hj, hp, rfl⟩ := h11 done (key, u) rfl
  obtain ⟨p, hp', hk, hv⟩ := h3.at hj
  rw [hp] at hp'
  cases hp'
  have hr := run_entry_at (P := P) w r b clock s es clock e h2 h1 (List.mem_of_getElem? hj) h6.2
  unfold Yld execOp; rw [ho]; simp only [S.ev hx]
  rw [hk, hv] at hr
  simp only [Sem.run_bind, hr, Result.andThen_ok, Sem.run_pure]
end
end Go.Gw
end
section
namespace Go.Proofs.YtienaifmlhcijaaGreatDoor
open Go Go.Gw
set_option linter.unusedSimpArgs false
set_option linter.unusedVariables false
/-- one more key -/
def addK (ks : List Int) (k : Int) : List Int := if k ∈ ks then ks else ks ++ [k]
/-- the keys, as they come -/
def keysF (kf : SV → Int) (ok : SV → Bool) (xs : List SV) : List Int := xs.foldl (fun ks s => if ok s = true then addK ks (kf s) else ks) []
/-- the elements with a key -/
def grpF (kf : SV → Int) (ok : SV → Bool) (xs : List SV) (k : Int) : List SV := xs.filter fun s => ok s && decide (kf s = k)
theorem keysF_yes {kf : SV → Int} {ok : SV → Bool} {xs : List SV} {s : SV} (h : ok s = true) : keysF kf ok (xs ++ [s]) = addK (keysF kf ok xs) (kf s) := by simp [keysF, h]
theorem keysF_no {kf : SV → Int} {ok : SV → Bool} {xs : List SV} {s : SV} (h : ok s = false) : keysF kf ok (xs ++ [s]) = keysF kf ok xs := by simp [keysF, h]
theorem grpF_yes {kf : SV → Int} {ok : SV → Bool} {xs : List SV} {s : SV} (h : ok s = true) : grpF kf ok (xs ++ [s]) (kf s) = grpF kf ok xs (kf s) ++ [s] := by simp [grpF, h]
theorem grpF_ne {kf : SV → Int} {ok : SV → Bool} {xs : List SV} {s : SV} {k : Int} (h : k ≠ kf s) : grpF kf ok (xs ++ [s]) k = grpF kf ok xs k := by
  have : ¬ kf s = k := fun e => h e.symm
  simp [grpF, this]
theorem grpF_no {kf : SV → Int} {ok : SV → Bool} {xs : List SV} {s : SV} (h : ok s = false) (k : Int) : grpF kf ok (xs ++ [s]) k = grpF kf ok xs k := by simp [grpF, h]
theorem addK_nodup {ks : List Int} (h : ks.Nodup) (k : Int) : (addK ks k).Nodup := by
  unfold addK; split
  · exact h
  · rename_i hk
    rw [List.nodup_append]
    exact ⟨h, by simp, fun x hx y hy => by simp at hy; subst hy; exact fun e => hk (e ▸ hx)⟩
theorem addK_mem {ks : List Int} {k j : Int} : j ∈ addK ks k ↔ j ∈ ks ∨ j = k := by
  unfold addK; split
  · rename_i hk; exact ⟨.inl, fun h => h.elim id (fun e => e ▸ hk)⟩
  · simp
theorem keysF_nodup (kf : SV → Int) (ok : SV → Bool) (xs : List SV) : (keysF kf ok xs).Nodup := by
  suffices h : ∀ (l : List SV) (ks : List Int), ks.Nodup → (l.foldl (fun ks s => if ok s = true then addK ks (kf s) else ks) ks).Nodup from h xs [] .nil
  intro l
  induction l with
  | nil => intro ks h; exact h
  | cons s l ih =>
    intro ks h
    simp only [List.foldl_cons]
    refine ih _ ?_
    split
    · exact addK_nodup h _
    · exact h
theorem keysF_mem (kf : SV → Int) (ok : SV → Bool) (xs : List SV) (k : Int) : k ∈ keysF kf ok xs ↔ ∃ s ∈ xs, ok s = true ∧ kf s = k := by
  suffices h : ∀ (l : List SV) (ks : List Int), k ∈ (l.foldl (fun ks s => if ok s = true then addK ks (kf s) else ks) ks) ↔ k ∈ ks ∨ ∃ s ∈ l, ok s = true ∧ kf s = k by
    have := h xs []; simpa [keysF] using this
  intro l
  induction l with
  | nil => intro ks; simp
  | cons s l ih =>
    intro ks
    simp only [List.foldl_cons]
    rw [ih]
    split
    · rename_i hs
      rw [addK_mem]
      simp only [List.mem_cons]
      constructor
      · rintro ((h | h) | ⟨t, ht, h⟩)
        · exact .inl h
        · exact .inr ⟨s, .inl rfl, hs, h.symm⟩
        · exact .inr ⟨t, .inr ht, h⟩
      · rintro (h | ⟨t, rfl | ht, h⟩)
        · exact .inl (.inl h)
        · exact .inl (.inr h.2.symm)
        · exact .inr ⟨t, ht, h⟩
    · rename_i hs
      simp only [List.mem_cons]
      constructor
      · rintro (h | ⟨t, ht, h⟩)
        · exact .inl h
        · exact .inr ⟨t, .inr ht, h⟩
      · rintro (h | ⟨t, rfl | ht, h⟩)
        · exact .inl h
        · exact absurd h.1 hs
        · exact .inr ⟨t, ht, h⟩
theorem grpF_mem {kf : SV → Int} {ok : SV → Bool} {xs : List SV} {k : Int} {s : SV} : s ∈ grpF kf ok xs k ↔ s ∈ xs ∧ ok s = true ∧ kf s = k := by simp [grpF]
theorem grpF_ne_nil {kf : SV → Int} {ok : SV → Bool} {xs : List SV} {k : Int} (h : k ∈ keysF kf ok xs) : grpF kf ok xs k ≠ [] := by
  obtain ⟨s, h1, h2⟩ := (keysF_mem kf ok xs k).1 h
  exact List.ne_nil_of_mem (grpF_mem.2 ⟨h1, h2⟩)
theorem grpF_nil (kf : SV → Int) (ok : SV → Bool) {xs : List SV} {k : Int} (h : k ∉ keysF kf ok xs) : grpF kf ok xs k = [] := by
  rw [List.eq_nil_iff_forall_not_mem]
  intro s hs
  obtain ⟨h1, h2, h3⟩ := grpF_mem.1 hs
  exact h ((keysF_mem kf ok xs k).2 ⟨s, h1, h2, h3⟩)
theorem grpF_len (kf : SV → Int) (ok : SV → Bool) (xs : List SV) (k : Int) : (grpF kf ok xs k).length ≤ xs.length := List.length_filter_le _ _
/-- a map given by its keys -/
def mvF {β : Type} (ks : List Int) (val : Int → β) : Int → Option β := fun k => if k ∈ ks then some (val k) else none
def setF {β : Type} (val : Int → β) (k : Int) (u : β) : Int → β := fun j => if j = k then u else val j
theorem setF_same {β : Type} (val : Int → β) (k : Int) (u : β) : setF val k u k = u := by simp [setF]
theorem setF_ne {β : Type} (val : Int → β) {k j : Int} (u : β) (h : j ≠ k) : setF val k u j = val j := by simp [setF, h]
theorem mvF_in {β : Type} {ks : List Int} {val : Int → β} {k : Int} (h : k ∈ ks) : mvF ks val k = some (val k) := by simp [mvF, h]
theorem mvF_out {β : Type} {ks : List Int} {val : Int → β} {k : Int} (h : k ∉ ks) : mvF ks val k = none := by simp [mvF, h]
theorem mvF_nil {β : Type} (val : Int → β) : mvF [] val = fun _ => none := by funext k; simp [mvF]
theorem mvF_some {β : Type} {ks : List Int} {val : Int → β} {k : Int} {u : β} (h : mvF ks val k = some u) : k ∈ ks ∧ u = val k := by
  unfold mvF at h; split at h
  · exact ⟨by assumption, (Option.some.inj h).symm⟩
  · cases h
theorem upd_mvF {β : Type} (ks : List Int) (val : Int → β) (k : Int) (u : β) : upd (mvF ks val) k u = mvF (addK ks k) (setF val k u) := by
  funext j
  unfold upd mvF setF
  by_cases h : j = k
  · subst h; simp [addK_mem]
  · simp [h, addK_mem]
end Go.Proofs.YtienaifmlhcijaaGreatDoor
end
section
namespace Go.Proofs.YtienaifmlhcijaaGreatDoor
open Go Go.Gw
set_option linter.unusedSimpArgs false
set_option linter.unusedVariables false
def okW (s : SV) : Bool := (s.kind == 1) || (s.kind == 2)
/-- a blame about a scan -/
def blameF (kind : Int) (s : SV) (other count : Int) : BV := ⟨kind, s.serial, s.gate, s.number, other, count⟩
/-- the scan with a number -/
def lookN (l : List SV) (n : Int) : Option SV := l.find? fun s => decide (s.number = n)
def atN (l : List SV) (n : Int) : SV := (lookN l n).getD SV.z
def sortI (ns : List Int) : List Int := ns.mergeSort fun x y => decide (x ≤ y)
/-- numbers whose times are not in order -/
def ordB1 (l : List SV) (ns : List Int) (i : Nat) : List BV := if (atN l (ns.getD i 0)).time < (atN l (ns.getD (i - 1) 0)).time then [blameF 3 (atN l (ns.getD i 0)) (atN l (ns.getD i 0)).gate (atN l (ns.getD (i - 1) 0)).number] else []
/-- numbers that are not there -/
def misB1 (l : List SV) (g most : Int) (n : Nat) : List BV := if (lookN l (n : Int)).isNone = true then [⟨3, 0, g, (n : Int), -1, most⟩] else []
def ordBs (l : List SV) (ns : List Int) (i : Nat) : List BV := (List.range i).flatMap fun j => ordB1 l ns (j + 1)
def misBs (l : List SV) (g most : Int) (n : Nat) : List BV := (List.range n).flatMap fun j => misB1 l g most (j + 1)
def nsF (l : List SV) : List Int := sortI (l.map (·.number))
def mostF (l : List SV) : Int := (nsF l).getD (l.length - 1) 0
def gateB (l : List SV) : List BV := ordBs l (nsF l) (l.length - 1) ++ (if mostF l > 4000 then [] else misBs l (l.headD SV.z).gate (mostF l) (mostF l - 1).toNat)
theorem sortI_perm (ns : List Int) : (sortI ns).Perm ns := List.mergeSort_perm _ _
theorem sortI_len (ns : List Int) : (sortI ns).length = ns.length := (sortI_perm ns).length_eq
theorem nsF_len (l : List SV) : (nsF l).length = l.length := by unfold nsF; rw [sortI_len, List.length_map]
theorem getD_at {ns : List Int} {i : Nat} (h : i < ns.length) : ns[i] = ns.getD i 0 := by rw [List.getD_eq_getElem?_getD, List.getElem?_eq_getElem h]; rfl
theorem ordBs_len (l : List SV) (ns : List Int) (i : Nat) : (ordBs l ns i).length ≤ i := by
  induction i with
  | zero => simp [ordBs]
  | succ i ih => rw [ordBs, List.range_succ, List.flatMap_append, List.length_append]; unfold ordBs at ih; simp only [List.flatMap_cons, List.flatMap_nil, List.append_nil]; have : (ordB1 l ns (i + 1)).length ≤ 1 := by unfold ordB1; split <;> simp
                 omega
theorem misBs_len (l : List SV) (g most : Int) (i : Nat) : (misBs l g most i).length ≤ i := by
  induction i with
  | zero => simp [misBs]
  | succ i ih => rw [misBs, List.range_succ, List.flatMap_append, List.length_append]; unfold misBs at ih; simp only [List.flatMap_cons, List.flatMap_nil, List.append_nil]; have : (misB1 l g most (i + 1)).length ≤ 1 := by unfold misB1; split <;> simp
                 omega
theorem ordBs_s (l : List SV) (ns : List Int) (i : Nat) : ordBs l ns (i + 1) = ordBs l ns i ++ ordB1 l ns (i + 1) := by simp [ordBs, List.range_succ]
theorem misBs_s (l : List SV) (g most : Int) (n : Nat) : misBs l g most (n + 1) = misBs l g most n ++ misB1 l g most (n + 1) := by simp [misBs, List.range_succ]
theorem lookN_none {l : List SV} {n : Int} (h : ∀ s ∈ l, s.number ≠ n) : lookN l n = none := List.find?_eq_none.2 fun s hs => by simpa using h s hs
theorem lookN_snoc {l : List SV} {s : SV} (h : ∀ t ∈ l, t.number ≠ s.number) : upd (lookN l) s.number s = lookN (l ++ [s]) := by
  funext n
  unfold upd
  by_cases hn : n = s.number
  · subst hn
    rw [if_pos rfl]
    unfold lookN
    rw [List.find?_append, show l.find? (fun t => decide (t.number = s.number)) = none from lookN_none h]
    simp
  · rw [if_neg hn]
    unfold lookN
    rw [List.find?_append]
    have : ¬ s.number = n := fun e => hn e.symm
    simp [this]
theorem lookN_take {l : List SV} (hn : (l.map (·.number)).Nodup) {k : Nat} (hk : k < l.length) : ∀ t ∈ l.take k, t.number ≠ l[k].number := by
  intro t ht e
  obtain ⟨j, hj, rfl⟩ := List.getElem_of_mem ht
  simp only [List.length_take] at hj
  have hjl : j < l.length := by omega
  rw [List.getElem_take] at e
  have := (List.getElem_inj (xs := l.map (·.number)) (i := j) (j := k) (h₀ := by simpa using hjl) (h₁ := by simpa using hk) hn).1 (by simpa using e)
  omega
/-- since when a title is revoked: the first that says so -/
def sinceF (gone : List (Int × Int)) (serial : Int) : Int := ((gone.find? fun p => decide (p.1 = serial)).map (·.2)).getD 0
def staleB (gone : List (Int × Int)) (stale : Int) (s : SV) : List BV := if 1 ≤ sinceF gone s.serial ∧ sinceF gone s.serial ≤ 1000000000 ∧ s.time > sinceF gone s.serial + stale then [blameF 4 s (-1) (sinceF gone s.serial)] else []
def copyB (t s : SV) : List BV := if t.kind ≠ 1 then [] else if t.gate ≠ s.gate then [blameF 1 s t.gate t.number] else if t.number ≠ s.number then [blameF 2 s t.gate t.number] else []
def wayB1 (gone : List (Int × Int)) (stale : Int) (l : List SV) (i : Nat) : List BV :=
  let s := l.getD i SV.z
  if s.kind ≠ 1 then [] else staleB gone stale s ++ (if i = 0 then [] else copyB (l.getD (i - 1) SV.z) s)
def wayBs (gone : List (Int × Int)) (stale : Int) (l : List SV) (n : Nat) : List BV := (List.range n).flatMap (wayB1 gone stale l)
theorem wayBs_s (gone : List (Int × Int)) (stale : Int) (l : List SV) (n : Nat) : wayBs gone stale l (n + 1) = wayBs gone stale l n ++ wayB1 gone stale l n := by simp [wayBs, List.range_succ]
def wayB (gone : List (Int × Int)) (stale : Int) (l : List SV) : List BV := wayBs gone stale l l.length
/-- all blames, the keys in some order -/
def BLk (gone : List (Int × Int)) (stale : Int) (l : List SV) (K1 K2 : List Int) : List BV :=
  (K1.flatMap fun g => gateB (grpF SV.gate (fun _ => true) l g)) ++ K2.flatMap fun s => wayB gone stale (grpF SV.serial okW l s)
def BL (gone : List (Int × Int)) (stale : Int) (l : List SV) : List BV := BLk gone stale l (keysF SV.gate (fun _ => true) l) (keysF SV.serial okW l)
theorem BLk_perm {gone : List (Int × Int)} {stale : Int} {l : List SV} {K1 K2 : List Int} (h1 : K1.Perm (keysF SV.gate (fun _ => true) l)) (h2 : K2.Perm (keysF SV.serial okW l)) : (BLk gone stale l K1 K2).Perm (BL gone stale l) :=
  (h1.flatMap_right _).append (h2.flatMap_right _)
/-- the sorted list depends on the elements alone -/
theorem sortL_eq {α : Type} {c : α → α → Int} (h : Cmp c) (h0 : ∀ x y, c x y = 0 → x = y) {xs ys : List α} (hp : xs.Perm ys) : sortL c xs = sortL c ys :=
  List.Perm.eq_of_pairwise (le := fun x y => c x y ≤ 0) (fun a b _ _ h1 h2 => h0 a b (by have := h.anti a b; omega)) (sortL_sorted h xs) (sortL_sorted h ys) (((sortL_perm c xs).trans hp).trans (sortL_perm c ys).symm)
theorem nodup_sub_len {xs : List Int} : ∀ {ys : List Int}, xs.Nodup → (∀ x ∈ xs, x ∈ ys) → xs.length ≤ ys.length := by
  induction xs with
  | nil => intro ys _ _; simp
  | cons x xs ih =>
    intro ys hn hs
    have hn' := List.nodup_cons.1 hn
    have hx := hs x (List.mem_cons_self ..)
    have h1 := ih (ys := ys.erase x) hn'.2 (fun z hz => (List.mem_erase_of_ne (fun e => hn'.1 (by rw [← e]; exact hz))).2 (hs z (List.mem_cons_of_mem _ hz)))
    have h2 := List.length_erase_of_mem hx
    have h3 := List.length_pos_of_mem hx
    simp only [List.length_cons]; omega
theorem gateB_len (l : List SV) : (gateB l).length ≤ l.length + 4000 := by
  unfold gateB
  have h1 := ordBs_len l (nsF l) (l.length - 1)
  have h2 := misBs_len l (l.headD SV.z).gate (mostF l) (mostF l - 1).toNat
  rw [List.length_append]
  split
  · simp; omega
  · omega
theorem staleB_len (gone : List (Int × Int)) (stale : Int) (s : SV) : (staleB gone stale s).length ≤ 1 := by
  unfold staleB; split <;> simp
theorem keysF_len (kf : SV → Int) (ok : SV → Bool) (xs : List SV) : (keysF kf ok xs).length ≤ xs.length := by
  suffices h : ∀ (l : List SV) (ks : List Int), (l.foldl (fun ks s => if ok s = true then addK ks (kf s) else ks) ks).length ≤ ks.length + l.length by
    have := h xs []; simpa [keysF] using this
  intro l
  induction l with
  | nil => intro ks; simp
  | cons s l ih =>
    intro ks
    simp only [List.foldl_cons, List.length_cons]
    refine Nat.le_trans (ih _) ?_
    have : (if ok s = true then addK ks (kf s) else ks).length ≤ ks.length + 1 := by
      split
      · unfold addK; split <;> simp
      · omega
    omega
theorem wayB1_len (gone : List (Int × Int)) (stale : Int) (l : List SV) (i : Nat) : (wayB1 gone stale l i).length ≤ 2 := by
  unfold wayB1 staleB copyB
  dsimp only
  (repeat' split) <;> simp
theorem wayBs_len (gone : List (Int × Int)) (stale : Int) (l : List SV) (n : Nat) : (wayBs gone stale l n).length ≤ 2 * n := by
  induction n with
  | zero => simp [wayBs]
  | succ n ih => rw [wayBs_s, List.length_append]; have := wayB1_len gone stale l n; omega
theorem flat_len {α β : Type} {f : α → List β} {b : Nat} : ∀ {xs : List α}, (∀ x ∈ xs, (f x).length ≤ b) → (xs.flatMap f).length ≤ xs.length * b
  | [], _ => by simp
  | x :: xs, h => by
    have h1 := h x (List.mem_cons_self ..)
    have h2 := flat_len (xs := xs) (fun y hy => h y (List.mem_cons_of_mem _ hy))
    simp only [List.flatMap_cons, List.length_append, List.length_cons, Nat.add_mul]; omega
section
variable {g : List (Int × Int)} {st : Int} {l : List SV}
theorem getD_SV {i : Nat} (h : i < l.length) : l.getD i SV.z = l[i] := by rw [List.getD_eq_getElem?_getD, List.getElem?_eq_getElem h]; rfl
theorem wayB1_a {i : Nat} (h : i < l.length) (hk : l[i].kind ≠ 1) : wayB1 g st l i = [] := by unfold wayB1; rw [getD_SV h]; simp [hk]
theorem wayB1_b {i : Nat} (h : i < l.length) (hk : l[i].kind = 1) (h2 : i = 0 ∨ ∃ j, ∃ hj : j < l.length, i = j + 1 ∧ l[j].kind ≠ 1) : wayB1 g st l i = staleB g st l[i] := by
  unfold wayB1; rw [getD_SV h]
  rcases h2 with rfl | ⟨j, hj, rfl, h3⟩
  · simp [hk]
  · rw [Nat.add_sub_cancel, getD_SV hj]; simp [hk, copyB, h3]
theorem wayB1_c {j : Nat} (h : j + 1 < l.length) (hk : l[j + 1].kind = 1) (ht : l[j].kind = 1) (hg : l[j].gate ≠ l[j + 1].gate) : wayB1 g st l (j + 1) = staleB g st l[j + 1] ++ [blameF 1 l[j + 1] l[j].gate l[j].number] := by
  unfold wayB1; rw [getD_SV h, Nat.add_sub_cancel, getD_SV (by omega)]; simp [hk, copyB, ht, hg]
theorem wayB1_d {j : Nat} (h : j + 1 < l.length) (hk : l[j + 1].kind = 1) (ht : l[j].kind = 1) (hg : l[j].gate = l[j + 1].gate) (hn : l[j].number ≠ l[j + 1].number) : wayB1 g st l (j + 1) = staleB g st l[j + 1] ++ [blameF 2 l[j + 1] l[j].gate l[j].number] := by
  unfold wayB1; rw [getD_SV h, Nat.add_sub_cancel, getD_SV (by omega)]; simp [hk, copyB, ht, hg, hn]
theorem wayB1_e {j : Nat} (h : j + 1 < l.length) (hk : l[j + 1].kind = 1) (ht : l[j].kind = 1) (hg : l[j].gate = l[j + 1].gate) (hn : l[j].number = l[j + 1].number) : wayB1 g st l (j + 1) = staleB g st l[j + 1] := by
  unfold wayB1; rw [getD_SV h, Nat.add_sub_cancel, getD_SV (by omega)]; simp [hk, copyB, ht, hg, hn]
end
theorem keys_perm {ks ls : List Int} (h1 : ks.Nodup) (h2 : ls.Nodup) (h : ∀ k, k ∈ ks ↔ k ∈ ls) : ks.Perm ls := (List.perm_ext_iff_of_nodup h1 h2).2 h
/-- a title, and since when it is revoked -/
structure OV where
  t : TV
  gone : Int
def encO (o : OV) : List Value := [.int .i64 o.t.serial, .int .i64 o.t.show_, .int .i64 o.t.place, .string o.t.first, .slice none 0 0, .string ⟨#[]⟩, .slice none 0 0, .int .i64 0, .slice none 0 0, .int .i64 o.gone, .slice none 0 0]
def pairsO (os : List OV) : List (Int × Int) := os.map fun o => (o.t.serial, o.gone)
/-- what the map of times holds -/
def sinM (ps : List (Int × Int)) (k : Int) : Option Int := (ps.find? fun p => decide (p.1 = k)).map (·.2)
theorem sinM_cons (p : Int × Int) (ps : List (Int × Int)) : upd (sinM ps) p.1 p.2 = sinM (p :: ps) := by
  funext k
  unfold upd sinM
  rw [List.find?_cons]
  by_cases h : k = p.1
  · subst h; simp
  · have : ¬ p.1 = k := fun e => h e.symm
    simp [h, this]
theorem pairsO_drop {os : List OV} {k : Nat} (h : k < os.length) : pairsO (os.drop k) = (os[k].t.serial, os[k].gone) :: pairsO (os.drop (k + 1)) := by
  unfold pairsO; rw [List.drop_eq_getElem_cons h]; rfl
end Go.Proofs.YtienaifmlhcijaaGreatDoor
end
section
namespace Go.Proofs.YtienaifmlhcijaaGreatDoor
open Go Go.Gw
set_option linter.unusedSimpArgs false
set_option linter.unusedVariables false
def hexB (c : UInt8) : Prop := (48 ≤ c.toNat ∧ c.toNat ≤ 57) ∨ (97 ≤ c.toNat ∧ c.toNat ≤ 102)
def digB (c : UInt8) : Nat := if c.toNat ≤ 57 then c.toNat - 48 else c.toNat - 87
def hexN (l : List UInt8) : Nat := l.foldl (fun a c => a * 16 + digB c) 0
theorem digB_lt {c : UInt8} (h : hexB c) : digB c < 16 := by unfold digB; unfold hexB at h; split <;> omega
theorem hexN_snoc (l : List UInt8) (c : UInt8) : hexN (l ++ [c]) = hexN l * 16 + digB c := by simp [hexN]
theorem hexN_take {l : List UInt8} {k : Nat} (h : k < l.length) : hexN (l.take (k + 1)) = hexN (l.take k) * 16 + digB l[k] := by rw [List.take_succ_eq_append_getElem h, hexN_snoc]
theorem hexN_lt {l : List UInt8} (h : ∀ c ∈ l, hexB c) : ∀ k, k ≤ l.length → hexN (l.take k) < 16 ^ k
  | 0, _ => by simp [hexN]
  | k + 1, hk => by
    rw [hexN_take (by omega), Nat.pow_succ]
    have h1 := hexN_lt h k (by omega)
    have h2 := digB_lt (h l[k] (List.getElem_mem (by omega)))
    omega
theorem hexB_cut {c : UInt8} (h : hexCut.contains c = true) : hexB c := by
  have h2 : c ∈ hexCut := by simpa using h
  unfold hexCut at h2
  simp only [List.mem_cons, List.not_mem_nil, or_false] at h2
  rcases h2 with rfl | rfl | rfl | rfl | rfl | rfl | rfl | rfl | rfl | rfl | rfl | rfl | rfl | rfl | rfl | rfl <;> (unfold hexB; decide)
theorem isD_hex {t : ByteArray} (h : isD t = true) : ∀ c ∈ t.data.toList, hexB c := fun c hc => by
  unfold isD at h
  simp only [Bool.and_eq_true, List.all_eq_true] at h
  exact hexB_cut (h.2 c hc)
/-- the number that a digest stands for -/
def belowN (t : ByteArray) (n : Nat) : Nat := hexN (t.extract 0 15).data.toList % n
theorem ext15 (t : ByteArray) (h : t.size = 16) : (t.extract 0 15).size = 15 := by rw [ByteArray.size_extract]; omega
theorem ext15_mem {t : ByteArray} : ∀ c ∈ (t.extract 0 15).data.toList, c ∈ t.data.toList := fun c hc => by
  rw [ByteArray.data_extract] at hc
  simp only [Array.toList_extract] at hc
  have h : c ∈ List.take 15 t.data.toList := by simpa [List.extract] using hc
  exact List.mem_of_mem_take h
theorem belowN_lt (t : ByteArray) {n : Nat} (h : 0 < n) : belowN t n < n := Nat.mod_lt _ h
/-- the k-th position of a serial number -/
noncomputable def posN (serial : Int) (bits k : Nat) : Nat := belowN (listS [itoaS serial, itoaS (k : Int)]) bits
theorem posN_lt (serial : Int) {bits : Nat} (h : 0 < bits) (k : Nat) : posN serial bits k < bits := belowN_lt _ h
def encU (n : Nat) : List Value := [.int .u64 (n : Int)]
/-- a filter of 1024 bits, three positions for each number -/
def encF (wv : Value) : List Value := [.int .i64 1024, .int .i64 3, wv]
/-- bit n is set -/
def setW (ws : List Nat) (n : Nat) : List Nat := ws.set (n / 64) (ws.getD (n / 64) 0 ||| (1 <<< (n % 64)))
/-- sixteen words -/
structure WOk (ws : List Nat) : Prop where
  len : ws.length = 16
  lt : ∀ x ∈ ws, x < 18446744073709551616
theorem bit_lt (n : Nat) : 1 <<< (n % 64) < 18446744073709551616 := by
  rw [Nat.shiftLeft_eq, Nat.one_mul]
  exact Nat.lt_of_lt_of_le (Nat.pow_lt_pow_right (by decide) (Nat.mod_lt n (by decide))) (by decide)
theorem WOk.at {ws : List Nat} (h : WOk ws) {i : Nat} (hi : i < ws.length) : ws[i] < 18446744073709551616 := h.lt _ (List.getElem_mem hi)
theorem WOk.set {ws : List Nat} (h : WOk ws) {n : Nat} (hn : n < 1024) : WOk (setW ws n) := by
  refine ⟨by unfold setW; rw [List.length_set]; exact h.len, fun x hx => ?_⟩
  unfold setW at hx
  rcases List.mem_or_eq_of_mem_set hx with h1 | h1
  · exact h.lt x h1
  · subst h1
    have hi : n / 64 < ws.length := by rw [h.len]; omega
    rw [List.getD_eq_getElem?_getD, List.getElem?_eq_getElem hi]
    exact Nat.or_lt_two_pow (n := 64) (h.at hi) (bit_lt n)
/-- the bits of a number's first k positions are set -/
noncomputable def setP (ws : List Nat) (s : Int) : Nat → List Nat
  | 0 => ws
  | k + 1 => setW (setP ws s k) (posN s 1024 k)
theorem WOk.setP {ws : List Nat} (h : WOk ws) (s : Int) : ∀ k, WOk (setP ws s k)
  | 0 => h
  | k + 1 => (h.setP s k).set (posN_lt s (by decide) k)
/-- the words of the filter of numbers -/
noncomputable def makeW (ns : List Int) : List Nat := ns.foldl (fun ws s => setP ws s 3) (List.replicate 16 0)
theorem makeW_snoc (ns : List Int) (s : Int) : makeW (ns ++ [s]) = setP (makeW ns) s 3 := by simp [makeW]
theorem makeW_ok (ns : List Int) : WOk (makeW ns) := by
  suffices h : ∀ (ns : List Int) (ws : List Nat), WOk ws → WOk (ns.foldl (fun ws s => setP ws s 3) ws) from
    h ns _ ⟨by simp, fun x hx => by rw [List.eq_of_mem_replicate hx]; decide⟩
  intro ns
  induction ns with
  | nil => intro ws h; exact h
  | cons s ns ih => intro ws h; exact ih _ (h.setP s 3)
end Go.Proofs.YtienaifmlhcijaaGreatDoor
end
section
namespace Go.Proofs.YtienaifmlhcijaaGreatDoor
open Go Go.Gw
set_option linter.unusedSimpArgs false
set_option linter.unusedVariables false
/-- bit n of the words -/
def bitW (ws : List Nat) (n : Nat) : Bool := (ws.getD (n / 64) 0).testBit (n % 64)
theorem bitW_at {ws : List Nat} {n : Nat} (h : n / 64 < ws.length) : bitW ws n = decide ((ws[n / 64] >>> (n % 64)) % 2 = 1) := by
  unfold bitW
  rw [List.getD_eq_getElem?_getD, List.getElem?_eq_getElem h, Option.getD_some, Nat.testBit_eq_decide_div_mod_eq, Nat.shiftRight_eq_div_pow]
noncomputable def hasF (ws : List Nat) (s : Int) : Bool := (List.range 3).all fun k => bitW ws (posN s 1024 k)
theorem bitW_set {ws : List Nat} (h : WOk ws) {n : Nat} (hn : n < 1024) (m : Nat) : bitW (setW ws n) m = (bitW ws m || decide (m = n)) := by
  have hi : n / 64 < ws.length := by rw [h.len]; omega
  unfold bitW setW
  by_cases hq : m / 64 = n / 64
  · rw [hq, List.getD_eq_getElem?_getD, List.getElem?_set_self hi, Option.getD_some, Nat.testBit_or, Nat.one_shiftLeft, Nat.testBit_two_pow]
    congr 1
    rw [Bool.eq_iff_iff, decide_eq_true_eq, decide_eq_true_eq]
    omega
  · have hne : ¬ m = n := fun e => hq (by rw [e])
    rw [List.getD_eq_getElem?_getD, List.getElem?_set_ne (fun e => hq e.symm), ← List.getD_eq_getElem?_getD]
    simp [hne]
theorem bitW_setP {ws : List Nat} (h : WOk ws) (s : Int) (m : Nat) : ∀ k, bitW (setP ws s k) m = (bitW ws m || (List.range k).any fun j => decide (m = posN s 1024 j))
  | 0 => by simp [setP]
  | k + 1 => by
    show bitW (setW (setP ws s k) (posN s 1024 k)) m = _
    rw [bitW_set (h.setP s k) (posN_lt s (by decide) k), bitW_setP h s m k, List.range_succ, List.any_append, Bool.or_assoc]
    simp
theorem bitW_make (ns : List Int) (m : Nat) : bitW (makeW ns) m = true ↔ ∃ s ∈ ns, ∃ k, k < 3 ∧ m = posN s 1024 k := by
  suffices h : ∀ (ns : List Int) (ws : List Nat), WOk ws → (bitW (ns.foldl (fun ws s => setP ws s 3) ws) m = true ↔ bitW ws m = true ∨ ∃ s ∈ ns, ∃ k, k < 3 ∧ m = posN s 1024 k) by
    have h0 := h ns (List.replicate 16 0) ⟨by simp, fun x hx => by rw [List.eq_of_mem_replicate hx]; decide⟩
    have hz : bitW (List.replicate 16 0) m = false := by
      unfold bitW
      have : (List.replicate 16 0).getD (m / 64) 0 = 0 := by
        rw [List.getD_eq_getElem?_getD, List.getElem?_replicate]; split <;> rfl
      rw [this, Nat.zero_testBit]
    unfold makeW
    rw [h0, hz]; simp
  intro ns
  induction ns with
  | nil => intro ws h; simp
  | cons s ns ih =>
    intro ws h
    simp only [List.foldl_cons]
    rw [ih _ (h.setP s 3), bitW_setP h s m 3]
    simp only [Bool.or_eq_true, List.any_eq_true, List.mem_range, decide_eq_true_eq, List.mem_cons]
    constructor
    · rintro ((h1 | ⟨k, hk, h1⟩) | ⟨t, ht, h1⟩)
      · exact .inl h1
      · exact .inr ⟨s, .inl rfl, k, hk, h1⟩
      · exact .inr ⟨t, .inr ht, h1⟩
    · rintro (h1 | ⟨t, rfl | ht, h1⟩)
      · exact .inl (.inl h1)
      · obtain ⟨k, hk, h1⟩ := h1; exact .inl (.inr ⟨k, hk, h1⟩)
      · exact .inr ⟨t, ht, h1⟩
/-- a filter has what was put in -/
theorem has_make {ns : List Int} {s : Int} (h : s ∈ ns) : hasF (makeW ns) s = true := by
  unfold hasF
  rw [List.all_eq_true]
  intro k hk
  exact (bitW_make ns _).2 ⟨s, h, k, List.mem_range.1 hk, rfl⟩
/-- an empty one has nothing -/
theorem has_nil (s : Int) : hasF (makeW []) s = false := by
  unfold hasF
  rw [List.all_eq_false]
  refine ⟨0, by simp, fun h => ?_⟩
  obtain ⟨t, ht, _⟩ := (bitW_make [] _).1 h
  simp at ht
end Go.Proofs.YtienaifmlhcijaaGreatDoor
end
section
namespace Go.Proofs.YtienaifmlhcijaaGreatDoor
open Go Go.Gw
set_option linter.unusedSimpArgs false
set_option linter.unusedVariables false
def idS (s : SV) : Int × Int := (s.gate, s.number)
def idB (b : BV) : Int × Int := (b.gate, b.number)
/-- no two scans have the same gate and number -/
structure Own (xs : List SV) : Prop where
  nd : (xs.map idS).Nodup
  g0 : ∀ s ∈ xs, 0 ≤ s.gate
section
variable {xs ys : List SV}
theorem Own.perm (h : Own xs) (p : xs.Perm ys) : Own ys := ⟨(p.map idS).nodup_iff.1 h.nd, fun s hs => h.g0 s (p.mem_iff.2 hs)⟩
theorem Own.pw (h : Own xs) : xs.Pairwise fun s t => idS s ≠ idS t := List.pairwise_map.1 h.nd
theorem Own.nodup (h : Own xs) : xs.Nodup := h.pw.imp fun {x y} h e => h (congrArg idS e)
theorem Own.sub (h : Own xs) (p : ys.Sublist xs) : Own ys := ⟨h.nd.sublist (p.map idS), fun s hs => h.g0 s (p.subset hs)⟩
theorem Own.inj (h : Own xs) {s t : SV} (hs : s ∈ xs) (ht : t ∈ xs) (e : idS s = idS t) : s = t := by
  obtain ⟨i, hi, rfl⟩ := List.getElem_of_mem hs
  obtain ⟨j, hj, rfl⟩ := List.getElem_of_mem ht
  have := (List.getElem_inj (xs := xs.map idS) (i := i) (j := j) (h₀ := by simpa using hi) (h₁ := by simpa using hj) h.nd).1 (by simpa using e)
  subst this; rfl
theorem grp_sub (kf : SV → Int) (ok : SV → Bool) (xs : List SV) (k : Int) : (grpF kf ok xs k).Sublist xs := List.filter_sublist
theorem Own.nums (h : Own xs) (g : Int) : ((grpF SV.gate (fun _ => true) xs g).map (·.number)).Nodup := by
  have h1 := (h.sub (grp_sub SV.gate (fun _ => true) xs g)).pw
  refine List.pairwise_map.2 (h1.imp_of_mem ?_)
  intro s t hs ht h2 e
  exact h2 (by unfold idS; rw [(grpF_mem.1 hs).2.2, (grpF_mem.1 ht).2.2, e])
end
theorem nodup_flat {α β : Type} {f : α → List β} {l : List α} (h1 : ∀ x ∈ l, (f x).Nodup) (h2 : l.Pairwise fun x y => ∀ b ∈ f x, ∀ c ∈ f y, b ≠ c) : (l.flatMap f).Nodup := List.pairwise_flatMap.2 ⟨h1, h2⟩
theorem nodup_le1 {α : Type} {l : List α} (h : l.length ≤ 1) : l.Nodup := by
  cases l with
  | nil => exact .nil
  | cons x l => cases l with
    | nil => simp
    | cons y l => simp at h
theorem lookN_some {l : List SV} (hn : (l.map (·.number)).Nodup) {s : SV} (hs : s ∈ l) : lookN l s.number = some s := by
  cases h : lookN l s.number with
  | none => exact absurd (List.find?_eq_none.1 h s hs) (by simp)
  | some t =>
    have h1 := List.mem_of_find?_eq_some h
    have h2 : t.number = s.number := by simpa using List.find?_some h
    obtain ⟨i, hi, rfl⟩ := List.getElem_of_mem hs
    obtain ⟨j, hj, rfl⟩ := List.getElem_of_mem h1
    have := (List.getElem_inj (xs := l.map (·.number)) (i := j) (j := i) (h₀ := by simpa using hj) (h₁ := by simpa using hi) hn).1 (by simpa using h2)
    subst this; rfl
theorem nsF_mem {l : List SV} {n : Int} (h : n ∈ nsF l) : ∃ s ∈ l, s.number = n := by
  have := (sortI_perm (l.map (·.number))).mem_iff.1 h
  obtain ⟨s, h1, h2⟩ := List.mem_map.1 this
  exact ⟨s, h1, h2⟩
theorem atN_mem {l : List SV} (hn : (l.map (·.number)).Nodup) {n : Int} (h : n ∈ nsF l) : atN l n ∈ l ∧ (atN l n).number = n := by
  obtain ⟨s, h1, rfl⟩ := nsF_mem h
  unfold atN
  rw [lookN_some hn h1]
  exact ⟨h1, rfl⟩
theorem ordBs_mem {l : List SV} {ns : List Int} {n : Nat} {b : BV} (h : b ∈ ordBs l ns n) : ∃ j, j < n ∧ b ∈ ordB1 l ns (j + 1) := by
  obtain ⟨j, h1, h2⟩ := List.mem_flatMap.1 h
  exact ⟨j, List.mem_range.1 h1, h2⟩
theorem misBs_mem {l : List SV} {g most : Int} {n : Nat} {b : BV} (h : b ∈ misBs l g most n) : ∃ j, j < n ∧ b ∈ misB1 l g most (j + 1) := by
  obtain ⟨j, h1, h2⟩ := List.mem_flatMap.1 h
  exact ⟨j, List.mem_range.1 h1, h2⟩
theorem ordB1_mem {l : List SV} {ns : List Int} {i : Nat} {b : BV} (h : b ∈ ordB1 l ns i) : b = blameF 3 (atN l (ns.getD i 0)) (atN l (ns.getD i 0)).gate (atN l (ns.getD (i - 1) 0)).number := by
  unfold ordB1 at h; split at h
  · simpa using h
  · cases h
theorem misB1_mem {l : List SV} {g most : Int} {n : Nat} {b : BV} (h : b ∈ misB1 l g most n) : b = ⟨3, 0, g, (n : Int), -1, most⟩ ∧ lookN l (n : Int) = none := by
  unfold misB1 at h; split at h
  · rename_i h2; exact ⟨by simpa using h, by simpa using h2⟩
  · cases h
theorem ordB1_len (l : List SV) (ns : List Int) (i : Nat) : (ordB1 l ns i).length ≤ 1 := by unfold ordB1; split <;> simp
theorem misB1_len (l : List SV) (g most : Int) (n : Nat) : (misB1 l g most n).length ≤ 1 := by unfold misB1; split <;> simp
theorem nsF_nodup {l : List SV} (hn : (l.map (·.number)).Nodup) : (nsF l).Nodup := (sortI_perm _).nodup_iff.2 hn
theorem range_pw {n : Nat} {R : Nat → Nat → Prop} (h : ∀ i j, i < n → j < n → i ≠ j → R i j) : (List.range n).Pairwise R :=
  List.nodup_range.imp_of_mem fun hi hj hne => h _ _ (List.mem_range.1 hi) (List.mem_range.1 hj) hne
theorem gateB_kind {l : List SV} {b : BV} (h : b ∈ gateB l) : b.kind = 3 := by
  unfold gateB at h
  rcases List.mem_append.1 h with h | h
  · obtain ⟨j, _, h1⟩ := ordBs_mem h; rw [ordB1_mem h1]; rfl
  · split at h
    · cases h
    · obtain ⟨j, _, h1⟩ := misBs_mem h; rw [(misB1_mem h1).1]
theorem gateB_gate {l : List SV} {g : Int} (hn : (l.map (·.number)).Nodup) (hg : ∀ s ∈ l, s.gate = g) (h0 : l ≠ []) {b : BV} (h : b ∈ gateB l) : b.gate = g := by
  unfold gateB at h
  rcases List.mem_append.1 h with h | h
  · obtain ⟨j, hj, h1⟩ := ordBs_mem h
    rw [ordB1_mem h1]
    have hl := nsF_len l
    have : (nsF l).getD (j + 1) 0 ∈ nsF l := by rw [← getD_at (by omega)]; exact List.getElem_mem _
    exact hg _ (atN_mem hn this).1
  · split at h
    · cases h
    · obtain ⟨j, _, h1⟩ := misBs_mem h
      rw [(misB1_mem h1).1]
      cases l with
      | nil => exact absurd rfl h0
      | cons s l => exact hg s (by simp)
theorem gateB_nodup {l : List SV} {g : Int} (hn : (l.map (·.number)).Nodup) (hg : ∀ s ∈ l, s.gate = g) (h0 : 0 ≤ g) : (gateB l).Nodup := by
  have hl := nsF_len l
  have hin : ∀ j, j < l.length → (nsF l).getD j 0 ∈ nsF l := fun j hj => by rw [← getD_at (by omega)]; exact List.getElem_mem _
  unfold gateB
  rw [List.nodup_append]
  refine ⟨?_, ?_, ?_⟩
  · refine nodup_flat (fun j _ => nodup_le1 (ordB1_len _ _ _)) (range_pw fun i j hi hj hne b hb c hc e => ?_)
    have h1 := congrArg BV.number (ordB1_mem hb)
    have h2 := congrArg BV.number (ordB1_mem hc)
    simp only [blameF] at h1 h2
    rw [(atN_mem hn (hin (i + 1) (by omega))).2] at h1
    rw [(atN_mem hn (hin (j + 1) (by omega))).2] at h2
    have h3 : (nsF l).getD (i + 1) 0 = (nsF l).getD (j + 1) 0 := by rw [← h1, ← h2, e]
    rw [← getD_at (by omega), ← getD_at (by omega)] at h3
    have := (List.getElem_inj (h₀ := by omega) (h₁ := by omega) (nsF_nodup hn)).1 h3
    omega
  · split
    · exact .nil
    · refine nodup_flat (fun j _ => nodup_le1 (misB1_len _ _ _ _)) (range_pw fun i j hi hj hne b hb c hc e => ?_)
      have h1 := congrArg BV.number (misB1_mem hb).1
      have h2 := congrArg BV.number (misB1_mem hc).1
      simp only at h1 h2
      rw [e, h2] at h1
      omega
  · intro b hb c hc e
    obtain ⟨j, hj, h1⟩ := ordBs_mem hb
    split at hc
    · cases hc
    · obtain ⟨i, _, h2⟩ := misBs_mem hc
      have h3 := congrArg BV.other (ordB1_mem h1)
      have h4 := congrArg BV.other (misB1_mem h2).1
      simp only [blameF] at h3 h4
      rw [hg _ (atN_mem hn (hin (j + 1) (by omega))).1] at h3
      rw [e, h4] at h3
      omega
theorem wayB_mem {gone : List (Int × Int)} {st : Int} {l : List SV} {b : BV} (h : b ∈ wayB gone st l) : ∃ i, i < l.length ∧ b ∈ wayB1 gone st l i := by
  obtain ⟨j, h1, h2⟩ := List.mem_flatMap.1 h
  exact ⟨j, List.mem_range.1 h1, h2⟩
theorem staleB_mem {gone : List (Int × Int)} {st : Int} {s : SV} {b : BV} (h : b ∈ staleB gone st s) : b = blameF 4 s (-1) (sinceF gone s.serial) := by
  unfold staleB at h; split at h
  · simpa using h
  · cases h
theorem copyB_mem {t s : SV} {b : BV} (h : b ∈ copyB t s) : (b.kind = 1 ∨ b.kind = 2) ∧ idB b = idS s := by
  unfold copyB at h
  (repeat' split at h) <;> first | (cases h; done) | (rw [List.mem_singleton.1 h]; simp [blameF, idB, idS])
theorem copyB_len (t s : SV) : (copyB t s).length ≤ 1 := by unfold copyB; (repeat' split) <;> simp
theorem wayB1_mem {gone : List (Int × Int)} {st : Int} {l : List SV} {i : Nat} (hi : i < l.length) {b : BV} (h : b ∈ wayB1 gone st l i) : b.kind ≠ 3 ∧ idB b = idS l[i] := by
  unfold wayB1 at h
  rw [getD_SV hi] at h
  dsimp only at h
  split at h
  · cases h
  · rcases List.mem_append.1 h with h | h
    · rw [staleB_mem h]; exact ⟨by simp [blameF], rfl⟩
    · split at h
      · cases h
      · have := copyB_mem h; exact ⟨by omega, this.2⟩
theorem wayB1_nodup (gone : List (Int × Int)) (st : Int) (l : List SV) (i : Nat) : (wayB1 gone st l i).Nodup := by
  unfold wayB1
  dsimp only
  split
  · exact .nil
  · rw [List.nodup_append]
    refine ⟨nodup_le1 (staleB_len _ _ _), ?_, ?_⟩
    · split
      · exact .nil
      · exact nodup_le1 (copyB_len _ _)
    · intro b hb c hc e
      split at hc
      · cases hc
      · have h1 := congrArg BV.kind (staleB_mem hb)
        have h2 := (copyB_mem hc).1
        simp only [blameF] at h1
        rw [e] at h1; omega
theorem ways_nodup {xs : List SV} (h : Own xs) (gone : List (Int × Int)) (st : Int) : ((keysF SV.serial okW xs).flatMap fun s => wayB gone st (grpF SV.serial okW xs s)).Nodup := by
  refine nodup_flat (fun k _ => ?_) ((keysF_nodup SV.serial okW xs).imp ?_)
  · have ho := (h.sub (grp_sub SV.serial okW xs k)).nd
    refine nodup_flat (fun j _ => wayB1_nodup _ _ _ _) (range_pw fun i j hi hj hne b hb c hc e => ?_)
    have h1 := (wayB1_mem hi hb).2
    have h2 := (wayB1_mem hj hc).2
    rw [e, h2] at h1
    have := (List.getElem_inj (xs := (grpF SV.serial okW xs k).map idS) (i := j) (j := i) (h₀ := by simpa using hj) (h₁ := by simpa using hi) ho).1 (by simpa using h1)
    omega
  · intro k1 k2 hne b hb c hc e
    obtain ⟨i, hi, h1⟩ := wayB_mem hb
    obtain ⟨j, hj, h2⟩ := wayB_mem hc
    have h3 := (wayB1_mem hi h1).2
    have h4 := (wayB1_mem hj h2).2
    rw [e, h4] at h3
    have m1 := grpF_mem.1 (List.getElem_mem hi)
    have m2 := grpF_mem.1 (List.getElem_mem hj)
    have := h.inj m2.1 m1.1 h3
    exact hne (by rw [← m1.2.2, ← m2.2.2, this])
/-- no blame comes twice -/
theorem BL_nodup {xs : List SV} (h : Own xs) (gone : List (Int × Int)) (st : Int) : (BL gone st xs).Nodup := by
  unfold BL BLk
  rw [List.nodup_append]
  refine ⟨nodup_flat (fun g hg => ?_) ((keysF_nodup SV.gate _ xs).imp_of_mem ?_), ways_nodup h gone st, ?_⟩
  · obtain ⟨s, hs, _, rfl⟩ := (keysF_mem SV.gate _ xs g).1 hg
    exact gateB_nodup (h.nums _) (fun t ht => (grpF_mem.1 ht).2.2) (h.g0 s hs)
  · intro g1 g2 m1 m2 hne b hb c hc e
    have h1 := gateB_gate (h.nums g1) (fun t ht => (grpF_mem.1 ht).2.2) (grpF_ne_nil m1) hb
    have h2 := gateB_gate (h.nums g2) (fun t ht => (grpF_mem.1 ht).2.2) (grpF_ne_nil m2) hc
    rw [e, h2] at h1
    exact hne h1.symm
  · intro b hb c hc e
    obtain ⟨g, _, h1⟩ := List.mem_flatMap.1 hb
    obtain ⟨k, _, h2⟩ := List.mem_flatMap.1 hc
    obtain ⟨i, hi, h3⟩ := wayB_mem h2
    exact (wayB1_mem hi h3).1 (e ▸ gateB_kind h1)
theorem sortI_id {ns : List Int} (h : ns.Pairwise (· ≤ ·)) : sortI ns = ns := by
  refine List.Perm.eq_of_pairwise (le := fun x y : Int => x ≤ y) (fun a b _ _ h1 h2 => Int.le_antisymm h1 h2) ?_ h (sortI_perm ns)
  have := List.pairwise_mergeSort (le := fun x y : Int => decide (x ≤ y)) (fun a b d h1 h2 => by simp only [decide_eq_true_eq] at *; omega) (fun a b => by simp only [Bool.or_eq_true, decide_eq_true_eq]; omega) ns
  exact this.imp (by simp)
theorem sortI_sorted (ns : List Int) : (sortI ns).Pairwise (· ≤ ·) := by
  have := List.pairwise_mergeSort (le := fun x y : Int => decide (x ≤ y)) (fun a b d h1 h2 => by simp only [decide_eq_true_eq] at *; omega) (fun a b => by simp only [Bool.or_eq_true, decide_eq_true_eq]; omega) ns
  exact this.imp (by simp)
/-- numbers 1 to n in order, at times that do not fall -/
structure Hon (l : List SV) : Prop where
  num : ∀ i (h : i < l.length), l[i].number = (i : Int) + 1
  tm : l.Pairwise fun x y => x.time ≤ y.time
theorem Hon.nums {l : List SV} (h : Hon l) : l.map (·.number) = (List.range l.length).map fun i : Nat => (i : Int) + 1 := by
  apply List.ext_getElem
  · simp
  · intro i h1 h2
    simp only [List.getElem_map, List.getElem_range]
    exact h.num i (by simpa using h1)
theorem Hon.ns {l : List SV} (h : Hon l) : nsF l = l.map (·.number) := by
  unfold nsF
  refine sortI_id ?_
  rw [h.nums, List.pairwise_map]
  exact List.pairwise_lt_range.imp (by intro a b h; omega)
theorem Hon.nd {l : List SV} (h : Hon l) : (l.map (·.number)).Nodup := by
  rw [h.nums]
  refine List.pairwise_map.2 (List.nodup_range.imp ?_)
  intro a b h e; omega
theorem Hon.gateB {l : List SV} (h : Hon l) : gateB l = [] := by
  have hns : ∀ i (hi : i < l.length), (nsF l).getD i 0 = (i : Int) + 1 := fun i hi => by
    rw [h.ns, ← getD_at (by simpa using hi), List.getElem_map, h.num i hi]
  have hat : ∀ i (hi : i < l.length), atN l ((i : Int) + 1) = l[i] := fun i hi => by
    unfold atN; rw [← h.num i hi, lookN_some h.nd (List.getElem_mem hi)]; rfl
  rw [List.eq_nil_iff_forall_not_mem]
  intro b hb
  unfold Proofs.YtienaifmlhcijaaGreatDoor.gateB at hb
  rcases List.mem_append.1 hb with hb | hb
  · obtain ⟨j, hj, h1⟩ := ordBs_mem hb
    unfold ordB1 at h1
    split at h1
    · rename_i h2
      rw [hns (j + 1) (by omega), show j + 1 - 1 = j from rfl, hns j (by omega), hat (j + 1) (by omega), hat j (by omega)] at h2
      have := List.pairwise_iff_getElem.1 h.tm j (j + 1) (by omega) (by omega) (by omega)
      omega
    · cases h1
  · split at hb
    · cases hb
    · obtain ⟨j, hj, h1⟩ := misBs_mem hb
      have hl : 0 < l.length := by
        rcases Nat.eq_zero_or_pos l.length with h0 | h0
        · have : mostF l = 0 := by
            unfold mostF
            rw [List.getD_eq_getElem?_getD, List.getElem?_eq_none (by rw [nsF_len]; omega)]; rfl
          rw [this] at hj; simp at hj
        · exact h0
      have hm : mostF l = l.length := by unfold mostF; rw [hns (l.length - 1) (by omega)]; omega
      have h2 := (misB1_mem h1).2
      have h3 := lookN_some h.nd (List.getElem_mem (l := l) (n := j) (by omega))
      rw [h.num j (by omega)] at h3
      rw [show ((j + 1 : Nat) : Int) = (j : Int) + 1 from rfl, h3] at h2
      cases h2
/-- the merged list of scans whose times rise -/
theorem sortS_id {xs : List SV} (h : xs.Pairwise fun x y => x.time < y.time) : sortL ordS xs = xs := by
  refine List.Perm.eq_of_pairwise (le := fun x y => ordS x y ≤ 0) (fun a b _ _ h1 h2 => ordS_zero (by have := ordS_cmp.anti a b; omega)) (sortL_sorted ordS_cmp xs) (h.imp ?_) (sortL_perm ordS xs)
  intro a b h
  unfold ordS
  simp only [orL]
  unfold thenC
  rw [cmpI_eq, if_pos h, if_pos (by decide)]
  decide
theorem wayB_none {gone : List (Int × Int)} {st : Int} {l : List SV} (h : ∀ s ∈ l, s.kind = 1 → staleB gone st s = []) : wayB gone st l = wayB [] st l := by
  unfold wayB wayBs
  have : ∀ i ∈ List.range l.length, wayB1 gone st l i = wayB1 [] st l i := by
    intro i hi
    have hi := List.mem_range.1 hi
    unfold wayB1
    rw [getD_SV hi]
    dsimp only
    split
    · rfl
    · rename_i hk
      rw [h _ (List.getElem_mem hi) (by simpa using hk)]
      have : staleB [] st l[i] = [] := by unfold staleB sinceF; simp
      rw [this]
  rw [List.flatMap_def, List.flatMap_def, List.map_congr_left this]
theorem wayB1_in {gone : List (Int × Int)} {st : Int} {xs : List SV} {k : Int} {b : BV} {i : Nat} (hi : i < (grpF SV.serial okW xs k).length) (h : b ∈ wayB1 gone st (grpF SV.serial okW xs k) i) : b ∈ BL gone st xs := by
  have hk : k ∈ keysF SV.serial okW xs := by
    obtain ⟨h1, h2, h3⟩ := grpF_mem.1 (List.getElem_mem hi)
    exact (keysF_mem SV.serial okW xs k).2 ⟨_, h1, h2, h3⟩
  exact List.mem_append_right _ (List.mem_flatMap.2 ⟨k, hk, List.mem_flatMap.2 ⟨i, List.mem_range.2 hi, h⟩⟩)
theorem gateB_in {gone : List (Int × Int)} {st : Int} {xs : List SV} {g : Int} {b : BV} (h0 : grpF SV.gate (fun _ => true) xs g ≠ []) (h : b ∈ gateB (grpF SV.gate (fun _ => true) xs g)) : b ∈ BL gone st xs := by
  have hk : g ∈ keysF SV.gate (fun _ => true) xs := by
    obtain ⟨s, hs⟩ := List.exists_mem_of_ne_nil _ h0
    obtain ⟨h1, h2, h3⟩ := grpF_mem.1 hs
    exact (keysF_mem SV.gate _ xs g).2 ⟨_, h1, h2, h3⟩
  exact List.mem_append_left _ (List.mem_flatMap.2 ⟨g, hk, h⟩)
/-- an admission later than permitted is blamed -/
theorem stale_in {gone : List (Int × Int)} {st : Int} {xs : List SV} {s : SV} (hs : s ∈ xs) (hk : s.kind = 1) (h : 1 ≤ sinceF gone s.serial ∧ sinceF gone s.serial ≤ 1000000000 ∧ s.time > sinceF gone s.serial + st) : ∃ b ∈ BL gone st xs, b.kind = 4 ∧ b.gate = s.gate ∧ b.number = s.number := by
  have hg : s ∈ grpF SV.serial okW xs s.serial := grpF_mem.2 ⟨hs, by unfold okW; simp [hk], rfl⟩
  obtain ⟨i, hi, he⟩ := List.getElem_of_mem hg
  refine ⟨blameF 4 s (-1) (sinceF gone s.serial), wayB1_in hi ?_, rfl, rfl, rfl⟩
  unfold wayB1
  rw [getD_SV hi, he]
  dsimp only
  rw [if_neg (by simp [hk])]
  refine List.mem_append_left _ ?_
  unfold staleB
  rw [if_pos h]; simp
/-- a number that is left out before the last one is blamed -/
theorem gap_in {gone : List (Int × Int)} {st : Int} {xs : List SV} (ho : Own xs) {g : Int} {n : Nat} {m : Int} (hno : ∀ s ∈ xs, s.gate = g → s.number ≠ (n : Int) + 1) (hle : ∀ s ∈ xs, s.gate = g → s.number ≤ m) (hm : ∃ s ∈ xs, s.gate = g ∧ s.number = m) (hnm : (n : Int) + 1 < m) (hm4 : m ≤ 4000) : ∃ b ∈ BL gone st xs, b.kind = 3 ∧ b.gate = g ∧ b.number = (n : Int) + 1 := by
  obtain ⟨s, hs, hsg, hsm⟩ := hm
  have hl : ∀ t, t ∈ grpF SV.gate (fun _ => true) xs g ↔ t ∈ xs ∧ t.gate = g := fun t => by rw [grpF_mem]; simp
  obtain ⟨l, hel⟩ : ∃ l, l = grpF SV.gate (fun _ => true) xs g := ⟨_, rfl⟩
  rw [← hel] at hl
  have hsl : s ∈ l := (hl s).2 ⟨hs, hsg⟩
  have h0 : l ≠ [] := List.ne_nil_of_mem hsl
  have hmem : m ∈ nsF l := (sortI_perm _).mem_iff.2 (List.mem_map.2 ⟨s, hsl, hsm⟩)
  have hlen : 0 < l.length := List.length_pos_iff.2 h0
  have hmost : mostF l = m := by
    unfold mostF
    rw [← getD_at (by rw [nsF_len]; omega)]
    obtain ⟨i, hi, he⟩ := List.getElem_of_mem hmem
    have h1 : (nsF l)[i] ≤ (nsF l)[l.length - 1]'(by rw [nsF_len]; omega) := by
      rcases Nat.lt_or_ge i (l.length - 1) with h | h
      · exact List.pairwise_iff_getElem.1 (sortI_sorted (l.map (·.number))) i (l.length - 1) hi (by rw [sortI_len, List.length_map]; omega) h
      · have : i = l.length - 1 := by rw [nsF_len] at hi; omega
        subst this; exact Int.le_refl _
    obtain ⟨t, ht, hte⟩ := nsF_mem (List.getElem_mem (l := nsF l) (n := l.length - 1) (by rw [nsF_len]; omega))
    have h2 := hle t ((hl t).1 ht).1 ((hl t).1 ht).2
    omega
  refine ⟨⟨3, 0, g, (n : Int) + 1, -1, m⟩, gateB_in (hel ▸ h0) (hel ▸ ?_), rfl, rfl, rfl⟩
  have hhd : (l.headD SV.z).gate = g := by
    cases l with
    | nil => exact absurd rfl h0
    | cons t l => exact ((hl t).1 (by simp)).2
  unfold gateB
  rw [hmost, hhd, if_neg (by omega)]
  refine List.mem_append_right _ (List.mem_flatMap.2 ⟨n, List.mem_range.2 (by omega), ?_⟩)
  unfold misB1
  rw [if_pos (by rw [show ((n + 1 : Nat) : Int) = (n : Int) + 1 from rfl, lookN_none fun t ht => hno t ((hl t).1 ht).1 ((hl t).1 ht).2]; rfl)]
  simp
end Go.Proofs.YtienaifmlhcijaaGreatDoor
end
section
namespace Go.Gw
set_option linter.unusedVariables false
set_option linter.unusedSimpArgs false
/-- m without k -/
def delK {κ β : Type} [DecidableEq κ] (m : κ → Option β) (k : κ) : κ → Option β := fun x => if x = k then none else m x
section
variable {κ β : Type} [DecidableEq κ]
theorem lookup_erase (k : κ) : ∀ (ps : List (κ × β)) (i j : Nat) (u0 : β), idxIn k ps i = some (j, u0) → (ps.map (·.1)).Nodup → ∀ x, (ps.eraseIdx (j - i)).lookup x = if x = k then none else ps.lookup x
  | [], _, _, _, h, _, _ => by cases h
  | (q, v) :: r, i, j, u0, h, hn, x => by
    have hn' := List.nodup_cons.1 hn
    simp only [idxIn] at h
    by_cases hk : k = q
    · subst hk
      simp only [↓reduceIte, Option.some.injEq, Prod.mk.injEq] at h
      obtain ⟨rfl, _⟩ := h
      rw [Nat.sub_self, List.eraseIdx_cons_zero]
      by_cases hx : x = k
      · subst hx
        rw [if_pos rfl]
        cases hl : r.lookup x with
        | none => rfl
        | some u =>
          exfalso
          apply hn'.1
          have : (r.lookup x).isSome = true := by rw [hl]; rfl
          clear hl hn hn'
          induction r with
          | nil => simp at this
          | cons p r ih =>
            obtain ⟨c, d⟩ := p
            by_cases hc : x = c
            · subst hc; simp
            · have hb : (x == c) = false := by simp [hc]
              simp only [List.lookup, hb] at this
              simp only [List.map_cons, List.mem_cons]
              exact .inr (ih this)
      · have hb : (x == k) = false := by simp [hx]
        simp [List.lookup, hb, hx]
    · rw [if_neg hk] at h
      have hle := idxIn_at k r (i + 1) j u0 h
      have hji : j - i = (j - (i + 1)) + 1 := by omega
      rw [hji, List.eraseIdx_cons_succ]
      have ih := lookup_erase k r (i + 1) j u0 h hn'.2 x
      by_cases hx : x = q
      · subst hx
        have : ¬ x = k := fun e => hk e.symm
        simp [List.lookup, this]
      · have hb : (x == q) = false := by simp [hx]
        simp only [List.lookup, hb]
        exact ih
theorem map_erase {α γ : Type} (f : α → γ) : ∀ (xs : List α) (j : Nat), (xs.eraseIdx j).map f = (xs.map f).eraseIdx j
  | [], _ => by simp
  | x :: xs, 0 => by simp
  | x :: xs, j + 1 => by simp [map_erase f xs j]
theorem eraseIdx_toList {α : Type} (es : Array α) {j : Nat} (h : j < es.size) : (es.eraseIdxIfInBounds j).toList = es.toList.eraseIdx j := by
  unfold Array.eraseIdxIfInBounds
  rw [dif_pos h, Array.toList_eraseIdx]
theorem Borns.erase {es : Array MapEntry} {clock : Nat} (h : Borns es clock) {j : Nat} (hj : j < es.size) : Borns (es.eraseIdxIfInBounds j) clock := by
  have e := eraseIdx_toList es hj
  refine ⟨fun x hx => h.1 x ?_, ?_⟩
  · rw [e] at hx; exact List.mem_of_mem_eraseIdx hx
  · rw [e]; exact h.2.sublist ((List.eraseIdx_sublist _ _).map _)
variable {P : Program} {ops : Array Oper} {K : Act → World → Prop} {o : Oper} {n : Sz} {fl : Slots} {a : Act} {w w0 : World} {M : Nat → Prop} {l : List Atom}
theorem op_deleteM {κ β : Type} [inst : DecidableEq κ] {T kt et kt' : TypeId} {x ix : Operand} {b : Nat} {kenc : κ → Value} {enc : β → Value} {m : κ → Option β} {c : Nat} {l' : Atom → List Atom} (k : κ) (hw : Region.wanted o (yielded ops a.tmps) = true) (hd : o.dst = none) (ho : o.op = .call { callee := .builtin .delete, args := #[x, ix], argTypes := #[T, kt'] }) (hT : P.underlying T = some (.map kt et)) (S : St n fl a) (H : HSat M w0 l w)
    (hx : ev fl x = some (.map (some b))) [h : HasMap l b κ β inst kenc enc m c l'] (KO : KeyOK P kt kenc) (hi : ev fl ix = some (kenc k))
    (kk : ∀ a' w', St n fl a' → HSat M w0 (l' (MapA b kenc enc (delK m k) (if (m k).isSome = true then c - 1 else c))) w' → K a' w') : opw P ops o a w K := by
  obtain ⟨l1, l2, e1, e2⟩ := h.at_
  have hm : IsMap w b kenc enc m c := H.ok (MapA b kenc enc m c) (by rw [e1]; simp)
  obtain ⟨es, clock, ps, h1, h2, h3, h4, h5, h6⟩ := hm.ok
  have hf := run_findKey (P := P) KO k h2 w
  have hl := idxIn_lookup k ps 0
  have hg : (getObj b).run P w = .ok (.map es clock) w := by simp [getObj, Sem.run, h1]
  have hblt : b < w.heap.size := (Array.getElem?_eq_some_iff.1 h1).1
  have fin : ∀ (es' : Array MapEntry) (ps' : List (κ × β)) (c' : Nat), (execOp a.eval o).run P w = .ok (.value (.tuple #[])) (setBlk w b (.map es' clock)) → MapRep es' kenc enc ps' → (ps'.map (·.1)).Nodup → (∀ x, delK m k x = ps'.lookup x) → ps'.length = c' → c' = (if (m k).isSome = true then c - 1 else c) → Borns es' clock → opw P ops o a w K := fun es' ps' c' hrun r1 r2 r3 r4 r5 r6 => by
    refine opw_val hw hrun ?_
    rw [hd]
    refine kk _ _ (S.putNone _) ?_
    rw [e2]
    rw [e1] at H
    have hnew : (setBlk w b (.map es' clock)).heap[b]? = some (.map es' clock) := by simp [setBlk, hblt]
    have hoth : ∀ q, q ≠ b → (setBlk w b (.map es' clock)).heap[q]? = w.heap[q]? := fun q hq => by simp [setBlk, Array.getElem?_setIfInBounds_ne (Ne.symm hq)]
    refine HSat.swap H rfl rfl ⟨rfl, rfl, rfl, by simp [setBlk], fun q _ hq => hoth q hq, fun q _ hq => ?_⟩ ⟨⟨es', clock, ps', hnew, r1, r2, r3, by rw [r4, r5], r6⟩⟩ (fun q hq => .inl hq)
    by_cases hqb : q = b
    · subst hqb; rw [hnew]; trivial
    · rw [hoth q hqb]; exact hq
  have hset : ∀ (es' : Array MapEntry) (clock' : Nat), (setObj b (.map es' clock')).run P w = .ok () (setBlk w b (.map es' clock')) := fun es' clock' => by simp [setObj, Sem.run, h1, setBlk]
  cases hidx : idxIn k ps 0 with
  | none =>
    rw [hidx] at hf hl
    simp only [Option.map_none] at hf hl
    refine fin es ps c ?_ h2 h3 (fun x => ?_) h5 (by rw [h4 k, ← hl]; rfl) h6
    · unfold execOp; rw [ho]
      simp [resolve, invoke, builtin, S.ev hx, S.ev hi, Builtin.delete_, run_underlying hT, hg, KO.check, hf, hset]
    · unfold delK
      by_cases hxk : x = k
      · subst hxk; rw [if_pos rfl, ← hl]
      · rw [if_neg hxk, h4 x]
  | some q =>
    obtain ⟨j, u0⟩ := q
    have hat := idxIn_at k ps 0 j u0 hidx
    rw [hidx] at hf hl
    simp only [Option.map_some] at hf hl
    have hj : ps[j]? = some (k, u0) := by simpa using hat.2
    have hjp : j < ps.length := (List.getElem?_eq_some_iff.1 hj).1
    have hlen : es.size = ps.length := by have := congrArg List.length h2; simpa using this
    have hje : j < es.size := by omega
    refine fin (es.eraseIdxIfInBounds j) (ps.eraseIdx j) (c - 1) ?_ ?_ ?_ (fun x => ?_) ?_ (by rw [h4 k, ← hl]; rfl) (h6.erase hje)
    · unfold execOp; rw [ho]
      simp [resolve, invoke, builtin, S.ev hx, S.ev hi, Builtin.delete_, run_underlying hT, hg, KO.check, hf, hset]
    · unfold MapRep at h2 ⊢
      rw [eraseIdx_toList es hje, map_erase, h2, map_erase]
    · rw [map_erase]; exact h3.sublist (List.eraseIdx_sublist _ _)
    · have := lookup_erase k ps 0 j u0 hidx h3 x
      rw [Nat.sub_zero] at this
      rw [this]; unfold delK; rw [h4 x]
    · rw [List.length_eraseIdx]; split <;> omega
end
end Go.Gw
end
section
namespace Go.Proofs.YtienaifmlhcijaaGreatDoor
open Go Go.Gw
set_option linter.unusedSimpArgs false
set_option linter.unusedVariables false
/-- a gate -/
structure GSt where
  id : Int
  now : Int
  synced : Bool
  since : Int
  bits : Int
  hs : Int
  ws : List Nat
  ins : Int → Option ByteArray
  log : List SV
def GSt.new (id : Int) : GSt := ⟨id, 0, false, 0, 0, 0, [], fun _ => none, []⟩
def GSt.write (g : GSt) (kind serial : Int) (owner : ByteArray) (now : Int) : GSt := { g with now := now, log := g.log ++ [⟨g.id, (g.log.length : Int) + 1, now, serial, kind, owner⟩] }
def GSt.sync (g : GSt) (ws : List Nat) (now : Int) : GSt := { g with now := now, since := now, synced := true, bits := 1024, hs := 3, ws := ws }
noncomputable def GSt.scan (g : GSt) (serial : Int) (first : ByteArray) (now : Int) : GSt :=
  if g.synced = false ∨ now - g.since > 50 then g
  else if (g.ins serial).isSome = true ∨ hasF g.ws serial = true then g.write 3 serial first now
  else ({ g with ins := upd g.ins serial first }).write 1 serial first now
def GSt.leave (g : GSt) (serial now : Int) : GSt := match g.ins serial with
  | none => g
  | some o => ({ g with ins := delK g.ins serial }).write 2 serial o now
/-- something that happens -/
structure Ev where
  kind : Nat
  gate : Nat
  title : Nat
  after : Nat
structure Ply where
  now : Int
  gs : Nat → GSt
  gone : List Int
  revoked : List Int
  last : List SV
  want : List BV
def serK (k : Nat) : Int := 10001 + (k : Int)
def Ply.putG (s : Ply) (j : Nat) (g : GSt) : Ply := { s with gs := fun i => if i = j then g else s.gs i }
noncomputable def Ply.mid (key : Nat → ByteArray) (s : Ply) (e : Ev) : Ply :=
  let t := s.now + (1 + (e.after : Int))
  let j := e.gate % 3
  let k := e.title % 5
  if e.kind % 4 = 0 then (if s.gone.getD k 0 = 0 then { s with now := t, gone := s.gone.set k t, revoked := s.revoked ++ [serK k] } else { s with now := t })
  else if e.kind % 4 = 1 then Ply.putG { s with now := t } j ((s.gs j).sync (makeW s.revoked) t)
  else if e.kind % 4 = 2 then Ply.putG { s with now := t } j ((s.gs j).scan (serK k) (key k) t)
  else Ply.putG { s with now := t } j ((s.gs j).leave (serK k) t)
def newW (x y : SV) : List BV := if x.kind = 1 ∧ y.kind = 1 then [⟨1, x.serial, x.gate, x.number, y.gate, y.number⟩] else []
def Ply.fin (n j k : Nat) (s : Ply) : Ply :=
  if (s.gs j).log.length = n then s else
  let x := (s.gs j).log.getD n SV.z
  { s with want := s.want ++ newW x (s.last.getD k SV.z), last := if x.kind = 1 ∨ x.kind = 2 then s.last.set k x else s.last }
noncomputable def Ply.step (key : Nat → ByteArray) (s : Ply) (e : Ev) : Ply := (s.mid key e).fin (s.gs (e.gate % 3)).log.length (e.gate % 3) (e.title % 5)
def Ply.zero : Ply := ⟨1, fun j => GSt.new ((j : Int) + 1), List.replicate 5 0, [], List.replicate 5 SV.z, []⟩
noncomputable def play (key : Nat → ByteArray) (es : List Ev) : Ply := es.foldl (Ply.step key) Ply.zero
theorem play_snoc (key : Nat → ByteArray) (es : List Ev) (e : Ev) : play key (es ++ [e]) = (play key es).step key e := by simp [play]
theorem putG_same (s : Ply) (j : Nat) (g : GSt) : (s.putG j g).gs j = g := by simp [Ply.putG]
theorem serK_inj {i j : Nat} (h : serK i = serK j) : i = j := by unfold serK at h; omega
def lastO (al : List SV) (k : Nat) : SV := ((grpF SV.serial okW al (serK k)).getLast?).getD SV.z
def wantF (al : List SV) : List BV := (keysF SV.serial okW al).flatMap fun k => wayB [] 50 (grpF SV.serial okW al k)
/-- what holds after each thing that happened; m: its time; al: all scans, as they were written -/
structure PInv (s : Ply) (al : List SV) (m : Int) : Prop where
  m1 : 1 ≤ m
  inc : al.Pairwise fun x y => x.time < y.time
  tm : ∀ x ∈ al, 1 ≤ x.time ∧ x.time ≤ m
  ser : ∀ x ∈ al, ∃ k, k < 5 ∧ x.serial = serK k
  kd : ∀ x ∈ al, 1 ≤ x.kind ∧ x.kind ≤ 3
  gt : ∀ x ∈ al, ∃ j : Nat, j < 3 ∧ x.gate = (j : Int) + 1
  gid : ∀ j : Nat, j < 3 → (s.gs j).id = (j : Int) + 1
  glog : ∀ j : Nat, j < 3 → (s.gs j).log = grpF SV.gate (fun _ => true) al ((j : Int) + 1)
  gnum : ∀ j : Nat, j < 3 → ∀ i (h : i < (s.gs j).log.length), (s.gs j).log[i].number = (i : Int) + 1
  gnow : ∀ j : Nat, j < 3 → 0 ≤ (s.gs j).now ∧ (s.gs j).now ≤ m ∧ 0 ≤ (s.gs j).since ∧ (s.gs j).since ≤ m
  lens : s.gone.length = 5 ∧ s.last.length = 5
  lst : ∀ k, k < 5 → s.last.getD k SV.z = lastO al k
  inl : ∀ j : Nat, j < 3 → ∀ k, k < 5 → (s.last.getD k SV.z).kind = 1 → (s.last.getD k SV.z).gate = (j : Int) + 1 → ((s.gs j).ins (serK k)).isSome = true
  gone : ∀ k, k < 5 → 0 ≤ s.gone.getD k 0 ∧ s.gone.getD k 0 ≤ m
  rev : ∀ k, k < 5 → 0 < s.gone.getD k 0 → serK k ∈ s.revoked
  rser : ∀ x ∈ s.revoked, ∃ k, k < 5 ∧ x = serK k
  stl : ∀ x ∈ al, x.kind = 1 → ∀ k, k < 5 → x.serial = serK k → s.gone.getD k 0 = 0 ∨ x.time ≤ s.gone.getD k 0 + 50
  flt : ∀ j : Nat, j < 3 → (s.gs j).synced = true → ∀ k, k < 5 → 0 < s.gone.getD k 0 → s.gone.getD k 0 ≤ (s.gs j).since → hasF (s.gs j).ws (serK k) = true
  fok : ∀ j : Nat, j < 3 → (s.gs j).synced = true → (s.gs j).bits = 1024 ∧ (s.gs j).hs = 3 ∧ WOk (s.gs j).ws
  want : s.want.Perm (wantF al)
  wk : ∀ b ∈ s.want, b.kind = 1
theorem PInv.later {s : Ply} {al : List SV} {m m' t : Int} (h : PInv s al m) (hm : m ≤ m') : PInv { s with now := t } al m' :=
  { h with
    m1 := by have := h.m1; omega
    tm := fun x hx => by have := h.tm x hx; omega
    gnow := fun j hj => by have := h.gnow j hj; dsimp only; omega
    gone := fun k hk => by have := h.gone k hk; dsimp only; omega }
theorem getD_set {α : Type} {l : List α} {z v : α} {k j : Nat} (hk : k < l.length) : (l.set k v).getD j z = if j = k then v else l.getD j z := by
  rw [List.getD_eq_getElem?_getD, List.getD_eq_getElem?_getD, List.getElem?_set]
  by_cases h : k = j
  · subst h; simp [hk]
  · simp [h, Ne.symm h]
theorem PInv.revoke {s : Ply} {al : List SV} {m t : Int} (h : PInv s al m) (hm : m < t) {k : Nat} (hk : k < 5) : PInv { s with now := t, gone := s.gone.set k t, revoked := s.revoked ++ [serK k] } al t := by
  have hl := h.lens
  have hm1 := h.m1
  have hg : ∀ i, (s.gone.set k t).getD i 0 = if i = k then t else s.gone.getD i 0 := fun i => getD_set (by omega)
  refine { h with m1 := by omega, tm := fun x hx => by have := h.tm x hx; omega, gnow := fun j hj => by have := h.gnow j hj; dsimp only; omega, lens := ⟨by simpa using hl.1, hl.2⟩, gone := ?_, rev := ?_, rser := ?_, stl := ?_, flt := ?_ }
  · intro i hi
    dsimp only
    rw [hg]; have := h.gone i hi
    split <;> omega
  · intro i hi h0
    dsimp only at h0 ⊢
    rw [hg] at h0
    by_cases hik : i = k
    · subst hik; simp
    · rw [if_neg hik] at h0; exact List.mem_append_left _ (h.rev i hi h0)
  · intro x hx
    rcases List.mem_append.1 hx with hx | hx
    · exact h.rser x hx
    · exact ⟨k, hk, by simpa using hx⟩
  · intro x hx hx1 i hi hs
    dsimp only
    rw [hg]
    by_cases hik : i = k
    · rw [if_pos hik]; have := h.tm x hx; right; omega
    · rw [if_neg hik]; exact h.stl x hx hx1 i hi hs
  · intro j hj hsy i hi h0 hle
    dsimp only at h0 hle hsy ⊢
    rw [hg] at h0 hle
    by_cases hik : i = k
    · rw [if_pos hik] at hle; have := h.gnow j hj; omega
    · rw [if_neg hik] at h0 hle; exact h.flt j hj hsy i hi h0 hle
theorem PInv.sync {s : Ply} {al : List SV} {m t : Int} (h : PInv s al m) (hm : m < t) {j : Nat} (hj : j < 3) : PInv (Ply.putG { s with now := t } j ((s.gs j).sync (makeW s.revoked) t)) al t := by
  have hm1 := h.m1
  have hgs : ∀ i, (Ply.putG { s with now := t } j ((s.gs j).sync (makeW s.revoked) t)).gs i = if i = j then (s.gs j).sync (makeW s.revoked) t else s.gs i := fun i => rfl
  have hp : ∀ (P : GSt → Prop) i, (i = j → P ((s.gs j).sync (makeW s.revoked) t)) → P (s.gs i) → P ((Ply.putG { s with now := t } j ((s.gs j).sync (makeW s.revoked) t)).gs i) := fun P i h1 h2 => by
    rw [hgs]; split
    · rename_i e; exact h1 e
    · exact h2
  refine { h with m1 := by omega, tm := fun x hx => by have := h.tm x hx; omega, gid := ?_, glog := ?_, gnum := ?_, gnow := ?_, inl := ?_, gone := fun k hk => by have := h.gone k hk; show 0 ≤ s.gone.getD k 0 ∧ s.gone.getD k 0 ≤ t; omega, flt := ?_, fok := ?_ }
  · intro i hi; exact hp (fun g => g.id = _) i (fun e => by subst e; exact h.gid i hi) (h.gid i hi)
  · intro i hi; exact hp (fun g => g.log = _) i (fun e => by subst e; exact h.glog i hi) (h.glog i hi)
  · intro i hi; exact hp (fun g => ∀ k (h : k < g.log.length), g.log[k].number = (k : Int) + 1) i (fun e => by subst e; exact h.gnum i hi) (h.gnum i hi)
  · intro i hi
    have := h.gnow i hi
    exact hp (fun g => 0 ≤ g.now ∧ g.now ≤ t ∧ 0 ≤ g.since ∧ g.since ≤ t) i (fun e => by subst e; simp only [GSt.sync]; omega) (by omega)
  · intro i hi k hk h1 h2
    exact hp (fun g => (g.ins (serK k)).isSome = true) i (fun e => by subst e; exact h.inl i hi k hk h1 h2) (h.inl i hi k hk h1 h2)
  · intro i hi
    refine hp (fun g => g.synced = true → ∀ k, k < 5 → 0 < s.gone.getD k 0 → s.gone.getD k 0 ≤ g.since → hasF g.ws (serK k) = true) i (fun e => ?_) (h.flt i hi)
    subst e
    intro _ k hk h0 _
    exact has_make (h.rev k hk h0)
  · intro i hi
    exact hp (fun g => g.synced = true → g.bits = 1024 ∧ g.hs = 3 ∧ WOk g.ws) i (fun e => by subst e; exact fun _ => ⟨rfl, rfl, makeW_ok _⟩) (h.fok i hi)
theorem wayB_snoc (l : List SV) (x : SV) (hx : x.kind = 1 → ∀ t, l.getLast? = some t → t.kind = 1 → t.gate ≠ x.gate) : wayB [] 50 (l ++ [x]) = wayB [] 50 l ++ newW x (l.getLast?.getD SV.z) := by
  have h1 : ∀ i, i ≤ l.length → wayBs [] 50 (l ++ [x]) i = wayBs [] 50 l i := by
    intro i hi
    induction i with
    | zero => rfl
    | succ i ih =>
      rw [wayBs_s, wayBs_s, ih (by omega)]
      congr 1
      unfold wayB1
      have e : ∀ j, j < l.length → (l ++ [x]).getD j SV.z = l.getD j SV.z := fun j hj => by rw [List.getD_eq_getElem?_getD, List.getD_eq_getElem?_getD, List.getElem?_append_left hj]
      rw [e i (by omega), e (i - 1) (by omega)]
  unfold wayB
  rw [List.length_append, List.length_singleton, wayBs_s, h1 _ (Nat.le_refl _)]
  congr 1
  have hst : ∀ s, staleB [] 50 s = [] := fun s => by unfold staleB sinceF; simp
  have hat : (l ++ [x]).getD l.length SV.z = x := by rw [List.getD_eq_getElem?_getD, List.getElem?_append_right (Nat.le_refl _)]; simp
  unfold wayB1 newW
  rw [hat]
  dsimp only
  by_cases hk : x.kind = 1
  · rw [if_neg (by simpa using hk), hst, List.nil_append]
    rcases List.eq_nil_or_concat l with rfl | ⟨l', t, rfl⟩
    · simp [SV.z]
    · rw [if_neg (by simp)]
      have hl : (l'.concat t ++ [x]).getD ((l'.concat t).length - 1) SV.z = t := by
        rw [List.concat_eq_append, List.append_assoc, List.getD_eq_getElem?_getD, List.getElem?_append_right (by simp)]
        simp
      rw [hl]
      have hg : (l'.concat t).getLast? = some t := by simp [List.concat_eq_append]
      rw [hg, Option.getD_some]
      unfold copyB blameF
      by_cases ht : t.kind = 1
      · have := hx hk t hg ht
        rw [if_neg (by simpa using ht), if_pos this, if_pos ⟨hk, ht⟩]
      · rw [if_pos ht, if_neg (fun h => ht h.2)]
  · rw [if_pos hk, if_neg (fun h => hk h.1)]
theorem flat_put {f f' : Int → List BV} {e : List BV} {k : Int} : ∀ {K : List Int}, K.Nodup → k ∈ K → f' k = f k ++ e → (∀ j, j ≠ k → f' j = f j) → (K.flatMap f').Perm (K.flatMap f ++ e)
  | [], _, hk, _, _ => by cases hk
  | i :: K, hn, hk, h1, h2 => by
    have hn' := List.nodup_cons.1 hn
    simp only [List.flatMap_cons]
    by_cases hik : i = k
    · subst hik
      have : K.flatMap f' = K.flatMap f := by
        rw [List.flatMap_def, List.flatMap_def, List.map_congr_left fun j hj => h2 j (fun ej => hn'.1 (ej ▸ hj))]
      rw [h1, this, List.append_assoc, List.append_assoc]
      exact List.Perm.append_left _ List.perm_append_comm
    · have hk' : k ∈ K := (List.mem_cons.1 hk).resolve_left (fun ej => hik ej.symm)
      rw [h2 i hik, List.append_assoc]
      exact List.Perm.append_left _ (flat_put hn'.2 hk' h1 h2)
theorem wantF_snoc (al : List SV) (x : SV) (hx : x.kind = 1 → ∀ t, (grpF SV.serial okW al x.serial).getLast? = some t → t.kind = 1 → t.gate ≠ x.gate) : (wantF (al ++ [x])).Perm (wantF al ++ newW x (((grpF SV.serial okW al x.serial).getLast?).getD SV.z)) := by
  unfold wantF
  cases ho : okW x with
  | false =>
    have hk : x.kind ≠ 1 := fun e => by unfold okW at ho; simp [e] at ho
    rw [keysF_no ho]
    have : newW x (((grpF SV.serial okW al x.serial).getLast?).getD SV.z) = [] := by unfold newW; rw [if_neg (fun h => hk h.1)]
    rw [this, List.append_nil]
    have e : (fun k => wayB [] 50 (grpF SV.serial okW (al ++ [x]) k)) = fun k => wayB [] 50 (grpF SV.serial okW al k) := by funext k; rw [grpF_no ho]
    rw [e]
  | true =>
    rw [keysF_yes ho]
    have h1 : (wayB [] 50 (grpF SV.serial okW (al ++ [x]) x.serial)) = wayB [] 50 (grpF SV.serial okW al x.serial) ++ newW x (((grpF SV.serial okW al x.serial).getLast?).getD SV.z) := by
      rw [grpF_yes ho, wayB_snoc _ _ hx]
    have h2 : ∀ j, j ≠ x.serial → wayB [] 50 (grpF SV.serial okW (al ++ [x]) j) = wayB [] 50 (grpF SV.serial okW al j) := fun j hj => by rw [grpF_ne hj]
    refine (flat_put (addK_nodup (keysF_nodup SV.serial okW al) x.serial) (addK_mem.2 (.inr rfl)) h1 h2).trans (List.Perm.append_right _ ?_)
    unfold addK
    split
    · exact .refl _
    · rename_i hno
      rw [List.flatMap_append, List.flatMap_cons, grpF_nil SV.serial okW hno]
      simp [wayB, wayBs]
theorem lastO_snoc (al : List SV) (x : SV) (k : Nat) : lastO (al ++ [x]) k = if okW x = true ∧ x.serial = serK k then x else lastO al k := by
  unfold lastO
  cases ho : okW x with
  | false => simp [grpF_no ho]
  | true =>
    by_cases hs : x.serial = serK k
    · rw [if_pos ⟨rfl, hs⟩, ← hs, grpF_yes ho]; simp
    · rw [if_neg (fun h => hs h.2), grpF_ne (fun e => hs e.symm)]
/-- a gate writes a scan -/
theorem PInv.write {s : Ply} {al : List SV} {m t : Int} (h : PInv s al m) (hm : m < t) {j k : Nat} (hj : j < 3) (hk : k < 5) (kind : Int) (owner : ByteArray) (ins' : Int → Option ByteArray)
    (hkd : 1 ≤ kind ∧ kind ≤ 3)
    (h1 : kind = 1 → (s.gs j).ins (serK k) = none ∧ (s.gs j).synced = true ∧ t - (s.gs j).since ≤ 50 ∧ hasF (s.gs j).ws (serK k) = false ∧ (ins' (serK k)).isSome = true)
    (h2 : ∀ i, (kind = 3 ∨ i ≠ serK k) → ins' i = (s.gs j).ins i) :
    ∃ x : SV, x.time = t ∧ PInv ((Ply.putG { s with now := t } j (({ (s.gs j) with ins := ins' } : GSt).write kind (serK k) owner t)).fin (s.gs j).log.length j k) (al ++ [x]) t := by
  obtain ⟨g, hg⟩ : ∃ g, g = ({ (s.gs j) with ins := ins' } : GSt).write kind (serK k) owner t := ⟨_, rfl⟩
  obtain ⟨x, hx⟩ : ∃ x : SV, x = ⟨(s.gs j).id, ((s.gs j).log.length : Int) + 1, t, serK k, kind, owner⟩ := ⟨_, rfl⟩
  have glog : g.log = (s.gs j).log ++ [x] := by rw [hg, hx]; rfl
  have gx : g.log.getD (s.gs j).log.length SV.z = x := by rw [glog, List.getD_eq_getElem?_getD, List.getElem?_append_right (Nat.le_refl _)]; simp
  refine ⟨x, by rw [hx], ?_⟩
  rw [← hg]
  have hfin : (Ply.putG { s with now := t } j g).fin (s.gs j).log.length j k = { Ply.putG { s with now := t } j g with want := s.want ++ newW x (s.last.getD k SV.z), last := if kind = 1 ∨ kind = 2 then s.last.set k x else s.last } := by
    unfold Ply.fin
    rw [putG_same, if_neg (by rw [glog]; simp), gx, hx]
    rfl
  rw [hfin]
  have hm1 := h.m1
  have hxg : x.gate = (j : Int) + 1 := by rw [hx]; exact h.gid j hj
  have hxs : x.serial = serK k := by rw [hx]
  have hxk : x.kind = kind := by rw [hx]
  have hxt : x.time = t := by rw [hx]
  have hok : okW x = true ↔ (kind = 1 ∨ kind = 2) := by unfold okW; rw [hxk]; simp
  have hl := h.lens
  have hlast : ∀ i, (if kind = 1 ∨ kind = 2 then s.last.set k x else s.last).getD i SV.z = if (kind = 1 ∨ kind = 2) ∧ i = k then x else s.last.getD i SV.z := fun i => by
    by_cases hc : kind = 1 ∨ kind = 2
    · rw [if_pos hc, getD_set (by omega)]; simp [hc]
    · rw [if_neg hc, if_neg (fun h => hc h.1)]
  have hne : x.kind = 1 → ∀ y, (grpF SV.serial okW al x.serial).getLast? = some y → y.kind = 1 → y.gate ≠ x.gate := by
    intro hx1 y hy hy1 hyg
    have h3 : s.last.getD k SV.z = y := by rw [h.lst k hk]; unfold lastO; rw [← hxs, hy]; rfl
    have h4 := h.inl j hj k hk (by rw [h3]; exact hy1) (by rw [h3, hyg, hxg])
    rw [(h1 (by omega)).1] at h4; cases h4
  have hgs : ∀ i, (Ply.putG { s with now := t } j g).gs i = if i = j then g else s.gs i := fun i => rfl
  have hp : ∀ (P : GSt → Prop) i, (i = j → P g) → P (s.gs i) → P ((Ply.putG { s with now := t } j g).gs i) := fun P i h1 h2 => by
    rw [hgs]; split
    · rename_i e; exact h1 e
    · exact h2
  refine { m1 := by omega, inc := ?_, tm := ?_, ser := ?_, kd := ?_, gt := ?_, gid := ?_, glog := ?_, gnum := ?_, gnow := ?_, lens := ?_, lst := ?_, inl := ?_, gone := fun i hi => by have := h.gone i hi; show 0 ≤ s.gone.getD i 0 ∧ s.gone.getD i 0 ≤ t; omega, rev := h.rev, rser := h.rser, stl := ?_, flt := ?_, fok := ?_, want := ?_, wk := ?_ }
  · rw [List.pairwise_append]
    refine ⟨h.inc, by simp, fun y hy z hz => ?_⟩
    rw [List.mem_singleton.1 hz, hxt]
    have := h.tm y hy; omega
  · intro y hy
    rcases List.mem_append.1 hy with hy | hy
    · have := h.tm y hy; omega
    · rw [List.mem_singleton.1 hy, hxt]; omega
  · intro y hy
    rcases List.mem_append.1 hy with hy | hy
    · exact h.ser y hy
    · rw [List.mem_singleton.1 hy]; exact ⟨k, hk, hxs⟩
  · intro y hy
    rcases List.mem_append.1 hy with hy | hy
    · exact h.kd y hy
    · rw [List.mem_singleton.1 hy, hxk]; exact hkd
  · intro y hy
    rcases List.mem_append.1 hy with hy | hy
    · exact h.gt y hy
    · rw [List.mem_singleton.1 hy]; exact ⟨j, hj, hxg⟩
  · intro i hi; exact hp (fun g => g.id = _) i (fun e => by subst e; rw [hg]; exact h.gid i hi) (h.gid i hi)
  · intro i hi
    show ((Ply.putG { s with now := t } j g).gs i).log = _
    rw [hgs]
    split
    · rename_i e; subst e
      rw [glog, h.glog i hi, ← hxg, grpF_yes (kf := SV.gate) (ok := fun _ => true) (s := x) rfl]
    · rename_i e
      rw [h.glog i hi, grpF_ne (kf := SV.gate) (ok := fun _ => true) (s := x) (by rw [hxg]; omega)]
  · intro i hi
    refine hp (fun g => ∀ k (h : k < g.log.length), g.log[k].number = (k : Int) + 1) i (fun e => ?_) (h.gnum i hi)
    subst e
    intro n hn
    have e1 : g.log[n]? = ((s.gs i).log ++ [x])[n]? := by rw [glog]
    rcases Nat.lt_or_ge n (s.gs i).log.length with hlt | hge
    · rw [List.getElem?_append_left hlt, List.getElem?_eq_getElem hn, List.getElem?_eq_getElem hlt] at e1
      rw [Option.some.inj e1]; exact h.gnum i hi n hlt
    · have : n = (s.gs i).log.length := by rw [glog, List.length_append, List.length_singleton] at hn; omega
      subst this
      rw [List.getElem?_append_right (Nat.le_refl _), List.getElem?_eq_getElem hn] at e1
      simp only [Nat.sub_self, List.getElem?_cons_zero] at e1
      rw [Option.some.inj e1, hx]
  · intro i hi
    have := h.gnow i hi
    exact hp (fun g => 0 ≤ g.now ∧ g.now ≤ t ∧ 0 ≤ g.since ∧ g.since ≤ t) i (fun e => by subst e; rw [hg]; simp only [GSt.write]; omega) (by omega)
  · exact ⟨hl.1, by dsimp only; split <;> simp [hl.2]⟩
  · intro i hi
    dsimp only
    rw [hlast, lastO_snoc, h.lst i hi]
    by_cases hc : kind = 1 ∨ kind = 2
    · by_cases hik : i = k
      · subst hik; rw [if_pos ⟨hc, rfl⟩, if_pos ⟨hok.2 hc, hxs⟩]
      · rw [if_neg (fun h => hik h.2), if_neg (fun h => hik (serK_inj (by rw [← hxs, h.2])))]
    · rw [if_neg (fun h => hc h.1), if_neg (fun h => hc (hok.1 h.1))]
  · intro i hi n hn hn1 hn2
    show (((Ply.putG { s with now := t } j g).gs i).ins (serK n)).isSome = true
    dsimp only at hn1 hn2
    rw [hlast] at hn1 hn2
    by_cases hc : (kind = 1 ∨ kind = 2) ∧ n = k
    · rw [if_pos hc] at hn1 hn2
      have hij : i = j := by rw [hxg] at hn2; omega
      obtain ⟨_, rfl⟩ := hc
      rw [hgs, if_pos hij, hg]
      exact (h1 (by rw [← hxk]; exact hn1)).2.2.2.2
    · rw [if_neg hc] at hn1 hn2
      have h3 := h.inl i hi n hn hn1 hn2
      rw [hgs]
      split
      · rename_i e; subst e
        rw [hg]
        show (ins' (serK n)).isSome = true
        rw [h2 (serK n) ?_]
        · exact h3
        · by_cases hnk : n = k
          · left; have : ¬ (kind = 1 ∨ kind = 2) := fun hh => hc ⟨hh, hnk⟩
            omega
          · right; exact fun e => hnk (serK_inj e)
      · exact h3
  · intro y hy hy1 i hi hs
    rcases List.mem_append.1 hy with hy | hy
    · exact h.stl y hy hy1 i hi hs
    · have hy := List.mem_singleton.1 hy
      subst hy
      obtain ⟨_, a2, a3, a4, _⟩ := h1 (by omega)
      have hik : i = k := serK_inj (by rw [← hs, hxs])
      subst hik
      have hg0 := h.gone i hi
      show s.gone.getD i 0 = 0 ∨ y.time ≤ s.gone.getD i 0 + 50
      rcases Int.lt_or_le (s.gs j).since (s.gone.getD i 0) with h3 | h3
      · right; omega
      · left
        rcases Int.lt_or_le 0 (s.gone.getD i 0) with h4 | h4
        · have := h.flt j hj a2 i hi h4 h3
          rw [a4] at this; cases this
        · omega
  · intro i hi
    exact hp (fun g => g.synced = true → ∀ k, k < 5 → 0 < s.gone.getD k 0 → s.gone.getD k 0 ≤ g.since → hasF g.ws (serK k) = true) i (fun e => by subst e; rw [hg]; exact h.flt i hi) (h.flt i hi)
  · intro i hi
    exact hp (fun g => g.synced = true → g.bits = 1024 ∧ g.hs = 3 ∧ WOk g.ws) i (fun e => by subst e; rw [hg]; exact h.fok i hi) (h.fok i hi)
  · have e : s.last.getD k SV.z = ((grpF SV.serial okW al x.serial).getLast?).getD SV.z := by rw [h.lst k hk, hxs]; rfl
    dsimp only
    rw [e]
    exact (List.Perm.append_right _ h.want).trans (wantF_snoc al x hne).symm
  · intro b hb
    rcases List.mem_append.1 hb with hb | hb
    · exact h.wk b hb
    · unfold newW at hb
      split at hb
      · rw [List.mem_singleton.1 hb]
      · cases hb
theorem Ply.fin_same {s : Ply} {j k n : Nat} (h : (s.gs j).log.length = n) : s.fin n j k = s := by unfold Ply.fin; rw [if_pos h]
theorem PInv.step {key : Nat → ByteArray} {s : Ply} {al : List SV} (h : PInv s al s.now) (e : Ev) (ha : e.after < 256) : ∃ al', (al' = al ∨ ∃ x, al' = al ++ [x]) ∧ PInv (s.step key e) al' (s.step key e).now ∧ (s.step key e).now ≤ s.now + 256 ∧ s.now < (s.step key e).now := by
  have hj : e.gate % 3 < 3 := Nat.mod_lt _ (by decide)
  have hk : e.title % 5 < 5 := Nat.mod_lt _ (by decide)
  have ht : s.now < s.now + (1 + (e.after : Int)) := by omega
  unfold Ply.step Ply.mid
  dsimp only
  split
  · split
    · rename_i h0
      rw [Ply.fin_same (by rfl)]
      exact ⟨al, .inl rfl, h.revoke ht hk, by show s.now + (1 + (e.after : Int)) ≤ _; omega, ht⟩
    · rw [Ply.fin_same (by rfl)]
      exact ⟨al, .inl rfl, h.later (by show s.now ≤ s.now + (1 + (e.after : Int)); omega), by show s.now + (1 + (e.after : Int)) ≤ _; omega, ht⟩
  · split
    · rw [Ply.fin_same (by rw [putG_same]; rfl)]
      exact ⟨al, .inl rfl, h.sync ht hj, by show s.now + (1 + (e.after : Int)) ≤ _; omega, ht⟩
    · have hnow : ∀ (g : GSt) (n : Nat), ((Ply.putG { s with now := s.now + (1 + (e.after : Int)) } (e.gate % 3) g).fin n (e.gate % 3) (e.title % 5)).now = s.now + (1 + (e.after : Int)) := fun g n => by unfold Ply.fin; split <;> rfl
      have hsame : Ply.putG { s with now := s.now + (1 + (e.after : Int)) } (e.gate % 3) (s.gs (e.gate % 3)) = { s with now := s.now + (1 + (e.after : Int)) } := by
        unfold Ply.putG
        congr 1
        funext i
        by_cases hi : i = e.gate % 3
        · simp [hi]
        · simp [hi]
      have keep : ∃ al', (al' = al ∨ ∃ x, al' = al ++ [x]) ∧ PInv ((Ply.putG { s with now := s.now + (1 + (e.after : Int)) } (e.gate % 3) (s.gs (e.gate % 3))).fin (s.gs (e.gate % 3)).log.length (e.gate % 3) (e.title % 5)) al' (s.now + (1 + (e.after : Int))) := by
        rw [hsame, Ply.fin_same (by rfl)]
        exact ⟨al, .inl rfl, h.later (by omega)⟩
      have wr := fun kind owner ins' a b c => h.write ht hj hk kind owner ins' a b c
      have fine : ∀ g, (∃ al', (al' = al ∨ ∃ x, al' = al ++ [x]) ∧ PInv ((Ply.putG { s with now := s.now + (1 + (e.after : Int)) } (e.gate % 3) g).fin (s.gs (e.gate % 3)).log.length (e.gate % 3) (e.title % 5)) al' (s.now + (1 + (e.after : Int)))) → ∃ al', (al' = al ∨ ∃ x, al' = al ++ [x]) ∧ PInv ((Ply.putG { s with now := s.now + (1 + (e.after : Int)) } (e.gate % 3) g).fin (s.gs (e.gate % 3)).log.length (e.gate % 3) (e.title % 5)) al' ((Ply.putG { s with now := s.now + (1 + (e.after : Int)) } (e.gate % 3) g).fin (s.gs (e.gate % 3)).log.length (e.gate % 3) (e.title % 5)).now ∧ ((Ply.putG { s with now := s.now + (1 + (e.after : Int)) } (e.gate % 3) g).fin (s.gs (e.gate % 3)).log.length (e.gate % 3) (e.title % 5)).now ≤ s.now + 256 ∧ s.now < ((Ply.putG { s with now := s.now + (1 + (e.after : Int)) } (e.gate % 3) g).fin (s.gs (e.gate % 3)).log.length (e.gate % 3) (e.title % 5)).now := fun g ⟨al', a, b⟩ => by
        rw [hnow]; exact ⟨al', a, b, by omega, ht⟩
      split
      · refine fine _ ?_
        unfold GSt.scan
        split
        · exact keep
        · rename_i hs
          split
          · obtain ⟨x, _, hx⟩ := wr 3 (key (e.title % 5)) (s.gs (e.gate % 3)).ins (by decide) (fun h => by cases h) (fun i _ => rfl)
            exact ⟨_, .inr ⟨x, rfl⟩, hx⟩
          · rename_i hin
            obtain ⟨x, _, hx⟩ := wr 1 (key (e.title % 5)) (upd (s.gs (e.gate % 3)).ins (serK (e.title % 5)) (key (e.title % 5))) (by decide) (fun _ => by
              refine ⟨?_, ?_, ?_, ?_, by rw [upd_same]; rfl⟩
              · cases hi : (s.gs (e.gate % 3)).ins (serK (e.title % 5)) with
                | none => rfl
                | some o => exact absurd (.inl (by rw [hi]; rfl)) hin
              · cases hi : (s.gs (e.gate % 3)).synced with
                | true => rfl
                | false => exact absurd (.inl hi) hs
              · exact Int.not_lt.1 fun hh => hs (.inr hh)
              · cases hi : hasF (s.gs (e.gate % 3)).ws (serK (e.title % 5)) with
                | false => rfl
                | true => exact absurd (.inr hi) hin) (fun i hi => upd_ne _ _ (hi.resolve_left (by decide)))
            exact ⟨_, .inr ⟨x, rfl⟩, hx⟩
      · refine fine _ ?_
        unfold GSt.leave
        cases hi : (s.gs (e.gate % 3)).ins (serK (e.title % 5)) with
        | none => exact keep
        | some o =>
          obtain ⟨x, _, hx⟩ := wr 2 o (delK (s.gs (e.gate % 3)).ins (serK (e.title % 5))) (by decide) (fun h => by cases h) (fun i hi => by unfold delK; rw [if_neg (hi.resolve_left (by decide))])
          exact ⟨_, .inr ⟨x, rfl⟩, hx⟩
theorem PInv.zero : PInv Ply.zero [] 1 := by
  have h5 : ∀ k, k < 5 → (List.replicate 5 (0 : Int)).getD k 0 = 0 := fun k hk => by
    rw [List.getD_eq_getElem?_getD, List.getElem?_replicate, if_pos hk]; rfl
  have h6 : ∀ k, k < 5 → (List.replicate 5 SV.z).getD k SV.z = SV.z := fun k hk => by
    rw [List.getD_eq_getElem?_getD, List.getElem?_replicate, if_pos hk]; rfl
  refine { m1 := by decide, inc := .nil, tm := by simp, ser := by simp, kd := by simp, gt := by simp, gid := fun _ _ => rfl, glog := fun _ _ => rfl, gnum := fun j hj i hi => ?_, gnow := fun _ _ => ?_, lens := ⟨rfl, rfl⟩, lst := fun k hk => h6 k hk, inl := fun j hj k hk h1 _ => ?_, gone := fun k hk => ?_, rev := fun k hk h0 => ?_, rser := ?_, stl := by simp, flt := fun j hj hs => ?_, fok := fun j hj hs => ?_, want := .refl _, wk := by simp [Ply.zero] }
  · simp [Ply.zero, GSt.new] at hi
  · simp [Ply.zero, GSt.new]
  · simp only [Ply.zero] at h1; rw [h6 k hk] at h1; simp [SV.z] at h1
  · simp only [Ply.zero]; rw [h5 k hk]; decide
  · simp only [Ply.zero] at h0; rw [h5 k hk] at h0; omega
  · simp [Ply.zero]
  · simp [Ply.zero, GSt.new] at hs
  · simp [Ply.zero, GSt.new] at hs
/-- what holds at the end -/
theorem play_inv (key : Nat → ByteArray) : ∀ (n : Nat) (es : List Ev), es.length = n → (∀ e ∈ es, e.after < 256) → ∃ al, al.length ≤ n ∧ PInv (play key es) al (play key es).now ∧ (play key es).now ≤ 1 + 256 * (n : Int)
  | 0, es, hl, _ => by
    have : es = [] := List.eq_nil_of_length_eq_zero hl
    subst this
    exact ⟨[], Nat.le_refl _, PInv.zero, by show (1 : Int) ≤ _; omega⟩
  | n + 1, es, hl, he => by
    rcases List.eq_nil_or_concat es with rfl | ⟨es', e, rfl⟩
    · simp at hl
    · rw [List.concat_eq_append] at hl he ⊢
      obtain ⟨al, h1, h2, h3⟩ := play_inv key n es' (by simpa using hl) (fun x hx => he x (by simp [hx]))
      rw [play_snoc]
      obtain ⟨al', h4, h5, h6, h7⟩ := h2.step (key := key) e (he e (by simp))
      refine ⟨al', ?_, h5, by omega⟩
      rcases h4 with rfl | ⟨x, rfl⟩
      · omega
      · rw [List.length_append, List.length_singleton]; omega
end Go.Proofs.YtienaifmlhcijaaGreatDoor
end
section
namespace Go.Proofs.YtienaifmlhcijaaGreatDoor
open Go Go.Gw
set_option linter.unusedSimpArgs false
set_option linter.unusedVariables false
/-- the titles, and since when they are revoked -/
def Ply.pairs (s : Ply) : List (Int × Int) := [(10001, s.gone.getD 0 0), (10002, s.gone.getD 1 0), (10003, s.gone.getD 2 0), (10004, s.gone.getD 3 0), (10005, s.gone.getD 4 0)]
def Ply.logs (s : Ply) : List (List SV) := [(s.gs 0).log, (s.gs 1).log, (s.gs 2).log]
theorem pairs_since (s : Ply) {k : Nat} (hk : k < 5) : sinceF s.pairs (serK k) = s.gone.getD k 0 := by
  match k, hk with
  | 0, _ => rfl
  | 1, _ => rfl
  | 2, _ => rfl
  | 3, _ => rfl
  | 4, _ => rfl
theorem own_of_nums : ∀ {al : List SV}, (∀ g, ((grpF SV.gate (fun _ => true) al g).map (·.number)).Nodup) → (al.map idS).Nodup
  | [], _ => .nil
  | x :: r, h => by
    rw [List.map_cons, List.nodup_cons]
    have hc : ∀ g, grpF SV.gate (fun _ => true) (x :: r) g = if x.gate = g then x :: grpF SV.gate (fun _ => true) r g else grpF SV.gate (fun _ => true) r g := fun g => by
      unfold grpF; rw [List.filter_cons]
      by_cases hg : x.gate = g <;> simp [hg]
    refine ⟨fun hx => ?_, own_of_nums fun g => ?_⟩
    · obtain ⟨y, hy, e⟩ := List.mem_map.1 hx
      have h1 := h x.gate
      rw [hc, if_pos rfl, List.map_cons, List.nodup_cons] at h1
      unfold idS at e
      simp only [Prod.mk.injEq] at e
      exact h1.1 (List.mem_map.2 ⟨y, grpF_mem.2 ⟨hy, rfl, e.1⟩, e.2⟩)
    · have h1 := h g
      rw [hc] at h1
      split at h1
      · rw [List.map_cons, List.nodup_cons] at h1; exact h1.2
      · exact h1
section
variable {s : Ply} {al : List SV} {m : Int}
theorem PInv.hon (h : PInv s al m) {j : Nat} (hj : j < 3) : Hon (grpF SV.gate (fun _ => true) al ((j : Int) + 1)) := by
  rw [← h.glog j hj]
  refine ⟨h.gnum j hj, ?_⟩
  rw [h.glog j hj]
  exact (h.inc.sublist (grp_sub _ _ _ _)).imp fun h => Int.le_of_lt h
theorem PInv.own (h : PInv s al m) : Own al := by
  refine ⟨own_of_nums fun g => ?_, fun x hx => ?_⟩
  · by_cases hg : g ∈ keysF SV.gate (fun _ => true) al
    · obtain ⟨x, hx, _, rfl⟩ := (keysF_mem SV.gate _ al g).1 hg
      obtain ⟨j, hj, e⟩ := h.gt x hx
      rw [e]; exact (h.hon hj).nd
    · rw [grpF_nil SV.gate _ hg]; exact .nil
  · obtain ⟨j, hj, e⟩ := h.gt x hx; omega
theorem split3 : ∀ {al : List SV}, (∀ x ∈ al, ∃ j : Nat, j < 3 ∧ x.gate = (j : Int) + 1) → ([grpF SV.gate (fun _ => true) al 1, grpF SV.gate (fun _ => true) al 2, grpF SV.gate (fun _ => true) al 3].flatten).Perm al
  | [], _ => by simp [grpF]
  | x :: r, h => by
    have ih := split3 (al := r) fun y hy => h y (by simp [hy])
    obtain ⟨j, hj, e⟩ := h x (by simp)
    have hc : ∀ g, grpF SV.gate (fun _ => true) (x :: r) g = if x.gate = g then x :: grpF SV.gate (fun _ => true) r g else grpF SV.gate (fun _ => true) r g := fun g => by
      unfold grpF; rw [List.filter_cons]
      by_cases hg : x.gate = g <;> simp [hg]
    simp only [List.flatten_cons, List.flatten_nil, List.append_nil] at ih ⊢
    rw [hc, hc, hc, e]
    match j, hj with
    | 0, _ => simpa using ih
    | 1, _ => simpa using (List.perm_middle (a := x)).trans (ih.cons x)
    | 2, _ =>
      have := (List.perm_middle (a := x) (l₁ := grpF SV.gate (fun _ => true) r 1 ++ grpF SV.gate (fun _ => true) r 2) (l₂ := grpF SV.gate (fun _ => true) r 3)).trans ((by simpa using ih : (grpF SV.gate (fun _ => true) r 1 ++ grpF SV.gate (fun _ => true) r 2 ++ grpF SV.gate (fun _ => true) r 3).Perm r).cons x)
      simpa using this
theorem PInv.perm (h : PInv s al m) : s.logs.flatten.Perm al := by
  have := split3 h.gt
  unfold Ply.logs
  rw [h.glog 0 (by decide), h.glog 1 (by decide), h.glog 2 (by decide)]
  exact this
theorem PInv.merged (h : PInv s al m) : sortL ordS s.logs.flatten = al := by rw [sortL_eq ordS_cmp (fun x y => ordS_zero) h.perm, sortS_id h.inc]
/-- the blames are those that are to be expected -/
theorem PInv.BL (h : PInv s al m) : BL s.pairs 50 al = wantF al := by
  unfold Proofs.YtienaifmlhcijaaGreatDoor.BL BLk
  have h1 : ((keysF SV.gate (fun _ => true) al).flatMap fun g => gateB (grpF SV.gate (fun _ => true) al g)) = [] := by
    rw [List.flatMap_eq_nil_iff]
    intro g hg
    obtain ⟨x, hx, _, rfl⟩ := (keysF_mem SV.gate _ al g).1 hg
    obtain ⟨j, hj, e⟩ := h.gt x hx
    rw [e]; exact (h.hon hj).gateB
  rw [h1, List.nil_append]
  unfold wantF
  have h2 : ∀ k ∈ keysF SV.serial okW al, wayB s.pairs 50 (grpF SV.serial okW al k) = wayB [] 50 (grpF SV.serial okW al k) := by
    intro k _
    refine wayB_none fun x hx hk => ?_
    have hx := (grpF_mem.1 hx).1
    obtain ⟨i, hi, e⟩ := h.ser x hx
    unfold staleB
    rw [e, pairs_since s hi, if_neg]
    have := h.stl x hx hk i hi e
    omega
  rw [List.flatMap_def, List.flatMap_def, List.map_congr_left h2]
theorem PInv.blames (h : PInv s al m) : (sortL ordB (Proofs.YtienaifmlhcijaaGreatDoor.BL s.pairs 50 al)).Perm s.want := by
  rw [h.BL]; exact (sortL_perm _ _).trans h.want.symm
theorem PInv.glen (h : PInv s al m) {j : Nat} (hj : j < 3) : (s.gs j).log.length ≤ al.length := by rw [h.glog j hj]; exact grpF_len _ _ _ _
theorem PInv.mem (h : PInv s al m) {j : Nat} (hj : j < 3) {x : SV} : x ∈ (s.gs j).log ↔ x ∈ al ∧ x.gate = (j : Int) + 1 := by rw [h.glog j hj, grpF_mem]; simp
theorem PInv.lie1 (h : PInv s al m) {j k : Nat} (hj : j < 3) (hk : k < 5) (hg : 0 < s.gone.getD k 0) (hm : m ≤ 100000) {x : SV} (hx : x.gate = (j : Int) + 1 ∧ x.number = ((s.gs j).log.length : Int) + 1 ∧ x.serial = serK k ∧ x.kind = 1 ∧ x.time > s.gone.getD k 0 + 50) :
    Own (sortL ordS (s.logs ++ [[x]]).flatten) ∧ ∃ b ∈ Proofs.YtienaifmlhcijaaGreatDoor.BL s.pairs 50 (sortL ordS (s.logs ++ [[x]]).flatten), b.kind = 4 ∧ b.gate = (j : Int) + 1 ∧ b.number = x.number := by
  have hp : (sortL ordS (s.logs ++ [[x]]).flatten).Perm (al ++ [x]) := by
    refine (sortL_perm _ _).trans ?_
    rw [List.flatten_append]
    simp only [List.flatten_cons, List.flatten_nil, List.append_nil]
    exact List.Perm.append_right _ h.perm
  have ho : Own (al ++ [x]) := by
    have h0 := h.own
    refine ⟨?_, fun y hy => ?_⟩
    · rw [List.map_append, List.nodup_append]
      refine ⟨h0.nd, by simp, fun p hp q hq e => ?_⟩
      simp only [List.map_cons, List.map_nil, List.mem_singleton] at hq
      subst hq
      obtain ⟨y, hy, rfl⟩ := List.mem_map.1 hp
      unfold idS at e
      simp only [Prod.mk.injEq] at e
      have hy2 := (h.mem hj).2 ⟨hy, by rw [e.1, hx.1]⟩
      obtain ⟨i, hi, rfl⟩ := List.getElem_of_mem hy2
      have := h.gnum j hj i hi
      omega
    · rcases List.mem_append.1 hy with hy | hy
      · exact h0.g0 y hy
      · rw [List.mem_singleton.1 hy]; omega
  refine ⟨ho.perm hp.symm, ?_⟩
  have hs : x ∈ sortL ordS (s.logs ++ [[x]]).flatten := hp.mem_iff.2 (by simp)
  have hgone := h.gone k hk
  obtain ⟨b, h1, h2, h3, h4⟩ := stale_in (gone := s.pairs) (st := 50) hs hx.2.2.2.1 (by rw [hx.2.2.1, pairs_since s hk]; omega)
  exact ⟨b, h1, h2, by rw [h3, hx.1], h4⟩
theorem cutAt_sub {α : Type} (l : List α) (n : Nat) : (l.take n ++ l.drop (n + 1)).Sublist l := by
  have := (List.Sublist.refl (l.take n)).append (List.drop_sublist_drop_left l (Nat.le_succ n))
  rwa [List.take_append_drop] at this
theorem PInv.lie2 (h : PInv s al m) (hl : al.length ≤ 4000) {j n : Nat} (hj : j < 3) (hn : n + 1 < (s.gs j).log.length) :
    Own (sortL ordS (s.logs.set j ((s.gs j).log.take n ++ (s.gs j).log.drop (n + 1))).flatten) ∧ ∃ b ∈ Proofs.YtienaifmlhcijaaGreatDoor.BL s.pairs 50 (sortL ordS (s.logs.set j ((s.gs j).log.take n ++ (s.gs j).log.drop (n + 1))).flatten), b.kind = 3 ∧ b.gate = (j : Int) + 1 ∧ b.number = (n : Int) + 1 := by
  obtain ⟨c, hc⟩ : ∃ c, c = (s.gs j).log.take n ++ (s.gs j).log.drop (n + 1) := ⟨_, rfl⟩
  rw [← hc]
  have hsub : c.Sublist (s.gs j).log := hc ▸ cutAt_sub _ _
  have hfl : (s.logs.set j c).flatten.Sublist s.logs.flatten := by
    unfold Ply.logs
    match j, hj with
    | 0, _ => simpa using hsub
    | 1, _ => simpa using hsub
    | 2, _ => simpa using hsub
  have hp := sortL_perm ordS (s.logs.set j c).flatten
  have ho : Own (sortL ordS (s.logs.set j c).flatten) := ((h.own.perm h.perm.symm).sub hfl).perm hp.symm
  refine ⟨ho, ?_⟩
  have hin : ∀ x, x ∈ sortL ordS (s.logs.set j c).flatten → x.gate = (j : Int) + 1 → x ∈ c := by
    intro x hx hg
    have hx := hp.mem_iff.1 hx
    unfold Ply.logs at hx
    have no : ∀ i, i < 3 → i ≠ j → x ∈ (s.gs i).log → False := fun i hi hij hxi => by
      have := ((h.mem hi).1 hxi).2; omega
    match j, hj with
    | 0, _ =>
      simp only [List.set_cons_zero, List.flatten_cons, List.flatten_nil, List.append_nil, List.mem_append] at hx
      exact hx.elim id fun hx => hx.elim (fun hx => (no 1 (by decide) (by decide) hx).elim) (fun hx => (no 2 (by decide) (by decide) hx).elim)
    | 1, _ =>
      simp only [List.set_cons_succ, List.set_cons_zero, List.flatten_cons, List.flatten_nil, List.append_nil, List.mem_append] at hx
      exact hx.elim (fun hx => (no 0 (by decide) (by decide) hx).elim) fun hx => hx.elim id (fun hx => (no 2 (by decide) (by decide) hx).elim)
    | 2, _ =>
      simp only [List.set_cons_succ, List.set_cons_zero, List.flatten_cons, List.flatten_nil, List.append_nil, List.mem_append] at hx
      exact hx.elim (fun hx => (no 0 (by decide) (by decide) hx).elim) fun hx => hx.elim (fun hx => (no 1 (by decide) (by decide) hx).elim) id
  have hnum : ∀ x ∈ c, x.number ≠ (n : Int) + 1 ∧ x.number ≤ ((s.gs j).log.length : Int) := by
    intro x hx
    rw [hc] at hx
    rcases List.mem_append.1 hx with hx | hx
    · obtain ⟨i, hi, rfl⟩ := List.getElem_of_mem hx
      rw [List.length_take] at hi
      rw [List.getElem_take]
      have := h.gnum j hj i (by omega)
      omega
    · obtain ⟨i, hi, rfl⟩ := List.getElem_of_mem hx
      rw [List.length_drop] at hi
      rw [List.getElem_drop]
      have := h.gnum j hj (n + 1 + i) (by omega)
      omega
  have hlast : (s.gs j).log[(s.gs j).log.length - 1]'(by omega) ∈ c := by
    rw [hc]
    refine List.mem_append_right _ ?_
    rw [List.mem_iff_getElem]
    refine ⟨(s.gs j).log.length - 1 - (n + 1), by rw [List.length_drop]; omega, ?_⟩
    rw [List.getElem_drop]
    congr 1; omega
  have hback : ∀ x ∈ c, x ∈ sortL ordS (s.logs.set j c).flatten := by
    intro x hx
    refine hp.mem_iff.2 (List.mem_flatten.2 ⟨c, ?_, hx⟩)
    exact List.mem_set (by unfold Ply.logs; simpa using hj) _
  have hlen := h.glen hj
  refine gap_in ho (g := (j : Int) + 1) (n := n) (m := ((s.gs j).log.length : Int)) (fun x hx hg => (hnum x (hin x hx hg)).1) (fun x hx hg => (hnum x (hin x hx hg)).2) ⟨_, hback _ hlast, ?_, ?_⟩ (by omega) (by omega)
  · exact ((h.mem hj).1 (List.getElem_mem _)).2
  · rw [h.gnum j hj]; omega
end
end Go.Proofs.YtienaifmlhcijaaGreatDoor
end
section
namespace Go.Proofs.YtienaifmlhcijaaGreatDoor
open Go Go.Gw
set_option linter.unusedVariables false
set_option linter.unusedSimpArgs false
theorem ix0 (p q r s : Value) (w : World) : (Instr.index 204 (.agg #[p, q, r, s]) (.int .i64 0)).run Tryz.prog w = .ok (.agg #[p, q]) w := by kernel_rfl
theorem ix1 (p q r s : Value) (w : World) : (Instr.index 204 (.agg #[p, q, r, s]) (.int .i64 1)).run Tryz.prog w = .ok (.agg #[r, s]) w := by kernel_rfl
theorem mul64 (x y : Nat) (hx : x < 18446744073709551616) (hy : y < 18446744073709551616) (w : World) : Ret Tryz.prog 139 #[.int .u64 (x : Int), .int .u64 (y : Int)] w (fun u w' => u = .tuple #[.int .u64 ((x * y / 18446744073709551616 : Nat) : Int), .int .u64 ((x * y % 18446744073709551616 : Nat) : Int)] ∧ Ext w w') :=
  Calls.mono (Tryz.bits_Mul64 x y hx hy w) fun e w' ⟨h1, h2⟩ => ⟨_, h1, rfl, h2 ▸ Ext.refl w⟩
/-- (*foyer/digest.state).take -/
theorem take_spec {M : Nat → Prop} {u0 : World} {l : List Atom} (pb s c : Nat) (w0 : World) (h0 : HSat M u0 (Cel pb 169 [.int .u64 (s : Int)] :: l) w0) (hs : s < 18446744073709551616) (hc : c < 18446744073709551616) :
    Ret Tryz.prog 104 #[.pointer (some ⟨pb, 0, none⟩), .int .u64 (c : Int)] w0 (fun u w => u = .tuple #[] ∧ HSat M u0 (Cel pb 169 [.int .u64 (take64 s c : Int)] :: l) w) := by
 refine ret_of_wp (nt := 38) Tryz.func104 rfl rfl rfl (fl := [(0, .pointer (some ⟨pb, 0, none⟩)), (1, .int .u64 (c : Int))]) rfl (fun a S => ?_)
 have H := h0
 refine gsr ?_
 refine gm S fun a S => ?_
 refine gy rfl rfl rfl S (y_nilCheck rfl S rfl) fun a S => ?_
 refine gy rfl rfl rfl S (y_load rfl Fsca169 S H rfl rfl) fun a S => ?_
 refine gm S fun a S => ?_
 refine gy rfl rfl rfl S ((y_xoru (m := s) (q := c) rfl S rfl rfl hs hc rfl)) fun a S => ?_
 refine ga S fun a S => ?_
 refine gnt ?_
 have S := (S.nil.cons S 0 rfl).cons S 4 rfl
 refine g_seq ?_
 refine gsr ?_
 refine gy rfl rfl rfl S (y_buildf rfl Fbld203 S rfl (idx := [0, 1]) rfl (cs := [_, _]) rfl) fun a S => ?_
 refine gy rfl rfl rfl S (y_buildf rfl Fbld203 S rfl (idx := [0, 1]) rfl (cs := [_, _]) rfl) fun a S => ?_
 refine gy rfl rfl rfl S (y_buildf rfl Fbld204 S rfl (idx := [0, 1]) rfl (cs := [_, _, _, _]) rfl) fun a S => ?_
 refine gm S fun a S => ?_
 refine gnt ?_
 refine g_block ?_
 rw [← stp0 (s ^^^ c)] at S
 have SU := (S.nil.cons S 0 rfl).cons S 14 rfl
 refine loop_k (X := Nat) SU (fun k => [(4, .int .u64 ((stp k (s ^^^ c) : Nat) : Int)), (15, .int .i64 (k : Int))]) (fun k => k ≤ 2) (fun k => 2 - k) 0 ((S.nil.cons S 15 rfl).cons S 4 rfl) H (by omega) (fun k a w S H hi => ?_)
 simp only [List.cons_append, List.nil_append] at S hi
 refine gsr ?_
 refine gy rfl rfl rfl S (y_bin rfl S rfl rfl rfl) fun a S => ?_
 refine gnt ?_
 refine g_seq ?_
 refine c_if S rfl (fun h1 => ?_) (fun h1 => ?_)
 ·have h1p := h1; try simp only [DL] at h1p
  refine g_skip ?_
  refine n_then ?_
  refine g_seq ?_
  refine g_block ?_
  refine g_seq ?_
  have hkk : k = 0 ∨ k = 1 := by omega
  rcases hkk with rfl | rfl
  ·rw [stp0] at S
   have hx : (s ^^^ c) < 18446744073709551616 := xor_lt hs hc
   have hy : ((s ^^^ c) ^^^ ((s ^^^ c) >>> 32)) < 18446744073709551616 := xor_lt hx (shr_lt hx)
   refine g_region ?_
   refine gy rfl rfl rfl S ((y_index rfl S rfl rfl (ix0 _ _ _ _ _))) fun a S => ?_
   refine wl_of (op_alloc (wn rfl) rfl rfl rfl S H Fzer203 fun b6 a w S H => ?_)
   refine wl_of (op_storea (wn rfl) rfl rfl S H rfl rfl rfl Fsiz203 rfl (cs' := [_, _]) rfl fun a w S H => ?_)
   refine gnt ?_
   refine gsr ?_
   refine gm S fun a S => ?_
   refine gm S fun a S => ?_
   refine gy rfl rfl rfl S (y_iaddra rfl Tryz.underlying203 Fsiz97 S rfl rfl (by omega)) fun a S => ?_
   refine gy rfl rfl rfl S (y_load rfl Fsca97 S H rfl rfl) fun a S => ?_
   refine gy rfl rfl rfl S ((y_shru (m := (s ^^^ c)) (q := 32) rfl S rfl rfl (by decide) rfl)) fun a S => ?_
   refine gy rfl rfl rfl S ((y_xoru (m := (s ^^^ c)) (q := (s ^^^ c) >>> 32) rfl S rfl rfl hx (shr_lt hx) rfl)) fun a S => ?_
   refine ga S fun a S => ?_
   refine gnt ?_
   have S := ((((S.nil.cons S 0 rfl).cons S 14 rfl).cons S 15 rfl).cons S 6 rfl).cons S 4 rfl
   refine g_region ?_
   refine gm S fun a S => ?_
   refine gy rfl rfl rfl S (y_iaddra rfl Tryz.underlying203 Fsiz97 S rfl rfl (by omega)) fun a S => ?_
   refine gy rfl rfl rfl S (y_load rfl Fsca97 S H rfl rfl) fun a S => ?_
   refine wl_of (op_call (wn rfl) rfl rfl S (co_func rfl Tryz.call139 S rfl) (mul64 ((s ^^^ c) ^^^ ((s ^^^ c) >>> 32)) 11400714819323198485 hy (by decide) _) fun v w hc a S => ?_)
   obtain ⟨rfl, he⟩ := hc
   have H := H.ext he
   rw [mixA_def (s ^^^ c)] at S
   refine gm S fun a S => ?_
   refine gy rfl rfl rfl S (y_extract rfl S rfl rfl) fun a S => ?_
   refine gy rfl rfl rfl S (y_extract rfl S rfl rfl) fun a S => ?_
   refine ga S fun a S => ?_
   refine gl_nil ?_
   refine n_block ?_
   refine n_then ?_
   have S := (((S.nil.cons S 0 rfl).cons S 14 rfl).cons S 15 rfl).cons S 4 rfl
   refine g_region ?_
   refine gy rfl rfl rfl S (y_add rfl S rfl rfl (by omega)) fun a S => ?_
   refine gm S fun a S => ?_
   refine gnt ?_
   rw [← stp1 (s ^^^ c)] at S
   exact ⟨1, (S.nil.cons S 15 rfl).cons S 4 rfl, (S.nil.cons S 0 rfl).cons S 14 rfl, H.tail, by omega, by omega⟩
  ·rw [stp1] at S
   have hx : (mixA (s ^^^ c)) < 18446744073709551616 := mixA_lt _
   have hy : ((mixA (s ^^^ c)) ^^^ ((mixA (s ^^^ c)) >>> 29)) < 18446744073709551616 := xor_lt hx (shr_lt hx)
   refine g_region ?_
   refine gy rfl rfl rfl S ((y_index rfl S rfl rfl (ix1 _ _ _ _ _))) fun a S => ?_
   refine wl_of (op_alloc (wn rfl) rfl rfl rfl S H Fzer203 fun b6 a w S H => ?_)
   refine wl_of (op_storea (wn rfl) rfl rfl S H rfl rfl rfl Fsiz203 rfl (cs' := [_, _]) rfl fun a w S H => ?_)
   refine gnt ?_
   refine gsr ?_
   refine gm S fun a S => ?_
   refine gm S fun a S => ?_
   refine gy rfl rfl rfl S (y_iaddra rfl Tryz.underlying203 Fsiz97 S rfl rfl (by omega)) fun a S => ?_
   refine gy rfl rfl rfl S (y_load rfl Fsca97 S H rfl rfl) fun a S => ?_
   refine gy rfl rfl rfl S ((y_shru (m := (mixA (s ^^^ c))) (q := 29) rfl S rfl rfl (by decide) rfl)) fun a S => ?_
   refine gy rfl rfl rfl S ((y_xoru (m := (mixA (s ^^^ c))) (q := (mixA (s ^^^ c)) >>> 29) rfl S rfl rfl hx (shr_lt hx) rfl)) fun a S => ?_
   refine ga S fun a S => ?_
   refine gnt ?_
   have S := ((((S.nil.cons S 0 rfl).cons S 14 rfl).cons S 15 rfl).cons S 6 rfl).cons S 4 rfl
   refine g_region ?_
   refine gm S fun a S => ?_
   refine gy rfl rfl rfl S (y_iaddra rfl Tryz.underlying203 Fsiz97 S rfl rfl (by omega)) fun a S => ?_
   refine gy rfl rfl rfl S (y_load rfl Fsca97 S H rfl rfl) fun a S => ?_
   refine wl_of (op_call (wn rfl) rfl rfl S (co_func rfl Tryz.call139 S rfl) (mul64 ((mixA (s ^^^ c)) ^^^ ((mixA (s ^^^ c)) >>> 29)) 13787848793156543929 hy (by decide) _) fun v w hc a S => ?_)
   obtain ⟨rfl, he⟩ := hc
   have H := H.ext he
   rw [mixB_def (mixA (s ^^^ c))] at S
   refine gm S fun a S => ?_
   refine gy rfl rfl rfl S (y_extract rfl S rfl rfl) fun a S => ?_
   refine gy rfl rfl rfl S (y_extract rfl S rfl rfl) fun a S => ?_
   refine ga S fun a S => ?_
   refine gl_nil ?_
   refine n_block ?_
   refine n_then ?_
   have S := (((S.nil.cons S 0 rfl).cons S 14 rfl).cons S 15 rfl).cons S 4 rfl
   refine g_region ?_
   refine gy rfl rfl rfl S (y_add rfl S rfl rfl (by omega)) fun a S => ?_
   refine gm S fun a S => ?_
   refine gnt ?_
   rw [← stp2 (s ^^^ c)] at S
   exact ⟨2, (S.nil.cons S 15 rfl).cons S 4 rfl, (S.nil.cons S 0 rfl).cons S 14 rfl, H.tail, by omega, by omega⟩
 ·have h1p := h1; try simp only [DL] at h1p
  refine g_exit ?_
  refine x_then (x_then (x_eq ?_))
  refine n_then ?_
  have hk2 : k = 2 := by have := h1p; omega
  rw [hk2, stp2] at S
  ·skip
   refine g_region ?_
   refine gm S fun a S => ?_
   refine gm S fun a S => ?_
   refine gm S fun a S => ?_
   refine gy rfl rfl rfl S ((y_shru (m := (mixB (mixA (s ^^^ c)))) (q := 32) rfl S rfl rfl (by decide) rfl)) fun a S => ?_
   refine gy rfl rfl rfl S ((y_xoru (m := (mixB (mixA (s ^^^ c)))) (q := (mixB (mixA (s ^^^ c))) >>> 32) rfl S rfl rfl (mixB_lt _) (shr_lt (mixB_lt _)) rfl)) fun a S => ?_
   refine gy rfl rfl rfl S (y_nilCheck rfl S rfl) fun a S => ?_
   refine wl_of (op_store (wn rfl) rfl rfl S H rfl rfl rfl Fsiz169 rfl fun a w S H => ?_)
   dsimp only [List.set, Nat.zero_add, Nat.reduceAdd] at H
   refine gl_nil ?_
   refine ret0n rfl S ?_
   rw [take64_def] at H
   exact ⟨rfl, H⟩
/-- foyer/digest.Sum$1 -/
theorem add_spec {M : Nat → Prop} {u0 : World} {l : List Atom} (bb nb sb : Nat) (d : DS) (c : Nat) (w0 : World) (h0 : HSat M u0 (Cel bb 97 [.int .u64 ((d).b : Int)] :: Cel nb 3 [.int .i64 ((d).n : Int)] :: Cel sb 169 [.int .u64 ((d).s : Int)] :: l) w0) (hd : d.ok) (hc : c < 256) :
    Ret Tryz.prog 103 #[.int .u8 (c : Int), .pointer (some ⟨bb, 0, none⟩), .pointer (some ⟨nb, 0, none⟩), .pointer (some ⟨sb, 0, none⟩)] w0 (fun u w => u = .tuple #[] ∧ HSat M u0 (Cel bb 97 [.int .u64 ((d.add c).b : Int)] :: Cel nb 3 [.int .i64 ((d.add c).n : Int)] :: Cel sb 169 [.int .u64 ((d.add c).s : Int)] :: l) w) := by
 refine ret_of_wp (nt := 18) Tryz.func103 rfl rfl rfl (fl := [(0, .int .u8 (c : Int)), (1, .pointer (some ⟨bb, 0, none⟩)), (2, .pointer (some ⟨nb, 0, none⟩)), (3, .pointer (some ⟨sb, 0, none⟩))]) rfl (fun a S => ?_)
 have H := h0
 have hn8 := hd.n
 refine g_seq ?_
 refine region_st (loud := [7]) (tails := [7]) (free := []) [0, 1, 2, 3, 4, 5, 6, 7] [] Fmo (by kernel_rfl) (by kernel_rfl) rfl H ?_
 refine m_w rfl rfl (wn rfl) rfl rfl S (fun w H => y_load rfl Fsca97 S H rfl rfl) fun a S => ?_
 refine m_w rfl rfl (wn rfl) rfl rfl S (fun w H => y_move rfl S rfl) fun a S => ?_
 refine m_w rfl rfl (wn rfl) rfl rfl S (fun w H => (y_convg (k := .u8) (r := (c : Int)) rfl Tryz.underlying5 Tryz.underlying97 S rfl (by rw [IntKind.wrap_u64]; omega))) fun a S => ?_
 refine m_w rfl rfl (wn rfl) rfl rfl S (fun w H => y_load rfl Fsca3 S H rfl rfl) fun a S => ?_
 refine m_w rfl rfl (wn rfl) rfl rfl S (fun w H => (y_muln (m := 8) (q := d.n) rfl S rfl rfl rfl (by omega))) fun a S => ?_
 refine m_w rfl rfl (wn rfl) rfl rfl S (fun w H => (y_shlu (m := c) (q := 8 * d.n) rfl S rfl rfl (by omega) rfl (DS.shl_lt hd hc))) fun a S => ?_
 refine m_w rfl rfl (wn rfl) rfl rfl S (fun w H => (y_oru (m := d.b) (q := c <<< (8 * d.n)) rfl S rfl rfl (DS.b_lt hd) (DS.shl_lt hd hc) rfl)) fun a S => ?_
 refine m_l rfl rfl (fun w H => op_store (wn rfl) rfl rfl S H rfl rfl rfl Fsiz97 rfl fun a w S H => m_tail H rfl ?_)
 dsimp only [List.set, Nat.zero_add, Nat.reduceAdd] at H
 refine m_nil (fun w H => ?_)
 refine n_then ?_
 have S := ((S.nil.cons S 3 rfl).cons S 2 rfl).cons S 1 rfl
 refine gsr ?_
 refine gy rfl rfl rfl S (y_load rfl Fsca3 S H rfl rfl) fun a S => ?_
 refine gy rfl rfl rfl S (y_add rfl S rfl rfl (by omega)) fun a S => ?_
 refine wl_of (op_store (wn rfl) rfl rfl S H rfl rfl rfl Fsiz3 rfl fun a w S H => ?_)
 dsimp only [List.set, Nat.zero_add, Nat.reduceAdd] at H
 refine gnt ?_
 refine gsr ?_
 refine gy rfl rfl rfl S (y_load rfl Fsca3 S H rfl rfl) fun a S => ?_
 refine gy rfl rfl rfl S (y_bin rfl S rfl rfl rfl) fun a S => ?_
 refine gnt ?_
 refine c_if S rfl (fun h1 => ?_) (fun h1 => ?_)
 ·have h1p := h1; try simp only [DL] at h1p
  refine gsr ?_
  refine gy rfl rfl rfl S (y_load rfl Fsca97 S H rfl rfl) fun a S => ?_
  refine wl_of (op_call (wn rfl) rfl rfl S (co_func rfl Tryz.call104 S rfl) (take_spec sb d.s (d.b ||| (c <<< (8 * d.n))) _ (H.takeT [Cel sb 169 [.int .u64 (d.s : Int)]] (Cel bb 97 [.int .u64 ((d.b ||| (c <<< (8 * d.n))) : Int)] :: Cel nb 3 [.int .i64 ((d.n : Int) + 1)] :: l)) hd.s (DS.or64 hd hc)) fun v w hc a S => ?_)
  obtain ⟨rfl, H⟩ := hc
  simp only [List.append_eq, List.nil_append] at H
  have H := H.takeT [Cel bb 97 [.int .u64 ((d.b ||| (c <<< (8 * d.n))) : Int)], Cel nb 3 [.int .i64 ((d.n : Int) + 1)], Cel sb 169 [.int .u64 (take64 d.s (d.b ||| (c <<< (8 * d.n))) : Int)]] l
  simp only [List.cons_append, List.nil_append] at H
  refine gnt ?_
  have S := (S.nil.cons S 2 rfl).cons S 1 rfl
  refine g_region ?_
  refine wl_of (op_store (wn rfl) rfl rfl S H rfl rfl rfl Fsiz97 rfl fun a w S H => ?_)
  dsimp only [List.set, Nat.zero_add, Nat.reduceAdd] at H
  refine wl_of (op_store (wn rfl) rfl rfl S H rfl rfl rfl Fsiz3 rfl fun a w S H => ?_)
  dsimp only [List.set, Nat.zero_add, Nat.reduceAdd] at H
  refine gl_nil ?_
  refine ret0n rfl S ?_
  rw [DS.add_full (by omega)]
  exact ⟨rfl, H⟩
 ·have h1p := h1; try simp only [DL] at h1p
  refine g_skip ?_
  refine ret0n rfl S ?_
  rw [DS.add_part (by omega)]
  dsimp only
  rw [Int.natCast_add]
  exact ⟨rfl, H⟩
theorem slA (b : Nat) (w : World) : (Instr.sliceAt 207 (.pointer (some ⟨b, 0, none⟩)) none none none).run Tryz.prog w = .ok (.slice (some ⟨b, 0, none⟩) 16 16) w := by kernel_rfl
theorem and15 (x : Nat) : x &&& 15 = x % 16 := Nat.and_two_pow_sub_one_eq_mod x 4
/-- (foyer/digest.state).text -/
theorem text_spec (s : Nat) (w0 : World) (hs : s < 18446744073709551616) (T0 : TypeId) (fz : Nat × Nat) (hG : w0.heap[0]? = some (.cells hexTab.toArray T0 fz)) :
    Ret Tryz.prog 105 #[.int .u64 (s : Int)] w0 (fun u w => u = .string (hexS s) ∧ Ext w0 w) := by
 refine ret_of_wp (nt := 21) Tryz.func105 rfl rfl rfl (fl := [(0, .int .u64 (s : Int))]) rfl (fun a S => ?_)
 have H := HSat.start w0
 have H := H.ro0 (Atom.ro (Blk 0 (.cells hexTab.toArray T0 fz))) rfl (hG)
 refine gsr ?_
 refine ga S fun a S => ?_
 refine gnt ?_
 refine gsr ?_
 refine wl_of (op_alloc (wn rfl) rfl rfl rfl S H Fzer207 fun b3 a w S H => ?_)
 refine gnt ?_
 refine g_seq ?_
 refine gsr ?_
 refine gm S fun a S => ?_
 refine gnt ?_
 refine g_block ?_
 have SU := ((S.nil.cons S 0 rfl).cons S 2 rfl).cons S 3 rfl
 refine loopW (X := Nat) SU (fun k => [(5, .int .i64 (k : Int))]) (fun k w => k ≤ 16 ∧ HSat No w0 [Cel b3 207 (hexC s k), Atom.ro (Blk 0 (.cells hexTab.toArray T0 fz))] w) (fun k => 16 - k) 0 (S.nil.cons S 5 rfl) (⟨Nat.zero_le _, H⟩) (fun k a w S hW => ?_)
 simp only [List.cons_append, List.nil_append] at S
 obtain ⟨hk, H⟩ := hW
 refine gsr ?_
 refine gy rfl rfl rfl S (y_bin rfl S rfl rfl rfl) fun a S => ?_
 refine gnt ?_
 refine g_seq ?_
 refine c_if S rfl (fun h1 => ?_) (fun h1 => ?_)
 ·have h1p := h1; try simp only [DL] at h1p
  refine g_skip ?_
  refine n_then ?_
  refine g_seq ?_
  refine g_block ?_
  refine gsr ?_
  refine gm S fun a S => ?_
  refine ga S fun a S => ?_
  refine gnt ?_
  refine g_region ?_
  refine gm S fun a S => ?_
  refine gm S fun a S => ?_
  refine gm S fun a S => ?_
  refine gy rfl rfl rfl S ((y_muln (m := 4) (q := k) rfl S rfl rfl rfl (by omega))) fun a S => ?_
  refine gy rfl rfl rfl S ((y_subn (m := 60 - 4 * k) rfl S rfl rfl (by omega) (by omega))) fun a S => ?_
  refine gy rfl rfl rfl S ((y_shru (m := s) (q := 60 - 4 * k) rfl S rfl rfl (by omega) rfl)) fun a S => ?_
  refine gy rfl rfl rfl S ((y_andu (m := s >>> (60 - 4 * k)) (q := 15) rfl S rfl rfl (shr_lt hs) (by decide) (and15 _))) fun a S => ?_
  refine gy rfl rfl rfl S (y_iaddra rfl Tryz.underlying207 Fsiz5 S rfl rfl (by omega)) fun a S => ?_
  refine gy rfl rfl rfl S ((y_load rfl Fsca5 S H rfl (hexTab_get _ (by simp; omega)))) fun a S => ?_
  refine gy rfl rfl rfl S (y_iaddra rfl Tryz.underlying207 Fsiz5 S rfl rfl (by omega)) fun a S => ?_
  refine wl_of (op_store (wn rfl) rfl rfl S H rfl rfl rfl Fsiz5 (by simp [hexC_len]; omega) fun a w S H => ?_)
  refine gl_nil ?_
  refine n_block ?_
  refine n_then ?_
  have S := (((S.nil.cons S 0 rfl).cons S 2 rfl).cons S 3 rfl).cons S 5 rfl
  refine g_region ?_
  refine gy rfl rfl rfl S (y_add rfl S rfl rfl (by omega)) fun a S => ?_
  refine gm S fun a S => ?_
  refine gnt ?_
  simp only [Int.toNat_natCast, Nat.zero_add, Nat.mul_one] at H
  rw [hexC_set s k (by omega)] at H
  exact ⟨k + 1, S.nil.cons S 5 rfl, ((S.nil.cons S 0 rfl).cons S 2 rfl).cons S 3 rfl, ⟨by omega, H⟩, by omega⟩
 ·have h1p := h1; try simp only [DL] at h1p
  refine g_exit ?_
  refine x_then (x_then (x_eq ?_))
  refine n_then ?_
  refine g_seq ?_
  have hk2 : k = 16 := by have := h1p; omega
  rw [hk2] at H
  ·skip
   refine g_region ?_
   refine gy rfl rfl rfl S ((y_sliceA rfl S rfl (slA _ _))) fun a S => ?_
   refine gy rfl rfl rfl S ((y_bytestr (hexL s) rfl Tryz.underlying126 Tryz.underlying5 Tryz.underlying9 S H rfl (by simp [hexL]) (hexC_get s))) fun a S => ?_
   refine ga S fun a S => ?_
   refine gnt ?_
   have S := S.nil.cons S 2 rfl
   refine g_ret ?_
   refine ret1 rfl S rfl ?_
   exact ⟨rfl, H.toExt⟩
set_option maxHeartbeats 1000000 in
/-- foyer/digest.Sum -/
theorem sum_spec (t : ByteArray) (w0 : World) (T0 : TypeId) (fz : Nat × Nat) (hG : w0.heap[0]? = some (.cells hexTab.toArray T0 fz)) (hs : t.size ≤ 9223372036854775807) :
    Ret Tryz.prog 65 #[.string t] w0 (fun u w => u = .string (sumS t) ∧ Ext w0 w) := by
 refine ret_of_wp (nt := 28) Tryz.func65 rfl rfl rfl (fl := [(0, .string t)]) rfl (fun a S => ?_)
 have H := HSat.start w0
 refine gsr ?_
 refine ga S fun a S => ?_
 refine gnt ?_
 refine gsr ?_
 refine wl_of (op_alloc (wn rfl) rfl rfl rfl S H Fzer169 fun b3 a w S H => ?_)
 refine wl_of (op_store (wn rfl) rfl rfl S H rfl rfl rfl Fsiz169 rfl fun a w S H => ?_)
 dsimp only [List.set, Nat.zero_add, Nat.reduceAdd] at H
 refine gnt ?_
 refine gsr ?_
 refine wl_of (op_alloc (wn rfl) rfl rfl rfl S H Fzer97 fun b4 a w S H => ?_)
 refine wl_of (op_alloc (wn rfl) rfl rfl rfl S H Fzer3 fun b5 a w S H => ?_)
 refine wl_of (op_store (wn rfl) rfl rfl S H rfl rfl rfl Fsiz97 rfl fun a w S H => ?_)
 dsimp only [List.set, Nat.zero_add, Nat.reduceAdd] at H
 refine wl_of (op_store (wn rfl) rfl rfl S H rfl rfl rfl Fsiz3 rfl fun a w S H => ?_)
 dsimp only [List.set, Nat.zero_add, Nat.reduceAdd] at H
 refine gnt ?_
 refine gsr ?_
 refine gy rfl rfl rfl S (y_makeFunc rfl S rfl rfl) fun a S => ?_
 refine ga S fun a S => ?_
 refine gnt ?_
 refine g_seq ?_
 refine gsr ?_
 refine gm S fun a S => ?_
 refine gy rfl rfl rfl S (y_lenstr rfl Tryz.underlying9 S rfl) fun a S => ?_
 refine gm S fun a S => ?_
 refine gnt ?_
 refine g_block ?_
 have SU := (((((S.nil.cons S 0 rfl).cons S 2 rfl).cons S 3 rfl).cons S 5 rfl).cons S 6 rfl).cons S 10 rfl
 refine loopW (X := Nat) SU (fun k => [(11, .int .i64 (k : Int))]) (fun k w => k ≤ t.size ∧ HSat No w0 [Cel b4 97 [.int .u64 (((DS.z.adds (t.data.toList.take k))).b : Int)], Cel b5 3 [.int .i64 (((DS.z.adds (t.data.toList.take k))).n : Int)], Cel b3 169 [.int .u64 (((DS.z.adds (t.data.toList.take k))).s : Int)]] w) (fun k => t.size - k) 0 (S.nil.cons S 11 rfl) (⟨Nat.zero_le _, by rw [show DS.z.adds (t.data.toList.take 0) = DS.z from rfl]; exact H.take [Cel b4 97 [.int .u64 0], Cel b5 3 [.int .i64 0], Cel b3 169 [.int .u64 7046029254386353131]]⟩) (fun k a w S hW => ?_)
 simp only [List.cons_append, List.nil_append] at S
 obtain ⟨hk, H⟩ := hW
 have hd : ((DS.z.adds (t.data.toList.take k))).ok := DS.adds_ok DS.z_ok _
 refine gsr ?_
 refine gy rfl rfl rfl S (y_bin rfl S rfl rfl rfl) fun a S => ?_
 refine gnt ?_
 refine g_seq ?_
 refine c_if S rfl (fun h1 => ?_) (fun h1 => ?_)
 ·have h1p := h1; try simp only [DL] at h1p
  refine g_skip ?_
  refine n_then ?_
  refine g_seq ?_
  refine g_block ?_
  refine gsr ?_
  refine gm S fun a S => ?_
  refine ga S fun a S => ?_
  refine gnt ?_
  refine g_region ?_
  refine gm S fun a S => ?_
  refine gm S fun a S => ?_
  refine gm S fun a S => ?_
  refine gy rfl rfl rfl S (y_idxstr rfl Tryz.underlying9 S rfl rfl (by first | assumption | omega | (simp only [LL]; omega))) fun a S => ?_
  refine wl_of (op_call (wn rfl) rfl rfl S (co_value rfl Tryz.call103 S rfl rfl) (add_spec b4 b5 b3 (DS.z.adds (t.data.toList.take k)) t[k].toNat _ H hd t[k].toNat_lt) fun v w hc a S => ?_)
  obtain ⟨rfl, H⟩ := hc
  
  refine gl_nil ?_
  refine n_block ?_
  refine n_then ?_
  have S := ((((((S.nil.cons S 0 rfl).cons S 2 rfl).cons S 3 rfl).cons S 5 rfl).cons S 6 rfl).cons S 10 rfl).cons S 11 rfl
  refine g_region ?_
  refine gy rfl rfl rfl S (y_add rfl S rfl rfl (by omega)) fun a S => ?_
  refine gm S fun a S => ?_
  refine gnt ?_
  have e := DS.adds_take DS.z t.data.toList k (by simpa using (by omega : k < t.size))
  rw [show t[k].toNat = (t.data.toList[k]'(by simpa using (by omega : k < t.size))).toNat from by simp [ByteArray.getElem_eq_getElem_data], ← e] at H
  exact ⟨k + 1, S.nil.cons S 11 rfl, (((((S.nil.cons S 0 rfl).cons S 2 rfl).cons S 3 rfl).cons S 5 rfl).cons S 6 rfl).cons S 10 rfl, ⟨by omega, H⟩, by omega⟩
 ·have h1p := h1; try simp only [DL] at h1p
  refine g_exit ?_
  refine x_then (x_then (x_eq ?_))
  refine n_then ?_
  have S := (((S.nil.cons S 2 rfl).cons S 3 rfl).cons S 5 rfl).cons S 6 rfl
  refine g_seq ?_
  refine g_seq ?_
  have hk2 : k = t.size := by have := h1p; omega
  have e9 : t.data.toList.take k = t.data.toList := List.take_of_length_le (by simp [hk2])
  rw [e9] at H
  have hd1 : (DS.z.adds t.data.toList).ok := DS.adds_ok DS.z_ok _
  ·skip
   refine g_region ?_
   refine gm S fun a S => ?_
   refine wl_of (op_call (wn rfl) rfl rfl S (co_value rfl Tryz.call103 S rfl rfl) (add_spec b4 b5 b3 (DS.z.adds t.data.toList) 1 _ H hd1 (by decide)) fun v w hc a S => ?_)
   obtain ⟨rfl, H⟩ := hc
   
   refine gnt ?_
   refine g_block ?_
   have SU := (((S.nil.cons S 2 rfl).cons S 3 rfl).cons S 5 rfl).cons S 6 rfl
   refine loopW (X := DS × Nat) SU (fun x => []) (fun x w => x.1.ok ∧ (DS.fill x.2 x.1) = DS.fill 8 ((DS.z.adds t.data.toList).add 1) ∧ (x.1.n ≠ 0 → 8 ≤ x.1.n + x.2) ∧ HSat No w0 [Cel b4 97 [.int .u64 ((x.1).b : Int)], Cel b5 3 [.int .i64 ((x.1).n : Int)], Cel b3 169 [.int .u64 ((x.1).s : Int)]] w) (fun x => x.2) (((DS.z.adds t.data.toList).add 1), 8) (S.nil) (⟨DS.add_ok hd1 (by decide), rfl, fun _ => by dsimp only; omega, H⟩) (fun x a w S hW => ?_)
   simp only [List.cons_append, List.nil_append] at S
   obtain ⟨d, j⟩ := x
   obtain ⟨hd, hf, hj, H⟩ := hW
   dsimp only at S H hd hf hj
   refine g_seq ?_
   refine gsr ?_
   refine gy rfl rfl rfl S (y_load rfl Fsca3 S H rfl rfl) fun a S => ?_
   refine gy rfl rfl rfl S (y_bin rfl S rfl rfl rfl) fun a S => ?_
   refine gnt ?_
   refine c_if S rfl (fun h2 => ?_) (fun h2 => ?_)
   ·have h2p := h2; try simp only [DL] at h2p
    refine g_skip ?_
    refine n_then ?_
    refine g_block ?_
    refine g_region ?_
    refine gm S fun a S => ?_
    refine wl_of (op_call (wn rfl) rfl rfl S (co_value rfl Tryz.call103 S rfl rfl) (add_spec b4 b5 b3 d 0 _ H hd (by decide)) fun v w hc a S => ?_)
    obtain ⟨rfl, H⟩ := hc
    
    refine gl_nil ?_
    refine n_block ?_
    refine n_then ?_
    have hn0 : d.n ≠ 0 := by have := h2p; omega
    have hn8 := hd.n
    have hj8 := hj hn0
    obtain ⟨i, rfl⟩ : ∃ i, j = i + 1 := ⟨j - 1, by omega⟩
    rw [DS.fill_s hn0] at hf
    exact ⟨(d.add 0, i), S.nil, (((S.nil.cons S 2 rfl).cons S 3 rfl).cons S 5 rfl).cons S 6 rfl, ⟨DS.add_ok hd (by decide), hf, fun h => by dsimp only at h ⊢; rw [DS.add_n] at h ⊢; split at h <;> rename_i hh <;> (try rw [if_neg hh]) <;> omega, H⟩, by dsimp only; omega⟩
   ·have h2p := h2; try simp only [DL] at h2p
    refine g_exit ?_
    refine x_then (x_then (x_eq ?_))
    refine n_then ?_
    have S := (S.nil.cons S 2 rfl).cons S 3 rfl
    refine g_seq ?_
    have hn0 : d.n = 0 := by have := h2p; omega
    rw [DS.fill_z hn0] at hf
    have hG2 : ∀ {w : World}, Ext w0 w → w.heap[0]? = some (.cells hexTab.toArray T0 fz) := fun he => (he.block (Array.getElem?_eq_some_iff.1 hG).1).trans hG
    ·skip
     refine g_region ?_
     refine gy rfl rfl rfl S (y_load rfl Fsca169 S H rfl rfl) fun a S => ?_
     refine wl_of (op_call (wn rfl) rfl rfl S (co_func rfl Tryz.call105 S rfl) (text_spec d.s _ hd.s T0 fz (hG2 (H.toExt))) fun v w hc a S => ?_)
     obtain ⟨rfl, he⟩ := hc
     have H := H.ext he
     refine ga S fun a S => ?_
     refine gnt ?_
     have S := S.nil.cons S 2 rfl
     refine g_ret ?_
     refine ret1 rfl S rfl ?_
     exact ⟨by rw [hf]; rfl, H.toExt⟩
end Go.Proofs.YtienaifmlhcijaaGreatDoor
end
section
namespace Go.Proofs.YtienaifmlhcijaaGreatDoor
open Go Go.Gw
set_option linter.unusedVariables false
set_option linter.unusedSimpArgs false
/-- foyer/digest.Chain -/
theorem chain_spec (t : ByteArray) (n : Nat) (w0 : World) (T0 : TypeId) (fz : Nat × Nat) (hG : w0.heap[0]? = some (.cells hexTab.toArray T0 fz)) (hs : t.size ≤ 9223372036854775807) (hn : n ≤ 1000) :
    Ret Tryz.prog 68 #[.string t, .int .i64 (n : Int)] w0 (fun u w => u = .string (chainS t n) ∧ Ext w0 w) := by
 refine ret_of_wp (nt := 14) Tryz.func68 rfl rfl rfl (fl := [(0, .string t), (1, .int .i64 (n : Int))]) rfl (fun a S => ?_)
 have H := HSat.start w0
 have hG2 : ∀ {w : World}, Ext w0 w → w.heap[0]? = some (.cells hexTab.toArray T0 fz) := fun he => (he.block (Array.getElem?_eq_some_iff.1 hG).1).trans hG
 refine gsr ?_
 refine ga S fun a S => ?_
 refine gnt ?_
 refine g_seq ?_
 refine gsr ?_
 refine gm S fun a S => ?_
 refine gy rfl rfl rfl S (y_min rfl S rfl rfl) fun a S => ?_
 refine gy rfl rfl rfl S (y_max rfl S rfl rfl) fun a S => ?_
 refine gm S fun a S => ?_
 refine gnt ?_
 refine g_block ?_
 have SU := (S.nil.cons S 4 rfl).cons S 7 rfl
 refine loop_k (X := Nat) SU (fun k => [(0, .string (chainS t k)), (8, .int .i64 (k : Int))]) (fun k => k ≤ n) (fun k => n - k) 0 ((S.nil.cons S 8 rfl).cons S 0 rfl) H (Nat.zero_le _) (fun k a w S H hi => ?_)
 simp only [List.cons_append, List.nil_append] at S hi
 refine gsr ?_
 refine gy rfl rfl rfl S (y_bin rfl S rfl rfl rfl) fun a S => ?_
 refine gnt ?_
 refine g_seq ?_
 refine c_if S rfl (fun h1 => ?_) (fun h1 => ?_)
 ·have h1p := h1; try simp only [DL] at h1p
  refine g_skip ?_
  refine n_then ?_
  refine g_seq ?_
  refine g_block ?_
  refine g_region ?_
  refine gm S fun a S => ?_
  refine wl_of (op_call (wn rfl) rfl rfl S (co_func rfl Tryz.call65 S rfl) (sum_spec (chainS t k) _ T0 fz (hG2 H.toExt) (chainS_size hs k)) fun v w hc a S => ?_)
  obtain ⟨rfl, he⟩ := hc
  have H := H.ext he
  refine ga S fun a S => ?_
  refine gl_nil ?_
  refine n_block ?_
  refine n_then ?_
  have S := (((S.nil.cons S 4 rfl).cons S 7 rfl).cons S 8 rfl).cons S 0 rfl
  refine g_region ?_
  refine gy rfl rfl rfl S (y_add rfl S rfl rfl (by omega)) fun a S => ?_
  refine gm S fun a S => ?_
  refine gnt ?_
  refine ⟨k + 1, (S.nil.cons S 8 rfl).cons S 0 rfl, (S.nil.cons S 4 rfl).cons S 7 rfl, H, ?_, ?_⟩
  · omega
  · omega
 ·have h1p := h1; try simp only [DL] at h1p
  refine g_exit ?_
  refine x_then (x_then (x_eq ?_))
  refine n_then ?_
  refine gsr ?_
  refine gm S fun a S => ?_
  refine ga S fun a S => ?_
  refine gnt ?_
  have S := S.nil.cons S 4 rfl
  refine g_ret ?_
  refine ret1 rfl S rfl ?_
  have hk2 : k = n := by omega
  exact ⟨by rw [hk2], H.toExt⟩
end Go.Proofs.YtienaifmlhcijaaGreatDoor
end
section
namespace Go.Proofs.YtienaifmlhcijaaGreatDoor
open Go Go.Gw
set_option linter.unusedVariables false
set_option linter.unusedSimpArgs false
theorem info68 : ∃ j, Tryz.prog.info? 128 = some j ∧ j.size = 2 := by
  have h : (Tryz.prog.info? 128).map (·.size) = some 2 := by kernel_rfl
  obtain ⟨j, h1, h2⟩ := Option.map_eq_some_iff.1 h
  exact ⟨j, h1, h2⟩
theorem cvA (b : Nat) (p v : Value) (w : World) (h : w.heap[b]? = some (.cells [p, v].toArray 128 (0, 0))) : (convert 125 199 (.pointer (some ⟨b, 0, none⟩))).run Tryz.prog w = .ok (.pointer (some ⟨b, 0, none⟩)) w := by
  obtain ⟨j, h1, h2⟩ := info68
  exact Go.Lib.run_to_unsafe w ⟨b, 0, none⟩ Tryz.underlying125 Tryz.underlying199 h1 (by omega) (show w.shape? b = some (128, 2) by simp [World.shape?, h]) (show 0 < 2 by decide)
theorem cvB (b : Nat) (p v : Value) (w : World) (h : w.heap[b]? = some (.cells [p, v].toArray 128 (0, 0))) : (convert 199 125 (.pointer (some ⟨b, 0, none⟩))).run Tryz.prog w = .ok (.pointer (some ⟨b, 0, none⟩)) w := by
  obtain ⟨j, h1, h2⟩ := info68
  exact Go.Lib.run_from_unsafe w ⟨b, 0, none⟩ Tryz.underlying199 Tryz.underlying125 h1 (show w.shape? b = some (128, 2) by simp [World.shape?, h]) (by kernel_rfl)
theorem nesc (b : Nat) (w : World) : (callFunc 137 #[.pointer (some ⟨b, 0, none⟩)]).run Tryz.prog w = .ok (.value (.pointer (some ⟨b, 0, none⟩))) w := by kernel_rfl
/-- (*strings.Builder).copyCheck -/
theorem copy_spec {M : Nat → Prop} {u0 : World} {l : List Atom} (b : Nat) (p : Bool) (v : Value) (w0 : World) (h0 : HSat M u0 (Cel b 128 [.pointer (if p = true then some ⟨b, 0, none⟩ else none), v] :: l) w0) :
    Ret Tryz.prog 101 #[.pointer (some ⟨b, 0, none⟩)] w0 (fun u w => u = .tuple #[] ∧ HSat M u0 (Cel b 128 [.pointer (some ⟨b, 0, none⟩), v] :: l) w) := by
 refine ret_of_wp (nt := 20) Tryz.func101 rfl rfl rfl (fl := [(0, .pointer (some ⟨b, 0, none⟩))]) rfl (fun a S => ?_)
 have H := h0
 obtain ⟨j68, hj68, _⟩ := info68
 refine g_seq ?_
 cases p
 ·simp only [Bool.false_eq_true, if_false] at H
  refine g_region ?_
  refine gm S fun a S => ?_
  refine gy rfl rfl rfl S (y_nilCheck rfl S rfl) fun a S => ?_
  refine gy rfl rfl rfl S (y_faddrb rfl Ffo128_0 S rfl) fun a S => ?_
  refine gy rfl rfl rfl S (y_load rfl Fsca125 S H rfl rfl) fun a S => ?_
  refine gy rfl rfl rfl S (y_eqp rfl Tryz.underlying125 S rfl rfl) fun a S => ?_
  refine gnt ?_
  have S := (S.nil.cons S 0 rfl).cons S 6 rfl
  refine c_if S rfl (fun h1 => ?_) (fun h1 => ?_)
  ·have h1p := h1; try simp only [DL] at h1p
   refine g_region ?_
   refine gm S fun a S => ?_
   refine gm S fun a S => ?_
   refine gy rfl rfl rfl S ((y_convX rfl S rfl (cvA b _ _ _ (H.rd b)))) fun a S => ?_
   refine gy rfl rfl rfl S ((y_extern rfl S rfl (nesc _ _))) fun a S => ?_
   refine gy rfl rfl rfl S ((y_convX rfl S rfl (cvB b _ _ _ (H.rd b)))) fun a S => ?_
   refine gy rfl rfl rfl S (y_nilCheck rfl S rfl) fun a S => ?_
   refine gy rfl rfl rfl S (y_faddrb rfl Ffo128_0 S rfl) fun a S => ?_
   refine wl_of (op_store (wn rfl) rfl rfl S H rfl rfl rfl Fsiz125 rfl fun a w S H => ?_)
   dsimp only [List.set, Nat.zero_add, Nat.reduceAdd] at H
   refine gl_nil ?_
   refine ret0n rfl S ?_
   exact ⟨rfl, H⟩
  ·have h1p := h1; try simp only [DL] at h1p
   all_goals (
     exact absurd h1 (by simp))
 ·simp only [if_true] at H
  refine g_region ?_
  refine gm S fun a S => ?_
  refine gy rfl rfl rfl S (y_nilCheck rfl S rfl) fun a S => ?_
  refine gy rfl rfl rfl S (y_faddrb rfl Ffo128_0 S rfl) fun a S => ?_
  refine gy rfl rfl rfl S (y_load rfl Fsca125 S H rfl rfl) fun a S => ?_
  refine gy rfl rfl rfl S (y_eqp rfl Tryz.underlying125 S rfl rfl) fun a S => ?_
  refine gnt ?_
  have S := (S.nil.cons S 0 rfl).cons S 6 rfl
  refine c_if S rfl (fun h2 => ?_) (fun h2 => ?_)
  ·have h2p := h2; try simp only [DL] at h2p
   all_goals (
     exact absurd h2 (by simp))
  ·have h2p := h2; try simp only [DL] at h2p
   refine gsr ?_
   refine gm S fun a S => ?_
   refine gy rfl rfl rfl S (y_nilCheck rfl S rfl) fun a S => ?_
   refine gy rfl rfl rfl S (y_faddrb rfl Ffo128_0 S rfl) fun a S => ?_
   refine gy rfl rfl rfl S (y_load rfl Fsca125 S H rfl rfl) fun a S => ?_
   refine gm S fun a S => ?_
   refine gy rfl rfl rfl S ((y_neself rfl Tryz.underlying125 hj68 S rfl rfl)) fun a S => ?_
   refine gnt ?_
   have S := S.nil.cons S 19 rfl
   refine c_if S rfl (fun h3 => ?_) (fun h3 => ?_)
   ·have h3p := h3; try simp only [DL] at h3p
    all_goals (
      exact absurd h3 (by simp))
   ·have h3p := h3; try simp only [DL] at h3p
    refine g_skip ?_
    refine ret0n rfl S ?_
    exact ⟨rfl, H⟩
/-- (*strings.Builder).WriteString -/
theorem write_spec {M : Nat → Prop} {u0 : World} {l : List Atom} (b : Nat) (p : Bool) (v : Value) (xs : List UInt8) (t : ByteArray) (w0 : World) (h0 : HSat M u0 (Cel b 128 [.pointer (if p = true then some ⟨b, 0, none⟩ else none), v] :: OSl 5 v 1 encB xs :: l) w0) (hb : xs.length + t.size ≤ 140737488355328) (hne : t.size ≠ 0 ∨ v ≠ .slice none 0 0) :
    Ret Tryz.prog 63 #[.pointer (some ⟨b, 0, none⟩), .string t] w0 (fun u w => u = .tuple #[.int .i64 (t.size : Int), .nilIface] ∧ ∃ v', v' ≠ .slice none 0 0 ∧ HSat M u0 (Cel b 128 [.pointer (some ⟨b, 0, none⟩), v'] :: OSl 5 v' 1 encB (xs ++ t.data.toList) :: l) w) := by
 refine ret_of_wp (nt := 19) Tryz.func63 rfl rfl rfl (fl := [(0, .pointer (some ⟨b, 0, none⟩)), (1, .string t)]) rfl (fun a S => ?_)
 have H := h0
 refine gsr ?_
 refine ga S fun a S => ?_
 refine ga S fun a S => ?_
 refine gnt ?_
 refine gsr ?_
 refine gm S fun a S => ?_
 refine wl_of (op_call (wn rfl) rfl rfl S (co_func rfl Tryz.call101 S rfl) (copy_spec b p v _ H) fun v w hc a S => ?_)
 obtain ⟨rfl, H⟩ := hc
 
 refine gnt ?_
 refine gsr ?_
 refine gm S fun a S => ?_
 refine gm S fun a S => ?_
 refine gy rfl rfl rfl S (y_nilCheck rfl S rfl) fun a S => ?_
 refine gy rfl rfl rfl S (y_faddrb rfl Ffo128_1 S rfl) fun a S => ?_
 refine gy rfl rfl rfl S (y_load rfl Fsca126 S H rfl rfl) fun a S => ?_
 refine gm S fun a S => ?_
 refine wl_of (op_appendStr t (wn rfl) rfl rfl rfl Tryz.underlying126 Tryz.underlying9 Finf5 rfl S H rfl rfl hb hne fun u14 a w hn14 S H => ?_)
 refine gy rfl rfl rfl S (y_nilCheck rfl S rfl) fun a S => ?_
 refine gy rfl rfl rfl S (y_faddrb rfl Ffo128_1 S rfl) fun a S => ?_
 refine wl_of (op_store (wn rfl) rfl rfl S H rfl rfl (H.sl1 _) Fsiz126 rfl fun a w S H => ?_)
 dsimp only [List.set, Nat.zero_add, Nat.reduceAdd] at H
 refine gnt ?_
 have S := ((S.nil.cons S 1 rfl).cons S 4 rfl).cons S 5 rfl
 refine gsr ?_
 refine gm S fun a S => ?_
 refine gy rfl rfl rfl S (y_lenstr rfl Tryz.underlying9 S rfl) fun a S => ?_
 refine ga S fun a S => ?_
 refine ga S fun a S => ?_
 refine gnt ?_
 have S := (S.nil.cons S 4 rfl).cons S 5 rfl
 refine g_ret ?_
 refine ret2 rfl S rfl rfl ?_
 exact ⟨rfl, u14, hn14, H⟩
theorem ext_grow (w : World) (k : Nat) (os : Array Obj) : Ext w (Go.Sort.grow (w.drewN k) os) := by
  have e : (Go.Sort.grow (w.drewN k) os).heap = w.heap ++ os := rfl
  refine ⟨rfl, rfl, rfl, by rw [e]; simp, fun j hj _ => ?_, fun j hj ht => ?_⟩
  · rw [e, Array.getElem?_append_left hj]
  · rw [e, Array.getElem?_append_left hj]; exact ht
theorem itoa_spec (n : Int) (h0 : -9223372036854775808 ≤ n) (h1 : n ≤ 9223372036854775807) (w : World) (htab : Go.Lib.TabIs Tryz.prog w "internal/strconv.uint64pow10" .u64 Go.Lib.pow10Tab) : Ret Tryz.prog 64 #[.int .i64 n] w (fun u w' => u = .string ⟨(Go.Lib.itoa n).toArray⟩ ∧ Ext w w') :=
  Calls.mono (Tryz.strconv_Itoa n h0 h1 w htab) fun e w' ⟨he, k, os, hw⟩ => ⟨_, he, rfl, hw ▸ ext_grow w k os⟩
theorem string_spec (b : Nat) (p : Bool) (v : Value) (xs : List UInt8) (w0 w : World) (H : HSat No w0 [Cel b 128 [.pointer (if p = true then some ⟨b, 0, none⟩ else none), v], OSl 5 v 1 encB xs] w) : Ret Tryz.prog 66 #[.pointer (some ⟨b, 0, none⟩)] w (fun u w' => u = .string ⟨xs.toArray⟩ ∧ Ext w0 w') := by
  have hrow := (H.ok (OSl 5 v 1 encB xs) (by simp) : IsOSl w 5 v 1 encB xs)
  have hb := H.rd b (o := .cells [.pointer (if p = true then some ⟨b, 0, none⟩ else none), v].toArray 128 (0, 0))
  have hm1 : w0.heap.size ≤ b := (H.mine (Cel b 128 [.pointer (if p = true then some ⟨b, 0, none⟩ else none), v]) (by simp) rfl b rfl).resolve_left (fun h => h.elim)
  have hm2 : ∀ k, v.ownBlock = some k → w0.heap.size ≤ k := fun k hk => (H.mine (OSl 5 v 1 encB xs) (by simp) rfl k hk).resolve_left (fun h => h.elim)
  have hsep : v.ownBlock ≠ some b := fun e => by
    have := (List.pairwise_cons.1 H.sep).1 (OSl 5 v 1 encB xs) (by simp) (.inl rfl) b rfl
    exact this e
  have hbc : xs.flatMap encB = Go.Lib.byteCells xs := by unfold Go.Lib.byteCells; rw [List.map_eq_flatMap]; rfl
  have hown : w.ownsRow w0.heap.size 5 1 v (Go.Lib.byteCells xs).length (Go.Lib.byteCells xs) := by
    have hl : (Go.Lib.byteCells xs).length = xs.length := by unfold Go.Lib.byteCells; simp
    obtain ⟨r1, r2⟩ := hrow.row
    rw [hbc] at r1 r2
    refine ⟨by omega, ?_⟩
    rw [hl]
    rcases r2 with r2 | ⟨g, cap, cur, e, _, r3⟩
    · exact .inl r2
    · exact .inr ⟨g, cap, cur, e, hm2 g (by rw [e]; rfl), r3⟩
  have hB : Go.Lib.IsBuilder 128 5 w0.heap.size b (Go.Lib.byteCells xs) w := by
    cases p with
    | false => exact .inl ⟨hm1, v, hb, hown, hsep⟩
    | true => exact .inr ⟨hm1, v, hb, hown, hsep⟩
  refine Calls.mono (Tryz.Builder_String_any w0.heap.size b xs w hB H.fr.size) fun e w' ⟨he, hB⟩ => ⟨_, he, rfl, ?_⟩
  have hE := H.toExt
  exact ⟨hB.os.trans hE.os, hB.tape.trans hE.tape, hB.output.trans hE.output, Nat.le_trans hE.size hB.size, fun k hk _ => (hB.block k hk).trans (hE.block hk), fun k hk ht => by rw [hB.block k hk, hE.block hk]; exact ht⟩
end Go.Proofs.YtienaifmlhcijaaGreatDoor
end
section
namespace Go.Proofs.YtienaifmlhcijaaGreatDoor
open Go Go.Gw
set_option linter.unusedVariables false
set_option linter.unusedSimpArgs false
theorem tab_ext {w w' : World} (he : Ext w w') (h : Go.Lib.TabIs Tryz.prog w "internal/strconv.uint64pow10" .u64 Go.Lib.pow10Tab) : Go.Lib.TabIs Tryz.prog w' "internal/strconv.uint64pow10" .u64 Go.Lib.pow10Tab := by
  have hn : Tryz.prog.globalNamed "internal/strconv.uint64pow10" = some 1 := by kernel_rfl
  unfold Go.Lib.TabIs World.var? at h ⊢
  rw [hn] at h ⊢
  simp only [Option.bind_some] at h ⊢
  have hlt : 1 < w.heap.size := by
    rcases Nat.lt_or_ge 1 w.heap.size with h2 | h2
    · exact h2
    · rw [Array.getElem?_eq_none h2] at h; cases h
  rw [he.block hlt]; exact h
set_option maxHeartbeats 1000000 in
/-- foyer/digest.List -/
theorem list_spec (va : Value) (xs : List ByteArray) (w0 : World) (T0 : TypeId) (fz : Nat × Nat) (hG : w0.heap[0]? = some (.cells hexTab.toArray T0 fz)) (htab : Go.Lib.TabIs Tryz.prog w0 "internal/strconv.uint64pow10" .u64 Go.Lib.pow10Tab) (ha : IsSl w0 va 1 encS xs) (hb : (joinL xs).length ≤ 140737488355328) :
    Ret Tryz.prog 34 #[va] w0 (fun u w => u = .string (listS xs) ∧ Ext w0 w) := by
 refine ret_of_wp (nt := 22) Tryz.func34 rfl rfl rfl (fl := [(0, va)]) rfl (fun a S => ?_)
 have H := HSat.start w0
 have H := H.ro0 (Sl va 1 encS xs) rfl (ha)
 have hlen := ha.len
 have hsz : (⟨(joinL xs).toArray⟩ : ByteArray).size ≤ 9223372036854775807 := by show (joinL xs).toArray.size ≤ _; rw [List.size_toArray]; omega
 have hG2 : ∀ {w : World}, Ext w0 w → w.heap[0]? = some (.cells hexTab.toArray T0 fz) := fun he => (he.block (Array.getElem?_eq_some_iff.1 hG).1).trans hG
 refine gsr ?_
 refine ga S fun a S => ?_
 refine gnt ?_
 refine gsr ?_
 refine wl_of (op_alloc (wn rfl) rfl rfl rfl S H Fzer128 fun b3 a w S H => ?_)
 refine gnt ?_
 refine g_seq ?_
 refine gsr ?_
 refine gm S fun a S => ?_
 refine gy rfl rfl rfl S (y_lens rfl Tryz.underlying93 S H rfl) fun a S => ?_
 refine gm S fun a S => ?_
 refine gnt ?_
 refine g_block ?_
 have SU := (((S.nil.cons S 2 rfl).cons S 3 rfl).cons S 6 rfl).cons S 7 rfl
 refine loopW (X := Nat × Value) SU (fun x => [(8, .int .i64 (x.1 : Int))]) (fun x w => x.1 ≤ xs.length ∧ HSat No w0 [Cel b3 128 [.pointer (if decide (0 < x.1) = true then some ⟨b3, 0, none⟩ else none), x.2], OSl 5 x.2 1 encB (joinL (xs.take x.1)), Sl va 1 encS xs] w) (fun x => xs.length - x.1) (0, .slice none 0 0) (S.nil.cons S 8 rfl) (⟨Nat.zero_le _, (H.nilO 5 1 encB).take [Cel b3 128 [.pointer none, .slice none 0 0], OSl 5 (.slice none 0 0) 1 encB [], Sl va 1 encS xs]⟩) (fun x a w S hW => ?_)
 simp only [List.cons_append, List.nil_append] at S
 obtain ⟨k, v⟩ := x
 obtain ⟨hk, H⟩ := hW
 dsimp only at S H hk
 refine gsr ?_
 refine gy rfl rfl rfl S (y_bin rfl S rfl rfl rfl) fun a S => ?_
 refine gnt ?_
 refine g_seq ?_
 refine c_if S rfl (fun h1 => ?_) (fun h1 => ?_)
 ·have h1p := h1; try simp only [DL] at h1p
  refine g_skip ?_
  refine n_then ?_
  refine g_seq ?_
  refine g_block ?_
  refine gsr ?_
  refine gy rfl rfl rfl S (y_iaddrn rfl Tryz.underlying93 Fsiz9 S H rfl rfl (by first | assumption | omega | (simp only [LL]; omega))) fun a S => ?_
  refine gy rfl rfl rfl S (y_loads _ rfl Fsca9 S H rfl (by first | assumption | omega | (simp only [LL]; omega)) rfl) fun a S => ?_
  refine ga S fun a S => ?_
  refine gnt ?_
  have hkl : k < xs.length := by have := h1p; omega
  have hle := joinL_le hkl
  have hpl := partL_len xs[k]
  have hit : (⟨(Go.Lib.itoa (xs[k].size : Int)).toArray⟩ : ByteArray).size = (Go.Lib.itoa (xs[k].size : Int)).length := by show (Go.Lib.itoa (xs[k].size : Int)).toArray.size = _; simp
  ·skip
   refine g_region ?_
   refine gm S fun a S => ?_
   refine gy rfl rfl rfl S (y_lenstr rfl Tryz.underlying9 S rfl) fun a S => ?_
   refine wl_of (op_call (wn rfl) rfl rfl S (co_func rfl Tryz.call64 S rfl) (itoa_spec (xs[k].size : Int) (by omega) (by omega) _ (tab_ext H.toExt htab)) fun v w hc a S => ?_)
   obtain ⟨rfl, he⟩ := hc
   have H := H.ext he
   refine gy rfl rfl rfl S (y_adds rfl S rfl rfl (by first | omega | (rw [ByteArray.size_append]; have h1 : (⟨#[58]⟩ : ByteArray).size = 1 := rfl; omega) | (have h1 : (⟨#[58]⟩ : ByteArray).size = 1 := rfl; omega))) fun a S => ?_
   refine gm S fun a S => ?_
   refine gy rfl rfl rfl S (y_adds rfl S rfl rfl (by first | omega | (rw [ByteArray.size_append]; have h1 : (⟨#[58]⟩ : ByteArray).size = 1 := rfl; omega) | (have h1 : (⟨#[58]⟩ : ByteArray).size = 1 := rfl; omega))) fun a S => ?_
   refine wl_of (op_call (wn rfl) rfl rfl S (co_func rfl Tryz.call63 S rfl) (write_spec b3 (decide (0 < k)) v (joinL (xs.take k)) ((⟨(Go.Lib.itoa (xs[k].size : Int)).toArray⟩ : ByteArray) ++ (⟨#[58]⟩ : ByteArray) ++ xs[k]) _ H (by rw [partL_size]; omega) (.inl (by rw [partL_size, partL_len]; omega))) fun v w hc a S => ?_)
   obtain ⟨rfl, v2, hn2, H⟩ := hc
   rw [partL_text, ← joinL_take hkl] at H
   refine gl_nil ?_
   refine n_block ?_
   refine n_then ?_
   have S := ((((S.nil.cons S 2 rfl).cons S 3 rfl).cons S 6 rfl).cons S 7 rfl).cons S 8 rfl
   refine g_region ?_
   refine gy rfl rfl rfl S (y_add rfl S rfl rfl (by first | omega | (rw [ByteArray.size_append]; have h1 : (⟨#[58]⟩ : ByteArray).size = 1 := rfl; omega) | (have h1 : (⟨#[58]⟩ : ByteArray).size = 1 := rfl; omega))) fun a S => ?_
   refine gm S fun a S => ?_
   refine gnt ?_
   exact ⟨(k + 1, v2), S.nil.cons S 8 rfl, (((S.nil.cons S 2 rfl).cons S 3 rfl).cons S 6 rfl).cons S 7 rfl, ⟨by dsimp only; omega, by dsimp only; rw [decide_eq_true (by omega : 0 < k + 1)]; exact H⟩, by dsimp only; omega⟩
 ·have h1p := h1; try simp only [DL] at h1p
  refine g_exit ?_
  refine x_then (x_then (x_eq ?_))
  refine n_then ?_
  have S := (S.nil.cons S 2 rfl).cons S 3 rfl
  refine g_seq ?_
  have hk2 : xs.take k = xs := List.take_of_length_le (by have := h1p; omega)
  rw [hk2] at H
  ·skip
   refine g_region ?_
   refine wl_of (op_call (wn rfl) rfl rfl S (co_func rfl Tryz.call66 S rfl) (string_spec b3 (decide (0 < k)) v (joinL xs) w0 _ (H.take [Cel b3 128 [.pointer (if decide (0 < k) = true then some ⟨b3, 0, none⟩ else none), v], OSl 5 v 1 encB (joinL xs)])) fun v w hc a S => ?_)
   obtain ⟨rfl, he⟩ := hc
   have H := (HSat.start w0).ext he
   refine wl_of (op_call (wn rfl) rfl rfl S (co_func rfl Tryz.call65 S rfl) (sum_spec ⟨(joinL xs).toArray⟩ _ T0 fz (hG2 H.toExt) hsz) fun v w hc a S => ?_)
   obtain ⟨rfl, he⟩ := hc
   have H := H.ext he
   refine ga S fun a S => ?_
   refine gnt ?_
   have S := S.nil.cons S 2 rfl
   refine g_ret ?_
   refine ret1 rfl S rfl ?_
   exact ⟨rfl, H.toExt⟩
end Go.Proofs.YtienaifmlhcijaaGreatDoor
end
section
namespace Go.Proofs.YtienaifmlhcijaaGreatDoor
open Go Go.Gw
set_option linter.unusedVariables false
set_option linter.unusedSimpArgs false
theorem ext_below {w w' : World} (h : Go.RowKit.Below w.heap.size w w') : Ext w w' := ⟨h.os, h.tape, h.output, h.size, fun k hk _ => h.block k hk, fun k hk ht => by rw [h.block k hk]; exact ht⟩
theorem trim_spec (s cs : ByteArray) (w : World) (hs : s.size ≤ 9223372036854775807) (hcs : cs.size < 4294967281) (ha : cs.data.toList.all (fun b => decide (b.toNat < 128)) = true) :
    Ret Tryz.prog 140 #[.string s, .string cs] w (fun u w' => u = .string ⟨(Go.Lib.trimS s.data.toList cs.data.toList).toArray⟩ ∧ Ext w w') :=
  Calls.mono (Any.strings_Trim_laid Tryz.lays160 (by kernel_rfl) s cs w hs hcs (ascii_of_all ha)) fun e w' ⟨he, hb⟩ => ⟨_, he, rfl, ext_below hb⟩
/-- the tables of digest and strconv stand -/
def Tabs (w : World) : Prop := (∃ T0 fz, w.heap[0]? = some (.cells hexTab.toArray T0 fz)) ∧ Go.Lib.TabIs Tryz.prog w "internal/strconv.uint64pow10" .u64 Go.Lib.pow10Tab
theorem tab_named : Tryz.prog.globalNamed "internal/strconv.uint64pow10" = some 1 := by kernel_rfl
def TabsA : Atom where
  own := false
  fp := fun b => b = 0 ∨ b = 1
  ok := Tabs
  loc := fun w w' h hok => by
    refine ⟨?_, ?_⟩
    · rw [h 0 (.inl rfl)]; exact hok.1
    · have h2 := hok.2
      unfold Go.Lib.TabIs World.var? at h2 ⊢
      rw [tab_named] at h2 ⊢
      simp only [Option.bind_some] at h2 ⊢
      rw [h 1 (.inr rfl)]; exact h2
  lt := fun w b hok hb => by
    rcases hb with rfl | rfl
    · obtain ⟨T0, fz, h⟩ := hok.1
      exact (Array.getElem?_eq_some_iff.1 h).1
    · have h2 := hok.2
      unfold Go.Lib.TabIs World.var? at h2
      rw [tab_named] at h2
      simp only [Option.bind_some] at h2
      rcases Nat.lt_or_ge 1 w.heap.size with h3 | h3
      · exact h3
      · rw [Array.getElem?_eq_none h3] at h2; cases h2
instance ROs.tabs (r : List Atom) [h : ROs r] : ROs (TabsA :: r) := ⟨by simpa [TabsA] using h.all⟩
theorem _root_.Go.Gw.HSat.tabs {M : Nat → Prop} {w0 w : World} {l : List Atom} (H : HSat M w0 l w) [h : HasAt l TabsA] : Tabs w := H.ok TabsA h.mem
theorem Tabs.ext {w w' : World} (e : Ext w w') (h : Tabs w) : Tabs w' := TabsA.loc w w' (fun b hb => e.block (TabsA.lt w b h hb)) h
theorem idx_spec (d : Nat) (h : d < 16) (w : World) : Ret Tryz.prog 152 #[.string ⟨#[48, 49, 50, 51, 52, 53, 54, 55, 56, 57, 97, 98, 99, 100, 101, 102]⟩, .int .u8 ((hexD d).toNat : Int)] w (fun u w' => u = .int .i64 (d : Int) ∧ Ext w w') :=
  Calls.mono (Tryz.strings_IndexByte _ _ _) fun e w' ⟨h1, h2⟩ => ⟨_, h1, congrArg (Value.int .i64) (idx_hexD d h), h2 ▸ Ext.refl _⟩
theorem sum_t (t : ByteArray) (w : World) (hT : Tabs w) (hs : t.size ≤ 9223372036854775807) : Ret Tryz.prog 65 #[.string t] w (fun u w' => u = .string (sumS t) ∧ Ext w w') := by
  obtain ⟨⟨T0, fz, hG⟩, _⟩ := hT
  exact sum_spec t w T0 fz hG hs
theorem chain_t (t : ByteArray) (n : Nat) (w : World) (hT : Tabs w) (hs : t.size ≤ 9223372036854775807) (hn : n ≤ 1000) : Ret Tryz.prog 68 #[.string t, .int .i64 (n : Int)] w (fun u w' => u = .string (chainS t n) ∧ Ext w w') := by
  obtain ⟨⟨T0, fz, hG⟩, _⟩ := hT
  exact chain_spec t n w T0 fz hG hs hn
theorem list_t (va : Value) (xs : List ByteArray) (w : World) (hT : Tabs w) (ha : IsSl w va 1 encS xs) (hb : (joinL xs).length ≤ 140737488355328) : Ret Tryz.prog 34 #[va] w (fun u w' => u = .string (listS xs) ∧ Ext w w') := by
  obtain ⟨⟨T0, fz, hG⟩, htab⟩ := hT
  exact list_spec va xs w T0 fz hG htab ha hb
theorem itoa_t (n : Int) (h0 : -9223372036854775808 ≤ n) (h1 : n ≤ 9223372036854775807) (w : World) (hT : Tabs w) : Ret Tryz.prog 64 #[.int .i64 n] w (fun u w' => u = .string (itoaS n) ∧ Ext w w') := itoa_spec n h0 h1 w hT.2
/-- foyer/digest.Is -/
theorem is_spec (t : ByteArray) (w0 : World) (hs : t.size ≤ 9223372036854775807) :
    Ret Tryz.prog 107 #[.string t] w0 (fun u w => u = .bool (isD t) ∧ Ext w0 w) := by
 refine ret_of_wp (nt := 11) Tryz.func107 rfl rfl rfl (fl := [(0, .string t)]) rfl (fun a S => ?_)
 have H := HSat.start w0
 refine gsr ?_
 refine ga S fun a S => ?_
 refine gnt ?_
 refine gsr ?_
 refine gm S fun a S => ?_
 refine gy rfl rfl rfl S (y_lenstr rfl Tryz.underlying9 S rfl) fun a S => ?_
 refine gy rfl rfl rfl S (y_bin rfl S rfl rfl rfl) fun a S => ?_
 refine gm S fun a S => ?_
 refine' wl_and 3 6 rfl S H rfl rfl rfl rfl rfl rfl rfl (fun _ S => (wn rfl)) (fun h1 kk => ?yh1) (fun a w S H => ?_)
 case yh1 =>
  have h1p := h1; try simp only [DL] at h1p
  refine gz 6 h1 S rfl rfl rfl rfl rfl rfl (y_move rfl S rfl) fun a S => ?_
  refine wl_of (op_call (wg' 6 rfl rfl S rfl h1 rfl) rfl rfl S (co_func rfl Tryz.call140 S rfl) (trim_spec t _ _ hs (by decide) (by decide)) fun v w hc a S => ?_)
  obtain ⟨rfl, he⟩ := hc
  have H := H.ext he
  refine gz 6 h1 S rfl rfl rfl rfl rfl rfl (y_eqs rfl Tryz.underlying9 S rfl rfl) fun a S => ?_
  refine gy rfl rfl rfl S (y_and' rfl h1 S rfl rfl) fun a S => ?_
  exact kk _ _ (S.join 4 10 rfl rfl) H
 refine ga S fun a S => ?_
 refine gnt ?_
 have S := S.nil.cons S 2 rfl
 refine g_ret ?_
 refine ret1 rfl S rfl ?_
 refine ⟨congrArg Value.bool ?_, H.toExt⟩
 rw [trim_nil]
 unfold isD
 have e : (((t.size : Int)) == 16) = decide (t.size = 16) := by rw [Bool.eq_iff_iff]; simp; omega
 rw [e]; rfl
set_option maxHeartbeats 1000000 in
/-- foyer/sign.digits -/
theorem digits_spec (m : ByteArray) (w0 : World) (hT : Tabs w0) (hs : m.size ≤ 9223372036854775807) :
    Ret Tryz.prog 119 #[.string m] w0 (fun u w => u = .agg (digV m).toArray ∧ Ext w0 w) := by
 refine ret_of_wp (nt := 36) Tryz.func119 rfl rfl rfl (fl := [(0, .string m)]) rfl (fun a S => ?_)
 have H := HSat.start w0
 have H := H.ro0 (TabsA) rfl (hT)
 have hlen := sumS_len m
 refine gsr ?_
 refine wl_of (op_alloc (wn rfl) rfl rfl rfl S H Fzer184 fun b2 a w S H => ?_)
 refine gnt ?_
 refine gsr ?_
 refine wl_of (op_alloc (wn rfl) rfl rfl rfl S H Fzer184 fun b3 a w S H => ?_)
 refine gnt ?_
 refine gsr ?_
 refine ga S fun a S => ?_
 refine gnt ?_
 refine g_seq ?_
 refine gsr ?_
 refine gm S fun a S => ?_
 refine wl_of (op_call (wn rfl) rfl rfl S (co_func rfl Tryz.call65 S rfl) (sum_t _ _ H.tabs (by first | assumption | omega)) fun v w hc a S => ?_)
 obtain ⟨rfl, he⟩ := hc
 have H := H.ext he
 refine wl_of (op_strBytes (wn rfl) rfl rfl rfl Tryz.underlying9 Tryz.underlying126 Tryz.underlying5 S H rfl (by rw [sumS_size]; decide) fun v9 a w S H => ?_)
 refine gy rfl rfl rfl S (y_lens rfl Tryz.underlying126 S H rfl) fun a S => ?_
 refine gm S fun a S => ?_
 refine gnt ?_
 refine g_block ?_
 have H : HSat No w0 [Sl v9 1 encB (sumS m).data.toList, Cel b3 184 (digC (sumN m.data.toList) 0), Cel b2 184 (digC 0 0), TabsA] w := H
 have SU := (((S.nil.cons S 2 rfl).cons S 3 rfl).cons S 9 rfl).cons S 10 rfl
 refine loopW (X := Nat) SU (fun k => [(11, .int .i64 (k : Int)), (4, .int .i64 (restL (sumN m.data.toList) k : Int))]) (fun k w => k ≤ 16 ∧ HSat No w0 [Cel b3 184 (digC (sumN m.data.toList) k), Cel b2 184 (digC 0 0), Sl v9 1 encB (sumS m).data.toList] w) (fun k => 16 - k) 0 ((S.nil.cons S 4 rfl).cons S 11 rfl) (⟨by omega, H.take [Cel b3 184 (digC (sumN m.data.toList) 0), Cel b2 184 (digC 0 0), Sl v9 1 encB (sumS m).data.toList]⟩) (fun k a w S hW => ?_)
 simp only [List.cons_append, List.nil_append] at S
 obtain ⟨hk, H⟩ := hW
 have hrl := restL_le (sumN m.data.toList) k hk
 have hdl := digL_lt (sumN m.data.toList) k
 refine gsr ?_
 refine gy rfl rfl rfl S (y_bin rfl S rfl rfl rfl) fun a S => ?_
 refine gnt ?_
 refine g_seq ?_
 refine c_if S rfl (fun h1 => ?_) (fun h1 => ?_)
 ·have h1p := h1; try simp only [DL] at h1p
  have hk16 : k < 16 := by omega
  refine g_skip ?_
  refine n_then ?_
  refine g_seq ?_
  refine g_block ?_
  refine gsr ?_
  refine gm S fun a S => ?_
  refine gy rfl rfl rfl S (y_iaddrn rfl Tryz.underlying126 Fsiz5 S H rfl rfl (by first | assumption | omega | (simp only [LL]; omega))) fun a S => ?_
  refine gy rfl rfl rfl S ((y_loads v9 rfl Fsca5 S H rfl (by omega) rfl)) fun a S => ?_
  rw [sumS_at m k (by omega)] at S
  refine ga S fun a S => ?_
  refine ga S fun a S => ?_
  refine gnt ?_
  have S := (((((((S.nil.cons S 2 rfl).cons S 3 rfl).cons S 9 rfl).cons S 10 rfl).cons S 4 rfl).cons S 11 rfl).cons S 5 rfl).cons S 6 rfl
  refine gsr ?_
  refine gm S fun a S => ?_
  refine gy rfl rfl rfl S (y_bin rfl S rfl rfl rfl) fun a S => ?_
  refine gnt ?_
  refine c_if S rfl (fun h2 => ?_) (fun h2 => ?_)
  ·have h2p := h2; try simp only [DL] at h2p
   refine gsr ?_
   refine gm S fun a S => ?_
   refine gm S fun a S => ?_
   refine wl_of (op_call (wn rfl) rfl rfl S (co_func rfl Tryz.call152 S rfl) (idx_spec _ (digL_lt _ _) _) fun v w hc a S => ?_)
   obtain ⟨rfl, he⟩ := hc
   have H := H.ext he
   refine gy rfl rfl rfl S (y_iaddra rfl Tryz.underlying184 Fsiz3 S rfl rfl (by omega)) fun a S => ?_
   refine wl_of (op_store (wn rfl) rfl rfl S H rfl rfl rfl Fsiz3 (by rw [digC_len]; simp; omega) fun a w S H => ?_)
   simp only [Int.toNat_natCast, Nat.zero_add, Nat.mul_one] at H
   rw [digC_set (sumN m.data.toList) k hk16] at H
   refine gnt ?_
   have S := ((((((S.nil.cons S 2 rfl).cons S 3 rfl).cons S 9 rfl).cons S 10 rfl).cons S 4 rfl).cons S 11 rfl).cons S 5 rfl
   refine g_region ?_
   refine gm S fun a S => ?_
   refine gm S fun a S => ?_
   refine gy rfl rfl rfl S (y_iaddra rfl Tryz.underlying184 Fsiz3 S rfl rfl (by omega)) fun a S => ?_
   refine gy rfl rfl rfl S ((y_load (v := .int .i64 ((digL (sumN m.data.toList)).getD k 0 : Int)) rfl Fsca3 S H rfl (by have h := digC_get (sumN m.data.toList) k hk16; simpa only [Int.toNat_natCast, Nat.zero_add, Nat.mul_one] using h))) fun a S => ?_
   refine gy rfl rfl rfl S (y_sub rfl S rfl rfl (by omega)) fun a S => ?_
   refine gy rfl rfl rfl S (y_add rfl S rfl rfl (by omega)) fun a S => ?_
   rw [show ((restL (sumN m.data.toList) k : Int) + (15 - ((digL (sumN m.data.toList)).getD k 0 : Int))) = ((restL (sumN m.data.toList) (k + 1) : Nat) : Int) from by rw [restL_s _ _ hk16]; omega] at S
   refine ga S fun a S => ?_
   refine gl_nil ?_
   refine n_block ?_
   refine n_then ?_
   have S := (((((S.nil.cons S 2 rfl).cons S 3 rfl).cons S 9 rfl).cons S 10 rfl).cons S 11 rfl).cons S 4 rfl
   refine g_region ?_
   refine gy rfl rfl rfl S (y_add rfl S rfl rfl (by omega)) fun a S => ?_
   refine gm S fun a S => ?_
   refine gnt ?_
   exact ⟨k + 1, (S.nil.cons S 4 rfl).cons S 11 rfl, (by have S := S; exact (((S.nil.cons S 2 rfl).cons S 3 rfl).cons S 9 rfl).cons S 10 rfl), ⟨by omega, H⟩, by omega⟩
  ·have h2p := h2; try simp only [DL] at h2p
   all_goals (
     exfalso; omega)
 ·have h1p := h1; try simp only [DL] at h1p
  obtain rfl : k = 16 := by omega
  refine g_exit ?_
  refine x_then (x_then (x_eq ?_))
  refine n_then ?_
  have S := ((S.nil.cons S 2 rfl).cons S 3 rfl).cons S 4 rfl
  refine gsr ?_
  refine gm S fun a S => ?_
  refine gy rfl rfl rfl S (y_quon rfl S rfl rfl (by omega) (by omega) (by omega)) fun a S => ?_
  refine gm S fun a S => ?_
  refine gy rfl rfl rfl S (y_remn rfl S rfl rfl (by omega) (by omega)) fun a S => ?_
  refine gy rfl rfl rfl S (y_iaddra rfl Tryz.underlying184 Fsiz3 S rfl rfl (by omega)) fun a S => ?_
  refine wl_of (op_store (wn rfl) rfl rfl S H rfl rfl rfl Fsiz3 (by rw [digC_len]; rfl) fun a w S H => ?_)
  refine gy rfl rfl rfl S (y_iaddra rfl Tryz.underlying184 Fsiz3 S rfl rfl (by omega)) fun a S => ?_
  refine wl_of (op_store (wn rfl) rfl rfl S H rfl rfl rfl Fsiz3 (by rw [List.length_set, digC_len]; rfl) fun a w S H => ?_)
  have e : ((digC (sumN m.data.toList) 16).set 16 (.int .i64 ((restL (sumN m.data.toList) 16 : Int) / 16))).set 17 (.int .i64 ((restL (sumN m.data.toList) 16 : Int) % 16)) = digV m := digV_fin m (sumN m.data.toList) (restL (sumN m.data.toList) 16 / 16) (restL (sumN m.data.toList) 16 % 16) rfl rfl rfl
  change HSat _ _ (Cel b3 184 (((digC (sumN m.data.toList) 16).set 16 (.int .i64 ((restL (sumN m.data.toList) 16 : Int) / 16))).set 17 (.int .i64 ((restL (sumN m.data.toList) 16 : Int) % 16))) :: _) w at H
  rw [e] at H
  refine gnt ?_
  have S := (S.nil.cons S 2 rfl).cons S 3 rfl
  refine gsr ?_
  refine gy rfl rfl rfl S ((y_load0 rfl S H rfl (by rw [digV_len]; exact Fagg184))) fun a S => ?_
  refine wl_of (op_storea (wn rfl) rfl rfl S H rfl rfl (digV_one m) (by rw [digV_len]; exact Fsiz184) (by rw [digV_len]; rfl) (cs' := digV m) (by simp [digV_len, digC_len]) fun a w S H => ?_)
  refine gnt ?_
  refine g_ret ?_
  refine retc rfl S H rfl (by exact Fagg184) ?_
  exact ⟨rfl, H.toExt⟩
end Go.Proofs.YtienaifmlhcijaaGreatDoor
end
section
namespace Go.Proofs.YtienaifmlhcijaaGreatDoor
open Go Go.Gw
set_option linter.unusedVariables false
set_option linter.unusedSimpArgs false
set_option maxHeartbeats 1000000 in
/-- foyer/sign.Verify -/
theorem verify_spec (pub m : ByteArray) (v : Value) (xs : List ByteArray) (w0 : World) (hT : Tabs w0) (hm : m.size ≤ 1000000) (hx : ∀ x ∈ xs, x.size ≤ 1000) (hv : IsSl w0 v 1 encS xs) :
    Ret Tryz.prog 78 #[.string pub, .string m, v] w0 (fun u w => u = .bool (verB pub m xs) ∧ Ext w0 w) := by
 refine ret_of_wp (nt := 40) Tryz.func78 rfl rfl rfl (fl := [(0, .string pub), (1, .string m), (2, v)]) rfl (fun a S => ?_)
 have H := HSat.start w0
 have H := H.ro0 (TabsA) rfl (hT)
 have H := H.ro0 (Sl v 1 encS xs) rfl (hv)
 have hlen := hv.len
 refine gsr ?_
 refine ga S fun a S => ?_
 refine gnt ?_
 refine g_seq ?_
 refine gsr ?_
 refine gm S fun a S => ?_
 refine gy rfl rfl rfl S (y_lens rfl Tryz.underlying93 S H rfl) fun a S => ?_
 refine gy rfl rfl rfl S (y_bin rfl S rfl rfl rfl) fun a S => ?_
 refine gnt ?_
 refine c_if S rfl (fun h1 => ?_) (fun h1 => ?_)
 ·have h1p := h1; try simp only [DL] at h1p
  have hno : xs.length ≠ 18 := by omega
  refine gsr ?_
  refine ga S fun a S => ?_
  refine gnt ?_
  have S := (((S.nil.cons S 2 rfl).cons S 1 rfl).cons S 0 rfl).cons S 6 rfl
  refine g_ret ?_
  refine r_then (ret1 rfl S rfl ?_)
  refine ⟨congrArg Value.bool ?_, H.toExt⟩
  unfold verB; rw [decide_eq_false hno]; rfl
 ·have h1p := h1; try simp only [DL] at h1p
  have h18 : xs.length = 18 := by omega
  refine g_skip ?_
  refine n_then ?_
  refine gsr ?_
  refine gm S fun a S => ?_
  refine wl_of (op_call (wn rfl) rfl rfl S (co_func rfl Tryz.call119 S rfl) (digits_spec _ _ H.tabs (by first | assumption | omega)) fun v w hc a S => ?_)
  obtain ⟨rfl, he⟩ := hc
  have H := H.ext he
  refine wl_of (op_alloc (wn rfl) rfl rfl rfl S H Fzer184 fun b7 a w S H => ?_)
  refine wl_of (op_storea (wn rfl) rfl rfl S H rfl rfl (digV_one m) (by rw [digV_len]; exact Fsiz184) (by rw [digV_len]; rfl) (cs' := digV m) (by simp [digV_len]) fun a w S H => ?_)
  refine gnt ?_
  have S := (((S.nil.cons S 2 rfl).cons S 0 rfl).cons S 6 rfl).cons S 7 rfl
  refine gsr ?_
  refine ga S fun a S => ?_
  refine gnt ?_
  refine g_seq ?_
  refine gsr ?_
  refine gm S fun a S => ?_
  refine gy rfl rfl rfl S (y_lens rfl Tryz.underlying93 S H rfl) fun a S => ?_
  refine gm S fun a S => ?_
  refine gnt ?_
  refine g_block ?_
  have SU := (((S.nil.cons S 0 rfl).cons S 7 rfl).cons S 16 rfl).cons S 17 rfl
  refine loopW (X := Nat × Value) SU (fun x => [(18, .int .i64 (x.1 : Int)), (8, x.2)]) (fun x w => x.1 ≤ 18 ∧ (∀ i (h : i < xs.length), i < x.1 → isD xs[i] = true) ∧ HSat No w0 [OSl 9 x.2 1 encS (endsK m xs x.1), Cel b7 184 (digV m), Sl v 1 encS xs, TabsA] w) (fun x => 18 - x.1) (0, .slice none 0 0) ((S.nil.cons S 8 rfl).cons S 18 rfl) (⟨by simp, fun i _ h => absurd h (by simp), by have h := (H.nilO 9 1 encS).take [OSl 9 (.slice none 0 0) 1 encS [], Cel b7 184 (digV m), Sl v 1 encS xs, TabsA]; exact h⟩) (fun x a w S hW => ?_)
  simp only [List.cons_append, List.nil_append] at S
  obtain ⟨k, u⟩ := x
  obtain ⟨hk, hok, H⟩ := hW
  dsimp only at S H hk hok
  refine gsr ?_
  refine gy rfl rfl rfl S (y_bin rfl S rfl rfl rfl) fun a S => ?_
  refine gnt ?_
  refine g_seq ?_
  refine c_if S rfl (fun h2 => ?_) (fun h2 => ?_)
  ·have h2p := h2; try simp only [DL] at h2p
   have hk18 : k < 18 := by omega
   have hkx : k < xs.length := by omega
   have hsk : xs[k].size ≤ 9223372036854775807 := by have := hx xs[k] (List.getElem_mem hkx); omega
   refine g_skip ?_
   refine n_then ?_
   refine g_seq ?_
   refine g_block ?_
   refine gsr ?_
   refine gm S fun a S => ?_
   refine gy rfl rfl rfl S (y_iaddrn rfl Tryz.underlying93 Fsiz9 S H rfl rfl (by first | assumption | omega | (simp only [LL]; omega))) fun a S => ?_
   refine gy rfl rfl rfl S (y_loads _ rfl Fsca9 S H rfl (by first | assumption | omega | (simp only [LL]; omega)) rfl) fun a S => ?_
   refine ga S fun a S => ?_
   refine ga S fun a S => ?_
   refine gnt ?_
   have S := (((((((S.nil.cons S 0 rfl).cons S 7 rfl).cons S 16 rfl).cons S 17 rfl).cons S 8 rfl).cons S 18 rfl).cons S 9 rfl).cons S 10 rfl
   refine g_seq ?_
   refine gsr ?_
   refine gm S fun a S => ?_
   refine wl_of (op_call (wn rfl) rfl rfl S (co_func rfl Tryz.call107 S rfl) (is_spec _ _ hsk) fun v w hc a S => ?_)
   obtain ⟨rfl, he⟩ := hc
   have H := H.ext he
   refine gy rfl rfl rfl S (y_not rfl S rfl) fun a S => ?_
   refine gnt ?_
   refine c_if S rfl (fun h3 => ?_) (fun h3 => ?_)
   ·have h3p := h3; try simp only [DL] at h3p
    refine gsr ?_
    refine ga S fun a S => ?_
    refine gnt ?_
    refine g_ret ?_
    refine r_then (r_block (r_then (r_then (r_block (r_then (ret1 rfl S rfl ?_))))))
    refine ⟨congrArg Value.bool ?_, H.toExt⟩
    have hno : xs.all isD = false := List.all_eq_false.2 ⟨xs[k], List.getElem_mem hkx, by simpa using h3⟩
    unfold verB; rw [hno, Bool.and_false]; rfl
   ·have h3p := h3; try simp only [DL] at h3p
    refine g_skip ?_
    refine n_then ?_
    refine g_region ?_
    refine gm S fun a S => ?_
    refine gm S fun a S => ?_
    refine gm S fun a S => ?_
    refine gy rfl rfl rfl S (y_iaddra rfl Tryz.underlying184 Fsiz3 S rfl rfl (by omega)) fun a S => ?_
    refine gy rfl rfl rfl S ((y_load (v := .int .i64 ((digs m).getD k 0 : Int)) rfl Fsca3 S H rfl (by have h := digV_get m k hk18; simpa only [Int.toNat_natCast, Nat.zero_add, Nat.mul_one] using h))) fun a S => ?_
    refine gy rfl rfl rfl S ((y_subn (m := 15 - (digs m).getD k 0) rfl S rfl rfl (by have := digs_le m k; omega) (by omega))) fun a S => ?_
    refine wl_of (op_call (wn rfl) rfl rfl S (co_func rfl Tryz.call68 S rfl) (chain_t _ (15 - (digs m).getD k 0) _ H.tabs hsk (by omega)) fun v w hc a S => ?_)
    obtain ⟨rfl, he⟩ := hc
    have H := H.ext he
    refine wl_of (op_buildSlice (wn rfl) rfl rfl rfl Tryz.underlying93 Finf9 S H (idx := [0]) rfl rfl rfl (z := [.string ⟨#[]⟩]) (by kernel_rfl) (cs := [_]) rfl fun b33 a w S H => ?_)
    refine wl_of (op_append ([chainS xs[k] (15 - (digs m).getD k 0)]) (wn rfl) rfl rfl rfl Tryz.underlying93 Finf9 rfl rfl S H rfl rfl rfl rfl (by simp) (by simp [encS]) (by simp [encS, Value.oneCell']) (by simp only [List.length_cons, List.length_nil, endsK_len]; omega) (by simp only [List.length_cons, List.length_nil, endsK_len]; omega) fun u34 a w hn34 S H => ?_)
    refine ga S fun a S => ?_
    refine gl_nil ?_
    refine n_block ?_
    refine n_then ?_
    have S := (((((S.nil.cons S 0 rfl).cons S 7 rfl).cons S 16 rfl).cons S 17 rfl).cons S 18 rfl).cons S 8 rfl
    refine g_region ?_
    refine gy rfl rfl rfl S (y_add rfl S rfl rfl (by omega)) fun a S => ?_
    refine gm S fun a S => ?_
    refine gnt ?_
    rw [endsK_s m xs k hkx] at H
    exact ⟨(k + 1, u34), (S.nil.cons S 8 rfl).cons S 18 rfl, (((S.nil.cons S 0 rfl).cons S 7 rfl).cons S 16 rfl).cons S 17 rfl, ⟨by dsimp only; omega, fun i hi hik => by (by_cases hjk : i < k; exact hok i hi hjk; (obtain rfl : i = k := by dsimp only at hik; omega); simpa using h3), H.take [OSl 9 u34 1 encS (endsK m xs (k + 1)), Cel b7 184 (digV m), Sl v 1 encS xs, TabsA]⟩, by dsimp only; omega⟩
  ·have h2p := h2; try simp only [DL] at h2p
   obtain rfl : k = 18 := by omega
   have hall : xs.all isD = true := List.all_eq_true.2 fun x hx => by obtain ⟨i, hi, rfl⟩ := List.getElem_of_mem hx; exact hok i hi (by omega)
   have hjl := list_ok (xs := endsK m xs 18) (fun x hx => by have := endsK_size (m := m) (by omega) hok x hx; omega) (by rw [endsK_len]; decide)
   refine g_exit ?_
   refine x_then (x_then (x_eq ?_))
   refine n_then ?_
   have S := (S.nil.cons S 0 rfl).cons S 8 rfl
   refine gsr ?_
   refine gm S fun a S => ?_
   refine wl_of (op_call (wn rfl) rfl rfl S (co_func rfl Tryz.call34 S rfl) (list_t u (endsK m xs 18) _ H.tabs (H.sl u) hjl) fun v w hc a S => ?_)
   obtain ⟨rfl, he⟩ := hc
   have H := H.ext he
   refine gm S fun a S => ?_
   refine gy rfl rfl rfl S (y_eqs rfl Tryz.underlying9 S rfl rfl) fun a S => ?_
   refine ga S fun a S => ?_
   refine gnt ?_
   have S := S.nil.cons S 6 rfl
   refine g_ret ?_
   refine ret1 rfl S rfl ?_
   refine ⟨congrArg Value.bool ?_, H.toExt⟩
   unfold verB; rw [hall, decide_eq_true h18]; rfl
/-- foyer/sign.starts -/
theorem starts_spec (s : ByteArray) (w0 : World) :
    Ret Tryz.prog 67 #[.string s] w0 (fun u w => ∃ b1, u = .func (.func 106) #[] #[.pointer (some ⟨b1, 0, none⟩)] ∧ HSat No w0 [Cel b1 9 [.string s]] w) := by
 refine ret_of_wp (nt := 4) Tryz.func67 rfl rfl rfl (fl := [(0, .string s)]) rfl (fun a S => ?_)
 have H := HSat.start w0
 refine gsr ?_
 refine wl_of (op_box1 (wn rfl) rfl rfl rfl S H rfl rfl fun b1 a w S H => ?_)
 refine ga S fun a S => ?_
 refine gnt ?_
 refine gsr ?_
 refine gy rfl rfl rfl S (y_makeFunc rfl S rfl rfl) fun a S => ?_
 refine ga S fun a S => ?_
 refine gnt ?_
 have S := S.nil.cons S 2 rfl
 refine g_ret ?_
 refine ret1 rfl S rfl ?_
 exact ⟨_, rfl, H⟩
/-- foyer/sign.starts$1 -/
theorem starts_iter {M : Nat → Prop} {u0 : World} {Z : Type} (L : Nat → Z → List Atom) (lb b1 : Nat) (s : ByteArray) (w0 : World) (hs : s.size ≤ 1000)
    (hround : ∀ k, k < 18 → ∀ z w, HSat M u0 (Atom.ro (Cel b1 9 [.string s]) :: TabsA :: L (k) z) w → YieldRet Tryz.prog lb #[.int .i64 (k : Int), .string (startS s k)] w (fun u w' => u = .bool true ∧ ∃ z, HSat M u0 (Atom.ro (Cel b1 9 [.string s]) :: TabsA :: L (k + 1) z) w')) (h0 : ∃ z, HSat M u0 (Atom.ro (Cel b1 9 [.string s]) :: TabsA :: L (0) z) w0) :
    Ret Tryz.prog 106 #[.func (.yield lb) #[] #[], .pointer (some ⟨b1, 0, none⟩)] w0 (fun u w => ∃ z, HSat M u0 (Atom.ro (Cel b1 9 [.string s]) :: TabsA :: L (18) z) w) := by
 refine ret_of_wp (nt := 17) Tryz.func106 rfl rfl rfl (fl := [(0, .func (.yield lb) #[] #[]), (1, .pointer (some ⟨b1, 0, none⟩))]) rfl (fun a S => ?_)
 obtain ⟨z0, H⟩ := h0
 refine gsr ?_
 refine gm S fun a S => ?_
 refine gnt ?_
 refine g_block ?_
 have SU := (S.nil.cons S 1 rfl).cons S 0 rfl
 refine loopW (X := Nat) SU (fun k => [(4, .int .i64 (k : Int))]) (fun k w => k ≤ 18 ∧ ∃ z, HSat M u0 (Atom.ro (Cel b1 9 [.string s]) :: TabsA :: L (k) z) w) (fun k => 18 - k) 0 (S.nil.cons S 4 rfl) (⟨by omega, z0, H⟩) (fun k a w S hW => ?_)
 simp only [List.cons_append, List.nil_append] at S
 obtain ⟨hk, z, H⟩ := hW
 refine gsr ?_
 refine gy rfl rfl rfl S (y_bin rfl S rfl rfl rfl) fun a S => ?_
 refine gnt ?_
 refine g_seq ?_
 refine c_if S rfl (fun h1 => ?_) (fun h1 => ?_)
 ·have h1p := h1; try simp only [DL] at h1p
  refine g_skip ?_
  refine n_then ?_
  refine g_seq ?_
  refine g_block ?_
  refine gsr ?_
  refine gm S fun a S => ?_
  refine ga S fun a S => ?_
  refine gnt ?_
  refine g_seq ?_
  refine region_st (loud := [5, 7]) (tails := [7]) (free := []) [0, 1, 2, 3, 4, 5, 6, 7, 8] [] Fmo (by kernel_rfl) (by kernel_rfl) rfl H ?_
  refine m_w rfl rfl (wn rfl) rfl rfl S (fun w H => y_move rfl S rfl) fun a S => ?_
  refine m_w rfl rfl (wn rfl) rfl rfl S (fun w H => y_move rfl S rfl) fun a S => ?_
  refine m_w rfl rfl (wn rfl) rfl rfl S (fun w H => y_load rfl Fsca9 S H rfl rfl) fun a S => ?_
  refine m_w rfl rfl (wn rfl) rfl rfl S (fun w H => y_move rfl S rfl) fun a S => ?_
  refine m_c rfl rfl (wn rfl) rfl rfl S (fun w => co_func rfl Tryz.call64 S rfl) (fun w H => itoa_t (k : Int) (by omega) (by omega) _ H.tabs) fun a S => ?_
  refine m_l rfl rfl (fun w H => op_buildSlice (wn rfl) rfl rfl rfl Tryz.underlying93 Finf9 S H (idx := [0, 1]) rfl rfl rfl (z := [.string ⟨#[]⟩, .string ⟨#[]⟩]) (by kernel_rfl) (cs := [.string s, .string (itoaS (k : Int))]) rfl fun b12 a w S H => m_next H (List.sublist_cons_self _ _) ?_)
  refine m_c rfl rfl (wn rfl) rfl rfl S (fun w => co_func rfl Tryz.call34 S rfl) (fun w H => list_t _ [s, itoaS (k : Int)] _ H.tabs (H.slb b12 _ encS 1 rfl rfl (by simp [encS]) (by decide)) (list_ok (by intro x hx; simp only [List.mem_cons, List.not_mem_nil, or_false] at hx; rcases hx with rfl | rfl; exact hs; have := itoaS_size (k : Int) (by omega) (by omega); omega) (by simp))) fun a S => ?_
  refine m_l rfl rfl (fun w H => op_yield (wn rfl) rfl rfl rfl S rfl rfl (hround k (by omega) z _ H.tail) fun u w hc a S => ?_)
  obtain ⟨rfl, z2, H⟩ := hc
  refine m_tail H rfl ?_
  refine m_w rfl rfl (wn rfl) rfl rfl S (fun w H => y_not rfl S rfl) fun a S => ?_
  refine m_nil (fun w H => ?_)
  refine n_then ?_
  have S := (((S.nil.cons S 1 rfl).cons S 0 rfl).cons S 4 rfl).cons S 15 rfl
  refine c_if S rfl (fun h2 => ?_) (fun h2 => ?_)
  ·have h2p := h2; try simp only [DL] at h2p
   all_goals (
     exact absurd h2 (by simp))
  ·have h2p := h2; try simp only [DL] at h2p
   refine g_skip ?_
   refine n_block ?_
   refine n_then ?_
   refine g_region ?_
   refine gy rfl rfl rfl S (y_add rfl S rfl rfl (by omega)) fun a S => ?_
   refine gm S fun a S => ?_
   refine gnt ?_
   exact ⟨k + 1, S.nil.cons S 4 rfl, (S.nil.cons S 1 rfl).cons S 0 rfl, ⟨by omega, z2, H⟩, by omega⟩
 ·have h1p := h1; try simp only [DL] at h1p
  obtain rfl : k = 18 := by omega
  refine g_exit ?_
  refine x_then (x_then (x_eq ?_))
  refine ret0n rfl S ?_
  exact ⟨z, H⟩
set_option maxHeartbeats 1000000 in
/-- foyer/sign.walk -/
theorem walk_spec (s : ByteArray) (f : FuncId) (cap : List Value) (he : Enters Tryz.prog f) (d : Nat → Nat) (w0 : World) (hT : Tabs w0) (hs : s.size ≤ 1000) (hd : ∀ k, k < 18 → d k ≤ 15)
    (hl : ∀ k : Nat, k < 18 → ∀ w, Ext w0 w → Ret Tryz.prog f ([Value.int .i64 (k : Int)] ++ cap).toArray w (fun u w' => u = .int .i64 (d k : Int) ∧ Ext w w')) :
    Ret Tryz.prog 35 #[.string s, .func (.func f) #[] cap.toArray] w0 (fun u w => HSat No w0 [OSl 9 u 1 encS (walkK s d 18)] w) := by
 refine ret_of_wp (nt := 21) Tryz.func35 rfl rfl rfl (fl := [(0, .string s), (1, .func (.func f) #[] cap.toArray)]) rfl (fun a S => ?_)
 have H := HSat.start w0
 have H := H.ro0 (TabsA) rfl (hT)
 refine gsr ?_
 refine wl_of (op_box1 (wn rfl) rfl rfl rfl S H rfl rfl fun b3 a w S H => ?_)
 refine ga S fun a S => ?_
 refine gnt ?_
 refine gsr ?_
 refine wl_of (op_alloc (wn rfl) rfl rfl rfl S H Fzer93 fun b5 a w S H => ?_)
 refine gnt ?_
 refine g_seq ?_
 refine gsr ?_
 refine gm S fun a S => ?_
 refine wl_of (op_call (wn rfl) rfl rfl S (co_func rfl Tryz.call67 S rfl) (starts_spec s _) fun v w hc a S => ?_)
 obtain ⟨b1, rfl, H1⟩ := hc
 have H := H.call H1 (by simp [Blk])
 simp only [List.cons_append, List.nil_append] at H
 have H := (H.freeze.nilO 9 1 encS).defs0
 refine gnt ?_
 refine g_block ?_
 refine g_range (Φ := fun p l2 => p = none ∧ ∃ z, l2 = [Cel b5 93 [z], OSl 9 z 1 encS (walkK s d 18)]) S (H.take [DefsA [], Atom.ro (Cel b1 9 [.string s]), TabsA, Cel b5 93 [.slice none 0 0], OSl 9 (.slice none 0 0) 1 encS [], Cel b3 95 [.func (.func f) #[] cap.toArray]]) rfl Tryz.call106 (fun R lb w1 hrec H1 => ?_) ?_
 ·have SR := S.recd
  refine Ret.mono (starts_iter (M := No) (u0 := w0) (Z := Value) (fun k z => Blk lb (.loop R) :: DefsA [R.defers] :: Cel b5 93 [z] :: OSl 9 z 1 encS (walkK s d (k)) :: Cel b3 95 [.func (.func f) #[] cap.toArray] :: []) lb b1 s w1 hs (fun k hk z w H => ?_) ⟨.slice none 0 0, by have h := H1.take (Atom.ro (Cel b1 9 [.string s]) :: TabsA :: Blk lb (.loop R) :: DefsA [R.defers] :: Cel b5 93 [(.slice none 0 0)] :: OSl 9 (.slice none 0 0) 1 encS [] :: Cel b3 95 [.func (.func f) #[] cap.toArray] :: []); exact h⟩) ?_
  ·skip
   skip
   refine yield2 hrec SR H rfl rfl (fun a S => ?_)
   refine gsr ?_
   refine ga S fun a S => ?_
   refine gnt ?_
   have S := ((((S.nil.cons S 3 rfl).cons S 4 rfl).cons S 5 rfl).cons S 11 rfl).cons S 6 rfl
   refine g_region ?_
   refine ga S fun a S => ?_
   refine gnt ?_
   refine r_begin hrec H (fun w H => ?_)
   refine g_block ?_
   refine region_st (loud := [6, 7, 8]) (tails := [7, 8]) (free := []) [0, 1, 2, 3, 4, 5, 6, 7, 8] [] Fmo (by kernel_rfl) (by kernel_rfl) rfl H ?_
   refine m_w rfl rfl (wn rfl) rfl rfl S (fun w H => y_load rfl Fsca93 S H rfl rfl) fun a S => ?_
   refine m_w rfl rfl (wn rfl) rfl rfl S (fun w H => y_move rfl S rfl) fun a S => ?_
   refine m_w rfl rfl (wn rfl) rfl rfl S (fun w H => y_load rfl Fsca95 S H rfl rfl) fun a S => ?_
   refine m_w rfl rfl (wn rfl) rfl rfl S (fun w H => y_move rfl S rfl) fun a S => ?_
   refine m_c rfl rfl (wn rfl) rfl rfl S (fun w => co_value rfl he S rfl rfl) (fun w H => hl k hk w H.toExt) fun a S => ?_
   refine m_c rfl rfl (wn rfl) rfl rfl S (fun w => co_func rfl Tryz.call68 S rfl) (fun w H => chain_t _ (d k) _ H.tabs (by rw [show startS s k = listS _ from rfl, listS_size]; decide) (by have := hd k hk; omega)) fun a S => ?_
   refine m_l rfl rfl (fun w H => op_buildSlice (wn rfl) rfl rfl rfl Tryz.underlying93 Finf9 S H (idx := [0]) rfl rfl rfl (z := [.string ⟨#[]⟩]) (by kernel_rfl) (cs := [_]) rfl fun b18 a w S H => m_next H (List.sublist_cons_self _ _) ?_)
   refine m_l rfl rfl (fun w H => op_append ([chainS (startS s k) (d k)]) (wn rfl) rfl rfl rfl Tryz.underlying93 Finf9 rfl rfl S H rfl rfl rfl rfl (by simp) (by simp [encS]) (by simp [encS, Value.oneCell']) (by simp only [List.length_cons, List.length_nil, walkK_len]; omega) (by simp only [List.length_cons, List.length_nil, walkK_len]; omega) fun u19 a w hn19 S H => ?_)
   rw [walkK_s] at H
   refine m_tail H rfl ?_
   refine m_l rfl rfl (fun w H => op_store (wn rfl) rfl rfl S H rfl rfl (H.sl1 _) Fsiz93 rfl fun a w S H => m_tail H rfl ?_)
   dsimp only [List.set, Nat.zero_add, Nat.reduceAdd] at H
   refine m_nil (fun w H => ?_)
   refine n_block ?_
   refine r_end hrec H (fun w H => ?_)
   dsimp only [List.set] at H
   exact ⟨rfl, u19, H.take (Atom.ro (Cel b1 9 [.string s]) :: TabsA :: Blk lb (.loop R) :: DefsA [R.defers] :: Cel b5 93 [u19] :: OSl 9 u19 1 encS (walkK s d (k + 1)) :: Cel b3 95 [.func (.func f) #[] cap.toArray] :: [])⟩
  ·rintro _ w2 ⟨z, H2⟩
   exact ⟨.ready, none, _, by simp, ⟨rfl, z, rfl⟩, by rw [hrec.same]; exact H2.take [Blk lb (.loop R), DefsA [R.defers], Cel b5 93 [z], OSl 9 z 1 encS (walkK s d 18)]⟩
 ·intro bd a w pend l2 S H hΦ
  obtain ⟨rfl, z, rfl⟩ := hΦ
  refine n_block ?_
  refine n_then ?_
  have S := (S.nil.cons S 4 rfl).cons S 5 rfl
  refine gsr ?_
  refine gy rfl rfl rfl S (y_load rfl Fsca93 S H rfl rfl) fun a S => ?_
  refine ga S fun a S => ?_
  refine gnt ?_
  refine g_ret ?_
  refine ret1M rfl S H rfl (fun w H => ?_)
  exact H.take [OSl 9 z 1 encS (walkK s d 18)]
/-- foyer/sign.Public$1 -/
theorem pub1_spec (i : Int) (w0 : World) :
    Ret Tryz.prog 36 #[.int .i64 i] w0 (fun u w => u = .int .i64 ((15 : Nat) : Int) ∧ Ext w0 w) := by
 refine ret_of_wp (nt := 3) Tryz.func36 rfl rfl rfl (fl := [(0, .int .i64 i)]) rfl (fun a S => ?_)
 have H := HSat.start w0
 refine gsr ?_
 refine ga S fun a S => ?_
 refine gnt ?_
 refine gsr ?_
 refine ga S fun a S => ?_
 refine gnt ?_
 refine g_ret ?_
 refine ret1 rfl S rfl ?_
 exact ⟨rfl, H.toExt⟩
/-- foyer/sign.Public -/
theorem public_spec (s : ByteArray) (w0 : World) (hT : Tabs w0) (hs : s.size ≤ 1000) :
    Ret Tryz.prog 12 #[.string s] w0 (fun u w => u = .string (pubS s) ∧ Ext w0 w) := by
 refine ret_of_wp (nt := 6) Tryz.func12 rfl rfl rfl (fl := [(0, .string s)]) rfl (fun a S => ?_)
 have H := HSat.start w0
 have H := H.ro0 (TabsA) rfl (hT)
 refine gsr ?_
 refine ga S fun a S => ?_
 refine gnt ?_
 refine gsr ?_
 refine gm S fun a S => ?_
 refine wl_of (op_call (wn rfl) rfl rfl S (co_func rfl Tryz.call35 S rfl) (walk_spec s 36 [] Tryz.call36 (fun _ => 15) _ H.tabs hs (fun _ _ => by decide) (fun k hk w _ => pub1_spec _ _)) fun u4 w hc a S => ?_)
 have H1 := hc
 have H := H.call H1 (by simp [OSl, Blk])
 simp only [List.cons_append, List.nil_append] at H
 refine wl_of (op_call (wn rfl) rfl rfl S (co_func rfl Tryz.call34 S rfl) (list_t u4 _ _ H.tabs (H.sl u4) (list_ok (fun x hx => by have := walkK_size _ _ _ x hx; omega) (by rw [walkK_len]; decide))) fun v w hc a S => ?_)
 obtain ⟨rfl, he⟩ := hc
 have H := H.ext he
 refine ga S fun a S => ?_
 refine gnt ?_
 have S := S.nil.cons S 2 rfl
 refine g_ret ?_
 refine ret1 rfl S rfl ?_
 exact ⟨rfl, H.toExt⟩
end Go.Proofs.YtienaifmlhcijaaGreatDoor
end
section
namespace Go.Proofs.YtienaifmlhcijaaGreatDoor
open Go Go.Gw
set_option linter.unusedVariables false
set_option linter.unusedSimpArgs false
/-- foyer/title.formed$1 -/
theorem formed1_spec (s : ByteArray) (w0 : World) (hs : s.size ≤ 9223372036854775807) :
    Ret Tryz.prog 115 #[.string s] w0 (fun u w => u = .bool (!isD s) ∧ Ext w0 w) := by
 refine ret_of_wp (nt := 6) Tryz.func115 rfl rfl rfl (fl := [(0, .string s)]) rfl (fun a S => ?_)
 have H := HSat.start w0
 refine gsr ?_
 refine ga S fun a S => ?_
 refine gnt ?_
 refine gsr ?_
 refine gm S fun a S => ?_
 refine wl_of (op_call (wn rfl) rfl rfl S (co_func rfl Tryz.call107 S rfl) (is_spec _ _ (by first | assumption | omega)) fun v w hc a S => ?_)
 obtain ⟨rfl, he⟩ := hc
 have H := H.ext he
 refine gy rfl rfl rfl S (y_not rfl S rfl) fun a S => ?_
 refine ga S fun a S => ?_
 refine gnt ?_
 have S := S.nil.cons S 2 rfl
 refine g_ret ?_
 refine ret1 rfl S rfl ?_
 exact ⟨rfl, H.toExt⟩
/-- slices.IndexFunc[[]string,string] -/
theorem indexS_spec (v : Value) (xs : List ByteArray) (f : FuncId) (cap : List Value) (he : Enters Tryz.prog f) (pr : ByteArray → Bool) (w0 : World) (hv : IsSl w0 v 1 encS xs)
    (hstep : ∀ x ∈ xs, ∀ w, Ext w0 w → Ret Tryz.prog f ([Value.string x] ++ cap).toArray w (fun u w' => u = .bool (pr x) ∧ Ext w w')) :
    Ret Tryz.prog 150 #[v, .func (.func f) #[] cap.toArray] w0 (fun u w => (u = .int .i64 (-1) ∧ xs.any pr = false ∧ Ext w0 w) ∨ (∃ j : Nat, u = .int .i64 (j : Int) ∧ xs.any pr = true ∧ Ext w0 w)) := by
 refine ret_of_wp (nt := 19) Tryz.func150 rfl rfl rfl (fl := [(0, v), (1, .func (.func f) #[] cap.toArray)]) rfl (fun a S => ?_)
 have H := HSat.start w0
 have H := H.ro0 (Sl v 1 encS xs) rfl (hv)
 have hlen := hv.len
 refine gsr ?_
 refine ga S fun a S => ?_
 refine gnt ?_
 refine g_seq ?_
 refine gsr ?_
 refine gm S fun a S => ?_
 refine gy rfl rfl rfl S (y_lens rfl Tryz.underlying93 S H rfl) fun a S => ?_
 refine gm S fun a S => ?_
 refine gnt ?_
 refine g_block ?_
 have SU := ((S.nil.cons S 1 rfl).cons S 0 rfl).cons S 7 rfl
 refine loop_k (X := Nat) SU (fun k => [(8, .int .i64 (k : Int))]) (fun k => k ≤ xs.length ∧ (∀ j (h : j < xs.length), j < k → pr xs[j] = false)) (fun k => xs.length - k) 0 (S.nil.cons S 8 rfl) H (⟨by omega, fun j h hj => by omega⟩) (fun k a w S H hi => ?_)
 simp only [List.cons_append, List.nil_append] at S hi
 obtain ⟨hk, hpr⟩ := hi
 refine gsr ?_
 refine gy rfl rfl rfl S (y_bin rfl S rfl rfl rfl) fun a S => ?_
 refine gnt ?_
 refine g_seq ?_
 refine c_if S rfl (fun h1 => ?_) (fun h1 => ?_)
 ·have h1p := h1; try simp only [DL] at h1p
  refine g_skip ?_
  refine n_then ?_
  refine g_seq ?_
  refine g_block ?_
  refine gsr ?_
  refine gm S fun a S => ?_
  refine ga S fun a S => ?_
  refine gnt ?_
  refine gsr ?_
  refine gm S fun a S => ?_
  refine gm S fun a S => ?_
  refine gm S fun a S => ?_
  refine gy rfl rfl rfl S (y_iaddrn rfl Tryz.underlying93 Fsiz9 S H rfl rfl (by first | assumption | omega | (simp only [LL]; omega))) fun a S => ?_
  refine gy rfl rfl rfl S (y_loads _ rfl Fsca9 S H rfl (by first | assumption | omega | (simp only [LL]; omega)) rfl) fun a S => ?_
  refine wl_of (op_call (wn rfl) rfl rfl S (co_value rfl he S rfl rfl) (hstep _ (List.getElem_mem (by omega)) w H.toExt) fun v w hc a S => ?_)
  obtain ⟨rfl, he1⟩ := hc
  have H := H.ext he1
  refine gnt ?_
  have S := (((((S.nil.cons S 1 rfl).cons S 0 rfl).cons S 7 rfl).cons S 8 rfl).cons S 5 rfl).cons S 16 rfl
  refine c_if S rfl (fun h2 => ?_) (fun h2 => ?_)
  ·have h2p := h2; try simp only [DL] at h2p
   refine gsr ?_
   refine gm S fun a S => ?_
   refine ga S fun a S => ?_
   refine gnt ?_
   refine g_ret ?_
   refine r_block (r_then (r_then (r_block (r_then (ret1 rfl S rfl ?_)))))
   exact .inr ⟨k, rfl, List.any_eq_true.2 ⟨_, List.getElem_mem (by omega), h2⟩, H.toExt⟩
  ·have h2p := h2; try simp only [DL] at h2p
   refine g_skip ?_
   refine n_block ?_
   refine n_then ?_
   refine g_region ?_
   refine gy rfl rfl rfl S (y_add rfl S rfl rfl (by omega)) fun a S => ?_
   refine gm S fun a S => ?_
   refine gnt ?_
   refine ⟨k + 1, S.nil.cons S 8 rfl, ((S.nil.cons S 1 rfl).cons S 0 rfl).cons S 7 rfl, H, ?_, ?_⟩
   · exact ⟨by omega, fun j h hj => by by_cases hjk : j < k; exact hpr j h hjk; (obtain rfl : j = k := by omega); exact h2⟩
   · omega
 ·have h1p := h1; try simp only [DL] at h1p
  refine g_exit ?_
  refine x_then (x_then (x_eq ?_))
  refine n_then ?_
  have S := S.nil
  refine gsr ?_
  refine ga S fun a S => ?_
  refine gnt ?_
  refine g_ret ?_
  refine ret1 rfl S rfl ?_
  obtain rfl : k = xs.length := by omega
  exact .inl ⟨rfl, List.any_eq_false.2 (fun x hx => by obtain ⟨j, hj, rfl⟩ := List.getElem_of_mem hx; simp [hpr j hj hj]), H.toExt⟩
/-- slices.ContainsFunc[[]string,string] -/
theorem containsS_spec (v : Value) (xs : List ByteArray) (f : FuncId) (cap : List Value) (he : Enters Tryz.prog f) (pr : ByteArray → Bool) (w0 : World) (hv : IsSl w0 v 1 encS xs)
    (hstep : ∀ x ∈ xs, ∀ w, Ext w0 w → Ret Tryz.prog f ([Value.string x] ++ cap).toArray w (fun u w' => u = .bool (pr x) ∧ Ext w w')) :
    Ret Tryz.prog 114 #[v, .func (.func f) #[] cap.toArray] w0 (fun u w => u = .bool (xs.any pr) ∧ Ext w0 w) := by
 refine ret_of_wp (nt := 9) Tryz.func114 rfl rfl rfl (fl := [(0, v), (1, .func (.func f) #[] cap.toArray)]) rfl (fun a S => ?_)
 have H := HSat.start w0
 refine gsr ?_
 refine ga S fun a S => ?_
 refine gnt ?_
 refine gsr ?_
 refine gm S fun a S => ?_
 refine gm S fun a S => ?_
 refine wl_of (op_call (wn rfl) rfl rfl S (co_func rfl Tryz.call150 S rfl) (Ret.mono (indexS_spec v xs f cap he pr w0 hv hstep) (fun u w h => (show ∃ i : Int, u = .int .i64 i ∧ xs.any pr = decide (i ≥ 0) ∧ Ext w0 w from by rcases h with ⟨h1, h2, h3⟩ | ⟨j, h1, h2, h3⟩; exact ⟨-1, h1, by rw [h2]; rfl, h3⟩; exact ⟨j, h1, by rw [h2]; simp, h3⟩))) fun v w hc a S => ?_)
 obtain ⟨i, rfl, hany, he1⟩ := hc
 have H := H.ext he1
 refine gy rfl rfl rfl S (y_bin rfl S rfl rfl rfl) fun a S => ?_
 refine ga S fun a S => ?_
 refine gnt ?_
 have S := S.nil.cons S 4 rfl
 refine g_ret ?_
 refine ret1 rfl S rfl ?_
 exact ⟨by rw [hany], H.toExt⟩
/-- slices.IndexFunc[[]foyer/api.Transfer,foyer/api.Transfer] -/
theorem indexX_spec (v : Value) (xs : List XV) (f : FuncId) (cap : List Value) (he : Enters Tryz.prog f) (pr : XV → Bool) (w0 : World) (hv : IsSl w0 v 2 encX xs)
    (hstep : ∀ x ∈ xs, ∀ w, Ext w0 w → Ret Tryz.prog f ([Value.agg (encX x).toArray] ++ cap).toArray w (fun u w' => u = .bool (pr x) ∧ Ext w w')) :
    Ret Tryz.prog 151 #[v, .func (.func f) #[] cap.toArray] w0 (fun u w => (u = .int .i64 (-1) ∧ xs.any pr = false ∧ Ext w0 w) ∨ (∃ j : Nat, u = .int .i64 (j : Int) ∧ xs.any pr = true ∧ Ext w0 w)) := by
 refine ret_of_wp (nt := 19) Tryz.func151 rfl rfl rfl (fl := [(0, v), (1, .func (.func f) #[] cap.toArray)]) rfl (fun a S => ?_)
 have H := HSat.start w0
 have H := H.ro0 (Sl v 2 encX xs) rfl (hv)
 have hlen := hv.len
 refine gsr ?_
 refine ga S fun a S => ?_
 refine gnt ?_
 refine g_seq ?_
 refine gsr ?_
 refine gm S fun a S => ?_
 refine gy rfl rfl rfl S (y_lens rfl Tryz.underlying33 S H rfl) fun a S => ?_
 refine gm S fun a S => ?_
 refine gnt ?_
 refine g_block ?_
 have SU := ((S.nil.cons S 1 rfl).cons S 0 rfl).cons S 7 rfl
 refine loop_k (X := Nat) SU (fun k => [(8, .int .i64 (k : Int))]) (fun k => k ≤ xs.length ∧ (∀ j (h : j < xs.length), j < k → pr xs[j] = false)) (fun k => xs.length - k) 0 (S.nil.cons S 8 rfl) H (⟨by omega, fun j h hj => by omega⟩) (fun k a w S H hi => ?_)
 simp only [List.cons_append, List.nil_append] at S hi
 obtain ⟨hk, hpr⟩ := hi
 refine gsr ?_
 refine gy rfl rfl rfl S (y_bin rfl S rfl rfl rfl) fun a S => ?_
 refine gnt ?_
 refine g_seq ?_
 refine c_if S rfl (fun h1 => ?_) (fun h1 => ?_)
 ·have h1p := h1; try simp only [DL] at h1p
  refine g_skip ?_
  refine n_then ?_
  refine g_seq ?_
  refine g_block ?_
  refine gsr ?_
  refine gm S fun a S => ?_
  refine ga S fun a S => ?_
  refine gnt ?_
  refine gsr ?_
  refine gm S fun a S => ?_
  refine gm S fun a S => ?_
  refine gm S fun a S => ?_
  refine gy rfl rfl rfl S (y_iaddrn rfl Tryz.underlying33 Fsiz147 S H rfl rfl (by first | assumption | omega | (simp only [LL]; omega))) fun a S => ?_
  refine gy rfl rfl rfl S (y_loadsa _ rfl S H rfl (by exact Fagg147) (by first | assumption | omega | (simp only [LL]; omega))) fun a S => ?_
  refine wl_of (op_call (wn rfl) rfl rfl S (co_value rfl he S rfl rfl) (hstep _ (List.getElem_mem (by omega)) w H.toExt) fun v w hc a S => ?_)
  obtain ⟨rfl, he1⟩ := hc
  have H := H.ext he1
  refine gnt ?_
  have S := (((((S.nil.cons S 1 rfl).cons S 0 rfl).cons S 7 rfl).cons S 8 rfl).cons S 5 rfl).cons S 16 rfl
  refine c_if S rfl (fun h2 => ?_) (fun h2 => ?_)
  ·have h2p := h2; try simp only [DL] at h2p
   refine gsr ?_
   refine gm S fun a S => ?_
   refine ga S fun a S => ?_
   refine gnt ?_
   refine g_ret ?_
   refine r_block (r_then (r_then (r_block (r_then (ret1 rfl S rfl ?_)))))
   exact .inr ⟨k, rfl, List.any_eq_true.2 ⟨_, List.getElem_mem (by omega), h2⟩, H.toExt⟩
  ·have h2p := h2; try simp only [DL] at h2p
   refine g_skip ?_
   refine n_block ?_
   refine n_then ?_
   refine g_region ?_
   refine gy rfl rfl rfl S (y_add rfl S rfl rfl (by omega)) fun a S => ?_
   refine gm S fun a S => ?_
   refine gnt ?_
   refine ⟨k + 1, S.nil.cons S 8 rfl, ((S.nil.cons S 1 rfl).cons S 0 rfl).cons S 7 rfl, H, ?_, ?_⟩
   · exact ⟨by omega, fun j h hj => by by_cases hjk : j < k; exact hpr j h hjk; (obtain rfl : j = k := by omega); exact h2⟩
   · omega
 ·have h1p := h1; try simp only [DL] at h1p
  refine g_exit ?_
  refine x_then (x_then (x_eq ?_))
  refine n_then ?_
  have S := S.nil
  refine gsr ?_
  refine ga S fun a S => ?_
  refine gnt ?_
  refine g_ret ?_
  refine ret1 rfl S rfl ?_
  obtain rfl : k = xs.length := by omega
  exact .inl ⟨rfl, List.any_eq_false.2 (fun x hx => by obtain ⟨j, hj, rfl⟩ := List.getElem_of_mem hx; simp [hpr j hj hj]), H.toExt⟩
/-- slices.ContainsFunc[[]foyer/api.Transfer,foyer/api.Transfer] -/
theorem containsX_spec (v : Value) (xs : List XV) (f : FuncId) (cap : List Value) (he : Enters Tryz.prog f) (pr : XV → Bool) (w0 : World) (hv : IsSl w0 v 2 encX xs)
    (hstep : ∀ x ∈ xs, ∀ w, Ext w0 w → Ret Tryz.prog f ([Value.agg (encX x).toArray] ++ cap).toArray w (fun u w' => u = .bool (pr x) ∧ Ext w w')) :
    Ret Tryz.prog 117 #[v, .func (.func f) #[] cap.toArray] w0 (fun u w => u = .bool (xs.any pr) ∧ Ext w0 w) := by
 refine ret_of_wp (nt := 9) Tryz.func117 rfl rfl rfl (fl := [(0, v), (1, .func (.func f) #[] cap.toArray)]) rfl (fun a S => ?_)
 have H := HSat.start w0
 refine gsr ?_
 refine ga S fun a S => ?_
 refine gnt ?_
 refine gsr ?_
 refine gm S fun a S => ?_
 refine gm S fun a S => ?_
 refine wl_of (op_call (wn rfl) rfl rfl S (co_func rfl Tryz.call151 S rfl) (Ret.mono (indexX_spec v xs f cap he pr w0 hv hstep) (fun u w h => (show ∃ i : Int, u = .int .i64 i ∧ xs.any pr = decide (i ≥ 0) ∧ Ext w0 w from by rcases h with ⟨h1, h2, h3⟩ | ⟨j, h1, h2, h3⟩; exact ⟨-1, h1, by rw [h2]; rfl, h3⟩; exact ⟨j, h1, by rw [h2]; simp, h3⟩))) fun v w hc a S => ?_)
 obtain ⟨i, rfl, hany, he1⟩ := hc
 have H := H.ext he1
 refine gy rfl rfl rfl S (y_bin rfl S rfl rfl rfl) fun a S => ?_
 refine ga S fun a S => ?_
 refine gnt ?_
 have S := S.nil.cons S 4 rfl
 refine g_ret ?_
 refine ret1 rfl S rfl ?_
 exact ⟨by rw [hany], H.toExt⟩
set_option maxHeartbeats 1000000 in
/-- foyer/title.formed -/
theorem formed_spec (t : TV) (w0 : World) (ht : TOk w0 t) (hz : TSz t) :
    Ret Tryz.prog 75 #[.agg (encT t).toArray] w0 (fun u w => u = .bool (formedB t) ∧ Ext w0 w) := by
 refine ret_of_wp (nt := 74) Tryz.func75 rfl rfl rfl (fl := [(0, .agg (encT t).toArray)]) rfl (fun a S => ?_)
 have H := HSat.start w0
 have H := H.ro0 (Sl t.cv 2 encX t.chain) rfl (ht.sl)
 have H := H.ro0 (CapA t.cv) rfl (ht.cap)
 have H := H.ro0 (XRows t.chain) rfl (ht.rows)
 have hlen := ht.sl.len
 refine gsr ?_
 refine wl_of (op_boxa (wn rfl) rfl rfl rfl S H rfl fun b1 a w S H => ?_)
 refine ga S fun a S => ?_
 refine gnt ?_
 refine gsr ?_
 refine gy rfl rfl rfl S (y_faddrb rfl Ffo35_0 S rfl) fun a S => ?_
 refine gy rfl rfl rfl S (y_load rfl Fsca3 S H rfl rfl) fun a S => ?_
 refine gy rfl rfl rfl S (y_faddrb rfl Ffo35_1 S rfl) fun a S => ?_
 refine gy rfl rfl rfl S (y_load rfl Fsca3 S H rfl rfl) fun a S => ?_
 refine gy rfl rfl rfl S ((y_bin rfl S rfl rfl rfl)) fun a S => ?_
 refine gy rfl rfl rfl S ((y_bin rfl S rfl rfl rfl)) fun a S => ?_
 refine gy rfl rfl rfl S ((y_bin rfl S rfl rfl rfl)) fun a S => ?_
 refine ga S fun a S => ?_
 refine gnt ?_
 have S := ((S.nil.cons S 1 rfl).cons S 2 rfl).cons S 3 rfl
 refine g_seq ?_
 refine gsr ?_
 refine gy rfl rfl rfl S (y_faddrb rfl Ffo35_1 S rfl) fun a S => ?_
 refine gy rfl rfl rfl S (y_load rfl Fsca3 S H rfl rfl) fun a S => ?_
 refine gy rfl rfl rfl S (y_bin rfl S rfl rfl rfl) fun a S => ?_
 refine gm S fun a S => ?_
 refine' wl_or 3 16 rfl S H rfl rfl rfl rfl rfl rfl rfl (fun _ S => (wn rfl)) (fun h1 kk => ?yh1) (fun a w S H => ?_)
 case yh1 =>
  have h1p := h1; try simp only [DL] at h1p
  refine gz 16 h1 S rfl rfl rfl rfl rfl rfl (y_faddrb rfl Ffo35_1 S rfl) fun a S => ?_
  refine gz 16 h1 S rfl rfl rfl rfl rfl rfl (y_load rfl Fsca3 S H rfl rfl) fun a S => ?_
  refine gz 16 h1 S rfl rfl rfl rfl rfl rfl (y_bin rfl S rfl rfl rfl) fun a S => ?_
  refine gy rfl rfl rfl S (y_or' rfl h1 S rfl rfl) fun a S => ?_
  exact kk _ _ (S.join 4 20 rfl rfl) H
 refine gm S fun a S => ?_
 refine' wl_or 2 21 rfl S H rfl rfl rfl rfl rfl rfl rfl (fun _ S => (wn rfl)) (fun h2 kk => ?yh2) (fun a w S H => ?_)
 case yh2 =>
  have h2p := h2; try simp only [DL] at h2p
  refine gz 21 h2 S rfl rfl rfl rfl rfl rfl (y_move rfl S rfl) fun a S => ?_
  refine gz 21 h2 S rfl rfl rfl rfl rfl rfl (y_bin rfl S rfl rfl rfl) fun a S => ?_
  refine gy rfl rfl rfl S (y_or' rfl h2 S rfl rfl) fun a S => ?_
  exact kk _ _ (S.join 3 24 rfl rfl) H
 refine gm S fun a S => ?_
 refine' wl_or 2 25 rfl S H rfl rfl rfl rfl rfl rfl rfl (fun _ S => (wn rfl)) (fun h3 kk => ?yh3) (fun a w S H => ?_)
 case yh3 =>
  have h3p := h3; try simp only [DL] at h3p
  refine gz 25 h3 S rfl rfl rfl rfl rfl rfl (y_move rfl S rfl) fun a S => ?_
  refine gz 25 h3 S rfl rfl rfl rfl rfl rfl (y_bin rfl S rfl rfl rfl) fun a S => ?_
  refine gy rfl rfl rfl S (y_or' rfl h3 S rfl rfl) fun a S => ?_
  exact kk _ _ (S.join 3 28 rfl rfl) H
 refine gm S fun a S => ?_
 refine' wl_or 3 29 rfl S H rfl rfl rfl rfl rfl rfl rfl (fun _ S => (wn rfl)) (fun h4 kk => ?yh4) (fun a w S H => ?_)
 case yh4 =>
  have h4p := h4; try simp only [DL] at h4p
  refine gz 29 h4 S rfl rfl rfl rfl rfl rfl (y_faddrb rfl Ffo35_2 S rfl) fun a S => ?_
  refine gz 29 h4 S rfl rfl rfl rfl rfl rfl (y_load rfl Fsca3 S H rfl rfl) fun a S => ?_
  refine gz 29 h4 S rfl rfl rfl rfl rfl rfl (y_bin rfl S rfl rfl rfl) fun a S => ?_
  refine gy rfl rfl rfl S (y_or' rfl h4 S rfl rfl) fun a S => ?_
  exact kk _ _ (S.join 4 33 rfl rfl) H
 refine gm S fun a S => ?_
 refine' wl_or 3 34 rfl S H rfl rfl rfl rfl rfl rfl rfl (fun _ S => (wn rfl)) (fun h5 kk => ?yh5) (fun a w S H => ?_)
 case yh5 =>
  have h5p := h5; try simp only [DL] at h5p
  refine gz 34 h5 S rfl rfl rfl rfl rfl rfl (y_faddrb rfl Ffo35_2 S rfl) fun a S => ?_
  refine gz 34 h5 S rfl rfl rfl rfl rfl rfl (y_load rfl Fsca3 S H rfl rfl) fun a S => ?_
  refine gz 34 h5 S rfl rfl rfl rfl rfl rfl (y_bin rfl S rfl rfl rfl) fun a S => ?_
  refine gy rfl rfl rfl S (y_or' rfl h5 S rfl rfl) fun a S => ?_
  exact kk _ _ (S.join 4 38 rfl rfl) H
 refine gm S fun a S => ?_
 refine' wl_or 4 39 rfl S H rfl rfl rfl rfl rfl rfl rfl (fun _ S => (wn rfl)) (fun h6 kk => ?yh6) (fun a w S H => ?_)
 case yh6 =>
  have h6p := h6; try simp only [DL] at h6p
  refine gz 39 h6 S rfl rfl rfl rfl rfl rfl (y_faddrb rfl Ffo35_3 S rfl) fun a S => ?_
  refine gz 39 h6 S rfl rfl rfl rfl rfl rfl (y_load rfl Fsca9 S H rfl rfl) fun a S => ?_
  refine wl_of (op_call (wg' 39 rfl rfl S rfl h6 rfl) rfl rfl S (co_func rfl Tryz.call107 S rfl) (is_spec _ _ (by have := hz.first; omega)) fun v w hc a S => ?_)
  obtain ⟨rfl, he⟩ := hc
  have H := H.ext he
  refine gz 39 h6 S rfl rfl rfl rfl rfl rfl (y_not rfl S rfl) fun a S => ?_
  refine gy rfl rfl rfl S (y_or' rfl h6 S rfl rfl) fun a S => ?_
  exact kk _ _ (S.join 5 44 rfl rfl) H
 refine gm S fun a S => ?_
 refine' wl_or 4 45 rfl S H rfl rfl rfl rfl rfl rfl rfl (fun _ S => (wn rfl)) (fun h7 kk => ?yh7) (fun a w S H => ?_)
 case yh7 =>
  have h7p := h7; try simp only [DL] at h7p
  refine gz 45 h7 S rfl rfl rfl rfl rfl rfl (y_faddrb rfl Ffo35_4 S rfl) fun a S => ?_
  refine gz 45 h7 S rfl rfl rfl rfl rfl rfl (y_load rfl Fsca33 S H rfl rfl) fun a S => ?_
  refine gz 45 h7 S rfl rfl rfl rfl rfl rfl (y_lens rfl Tryz.underlying33 S H rfl) fun a S => ?_
  refine gz 45 h7 S rfl rfl rfl rfl rfl rfl (y_bin rfl S rfl rfl rfl) fun a S => ?_
  refine gy rfl rfl rfl S (y_or' rfl h7 S rfl rfl) fun a S => ?_
  exact kk _ _ (S.join 5 50 rfl rfl) H
 refine gnt ?_
 have S := ((S.nil.cons S 1 rfl).cons S 2 rfl).cons S 50 rfl
 refine c_if S rfl (fun h8 => ?_) (fun h8 => ?_)
 ·have h8p := h8; try simp only [DL] at h8p
  have hh : headB t = false := by unfold headB; simp only [Bool.not_eq_false']; exact h8
  refine gsr ?_
  refine ga S fun a S => ?_
  refine gnt ?_
  refine g_ret ?_
  refine r_then (ret1 rfl S rfl ?_)
  exact ⟨congrArg Value.bool (by unfold formedB; rw [hh]; rfl), H.toExt⟩
 ·have h8p := h8; try simp only [DL] at h8p
  have hh : headB t = true := by unfold headB; simp only [Bool.not_eq_true']; exact h8
  refine g_skip ?_
  refine n_then ?_
  refine g_seq ?_
  refine gsr ?_
  refine gy rfl rfl rfl S (y_faddrb rfl Ffo35_4 S rfl) fun a S => ?_
  refine gy rfl rfl rfl S (y_load rfl Fsca33 S H rfl rfl) fun a S => ?_
  refine gy rfl rfl rfl S (y_lens rfl Tryz.underlying33 S H rfl) fun a S => ?_
  refine gm S fun a S => ?_
  refine gnt ?_
  refine g_block ?_
  have SU := (S.nil.cons S 52 rfl).cons S 53 rfl
  refine loop_k (X := Nat) SU (fun k => [(54, .int .i64 (k : Int))]) (fun k => k ≤ t.chain.length ∧ ∀ i (h : i < t.chain.length), i < k → formX t.chain[i] = true) (fun k => t.chain.length - k) 0 (S.nil.cons S 54 rfl) H (⟨by omega, fun i _ h => absurd h (by omega)⟩) (fun k a w S H hi => ?_)
  simp only [List.cons_append, List.nil_append] at S hi
  obtain ⟨hk, hok⟩ := hi
  refine gsr ?_
  refine gy rfl rfl rfl S (y_bin rfl S rfl rfl rfl) fun a S => ?_
  refine gnt ?_
  refine g_seq ?_
  refine c_if S rfl (fun h9 => ?_) (fun h9 => ?_)
  ·have h9p := h9; try simp only [DL] at h9p
   have hkl : k < t.chain.length := by omega
   have hxk := hz.x t.chain[k] (List.getElem_mem hkl)
   have hto : t.chain[k].tw.size ≤ 9223372036854775807 := by omega
   refine g_skip ?_
   refine n_then ?_
   refine g_seq ?_
   refine g_block ?_
   refine gsr ?_
   refine gy rfl rfl rfl S (y_iaddrn rfl Tryz.underlying33 Fsiz147 S H rfl rfl (by first | assumption | omega | (simp only [LL]; omega))) fun a S => ?_
   refine gy rfl rfl rfl S (y_loadsa _ rfl S H rfl (by exact Fagg147) (by first | assumption | omega | (simp only [LL]; omega))) fun a S => ?_
   refine wl_of (op_alloc (wn rfl) rfl rfl rfl S H Fzer147 fun b5 a w S H => ?_)
   refine wl_of (op_storea (wn rfl) rfl rfl S H rfl rfl (encX_one (w := w) (H.sl1 t.chain[k].sv)) Fsiz147 rfl (cs' := [_, _]) rfl fun a w S H => ?_)
   refine gnt ?_
   refine gsr ?_
   refine gy rfl rfl rfl S (y_faddrb rfl Ffo147_1 S rfl) fun a S => ?_
   refine gy rfl rfl rfl S (y_load rfl Fsca93 S H rfl rfl) fun a S => ?_
   refine gy rfl rfl rfl S (y_lens rfl Tryz.underlying93 S H rfl) fun a S => ?_
   refine gy rfl rfl rfl S (y_bin rfl S rfl rfl rfl) fun a S => ?_
   refine gm S fun a S => ?_
   refine' wl_or 4 62 rfl S H rfl rfl rfl rfl rfl rfl rfl (fun _ S => (wn rfl)) (fun h10 kk => ?yh10) (fun a w S H => ?_)
   case yh10 =>
    have h10p := h10; try simp only [DL] at h10p
    refine gz 62 h10 S rfl rfl rfl rfl rfl rfl (y_faddrb rfl Ffo147_0 S rfl) fun a S => ?_
    refine gz 62 h10 S rfl rfl rfl rfl rfl rfl (y_load rfl Fsca9 S H rfl rfl) fun a S => ?_
    refine wl_of (op_call (wg' 62 rfl rfl S rfl h10 rfl) rfl rfl S (co_func rfl Tryz.call107 S rfl) (is_spec _ _ hto) fun v w hc a S => ?_)
    obtain ⟨rfl, he⟩ := hc
    have H := H.ext he
    refine gz 62 h10 S rfl rfl rfl rfl rfl rfl (y_not rfl S rfl) fun a S => ?_
    refine gy rfl rfl rfl S (y_or' rfl h10 S rfl rfl) fun a S => ?_
    exact kk _ _ (S.join 5 67 rfl rfl) H
   refine gm S fun a S => ?_
   refine' wl_or 3 68 rfl S H rfl rfl rfl rfl rfl rfl rfl (fun _ S => (wn rfl)) (fun h11 kk => ?yh11) (fun a w S H => ?_)
   case yh11 =>
    have h11p := h11; try simp only [DL] at h11p
    refine gz 68 h11 S rfl rfl rfl rfl rfl rfl (y_faddrb rfl Ffo147_1 S rfl) fun a S => ?_
    refine gz 68 h11 S rfl rfl rfl rfl rfl rfl (y_load rfl Fsca93 S H rfl rfl) fun a S => ?_
    refine wl_of (op_call (wg' 68 rfl rfl S rfl h11 rfl) rfl rfl S (co_func rfl Tryz.call114 S rfl) (containsS_spec _ t.chain[k].sig 115 [] Tryz.call115 (fun s => !isD s) _ (H.sl t.chain[k].sv) (fun x hx w _ => formed1_spec x w (by have := hxk.2.2 x hx; omega))) fun v w hc a S => ?_)
    obtain ⟨rfl, he⟩ := hc
    have H := H.ext he
    refine gy rfl rfl rfl S (y_or' rfl h11 S rfl rfl) fun a S => ?_
    exact kk _ _ (S.join 4 72 rfl rfl) H
   refine gnt ?_
   have S := (((S.nil.cons S 52 rfl).cons S 53 rfl).cons S 54 rfl).cons S 72 rfl
   refine c_if S rfl (fun h12 => ?_) (fun h12 => ?_)
   ·have h12p := h12; try simp only [DL] at h12p
    have hfx : formX t.chain[k] = false := by
      have e : (((t.chain[k].sig.length : Int)) != 18) = !decide (t.chain[k].sig.length = 18) := by rw [Bool.eq_iff_iff]; simp; omega
      have h := h12
      rw [e] at h
      unfold formX
      have e2 : t.chain[k].sig.any (fun s => !isD s) = !t.chain[k].sig.all isD := by rw [List.all_eq_not_any_not, Bool.not_not]
      rw [e2] at h
      generalize decide (t.chain[k].sig.length = 18) = b1 at h ⊢; generalize isD t.chain[k].tw = b2 at h ⊢; generalize t.chain[k].sig.all isD = b3 at h ⊢
      cases b1 <;> cases b2 <;> cases b3 <;> simp_all
    refine gsr ?_
    refine ga S fun a S => ?_
    refine gnt ?_
    refine g_ret ?_
    refine r_block (r_then (r_then (r_block (r_then (ret1 rfl S rfl ?_)))))
    exact ⟨congrArg Value.bool (by unfold formedB; rw [show t.chain.all formX = false from List.all_eq_false.2 ⟨_, List.getElem_mem hkl, by rw [hfx]; simp⟩, Bool.and_false]), H.toExt⟩
   ·have h12p := h12; try simp only [DL] at h12p
    have hfx : formX t.chain[k] = true := by
      have e : (((t.chain[k].sig.length : Int)) != 18) = !decide (t.chain[k].sig.length = 18) := by rw [Bool.eq_iff_iff]; simp; omega
      have h := h12
      rw [e] at h
      unfold formX
      have e2 : t.chain[k].sig.any (fun s => !isD s) = !t.chain[k].sig.all isD := by rw [List.all_eq_not_any_not, Bool.not_not]
      rw [e2] at h
      generalize decide (t.chain[k].sig.length = 18) = b1 at h ⊢; generalize isD t.chain[k].tw = b2 at h ⊢; generalize t.chain[k].sig.all isD = b3 at h ⊢
      cases b1 <;> cases b2 <;> cases b3 <;> simp_all
    refine g_skip ?_
    refine n_block ?_
    refine n_then ?_
    refine g_region ?_
    refine gy rfl rfl rfl S (y_add rfl S rfl rfl (by omega)) fun a S => ?_
    refine gm S fun a S => ?_
    refine gnt ?_
    refine ⟨k + 1, S.nil.cons S 54 rfl, (S.nil.cons S 52 rfl).cons S 53 rfl, H.drop 1, ?_, ?_⟩
    · exact ⟨by omega, fun i hi hik => by by_cases hjk : i < k; exact hok i hi hjk; (obtain rfl : i = k := by omega); exact hfx⟩
    · omega
  ·have h9p := h9; try simp only [DL] at h9p
   obtain rfl : k = t.chain.length := by omega
   refine g_exit ?_
   refine x_then (x_then (x_eq ?_))
   refine n_then ?_
   have S := S.nil
   refine gsr ?_
   refine ga S fun a S => ?_
   refine gnt ?_
   refine g_ret ?_
   refine ret1 rfl S rfl ?_
   exact ⟨congrArg Value.bool (by unfold formedB; rw [hh, show t.chain.all formX = true from List.all_eq_true.2 fun x hx => by obtain ⟨i, hi, rfl⟩ := List.getElem_of_mem hx; exact hok i hi hi]; rfl), H.toExt⟩
/-- foyer/title.Owner -/
theorem owner_spec (t : TV) (w0 : World) (ht : TOk w0 t) :
    Ret Tryz.prog 52 #[.agg (encT t).toArray] w0 (fun u w => u = .string (ownerS t) ∧ Ext w0 w) := by
 refine ret_of_wp (nt := 18) Tryz.func52 rfl rfl rfl (fl := [(0, .agg (encT t).toArray)]) rfl (fun a S => ?_)
 have H := HSat.start w0
 have H := H.ro0 (Sl t.cv 2 encX t.chain) rfl (ht.sl)
 have H := H.ro0 (CapA t.cv) rfl (ht.cap)
 have H := H.ro0 (XRows t.chain) rfl (ht.rows)
 have hlen := ht.sl.len
 refine gsr ?_
 refine wl_of (op_boxa (wn rfl) rfl rfl rfl S H rfl fun b1 a w S H => ?_)
 refine ga S fun a S => ?_
 refine gnt ?_
 refine g_seq ?_
 refine gsr ?_
 refine gy rfl rfl rfl S (y_faddrb rfl Ffo35_4 S rfl) fun a S => ?_
 refine gy rfl rfl rfl S (y_load rfl Fsca33 S H rfl rfl) fun a S => ?_
 refine gy rfl rfl rfl S (y_lens rfl Tryz.underlying33 S H rfl) fun a S => ?_
 refine ga S fun a S => ?_
 refine gnt ?_
 have S := ((S.nil.cons S 1 rfl).cons S 2 rfl).cons S 3 rfl
 refine gsr ?_
 refine gm S fun a S => ?_
 refine gy rfl rfl rfl S (y_bin rfl S rfl rfl rfl) fun a S => ?_
 refine gnt ?_
 refine c_if S rfl (fun h1 => ?_) (fun h1 => ?_)
 ·have h1p := h1; try simp only [DL] at h1p
  refine gsr ?_
  refine gy rfl rfl rfl S (y_faddrb rfl Ffo35_4 S rfl) fun a S => ?_
  refine gy rfl rfl rfl S (y_load rfl Fsca33 S H rfl rfl) fun a S => ?_
  refine gm S fun a S => ?_
  refine gy rfl rfl rfl S ((y_subn (m := t.chain.length - 1) rfl S rfl rfl (by omega) (by omega))) fun a S => ?_
  refine gy rfl rfl rfl S (y_iaddrn rfl Tryz.underlying33 Fsiz147 S H rfl rfl (by first | assumption | omega | (simp only [LL]; omega))) fun a S => ?_
  refine gy rfl rfl rfl S (y_faddr rfl Ffo147_0 S rfl) fun a S => ?_
  refine gy rfl rfl rfl S (y_loadsf _ rfl Fsca9 S H rfl (by first | assumption | omega | (simp only [LL]; omega)) rfl) fun a S => ?_
  refine ga S fun a S => ?_
  refine gnt ?_
  have S := (S.nil.cons S 1 rfl).cons S 2 rfl
  refine g_ret ?_
  refine r_then (ret1 rfl S rfl ?_)
  exact ⟨by rw [ownerS_some (by omega)], H.toExt⟩
 ·have h1p := h1; try simp only [DL] at h1p
  refine g_skip ?_
  refine n_then ?_
  refine gsr ?_
  refine gy rfl rfl rfl S (y_faddrb rfl Ffo35_3 S rfl) fun a S => ?_
  refine gy rfl rfl rfl S (y_load rfl Fsca9 S H rfl rfl) fun a S => ?_
  refine ga S fun a S => ?_
  refine gnt ?_
  have S := S.nil.cons S 2 rfl
  refine g_ret ?_
  refine ret1 rfl S rfl ?_
  exact ⟨by rw [ownerS_none (by omega)], H.toExt⟩
/-- foyer/title.used$1 -/
theorem used1_spec (x : XV) (b : Nat) (key : ByteArray) (w0 : World) (hb : w0.heap[b]? = some (.cells [Value.string key].toArray 9 (0, 0))) :
    Ret Tryz.prog 118 #[.agg (encX x).toArray, .pointer (some ⟨b, 0, none⟩)] w0 (fun u w => u = .bool (decide (x.tw = key)) ∧ Ext w0 w) := by
 refine ret_of_wp (nt := 8) Tryz.func118 rfl rfl rfl (fl := [(0, .agg (encX x).toArray), (1, .pointer (some ⟨b, 0, none⟩))]) rfl (fun a S => ?_)
 have H := HSat.start w0
 have H := H.ro0 (Atom.ro (Cel b 9 [.string key])) rfl (hb)
 refine gsr ?_
 refine wl_of (op_boxa (wn rfl) rfl rfl rfl S H rfl fun b2 a w S H => ?_)
 refine ga S fun a S => ?_
 refine gnt ?_
 refine gsr ?_
 refine gy rfl rfl rfl S (y_faddrb rfl Ffo147_0 S rfl) fun a S => ?_
 refine gy rfl rfl rfl S (y_load rfl Fsca9 S H rfl rfl) fun a S => ?_
 refine gy rfl rfl rfl S (y_load rfl Fsca9 S H rfl rfl) fun a S => ?_
 refine gy rfl rfl rfl S (y_eqs rfl Tryz.underlying9 S rfl rfl) fun a S => ?_
 refine ga S fun a S => ?_
 refine gnt ?_
 have S := S.nil.cons S 3 rfl
 refine g_ret ?_
 refine ret1 rfl S rfl ?_
 exact ⟨rfl, H.toExt⟩
/-- foyer/title.used -/
theorem used_spec (t : TV) (key : ByteArray) (w0 : World) (ht : TOk w0 t) :
    Ret Tryz.prog 77 #[.agg (encT t).toArray, .string key] w0 (fun u w => u = .bool (usedB t key) ∧ Ext w0 w) := by
 refine ret_of_wp (nt := 15) Tryz.func77 rfl rfl rfl (fl := [(0, .agg (encT t).toArray), (1, .string key)]) rfl (fun a S => ?_)
 have H := HSat.start w0
 have H := H.ro0 (Sl t.cv 2 encX t.chain) rfl (ht.sl)
 have H := H.ro0 (CapA t.cv) rfl (ht.cap)
 have H := H.ro0 (XRows t.chain) rfl (ht.rows)
 have hlen := ht.sl.len
 refine gsr ?_
 refine wl_of (op_boxa (wn rfl) rfl rfl rfl S H rfl fun b2 a w S H => ?_)
 refine wl_of (op_box1 (wn rfl) rfl rfl rfl S H rfl rfl fun b3 a w S H => ?_)
 refine ga S fun a S => ?_
 refine gnt ?_
 refine gsr ?_
 refine gy rfl rfl rfl S (y_faddrb rfl Ffo35_3 S rfl) fun a S => ?_
 refine gy rfl rfl rfl S (y_load rfl Fsca9 S H rfl rfl) fun a S => ?_
 refine gy rfl rfl rfl S (y_load rfl Fsca9 S H rfl rfl) fun a S => ?_
 refine gy rfl rfl rfl S (y_eqs rfl Tryz.underlying9 S rfl rfl) fun a S => ?_
 refine gm S fun a S => ?_
 refine' wl_or 4 9 rfl S H rfl rfl rfl rfl rfl rfl rfl (fun _ S => (wn rfl)) (fun h1 kk => ?yh1) (fun a w S H => ?_)
 case yh1 =>
  have h1p := h1; try simp only [DL] at h1p
  refine gz 9 h1 S rfl rfl rfl rfl rfl rfl (y_faddrb rfl Ffo35_4 S rfl) fun a S => ?_
  refine gz 9 h1 S rfl rfl rfl rfl rfl rfl (y_load rfl Fsca33 S H rfl rfl) fun a S => ?_
  refine gz 9 h1 S rfl rfl rfl rfl rfl rfl (y_makeFunc rfl S rfl rfl) fun a S => ?_
  refine wl_of (op_call (wg' 9 rfl rfl S rfl h1 rfl) rfl rfl S (co_func rfl Tryz.call117 S rfl) (containsX_spec _ t.chain 118 [.pointer (some ⟨b3, 0, none⟩)] Tryz.call118 (fun x => decide (x.tw = key)) _ (H.sl t.cv) (fun x hx w e => used1_spec x b3 key w ((e.block (Array.getElem?_eq_some_iff.1 (H.rd b3)).1).trans (H.rd b3)))) fun v w hc a S => ?_)
  obtain ⟨rfl, he⟩ := hc
  have H := H.ext he
  refine gy rfl rfl rfl S (y_or' rfl h1 S rfl rfl) fun a S => ?_
  exact kk _ _ (S.join 5 14 rfl rfl) H
 refine ga S fun a S => ?_
 refine gnt ?_
 have S := S.nil.cons S 4 rfl
 refine g_ret ?_
 refine ret1 rfl S rfl ?_
 exact ⟨rfl, H.toExt⟩
set_option maxHeartbeats 1000000 in
/-- foyer/title.Message -/
theorem message_spec (t : TV) (tw : ByteArray) (w0 : World) (ht : TOk w0 t) (hz : TSz t) (hto : tw.size ≤ 1000) (hT : Tabs w0) :
    Ret Tryz.prog 79 #[.agg (encT t).toArray, .string tw] w0 (fun u w => u = .string (msgS t tw) ∧ Ext w0 w) := by
 refine ret_of_wp (nt := 35) Tryz.func79 rfl rfl rfl (fl := [(0, .agg (encT t).toArray), (1, .string tw)]) rfl (fun a S => ?_)
 have H := HSat.start w0
 have H := H.ro0 (TabsA) rfl (hT)
 have H := H.ro0 (Sl t.cv 2 encX t.chain) rfl (ht.sl)
 have H := H.ro0 (CapA t.cv) rfl (ht.cap)
 have H := H.ro0 (XRows t.chain) rfl (ht.rows)
 have hlen := ht.sl.len
 refine gsr ?_
 refine wl_of (op_boxa (wn rfl) rfl rfl rfl S H rfl fun b2 a w S H => ?_)
 refine ga S fun a S => ?_
 refine gnt ?_
 refine g_seq ?_
 refine region_st (loud := [8]) (tails := []) (free := []) [0, 1, 2, 3, 4, 5, 6, 7, 8, 9] [] Fmo (by kernel_rfl) (by kernel_rfl) rfl H ?_
 refine m_w rfl rfl (wn rfl) rfl rfl S (fun w H => y_faddrb rfl Ffo35_0 S rfl) fun a S => ?_
 refine m_w rfl rfl (wn rfl) rfl rfl S (fun w H => y_load rfl Fsca3 S H rfl rfl) fun a S => ?_
 refine m_c rfl rfl (wn rfl) rfl rfl S (fun w => co_func rfl Tryz.call64 S rfl) (fun w H => itoa_t t.serial hz.s0.1 hz.s0.2 _ H.tabs) fun a S => ?_
 refine m_w rfl rfl (wn rfl) rfl rfl S (fun w H => y_faddrb rfl Ffo35_1 S rfl) fun a S => ?_
 refine m_w rfl rfl (wn rfl) rfl rfl S (fun w H => y_load rfl Fsca3 S H rfl rfl) fun a S => ?_
 refine m_c rfl rfl (wn rfl) rfl rfl S (fun w => co_func rfl Tryz.call64 S rfl) (fun w H => itoa_t t.show_ hz.s1.1 hz.s1.2 _ H.tabs) fun a S => ?_
 refine m_w rfl rfl (wn rfl) rfl rfl S (fun w H => y_faddrb rfl Ffo35_3 S rfl) fun a S => ?_
 refine m_w rfl rfl (wn rfl) rfl rfl S (fun w H => y_load rfl Fsca9 S H rfl rfl) fun a S => ?_
 refine m_l rfl rfl (fun w H => op_buildSlice (wn rfl) rfl rfl rfl Tryz.underlying93 Finf9 S H (idx := [0, 1, 2]) rfl rfl rfl (z := [.string ⟨#[]⟩, .string ⟨#[]⟩, .string ⟨#[]⟩]) (by kernel_rfl) (cs := [.string (itoaS t.serial), .string (itoaS t.show_), .string t.first]) rfl fun b16 a w S H => m_next H (List.sublist_cons_self _ _) ?_)
 refine m_w rfl rfl (wn rfl) rfl rfl S (fun w H => y_assign rfl S rfl) fun a S => ?_
 refine m_nil (fun w H => ?_)
 refine n_then ?_
 have S := (((S.nil.cons S 1 rfl).cons S 2 rfl).cons S 4 rfl).cons S 5 rfl
 refine g_seq ?_
 refine gsr ?_
 refine gy rfl rfl rfl S (y_faddrb rfl Ffo35_4 S rfl) fun a S => ?_
 refine gy rfl rfl rfl S (y_load rfl Fsca33 S H rfl rfl) fun a S => ?_
 refine gy rfl rfl rfl S (y_lens rfl Tryz.underlying33 S H rfl) fun a S => ?_
 refine gm S fun a S => ?_
 refine gnt ?_
 refine g_block ?_
 have H := ((H.take [Cel b16 9 [.string (itoaS t.serial), .string (itoaS t.show_), .string t.first], Cel b2 35 (encT t), Sl t.cv 2 encX t.chain, CapA t.cv, XRows t.chain, TabsA]).celO [itoaS t.serial, itoaS t.show_, t.first] encS 1 (m := 3) rfl (by intro x _; rfl) rfl (by omega)).take [OSl 9 (.slice (some ⟨b16, 0, none⟩) 3 3) 1 encS [itoaS t.serial, itoaS t.show_, t.first], Cel b2 35 (encT t), Sl t.cv 2 encX t.chain, CapA t.cv, XRows t.chain, TabsA]
 have SU := (((S.nil.cons S 1 rfl).cons S 4 rfl).cons S 18 rfl).cons S 19 rfl
 refine loopW (X := Nat × Value) SU (fun x => [(20, .int .i64 (x.1 : Int)), (5, x.2)]) (fun x w => x.1 ≤ t.chain.length ∧ HSat No w0 [OSl 9 x.2 1 encS ([itoaS t.serial, itoaS t.show_, t.first] ++ (t.chain.take (x.1)).map (·.tw)), Cel b2 35 (encT t), Sl t.cv 2 encX t.chain, CapA t.cv, XRows t.chain, TabsA] w) (fun x => t.chain.length - x.1) (0, .slice (some ⟨b16, 0, none⟩) 3 3) ((S.nil.cons S 5 rfl).cons S 20 rfl) (⟨by simp, H⟩) (fun x a w S hW => ?_)
 simp only [List.cons_append, List.nil_append] at S
 obtain ⟨k, u⟩ := x
 obtain ⟨hk, H⟩ := hW
 dsimp only at S H hk
 refine gsr ?_
 refine gy rfl rfl rfl S (y_bin rfl S rfl rfl rfl) fun a S => ?_
 refine gnt ?_
 refine g_seq ?_
 refine c_if S rfl (fun h1 => ?_) (fun h1 => ?_)
 ·have h1p := h1; try simp only [DL] at h1p
  refine g_skip ?_
  refine n_then ?_
  refine g_seq ?_
  refine g_block ?_
  refine gsr ?_
  refine gy rfl rfl rfl S (y_iaddrn rfl Tryz.underlying33 Fsiz147 S H rfl rfl (by first | assumption | omega | (simp only [LL]; omega))) fun a S => ?_
  refine gy rfl rfl rfl S (y_loadsa _ rfl S H rfl (by exact Fagg147) (by first | assumption | omega | (simp only [LL]; omega))) fun a S => ?_
  refine wl_of (op_alloc (wn rfl) rfl rfl rfl S H Fzer147 fun b7 a w S H => ?_)
  refine wl_of (op_storea (wn rfl) rfl rfl S H rfl rfl (encX_one (w := w) (H.sl1 t.chain[k].sv)) Fsiz147 rfl (cs' := [_, _]) rfl fun a w S H => ?_)
  refine gnt ?_
  refine g_region ?_
  refine gm S fun a S => ?_
  refine gy rfl rfl rfl S (y_faddrb rfl Ffo147_0 S rfl) fun a S => ?_
  refine gy rfl rfl rfl S (y_load rfl Fsca9 S H rfl rfl) fun a S => ?_
  refine wl_of (op_buildSlice (wn rfl) rfl rfl rfl Tryz.underlying93 Finf9 S H (idx := [0]) rfl rfl rfl (z := [.string ⟨#[]⟩]) (by kernel_rfl) (cs := [_]) rfl fun b27 a w S H => ?_)
  refine wl_of (op_append ([t.chain[k].tw]) (wn rfl) rfl rfl rfl Tryz.underlying93 Finf9 rfl rfl S H rfl rfl rfl rfl (by simp) (by simp [encS]) (by simp [encS, Value.oneCell']) (by simp only [List.length_append, List.length_cons, List.length_nil, List.length_map, List.length_take]; have := hz.len; omega) (by simp only [List.length_append, List.length_cons, List.length_nil, List.length_map, List.length_take]; have := hz.len; omega) fun u28 a w hn28 S H => ?_)
  have e28 : ([itoaS t.serial, itoaS t.show_, t.first] ++ (t.chain.take (k)).map (·.tw)) ++ [t.chain[k].tw] = ([itoaS t.serial, itoaS t.show_, t.first] ++ (t.chain.take (k + 1)).map (·.tw)) := by rw [List.take_succ_eq_append_getElem (by omega), List.map_append, List.append_assoc]; rfl
  rw [e28] at H
  refine ga S fun a S => ?_
  refine gl_nil ?_
  refine n_block ?_
  refine n_then ?_
  have S := (((((S.nil.cons S 1 rfl).cons S 4 rfl).cons S 18 rfl).cons S 19 rfl).cons S 20 rfl).cons S 5 rfl
  refine g_region ?_
  refine gy rfl rfl rfl S (y_add rfl S rfl rfl (by omega)) fun a S => ?_
  refine gm S fun a S => ?_
  refine gnt ?_
  exact ⟨(k + 1, u28), (S.nil.cons S 5 rfl).cons S 20 rfl, (((S.nil.cons S 1 rfl).cons S 4 rfl).cons S 18 rfl).cons S 19 rfl, ⟨by dsimp only; omega, H.take [OSl 9 u28 1 encS ([itoaS t.serial, itoaS t.show_, t.first] ++ (t.chain.take (k + 1)).map (·.tw)), Cel b2 35 (encT t), Sl t.cv 2 encX t.chain, CapA t.cv, XRows t.chain, TabsA]⟩, by dsimp only; omega⟩
 ·have h1p := h1; try simp only [DL] at h1p
  obtain rfl : k = t.chain.length := by omega
  rw [List.take_length] at H
  refine g_exit ?_
  refine x_then (x_then (x_eq ?_))
  refine n_then ?_
  have S := ((S.nil.cons S 1 rfl).cons S 4 rfl).cons S 5 rfl
  refine gsr ?_
  refine gm S fun a S => ?_
  refine gm S fun a S => ?_
  refine wl_of (op_buildSlice (wn rfl) rfl rfl rfl Tryz.underlying93 Finf9 S H (idx := [0]) rfl rfl rfl (z := [.string ⟨#[]⟩]) (by kernel_rfl) (cs := [_]) rfl fun b32 a w S H => ?_)
  refine wl_of (op_append ([tw]) (wn rfl) rfl rfl rfl Tryz.underlying93 Finf9 rfl rfl S H rfl rfl rfl rfl (by simp) (by simp [encS]) (by simp [encS, Value.oneCell']) (by simp only [List.length_append, List.length_cons, List.length_nil, List.length_map, List.length_take]; have := hz.len; omega) (by simp only [List.length_append, List.length_cons, List.length_nil, List.length_map, List.length_take]; have := hz.len; omega) fun u33 a w hn33 S H => ?_)
  have H : HSat No w0 (_ :: OSl 9 u33 1 encS (msgL t tw) :: _) w := H
  refine wl_of (op_call (wn rfl) rfl rfl S (co_func rfl Tryz.call34 S rfl) (list_t u33 (msgL t tw) _ H.tabs (H.sl u33) (list_ok (msgL_size hz hto).1 (by have := (msgL_size hz hto).2; omega))) fun v w hc a S => ?_)
  obtain ⟨rfl, he⟩ := hc
  have H := H.ext he
  refine ga S fun a S => ?_
  refine gnt ?_
  have S := S.nil.cons S 4 rfl
  refine g_ret ?_
  refine ret1 rfl S rfl ?_
  exact ⟨rfl, H.toExt⟩
end Go.Proofs.YtienaifmlhcijaaGreatDoor
end
