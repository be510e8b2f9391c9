/- Maps of the call's own, as atoms: made, looked up, written, counted. No condition. -/
import Derived.Test.YtbjknckddoegfaaGwMut
namespace Go.Gw
set_option linter.unusedVariables false
set_option linter.unusedSimpArgs false
section
variable {κ β : Type} [DecidableEq κ]
/-- m with k ↦ v -/
def upd (m : κ → Option β) (k : κ) (v : β) : κ → Option β := fun x => if x = k then some v else m x
theorem upd_same (m : κ → Option β) (k : κ) (v : β) : upd m k v k = some v := by simp [upd]
theorem upd_ne (m : κ → Option β) {k x : κ} (v : β) (h : x ≠ k) : upd m k v x = m x := by simp [upd, h]
def idxIn (k : κ) : List (κ × β) → Nat → Option (Nat × β)
  | [], _ => none
  | p :: r, i => if k = p.1 then some (i, p.2) else idxIn k r (i + 1)
theorem idxIn_lookup (k : κ) : ∀ (ps : List (κ × β)) (i : Nat), (idxIn k ps i).map (·.2) = ps.lookup k
  | [], _ => rfl
  | p :: r, i => by
    obtain ⟨a, b⟩ := p
    simp only [idxIn, List.lookup]
    by_cases h : k = a
    · subst h; simp
    · rw [if_neg h, idxIn_lookup k r (i + 1)]
      have : (k == a) = false := by simp [h]
      rw [this]
theorem idxIn_at (k : κ) : ∀ (ps : List (κ × β)) (i j : Nat) (v : β), idxIn k ps i = some (j, v) → i ≤ j ∧ ps[j - i]? = some (k, v)
  | [], _, _, _, h => by cases h
  | p :: r, i, j, v, h => by
    obtain ⟨a, b⟩ := p
    simp only [idxIn] at h
    split at h
    · rename_i e; subst e; cases h; simp
    · obtain ⟨h1, h2⟩ := idxIn_at k r (i + 1) j v h
      refine ⟨by omega, ?_⟩
      have : j - i = (j - (i + 1)) + 1 := by omega
      rw [this]; simpa using h2
theorem lookup_set (k : κ) (v : β) : ∀ (ps : List (κ × β)) (j : Nat) (u : β), ps[j]? = some (k, u) → (ps.map (·.1)).Nodup → ∀ x, (ps.set j (k, v)).lookup x = upd (fun y => ps.lookup y) k v x
  | [], _, _, h, _, _ => by simp at h
  | (a, b) :: r, 0, u, h, hn, x => by
    simp only [List.getElem?_cons_zero, Option.some.injEq, Prod.mk.injEq] at h
    obtain ⟨rfl, rfl⟩ := h
    simp only [List.set_cons_zero, List.lookup, upd]
    by_cases hx : x = a
    · subst hx; simp
    · have : (x == a) = false := by simp [hx]
      rw [this, if_neg hx]
  | (a, b) :: r, j + 1, u, h, hn, x => by
    simp only [List.getElem?_cons_succ] at h
    have hn' := List.nodup_cons.1 hn
    have ih := lookup_set k v r j u h hn'.2 x
    have hka : k ≠ a := by
      rintro rfl
      exact hn'.1 (List.mem_map.2 ⟨_, List.mem_of_getElem? h, rfl⟩)
    simp only [List.set_cons_succ, List.lookup, ih, upd]
    by_cases hx : x = k
    · subst hx
      have : (x == a) = false := by simp [hka]
      simp [this]
    · simp [hx]
theorem lookup_snoc (k : κ) (v : β) : ∀ (ps : List (κ × β)), ps.lookup k = none → ∀ x, (ps ++ [(k, v)]).lookup x = upd (fun y => ps.lookup y) k v x
  | [], _, x => by
    by_cases hx : x = k
    · subst hx; simp [List.lookup, upd]
    · have : (x == k) = false := by simp [hx]
      simp [List.lookup, upd, this, hx]
  | (a, b) :: r, h, x => by
    have hka : (k == a) = false := by
      cases hc : (k == a) with
      | false => rfl
      | true => simp [List.lookup, hc] at h
    have h' : r.lookup k = none := by simpa [List.lookup, hka] using h
    have ih := lookup_snoc k v r h' x
    simp only [List.cons_append, List.lookup, ih, upd]
    by_cases hx : x = k
    · subst hx; simp [hka]
    · simp [hx]
theorem lookup_none_notin {k : κ} : ∀ {ps : List (κ × β)}, ps.lookup k = none → k ∉ ps.map (·.1)
  | [], _ => by simp
  | (a, b) :: r, h => by
    have hka : (k == a) = false := by
      cases hc : (k == a) with
      | false => rfl
      | true => simp [List.lookup, hc] at h
    have h' : r.lookup k = none := by simpa [List.lookup, hka] using h
    have := lookup_none_notin h'
    simp only [List.map_cons, List.mem_cons, not_or]
    exact ⟨by simpa using hka, this⟩
/-- the entries of a map -/
def MapRep (es : Array MapEntry) (kenc : κ → Value) (enc : β → Value) (ps : List (κ × β)) : Prop := es.toList.map (fun e => (e.key, e.val)) = ps.map (fun p => (kenc p.1, enc p.2))
/-- the entries' stamps: apart, and all below the clock -/
def Borns (es : Array MapEntry) (clock : Nat) : Prop := (∀ e ∈ es.toList, e.born < clock) ∧ (es.toList.map (·.born)).Nodup
theorem Borns.push {es : Array MapEntry} {clock : Nat} (h : Borns es clock) (k v : Value) : Borns (es.push { key := k, val := v, born := clock }) (clock + 1) := by
  refine ⟨fun e he => ?_, ?_⟩
  · rw [Array.toList_push] at he
    rcases List.mem_append.1 he with he | he
    · have := h.1 e he; omega
    · simp at he; subst he; simp
  · rw [Array.toList_push, List.map_append, List.nodup_append]
    refine ⟨h.2, by simp, ?_⟩
    intro x hx y hy
    obtain ⟨e, he, rfl⟩ := List.mem_map.1 hx
    simp at hy; subst hy
    have := h.1 e he; omega
theorem Borns.modify {es : Array MapEntry} {clock : Nat} (h : Borns es clock) (j : Nat) (f : MapEntry → MapEntry) (hf : ∀ e, (f e).born = e.born) : Borns (es.modify j f) clock := by
  have e : ((es.modify j f).toList.map (·.born)) = es.toList.map (·.born) := by
    apply List.ext_getElem?
    intro i
    simp only [List.getElem?_map, Array.getElem?_toList, Array.getElem?_modify]
    by_cases hji : j = i
    · subst hji
      cases es[j]? <;> simp [hf]
    · simp [hji]
  refine ⟨fun x hx => ?_, by rw [e]; exact h.2⟩
  have hx' : x.born ∈ es.toList.map (·.born) := by rw [← e]; exact List.mem_map.2 ⟨x, hx, rfl⟩
  obtain ⟨y, hy, hxy⟩ := List.mem_map.1 hx'
  rw [← hxy]; exact h.1 y hy
structure IsMap (w : World) (b : Nat) (kenc : κ → Value) (enc : β → Value) (m : κ → Option β) (n : Nat) : Prop where
  ok : ∃ es clock ps, w.heap[b]? = some (.map es clock) ∧ MapRep es kenc enc ps ∧ (ps.map (·.1)).Nodup ∧ (∀ k, m k = ps.lookup k) ∧ ps.length = n ∧ Borns es clock
/-- a map of the call's own with n keys -/
def MapA (b : Nat) (kenc : κ → Value) (enc : β → Value) (m : κ → Option β) (n : Nat) : Atom where
  own := true
  fp := (· = b)
  ok := fun w => IsMap w b kenc enc m n
  loc := fun w w' h hok => ⟨by obtain ⟨es, c, ps, h1, h2⟩ := hok.ok; exact ⟨es, c, ps, (h b rfl).trans h1, h2⟩⟩
  lt := fun w k hok hk => by subst hk; obtain ⟨es, c, ps, h1, _⟩ := hok.ok; exact (Array.getElem?_eq_some_iff.1 h1).1
/-- where map b stands in the list -/
class HasMap (l : List Atom) (b : Nat) (κ β : outParam Type) (inst : outParam (DecidableEq κ)) (kenc : outParam (κ → Value)) (enc : outParam (β → Value)) (m : outParam (κ → Option β)) (n : outParam Nat) (l' : outParam (Atom → List Atom)) : Prop where
  at_ : ∃ l1 l2, l = l1 ++ MapA b kenc enc m n :: l2 ∧ ∀ y, l' y = l1 ++ y :: l2
instance (priority := 2000) HasMap.here (l : List Atom) (b : Nat) (κ β : Type) (inst : DecidableEq κ) (kenc : κ → Value) (enc : β → Value) (m : κ → Option β) (n : Nat) : HasMap (MapA b kenc enc m n :: l) b κ β inst kenc enc m n (fun y => y :: l) := ⟨[], l, rfl, fun _ => rfl⟩
instance HasMap.there (l : List Atom) (x : Atom) (b : Nat) (κ β : Type) (inst : DecidableEq κ) (kenc : κ → Value) (enc : β → Value) (m : κ → Option β) (n : Nat) (l' : Atom → List Atom) [h : HasMap l b κ β inst kenc enc m n l'] : HasMap (x :: l) b κ β inst kenc enc m n (fun y => x :: l' y) := by
  obtain ⟨l1, l2, h1, h2⟩ := h.at_
  exact ⟨x :: l1, l2, by simp [h1], fun y => by simp [h2]⟩
/-- a map that is read -/
class RdMap (l : List Atom) (b : Nat) (κ β : outParam Type) (inst : outParam (DecidableEq κ)) (kenc : outParam (κ → Value)) (enc : outParam (β → Value)) (m : outParam (κ → Option β)) (n : outParam Nat) : Prop where
  at_ : ∀ w, (∀ x ∈ l, x.ok w) → IsMap w b kenc enc m n
instance (priority := 2000) RdMap.here (l : List Atom) (b : Nat) (κ β : Type) (inst : DecidableEq κ) (kenc : κ → Value) (enc : β → Value) (m : κ → Option β) (n : Nat) : RdMap (MapA b kenc enc m n :: l) b κ β inst kenc enc m n := ⟨fun w h => h (MapA b kenc enc m n) (List.mem_cons_self ..)⟩
instance (priority := 2000) RdMap.hereRo (l : List Atom) (b : Nat) (κ β : Type) (inst : DecidableEq κ) (kenc : κ → Value) (enc : β → Value) (m : κ → Option β) (n : Nat) : RdMap (Atom.ro (MapA b kenc enc m n) :: l) b κ β inst kenc enc m n := ⟨fun w h => h (Atom.ro (MapA b kenc enc m n)) (List.mem_cons_self ..)⟩
instance RdMap.there (l : List Atom) (x : Atom) (b : Nat) (κ β : Type) (inst : DecidableEq κ) (kenc : κ → Value) (enc : β → Value) (m : κ → Option β) (n : Nat) [h : RdMap l b κ β inst kenc enc m n] : RdMap (x :: l) b κ β inst kenc enc m n := ⟨fun w hw => h.at_ w (fun y hy => hw y (List.mem_cons_of_mem _ hy))⟩
instance (priority := 500) RdMap.app (l1 l : List Atom) (b : Nat) (κ β : Type) (inst : DecidableEq κ) (kenc : κ → Value) (enc : β → Value) (m : κ → Option β) (n : Nat) [h : RdMap l b κ β inst kenc enc m n] : RdMap (l1 ++ l) b κ β inst kenc enc m n := ⟨fun w hw => h.at_ w (fun y hy => hw y (List.mem_append_right _ hy))⟩
instance HasMap.app (l1 l : List Atom) (b : Nat) (κ β : Type) (inst : DecidableEq κ) (kenc : κ → Value) (enc : β → Value) (m : κ → Option β) (n : Nat) (l' : Atom → List Atom) [h : HasMap l b κ β inst kenc enc m n l'] : HasMap (l1 ++ l) b κ β inst kenc enc m n (fun y => l1 ++ l' y) := by
  obtain ⟨k1, k2, h1, h2⟩ := h.at_
  exact ⟨l1 ++ k1, k2, by simp [h1], fun y => by simp [h2]⟩
theorem findNow_rep {d : TypeDesc} {kenc : κ → Value} {enc : β → Value} (hs : ∀ a b, Instr.sameNow d (kenc a) (kenc b) = some (decide (a = b))) (k : κ) :
    ∀ (es : List MapEntry) (ps : List (κ × β)) (i : Nat), es.map (fun e => (e.key, e.val)) = ps.map (fun p => (kenc p.1, enc p.2)) → Instr.findNow d (kenc k) es i = some ((idxIn k ps i).map fun x => (x.1, enc x.2))
  | [], [], _, _ => rfl
  | [], _ :: _, _, h => by simp at h
  | _ :: _, [], _, h => by simp at h
  | e :: es, p :: ps, i, h => by
    simp only [List.map_cons, List.cons.injEq, Prod.mk.injEq] at h
    obtain ⟨⟨h1, h2⟩, h3⟩ := h
    simp only [Instr.findNow, h1, hs, idxIn]
    by_cases hk : k = p.1
    · simp [hk, h2]
    · simp only [decide_eq_false hk, if_neg hk]
      exact findNow_rep hs k es ps (i + 1) h3
end
/-- keys of type T, written by kenc, are told apart -/
structure KeyOK (P : Program) (T : TypeId) {κ : Type} [DecidableEq κ] (kenc : κ → Value) : Prop where
  find : ∀ {β : Type} (enc : β → Value) (k : κ) (es : Array MapEntry) (ps : List (κ × β)) (w : World), MapRep es kenc enc ps → (Instr.findKey T (kenc k) es.toList).run P w = .ok ((idxIn k ps 0).map fun x => (x.1, enc x.2)) w
  check : ∀ (e : Bool) (a : κ) (w : World), (Instr.checkKey e 10000 T (kenc a)).run P w = .ok () w
  bits : ∀ a, Instr.sameBits 10000 (kenc a) (kenc a) = true
/-- keys that are told apart at once -/
theorem find_now {P : Program} {T : TypeId} {κ : Type} [DecidableEq κ] {kenc : κ → Value} (h : ∃ d, P.underlying T = some d ∧ ∀ a b, Instr.sameNow d (kenc a) (kenc b) = some (decide (a = b))) {β : Type} (enc : β → Value) (k : κ) (es : Array MapEntry) (ps : List (κ × β)) (w : World) (hr : MapRep es kenc enc ps) :
    (Instr.findKey T (kenc k) es.toList).run P w = .ok ((idxIn k ps 0).map fun x => (x.1, enc x.2)) w := by
  obtain ⟨d, hd, hs⟩ := h
  simp [Instr.findKey, run_underlying hd, findNow_rep hs k es.toList ps 0 hr]
theorem checkKey_int {P : Program} {T : TypeId} {k : IntKind} (h : P.underlying T = some (.int k)) (e : Bool) (n : Nat) (a : Int) (w : World) : (Instr.checkKey e (n + 1) T (.int k a)).run P w = .ok () w := by
  simp [Instr.checkKey, run_underlying h]
theorem sameBits_int (k : IntKind) (n : Nat) (a : Int) : Instr.sameBits (n + 1) (.int k a) (.int k a) = true := by simp [Instr.sameBits]
theorem keyOK_int {P : Program} {T : TypeId} {k : IntKind} (h : P.underlying T = some (.int k)) : KeyOK P T (fun n : Int => .int k n) :=
  ⟨find_now ⟨_, h, fun a b => by simp [Instr.sameNow]; rfl⟩, fun e a w => checkKey_int h e 9999 a w, fun a => sameBits_int k 9999 a⟩
/-- keys that are asked for one after the other -/
theorem findAsking_rep {P : Program} {T : TypeId} {κ β : Type} [DecidableEq κ] {kenc : κ → Value} {enc : β → Value} (w : World) (hs : ∀ a b, (Op.equal T (kenc a) (kenc b)).run P w = .ok (decide (a = b)) w) (k : κ) :
    ∀ (es : List MapEntry) (ps : List (κ × β)) (i : Nat), es.map (fun e => (e.key, e.val)) = ps.map (fun p => (kenc p.1, enc p.2)) → (Instr.findAsking T (kenc k) es i).run P w = .ok ((idxIn k ps i).map fun x => (x.1, enc x.2)) w
  | [], [], _, _ => rfl
  | [], _ :: _, _, h => by simp at h
  | _ :: _, [], _, h => by simp at h
  | e :: es, p :: ps, i, h => by
    simp only [List.map_cons, List.cons.injEq, Prod.mk.injEq] at h
    obtain ⟨⟨h1, h2⟩, h3⟩ := h
    simp only [Instr.findAsking, h1, Sem.run_bind, hs, idxIn, Result.andThen_ok]
    by_cases hk : k = p.1
    · simp [hk, h2]
    · simp only [decide_eq_false hk, if_neg hk, Bool.false_eq_true, if_false]
      exact findAsking_rep w hs k es ps (i + 1) h3
theorem find_asking {P : Program} {T : TypeId} {κ : Type} [DecidableEq κ] {kenc : κ → Value} {d : TypeDesc} (hd : P.underlying T = some d) (hn : ∀ a b, Instr.sameNow d (kenc a) (kenc b) = none) (hs : ∀ w a b, (Op.equal T (kenc a) (kenc b)).run P w = .ok (decide (a = b)) w)
    {β : Type} (enc : β → Value) (k : κ) (es : Array MapEntry) (ps : List (κ × β)) (w : World) (hr : MapRep es kenc enc ps) :
    (Instr.findKey T (kenc k) es.toList).run P w = .ok ((idxIn k ps 0).map fun x => (x.1, enc x.2)) w := by
  have h := findAsking_rep w (hs w) k es.toList ps 0 hr
  unfold MapRep at hr
  revert hr h
  cases hes : es.toList with
  | nil =>
    intro hr h
    cases ps with
    | nil => simp [Instr.findKey, run_underlying hd, Instr.findNow, idxIn]
    | cons p r => simp at hr
  | cons e r =>
    intro hr h
    cases ps with
    | nil => simp at hr
    | cons p r2 =>
      simp only [List.map_cons, List.cons.injEq, Prod.mk.injEq] at hr
      have hnow : Instr.findNow d (kenc k) (e :: r) 0 = none := by simp only [Instr.findNow, hr.1.1, hn]
      simp only [Instr.findKey, Sem.run_bind, run_underlying hd, Result.andThen_ok, hnow]
      exact h
section
variable {κ β : Type} [DecidableEq κ]
theorem run_findKey {P : Program} {T : TypeId} {kenc : κ → Value} {enc : β → Value} (K : KeyOK P T kenc) (k : κ) {es : Array MapEntry} {ps : List (κ × β)} (h : MapRep es kenc enc ps) (w : World) :
    (Instr.findKey T (kenc k) es.toList).run P w = .ok ((idxIn k ps 0).map fun x => (x.1, enc x.2)) w := K.find enc k es ps w h
end
section
variable {κ β : Type} {inst : DecidableEq κ} {P : Program} {o : Oper} {n : Sz} {fl : Slots} {a : Act} {w w0 : World} {v : Value} {M : Nat → Prop} {l : List Atom} {ops : Array Oper} {d : Nat} {K : Act → World → Prop}
theorem HSat.mp (H : HSat M w0 l w) (b : Nat) {kenc : κ → Value} {enc : β → Value} {m : κ → Option β} {c : Nat} [h : RdMap l b κ β inst kenc enc m c] : IsMap w b kenc enc m c := h.at_ w H.ok
theorem op_makeMap {κ β : Type} [inst : DecidableEq κ] {T : TypeId} (kenc : κ → Value) (enc : β → Value) (hw : Region.wanted o (yielded ops a.tmps) = true) (hd : o.dst = some d) (hn : Nat.blt d n.n = true) (ho : o.op = .makeMap T none) (S : St n fl a) (H : HSat M w0 l w)
    (k : ∀ b a' w', St n ((d, .map (some b)) :: fl) a' → HSat M w0 (MapA b kenc enc (fun _ => none) 0 :: l) w' → K a' w') : opw P ops o a w K := by
  have hrun : (execOp a.eval o).run P w = .ok (.value (.map (some w.heap.size))) (w.alloc (.map #[] 0)) := by
    unfold execOp; rw [ho]; rfl
  refine opw_val hw hrun ?_
  rw [hd]
  refine k _ _ _ (S.put hn _) ?_
  have H' := H.alloc (.map #[] 0) trivial
  exact H'.conv (fun _ => rfl) (fun _ h => h) (fun hok => ⟨⟨#[], 0, [], hok, rfl, by simp, fun _ => rfl, rfl, by simp [Borns]⟩⟩)
theorem run_lookup_map {T kt et : TypeId} {kenc : κ → Value} {enc : β → Value} {m : κ → Option β} {c : Nat} (b : Nat) (k : κ) (z0 : β) {z : Value} {sz by_ : Nat} (hT : P.underlying T = some (.map kt et)) (KO : KeyOK P kt kenc) (hE : infoB P et = some (z, sz, by_)) (hz : enc z0 = z) (hm : IsMap w b kenc enc m c) (ok : Bool) :
    (Instr.lookup T (.map (some b)) (kenc k) ok).run P w = .ok (if ok = true then .tuple #[enc ((m k).getD z0), .bool (m k).isSome] else enc ((m k).getD z0)) w := by
  obtain ⟨es, clock, ps, h1, h2, h3, h4, h5, h6⟩ := hm.ok
  obtain ⟨i, hinf, hzi, hsi, hbi⟩ := infoB_parts hE
  have hzv : (zeroValue et).run P w = .ok z w := by simp [zeroValue, typeInfo, hinf, hzi]
  have hf := run_findKey (P := P) KO k h2 w
  have hl := idxIn_lookup k ps 0
  have hg : (getObj b).run P w = .ok (.map es clock) w := by simp [getObj, Sem.run, h1]
  rw [h4 k]
  cases hi : idxIn k ps 0 with
  | none =>
    rw [hi] at hf hl
    simp only [Option.map_none] at hf hl
    rw [← hl]
    simp [Instr.lookup, run_underlying hT, hg, KO.check, hf, hzv, hz]
  | some x =>
    rw [hi] at hf hl
    simp only [Option.map_some] at hf hl
    rw [← hl]
    simp [Instr.lookup, run_underlying hT, hg, KO.check, hf]
theorem y_lookup {T kt et : TypeId} {x ix : Operand} {b : Nat} {kenc : κ → Value} {enc : β → Value} {m : κ → Option β} {c : Nat} (k : κ) (z0 : β) {z : Value} {sz by_ : Nat} (ho : o.op = .lookup T x ix false) (hT : P.underlying T = some (.map kt et)) (hE : infoB P et = some (z, sz, by_)) (S : St n fl a) (H : HSat M w0 l w)
    (hx : ev fl x = some (.map (some b))) [h : RdMap l b κ β inst kenc enc m c] (KO : KeyOK P kt kenc) (hi : ev fl ix = some (kenc k)) (hz : enc z0 = z) : Yld P o a w (enc ((m k).getD z0)) := by
  unfold Yld execOp; rw [ho]; simp only [S.ev hx, S.ev hi]
  simp [run_lookup_map b k z0 hT KO hE hz (H.mp b (h := h)) false]
theorem op_mapUpdate {T kt et : TypeId} {x ix y : Operand} {b : Nat} {kenc : κ → Value} {enc : β → Value} {m : κ → Option β} {c : Nat} {l' : Atom → List Atom} (k : κ) (u : β) (hw : Region.wanted o (yielded ops a.tmps) = true) (hd : o.dst = none) (ho : o.op = .mapUpdate T x ix y) (hT : P.underlying T = some (.map kt et)) (S : St n fl a) (H : HSat M w0 l w)
    (hx : ev fl x = some (.map (some b))) [h : HasMap l b κ β inst kenc enc m c l'] (KO : KeyOK P kt kenc) (hi : ev fl ix = some (kenc k)) (hy : ev fl y = some (enc u))
    (kk : ∀ a' w', St n fl a' → HSat M w0 (l' (MapA b kenc enc (upd m k u) (if (m k).isSome = true then c else c + 1))) w' → K a' w') : opw P ops o a w K := by
  obtain ⟨l1, l2, e1, e2⟩ := h.at_
  have hm : IsMap w b kenc enc m c := H.ok (MapA b kenc enc m c) (by rw [e1]; simp)
  obtain ⟨es, clock, ps, h1, h2, h3, h4, h5, h6⟩ := hm.ok
  have hf := run_findKey (P := P) KO k h2 w
  have hl := idxIn_lookup k ps 0
  have hg : (getObj b).run P w = .ok (.map es clock) w := by simp [getObj, Sem.run, h1]
  have hblt : b < w.heap.size := (Array.getElem?_eq_some_iff.1 h1).1
  have fin : ∀ (es' : Array MapEntry) (clock' : Nat) (ps' : List (κ × β)) (c' : Nat), (execOp a.eval o).run P w = .ok .skip (setBlk w b (.map es' clock')) → MapRep es' kenc enc ps' → (ps'.map (·.1)).Nodup → (∀ x, upd m k u x = ps'.lookup x) → ps'.length = c' → c' = (if (m k).isSome = true then c else c + 1) → Borns es' clock' → opw P ops o a w K := fun es' clock' ps' c' hrun r1 r2 r3 r4 r5 r6 => by
    refine opw_skip hw hrun ?_
    rw [hd]
    refine kk _ _ (S.putNone _) ?_
    rw [e2]
    rw [e1] at H
    have hnew : (setBlk w b (.map es' clock')).heap[b]? = some (.map es' clock') := by simp [setBlk, hblt]
    have hoth : ∀ q, q ≠ b → (setBlk w b (.map es' clock')).heap[q]? = w.heap[q]? := fun q hq => by simp [setBlk, Array.getElem?_setIfInBounds_ne (Ne.symm hq)]
    refine HSat.swap H rfl rfl ⟨rfl, rfl, rfl, by simp [setBlk], fun q _ hq => hoth q hq, fun q hq => ?_⟩ ⟨⟨es', clock', ps', hnew, r1, r2, r3, by rw [r4, r5], r6⟩⟩ (fun q hq => .inl hq)
    by_cases hqb : q = b
    · subst hqb; rw [hnew]; trivial
    · rw [hoth q hqb]; exact hq
  have hset : ∀ (es' : Array MapEntry) (clock' : Nat), (setObj b (.map es' clock')).run P w = .ok () (setBlk w b (.map es' clock')) := fun es' clock' => by simp [setObj, Sem.run, h1, setBlk]
  cases hidx : idxIn k ps 0 with
  | none =>
    rw [hidx] at hf hl
    simp only [Option.map_none] at hf hl
    refine fin (es.push { key := kenc k, val := enc u, born := clock }) (clock + 1) (ps ++ [(k, u)]) (c + 1) ?_ ?_ ?_ ?_ (by simp [h5]) (by rw [h4 k, ← hl]; rfl) (h6.push _ _)
    · unfold execOp; rw [ho]; simp only [S.ev hx, S.ev hi, S.ev hy]
      simp [Instr.mapUpdate, run_underlying hT, hg, KO.check, hf, hset]
    · unfold MapRep at h2 ⊢; simp [h2]
    · rw [List.map_append, List.map_cons, List.map_nil, List.nodup_append]
      refine ⟨h3, by simp, ?_⟩
      intro x hx y hy
      simp at hy; subst hy
      intro e; subst e
      exact lookup_none_notin hl.symm hx
    · intro x
      rw [lookup_snoc k u ps hl.symm x]
      exact congrFun (congrArg (fun f => upd f k u) (funext h4)) x
  | some q =>
    obtain ⟨j, u0⟩ := q
    have hat := idxIn_at k ps 0 j u0 hidx
    rw [hidx] at hf hl
    simp only [Option.map_some] at hf hl
    have hj : ps[j]? = some (k, u0) := by simpa using hat.2
    have hje : ∃ e, es[j]? = some e ∧ e.key = kenc k := by
      have h2' := congrArg (fun q => q[j]?) h2
      simp only [List.getElem?_map, hj, Option.map_some] at h2'
      cases he : es[j]? with
      | none => simp [he] at h2'
      | some e =>
        simp [he] at h2'
        exact ⟨e, rfl, h2'.1⟩
    obtain ⟨e, he, hek⟩ := hje
    refine fin (es.modify j fun e => { e with key := kenc k, val := enc u }) clock (ps.set j (k, u)) c ?_ ?_ ?_ ?_ (by simp [h5]) (by rw [h4 k, ← hl]; rfl) (h6.modify j _ (fun _ => rfl))
    · unfold execOp; rw [ho]; simp only [S.ev hx, S.ev hi, S.ev hy]
      simp [Instr.mapUpdate, run_underlying hT, hg, KO.check, hf, hset, he, hek, Instr.keyThatStays, KO.bits]
    · unfold MapRep at h2 ⊢
      apply List.ext_getElem?
      intro i
      have h2' := congrArg (fun q => q[i]?) h2
      simp only [List.getElem?_map] at h2'
      simp only [List.getElem?_map, Array.getElem?_toList, Array.getElem?_modify, List.getElem?_set]
      by_cases hji : j = i
      · subst hji
        have hlt := (List.getElem?_eq_some_iff.1 hj).1
        simp [he, hlt]
      · simp only [if_neg hji]
        simpa using h2'
    · have : (ps.set j (k, u)).map (·.1) = ps.map (·.1) := by
        apply List.ext_getElem?
        intro i
        simp only [List.getElem?_map, List.getElem?_set]
        by_cases hji : j = i
        · subst hji
          obtain ⟨hlt, hjv⟩ := List.getElem?_eq_some_iff.1 hj
          simp [hlt, hjv]
        · simp [hji]
      rw [this]; exact h3
    · intro x
      rw [lookup_set k u ps j u0 hj h3 x]
      exact congrFun (congrArg (fun f => upd f k u) (funext h4)) x
end
end Go.Gw
