/- Plain definitions and laws of layer 41: the titles' map, marks, who is reached, offers. No condition. -/
import Derived.Test.YtnnendajegdnhaaPlainS
namespace Go.Proofs.Ytnnendajegdnhaa
set_option linter.unusedVariables false
set_option linter.unusedSimpArgs false
open Go.Gw
def seenB (n : Nat) (l : List Int) : List Bool := (List.range n).map (fun k : Nat => decide ((k : Int) ∈ l))
theorem seenB_len (n : Nat) (l : List Int) : (seenB n l).length = n := by simp [seenB]
theorem seenB_get {n : Nat} {l : List Int} {k : Nat} (h : k < (seenB n l).length) : (seenB n l)[k] = decide ((k : Int) ∈ l) := by simp [seenB]
theorem seenB_nil (n : Nat) : seenB n [] = List.replicate n false := by
  apply List.ext_getElem
  · simp [seenB]
  · intro k h1 h2; simp [seenB]
theorem seenB_set (n : Nat) (l : List Int) (k : Nat) : (seenB n l).set k true = seenB n ((k : Int) :: l) := by
  apply List.ext_getElem
  · simp [seenB]
  · intro j h1 h2
    rw [List.getElem_set, seenB_get h2]
    split
    · rename_i e; subst e; simp
    · rename_i e
      rw [seenB_get]
      simp only [List.mem_cons]
      have : ¬ (j : Int) = k := by omega
      simp [this]
def ownM (o : List Int) : Int → Option Int := fun k => if 0 ≤ k ∧ 0 ≤ atI o k.toNat then some (atI o k.toNat) else none
theorem ownM_none (n : Nat) : ownM (List.replicate n (-1)) = fun _ => none := by
  funext k; unfold ownM; rw [atI_rep, if_neg (by omega)]
theorem ownM_set {o : List Int} {k : Nat} {i : Int} (hk : k < o.length) (hi : 0 ≤ i) : upd (ownM o) (k : Int) i = ownM (o.set k i) := by
  funext x
  unfold upd ownM
  by_cases hx : x = k
  · subst hx
    rw [if_pos rfl, Int.toNat_natCast, atI_set _ hk, if_pos rfl, if_pos ⟨by omega, hi⟩]
  · rw [if_neg hx]
    by_cases h0 : 0 ≤ x
    · have e : x.toNat ≠ k := by omega
      simp only [atI_set _ hk, if_neg e]
    · rw [if_neg (fun h => h0 h.1), if_neg (fun h => h0 h.1)]
theorem ownM_get {o : List Int} {k : Nat} : ownM o (k : Int) = if 0 ≤ atI o k then some (atI o k) else none := by
  unfold ownM; rw [Int.toNat_natCast]
  by_cases h : 0 ≤ atI o k
  · rw [if_pos ⟨by omega, h⟩, if_pos h]
  · rw [if_neg (by omega), if_neg h]
def reach2Row (rec : Int → RS → RS) (owner : List Int) : List Int → RS → RS
  | [], s => s
  | n :: r, s => if 0 ≤ atI owner n.toNat then reach2Row rec owner r (rec (atI owner n.toNat) { s with reached := n :: s.reached }) else reach2Row rec owner r { s with reached := n :: s.reached }
def reach2 (es : Gr) (owner : List Int) : Nat → Int → RS → RS
  | 0, _, s => s
  | f + 1, i, s => if i ∈ s.left then s else reach2Row (reach2 es owner f) owner (rowG es i.toNat) { s with left := i :: s.left }
structure R2WF (es : Gr) (s : RS) : Prop where
  lft : ∀ i ∈ s.left, 0 ≤ i ∧ i < es.length
  lnd : s.left.Nodup
theorem R2WF.few {es : Gr} {s : RS} (h : R2WF es s) : s.left.length ≤ es.length := by
  have := nodup_le (l := s.left) (m := (List.range es.length).map Int.ofNat) h.lnd (fun x hx => by
    have := h.lft x hx
    exact List.mem_map.2 ⟨x.toNat, List.mem_range.2 (by omega), by simp; omega⟩)
  simpa using this
/-- everything that is marked is reached along A -/
structure Snd (es : Gr) (A : Int → Prop) (s : RS) : Prop where
  left : ∀ j ∈ s.left, A j
  right : ∀ n ∈ s.reached, ∃ j, A j ∧ n ∈ rowG es j.toNat
/-- what is marked of j's edges -/
def DoneAt (es : Gr) (owner : List Int) (s : RS) (j : Int) : Prop := ∀ n ∈ rowG es j.toNat, n ∈ s.reached ∧ (0 ≤ atI owner n.toNat → atI owner n.toNat ∈ s.left)
structure R2Out (es : Gr) (owner : List Int) (s s' : RS) : Prop where
  wf : R2WF es s'
  subL : ∀ i ∈ s.left, i ∈ s'.left
  subR : ∀ n ∈ s.reached, n ∈ s'.reached
  len : s.left.length ≤ s'.left.length
  done : ∀ j ∈ s'.left, j ∉ s.left → DoneAt es owner s' j
theorem R2Out.refl {es : Gr} {owner : List Int} {s : RS} (h : R2WF es s) : R2Out es owner s s := ⟨h, fun _ h => h, fun _ h => h, Nat.le_refl _, fun j h1 h2 => absurd h1 h2⟩
theorem DoneAt.mono {es : Gr} {owner : List Int} {s s' : RS} {j : Int} (h : DoneAt es owner s j) (hl : ∀ i ∈ s.left, i ∈ s'.left) (hr : ∀ n ∈ s.reached, n ∈ s'.reached) : DoneAt es owner s' j :=
  fun n hn => ⟨hr n (h n hn).1, fun h0 => hl _ ((h n hn).2 h0)⟩
theorem R2Out.trans {es : Gr} {owner : List Int} {s s1 s2 : RS} (h1 : R2Out es owner s s1) (h2 : R2Out es owner s1 s2) : R2Out es owner s s2 :=
  ⟨h2.wf, fun i hi => h2.subL i (h1.subL i hi), fun n hn => h2.subR n (h1.subR n hn), Nat.le_trans h1.len h2.len, fun j hj hn => by
    by_cases hj1 : j ∈ s1.left
    · exact (h1.done j hj1 hn).mono h2.subL h2.subR
    · exact h2.done j hj hj1⟩
/-- what one search gives -/
structure R2Law (es : Gr) (owner : List Int) (i : Int) (s s' : RS) : Prop where
  out : R2Out es owner s s'
  me : i ∈ s'.left
  snd : ∀ A : Int → Prop, (∀ i, A i → ∀ n ∈ rowG es i.toNat, 0 ≤ atI owner n.toNat → A (atI owner n.toNat)) → A i → Snd es A s → Snd es A s'
theorem reach2Row_law {es : Gr} {owner : List Int} (hown : ∀ n : Nat, atI owner n < es.length) (c : Nat) {rec : Int → RS → RS}
    (hrec : ∀ (i : Int) (s : RS), 0 ≤ i ∧ i < es.length → R2WF es s → c ≤ s.left.length → R2Law es owner i s (rec i s)) :
    ∀ (r : List Int) (s : RS), R2WF es s → c ≤ s.left.length →
      R2Out es owner s (reach2Row rec owner r s) ∧ (∀ n ∈ r, n ∈ (reach2Row rec owner r s).reached ∧ (0 ≤ atI owner n.toNat → atI owner n.toNat ∈ (reach2Row rec owner r s).left)) ∧
      ∀ A : Int → Prop, (∀ i, A i → ∀ n ∈ rowG es i.toNat, 0 ≤ atI owner n.toNat → A (atI owner n.toNat)) → (∀ n ∈ r, ∃ j, A j ∧ n ∈ rowG es j.toNat) → Snd es A s → Snd es A (reach2Row rec owner r s)
  | [], s, hs, _ => ⟨R2Out.refl hs, fun n h => (by cases h), fun A _ _ h => h⟩
  | n :: r, s, hs, hc => by
    have hs1 : R2WF es { s with reached := n :: s.reached } := ⟨hs.lft, hs.lnd⟩
    have h01 : R2Out es owner s { s with reached := n :: s.reached } := ⟨hs1, fun _ h => h, fun m h => List.mem_cons_of_mem _ h, Nat.le_refl _, fun j h1 h2 => absurd h1 h2⟩
    have hsnd : ∀ A : Int → Prop, (∃ j, A j ∧ n ∈ rowG es j.toNat) → Snd es A s → Snd es A { s with reached := n :: s.reached } := fun A hn h =>
      ⟨h.left, fun m hm => by
        rcases List.mem_cons.1 hm with rfl | hm
        · exact hn
        · exact h.right m hm⟩
    unfold reach2Row
    split
    · rename_i h0
      have h := hrec (atI owner n.toNat) { s with reached := n :: s.reached } ⟨h0, hown _⟩ hs1 hc
      have ih := reach2Row_law hown c hrec r (rec (atI owner n.toNat) { s with reached := n :: s.reached }) h.out.wf (Nat.le_trans hc h.out.len)
      refine ⟨(h01.trans h.out).trans ih.1, fun m hm => ?_, fun A hA hr hsA => ?_⟩
      · rcases List.mem_cons.1 hm with rfl | hm
        · exact ⟨ih.1.subR _ (h.out.subR _ (List.mem_cons_self ..)), fun _ => ih.1.subL _ h.me⟩
        · exact ih.2.1 m hm
      · have hnr := hr n (List.mem_cons_self ..)
        obtain ⟨j, hj, hjn⟩ := hnr
        exact ih.2.2 A hA (fun m hm => hr m (List.mem_cons_of_mem _ hm)) (h.snd A hA (hA j hj n hjn h0) (hsnd A ⟨j, hj, hjn⟩ hsA))
    · rename_i h0
      have ih := reach2Row_law hown c hrec r { s with reached := n :: s.reached } hs1 hc
      refine ⟨h01.trans ih.1, fun m hm => ?_, fun A hA hr hsA => ?_⟩
      · rcases List.mem_cons.1 hm with rfl | hm
        · exact ⟨ih.1.subR _ (List.mem_cons_self ..), fun h => absurd h h0⟩
        · exact ih.2.1 m hm
      · exact ih.2.2 A hA (fun m hm => hr m (List.mem_cons_of_mem _ hm)) (hsnd A (hr n (List.mem_cons_self ..)) hsA)
theorem reach2_law {es : Gr} {owner : List Int} (hown : ∀ n : Nat, atI owner n < es.length) : ∀ (f : Nat) (i : Int) (s : RS), 0 ≤ i ∧ i < es.length → R2WF es s → es.length < f + s.left.length → R2Law es owner i s (reach2 es owner f i s)
  | 0, i, s, _, hs, hf => by have := hs.few; omega
  | f + 1, i, s, hi, hs, hf => by
    unfold reach2
    split
    · rename_i h
      exact ⟨R2Out.refl hs, h, fun A _ _ h => h⟩
    · rename_i h
      have hs1 : R2WF es { s with left := i :: s.left } := ⟨fun j hj => by
        rcases List.mem_cons.1 hj with rfl | hj
        · exact hi
        · exact hs.lft j hj, List.nodup_cons.2 ⟨h, hs.lnd⟩⟩
      have hl := reach2Row_law hown (s.left.length + 1) (rec := reach2 es owner f) (fun j t hj ht hc => reach2_law hown f j t hj ht (by omega)) (rowG es i.toNat) { s with left := i :: s.left } hs1 (by simp)
      obtain ⟨h1, h2, h3⟩ := hl
      refine ⟨⟨h1.wf, fun j hj => h1.subL j (List.mem_cons_of_mem _ hj), h1.subR, Nat.le_trans (by simp) h1.len, fun j hj hn => ?_⟩, h1.subL i (List.mem_cons_self ..), fun A hA hi hsA => ?_⟩
      · by_cases hji : j = i
        · subst hji; exact fun n hn => h2 n hn
        · exact h1.done j hj (fun hm => by
            rcases List.mem_cons.1 hm with e | hm
            · exact hji e
            · exact hn hm)
      · exact h3 A hA (fun n hn => ⟨i, hi, hn⟩) ⟨fun j hj => by
          rcases List.mem_cons.1 hj with rfl | hj
          · exact hi
          · exact hsA.left j hj, hsA.right⟩
/-- from all left vertices without a right one -/
def reach2All (es : Gr) (owner got : List Int) : Nat → RS
  | 0 => ⟨[], []⟩
  | k + 1 => if atI got k < 0 then reach2 es owner (es.length + 1) k (reach2All es owner got k) else reach2All es owner got k
/-- who is reached, as a property of a number -/
def AltI (es : Gr) (owner got : List Int) (i : Int) : Prop := 0 ≤ i ∧ AltR es owner got i.toNat
theorem altI_step {es : Gr} {r : Int} (hv : validG es r = true) {owner got : List Int} (i : Int) (h : AltI es owner got i) : ∀ n ∈ rowG es i.toNat, 0 ≤ atI owner n.toNat → AltI es owner got (atI owner n.toNat) := fun n hn h0 =>
  ⟨h0, .step (k := n.toNat) h.2 (by have := (validG_parts hv).2.2.2 _ n hn; rw [Int.toNat_of_nonneg this.1]; exact hn) (by omega)⟩
/-- the marks are those of who is reached -/
structure RDone (es : Gr) (owner got : List Int) (s : RS) : Prop where
  left : ∀ i : Nat, (i : Int) ∈ s.left ↔ AltR es owner got i
  right : ∀ k : Nat, (k : Int) ∈ s.reached ↔ PlR es owner got k
theorem rdone {es : Gr} {r : Int} (hv : validG es r = true) {owner got : List Int} {s : RS} (hs : Snd es (AltI es owner got) s) (hd : ∀ j ∈ s.left, DoneAt es owner s j) (hf : ∀ i : Nat, i < es.length → atI got i < 0 → (i : Int) ∈ s.left) : RDone es owner got s := by
  have hl : ∀ i : Nat, AltR es owner got i → (i : Int) ∈ s.left := fun i hi => by
    induction hi with
    | free h1 h2 => exact hf _ h1 h2
    | @step i j k _ hk ho ih =>
      have := (hd _ ih k (by simpa using hk)).2
      rw [Int.toNat_natCast] at this
      rw [ho] at this
      exact this (by omega)
  refine ⟨fun i => ⟨fun h => by simpa using (hs.left i h).2, hl i⟩, fun k => ⟨fun h => ?_, fun ⟨i, hi, hk⟩ => ?_⟩⟩
  · obtain ⟨j, hj, hn⟩ := hs.right k h
    exact ⟨j.toNat, hj.2, hn⟩
  · exact (hd i (hl i hi) k (by simpa using hk)).1
structure R2Inv (es : Gr) (owner got : List Int) (k : Nat) (s : RS) : Prop where
  wf : R2WF es s
  snd : Snd es (AltI es owner got) s
  done : ∀ j ∈ s.left, DoneAt es owner s j
  free : ∀ i : Nat, i < k → atI got i < 0 → (i : Int) ∈ s.left
theorem reach2All_inv {es : Gr} {r : Int} (hv : validG es r = true) {owner got : List Int} (hown : ∀ n : Nat, atI owner n < es.length) : ∀ k, k ≤ es.length → R2Inv es owner got k (reach2All es owner got k)
  | 0, _ => ⟨⟨fun i h => (by cases h), List.nodup_nil⟩, ⟨fun i h => (by cases h), fun i h => (by cases h)⟩, fun i h => (by cases h), fun i h => by omega⟩
  | k + 1, hk => by
    have ih := reach2All_inv hv hown (got := got) k (by omega)
    unfold reach2All
    split
    · rename_i hg
      have h := reach2_law hown (es.length + 1) k (reach2All es owner got k) ⟨by omega, by omega⟩ ih.wf (by omega)
      refine ⟨h.out.wf, h.snd _ (fun i hi => altI_step hv i hi) ⟨by omega, by rw [Int.toNat_natCast]; exact .free (by omega) hg⟩ ih.snd, fun j hj => ?_, fun i hi hgi => ?_⟩
      · by_cases hjo : j ∈ (reach2All es owner got k).left
        · exact (ih.done j hjo).mono h.out.subL h.out.subR
        · exact h.out.done j hj hjo
      · by_cases e : i = k
        · subst e; exact h.me
        · exact h.out.subL _ (ih.free i (by omega) hgi)
    · rename_i hg
      exact ⟨ih.wf, ih.snd, ih.done, fun i hi hgi => by
        by_cases e : i = k
        · subst e; exact absurd hgi hg
        · exact ih.free i (by omega) hgi⟩
theorem reach2All_done {es : Gr} {r : Int} (hv : validG es r = true) {owner got : List Int} (hown : ∀ n : Nat, atI owner n < es.length) : RDone es owner got (reach2All es owner got es.length) := by
  have h := reach2All_inv hv hown (got := got) es.length (Nat.le_refl _)
  exact rdone hv h.snd h.done h.free
theorem cover_sets {es : Gr} {owner got : List Int} {s : RS} (h : RDone es owner got s) (r : Nat) : IsSet es.length (fun i => ¬ AltR es owner got i) (coverLeft es s es.length) ∧ IsSet r (PlR es owner got) (coverRight s r) := by
  refine ⟨⟨coverLeft_formed _ (Int.le_refl _), fun k => ?_⟩, ⟨coverRight_formed _ (Int.le_refl _), fun k => ?_⟩⟩
  · rw [coverLeft_mem]
    constructor
    · rintro ⟨i, hi, e, hn⟩
      obtain rfl : k = i := by omega
      exact ⟨hi, fun ha => hn ((h.left k).2 ha)⟩
    · rintro ⟨hk, hn⟩
      exact ⟨k, hk, rfl, fun hm => hn ((h.left k).1 hm)⟩
  · rw [coverRight_mem]
    constructor
    · rintro ⟨i, hi, e, hn⟩
      obtain rfl : k = i := by omega
      exact ⟨hi, (h.right k).1 hn⟩
    · rintro ⟨hk, hn⟩
      exact ⟨k, hk, rfl, (h.right k).2 hn⟩
theorem reach2_in (es : Gr) (owner : List Int) (f : Nat) (i : Int) (s : RS) (h : i ∈ s.left) : reach2 es owner (f + 1) i s = s := by unfold reach2; rw [if_pos h]
theorem reach2_succ (ps : List (Go.Value × List Int)) (owner : List Int) (f i : Nat) (s : RS) (hi : i < ps.length) (h : (i : Int) ∉ s.left) : reach2 (gr ps) owner (f + 1) i s = reach2Row (reach2 (gr ps) owner f) owner ps[i].2 { s with left := (i : Int) :: s.left } := by
  conv => lhs; unfold reach2
  rw [if_neg h, Int.toNat_natCast, gr_row ps hi]
def spot4 (p : Pl) : Int × Int × Int × Int := (p.level, p.block, p.row, p.seat)
def pl0 : Pl := ⟨0, 0, 0, 0, 0, 0, 0, 0, 0⟩
/-- the first of some places at a spot -/
def findS (next : List Pl) : List Int → Int × Int × Int × Int → Option Int
  | [], _ => none
  | k :: r, x => if x = spot4 (next.getD k.toNat pl0) then some k else findS next r x
theorem findS_step {next : List Pl} {l : List Int} {k n : Nat} (hk : k < l.length) (hn : l[k] = n) (hl : n < next.length) : upd (findS next (l.drop (k + 1))) (spot4 next[n]) (n : Int) = findS next (l.drop k) := by
  funext x
  rw [List.drop_eq_getElem_cons hk]
  unfold upd
  conv => rhs; unfold findS
  rw [hn, Int.toNat_natCast, List.getD_eq_getElem?_getD, List.getElem?_eq_getElem hl]
  rfl
theorem sameN_iff (p q : Pl) : sameN p q = true ↔ spot4 p = spot4 q := by
  simp only [sameN, spot4, Bool.and_eq_true, decide_eq_true_eq, Prod.mk.injEq, and_assoc]
theorem findS_first {next : List Pl} {o : Pl} : ∀ {l : List Int}, (∀ k ∈ l, 0 ≤ k ∧ k.toNat < next.length) → findS next l (spot4 o) = firstS next o l
  | [], _ => rfl
  | k :: r, h => by
    have hk := h k (List.mem_cons_self ..)
    have ih := findS_first (next := next) (o := o) (l := r) (fun x hx => h x (List.mem_cons_of_mem _ hx))
    unfold findS firstS
    rw [List.getD_eq_getElem?_getD, List.getD_eq_getElem?_getD, List.getElem?_eq_getElem hk.2, Option.getD_some, Option.getD_some, ih]
    by_cases e : spot4 o = spot4 next[k.toNat]
    · rw [if_pos e, if_pos ((sameN_iff _ _).2 e)]
    · rw [if_neg e, if_neg (fun h => e ((sameN_iff _ _).1 h))]
def chF (olds next : List Pl) (i : Nat) : Option Int := firstS next (olds.getD i pl0) (rowG (edgesL olds next) i)
def startK (olds next : List Pl) (k : Nat) : List Int × List Int := preK olds.length next.length (chF olds next) k
def startP (olds next : List Pl) : List Int × List Int := startK olds next olds.length
def pairK (olds next : List Pl) (k : Nat) : List Int × List Int := augFrom (edgesL olds next) next.length (startP olds next) k
def pairP (olds next : List Pl) : List Int × List Int := pairK olds next olds.length
def rsK (olds next : List Pl) (k : Nat) : RS := reach2All (edgesL olds next) (pairP olds next).1 (pairP olds next).2 k
def rsP (olds next : List Pl) : RS := rsK olds next olds.length
def plL (olds next : List Pl) : List Int := (pairP olds next).2
def clL (olds next : List Pl) : List Int := coverLeft (edgesL olds next) (rsP olds next) olds.length
def crL (olds next : List Pl) : List Int := coverRight (rsP olds next) next.length
theorem fits_rng (p : Pl) : ∀ (l : List Pl) (k : Nat), ∀ n ∈ fits p l k, (k : Int) ≤ n ∧ n < k + l.length
  | [], _, n, h => by cases h
  | q :: r, k, n, h => by
    have ih := fits_rng p r (k + 1)
    unfold fits at h
    split at h
    · rcases List.mem_cons.1 h with rfl | h
      · simp only [List.length_cons]; omega
      · have := ih n h; simp only [List.length_cons]; omega
    · have := ih n h; simp only [List.length_cons]; omega
theorem edges_rowG {olds next : List Pl} {i : Nat} (h : i < olds.length) : rowG (edgesL olds next) i = fits olds[i] next 0 := by
  rw [rowG_eq (by rw [edges_len]; exact h)]; simp [edgesL]
theorem edges_valid {olds next : List Pl} (h1 : olds.length ≤ 4000) (h2 : next.length ≤ 4000) : validG (edgesL olds next) next.length = true :=
  validG_mk (by rw [edges_len]; exact h1) (by omega) (by omega) (fun i n hn => by
    by_cases hi : i < olds.length
    · rw [edges_rowG hi] at hn
      have := fits_rng _ _ _ n hn; omega
    · rw [rowG_out (by rw [edges_len]; omega)] at hn; cases hn)
theorem startK_inv {olds next : List Pl} (h1 : olds.length ≤ 4000) (h2 : next.length ≤ 4000) (k : Nat) (hk : k ≤ olds.length) : PreInv (edgesL olds next) next.length (chF olds next) k (startK olds next k) := by
  have h := preInv (edges_valid h1 h2) (c := chF olds next) (fun i m _ h => firstS_mem h) k (by rw [edges_len]; exact hk)
  unfold startK; rw [← edges_len olds next]; exact h
theorem pairK_inv {olds next : List Pl} (h1 : olds.length ≤ 4000) (h2 : next.length ≤ 4000) (k : Nat) (hk : k ≤ olds.length) : FromInv (edgesL olds next) next.length k (pairK olds next k) ∧ ∀ j, 0 ≤ atI (startP olds next).2 j → 0 ≤ atI (pairK olds next k).2 j := by
  have h := startK_inv h1 h2 olds.length (Nat.le_refl _)
  exact fromInv (edges_valid h1 h2) (pre_from h) k (by rw [edges_len]; exact hk)
theorem startK_succ (olds next : List Pl) (i : Nat) : startK olds next (i + 1) = match chF olds next i with
    | none => startK olds next i
    | some m => if atI (startK olds next i).1 m.toNat < 0 then ((startK olds next i).1.set m.toNat i, (startK olds next i).2.set i m) else startK olds next i := by
  show preK olds.length next.length (chF olds next) (i + 1) = _
  rw [preK]
  cases chF olds next i <;> rfl
theorem startK_none {olds next : List Pl} {i : Nat} (h : chF olds next i = none) : startK olds next (i + 1) = startK olds next i := by rw [startK_succ, h]
theorem startK_give {olds next : List Pl} {i n : Nat} (h : chF olds next i = some (n : Int)) (h2 : atI (startK olds next i).1 n < 0) : startK olds next (i + 1) = ((startK olds next i).1.set n i, (startK olds next i).2.set i n) := by
  rw [startK_succ, h]
  simp only [Int.toNat_natCast]
  rw [if_pos h2]
theorem startK_taken {olds next : List Pl} {i n : Nat} (h : chF olds next i = some (n : Int)) (h2 : ¬ atI (startK olds next i).1 n < 0) : startK olds next (i + 1) = startK olds next i := by
  rw [startK_succ, h]
  simp only [Int.toNat_natCast]
  rw [if_neg h2]
theorem pairK_yes {olds next : List Pl} {k : Nat} (h : atI (pairK olds next k).2 k < 0) : pairK olds next (k + 1) = ((aug (edgesL olds next) (fuelG next.length) k ⟨[], (pairK olds next k).1, (pairK olds next k).2⟩).2.owner, (aug (edgesL olds next) (fuelG next.length) k ⟨[], (pairK olds next k).1, (pairK olds next k).2⟩).2.got) := by
  unfold pairK at h ⊢
  conv => lhs; unfold augFrom
  rw [if_pos h]
theorem pairK_no {olds next : List Pl} {k : Nat} (h : ¬ atI (pairK olds next k).2 k < 0) : pairK olds next (k + 1) = pairK olds next k := by
  unfold pairK at h ⊢
  conv => lhs; unfold augFrom
  rw [if_neg h]
theorem rsK_yes {olds next : List Pl} {k : Nat} (h : atI (pairP olds next).2 k < 0) : rsK olds next (k + 1) = reach2 (edgesL olds next) (pairP olds next).1 ((edgesL olds next).length + 1) k (rsK olds next k) := by
  unfold rsK
  conv => lhs; unfold reach2All
  rw [if_pos h]
theorem rsK_no {olds next : List Pl} {k : Nat} (h : ¬ atI (pairP olds next).2 k < 0) : rsK olds next (k + 1) = rsK olds next k := by
  unfold rsK
  conv => lhs; unfold reach2All
  rw [if_neg h]
theorem fill_first {n m : Nat} (h : m = min 1 n) : (List.replicate n (0 : Int)).take 0 ++ [(-1 : Int)].take m ++ (List.replicate n (0 : Int)).drop (0 + m) = fillL n m := by
  have h01 : m = 0 ∨ m = 1 := by omega
  rcases h01 with e | e <;> subst e <;> simp [fillL]
theorem fill_copy {n k m : Nat} (hk : k ≤ n) (h : m = min k (n - k)) : (fillL n k).take k ++ (((fillL n k).take k).drop 0).take m ++ (fillL n k).drop (k + m) = fillL n (k + m) := by
  have e : (fillL n k).take k = List.replicate k (-1) := by simp [fillL]
  rw [List.drop_zero, e, List.take_replicate]
  unfold fillL
  rw [List.drop_append, List.drop_of_length_le (by simp), List.nil_append, List.length_replicate, List.drop_replicate, List.replicate_append_replicate]
  have e1 : min m k = m := by omega
  have e2 : n - k - (k + m - k) = n - (k + m) := by omega
  rw [e1, e2]
def offK (kind : Int) (next : List Pl) (taken : List Int) : Nat → List Int
  | 0 => []
  | k + 1 => if (offK kind next taken k).length < 5 ∧ (next.getD k ⟨0, 0, 0, 0, 0, 0, 0, 0, 0⟩).kind = kind ∧ (k : Int) ∉ taken then offK kind next taken k ++ [(k : Int)] else offK kind next taken k
def offL (kind : Int) (next : List Pl) (taken : List Int) : List Int := offK kind next taken next.length
theorem offK_len (kind : Int) (next : List Pl) (taken : List Int) : ∀ k, (offK kind next taken k).length ≤ 5
  | 0 => by simp [offK]
  | k + 1 => by
    have ih := offK_len kind next taken k
    unfold offK
    split
    · rename_i h; rw [List.length_append, List.length_singleton]; omega
    · exact ih
theorem offK_step {kind : Int} {next : List Pl} {taken : List Int} {k : Nat} (hk : k < next.length) : offK kind next taken (k + 1) = if (offK kind next taken k).length < 5 ∧ next[k].kind = kind ∧ (k : Int) ∉ taken then offK kind next taken k ++ [(k : Int)] else offK kind next taken k := by
  conv => lhs; unfold offK
  rw [List.getD_eq_getElem?_getD, List.getElem?_eq_getElem hk]; rfl
/-- the offers look at the members of taken alone -/
theorem offK_congr {kind : Int} {next : List Pl} {t1 t2 : List Int} (h : ∀ k : Nat, k < next.length → ((k : Int) ∈ t1 ↔ (k : Int) ∈ t2)) : ∀ k, k ≤ next.length → offK kind next t1 k = offK kind next t2 k
  | 0, _ => rfl
  | k + 1, hk => by
    have ih := offK_congr (kind := kind) h k (by omega)
    rw [offK_step (by omega), offK_step (by omega), ih]
    simp only [h k (by omega)]
end Go.Proofs.Ytnnendajegdnhaa
