/- Plain laws of layer 41: a matching from a start, who is reached, covers. No condition. -/
import Derived.Test.YtnnendajegdnhaaPlainP
namespace Go.Proofs.Ytnnendajegdnhaa
set_option linter.unusedVariables false
set_option linter.unusedSimpArgs false
open Go.Gw
def augFrom (es : Gr) (right : Int) (p0 : List Int × List Int) : Nat → List Int × List Int
  | 0 => p0
  | k + 1 => if atI (augFrom es right p0 k).2 k < 0 then
      ((aug es (fuelG right) k ⟨[], (augFrom es right p0 k).1, (augFrom es right p0 k).2⟩).2.owner, (aug es (fuelG right) k ⟨[], (augFrom es right p0 k).1, (augFrom es right p0 k).2⟩).2.got)
    else augFrom es right p0 k
structure FromInv (es : Gr) (right : Int) (k : Nat) (p : List Int × List Int) : Prop where
  wf : AWF es right ⟨[], p.1, p.2⟩
  conv : Conv es ⟨[], p.1, p.2⟩ (-1)
  low : ∀ j, -1 ≤ atI p.2 j
  dead : ∃ D : Int → Prop, Closed es p.1 D ∧ (∀ n, D n → 0 ≤ n ∧ n < right) ∧ ∀ j, j < k → atI p.2 j = -1 → ∀ n ∈ rowG es j, D n
theorem from_start {es : Gr} {right : Int} {p : List Int × List Int} (h1 : AWF es right ⟨[], p.1, p.2⟩) (h2 : Conv es ⟨[], p.1, p.2⟩ (-1)) (h3 : ∀ j, -1 ≤ atI p.2 j) : FromInv es right 0 p :=
  ⟨h1, h2, h3, fun _ => False, ⟨fun n h => h.elim, fun n h => h.elim⟩, fun n h => h.elim, fun j h => by omega⟩
theorem from_step {es : Gr} {right : Int} (hv : validG es right = true) {k : Nat} (hk : k < es.length) {p : List Int × List Int} (ih : FromInv es right k p) (hg0 : atI p.2 k < 0) :
    FromInv es right (k + 1) ((aug es (fuelG right) k ⟨[], p.1, p.2⟩).2.owner, (aug es (fuelG right) k ⟨[], p.1, p.2⟩).2.got) ∧ ∀ j, 0 ≤ atI p.2 j → 0 ≤ atI (aug es (fuelG right) k ⟨[], p.1, p.2⟩).2.got j := by
  have hpk : atI p.2 k = -1 := by have := ih.low k; omega
  have hout := aug_out hv (fuelG right) k ⟨[], p.1, p.2⟩ (by omega) ih.wf
  have hlaw := aug_law hv (fuelG right) k ⟨[], p.1, p.2⟩ (by omega) ih.wf (by simp [fuelG]) ih.conv (.inl hpk)
  obtain ⟨D, hD1, hD2, hD3⟩ := ih.dead
  cases hq : aug es (fuelG right) k ⟨[], p.1, p.2⟩ with
  | mk b s =>
    rw [hq] at hout hlaw
    have hwf : AWF es right ⟨[], s.owner, s.got⟩ := ⟨hout.wf.lo, hout.wf.lg, hout.wf.own, List.nodup_nil, fun n h => by cases h⟩
    cases b with
    | true =>
      have hy := hlaw.1 rfl
      have hcv := hy.conv
      have hlow : ∀ j, -1 ≤ atI s.got j := fun j => by
        by_cases hjk : j = k
        · subst hjk; have : 0 ≤ atI s.got j := hy.new.1; omega
        · rcases Int.lt_or_le (atI p.2 j) 0 with h | h
          · have e : atI p.2 j = -1 := by have := ih.low j; omega
            have := hy.gotS j hjk (.inl e)
            have e2 : atI (⟨[], p.1, p.2⟩ : AS).got j = -1 := e
            have e3 : atI s.got j = -1 := this.trans e2
            omega
          · have : 0 ≤ atI s.got j := hy.keep j h
            omega
      refine ⟨⟨hwf, ⟨fun j h => hcv.got j h, fun n hn h => hcv.own n (fun e => ?_) h⟩, hlow, D, ⟨fun n hn => ?_, fun n hn m hm => ?_⟩, hD2, fun j hj hg => ?_⟩, fun j h => hy.keep j h⟩
      · have e2 : (n : Int) = atI p.2 k := e
        omega
      · rw [(hy.ownD D hD1).2 n hn]; exact hD1.taken n hn
      · rw [(hy.ownD D hD1).2 n hn] at hm; exact hD1.all n hn m hm
      · have hjk : j ≠ k := by
          rintro rfl
          have h0 : 0 ≤ atI s.got j := hy.new.1
          have hg : atI s.got j = -1 := hg
          omega
        refine hD3 j (by omega) ?_
        have h1 := ih.low j
        rcases Int.lt_or_le (atI p.2 j) 0 with h | h
        · omega
        · have h0 : 0 ≤ atI s.got j := hy.keep j h
          have hg : atI s.got j = -1 := hg
          omega
    | false =>
      have hno := hout.no rfl
      obtain ⟨hcl, hall⟩ := hlaw.2 rfl
      have e1 : s.owner = p.1 := hno.1
      have e2 : s.got = p.2 := hno.2
      rw [e1, e2] at hwf
      have hrng := hout.wf.rng
      simp only [e1, e2]
      refine ⟨⟨hwf, ih.conv, ih.low, fun n => D n ∨ n ∈ s.seen, ⟨fun n hn => ?_, fun n hn m hm => ?_⟩, fun n hn => hn.elim (hD2 n) (hrng n), fun j hj hg n hn => ?_⟩, fun j h => h⟩
      · rcases hn with hn | hn
        · exact hD1.taken n hn
        · exact (hcl.closed n hn (by simp)).1
      · rcases hn with hn | hn
        · exact .inl (hD1.all n hn m hm)
        · exact .inr ((hcl.closed n hn (by simp)).2 m hm)
      · by_cases hjk : j = k
        · subst hjk; exact .inr (hall n hn)
        · exact .inl (hD3 j (by omega) hg n hn)
theorem fromInv {es : Gr} {right : Int} (hv : validG es right = true) {p0 : List Int × List Int} (h0 : FromInv es right 0 p0) : ∀ k, k ≤ es.length → FromInv es right k (augFrom es right p0 k) ∧ ∀ j, 0 ≤ atI p0.2 j → 0 ≤ atI (augFrom es right p0 k).2 j
  | 0, _ => ⟨h0, fun j h => h⟩
  | k + 1, hk => by
    have ih := fromInv hv h0 k (by omega)
    unfold augFrom
    split
    · rename_i hg
      have h := from_step hv (by omega) ih.1 hg
      exact ⟨h.1, fun j hj => h.2 j (ih.2 j hj)⟩
    · rename_i hg
      obtain ⟨D, hD1, hD2, hD3⟩ := ih.1.dead
      refine ⟨⟨ih.1.wf, ih.1.conv, ih.1.low, D, hD1, hD2, fun j hj hgj => ?_⟩, ih.2⟩
      by_cases hjk : j = k
      · subst hjk; rw [hgj] at hg; omega
      · exact hD3 j (by omega) hgj
inductive AltR (es : Gr) (owner got : List Int) : Nat → Prop
  | free {i : Nat} : i < es.length → atI got i < 0 → AltR es owner got i
  | step {i j k : Nat} : AltR es owner got i → (k : Int) ∈ rowG es i → atI owner k = j → AltR es owner got j
def PlR (es : Gr) (owner got : List Int) (k : Nat) : Prop := ∃ i, AltR es owner got i ∧ (k : Int) ∈ rowG es i
theorem altR_dead {es : Gr} {right : Int} {p : List Int × List Int} (h : FromInv es right es.length p) : ∃ D : Int → Prop, Closed es p.1 D ∧ ∀ i, AltR es p.1 p.2 i → i < es.length ∧ ∀ n ∈ rowG es i, D n := by
  obtain ⟨D, hD1, hD2, hD3⟩ := h.dead
  refine ⟨D, hD1, fun i hi => ?_⟩
  induction hi with
  | free hi hg => exact ⟨hi, hD3 _ hi (by have := h.low (by assumption); omega)⟩
  | @step i j k _ hk ho ih =>
    have hDk := ih.2 k hk
    have := hD1.all k hDk
    rw [ho, Int.toNat_natCast] at this
    have h2 := (h.wf.own k).2
    have h3 : atI p.1 k = j := ho
    have h2 : atI p.1 k < es.length := h2
    exact ⟨by omega, this⟩
/-- a list of numbers below n for which something holds -/
structure IsSet (n : Nat) (P : Nat → Prop) (l : List Int) : Prop where
  form : Formed l n
  mem : ∀ k : Nat, (k : Int) ∈ l ↔ k < n ∧ P k
/-- the cover of what is reached proves that the matching is a greatest one -/
theorem cover_law {es : Gr} {r : Nat} (hv : validG es r = true) {p : List Int × List Int} (h : FromInv es r es.length p) {left right : List Int} (hl : IsSet es.length (fun i => ¬ AltR es p.1 p.2 i) left) (hr : IsSet r (PlR es p.1 p.2) right) :
    checkL es r p.2 left right = true := by
  have hvp := validG_parts hv
  obtain ⟨D, hD1, hD⟩ := altR_dead h
  have hlg : p.2.length = es.length := h.wf.lg
  have hm : IsM es p.2 := conv_isM (s := ⟨[], p.1, p.2⟩) hlg h.low h.conv
  have hown : ∀ n : Nat, atI p.1 n < es.length := fun n => (h.wf.own n).2
  have howns : ∀ n : Nat, 0 ≤ atI p.1 n → atI p.2 (atI p.1 n).toNat = n := fun n hn => h.conv.own n (by omega) hn
  have hrng : ∀ {l : List Int} {n : Nat}, Formed l n → ∀ x ∈ l, 0 ≤ x ∧ x < n := fun {l n} hf x hx => by
    obtain ⟨q, hq, rfl⟩ := List.getElem_of_mem hx
    have := hf.1 q hq
    rw [atI_eq hq] at this
    exact ⟨this.1, this.2.1⟩
  have htk : ∀ k : Nat, PlR es p.1 p.2 k → 0 ≤ atI p.1 k := fun k ⟨i, hi, hk⟩ => hD1.taken k ((hD i hi).2 k hk)
  have hcov : coversL es left right = true := by
    rw [coversL_iff]
    intro i hi
    by_cases ha : AltR es p.1 p.2 i
    · refine .inr fun n hn => ?_
      have h2 := hvp.2.2.2 i n hn
      obtain ⟨k, rfl⟩ : ∃ k : Nat, n = k := ⟨n.toNat, by omega⟩
      exact (hr.mem k).2 ⟨by omega, i, ha, hn⟩
    · exact .inl ((hl.mem i).2 ⟨hi, ha⟩)
  have hsz : sizeN p.2 = left.length + right.length := by
    have hle := weak hm hcov
    have hge : (left.map Int.toNat ++ right.map (fun n => (atI p.1 n.toNat).toNat)).length ≤ (matched p.2).length := by
      refine nodup_le ?_ ?_
      · rw [List.nodup_append]
        refine ⟨nodup_map _ hl.form.nodup (fun x hx y hy e => by have := hrng hl.form x hx; have := hrng hl.form y hy; omega), nodup_map _ hr.form.nodup (fun x hx y hy e => ?_), fun a ha b hb => ?_⟩
        · have h1 := hrng hr.form x hx
          have h2 := hrng hr.form y hy
          obtain ⟨k, rfl⟩ : ∃ k : Nat, x = k := ⟨x.toNat, by omega⟩
          obtain ⟨m, rfl⟩ : ∃ m : Nat, y = m := ⟨y.toNat, by omega⟩
          simp only [Int.toNat_natCast] at e
          have h3 := howns k (htk k ((hr.mem k).1 hx).2)
          have h4 := howns m (htk m ((hr.mem m).1 hy).2)
          rw [e, h4] at h3
          exact h3.symm
        · obtain ⟨x, hx, rfl⟩ := List.mem_map.1 ha
          obtain ⟨y, hy, rfl⟩ := List.mem_map.1 hb
          have h1 := hrng hl.form x hx
          have h2 := hrng hr.form y hy
          obtain ⟨i, rfl⟩ : ∃ i : Nat, x = i := ⟨x.toNat, by omega⟩
          obtain ⟨m, rfl⟩ : ∃ m : Nat, y = m := ⟨y.toNat, by omega⟩
          simp only [Int.toNat_natCast]
          intro e
          obtain ⟨j, hj, hk⟩ := ((hr.mem m).1 hy).2
          have h5 := htk m ((hr.mem m).1 hy).2
          exact ((hl.mem i).1 hx).2 (.step hj hk (by omega))
      · intro x hx
        rw [mem_matched]
        rcases List.mem_append.1 hx with hx | hx
        · obtain ⟨y, hy, rfl⟩ := List.mem_map.1 hx
          have h1 := hrng hl.form y hy
          obtain ⟨i, rfl⟩ : ∃ i : Nat, y = i := ⟨y.toNat, by omega⟩
          rw [Int.toNat_natCast]
          refine ⟨by omega, fun e => ((hl.mem i).1 hy).2 (.free (by omega) (by omega))⟩
        · obtain ⟨y, hy, rfl⟩ := List.mem_map.1 hx
          have h1 := hrng hr.form y hy
          obtain ⟨m, rfl⟩ : ∃ m : Nat, y = m := ⟨y.toNat, by omega⟩
          simp only [Int.toNat_natCast]
          have h2 := htk m ((hr.mem m).1 hy).2
          have h3 := hown m
          rw [howns m h2]
          exact ⟨by omega, by omega⟩
    simp only [List.length_append, List.length_map] at hge
    unfold sizeN at hle ⊢
    omega
  simp only [checkL, Bool.and_eq_true, decide_eq_true_eq]
  refine ⟨hv, formedB_iff.2 hl.form, formedB_iff.2 hr.form, hcov, ?_⟩
  rw [sizeL_yes hm, hsz]; omega
def preK (n r : Nat) (c : Nat → Option Int) : Nat → List Int × List Int
  | 0 => (List.replicate r (-1), List.replicate n (-1))
  | k + 1 => match c k with
    | none => preK n r c k
    | some m => if atI (preK n r c k).1 m.toNat < 0 then ((preK n r c k).1.set m.toNat k, (preK n r c k).2.set k m) else preK n r c k
structure PreInv (es : Gr) (r : Nat) (c : Nat → Option Int) (k : Nat) (p : List Int × List Int) : Prop where
  wf : AWF es r ⟨[], p.1, p.2⟩
  conv : Conv es ⟨[], p.1, p.2⟩ (-1)
  low : ∀ j, -1 ≤ atI p.2 j
  late : ∀ j, k ≤ j → atI p.2 j = -1
  from_ : ∀ j, 0 ≤ atI p.2 j → c j = some (atI p.2 j)
  tried : ∀ j, j < k → ∀ m, c j = some m → 0 ≤ atI p.1 m.toNat
theorem preInv {es : Gr} {r : Nat} (hv : validG es r = true) {c : Nat → Option Int} (hc : ∀ i m, i < es.length → c i = some m → m ∈ rowG es i) : ∀ k, k ≤ es.length → PreInv es r c k (preK es.length r c k)
  | 0, _ => by
    have e1 : (preK es.length r c 0).1 = List.replicate r (-1) := rfl
    have e2 : (preK es.length r c 0).2 = List.replicate es.length (-1) := rfl
    refine ⟨⟨by simp [preK], by simp [preK], fun n => ?_, List.nodup_nil, fun n h => by cases h⟩, ⟨fun j h => ?_, fun n _ h => ?_⟩, fun j => ?_, fun j _ => ?_, fun j h => ?_, fun j h => by omega⟩
    · show -1 ≤ atI (List.replicate r (-1)) n ∧ _
      rw [e1, atI_rep]; omega
    · have h : 0 ≤ atI (List.replicate es.length (-1)) j := h
      rw [atI_rep] at h; omega
    · have h : 0 ≤ atI (List.replicate r (-1)) n := h
      rw [atI_rep] at h; omega
    · rw [e2, atI_rep]; omega
    · rw [e2, atI_rep]
    · rw [e2, atI_rep] at h; omega
  | k + 1, hk => by
    have ih := preInv hv hc k (by omega)
    obtain ⟨p, hp⟩ : ∃ p, preK es.length r c k = p := ⟨_, rfl⟩
    rw [hp] at ih
    unfold preK
    rw [hp]
    cases hq : c k with
    | none => exact ⟨ih.wf, ih.conv, ih.low, fun j hj => ih.late j (by omega), ih.from_, fun j hj m hm => by
        by_cases e : j = k
        · subst e; rw [hq] at hm; cases hm
        · exact ih.tried j (by omega) m hm⟩
    | some m =>
      have hmr := hc k m (by omega) hq
      have hmn := (validG_parts hv).2.2.2 k m hmr
      have hlo : p.1.length = r := by have := ih.wf.lo; simpa using this
      have hlg : p.2.length = es.length := ih.wf.lg
      dsimp only
      split
      · rename_i hfree
        have ho : ∀ x : Nat, atI (p.1.set m.toNat k) x = if x = m.toNat then (k : Int) else atI p.1 x := fun x => atI_set _ (by omega) x
        have hg : ∀ x : Nat, atI (p.2.set k m) x = if x = k then m else atI p.2 x := fun x => atI_set _ (by omega) x
        have hwfp := ih.wf.pair (n := m) (i := (k : Int)) hmn ⟨by omega, by omega⟩
        refine ⟨⟨by simp [hlo], by simp [hlg], hwfp.own, List.nodup_nil, fun n h => by cases h⟩, ⟨fun j h => ?_, fun n _ h => ?_⟩, fun j => ?_, fun j hj => ?_, fun j h => ?_, fun j hj m2 hm2 => ?_⟩
        · have h : 0 ≤ atI (p.2.set k m) j := h
          show atI (p.2.set k m) j ∈ rowG es j ∧ atI (p.1.set m.toNat k) (atI (p.2.set k m) j).toNat = j
          rw [hg] at h ⊢
          by_cases e : j = k
          · subst e; rw [if_pos rfl]; exact ⟨hmr, by rw [ho, if_pos rfl]⟩
          · rw [if_neg e] at h ⊢
            have h1 := ih.conv.got j h
            have h1 : atI p.2 j ∈ rowG es j ∧ atI p.1 (atI p.2 j).toNat = j := h1
            refine ⟨h1.1, ?_⟩
            rw [ho, if_neg (fun e2 => ?_)]
            · exact h1.2
            · rw [e2] at h1; omega
        · have h : 0 ≤ atI (p.1.set m.toNat k) n := h
          show atI (p.2.set k m) (atI (p.1.set m.toNat k) n).toNat = n
          rw [ho] at h ⊢
          by_cases e : n = m.toNat
          · rw [if_pos e, Int.toNat_natCast, hg, if_pos rfl, e]; omega
          · rw [if_neg e] at h ⊢
            have h1 : atI p.2 (atI p.1 n).toNat = n := ih.conv.own n (by omega) h
            rw [hg, if_neg (fun e2 => ?_)]
            · exact h1
            · rw [e2, ih.late k (Nat.le_refl _)] at h1; omega
        · show -1 ≤ atI (p.2.set k m) j
          rw [hg]; split
          · omega
          · exact ih.low j
        · show atI (p.2.set k m) j = -1
          rw [hg, if_neg (by omega)]; exact ih.late j (by omega)
        · have h : 0 ≤ atI (p.2.set k m) j := h
          show c j = some (atI (p.2.set k m) j)
          rw [hg] at h ⊢
          by_cases e : j = k
          · subst e; rw [if_pos rfl]; exact hq
          · rw [if_neg e] at h ⊢; exact ih.from_ j h
        · show 0 ≤ atI (p.1.set m.toNat k) m2.toNat
          rw [ho]; split
          · omega
          · by_cases e : j = k
            · subst e; rw [hq] at hm2; cases hm2; contradiction
            · exact ih.tried j (by omega) m2 hm2
      · rename_i hfree
        exact ⟨ih.wf, ih.conv, ih.low, fun j hj => ih.late j (by omega), ih.from_, fun j hj m2 hm2 => by
          by_cases e : j = k
          · subst e; rw [hq] at hm2; cases hm2; omega
          · exact ih.tried j (by omega) m2 hm2⟩
/-- whose choice nobody else has stays -/
theorem pre_stays {es : Gr} {r : Nat} {c : Nat → Option Int} {p : List Int × List Int} (h : PreInv es r c es.length p) {i : Nat} (hi : i < es.length) {m : Int} (hm : c i = some m) (h0 : 0 ≤ m) (hone : ∀ j, j < es.length → c j = some m → j = i) : atI p.2 i = m := by
  have h1 := h.tried i hi m hm
  have h2 : atI p.2 (atI p.1 m.toNat).toNat = (m.toNat : Nat) := h.conv.own m.toNat (by omega) h1
  have h3 := h.from_ (atI p.1 m.toNat).toNat (by rw [h2]; omega)
  have h4 : atI p.1 m.toNat < es.length := (h.wf.own m.toNat).2
  rw [h2] at h3
  have h5 := hone (atI p.1 m.toNat).toNat (by omega) (by rw [h3]; congr 1; omega)
  rw [h5] at h2
  omega
theorem pre_from {es : Gr} {r : Nat} {c : Nat → Option Int} {k : Nat} {p : List Int × List Int} (h : PreInv es r c k p) : FromInv es r 0 p := from_start h.wf h.conv h.low
end Go.Proofs.Ytnnendajegdnhaa
