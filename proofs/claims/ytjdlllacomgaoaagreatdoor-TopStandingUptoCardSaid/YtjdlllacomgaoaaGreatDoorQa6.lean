/- Parts of the proof, joined: the program logic, the plain theory, the walks, as they are named inside. No condition. -/
import Derived.Test.YtjdlllacomgaoaaGreatDoorChecked
import Derived.Test.YtjdlllacomgaoaaGreatDoorQa2
import Derived.Test.YtjdlllacomgaoaaGreatDoorQa5
import Derived.Test.YtjdlllacomgaoaaGreatDoorRows
import Derived.Test.YtjdlllacomgaoaaGreatDoorCards
import Derived.Test.YtjdlllacomgaoaaGreatDoorTie
import Derived.Test.YtjdlllacomgaoaaGreatDoorQa1
import Derived.WalkKit
import Derived.ProofKit
import Derived.OpenShut
import Derived.LaidMore
import Derived.Lay
import Derived.SevenTiedAt
import Derived.Stop.Joined
import Derived.Deep.DeepHandedRow
set_option linter.unusedVariables false
set_option linter.unusedSimpArgs false
namespace Go.Proofs.YtjdlllacomgaoaaGreatDoor
section
open Go Go.Gw _root_.Go.Proofs.Tryz
abbrev Key := Int × Int × Int × Int
def keyP (p : Pl) : Key := (p.level, p.block, p.row, p.seat)
theorem sameN_key {p q : Pl} : sameN p q = true ↔ keyP p = keyP q := by
  unfold sameN keyP
  simp only [Bool.and_eq_true, decide_eq_true_eq, Prod.mk.injEq, and_assoc]
def KeyLt (n i k : Int) (x : Key) : Prop := x.1 < n ∨ (x.1 = n ∧ (x.2.1 < i ∨ (x.2.1 = i ∧ x.2.2.1 < k)))
structure KInv (n i k : Int) (K : List Key) : Prop where
  nd : K.Nodup
  lt : ∀ x ∈ K, KeyLt n i k x
theorem KInv.weaken {n i k k' : Int} {K : List Key} (h : KInv n i k K) (hk : k ≤ k') : KInv n i k' K := ⟨h.nd, fun x hx => by have := h.lt x hx; unfold KeyLt at this ⊢; omega⟩
theorem KInv.blk {n i i' k k' : Int} {K : List Key} (h : KInv n i k K) (hi : i < i') : KInv n i' k' K := ⟨h.nd, fun x hx => by have := h.lt x hx; unfold KeyLt at this ⊢; omega⟩
theorem KInv.lev {n i i' k k' : Int} {K : List Key} (h : KInv n i k K) : KInv (n + 1) i' k' K := ⟨h.nd, fun x hx => by have := h.lt x hx; unfold KeyLt at this ⊢; omega⟩
theorem KInv.add {n i k : Int} {K : List Key} (h : KInv n i k K) (ss : List Int) (hs : ss.Nodup) : KInv n i (k + 1) (K ++ ss.map fun s => (n, i, k, s)) := by
  refine ⟨?_, fun x hx => ?_⟩
  · rw [List.nodup_append]
    refine ⟨h.nd, ?_, fun a ha b hb => ?_⟩
    · refine List.Pairwise.map _ (fun a b hab e => hab ?_) hs
      exact congrArg (fun q : Key => q.2.2.2) e
    obtain ⟨s, _, rfl⟩ := List.mem_map.1 hb
    rintro rfl
    have := h.lt _ ha
    unfold KeyLt at this
    dsimp only at this
    omega
  rcases List.mem_append.1 hx with hx | hx
  · have := h.lt x hx; unfold KeyLt at this ⊢; omega
  obtain ⟨s, _, rfl⟩ := List.mem_map.1 hx
  unfold KeyLt
  dsimp only
  omega
theorem seatsP_first (r : RowV) : ∀ k, (∀ p ∈ seatsP r k, p.1 < r.from_ + (k : Int)) ∧ ((seatsP r k).map (·.1)).Pairwise (· < ·)
  | 0 => ⟨fun p h => by simp [seatsP] at h, by simp [seatsP]⟩
  | k + 1 => by
    obtain ⟨h1, h2⟩ := seatsP_first r k
    rw [seatsP]
    split
    · exact ⟨fun p h => by have := h1 p h; omega, h2⟩
    refine ⟨fun p h => ?_, ?_⟩
    · rcases List.mem_append.1 h with h | h
      · have := h1 p h; omega
      rw [List.mem_singleton.1 h]; dsimp only; omega
    rw [List.map_append, List.pairwise_append]
    refine ⟨h2, by simp, fun u hu v hv => ?_⟩
    obtain ⟨p, hp, rfl⟩ := List.mem_map.1 hu
    rw [List.map_cons, List.map_nil, List.mem_singleton] at hv
    rw [hv]; exact h1 p hp
theorem seatsR_nd (r : RowV) : ((seatsR r).map (·.1)).Nodup := List.Pairwise.imp (fun h => by omega) (seatsP_first r (seatsN r)).2
theorem mkR_key (h : HallV) (n : Nat) (L : LevV) (i k : Nat) (r : RowV) (p : Int × Int) : keyP (mkR h n L i k r p) = ((n : Int), (i : Int), (k : Int), p.1) := by
  unfold mkR mkPl
  split
  · rfl
  split
  · rfl
  split <;> rfl
theorem setW_key (out : List Pl) (q : Nat) (v : Int) : (setW out q v).map keyP = out.map keyP := by
  apply List.ext_getElem (by rw [List.length_map, List.length_map, setW_len])
  intro j h1 h2
  rw [List.getElem_map, List.getElem_map]
  have hj : j < out.length := by rw [List.length_map] at h2; exact h2
  show keyP ((out.set q { out.getD q plZ with with_ := v })[j]'(by rw [List.length_set]; exact hj)) = _
  rw [List.getElem_set]
  split
  · rename_i e
    subst e
    rw [getD_at2 hj]; rfl
  rfl
theorem besideS_key (M : Int → Option Int) (r : RowV) (out : List Pl) (s : Int) : (besideS M r out s).map keyP = out.map keyP := by
  unfold besideS
  split
  · dsimp only
    split
    · rw [setW_key, setW_key]
    rw [setW_key]
  rfl
theorem fold_key {M : Int → Option Int} {r : RowV} : ∀ (l : List (Int × Int)) (o : List Pl), (l.foldl (fun o p => besideS M r o p.1) o).map keyP = o.map keyP
  | [], _ => rfl
  | p :: l, o => by rw [List.foldl_cons, fold_key l, besideS_key]
theorem rowPl_key (h : HallV) (n : Nat) (L : LevV) (i k : Nat) (r : RowV) (out : List Pl) : (rowPl h n L i k r out).map keyP = out.map keyP ++ ((seatsR r).map (·.1)).map fun s => ((n : Int), (i : Int), (k : Int), s) := by
  unfold rowPl
  rw [fold_key, List.map_append, List.map_map, List.map_map]
  congr 1
  exact List.map_congr_left fun p _ => mkR_key h n L i k r p
theorem rowsP_key {h : HallV} {n : Nat} {L : LevV} {i : Nat} {B : BlockV} {out : List Pl} (h0 : KInv n i 0 (out.map keyP)) : ∀ k, k ≤ B.rows.length → KInv n i k ((rowsP h n L i B out k).map keyP)
  | 0, _ => h0
  | k + 1, hk => by
    have ih := rowsP_key (h := h) (L := L) (B := B) h0 k (by omega)
    rw [rowsP_s h n L i B out (show k < B.rows.length by omega), rowPl_key]
    have := ih.add _ (seatsR_nd B.rows[k])
    rw [show ((k + 1 : Nat) : Int) = (k : Int) + 1 by omega]
    exact this
theorem blocksP_key {h : HallV} {n : Nat} {L : LevV} {out : List Pl} (h0 : KInv n 0 (-1) (out.map keyP)) : ∀ i, i ≤ L.blocks.length → KInv n i (-1) ((blocksP h n L out i).map keyP)
  | 0, _ => h0
  | i + 1, hi => by
    have ih := blocksP_key (h := h) (L := L) h0 i (by omega)
    rw [blocksP_s h n L out (show i < L.blocks.length by omega)]
    exact (rowsP_key (ih.weaken (by omega)) _ (Nat.le_refl _)).blk (by omega)
theorem areasP_key {h : HallV} {n : Nat} {L : LevV} {out : List Pl} (h0 : KInv n L.blocks.length (-1) (out.map keyP)) : ∀ i, i ≤ L.areas.length → KInv n ((L.blocks.length : Int) + i) (-1) ((areasP h n L out i).map keyP)
  | 0, _ => by rw [show ((L.blocks.length : Int) + ((0 : Nat) : Int)) = L.blocks.length by omega]; exact h0
  | i + 1, hi => by
    have ih := areasP_key (h := h) (L := L) h0 i (by omega)
    rw [areasP_s h n L out (show i < L.areas.length by omega), List.map_append, List.map_map]
    have hs : ((List.range L.areas[i].holds.toNat).map fun s : Nat => (s : Int) + 1).Nodup := by
      refine List.Pairwise.map _ (fun a b hab e => hab ?_) List.nodup_range
      omega
    have h2 := ih.add _ hs
    rw [List.map_map] at h2
    exact h2.blk (by omega)
theorem levsP_key (h : HallV) : ∀ n, n ≤ h.levels.length → KInv n 0 (-1) ((levsP h n).map keyP)
  | 0, _ => ⟨by simp [levsP], fun x hx => by simp [levsP] at hx⟩
  | n + 1, hn => by
    have ih := levsP_key h n (by omega)
    rw [levsP_s h (show n < h.levels.length by omega), show ((n + 1 : Nat) : Int) = (n : Int) + 1 by omega]
    exact (areasP_key (blocksP_key ih _ (Nat.le_refl _)) _ (Nat.le_refl _)).lev
theorem placesR_diff (h : HallV) : Diff (placesR h) := by
  have hn := (levsP_key h h.levels.length (Nat.le_refl _)).nd
  intro i hi k hk
  have h9 := List.pairwise_iff_getElem.1 hn k i (by rw [List.length_map]; exact Nat.lt_trans hk hi) (by rw [List.length_map]; exact hi) hk
  rw [List.getElem_map, List.getElem_map] at h9
  cases hs : sameN (placesR h)[i] ((placesR h)[k]'(Nat.lt_trans hk hi)) with
  | false => rfl
  | true => exact absurd (sameN_key.1 hs).symm h9
def WL (l : List Pl) : Prop := ∀ p ∈ l, p.with_ ≤ (l.length : Int)
theorem WL.snoc {l m : List Pl} (h : WL l) (hm : ∀ p ∈ m, p.with_ = -1) : WL (l ++ m) := fun p hp => by
  rw [List.length_append]
  rcases List.mem_append.1 hp with hp | hp
  · have := h p hp; omega
  have := hm p hp; omega
theorem setW_wb {out : List Pl} {q : Nat} {v b : Int} (h : ∀ p ∈ out, p.with_ ≤ b) (hv : v ≤ b) : ∀ p ∈ setW out q v, p.with_ ≤ b := fun p hp => by
  rcases List.mem_or_eq_of_mem_set hp with hp | rfl
  · exact h p hp
  exact hv
theorem besideS_wb {M : Int → Option Int} {r : RowV} {out : List Pl} {s b : Int} {N : Nat} (hM : MapOK M N) (hN : (N : Int) ≤ b) (h : ∀ p ∈ out, p.with_ ≤ b) : ∀ p ∈ besideS M r out s, p.with_ ≤ b := by
  have h1 := hM (markR r s).with_
  have h2 := hM s
  unfold besideS
  split
  · dsimp only
    split
    · exact setW_wb (setW_wb h (by omega)) (by omega)
    exact setW_wb h (by omega)
  exact h
theorem fold_wb {M : Int → Option Int} {r : RowV} {b : Int} {N : Nat} (hM : MapOK M N) (hN : (N : Int) ≤ b) : ∀ (l : List (Int × Int)) (o : List Pl), (∀ p ∈ o, p.with_ ≤ b) → ∀ p ∈ l.foldl (fun o p => besideS M r o p.1) o, p.with_ ≤ b
  | [], o, h => h
  | q :: l, o, h => by rw [List.foldl_cons]; exact fold_wb hM hN l _ (besideS_wb hM hN h)
theorem mkR_with (h : HallV) (n : Nat) (L : LevV) (i k : Nat) (r : RowV) (p : Int × Int) : (mkR h n L i k r p).with_ = -1 := by
  unfold mkR mkPl
  split
  · rfl
  split
  · rfl
  split <;> rfl
theorem rowPl_wl {h : HallV} {n : Nat} {L : LevV} {i k : Nat} {r : RowV} {out : List Pl} (h0 : WL out) : WL (rowPl h n L i k r out) := by
  have hl := rowPl_len h n L i k r out
  have h1 : WL (out ++ (seatsR r).map (mkR h n L i k r)) := h0.snoc fun p hp => by
    obtain ⟨q, _, rfl⟩ := List.mem_map.1 hp
    exact mkR_with ..
  by_cases hs : seatsR r = []
  · unfold rowPl
    rw [hs] at h1 ⊢
    exact h1
  have hp : 0 < (seatsR r).length := List.length_pos_iff.2 hs
  have hM : MapOK (rowMap r out.length) (out.length + (seatsR r).length) := atN_ok out.length (seatsR r) (by omega) _ (Nat.le_refl _)
  have h2 := fold_wb (r := r) hM (Int.le_refl _) (seatsR r) (out ++ (seatsR r).map (mkR h n L i k r)) (fun p hp => by have := h1 p hp; rw [List.length_append, List.length_map] at this; exact this)
  intro p hp
  rw [hl]
  exact h2 p hp
theorem rowsP_wl {h : HallV} {n : Nat} {L : LevV} {i : Nat} {B : BlockV} {out : List Pl} (h0 : WL out) : ∀ k, k ≤ B.rows.length → WL (rowsP h n L i B out k)
  | 0, _ => h0
  | k + 1, hk => by
    rw [rowsP_s h n L i B out (show k < B.rows.length by omega)]
    exact rowPl_wl (rowsP_wl h0 k (by omega))
theorem blocksP_wl {h : HallV} {n : Nat} {L : LevV} {out : List Pl} (h0 : WL out) : ∀ i, i ≤ L.blocks.length → WL (blocksP h n L out i)
  | 0, _ => h0
  | i + 1, hi => by
    rw [blocksP_s h n L out (show i < L.blocks.length by omega)]
    exact rowsP_wl (blocksP_wl h0 i (by omega)) _ (Nat.le_refl _)
theorem areasP_wl {h : HallV} {n : Nat} {L : LevV} {out : List Pl} (h0 : WL out) : ∀ i, i ≤ L.areas.length → WL (areasP h n L out i)
  | 0, _ => h0
  | i + 1, hi => by
    rw [areasP_s h n L out (show i < L.areas.length by omega)]
    refine (areasP_wl h0 i (by omega)).snoc fun p hp => ?_
    obtain ⟨q, _, rfl⟩ := List.mem_map.1 hp
    rfl
theorem levsP_wl (h : HallV) : ∀ n, n ≤ h.levels.length → WL (levsP h n)
  | 0, _ => fun p hp => by simp [levsP] at hp
  | n + 1, hn => by
    rw [levsP_s h (show n < h.levels.length by omega)]
    exact areasP_wl (blocksP_wl (levsP_wl h n (by omega)) _ (Nat.le_refl _)) _ (Nat.le_refl _)
theorem placesR_wl (h : HallV) : WL (placesR h) := levsP_wl h _ (Nat.le_refl _)
def adj (x : Int) (p : Pl) : Pl := if p.with_ > x then { p with with_ := p.with_ - 1 } else p
def adjK (x : Int) (l : List Pl) (k : Nat) : List Pl := (l.take k).map (adj x) ++ l.drop k
theorem adjK_len (x : Int) (l : List Pl) (k : Nat) : (adjK x l k).length = l.length := by unfold adjK; simp; omega
theorem adjK_get {x : Int} {l : List Pl} {k : Nat} (h : k < l.length) (h2 : k < (adjK x l k).length) : (adjK x l k)[k] = l[k] := by
  have hl : ((l.take k).map (adj x)).length = k := by simp; omega
  have e : (adjK x l k)[k]? = some l[k] := by
    unfold adjK
    rw [List.getElem?_append_right (by rw [hl]; exact Nat.le_refl _), hl, Nat.sub_self, List.getElem?_drop, Nat.add_zero, List.getElem?_eq_getElem h]
  rw [List.getElem?_eq_getElem h2, Option.some.injEq] at e
  exact e
theorem adjK_s {x : Int} {l : List Pl} {k : Nat} (h : k < l.length) : (adjK x l k).set k (adj x l[k]) = adjK x l (k + 1) := by
  have hl : ((l.take k).map (adj x)).length = k := by simp; omega
  unfold adjK
  rw [List.set_append_right _ _ (by rw [hl]; exact Nat.le_refl _), hl, Nat.sub_self, List.drop_eq_getElem_cons h, List.set_cons_zero, List.take_succ_eq_append_getElem h, List.map_append, List.append_assoc]
  rfl
theorem adjK_n {x : Int} {l : List Pl} {k : Nat} (h : k < l.length) (hw : ¬ l[k].with_ > x) : adjK x l (k + 1) = adjK x l k := by
  have e : adj x l[k] = l[k] := by unfold adj; rw [if_neg hw]
  unfold adjK
  rw [List.take_succ_eq_append_getElem h, List.map_append, List.append_assoc, List.map_cons, List.map_nil, e, List.drop_eq_getElem_cons h]
  rfl
theorem adjK_all (x : Int) (l : List Pl) : adjK x l l.length = l.map (adj x) := by unfold adjK; rw [List.take_length, List.drop_length, List.append_nil]
theorem adj_key (x : Int) (p : Pl) : keyP (adj x p) = keyP p := by unfold adj; split <;> rfl
theorem adj_good {x : Int} (hx : 0 ≤ x) (p : Pl) : refAtLeast (adj x p) p = true := by
  unfold adj
  split
  · simp only [refAtLeast, beq_self_eq_true, Bool.true_and, Bool.and_eq_true, Bool.or_eq_true, decide_eq_true_eq]; omega
  exact refAtLeast_refl p
def gapL (old : List Pl) (x : Nat) : List Pl := old.take x ++ old.drop (x + 1)
theorem gapL_mem {old : List Pl} {x : Nat} {p : Pl} (h : p ∈ gapL old x) : p ∈ old := by
  rcases List.mem_append.1 h with h | h
  · exact List.mem_of_mem_take h
  exact List.mem_of_mem_drop h
theorem gapL_len {old : List Pl} {x : Nat} (h : x < old.length) : (gapL old x).length + 1 = old.length := by unfold gapL; simp; omega
theorem gapL_get {old : List Pl} {x y : Nat} (h : x < old.length) (hy : y < old.length) (hne : y ≠ x) : ∃ n, ∃ hn : n < (gapL old x).length, (gapL old x)[n] = old[y] := by
  have hl := gapL_len h
  have ht : (old.take x).length = x := by rw [List.length_take]; omega
  by_cases hlt : y < x
  · refine ⟨y, by omega, ?_⟩
    unfold gapL
    rw [List.getElem_append_left (by omega), List.getElem_take]
  refine ⟨y - 1, by omega, ?_⟩
  unfold gapL
  rw [List.getElem_append_right (by omega), List.getElem_drop]
  congr 1
  omega
def wN (ms : List Mv) (k : Nat) : Nat := ((ms.take k).filter fun m => decide (m.to_ < 0)).length
theorem wN_s {ms : List Mv} {k : Nat} (h : k < ms.length) : wN ms (k + 1) = wN ms k + if ms[k].to_ < 0 then 1 else 0 := by
  unfold wN
  rw [List.take_succ_eq_append_getElem h, List.filter_append, List.length_append, List.filter_cons, List.filter_nil]
  by_cases h0 : ms[k].to_ < 0
  · rw [if_pos (decide_eq_true h0), if_pos h0]; rfl
  rw [if_neg (by rw [decide_eq_true_eq]; exact h0), if_neg h0]; rfl
theorem filter_one {α : Type} {p : α → Bool} : ∀ {l : List α}, l.Pairwise (fun a b => ¬ (p a = true ∧ p b = true)) → (l.filter p).length ≤ 1
  | [], _ => by simp
  | a :: l, h => by
    obtain ⟨h1, h2⟩ := List.pairwise_cons.1 h
    rw [List.filter_cons]
    split
    · rename_i ha
      rw [List.filter_eq_nil_iff.2 fun b hb hpb => h1 b hb ⟨ha, hpb⟩]; simp
    exact filter_one h2
theorem gap_one {old : List Pl} {cs : List Nat} {ts : List Ow} (hts : ts = soldR old.length cs) (hd : Diff old) {x : Nat} (hx : x < old.length) {ms : List Mv} (h : PlanM old ((gapL old x).map (adj x)) ts ms) : wN ms ms.length ≤ 1 := by
  subst hts
  have hmv := sold_moved old.length cs
  have hlen := h.len
  have hpl := sold_pl old.length cs
  unfold wN
  rw [List.take_length]
  refine filter_one (List.pairwise_iff_getElem.2 fun i j hi hj hij => ?_)
  rintro ⟨e1, e2⟩
  have key : ∀ q (hq : q < ms.length), decide (ms[q].to_ < 0) = true → ((soldR old.length cs)[q]'(by rw [hmv] at hlen; omega)).place = x := fun q hq e => by
    have hq2 : q < (soldR old.length cs).length := by rw [hmv] at hlen; omega
    have hz := (sold_inv old.length cs).z _ (List.getElem_mem hq2)
    obtain ⟨s, p, ep, hp0, hp1⟩ := hz
    have hpp : (soldR old.length cs)[q].place = p := by rw [ep]; rfl
    obtain ⟨y, rfl⟩ : ∃ y : Nat, p = y := ⟨p.toNat, by omega⟩
    by_cases hyx : y = x
    · rw [hpp, hyx]
    exfalso
    obtain ⟨n, hn, hg⟩ := gapL_get hx (show y < old.length by omega) hyx
    have hn2 : n < ((gapL old x).map (adj x)).length := by rw [List.length_map]; exact hn
    have hge : ((gapL old x).map (adj x))[n] = adj x old[y] := by rw [List.getElem_map, hg]
    have h9 := h.stands hd (i := q) (x := y) (n := n) hq (by rw [hmv]; exact hq2) (by simp only [hmv]; exact hpp) (by omega) hn2 (by rw [hge]; exact sameN_key.2 (adj_key _ _).symm) (by rw [hge]; exact adj_good (by omega) _)
    have := of_decide_eq_true e
    omega
  have h1 := key i hi e1
  have h2 := key j hj e2
  exact (hpl j (by rw [hmv] at hlen; omega)).2 i hij (by rw [h1, h2])
theorem same_all {old : List Pl} {cs : List Nat} {ts : List Ow} (hts : ts = soldR old.length cs) (hd : Diff old) {ms : List Mv} (h : PlanM old old ts ms) {k : Nat} (hk : k < ms.length) (hk2 : k < ts.length) : ms[k].to_ = ts[k].place ∧ ms[k].row.2 = [] := by
  subst hts
  have hmv := sold_moved old.length cs
  obtain ⟨s, p, ep, hp0, hp1⟩ := (sold_inv old.length cs).z _ (List.getElem_mem hk2)
  have hpp : (soldR old.length cs)[k].place = p := by rw [ep]; rfl
  obtain ⟨y, rfl⟩ : ∃ y : Nat, p = y := ⟨p.toNat, by omega⟩
  have e := h.same hd (i := k) (x := y) hk (by rw [hmv]; exact hk2) (by simp only [hmv]; exact hpp)
  refine ⟨by rw [e, hpp], ?_⟩
  rw [h.offers hk (by rw [old_len, hmv]; exact hk2), if_neg (by omega)]
set_option maxHeartbeats 8000000 in
theorem standing_law (h : HallV) (cv : Value) (cs : List Nat) (raw : Nat) (w0 : World) (hH : (HallA h).ok w0) (hB : HallB h) (hv : IsSl w0 cv 1 encC16 cs) (hc : ∀ c ∈ cs, c < 65536) (hraw : raw < 256) :
    Ret Tryz.prog 3 #[.agg (HallV.enc h).toArray, cv, .int .u8 (raw : Int)] w0 (fun u w => u = .bool true ∧ Ext w0 w) := by
 refine ret_of_wp (nt := 187) Tryz.func3 rfl rfl rfl (fl := [(0, .agg (HallV.enc h).toArray), (1, cv), (2, .int .u8 (raw : Int))]) rfl (fun a S => ?_)
 have H := HSat.start w0
 have H := H.ro0 (HallA h) rfl (hH)
 have H := H.ro0 (Sl cv 1 encC16 cs) rfl (hv)
 have hlen := hv.len
 refine gsr <| wl_of (op_boxa (wn rfl) rfl rfl rfl S H rfl fun b3 a w S H => q_as S rfl fun a S => gnt ?_)
 refine gsr <| q_cl S rfl call5 (halls_spec _) fun v w hc a S => ?_
 obtain ⟨rfl, he⟩ := hc
 have H := H.ext he
 refine q_as S rfl fun a S => gnt <| g_seq <| gsr <| gq rfl S (y_load0 rfl S H rfl (by exact Fagg26)) fun a S => ?_
 refine q_cl S rfl call6 (small_spec h _ (H.ok (HallA h) (by simp)) hB) fun v w hc a S => ?_
 obtain ⟨rfl, he⟩ := hc
 have H := H.ext he
 refine gq rfl S (y_not rfl S rfl) fun a S => q_mv S rfl fun a S => ?_
 refine' wl_or 3 25 rfl S H rfl rfl rfl rfl rfl rfl rfl (fun _ S => (wn rfl)) (fun h1 kk => ?yh1) (fun a w S H => ?_)
 case yh1 =>
  exact gz 25 h1 S rfl rfl rfl rfl rfl rfl (y_move rfl S rfl) fun a S => gz 25 h1 S rfl rfl rfl rfl rfl rfl (y_lens rfl underlying27 S H rfl) fun a S => gz 25 h1 S rfl rfl rfl rfl rfl rfl (y_bin rfl S rfl rfl rfl) fun a S => gq rfl S (y_or' rfl h1 S rfl rfl) fun a S => kk _ _ (S.join 4 29 rfl rfl) H
 refine gnt ?_
 have S := S.sel [29, 7, 6, 3, 1, 2] rfl
 refine c_if S rfl (fun h2 => ?_) (fun h2 => ?_)
 ·have h2p := h2; try simp only [DL] at h2p
  refine gsr <| q_mv S rfl fun a S => q_as S rfl fun a S => gnt <| g_ret <| r_then (ret1 rfl S rfl ?_)
  exact ⟨rfl, H.toExt⟩
 have h2p := h2; try simp only [DL] at h2p
 have hcl : cs.length ≤ 60 := by have h9 := h2p; omega
 refine g_skip <| n_then <| gsr <| gq rfl S (y_load0 rfl S H rfl (by exact Fagg26)) fun a S => ?_
 refine q_cl S rfl call7 (build_spec h _ (H.ok (HallA h) (by simp)) hB) fun v w hc a S => ?_
 obtain ⟨ov, fv, ps, fs, rfl, hp0, hp1, _, hfb, H1⟩ := hc
 have H := H.call2 H1 rfl rfl
 have hpl := (H.sl ov).len
 have hfl := (H.sl fv).len
 refine q_mv S rfl fun a S => gq rfl S (y_extract rfl S rfl rfl) fun a S => gq rfl S (y_extract rfl S rfl rfl) fun a S => q_as S rfl fun a S => q_as S rfl fun a S => gnt ?_
 have S := S.sel [9, 8, 7, 6, 1, 2] rfl
 refine g_seq <| gsr <| q_mv S rfl fun a S => gq rfl S (y_lens rfl underlying31 S H rfl) fun a S => q_bn S rfl fun a S => q_mv S rfl fun a S => ?_
 refine' wl_or 3 39 rfl S H rfl rfl rfl rfl rfl rfl rfl (fun _ S => (wn rfl)) (fun h3 kk => ?yh3) (fun a w S H => ?_)
 case yh3 =>
  exact gz 39 h3 S rfl rfl rfl rfl rfl rfl (y_move rfl S rfl) fun a S => gz 39 h3 S rfl rfl rfl rfl rfl rfl (y_lens rfl underlying30 S H rfl) fun a S => gz 39 h3 S rfl rfl rfl rfl rfl rfl (y_bin rfl S rfl rfl rfl) fun a S => gq rfl S (y_or' rfl h3 S rfl rfl) fun a S => kk _ _ (S.join 4 43 rfl rfl) H
 refine gnt ?_
 have S := S.sel [43, 8, 7, 6, 1, 2] rfl
 refine c_if S rfl (fun h4 => ?_) (fun h4 => ?_)
 ·have h4p := h4; try simp only [DL] at h4p
  refine gsr <| q_mv S rfl fun a S => q_as S rfl fun a S => gnt <| g_ret <| r_then (ret1 rfl S rfl ?_)
  exact ⟨rfl, H.toExt⟩
 have h4p := h4; try simp only [DL] at h4p
 have h29 := h4p
 obtain ⟨_, hps⟩ := hp1 (by omega)
 have hps2 : ps.length ≤ 200 := by omega
 have hd : Diff ps := by rw [hps]; exact placesR_diff h
 refine g_skip <| n_then <| gsr <| q_mv S rfl fun a S => gq rfl S (y_lens rfl underlying30 S H rfl) fun a S => q_mv S rfl fun a S => wl_of (op_call (wn rfl) rfl rfl S (co_func rfl call8 S rfl) (sold_spec ps.length cv cs _ (H.sl cv) hc (by omega) (by omega)) fun sv w hc a S => ?_)
 have H1 := hc
 have H := (H.call1 H1 rfl)
 obtain ⟨ts, hts⟩ : ∃ ts, ts = soldR ps.length cs := ⟨_, rfl⟩
 rw [← hts] at H
 have hok : ∀ o ∈ ts, o.ok := by rw [hts]; exact sold_ok _ _
 have htl : ts.length ≤ 30 := by rw [hts]; exact sold_len _ _
 have herr : errP ps ps ts = 0 := by rw [hts]; exact sold_err cs (by omega) (by omega)
 have hmvd : movedL ts = ts := by rw [hts]; exact sold_moved _ _
 have hpk : PlOK ps.length ts := by rw [hts]; exact sold_pl _ _
 have hsi : SoldI ps.length ts := by rw [hts]; exact sold_inv _ _
 have H := (H.front (OSl 57 ov 9 Pl.enc ps)).freeze
 refine q_as S rfl fun a S => gnt ?_
 have S := S.sel [10, 8, 7, 6, 2] rfl
 refine gsr <| q_mv S rfl fun a S => q_mv S rfl fun a S => q_mv S rfl fun a S => q_cl S rfl call9 (plan_any ov ov ps ps sv ts _ (H.sl ov) (H.sl ov) (H.sl sv) hok (by omega)) fun v w hc a S => ?_
 obtain ⟨mv, vl, vr, ms, rfl, hms, H1⟩ := hc
 have H := H.call4 H1 rfl rfl rfl rfl
 rw [herr] at S
 have hM := planM herr hms
 have hml : ms.length = ts.length := by rw [hM.len, hmvd]
 refine q_mv S rfl fun a S => ?_
 refine gq rfl S (y_extract rfl S rfl rfl) fun a S => ?_
 refine gq rfl S (y_extract rfl S rfl rfl) fun a S => ?_
 refine q_al S H rfl Fzer41 fun b11 a w S H => ?_
 refine wl_of (op_storea (wn rfl) rfl rfl S H rfl rfl (by simp only [List.all_cons, List.all_nil, H.sl1 mv, H.sl1 vl, H.sl1 vr]; rfl) Fsiz41 rfl (cs' := [_, _, _]) rfl fun a w S H => ?_)
 refine q_as S rfl fun a S => gnt ?_
 have S := S.sel [12, 11, 10, 8, 7, 6, 2] rfl
 refine g_seq <| gsr <| q_mv S rfl fun a S => q_bn S rfl fun a S => q_mv S rfl fun a S => ?_
 refine' wl_or 6 58 rfl S H rfl rfl rfl rfl rfl rfl rfl (fun _ S => (wn rfl)) (fun h5 kk => ?yh5) (fun a w S H => ?_)
 case yh5 =>
  exact gz 58 h5 S rfl rfl rfl rfl rfl rfl (y_faddrb rfl Ffo41_0 S rfl) fun a S => gz 58 h5 S rfl rfl rfl rfl rfl rfl (y_load rfl Fsca36 S H rfl rfl) fun a S => gz 58 h5 S rfl rfl rfl rfl rfl rfl (y_lens rfl underlying36 S H rfl) fun a S => gz 58 h5 S rfl rfl rfl rfl rfl rfl (y_move rfl S rfl) fun a S => gz 58 h5 S rfl rfl rfl rfl rfl rfl (y_lens rfl underlying34 S H rfl) fun a S => gz 58 h5 S rfl rfl rfl rfl rfl rfl (y_bin rfl S rfl rfl rfl) fun a S => gq rfl S (y_or' rfl h5 S rfl rfl) fun a S => kk _ _ (S.join 7 65 rfl rfl) H
 refine gnt ?_
 have S := S.sel [65, 11, 10, 8, 7, 6, 2] rfl
 refine c_if S rfl (fun h6 => ?_) (fun h6 => ?_)
 ·have h6p := h6; try simp only [DL] at h6p
  all_goals (
    exfalso
    have h9 := h6
    simp [hml] at h9)
 have h6p := h6; try simp only [DL] at h6p
 skip
 refine g_skip <| n_then <| g_seq <| gsr <| q_as S rfl fun a S => gnt <| g_block ?_
 have SU := S.sel [11, 10, 8, 7, 2] rfl
 refine loop_k (X := Nat) SU (fun k => [(13, .int .i64 (k : Int))]) (fun k => k ≤ ts.length) (fun k => ts.length - k) 0 (S.sel [13] rfl) H (Nat.zero_le _) (fun k a w S H hi => ?_)
 simp only [List.cons_append, List.nil_append] at S hi
 have hk := hi
 refine g_seq <| gsr <| q_mv S rfl fun a S => q_mv S rfl fun a S => gq rfl S (y_lens rfl underlying34 S H rfl) fun a S => q_bn S rfl fun a S => gnt <| c_if S rfl (fun h7 => ?_) (fun h7 => ?_)
 ·have h7p := h7; try simp only [DL] at h7p
  have hkt : k < ts.length := by omega
  have hkm : k < ms.length := by omega
  have hsa := same_all hts hd hM hkm hkt
  refine g_skip <| n_then ?_
  have S := S.sel [13, 11, 10, 8, 7, 2] rfl
  refine g_seq <| g_block <| g_seq <| region_st (loud := []) (tails := []) (free := []) [0, 1, 2, 3, 4, 5, 6, 7, 8, 9, 10, 11, 12, 13, 14, 15, 16, 17, 18, 19, 20, 21, 22] [] Fmo (by kernel_rfl) (by kernel_rfl) rfl H ?_
  refine m_q rfl S (fun w H => y_faddrb rfl Ffo41_0 S rfl) fun a S => m_q rfl S (fun w H => y_load rfl Fsca36 S H rfl rfl) fun a S => m_q rfl S (fun w H => y_move rfl S rfl) fun a S => m_q rfl S (fun w H => y_iaddrn rfl underlying36 Fsiz46 S H rfl rfl (by omega)) fun a S => ?_
  refine m_q rfl S (fun w H => y_faddr rfl Ffo46_1 S rfl) fun a S => m_loadsf _ rfl rfl (wn rfl) rfl rfl S rfl Fsca3 rfl (by omega) rfl fun a S => ?_
  refine m_q rfl S (fun w H => y_move rfl S rfl) fun a S => m_q rfl S (fun w H => y_move rfl S rfl) fun a S => m_q rfl S (fun w H => y_iaddrn rfl underlying34 Fsiz55 S H rfl rfl (by omega)) fun a S => ?_
  refine m_q rfl S (fun w H => y_faddr rfl Ffo55_0 S rfl) fun a S => m_q rfl S (fun w H => y_faddr rfl Ffo49_2 S rfl) fun a S => m_loadsff _ rfl rfl (wn rfl) rfl rfl S rfl Fsca3 rfl (by omega) rfl fun a S => ?_
  refine m_q rfl S (fun w H => y_bin rfl S rfl rfl rfl) fun a S => m_q rfl S (fun w H => y_move rfl S rfl) fun a S => ?_
  refine' m_orq [14, 15, 16, 17, 18, 19, 20, 21] 85 S rfl rfl rfl rfl rfl rfl rfl rfl rfl (fun _ S => (wn rfl)) (fun h8 kk => ?yh8) (fun a S => ?_)
  case yh8 =>
   have h8p := h8; try simp only [DL] at h8p
   refine m_w rfl rfl (wg' 85 rfl rfl S rfl h8 rfl) rfl rfl S (fun w H => y_faddrb rfl Ffo41_0 S rfl) fun a S => m_w rfl rfl (wg' 85 rfl rfl S rfl h8 rfl) rfl rfl S (fun w H => y_load rfl Fsca36 S H rfl rfl) fun a S => m_w rfl rfl (wg' 85 rfl rfl S rfl h8 rfl) rfl rfl S (fun w H => y_move rfl S rfl) fun a S => m_w rfl rfl (wg' 85 rfl rfl S rfl h8 rfl) rfl rfl S (fun w H => y_iaddrn rfl underlying36 Fsiz46 S H rfl rfl (by omega)) fun a S => ?_
   refine m_w rfl rfl (wg' 85 rfl rfl S rfl h8 rfl) rfl rfl S (fun w H => y_faddr rfl Ffo46_2 S rfl) fun a S => m_loadsf _ rfl rfl (wg' 85 rfl rfl S rfl h8 rfl) rfl rfl S rfl Fsca37 rfl (by omega) rfl fun a S => ?_
   exact m_w rfl rfl (wg' 85 rfl rfl S rfl h8 rfl) rfl rfl S (fun w H => y_lens rfl underlying37 S H rfl) fun a S => m_w rfl rfl (wg' 85 rfl rfl S rfl h8 rfl) rfl rfl S (fun w H => y_bin rfl S rfl rfl rfl) fun a S => m_q rfl S (fun w H => y_or' rfl h8 S rfl rfl) fun a S => kk _ (S.join 9 94 rfl rfl)
  refine m_nil (fun w H => n_then ?_)
  have S := S.sel [94, 13, 11, 10, 8, 7, 2] rfl
  refine c_if S rfl (fun h9 => ?_) (fun h9 => ?_)
  ·have h9p := h9; try simp only [DL] at h9p
   all_goals (
     exfalso
     have h9 := h9
     rw [hsa.1, hsa.2] at h9
     simp at h9)
  have h9p := h9; try simp only [DL] at h9p
  refine g_skip <| n_block <| n_then <| g_region <| q_mv S rfl fun a S => q_ad S rfl (by omega) fun a S => ?_
  refine q_as S rfl fun a S => gnt <| ⟨k + 1, S.sel [13] rfl, S.sel [11, 10, 8, 7, 2] rfl, H, ?_, ?_⟩
  · omega
  omega
 have h7p := h7; try simp only [DL] at h7p
 refine g_exit <| x_then (x_then (x_eq ?_))
 refine n_then ?_
 have S := S.sel [10, 8, 7, 2] rfl
 refine g_seq <| gsr <| q_mv S rfl fun a S => gq rfl S (y_lens rfl underlying34 S H rfl) fun a S => q_bn S rfl fun a S => gnt <| c_if S rfl (fun h10 => ?_) (fun h10 => ?_)
 ·have h10p := h10; try simp only [DL] at h10p
  refine gsr <| q_mv S rfl fun a S => q_as S rfl fun a S => gnt ?_
  have S := S.sel [6, 10, 8, 7, 2] rfl
  refine g_ret <| r_then (ret1 rfl S rfl ?_)
  exact ⟨rfl, H.toExt⟩
 have h10p := h10; try simp only [DL] at h10p
 have htp : 0 < ts.length := by have := h10p; omega
 have hrl : raw % ts.length < ts.length := Nat.mod_lt _ htp
 obtain ⟨x, hx, hxl⟩ : ∃ x : Nat, ts[raw % ts.length].place = (x : Int) ∧ x < ps.length := by
   obtain ⟨s, q, e, h1, h2⟩ := hsi.z _ (List.getElem_mem hrl)
   exact ⟨q.toNat, by rw [e]; show q = _; omega, by omega⟩
 refine g_skip <| n_then <| gsr <| q_mv S rfl fun a S => q_mv S rfl fun a S => gq rfl S (y_convg (r := (raw : Int)) rfl underlying5 underlying3 S rfl (by exact wrap_in (by omega) (by omega))) fun a S => ?_
 refine q_mv S rfl fun a S => gq rfl S (y_lens rfl underlying34 S H rfl) fun a S => gq rfl S (y_remn rfl S rfl rfl (by omega) (by omega)) fun a S => ?_
 rw [show ((raw : Int) % (ts.length : Int)) = ((raw % ts.length : Nat) : Int) from by simp] at S
 refine gq rfl S (y_iaddrn rfl underlying34 Fsiz55 S H rfl rfl (by omega)) fun a S => ?_
 refine gq rfl S (y_faddr rfl Ffo55_0 S rfl) fun a S => gq rfl S (y_faddr rfl Ffo49_2 S rfl) fun a S => gq rfl S (y_loadsff _ rfl Fsca3 S H rfl (by omega) rfl) fun a S => ?_
 rw [hx] at S
 refine q_as S rfl fun a S => gnt ?_
 have S := S.sel [14, 10, 8, 7] rfl
 refine g_seq <| region_st (loud := [0, 4, 9]) (tails := [4, 9]) (free := [5, 6, 7, 8]) [1, 2, 3, 5, 6, 7, 8, 0, 4, 9, 10] [Atom.ro (OSl 57 ov 9 Pl.enc ps)] Fmo (by kernel_rfl) (by kernel_rfl) rfl H ?_
 refine m_q rfl S (fun w H => y_move rfl S rfl) fun a S => m_q rfl S (fun w H => y_move rfl S rfl) fun a S => m_q rfl S (fun w H => y_sliceH rfl underlying30 Fsiz57 S H rfl rfl (by omega)) fun a S => ?_
 refine m_f rfl rfl (wn rfl) rfl rfl S (fun w H => y_move rfl S rfl) fun a S => m_f rfl rfl (wn rfl) rfl rfl S (fun w H => y_move rfl S rfl) fun a S => m_f rfl rfl (wn rfl) rfl rfl S (fun w H => y_add rfl S rfl rfl (by omega)) fun a S => ?_
 rw [show ((x : Int) + 1) = ((x + 1 : Nat) : Int) from by omega] at S
 refine m_f rfl rfl (wn rfl) rfl rfl S (fun w H => y_sliceL rfl underlying30 Fsiz57 S H rfl rfl (by omega)) fun a S => ?_
 refine m_l rfl rfl (fun w H => op_buildSlice (wn rfl) rfl rfl rfl underlying30 Finf57 S H (idx := []) rfl rfl rfl (z := []) (by kernel_rfl) (cs := []) rfl fun b109 a w S H => ?_)
 have H := H.celO ([] : List Pl) Pl.enc 9 (m := 0) rfl (by simp) rfl (by omega)
 refine m_next H (by repeat (first | exact List.Sublist.refl _ | apply List.Sublist.cons)) ?_
 refine m_l rfl rfl (fun w H => op_appendT (wn rfl) rfl rfl rfl underlying30 Finf57 rfl rfl S H rfl rfl (by simp [Pl.enc, Value.oneCell']) (by simp; omega) (by simp; omega) fun u113 a w S H => m_tail H rfl ?_)
 refine m_l rfl rfl (fun w H => op_appendT (wn rfl) rfl rfl rfl underlying30 Finf57 rfl rfl S H rfl rfl (by simp [Pl.enc, Value.oneCell']) (by simp; omega) (by simp; omega) fun u118 a w S H => m_tail H rfl ?_)
 refine m_q rfl S (fun w H => y_assign rfl S rfl) fun a S => m_nil (fun w H => n_then ?_)
 have S := S.sel [15, 14, 10, 8, 7] rfl
 refine g_seq <| gsr <| q_as S rfl fun a S => gnt <| g_block ?_
 simp only [List.nil_append, List.drop_zero, List.take_length] at H
 rw [show ps.take x ++ ps.drop (x + 1) = gapL ps x from rfl] at H
 obtain ⟨N0, hN0⟩ : ∃ N0, N0 = gapL ps x := ⟨_, rfl⟩
 rw [← hN0] at H
 have hN0l := gapL_len hxl
 rw [← hN0] at hN0l
 have SU := S.sel [15, 14, 10, 8, 7] rfl
 refine loopW (X := Nat) SU (fun k => [(16, .int .i64 (k : Int))]) (fun k w => k ≤ N0.length ∧ HSat No w0 [OSl 57 u118 9 Pl.enc (adjK (x : Int) N0 k), Atom.ro (OSl 57 ov 9 Pl.enc ps), OSl 55 sv 11 Ow.enc ts] w) (fun k => N0.length - k) 0 (S.sel [16] rfl) (⟨Nat.zero_le _, (show HSat No w0 [OSl 57 u118 9 Pl.enc (N0), Atom.ro (OSl 57 ov 9 Pl.enc ps), OSl 55 sv 11 Ow.enc ts] _ from H.take [OSl 57 u118 9 Pl.enc (N0), Atom.ro (OSl 57 ov 9 Pl.enc ps), OSl 55 sv 11 Ow.enc ts])⟩) (fun k a w S hW => ?_)
 simp only [List.cons_append, List.nil_append] at S
 clear H
 obtain ⟨hkn, H⟩ := hW
 have hajl := adjK_len (x : Int) N0 k
 refine g_seq <| gsr <| q_mv S rfl fun a S => q_mv S rfl fun a S => gq rfl S (y_lens rfl underlying30 S H rfl) fun a S => q_bn S rfl fun a S => gnt <| c_if S rfl (fun h11 => ?_) (fun h11 => ?_)
 ·have h11p := h11; try simp only [DL] at h11p
  have hkN : k < N0.length := by omega
  have hkw : N0[k].with_ ≤ 200 := by
    have hm : N0[k] ∈ gapL ps x := hN0 ▸ List.getElem_mem hkN
    have := placesR_wl h _ (hps ▸ gapL_mem hm)
    rw [← hps] at this; omega
  refine g_skip <| n_then ?_
  have S := S.sel [16, 15, 14, 10, 8, 7] rfl
  refine g_seq <| g_block <| g_seq <| gsr <| q_mv S rfl fun a S => q_mv S rfl fun a S => gq rfl S (y_iaddrn rfl underlying30 Fsiz57 S H rfl rfl (by omega)) fun a S => ?_
  refine gq rfl S (y_faddr rfl Ffo57_8 S rfl) fun a S => gq rfl S (y_loadsf _ rfl Fsca3 S H rfl (by omega) rfl) fun a S => ?_
  rw [adjK_get hkN] at S
  refine q_mv S rfl fun a S => q_bn S rfl fun a S => gnt ?_
  have S := S.sel [131, 16, 15, 14, 10, 8, 7] rfl
  refine c_if S rfl (fun h12 => ?_) (fun h12 => ?_)
  ·have h12p := h12; try simp only [DL] at h12p
   refine gsr <| q_mv S rfl fun a S => q_as S rfl fun a S => gnt <| g_ret <| r_then (r_block (r_then (r_then (r_block (r_then (ret1 rfl S rfl ?_))))))
   exact ⟨rfl, H.toExt⟩
  have h12p := h12; try simp only [DL] at h12p
  refine g_skip <| n_then <| gsr <| q_mv S rfl fun a S => q_mv S rfl fun a S => gq rfl S (y_iaddrn rfl underlying30 Fsiz57 S H rfl rfl (by omega)) fun a S => ?_
  refine gq rfl S (y_faddr rfl Ffo57_8 S rfl) fun a S => gq rfl S (y_loadsf _ rfl Fsca3 S H rfl (by omega) rfl) fun a S => ?_
  rw [adjK_get hkN] at S
  refine q_mv S rfl fun a S => q_bn S rfl fun a S => gnt ?_
  have S := S.sel [139, 16, 15, 14, 10, 8, 7] rfl
  refine c_if S rfl (fun h13 => ?_) (fun h13 => ?_)
  ·have h13p := h13; try simp only [DL] at h13p
   have hgt : N0[k].with_ > (x : Int) := h13p
   refine g_region <| q_mv S rfl fun a S => q_mv S rfl fun a S => q_mv S rfl fun a S => q_mv S rfl fun a S => gq rfl S (y_iaddrn rfl underlying30 Fsiz57 S H rfl rfl (by omega)) fun a S => ?_
   refine gq rfl S (y_faddr rfl Ffo57_8 S rfl) fun a S => gq rfl S (y_loadsf _ rfl Fsca3 S H rfl (by omega) rfl) fun a S => ?_
   rw [adjK_get hkN] at S
   refine gq rfl S (y_sub rfl S rfl rfl (by omega)) fun a S => ?_
   refine gq rfl S (y_iaddrn rfl underlying30 Fsiz57 S H rfl rfl (by omega)) fun a S => ?_
   refine gq rfl S (y_faddr rfl Ffo57_8 S rfl) fun a S => wl_of (op_storeS (i := k) (j := 8) (sz := 9) (vs := [.int .i64 (N0[k].with_ - 1)]) _ (adj (x : Int) N0[k]) (wn rfl) rfl rfl S H rfl rfl rfl rfl (by intro c hc; rw [List.mem_singleton.1 hc]; rfl) Fsiz3 (by rw [adjK_len]; exact hkN) (by simp) (by rw [adjK_get hkN]; unfold adj; rw [if_pos hgt]; rfl) fun a w S H => ?_)
   rw [adjK_s hkN] at H
   refine gl_nil <| n_block <| n_then ?_
   have S := S.sel [16, 15, 14, 10, 8, 7] rfl
   refine g_region <| q_mv S rfl fun a S => q_ad S rfl (by omega) fun a S => ?_
   refine q_as S rfl fun a S => ?_
   refine gnt ?_
   first
   | exact ⟨k + 1, S.sel [16] rfl, S.sel [15, 14, 10, 8, 7] rfl, ⟨by omega, by rw [hnx]; exact H⟩, by omega⟩
   | exact ⟨k + 1, S.sel [16] rfl, S.sel [15, 14, 10, 8, 7] rfl, ⟨by omega, H⟩, by omega⟩
  have h13p := h13; try simp only [DL] at h13p
  have hnx := adjK_n (x := (x : Int)) hkN (by have := h13p; omega)
  refine g_skip <| n_block <| n_then <| g_region <| q_mv S rfl fun a S => q_ad S rfl (by omega) fun a S => ?_
  exact q_as S rfl fun a S => gnt <| ⟨k + 1, S.sel [16] rfl, S.sel [15, 14, 10, 8, 7] rfl, ⟨by omega, by rw [hnx]; exact H⟩, by omega⟩
 have h11p := h11; try simp only [DL] at h11p
 obtain rfl : k = N0.length := by omega
 rw [adjK_all] at H
 have herr2 : errP ps (N0.map (adj (x : Int))) ts = 0 := by rw [hts]; exact sold_err cs (by omega) (by rw [List.length_map]; omega)
 refine g_exit <| x_then (x_then (x_eq ?_))
 refine n_then ?_
 have S := S.sel [15, 10, 8, 7] rfl
 refine gsr <| q_mv S rfl fun a S => q_mv S rfl fun a S => q_mv S rfl fun a S => q_cl S rfl call9 (plan_any ov u118 ps (N0.map (adj (x : Int))) sv ts _ (H.sl ov) (H.sl u118) (H.sl sv) hok (by omega)) fun v w hc a S => ?_
 obtain ⟨mv2, vl2, vr2, ms2, rfl, hms2, H1⟩ := hc
 have H := H.call4 H1 rfl rfl rfl rfl
 rw [herr2] at S
 have hM2 := planM herr2 hms2
 have hml2 : ms2.length = ts.length := by rw [hM2.len, hmvd]
 refine q_mv S rfl fun a S => ?_
 refine gq rfl S (y_extract rfl S rfl rfl) fun a S => ?_
 refine gq rfl S (y_extract rfl S rfl rfl) fun a S => ?_
 refine q_al S H rfl Fzer41 fun b17 a w S H => ?_
 refine wl_of (op_storea (wn rfl) rfl rfl S H rfl rfl (by simp only [List.all_cons, List.all_nil, H.sl1 mv2, H.sl1 vl2, H.sl1 vr2]; rfl) Fsiz41 rfl (cs' := [_, _, _]) rfl fun a w S H => ?_)
 refine q_as S rfl fun a S => gnt ?_
 have S := S.sel [18, 17, 10, 7] rfl
 refine g_seq <| gsr <| q_mv S rfl fun a S => q_bn S rfl fun a S => q_mv S rfl fun a S => ?_
 refine' wl_or 6 159 rfl S H rfl rfl rfl rfl rfl rfl rfl (fun _ S => (wn rfl)) (fun h14 kk => ?yh14) (fun a w S H => ?_)
 case yh14 =>
  exact gz 159 h14 S rfl rfl rfl rfl rfl rfl (y_faddrb rfl Ffo41_0 S rfl) fun a S => gz 159 h14 S rfl rfl rfl rfl rfl rfl (y_load rfl Fsca36 S H rfl rfl) fun a S => gz 159 h14 S rfl rfl rfl rfl rfl rfl (y_lens rfl underlying36 S H rfl) fun a S => gz 159 h14 S rfl rfl rfl rfl rfl rfl (y_move rfl S rfl) fun a S => gz 159 h14 S rfl rfl rfl rfl rfl rfl (y_lens rfl underlying34 S H rfl) fun a S => gz 159 h14 S rfl rfl rfl rfl rfl rfl (y_bin rfl S rfl rfl rfl) fun a S => gq rfl S (y_or' rfl h14 S rfl rfl) fun a S => kk _ _ (S.join 7 166 rfl rfl) H
 refine gnt ?_
 have S := S.sel [166, 17, 10, 7] rfl
 refine c_if S rfl (fun h15 => ?_) (fun h15 => ?_)
 ·have h15p := h15; try simp only [DL] at h15p
  all_goals (
    exfalso
    have h9 := h15
    simp [hml2] at h9)
 have h15p := h15; try simp only [DL] at h15p
 refine g_skip <| n_then <| gsr <| q_as S rfl fun a S => gnt <| g_seq <| gsr <| q_as S rfl fun a S => ?_
 refine gnt <| g_block ?_
 have SU := S.sel [17, 10, 7] rfl
 refine loop_k (X := Nat) SU (fun k => [(19, .int .i64 (wN ms2 k : Int)), (20, .int .i64 (k : Int))]) (fun k => k ≤ ts.length) (fun k => ts.length - k) 0 (S.sel [19, 20] rfl) H (Nat.zero_le _) (fun k a w S H hi => ?_)
 simp only [List.cons_append, List.nil_append] at S hi
 have hk := hi
 have hwl : wN ms2 k ≤ k := Nat.le_trans (List.length_filter_le _ _) (List.length_take_le _ _)
 refine g_seq <| gsr <| q_mv S rfl fun a S => q_mv S rfl fun a S => gq rfl S (y_lens rfl underlying34 S H rfl) fun a S => q_bn S rfl fun a S => gnt <| c_if S rfl (fun h16 => ?_) (fun h16 => ?_)
 ·have h16p := h16; try simp only [DL] at h16p
  have hkm2 : k < ms2.length := by omega
  have hws := wN_s hkm2
  refine g_skip <| n_then ?_
  have S := S.sel [19, 20, 17, 10, 7] rfl
  refine g_seq <| g_block <| gsr <| q_fa S Ffo41_0 rfl fun a S => q_ld S H Fsca36 rfl rfl fun a S => q_mv S rfl fun a S => gq rfl S (y_iaddrn rfl underlying36 Fsiz46 S H rfl rfl (by omega)) fun a S => ?_
  refine gq rfl S (y_faddr rfl Ffo46_1 S rfl) fun a S => gq rfl S (y_loadsf _ rfl Fsca3 S H rfl (by omega) rfl) fun a S => ?_
  refine q_bn S rfl fun a S => gnt ?_
  have S := S.sel [179, 19, 20, 17, 10, 7] rfl
  refine c_if S rfl (fun h17 => ?_) (fun h17 => ?_)
  ·have h17p := h17; try simp only [DL] at h17p
   rw [if_pos h17p] at hws
   refine g_region <| q_mv S rfl fun a S => q_ad S rfl (by omega) fun a S => ?_
   refine q_as S rfl fun a S => gl_nil <| n_block <| n_then ?_
   have S := S.sel [19, 20, 17, 10, 7] rfl
   refine g_region <| q_mv S rfl fun a S => q_ad S rfl (by omega) fun a S => ?_
   exact q_as S rfl fun a S => gnt <| ⟨k + 1, (S.sel [20] rfl).cons S 19 (by rw [hws]; rfl), S.sel [17, 10, 7] rfl, H, by omega, by omega⟩
  have h17p := h17; try simp only [DL] at h17p
  rw [if_neg (by have := h17p; omega)] at hws
  refine g_skip <| n_block <| n_then <| g_region <| q_mv S rfl fun a S => q_ad S rfl (by omega) fun a S => ?_
  exact q_as S rfl fun a S => gnt <| ⟨k + 1, (S.sel [20] rfl).cons S 19 (by rw [hws]; rfl), S.sel [17, 10, 7] rfl, H, by omega, by omega⟩
 have h16p := h16; try simp only [DL] at h16p
 refine g_exit <| x_then (x_then (x_eq ?_))
 refine n_then ?_
 have S := S.sel [19, 7] rfl
 refine gsr <| q_mv S rfl fun a S => q_mv S rfl fun a S => ?_
 refine' wl_and 2 183 rfl S H rfl rfl rfl rfl rfl rfl rfl (fun _ S => (wn rfl)) (fun h18 kk => ?yh18) (fun a w S H => ?_)
 case yh18 =>
  exact gz 183 h18 S rfl rfl rfl rfl rfl rfl (y_move rfl S rfl) fun a S => gz 183 h18 S rfl rfl rfl rfl rfl rfl (y_bin rfl S rfl rfl rfl) fun a S => gq rfl S (y_and' rfl h18 S rfl rfl) fun a S => kk _ _ (S.join 3 186 rfl rfl) H
 refine q_as S rfl fun a S => gnt ?_
 have S := S.sel [6] rfl
 refine g_ret <| ret1 rfl S rfl <| ⟨congrArg Value.bool ?_, H.toExt⟩
 have h1 := gap_one hts hd hxl (by rw [← hN0]; exact hM2)
 have hke : k = ms2.length := by omega
 rw [hke]
 simp
 omega
end
end Go.Proofs.YtjdlllacomgaoaaGreatDoor
namespace Go.Proofs.YtjdlllacomgaoaaGreatDoor
section
open Go.ChangeShapes Go.WideShapes Go.ChangeAt Go.RowKit Go.Gw _root_.Go.Proofs.Tryz
section
theorem ownLaw : ownKnob Tryz.prog.godebug = none := by kernel_rfl
theorem laidOut : laidOutB Tryz.prog = true := by kernel_rfl
theorem bulk_one {H : Type} (d : DataW H) : 1 ≤ Rows.uptoBulk d := by
  cases d with
  | lit l => cases l <;> simp [Rows.uptoBulk]
  | nil => simp [Rows.uptoBulk]
  | ptr d => simp [Rows.uptoBulk]
  | slice es sp => simp [Rows.uptoBulk]
  | agg ps => simp [Rows.uptoBulk]
  | iface t d => simp [Rows.uptoBulk]
  | map es => simp [Rows.uptoBulk]
  | held h => simp [Rows.uptoBulk]
theorem bulk_app {H : Type} : ∀ (l r : List (DataW H)), Rows.uptoBulkAll (l ++ r) = Rows.uptoBulkAll l + Rows.uptoBulkAll r
  | [], r => by simp [Rows.uptoBulkAll]
  | x :: l, r => by simp only [List.cons_append, Rows.uptoBulkAll, bulk_app l r]; omega
theorem bulk_mem {H : Type} {d : DataW H} : ∀ {l : List (DataW H)}, d ∈ l → Rows.uptoBulk d ≤ Rows.uptoBulkAll l
  | x :: l, h => by
    simp only [Rows.uptoBulkAll]
    rcases List.mem_cons.1 h with rfl | h
    · omega
    have := bulk_mem h; omega
section
variable {P : Program} {W : World}
def ReadsM (P : Program) (W : World) (e : TypeId) {α : Type} (cs : α → List Value) (good : α → Prop) (m : α → Nat) : Prop :=
  ∀ {H : Type} {enc : TypeId × Value → H} {base : Nat} {spare : Nat → Bool} {held : Bool} {fuel : Nat} {vs : List Value} {x : DataW H × List MemPlace}, DataW.trod enc P W base spare held fuel e vs = some x → ∃ y, vs = cs y ∧ good y ∧ m y ≤ Rows.uptoBulk x.1
theorem ReadsAt.m1 {e : TypeId} {α : Type} {cs : α → List Value} {good : α → Prop} (h : ReadsAt P W e cs good) : ReadsM P W e cs good (fun _ => 1) := fun hx => by
  obtain ⟨y, h1, h2⟩ := h hx
  exact ⟨y, h1, h2, bulk_one _⟩
theorem ReadsM.mono {e : TypeId} {α β : Type} {cs : α → List Value} {good : α → Prop} {m : α → Nat} {cs2 : β → List Value} {good2 : β → Prop} {m2 : β → Nat} (h : ReadsM P W e cs good m) (f : α → β) (hc : ∀ y, good y → cs y = cs2 (f y)) (hg : ∀ y, good y → good2 (f y)) (hm : ∀ y, m2 (f y) ≤ m y) : ReadsM P W e cs2 good2 m2 := fun hx => by
  obtain ⟨y, h1, h2, h3⟩ := h hx
  exact ⟨f y, h1.trans (hc y h2), hg y h2, Nat.le_trans (hm y) h3⟩
theorem readsM_slice {t e : TypeId} {sz : Nat} {α : Type} {cs : α → List Value} {good : α → Prop} {m : α → Nat} (hT : P.underlying t = some (.slice e)) (hc : P.cellsOf e = sz) (hpos : 0 < sz) (hE : ReadsM P W e cs good m) :
    ReadsM P W t (fun y : Value × List α => [y.1]) (fun y => IsSl W y.1 sz cs y.2 ∧ capOK y.1 ∧ ∀ x ∈ y.2, good x) (fun y => (y.2.map m).sum) := fun {H enc base spare held fuel vs x} hf => by
  rcases DataW.trod_slice hT hf with ⟨rfl, _⟩ | ⟨a, len, cap, elems, rest, n, _, rfl, hx, hb, hlc, hcm, hel, hat, _, _⟩
  · exact ⟨(.slice none 0 0, []), rfl, ⟨⟨by simp, ⟨_, _, rfl⟩, by simp, fun i hi => by simp at hi⟩, Nat.le_refl 0, by simp⟩, by simp⟩
  have hsp0 : 0 < len → a.spot = none := fun h0 => by
    have h1 := hat 0 h0
    rw [List.getElem?_eq_getElem (by omega)] at h1
    obtain ⟨c, hcells, hy⟩ := Option.bind_eq_some_iff.1 h1
    obtain ⟨_, hlen, hcell⟩ := World.cells?_some hcells
    rw [hc] at hlen hcell
    have g0 := hcell 0 hpos
    rw [List.getElem?_eq_getElem (by omega)] at g0
    have := World.cell?_spot g0
    simpa [Addr.add] using this
  have hstep : ∀ i (hi : i < len), ∃ y : α, good y ∧ m y ≤ Rows.uptoBulk (elems[i]'(by omega)).1 ∧ (cs y).length = sz ∧ ∃ b off, a = ⟨b, off, none⟩ ∧ ∀ j u, (cs y)[j]? = some u → W.cell? ⟨b, off + i * sz + j, none⟩ = some u := fun i hi => by
    have h1 := hat i hi
    rw [List.getElem?_eq_getElem (by omega)] at h1
    obtain ⟨c, hcells, hy⟩ := Option.bind_eq_some_iff.1 h1
    obtain ⟨y, rfl, hg, hm⟩ := hE hy
    obtain ⟨_, hlen, hcell⟩ := World.cells?_some hcells
    rw [hc] at hlen hcell
    obtain ⟨b, off, spot⟩ := a
    refine ⟨y, hg, hm, hlen, ?_⟩
    have hspot : spot = none := hsp0 (by omega)
    subst hspot
    refine ⟨b, off, rfl, fun j u hu => ?_⟩
    have hj : j < sz := by rw [← hlen]; exact (List.getElem?_eq_some_iff.1 hu).1
    have := hcell j hj
    rw [Gw.add_plain, Gw.add_plain] at this
    rw [this, hu]
  have : ∀ k, k ≤ len → ∃ xs : List α, xs.length = k ∧ (xs.map m).sum ≤ Rows.uptoBulkAll ((elems.take k).map fun x => x.1) ∧ (∀ x ∈ xs, good x ∧ (cs x).length = sz) ∧ ∀ i (h : i < xs.length), ∃ b off, a = ⟨b, off, none⟩ ∧ ∀ j u, (cs xs[i])[j]? = some u → W.cell? ⟨b, off + i * sz + j, none⟩ = some u := by
    intro k
    induction k with
    | zero => intro _; exact ⟨[], rfl, by simp, by simp, fun i h => by simp at h⟩
    | succ k ih =>
      intro hk
      obtain ⟨xs, hl, hm, hg, hc'⟩ := ih (by omega)
      obtain ⟨y, g, gm, gl, hy⟩ := hstep k (by omega)
      refine ⟨xs ++ [y], by simp [hl], ?_, fun x hx => ?_, fun i hi => ?_⟩
      · rw [List.take_succ_eq_append_getElem (show k < elems.length by omega)]
        simp only [List.map_append, List.sum_append, bulk_app, List.map_cons, List.map_nil, List.sum_cons, List.sum_nil, Rows.uptoBulkAll]
        omega
      · rcases List.mem_append.1 hx with h | h
        · exact hg x h
        simp at h; subst h; exact ⟨g, gl⟩
      by_cases hik : i < xs.length
      · rw [List.getElem_append_left hik]; exact hc' i hik
      obtain rfl : i = k := by simp at hi; omega
      rw [List.getElem_append_right (by omega)]
      simpa [hl] using hy
  obtain ⟨xs, hl, hsum, hg, hc'⟩ := this len (Nat.le_refl _)
  have hmx : maxLen = 9223372036854775807 := by decide
  refine ⟨(.slice (some a) len cap, xs), rfl, ?_, ?_⟩
  · show IsSl W (.slice (some a) len cap) sz cs xs ∧ capOK (.slice (some a) len cap) ∧ ∀ x ∈ xs, good x
    refine ⟨⟨by omega, ⟨_, _, by rw [hl]⟩, fun x hx => (hg x hx).2, fun i hi => ?_⟩, hlc, fun x hx => (hg x hx).1⟩
    obtain ⟨b, off, rfl, h⟩ := hc' i hi
    exact ⟨b, off, cap, by rw [hl], h⟩
  rw [hx]
  simp only [Rows.uptoBulk]
  rw [List.take_of_length_le (by omega)] at hsum
  omega
def ReadsN (P : Program) (W : World) (ts : List TypeId) {α : Type} (cs : α → List Value) (good : α → Prop) (m : α → Nat) : Prop :=
  ∀ {H : Type} {enc : TypeId × Value → H} {base : Nat} {spare : Nat → Bool} {held : Bool} {fuel : Nat} {vs : List Value} {ds : List (DataW H)}, vs.length = (ts.map P.cellsOf).sum → ds.length = ts.length →
    (∀ i t d, ts[i]? = some t → ds[i]? = some d → ∃ q, DataW.trod enc P W base spare held fuel t ((vs.drop ((ts.take i).map P.cellsOf).sum).take (P.cellsOf t)) = some (d, q)) → ∃ y, vs = cs y ∧ good y ∧ m y ≤ Rows.uptoBulkAll ds
theorem readsN_nil : ReadsN P W [] (fun _ : Unit => []) (fun _ => True) (fun _ => 0) := fun hl _ _ => ⟨(), by simpa using hl, trivial, Nat.zero_le _⟩
theorem readsN_cons {t : TypeId} {ts : List TypeId} {α β : Type} {cs : α → List Value} {good : α → Prop} {m : α → Nat} {cs2 : β → List Value} {good2 : β → Prop} {m2 : β → Nat} (h : ReadsM P W t cs good m) (h2 : ReadsN P W ts cs2 good2 m2) :
    ReadsN P W (t :: ts) (fun y : α × β => cs y.1 ++ cs2 y.2) (fun y => good y.1 ∧ good2 y.2) (fun y => m y.1 + m2 y.2) := fun {H enc base spare held fuel vs ds} hl hd hf => by
  match ds, hd with
  | d :: ds, hd =>
    obtain ⟨q, hx⟩ := hf 0 t d rfl rfl
    simp only [List.take_zero, List.map_nil, List.sum_nil, List.drop_zero] at hx
    obtain ⟨y, h1, h3, h6⟩ := h hx
    simp only [List.map_cons, List.sum_cons] at hl
    obtain ⟨z, h4, h5, h7⟩ := h2 (vs := vs.drop (P.cellsOf t)) (H := H) (enc := enc) (base := base) (spare := spare) (held := held) (fuel := fuel) (ds := ds) (by rw [List.length_drop]; omega) (by simpa using hd) (fun i u d hu hdu => by
      obtain ⟨q, hx⟩ := hf (i + 1) u d (by simpa using hu) (by simpa using hdu)
      refine ⟨q, ?_⟩
      simp only [List.take_succ_cons, List.map_cons, List.sum_cons] at hx
      rw [List.drop_drop]; exact hx)
    refine ⟨(y, z), by show vs = cs y ++ cs2 z; rw [← h1, ← h4, List.take_append_drop], ⟨h3, h5⟩, ?_⟩
    simp only [Rows.uptoBulkAll]
    dsimp only at h6
    omega
theorem readsN_struct {e : TypeId} {fs : Array Field} {ts : List TypeId} {α : Type} {cs : α → List Value} {good : α → Prop} {m : α → Nat} (hT : P.underlying e = some (.struct fs)) (hb : fieldsB P fs ts (P.cellsOf e) = true) (h : ReadsN P W ts cs good m) : ReadsM P W e cs good (fun y => m y + 1) := fun {H enc base spare held fuel vs x} hx => by
  simp only [fieldsB, Bool.and_eq_true, beq_iff_eq, decide_eq_true_eq, List.all_eq_true, List.mem_range] at hb
  obtain ⟨h1, h2, h3⟩ := hb
  obtain ⟨xs, n, rfl, hxe, hl, hxl, hf⟩ := DataW.trod_struct hT hx
  have hlen : ts.length = fs.size := by rw [← h1]; simp
  obtain ⟨y, hy, hg, hm⟩ := h (H := H) (enc := enc) (base := base) (spare := spare) (held := held) (fuel := n) (vs := vs) (ds := xs.map fun x => x.1) (by omega) (by rw [List.length_map, hxl, hlen]) (fun i t d ht hd => by
    have hi : i < ts.length := (List.getElem?_eq_some_iff.1 ht).1
    obtain ⟨f, hfi⟩ : ∃ f, fs[i]? = some f := ⟨fs[i]'(by omega), Array.getElem?_eq_getElem _⟩
    have h4 := h3 i hi
    rw [hfi] at h4
    have hft : f.type = t := by
      rw [← h1, List.getElem?_map, Array.getElem?_toList, hfi] at ht
      simpa using ht
    have h5 := hf i f hfi
    rw [hft, show f.offset = ((ts.take i).map P.cellsOf).sum by simpa using h4] at h5
    rw [List.getElem?_map] at hd
    obtain ⟨z, hz, rfl⟩ := Option.map_eq_some_iff.1 hd
    exact ⟨z.2, by rw [h5, hz]⟩)
  refine ⟨y, hy, hg, ?_⟩
  rw [hxe]
  simp only [Rows.uptoBulk]
  omega
theorem arg_stM {H : Type} {enc : TypeId × Value → H} {r : Reach} {b0 : Nat} {base : Nat} {sp : Nat → Bool} {held : Bool} {t : TypeId} {fs : Array Field} {α : Type} {cs : α → List Value} {good : α → Prop} {m : α → Nat} {v : Value} {d : DataW H} {ps : List MemPlace} (hT : P.underlying t = some (.struct fs)) (hE : ReadsM P W t cs good m)
    (hval : Value.okWide P W r b0 t v) (hd : DataW.Trod enc P W base sp held t v d ps) : ∃ y, v = .agg (cs y).toArray ∧ good y ∧ m y ≤ Rows.uptoBulk d := by
  obtain ⟨c, rfl, _⟩ := okWide_struct hT hval
  obtain ⟨fuel, hf⟩ := hd
  obtain ⟨y, h1, h2, h3⟩ := hE hf
  exact ⟨y, by rw [← h1]; simp [Value.cells], h2, h3⟩
end
theorem sum_mem {α : Type} {m : α → Nat} {x : α} : ∀ {l : List α}, x ∈ l → m x ≤ (l.map m).sum
  | y :: l, h => by
    simp only [List.map_cons, List.sum_cons]
    rcases List.mem_cons.1 h with rfl | h
    · omega
    have := sum_mem (m := m) h; omega
theorem sum_len {α : Type} {m : α → Nat} (hm : ∀ x, 1 ≤ m x) : ∀ l : List α, l.length ≤ (l.map m).sum
  | [] => by simp
  | y :: l => by simp only [List.map_cons, List.sum_cons, List.length_cons]; have := sum_len hm l; have := hm y; omega
theorem sum_le2 {α : Type} {m m2 : α → Nat} (hm : ∀ x, m x ≤ m2 x) : ∀ l : List α, (l.map m).sum ≤ (l.map m2).sum
  | [] => by simp
  | y :: l => by simp only [List.map_cons, List.sum_cons]; have := sum_le2 hm l; have := hm y; omega
def mRow (r : RowV) : Nat := 1 + r.marks.length
def mBlk (b : BlockV) : Nat := 1 + (b.rows.map mRow).sum
def mLev (l : LevV) : Nat := 1 + (l.blocks.map mBlk).sum + l.areas.length + l.aisles.length + l.pillars.length + l.doors.length
def mHall (h : HallV) : Nat := (h.levels.map mLev).sum
theorem mRow1 (r : RowV) : 1 ≤ mRow r := by unfold mRow; omega
theorem mBlk1 (b : BlockV) : 1 ≤ mBlk b := by unfold mBlk; omega
theorem mLev1 (l : LevV) : 1 ≤ mLev l := by unfold mLev; omega
def I64 (n : Int) : Prop := (Lit.int .i64 n).wf = true
theorem I64.b {n : Int} (h : I64 n) : -9223372036854775808 ≤ n ∧ n ≤ 9223372036854775807 := by
  have h : IntKind.i64.min ≤ n ∧ n ≤ IntKind.i64.max := by simpa [I64, Lit.wf] using h
  exact h
structure GRow (W : World) (r : RowV) : Prop where
  marks : IsSl W r.mv 3 MarkV.enc r.marks
  x : I64 r.x
  step : I64 r.step
structure GBlk (W : World) (b : BlockV) : Prop where
  rv : IsSl W b.rv 8 RowV.enc b.rows
  rows : ∀ r ∈ b.rows, GRow W r
structure GLev (W : World) (l : LevV) : Prop where
  bv : IsSl W l.bv 3 BlockV.enc l.blocks
  blocks : ∀ b ∈ l.blocks, GBlk W b
  av : IsSl W l.av 7 AreaV.enc l.areas
  ac : capOK l.av
  iv : IsSl W l.iv 4 BoxV.enc l.aisles
  pv : IsSl W l.pv 4 BoxV.enc l.pillars
  dv : IsSl W l.dv 2 PtV.enc l.doors
structure GHall (W : World) (h : HallV) : Prop where
  lv : IsSl W h.lv 8 LevV.enc h.levels
  levels : ∀ l ∈ h.levels, GLev W l
theorem hall_ok {W : World} {h : HallV} (g : GHall W h) : (HallA h).ok W := by
  intro x hx
  rcases List.mem_cons.1 hx with rfl | hx
  · exact g.lv
  obtain ⟨l, hl, hx⟩ := List.mem_flatMap.1 hx
  have gl := g.levels l hl
  unfold levA at hx
  rcases List.mem_cons.1 hx with rfl | hx
  · exact gl.bv
  rcases List.mem_cons.1 hx with rfl | hx
  · exact gl.av
  rcases List.mem_cons.1 hx with rfl | hx
  · exact gl.iv
  rcases List.mem_cons.1 hx with rfl | hx
  · exact gl.pv
  rcases List.mem_cons.1 hx with rfl | hx
  · exact gl.dv
  rcases List.mem_cons.1 hx with rfl | hx
  · exact gl.ac
  obtain ⟨b, hb, hx⟩ := List.mem_flatMap.1 hx
  have gb := gl.blocks b hb
  unfold blockA at hx
  rcases List.mem_cons.1 hx with rfl | hx
  · exact gb.rv
  obtain ⟨r, hr, hx⟩ := List.mem_flatMap.1 hx
  unfold rowA at hx
  rw [List.mem_singleton.1 hx]
  exact (gb.rows r hr).marks
theorem hall_b {W : World} {h : HallV} (g : GHall W h) (hm : mHall h ≤ 1048576) : HallB h := by
  have hl : ∀ l ∈ h.levels, mLev l ≤ 1048576 := fun l hl => Nat.le_trans (sum_mem (m := mLev) hl) hm
  have hb : ∀ l ∈ h.levels, ∀ b ∈ l.blocks, mBlk b ≤ 1048576 := fun l h1 b h2 => by
    have h3 := sum_mem (m := mBlk) h2
    have h4 := hl l h1
    unfold mLev at h4
    omega
  have hr : ∀ l ∈ h.levels, ∀ b ∈ l.blocks, ∀ r ∈ b.rows, mRow r ≤ 1048576 := fun l h1 b h2 r h3 => by
    have h4 := sum_mem (m := mRow) h3
    have h5 := hb l h1 b h2
    unfold mBlk at h5
    omega
  refine ⟨?_, fun l h1 => ?_, fun l h1 b h2 => ?_, fun l h1 b h2 r h3 => ?_, ?_, fun l h1 b h2 r h3 => ?_⟩
  · exact Nat.le_trans (sum_len mLev1 _) hm
  · have h2 := hl l h1
    have h3 := sum_len mBlk1 l.blocks
    unfold mLev at h2
    omega
  · have h3 := hb l h1 b h2
    have h4 := sum_len mRow1 b.rows
    unfold mBlk at h3
    omega
  · have h4 := hr l h1 b h2 r h3
    unfold mRow at h4
    omega
  · refine Nat.le_trans (sum_le2 (m2 := mLev) (fun l => ?_) _) hm
    have h1 : (l.blocks.map blkW).sum ≤ (l.blocks.map mBlk).sum := sum_le2 (fun b => by
      have := sum_len mRow1 b.rows
      unfold blkW mBlk
      omega) _
    unfold levW mLev
    omega
  have h4 := ((g.levels l h1).blocks b h2).rows r h3
  have h5 := h4.step.b
  have h6 := h4.x.b
  exact ⟨h5.1, h5.2, h6.1, h6.2⟩
theorem readsI : ReadsAs Tryz.prog 3 encI I64 := readsInt underlying3
theorem readsIM (W : World) : ReadsM Tryz.prog W 3 encI I64 (fun _ => 1) := ReadsAt.m1 readsI.at_
theorem readsB (W : World) : ReadsM Tryz.prog W 9 (fun s : ByteArray => [.string s]) (fun _ => True) (fun _ => 1) := ReadsAt.m1 fun h => by
  obtain ⟨s, h1, _⟩ := DataW.trod_string underlying9 h
  exact ⟨s, h1, trivial⟩
theorem readsPt (W : World) : ReadsM Tryz.prog W 23 PtV.enc (fun _ => True) (fun _ => 1) :=
  ReadsM.mono (readsN_struct (ts := [3, 3]) underlying23 (by kernel_rfl) (readsN_cons (readsIM W) (readsN_cons (readsIM W) readsN_nil))) (fun y => ⟨y.1, y.2.1⟩) (fun y _ => rfl) (fun _ _ => trivial) (fun _ => by omega)
theorem readsBox (W : World) : ReadsM Tryz.prog W 90 BoxV.enc (fun _ => True) (fun _ => 1) :=
  ReadsM.mono (readsN_struct (ts := [3, 3, 3, 3]) underlying90 (by kernel_rfl) (readsN_cons (readsIM W) (readsN_cons (readsIM W) (readsN_cons (readsIM W) (readsN_cons (readsIM W) readsN_nil))))) (fun y => ⟨y.1, y.2.1, y.2.2.1, y.2.2.2.1⟩) (fun y _ => rfl) (fun _ _ => trivial) (fun _ => by omega)
theorem readsMark (W : World) : ReadsM Tryz.prog W 128 MarkV.enc (fun _ => True) (fun _ => 1) :=
  ReadsM.mono (readsN_struct (ts := [3, 3, 3]) underlying128 (by kernel_rfl) (readsN_cons (readsIM W) (readsN_cons (readsIM W) (readsN_cons (readsIM W) readsN_nil)))) (fun y => ⟨y.1, y.2.1, y.2.2.1⟩) (fun y _ => rfl) (fun _ _ => trivial) (fun _ => by omega)
theorem readsArea (W : World) : ReadsM Tryz.prog W 92 AreaV.enc (fun _ => True) (fun _ => 1) :=
  ReadsM.mono (readsN_struct (ts := [9, 90, 3, 3]) underlying92 (by kernel_rfl) (readsN_cons (readsB W) (readsN_cons (readsBox W) (readsN_cons (readsIM W) (readsN_cons (readsIM W) readsN_nil))))) (fun y => ⟨y.1, y.2.1, y.2.2.1, y.2.2.2.1⟩) (fun y _ => rfl) (fun _ _ => trivial) (fun _ => by omega)
theorem sum_ones {α : Type} (l : List α) : (l.map fun _ => 1).sum = l.length := by
  induction l with
  | nil => rfl
  | cons x l ih => simp only [List.map_cons, List.sum_cons, List.length_cons, ih]; omega
theorem readsRw (W : World) : ReadsM Tryz.prog W 70 RowV.enc (GRow W) mRow :=
  ReadsM.mono (readsN_struct (ts := [9, 3, 3, 3, 3, 3, 68, 3]) underlying70 (by kernel_rfl) (readsN_cons (readsB W) (readsN_cons (readsIM W) (readsN_cons (readsIM W) (readsN_cons (readsIM W) (readsN_cons (readsIM W) (readsN_cons (readsIM W) (readsN_cons (readsM_slice underlying68 (by kernel_rfl) (by decide) (readsMark W)) (readsN_cons (readsIM W) readsN_nil)))))))))
    (fun y => ⟨y.1, y.2.1, y.2.2.1, y.2.2.2.1, y.2.2.2.2.1, y.2.2.2.2.2.1, y.2.2.2.2.2.2.1.1, y.2.2.2.2.2.2.1.2, y.2.2.2.2.2.2.2.1⟩) (fun y _ => rfl)
    (fun y h => ⟨h.2.2.2.2.2.2.1.1, h.2.1, h.2.2.2.2.2.1⟩) (fun y => by unfold mRow; dsimp only; rw [sum_ones]; omega)
theorem readsBk (W : World) : ReadsM Tryz.prog W 73 BlockV.enc (GBlk W) mBlk :=
  ReadsM.mono (readsN_struct (ts := [9, 71, 3]) underlying73 (by kernel_rfl) (readsN_cons (readsB W) (readsN_cons (readsM_slice underlying71 (by kernel_rfl) (by decide) (readsRw W)) (readsN_cons (readsIM W) readsN_nil))))
    (fun y => ⟨y.1, y.2.1.1, y.2.1.2, y.2.2.1⟩) (fun y _ => rfl) (fun y h => ⟨h.2.1.1, h.2.1.2.2⟩) (fun y => by unfold mBlk; dsimp only; omega)
theorem readsLv (W : World) : ReadsM Tryz.prog W 79 LevV.enc (GLev W) mLev :=
  ReadsM.mono (readsN_struct (ts := [9, 3, 74, 75, 76, 76, 77, 3]) underlying79 (by kernel_rfl) (readsN_cons (readsB W) (readsN_cons (readsIM W)
    (readsN_cons (readsM_slice underlying74 (by kernel_rfl) (by decide) (readsBk W)) (readsN_cons (readsM_slice underlying75 (by kernel_rfl) (by decide) (readsArea W))
    (readsN_cons (readsM_slice underlying76 (by kernel_rfl) (by decide) (readsBox W)) (readsN_cons (readsM_slice underlying76 (by kernel_rfl) (by decide) (readsBox W))
    (readsN_cons (readsM_slice underlying77 (by kernel_rfl) (by decide) (readsPt W)) (readsN_cons (readsIM W) readsN_nil)))))))))
    (fun y => ⟨y.1, y.2.1, y.2.2.1.1, y.2.2.1.2, y.2.2.2.1.1, y.2.2.2.1.2, y.2.2.2.2.1.1, y.2.2.2.2.1.2, y.2.2.2.2.2.1.1, y.2.2.2.2.2.1.2, y.2.2.2.2.2.2.1.1, y.2.2.2.2.2.2.1.2, y.2.2.2.2.2.2.2.1⟩) (fun y _ => rfl)
    (fun y h => ⟨h.2.2.1.1, h.2.2.1.2.2, h.2.2.2.1.1, h.2.2.2.1.2.1, h.2.2.2.2.1.1, h.2.2.2.2.2.1.1, h.2.2.2.2.2.2.1.1⟩)
    (fun y => by unfold mLev; dsimp only; rw [sum_ones, sum_ones, sum_ones, sum_ones]; omega)
theorem readsHall (W : World) : ReadsM Tryz.prog W 26 HallV.enc (GHall W) mHall :=
  ReadsM.mono (readsN_struct (ts := [9, 23, 24]) underlying26 (by kernel_rfl) (readsN_cons (readsB W) (readsN_cons (readsPt W) (readsN_cons (readsM_slice underlying24 (by kernel_rfl) (by decide) (readsLv W)) readsN_nil))))
    (fun y => ⟨y.1, y.2.1, y.2.2.1.1, y.2.2.1.2⟩) (fun y _ => rfl) (fun y h => ⟨h.2.2.1.1, h.2.2.1.2.2⟩) (fun y => by unfold mHall; dsimp only; omega)
theorem u16b {n : Int} (h : (Lit.int .u16 n).wf = true) : 0 ≤ n ∧ n ≤ 65535 := by
  have h : IntKind.u16.min ≤ n ∧ n ≤ IntKind.u16.max := by simpa [Lit.wf] using h
  exact ⟨h.1, h.2⟩
theorem u8b {n : Int} (h : (Lit.int .u8 n).wf = true) : 0 ≤ n ∧ n ≤ 255 := by
  have h : IntKind.u8.min ≤ n ∧ n ≤ IntKind.u8.max := by simpa [Lit.wf] using h
  exact ⟨h.1, h.2⟩
theorem readsU16 : ReadsAs Tryz.prog 80 (fun n : Int => [.int .u16 n]) (fun n => (Lit.int .u16 n).wf = true) := readsInt underlying80
theorem readsC16 (W : World) : ReadsAt Tryz.prog W 80 encC16 (fun c => c < 65536) :=
  ReadsAt.mono readsU16.at_ (fun n => n.toNat)
    (fun y h => by
      have h1 := u16b h
      show [Value.int .u16 y] = [Value.int .u16 (y.toNat : Int)]
      rw [Int.toNat_of_nonneg h1.1])
    (fun y h => by
      have h1 := u16b h
      omega)
theorem bulk_at {H : Type} {d : DataW H} {ds gs : List (DataW H)} (hk : Rows.uptoSmall H (ds ++ gs) = true) (hd : d ∈ ds) : Rows.uptoBulk d ≤ 1048576 := by
  have h := of_decide_eq_true hk
  rw [bulk_app] at h
  have := bulk_mem hd
  omega
end
end
end Go.Proofs.YtjdlllacomgaoaaGreatDoor
