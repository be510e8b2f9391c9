/- Layer 30: the reference's texts, sizes of titles. No program in sight. No condition. -/
import Derived.Test.YtngocpdmlijnfaaDoorPlainB
namespace Go.Proofs.YtngocpdmlijnfaaDoor
open Go Go.Gw
set_option linter.unusedSimpArgs false
set_option linter.unusedVariables false
/-- a digit of the decimal system -/
def dgS (d : Nat) : ByteArray := (⟨#[48, 49, 50, 51, 52, 53, 54, 55, 56, 57]⟩ : ByteArray).extract d (d + 1)
theorem dgS_size (d : Nat) : (dgS d).size ≤ 1 := by unfold dgS; rw [ByteArray.size_extract]; omega
/-- decimal of foyerref30, so many calls deep -/
def decF : Nat → Int → ByteArray
  | 0, _ => ⟨#[]⟩
  | k + 1, n => if n < 0 then (if n.tdiv 10 = 0 then (⟨#[45]⟩ : ByteArray) ++ decF k (-n) else decF k (n.tdiv 10) ++ decF k (-(n.tmod 10))) else if n < 10 then dgS n.toNat else decF k (n / 10) ++ dgS (n % 10).toNat
theorem decF_size : ∀ k n, (decF k n).size ≤ 2 ^ k
  | 0, _ => by show (⟨#[]⟩ : ByteArray).size ≤ 1; decide
  | k + 1, n => by
    have h := fun m => decF_size k m
    have h0 : 0 < 2 ^ k := Nat.pow_pos (by decide)
    have h1 := h (-n); have h2 := h (n.tdiv 10); have h3 := h (-(n.tmod 10)); have h4 := h (n / 10)
    have h5 := dgS_size n.toNat; have h6 := dgS_size (n % 10).toNat
    have h7 : (⟨#[45]⟩ : ByteArray).size = 1 := rfl
    rw [Nat.pow_succ]
    unfold decF
    split
    · split
      · rw [ByteArray.size_append]; omega
      · rw [ByteArray.size_append]; omega
    · split
      · omega
      · rw [ByteArray.size_append]; omega
theorem decF_size21 (n : Int) : (decF 21 n).size ≤ 2097152 := decF_size 21 n
theorem decF_s (k : Nat) (n : Int) : decF (k + 1) n = if n < 0 then (if n.tdiv 10 = 0 then (⟨#[45]⟩ : ByteArray) ++ decF k (-n) else decF k (n.tdiv 10) ++ decF k (-(n.tmod 10))) else if n < 10 then dgS n.toNat else decF k (n / 10) ++ dgS (n % 10).toNat := rfl
/-- numbers for which so many calls are enough -/
def okD (k : Nat) (n : Int) : Prop := (0 ≤ n ∧ 1 ≤ k ∧ n < ((10 ^ k : Nat) : Int)) ∨ (n < 0 ∧ 1 ≤ k ∧ -n < ((10 ^ (k - 1) : Nat) : Int))
theorem tdiv10 {n : Int} (h : n < 0) : n.tdiv 10 = -((-n) / 10) := by
  have e : n = -(-n) := by omega
  conv => lhs; rw [e]
  rw [Int.neg_tdiv, Int.tdiv_eq_ediv_of_nonneg (by omega)]
theorem tmod10 {n : Int} (h : n < 0) : n.tmod 10 = -((-n) % 10) := by
  have e : n = -(-n) := by omega
  conv => lhs; rw [e]
  rw [Int.neg_tmod, Int.tmod_eq_emod_of_nonneg (by omega)]
theorem okD_neg {k : Nat} {n : Int} (h : okD (k + 1) n) (hn : n < 0) : okD k (-n) := by
  rcases h with ⟨h1, _⟩ | ⟨_, _, h3⟩
  · omega
  · rw [Nat.add_sub_cancel] at h3
    refine .inl ⟨by omega, ?_, h3⟩
    cases k with
    | zero => simp at h3; omega
    | succ j => omega
theorem okD_div {k : Nat} {n : Int} (h : okD (k + 1) n) (hn : n < 0) (h0 : n.tdiv 10 ≠ 0) : okD k (n.tdiv 10) ∧ okD k (-(n.tmod 10)) := by
  have e1 := tdiv10 hn; have e2 := tmod10 hn
  rcases h with ⟨h1, _⟩ | ⟨_, _, h3⟩
  · omega
  · rw [Nat.add_sub_cancel] at h3
    cases k with
    | zero => simp at h3; omega
    | succ j =>
      rw [Nat.pow_succ] at h3
      have hp : 0 < 10 ^ j := Nat.pow_pos (by decide)
      refine ⟨.inr ⟨by omega, by omega, by rw [Nat.add_sub_cancel]; omega⟩, .inl ⟨by omega, by omega, by rw [Nat.pow_succ]; omega⟩⟩
theorem okD_pos {k : Nat} {n : Int} (h : okD (k + 1) n) (hn : ¬ n < 0) (h10 : ¬ n < 10) : okD k (n / 10) := by
  rcases h with ⟨h1, _, h2⟩ | ⟨h1, _⟩
  · cases k with
    | zero => simp at h2; omega
    | succ j => rw [Nat.pow_succ] at h2; exact .inl ⟨by omega, by omega, by omega⟩
  · omega
theorem okD_21 {n : Int} (h0 : -9223372036854775808 ≤ n) (h1 : n ≤ 9223372036854775807) : okD 21 n := by
  have e1 : ((10 ^ 20 : Nat) : Int) = 100000000000000000000 := by decide
  have e2 : ((10 ^ 21 : Nat) : Int) = 1000000000000000000000 := by decide
  by_cases h : n < 0
  · exact .inr ⟨h, by decide, by rw [show 21 - 1 = 20 from rfl, e1]; omega⟩
  · exact .inl ⟨by omega, by decide, by rw [e2]; omega⟩
/-- digits of foyerref02 -/
def dgR (n : Nat) (s : ByteArray) : ByteArray := if h : n = 0 then s else dgR (n / 10) (dgS (n % 10) ++ s)
termination_by n
decreasing_by omega
theorem dgR_z (s : ByteArray) : dgR 0 s = s := by rw [dgR]; rfl
theorem dgR_s {n : Nat} (h : n ≠ 0) (s : ByteArray) : dgR n s = dgR (n / 10) (dgS (n % 10) ++ s) := by rw [dgR, dif_neg h]
def decS (n : Nat) : ByteArray := dgR (n / 10) (dgS (n % 10))
theorem dgR_size : ∀ n s, (dgR n s).size ≤ n + s.size := by
  intro n
  induction n using Nat.strongRecOn with
  | _ n ih =>
    intro s
    by_cases h : n = 0
    · subst h; rw [dgR_z]; omega
    · rw [dgR_s h]
      have h1 := ih (n / 10) (by omega) (dgS (n % 10) ++ s)
      rw [ByteArray.size_append] at h1
      have := dgS_size (n % 10)
      omega
theorem decS_size (n : Nat) : (decS n).size ≤ n + 1 := by
  unfold decS
  have h1 := dgR_size (n / 10) (dgS (n % 10))
  have := dgS_size (n % 10)
  omega
def partR (s : ByteArray) : List UInt8 := (decS s.size).data.toList ++ [58] ++ s.data.toList
def joinR (xs : List ByteArray) : List UInt8 := xs.flatMap partR
theorem partR_len (s : ByteArray) : (partR s).length = (decS s.size).size + 1 + s.size := by
  unfold partR; rw [List.length_append, List.length_append, size_toList, size_toList]; rfl
theorem joinR_take {xs : List ByteArray} {k : Nat} (h : k < xs.length) : joinR (xs.take (k + 1)) = joinR (xs.take k) ++ (decS xs[k].size).data.toList ++ [58] ++ xs[k].data.toList := by
  unfold joinR; rw [List.take_succ_eq_append_getElem h, List.flatMap_append]; simp [partR, List.append_assoc]
theorem joinR_bound {xs : List ByteArray} (h : ∀ x ∈ xs, x.size ≤ 3000000) : (joinR xs).length ≤ xs.length * 6000003 := by
  induction xs with
  | nil => simp [joinR]
  | cons x r ih =>
    have h1 := ih (fun y hy => h y (by simp [hy]))
    have h2 := h x (by simp)
    have h3 := decS_size x.size
    have h4 := partR_len x
    unfold joinR at h1 ⊢
    rw [List.flatMap_cons, List.length_append, List.length_cons, Nat.add_mul]
    omega
def joinRS (xs : List ByteArray) : ByteArray := ⟨(joinR xs).toArray⟩
def fieldsL (t : TV) (to : ByteArray) : List ByteArray := [decF 21 t.serial, decF 21 t.show_, t.first] ++ t.chain.map (·.to) ++ [to]
theorem fieldsL_size {t : TV} {to : ByteArray} (h : TSz t) (ht : to.size ≤ 1000) : (∀ x ∈ fieldsL t to, x.size ≤ 3000000) ∧ (fieldsL t to).length ≤ 1004 := by
  refine ⟨fun x hx => ?_, ?_⟩
  · unfold fieldsL at hx
    simp only [List.mem_append, List.mem_cons, List.not_mem_nil, or_false, List.mem_map] at hx
    have h1 := decF_size21 t.serial
    have h2 := decF_size21 t.show_
    have h3 := h.first
    rcases hx with ((rfl | rfl | rfl) | ⟨y, hy, rfl⟩) | rfl
    · omega
    · omega
    · omega
    · have := (h.x y hy).1; omega
    · omega
  · unfold fieldsL
    have := h.len
    simp only [List.length_append, List.length_cons, List.length_nil, List.length_map]; omega
/-- at most m transfers of at most 20 strings of at most 40 bytes -/
def fewX (x : XV) : Bool := decide (x.sig.length ≤ 20) && decide (x.to.size ≤ 40) && x.sig.all (fun s => decide (s.size ≤ 40))
def fewB (t : TV) (m : Nat) : Bool := decide (t.chain.length ≤ m) && decide (t.first.size ≤ 40) && t.chain.all fewX
end Go.Proofs.YtngocpdmlijnfaaDoor
