/- Layer 30: four public keys of the example, computed by the kernel. No condition. -/
import Derived.Test.YtngocpdmlijnfaaDoorPlainE
import Derived.KernelRfl
namespace Go.Proofs.YtngocpdmlijnfaaDoor
open Go Go.Gw
set_option linter.unusedSimpArgs false
set_option linter.unusedVariables false
/-- the mixing of a block, computable -/
def takeK (x : Nat) : Nat :=
  let a := (x ^^^ (x >>> 32)) * 11400714819323198485 % 18446744073709551616
  let b := (a ^^^ (a >>> 29)) * 13787848793156543929 % 18446744073709551616
  b ^^^ (b >>> 32)
theorem takeK_eq (s b : Nat) : take64 s b = takeK (s ^^^ b) := by
  unfold takeK take64
  simp only [mixA_def, mixB_def]
/-- so many bytes of a list as a number, the first one lowest -/
def leK : List Nat → Nat
  | [] => 0
  | c :: r => c + 256 * leK r
/-- the state behind a list of blocks' bytes, the end mark included; tk mixes (a variable, so that nothing unfolds it) -/
def sumG (tk : Nat → Nat) : Nat → Nat → List Nat → Nat
  | 0, s, _ => s
  | f + 1, s, l => match l with
    | c0 :: c1 :: c2 :: c3 :: c4 :: c5 :: c6 :: c7 :: r => sumG tk f (tk (s ^^^ leK [c0, c1, c2, c3, c4, c5, c6, c7])) r
    | _ => tk (s ^^^ leK (l ++ [1]))
theorem sumG_block (tk : Nat → Nat) (f s c0 c1 c2 c3 c4 c5 c6 c7 : Nat) (r : List Nat) : sumG tk (f + 1) s (c0 :: c1 :: c2 :: c3 :: c4 :: c5 :: c6 :: c7 :: r) = sumG tk f (tk (s ^^^ leK [c0, c1, c2, c3, c4, c5, c6, c7])) r := rfl
theorem sumG_tail (tk : Nat → Nat) (f s : Nat) (l : List Nat) (h : l.length < 8) : sumG tk (f + 1) s l = tk (s ^^^ leK (l ++ [1])) := by
  match l, h with
  | [], _ => rfl
  | [_], _ => rfl
  | [_, _], _ => rfl
  | [_, _, _], _ => rfl
  | [_, _, _, _], _ => rfl
  | [_, _, _, _, _], _ => rfl
  | [_, _, _, _, _, _], _ => rfl
  | [_, _, _, _, _, _, _], _ => rfl
  | _ :: _ :: _ :: _ :: _ :: _ :: _ :: _ :: _, h => simp only [List.length_cons] at h; omega
def iterG (f : Nat → Nat) : Nat → Nat → Nat
  | 0, s => s
  | n + 1, s => iterG f n (f s)
theorem iterG_s (f : Nat → Nat) (n s : Nat) : iterG f (n + 1) s = iterG f n (f s) := rfl
theorem iterG_z (f : Nat → Nat) (s : Nat) : iterG f 0 s = s := rfl
def catG (g : Nat → List Nat) : Nat → List Nat
  | 0 => []
  | i + 1 => catG g i ++ g i
theorem catG_s (g : Nat → List Nat) (i : Nat) : catG g (i + 1) = catG g i ++ g i := rfl
theorem catG_len (g : Nat → List Nat) (m : Nat) (h : ∀ i, (g i).length = m) : ∀ k, (catG g k).length = m * k
  | 0 => rfl
  | k + 1 => by rw [catG_s, List.length_append, catG_len g m h k, h k, Nat.mul_succ]
/-- letters of a digest's digits -/
def hexN (n : Nat) : Nat := if Nat.blt n 10 then 48 + n else 87 + n
def hexLK (s : Nat) : List Nat := [hexN (s >>> 60 % 16), hexN (s >>> 56 % 16), hexN (s >>> 52 % 16), hexN (s >>> 48 % 16), hexN (s >>> 44 % 16), hexN (s >>> 40 % 16), hexN (s >>> 36 % 16), hexN (s >>> 32 % 16), hexN (s >>> 28 % 16), hexN (s >>> 24 % 16), hexN (s >>> 20 % 16), hexN (s >>> 16 % 16), hexN (s >>> 12 % 16), hexN (s >>> 8 % 16), hexN (s >>> 4 % 16), hexN (s >>> 0 % 16)]
theorem or_shl (b c n : Nat) (hb : b < 2 ^ (8 * n)) : b ||| (c <<< (8 * n)) = b + c * 2 ^ (8 * n) := by
  rw [Nat.shiftLeft_eq, Nat.or_comm, Nat.mul_comm c, ← Nat.two_pow_add_eq_or_of_lt hb, Nat.add_comm, Nat.mul_comm]
theorem add_c {d : DS} (h : d.ok) (c : Nat) : d.add c = if d.n + 1 = 8 then ⟨takeK (d.s ^^^ (d.b + c * 2 ^ (8 * d.n))), 0, 0⟩ else ⟨d.s, d.b + c * 2 ^ (8 * d.n), d.n + 1⟩ := by
  unfold DS.add
  rw [or_shl _ _ _ h.b, takeK_eq]
theorem takeK_lt (x : Nat) : takeK x < 18446744073709551616 := by
  have := takeK_eq x 0
  rw [Nat.xor_zero] at this
  rw [← this]; exact take64_lt _ _
theorem leK_snoc (l : List Nat) (c : Nat) : leK (l ++ [c]) = leK l + c * 2 ^ (8 * l.length) := by
  induction l with
  | nil => simp [leK]
  | cons x r ih =>
    show x + 256 * leK (r ++ [c]) = x + 256 * leK r + c * 2 ^ (8 * (r.length + 1))
    rw [ih, show 8 * (r.length + 1) = 8 * r.length + 8 by omega, Nat.pow_add, Nat.mul_add]
    have : 256 * (c * 2 ^ (8 * r.length)) = c * (2 ^ (8 * r.length) * 2 ^ 8) := by
      rw [Nat.mul_comm 256, Nat.mul_assoc]
    omega
theorem leK_lt (l : List Nat) (h : ∀ c ∈ l, c < 256) : leK l < 2 ^ (8 * l.length) := by
  induction l with
  | nil => simp [leK]
  | cons x r ih =>
    have h1 := ih (fun c hc => h c (by simp [hc]))
    have h2 := h x (by simp)
    show x + 256 * leK r < 2 ^ (8 * (r.length + 1))
    rw [show 8 * (r.length + 1) = 8 * r.length + 8 by omega, Nat.pow_add]
    omega
/-- bytes that do not fill the block -/
theorem adds_part (s : Nat) (hs : s < 18446744073709551616) (l : List UInt8) : l.length < 8 → DS.adds ⟨s, 0, 0⟩ l = ⟨s, leK (l.map (·.toNat)), l.length⟩ := by
  intro hl
  have key : ∀ k, k ≤ l.length → DS.adds ⟨s, 0, 0⟩ (l.take k) = ⟨s, leK ((l.take k).map (·.toNat)), k⟩ := by
    intro k
    induction k with
    | zero => intro _; rfl
    | succ k ih =>
      intro hk
      have hk' : k < l.length := by omega
      rw [DS.adds_take _ _ _ hk', ih (by omega), List.take_succ_eq_append_getElem hk', List.map_append, List.map_cons, List.map_nil, leK_snoc]
      have hlen : ((l.take k).map (·.toNat)).length = k := by simp; omega
      have hok : (⟨s, leK ((l.take k).map (·.toNat)), k⟩ : DS).ok := ⟨hs, by dsimp only; omega, by
        have := leK_lt ((l.take k).map (·.toNat)) (by intro c hc; obtain ⟨b, _, rfl⟩ := List.mem_map.1 hc; exact b.toNat_lt)
        rwa [hlen] at this⟩
      rw [add_c hok, if_neg (by dsimp only; omega), hlen]
  have := key l.length (Nat.le_refl _)
  rwa [List.take_length] at this
theorem part_ok (s : Nat) (hs : s < 18446744073709551616) (l : List UInt8) (hl : l.length < 8) : (⟨s, leK (l.map (·.toNat)), l.length⟩ : DS).ok := ⟨hs, hl, by
  have := leK_lt (l.map (·.toNat)) (by intro c hc; obtain ⟨b, _, rfl⟩ := List.mem_map.1 hc; exact b.toNat_lt)
  rwa [List.length_map] at this⟩
theorem adds_block (s : Nat) (hs : s < 18446744073709551616) (l : List UInt8) (hl : l.length = 8) : DS.adds ⟨s, 0, 0⟩ l = ⟨takeK (s ^^^ leK (l.map (·.toNat))), 0, 0⟩ := by
  have h7 : (l.take 7).length = 7 := by rw [List.length_take]; omega
  have e : l = l.take 7 ++ [l[7]'(by omega)] := by
    rw [← List.take_succ_eq_append_getElem (by omega), List.take_of_length_le (by omega)]
  have e1 : DS.adds ⟨s, 0, 0⟩ l = (DS.adds ⟨s, 0, 0⟩ (l.take 7)).add (l[7]'(by omega)).toNat := by
    rw [← DS.adds_take _ _ _ (by omega), List.take_of_length_le (by omega)]
  have hok := part_ok s hs (l.take 7) (by omega)
  rw [e1, adds_part s hs _ (by omega), add_c hok, if_pos (by dsimp only; omega)]
  have e2 : leK (l.map (·.toNat)) = leK ((l.take 7).map (·.toNat)) + (l[7]'(by omega)).toNat * 2 ^ (8 * (l.take 7).length) := by
    conv => lhs; rw [e, List.map_append, List.map_cons, List.map_nil, leK_snoc, List.length_map]
  rw [e2]
theorem fill_part (s b : Nat) (hs : s < 18446744073709551616) : ∀ (j n : Nat), 1 ≤ n → n < 8 → 8 ≤ n + j → b < 2 ^ (8 * n) → (DS.fill j ⟨s, b, n⟩).s = takeK (s ^^^ b) := by
  intro j
  induction j with
  | zero => intro n _ h2 h3 _; omega
  | succ j ih =>
    intro n h1 h2 h3 hb
    have hok : (⟨s, b, n⟩ : DS).ok := ⟨hs, h2, hb⟩
    rw [DS.fill_s (by dsimp only; omega), add_c hok]
    simp only [Nat.zero_mul, Nat.add_zero]
    by_cases h8 : n + 1 = 8
    · rw [if_pos h8, DS.fill_z rfl]
    · rw [if_neg h8]
      exact ih (n + 1) (by omega) (by omega) (by omega) (Nat.lt_of_lt_of_le hb (Nat.pow_le_pow_right (by decide) (by omega)))
theorem tail_s (s : Nat) (hs : s < 18446744073709551616) (l : List UInt8) (hl : l.length < 8) : (DS.fill 8 ((DS.adds ⟨s, 0, 0⟩ l).add 1)).s = takeK (s ^^^ leK (l.map (·.toNat) ++ [1])) := by
  have hok := part_ok s hs l hl
  rw [adds_part s hs l hl, add_c hok, leK_snoc, List.length_map]
  dsimp only
  by_cases h8 : l.length + 1 = 8
  · rw [if_pos h8, DS.fill_z rfl]
  · rw [if_neg h8]
    refine fill_part s _ hs 8 _ (by omega) (by omega) (by omega) ?_
    have := leK_lt (l.map (·.toNat) ++ [1]) (by intro c hc; rcases List.mem_append.1 hc with hc | hc; obtain ⟨b, _, rfl⟩ := List.mem_map.1 hc; exact b.toNat_lt; rw [List.mem_singleton.1 hc]; decide)
    rw [leK_snoc, List.length_map, List.length_append, List.length_map] at this
    exact this
theorem sumK_eq : ∀ (f s : Nat) (l : List UInt8), s < 18446744073709551616 → l.length < 8 * f → (DS.fill 8 ((DS.adds ⟨s, 0, 0⟩ l).add 1)).s = sumG takeK f s (l.map (·.toNat))
  | 0, _, l, _, h => by omega
  | f + 1, s, l, hs, h => by
    match l, h with
    | c0 :: c1 :: c2 :: c3 :: c4 :: c5 :: c6 :: c7 :: r, h =>
      have e : DS.adds ⟨s, 0, 0⟩ (c0 :: c1 :: c2 :: c3 :: c4 :: c5 :: c6 :: c7 :: r) = DS.adds (DS.adds ⟨s, 0, 0⟩ [c0, c1, c2, c3, c4, c5, c6, c7]) r := rfl
      rw [e, adds_block s hs _ rfl, sumK_eq f _ r (takeK_lt _) (by simp only [List.length_cons] at h; omega)]
      simp only [List.map_cons]
      rw [sumG_block]; rfl
    | [], _ => rw [tail_s s hs _ (by decide), sumG_tail _ _ _ _ (by simp)]
    | [_], _ => rw [tail_s s hs _ (by simp), sumG_tail _ _ _ _ (by simp)]
    | [_, _], _ => rw [tail_s s hs _ (by simp), sumG_tail _ _ _ _ (by simp)]
    | [_, _, _], _ => rw [tail_s s hs _ (by simp), sumG_tail _ _ _ _ (by simp)]
    | [_, _, _, _], _ => rw [tail_s s hs _ (by simp), sumG_tail _ _ _ _ (by simp)]
    | [_, _, _, _, _], _ => rw [tail_s s hs _ (by simp), sumG_tail _ _ _ _ (by simp)]
    | [_, _, _, _, _, _], _ => rw [tail_s s hs _ (by simp), sumG_tail _ _ _ _ (by simp)]
    | [_, _, _, _, _, _, _], _ => rw [tail_s s hs _ (by simp), sumG_tail _ _ _ _ (by simp)]
theorem sumN_eq (f : Nat) (l : List UInt8) (h : l.length < 8 * f) : sumN l = sumG takeK f 7046029254386353131 (l.map (·.toNat)) := sumK_eq f _ l (by decide) h
theorem hexN_eq : ∀ d, d < 16 → (hexD d).toNat = hexN d
  | 0, _ => by decide | 1, _ => by decide | 2, _ => by decide | 3, _ => by decide | 4, _ => by decide | 5, _ => by decide | 6, _ => by decide | 7, _ => by decide
  | 8, _ => by decide | 9, _ => by decide | 10, _ => by decide | 11, _ => by decide | 12, _ => by decide | 13, _ => by decide | 14, _ => by decide | 15, _ => by decide
  | n + 16, h => by omega
theorem hexLK_eq (s : Nat) : (hexS s).data.toList.map (·.toNat) = hexLK s := by
  have hm : ∀ x : Nat, (hexD (x % 16)).toNat = hexN (x % 16) := fun x => hexN_eq _ (Nat.mod_lt _ (by decide))
  have e : (hexS s).data.toList.map (·.toNat) = (List.range 16).map fun i => (hexD ((s >>> (60 - 4 * i)) % 16)).toNat := by
    unfold hexS; simp
  rw [e, List.map_congr_left (fun i _ => hm _)]
  rfl
def nextK (s : Nat) : Nat := sumG takeK 3 7046029254386353131 (hexLK s)
theorem sumS_hexS (s : Nat) : sumS (hexS s) = hexS (nextK s) := by
  unfold sumS nextK
  rw [sumN_eq 3 _ (by rw [size_toList, hexS_size]; decide), hexLK_eq]
theorem chainS_one (t : ByteArray) : chainS t 1 = sumS t := rfl
theorem iterK_eq : ∀ (n s : Nat), chainS (hexS s) n = hexS (iterG nextK n s)
  | 0, s => by rw [iterG_z]; rfl
  | n + 1, s => by
    have := chainS_add (hexS s) 1 n
    rw [Nat.add_comm] at this
    rw [← this, chainS_one, sumS_hexS, iterK_eq n, iterG_s]
def startB (c i : Nat) : List Nat := if Nat.blt i 10 then [49, 58, c, 49, 58, 48 + i] else [49, 58, c, 50, 58, 49, 38 + i]
def startK (c i : Nat) : Nat := sumG takeK 1 7046029254386353131 (startB c i)
theorem itoa_small (n : Nat) (h : n < 10) : Go.Lib.itoa (n : Int) = [UInt8.ofNat (48 + n)] := by
  unfold Go.Lib.itoa
  rw [if_neg (by omega), Int.toNat_natCast]
  unfold Go.Lib.decDigits
  rw [dif_pos h]
theorem itoa_two (n : Nat) (h : 10 ≤ n) (h2 : n < 100) : Go.Lib.itoa (n : Int) = [UInt8.ofNat (48 + n / 10), UInt8.ofNat (48 + n % 10)] := by
  unfold Go.Lib.itoa
  rw [if_neg (by omega), Int.toNat_natCast]
  unfold Go.Lib.decDigits
  rw [dif_neg (by omega)]
  unfold Go.Lib.decDigits
  rw [dif_pos (by omega)]; rfl
theorem partL_itoa {s : ByteArray} {n : Nat} (h : s.size = n) : partL s = Go.Lib.itoa (n : Int) ++ [58] ++ s.data.toList := by unfold partL; rw [h]
theorem start_bytes (c : UInt8) (i : Nat) (h : i < 18) : (joinL [(⟨#[c]⟩ : ByteArray), itoaS (i : Int)]).map (·.toNat) = startB c.toNat i := by
  have e1 : partL (⟨#[c]⟩ : ByteArray) = [49, 58, c] := by rw [partL_itoa (n := 1) rfl, itoa_small 1 (by decide)]; rfl
  have e : joinL [(⟨#[c]⟩ : ByteArray), itoaS (i : Int)] = [49, 58, c] ++ partL (itoaS (i : Int)) := by
    unfold joinL; rw [List.flatMap_cons, List.flatMap_cons, List.flatMap_nil, List.append_nil, e1]
  rw [e]
  by_cases h10 : i < 10
  · have hs : itoaS (i : Int) = ⟨#[UInt8.ofNat (48 + i)]⟩ := by unfold itoaS; rw [itoa_small i h10]
    have e2 : partL (itoaS (i : Int)) = [49, 58, UInt8.ofNat (48 + i)] := by rw [hs, partL_itoa (n := 1) rfl, itoa_small 1 (by decide)]; rfl
    rw [e2]
    unfold startB
    rw [if_pos (by simpa using h10)]
    have : (UInt8.ofNat (48 + i)).toNat = 48 + i := by rw [UInt8.toNat_ofNat']; omega
    simp only [List.cons_append, List.nil_append, List.map_cons, List.map_nil, this]
    rfl
  · have hs : itoaS (i : Int) = ⟨#[UInt8.ofNat (48 + i / 10), UInt8.ofNat (48 + i % 10)]⟩ := by unfold itoaS; rw [itoa_two i (by omega) (by omega)]
    have e2 : partL (itoaS (i : Int)) = [50, 58, UInt8.ofNat (48 + i / 10), UInt8.ofNat (48 + i % 10)] := by rw [hs, partL_itoa (n := 2) rfl, itoa_small 2 (by decide)]; rfl
    rw [e2]
    unfold startB
    rw [if_neg (by simpa using h10)]
    have h1 : (UInt8.ofNat (48 + i / 10)).toNat = 49 := by rw [UInt8.toNat_ofNat']; omega
    have h2 : (UInt8.ofNat (48 + i % 10)).toNat = 38 + i := by rw [UInt8.toNat_ofNat']; omega
    simp only [List.cons_append, List.nil_append, List.map_cons, List.map_nil, h1, h2]
    rfl
theorem startK_eq (c : UInt8) (i : Nat) (h : i < 18) : startS ⟨#[c]⟩ i = hexS (startK c.toNat i) := by
  have e := start_bytes c i h
  unfold startS listS sumS startK
  rw [← e]
  have hl : (joinL [(⟨#[c]⟩ : ByteArray), itoaS (i : Int)]).length < 8 * 1 := by
    have := congrArg List.length e
    rw [List.length_map] at this
    rw [this]; unfold startB; split <;> simp
  rw [show (⟨(joinL [(⟨#[c]⟩ : ByteArray), itoaS (i : Int)]).toArray⟩ : ByteArray).data.toList = joinL [(⟨#[c]⟩ : ByteArray), itoaS (i : Int)] from rfl, sumN_eq 1 _ hl]
def partK (c i : Nat) : List Nat := 49 :: 54 :: 58 :: hexLK (iterG nextK 15 (startK c i))
def pubN (c : Nat) : Nat := sumG takeK 43 7046029254386353131 (catG (partK c) 18)
theorem part16 (s : Nat) : (partL (hexS s)).map (·.toNat) = 49 :: 54 :: 58 :: hexLK s := by
  rw [partL_itoa (n := 16) (hexS_size s), itoa_two 16 (by decide) (by decide), List.map_append, hexLK_eq]; rfl
theorem pub_bytes (c : UInt8) : ∀ k, k ≤ 18 → (joinL (walkK ⟨#[c]⟩ (fun _ => 15) k)).map (·.toNat) = catG (partK c.toNat) k
  | 0, _ => rfl
  | k + 1, h => by
    rw [← walkK_s]
    have e : joinL (walkK ⟨#[c]⟩ (fun _ => 15) k ++ [chainS (startS ⟨#[c]⟩ k) 15]) = joinL (walkK ⟨#[c]⟩ (fun _ => 15) k) ++ partL (chainS (startS ⟨#[c]⟩ k) 15) := by
      unfold joinL; rw [List.flatMap_append]; simp
    rw [e, List.map_append, pub_bytes c k (by omega), startK_eq c k (by omega), iterK_eq, part16, catG_s, partK]
theorem hexLK_len (s : Nat) : (hexLK s).length = 16 := by rw [← hexLK_eq, List.length_map, size_toList, hexS_size]
theorem partK_len (c i : Nat) : (partK c i).length = 19 := by rw [partK, List.length_cons, List.length_cons, List.length_cons, hexLK_len]
theorem pubS_eq (c : UInt8) : pubS ⟨#[c]⟩ = hexS (pubN c.toNat) := by
  have e := pub_bytes c 18 (Nat.le_refl _)
  unfold pubS listS sumS pubN
  rw [← e]
  have hl : (joinL (walkK (⟨#[c]⟩ : ByteArray) (fun _ => 15) 18)).length < 8 * 43 := by
    have := congrArg List.length e
    rw [List.length_map, catG_len _ 19 (partK_len _)] at this
    rw [this]; decide
  rw [show (⟨(joinL (walkK (⟨#[c]⟩ : ByteArray) (fun _ => 15) 18)).toArray⟩ : ByteArray).data.toList = joinL (walkK (⟨#[c]⟩ : ByteArray) (fun _ => 15) 18) from rfl, sumN_eq 43 _ hl]
theorem hexS_ne {x y : Nat} (h : hexLK x ≠ hexLK y) : hexS x ≠ hexS y := fun e => h (by rw [← hexLK_eq, ← hexLK_eq, e])
theorem pub_a : pubN 97 = 4718836518847927884 := by kernel_rfl
theorem pub_b : pubN 98 = 6764007666365498983 := by kernel_rfl
theorem pub_c : pubN 99 = 7547152068637245850 := by kernel_rfl
theorem pub_d : pubN 100 = 11785315698404293623 := by kernel_rfl
theorem dist : Dist := by
  have a := pubS_eq 97
  have b := pubS_eq 98
  have c := pubS_eq 99
  have d := pubS_eq 100
  rw [show (97 : UInt8).toNat = 97 from rfl, pub_a] at a
  rw [show (98 : UInt8).toNat = 98 from rfl, pub_b] at b
  rw [show (99 : UInt8).toNat = 99 from rfl, pub_c] at c
  rw [show (100 : UInt8).toNat = 100 from rfl, pub_d] at d
  refine ⟨?_, ?_, ?_, ?_, ?_⟩
  · unfold sA sB; rw [a, b]; exact hexS_ne (by decide)
  · unfold sA sC; rw [a, c]; exact hexS_ne (by decide)
  · unfold sB sC; rw [b, c]; exact hexS_ne (by decide)
  · unfold sA sE; rw [a, d]; exact hexS_ne (by decide)
  · unfold sB sE; rw [b, d]; exact hexS_ne (by decide)
end Go.Proofs.YtngocpdmlijnfaaDoor
