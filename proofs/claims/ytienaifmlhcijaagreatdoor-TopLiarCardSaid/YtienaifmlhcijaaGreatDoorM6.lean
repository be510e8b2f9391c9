/- Parts of the proof, joined: the program logic, the plain theory, the walks, as they are named inside. No condition. -/
import Derived.Test.YtienaifmlhcijaaGreatDoorM5
import Derived.Test.YtienaifmlhcijaaGreatDoorM2
import Derived.Test.YtienaifmlhcijaaGreatDoorChecked
import Derived.Test.YtienaifmlhcijaaGreatDoorM3
import Derived.Test.YtienaifmlhcijaaGreatDoorM4
section
namespace Go.Proofs.YtienaifmlhcijaaGreatDoor
open Go Go.Gw Go.Sort
set_option linter.unusedVariables false
set_option linter.unusedSimpArgs false
theorem ext_growD {w w' : World} (h : Go.Gd.Ext w w') : ∃ q os', w' = Go.Sort.grow (w.drewN q) os' := by
  refine ⟨w'.drawn - w.drawn, w'.heap.extract w.heap.size w'.heap.size, ?_⟩
  have hh : w.heap ++ w'.heap.extract w.heap.size w'.heap.size = w'.heap := by
    apply Array.ext_getElem?
    intro i
    rw [Array.getElem?_append]
    split
    · rename_i hi
      exact (Go.Gd.Ext.block h hi).symm
    · rename_i hi
      rw [Array.getElem?_extract]
      have := h.size
      split
      · congr 1; omega
      · rw [Array.getElem?_eq_none (by omega)]
  have hd := Go.Gd.Fr.drawn h
  cases w with
  | mk heap tape drawn os output =>
    cases w' with
    | mk heap' tape' drawn' os' output' =>
      have h1 := h.os; have h2 := h.tape; have h3 := h.output
      simp only at h1 h2 h3 hh hd
      subst h1 h2 h3
      simp only [Go.Sort.grow, World.drewN, hh, World.mk.injEq, true_and, and_true]
      omega
instance : Inhabited SV := ⟨⟨0, 0, 0, 0, 0, ⟨#[]⟩⟩⟩
instance : Inhabited BV := ⟨⟨0, 0, 0, 0, 0, 0⟩⟩
theorem flatK_list {α : Type} [Inhabited α] (enc : α → List Value) (k : Nat) (xs : List α) (hs : ∀ x ∈ xs, (enc x).length = k) : Go.Sort.flatK enc k xs.toArray = (xs.flatMap enc).toArray := by
  have hl := flatMap_len hs
  apply Array.ext
  · simp [hl]
  intro t h1 h2
  have ht : t < xs.length * k := by simpa using h1
  have hk : 0 < k := by rcases Nat.eq_zero_or_pos k with h | h; (subst h; simp at ht); exact h
  have hi : t / k < xs.length := (Nat.div_lt_iff_lt_mul hk).2 ht
  have hj : t % k < k := Nat.mod_lt _ hk
  have e1 := Go.Sort.get_flatK enc k xs.toArray t (by simpa using ht)
  rw [getElem!_pos _ t h1] at e1
  rw [e1]
  have e2 := flatMap_at hs (t / k) hi (t % k) hj
  rw [show t / k * k + t % k = t by rw [Nat.mul_comm]; exact Nat.div_add_mod t k] at e2
  have e3 : (enc xs[t / k])[t % k]? = some ((xs.flatMap enc)[t]'(by rw [hl]; exact ht)) := by rw [← e2]; exact List.getElem?_eq_getElem _
  have e4 : (xs.toArray[t / k]!) = xs[t / k] := by simp [hi]
  rw [e4]
  have hlen := hs _ (List.getElem_mem hi)
  rw [List.getElem?_eq_getElem (by omega)] at e3
  rw [getElem!_pos _ (t % k) (by omega)]
  simpa using e3
theorem holds_id {w : World} {g : Nat} {cur : Array Value} {e : TypeId} {cs : List Value} (hb : w.heap[g]? = some (.cells cur e (0, 0))) (ht : cur.toList.take cs.length = cs) : Go.Sort.Holds id w g 0 cs.toArray := by
  intro j hj
  have hj' : j < cs.length := by simpa using hj
  refine ⟨?_, by simp [World.frozen?, hb]⟩
  have h1 : (cur.toList.take cs.length)[j]? = cs[j]? := by rw [ht]
  rw [List.getElem?_take_of_lt hj'] at h1
  simp only [World.cell?, hb, Nat.zero_add]
  simp only [Option.isSome_none, Bool.false_eq_true, if_false]
  rw [← Array.getElem?_toList, h1]
  simp [hj']
theorem take_put (cur : Array Value) (ts : List Value) (h : ts.length ≤ cur.size) : (Go.Sort.putCells id 0 ts.toArray cur).toList.take ts.length = ts := by
  apply List.ext_getElem?
  intro j
  by_cases hj : j < ts.length
  · rw [List.getElem?_take_of_lt hj, Array.getElem?_toList]
    simp [Go.Sort.putCells, hj, show j < cur.size by omega]
  · rw [List.getElem?_take_eq_none (by omega), List.getElem?_eq_none (by omega)]
/-- what the sort of an own slice leaves -/
theorem own_sort {α : Type} [Inhabited α] {enc : α → List Value} {k : Nat} {e : TypeId} {g cap : Nat} {w : World} {xs ys : List α} (hx : ∀ x, (enc x).length = k) (h : IsOSl w e (.slice (some ⟨g, 0, none⟩) xs.length cap) k enc xs) (hl : ys.length = xs.length) (n : Nat) (os : Array Obj) :
    IsOSl (sortWorldK enc k w g 0 n ys.toArray os) e (.slice (some ⟨g, 0, none⟩) xs.length cap) k enc ys ∧ Fr (fun b => (Value.slice (some ⟨g, 0, none⟩) xs.length cap).ownBlock = some b) w (sortWorldK enc k w g 0 n ys.toArray os) := by
  obtain ⟨g', cap', cur, hv, hb0, hg, h1, h2, h3, h4⟩ : ∃ g' cap' cur, Value.slice (some ⟨g, 0, none⟩) xs.length cap = .slice (some ⟨g', 0, none⟩) xs.length cap' ∧ 0 ≤ g' ∧ w.heap[g']? = some (.cells cur e (0, 0)) ∧ xs.length ≤ cap' ∧ cap' ≤ maxLen ∧ cur.size = cap' * k ∧ cur.toList.take (xs.length * k) = xs.flatMap enc := by
    rcases h.row.2 with ⟨h0, _⟩ | h0
    · cases h0
    · exact h0
  simp only [Value.slice.injEq, Option.some.injEq, Addr.mk.injEq, and_true, true_and] at hv
  obtain ⟨rfl, rfl⟩ := hv
  have hgl : g < w.heap.size := (Array.getElem?_eq_some_iff.1 hg).1
  have hyl : (ys.flatMap enc).length = xs.length * k := by rw [flatMap_len (fun y _ => hx y), hl]
  have hf : Go.Sort.flatK enc k ys.toArray = (ys.flatMap enc).toArray := flatK_list enc k ys (fun y _ => hx y)
  have hh : (sortWorldK enc k w g 0 n ys.toArray os).heap[g]? = some (.cells (Go.Sort.putCells id 0 (ys.flatMap enc).toArray cur) e (0, 0)) := by
    unfold sortWorldK
    rw [Go.Sort.heap_grow_old _ _ (by rw [size_putRowK]; exact hgl)]
    unfold putRowK
    rw [hf]
    simp [Go.Sort.putRow, Go.Sort.mapBlock, Go.Sort.ahead, Array.getElem?_modify, hg, Go.Sort.onCells]
  have hcap : xs.length * k ≤ cap * k := Nat.mul_le_mul_right _ h1
  refine ⟨⟨⟨by rw [hyl, hl], .inr ⟨g, cap, _, by rw [hl], Nat.zero_le _, hh, by omega, h2, by simp [Go.Sort.putCells, h3], ?_⟩⟩, by rw [hl]; exact h.len, fun y _ => hx y⟩, ?_⟩
  · rw [hl, ← hyl]
    exact take_put cur _ (by rw [hyl, h3]; exact hcap)
  · refine ⟨rfl, rfl, rfl, ?_, fun b hb hne => ?_, fun b hb ht => ?_⟩
    · simp [sortWorldK, Go.Sort.grow, putRowK, Go.Sort.putRow, Go.Sort.mapBlock, Go.Sort.ahead]
    · have hne' : g ≠ b := fun e => hne (by simp [Value.ownBlock, e])
      unfold sortWorldK putRowK
      rw [Go.Sort.heap_grow_old _ _ (by simpa [Go.Sort.putRow, Go.Sort.mapBlock, Go.Sort.ahead] using hb)]
      simp [Go.Sort.putRow, Go.Sort.mapBlock, Go.Sort.ahead, Array.getElem?_modify, hne']
    · by_cases hne' : g = b
      · subst hne'; rw [hh]; exact Nat.le_refl 0
      · unfold sortWorldK putRowK
        rw [Go.Sort.heap_grow_old _ _ (by simpa [Go.Sort.putRow, Go.Sort.mapBlock, Go.Sort.ahead] using hb)]
        simpa [Go.Sort.putRow, Go.Sort.mapBlock, Go.Sort.ahead, Array.getElem?_modify, hne'] using ht
theorem cmpLaysS (blk off size : Nat) (w : World) : CmpLays Tryz.prog 20 #[] encSV 6 ordS blk off size w := fun m os dk _ x y =>
  Calls.mono (D.order_spec x y _) fun e w' ⟨u, he, hu, hw⟩ => ⟨by rw [he, hu], ext_growD hw⟩
theorem cmpLaysB (blk off size : Nat) (w : World) : CmpLays Tryz.prog 29 #[] encBV 6 ordB blk off size w := fun m os dk _ x y =>
  Calls.mono (D.orderb_spec x y _) fun e w' ⟨u, he, hu, hw⟩ => ⟨by rw [he, hu], ext_growD hw⟩
theorem sortS_spec {M : Nat → Prop} {u0 : World} {l : List Atom} (v : Value) (xs : List SV) (w0 : World) (hn : xs.length < 4611686018427387904) (H : HSat M u0 (OSl 32 v 6 encSV xs :: l) w0) :
    Ret Tryz.prog 19 #[v, .func (.func 20) #[] #[]] w0 (fun u w => u = .tuple #[] ∧ HSat M u0 (OSl 32 v 6 encSV (sortL ordS xs) :: l) w) := by
  have ho : IsOSl w0 32 v 6 encSV xs := H.ok _ (List.mem_cons_self ..)
  obtain hv | ⟨g, cap, cur, hv, hb0, hg, h1, h2, h3, h4⟩ := ho.row.2
  · obtain ⟨rfl, hz⟩ := hv
    have hx : xs = [] := List.eq_nil_of_length_eq_zero hz
    subst hx
    exact Calls.mono (AnyF.slices_SortFunc_none Tryz.sortS none 0 _ w0) fun e w' ⟨he, hw⟩ => ⟨_, he, rfl, by rw [hw, show sortL ordS [] = [] from List.mergeSort_nil]; exact H⟩
  · subst hv
    have hl : (sortL ordS xs).length = xs.length := (sortL_perm ordS xs).length_eq
    have hh : HoldsK encSV 6 w0 g 0 xs.toArray := by
      show Go.Sort.Holds id w0 g 0 _
      rw [flatK_list encSV 6 xs (fun x _ => rfl)]
      exact holds_id hg (by rw [flatMap_len (sz := 6) (fun x _ => rfl)]; exact h4)
    have hc := AnyQ.slices_SortFunc_total Tryz.sortS 6 (fun w => by kernel_rfl) (fun w => by kernel_rfl) encSV (fun x => rfl) encSV_one ordS ordS_cmp.swo 20 #[] g 0 cap xs.toArray w0
      (enters_of Tryz.func20 (by kernel_rfl) rfl) (cmpLaysS _ _ _ _) hh (Array.getElem?_eq_some_iff.1 hg).1 (by simpa using hn)
      (fun x y h5 h6 => ordS_zero (by simp only [ltOf, decide_eq_false_iff_not, Int.not_lt] at h5 h6; have := ordS_cmp.anti x y; omega))
    refine Calls.mono hc fun e w' ⟨he, n, os, hw⟩ => ⟨_, he, rfl, ?_⟩
    obtain ⟨r1, r2⟩ := own_sort (ys := sortL ordS xs) encSV_len ho hl n os
    have hw' : w' = sortWorldK encSV 6 w0 g 0 n (sortL ordS xs).toArray os := hw
    rw [← hw'] at r1 r2
    exact HSat.swap (l1 := []) H rfl rfl r2 r1 (fun b hb => .inl hb)
set_option maxHeartbeats 2000000 in
set_option maxRecDepth 100000 in
theorem sortB_calls (blk cap : Nat) (d : Array BV) (w : World) (hH : HoldsK encBV 6 w blk 0 d) (hblk : blk < w.heap.size) (hsz : d.size < 4611686018427387904) :
    Calls Tryz.prog 28 #[.slice (some ⟨blk, 0, none⟩) d.size cap, .func (.func 29) #[] #[]] w fun e w' =>
      e = .returned (.tuple #[]) ∧ ∃ n os, w' = sortWorldK encBV 6 w blk 0 n (pdq (ltOf ordB) d 0 d.size (Lib.bitLen d.size) true true) os := by
  have e61 : ∀ args w, (callFunc 61 args).run Tryz.prog w = .ok (.enter 61 args) w := enters_of Tryz.func61 (by kernel_rfl) rfl
  have e56 : ∀ args w, (callFunc 56 args).run Tryz.prog w = .ok (.enter 56 args) w := enters_of Tryz.func56 (by kernel_rfl) rfl
  have hlim : Lib.bitLen d.size < 4611686018427387904 := Nat.lt_of_le_of_lt (Lib.bitLen_le d.size 62 (by omega) (by omega)) (by omega)
  have hp := AnyQ.pdqsortCmpFunc_all Tryz.sortB 6 (fun w => by kernel_rfl) (fun w => by kernel_rfl) encBV ordB 29 #[] ordB_cmp.swo blk 0 cap d w (enters_of Tryz.func29 (by kernel_rfl) rfl) (cmpLaysB _ _ _ _) ⟨encBV_len, encBV_one, hH, hblk⟩ (d.size + 1) 0 d.size (Lib.bitLen d.size) d w (by omega) rfl (SWK.start hH) (Nat.zero_le _) (Nat.le_refl _) hsz hlim (Or.inl rfl)
  change Calls Tryz.prog 61 _ _ _ at hp
  have hl : Calls Tryz.prog 56 #[.int .u64 (d.size : Int)] w fun e w' => e = .returned (.int .i64 (Lib.bitLen d.size : Nat)) ∧ w' = w := by
    have h := Tryz.bits_Len (d.size : Int) w (by omega) (by omega)
    rwa [Int.toNat_natCast] at h
  have wr : IntKind.u64.wrap (d.size : Int) = d.size := by simp [IntKind.wrap, IntKind.bits, IntKind.signed]; omega
  clear hH
  go_enter Tryz.func28, Tryz.ntmps28
  go_wp2_with (first | (go_at_fn 56; refine hl.mono ?_; rintro e w' ⟨rfl, rfl⟩) | (go_at_fn 61; refine hp.mono ?_; rintro e w' ⟨rfl, n, os, rfl⟩))
  go_end0
  exact ⟨rfl, n, os, rfl⟩
theorem sortB_none (w : World) : Calls Tryz.prog 28 #[.slice none 0 0, .func (.func 29) #[] #[]] w fun e w' => e = .returned (.tuple #[]) ∧ w' = w := by
  have e61 : ∀ args w, (callFunc 61 args).run Tryz.prog w = .ok (.enter 61 args) w := enters_of Tryz.func61 (by kernel_rfl) rfl
  have e56 : ∀ args w, (callFunc 56 args).run Tryz.prog w = .ok (.enter 56 args) w := enters_of Tryz.func56 (by kernel_rfl) rfl
  have hp : ∀ lim, Calls Tryz.prog 61 #[.slice none 0 0, .int .i64 0, .int .i64 0, .int .i64 lim, .func (.func 29) #[] #[]] w fun e w' => e = .returned (.tuple #[]) ∧ w' = w := fun lim => AnyF.pdqsortCmpFunc_none Tryz.sortB none 0 lim _ w
  have hl : Calls Tryz.prog 56 #[.int .u64 0] w fun e w' => e = .returned (.int .i64 (Lib.bitLen 0 : Nat)) ∧ w' = w := Tryz.bits_Len 0 w (by omega) (by omega)
  go_enter Tryz.func28, Tryz.ntmps28
  go_wp2_with (first | (go_at_fn 56; refine hl.mono ?_; rintro e w' ⟨rfl, rfl⟩) | (go_at_fn 61; refine (hp _).mono ?_; rintro e w' ⟨rfl, rfl⟩))
  go_end0
  exact ⟨rfl, rfl⟩
theorem sortB_spec {M : Nat → Prop} {u0 : World} {l : List Atom} (v : Value) (xs : List BV) (w0 : World) (hn : xs.length < 4611686018427387904) (H : HSat M u0 (OSl 45 v 6 encBV xs :: l) w0) :
    Ret Tryz.prog 28 #[v, .func (.func 29) #[] #[]] w0 (fun u w => u = .tuple #[] ∧ HSat M u0 (OSl 45 v 6 encBV (sortL ordB xs) :: l) w) := by
  have ho : IsOSl w0 45 v 6 encBV xs := H.ok _ (List.mem_cons_self ..)
  obtain hv | ⟨g, cap, cur, hv, hb0, hg, h1, h2, h3, h4⟩ := ho.row.2
  · obtain ⟨rfl, hz⟩ := hv
    have hx : xs = [] := List.eq_nil_of_length_eq_zero hz
    subst hx
    exact Calls.mono (sortB_none w0) fun e w' ⟨he, hw⟩ => ⟨_, he, rfl, by rw [hw, show sortL ordB [] = [] from List.mergeSort_nil]; exact H⟩
  · subst hv
    have hl : (sortL ordB xs).length = xs.length := (sortL_perm ordB xs).length_eq
    have hh : HoldsK encBV 6 w0 g 0 xs.toArray := by
      show Go.Sort.Holds id w0 g 0 _
      rw [flatK_list encBV 6 xs (fun x _ => rfl)]
      exact holds_id hg (by rw [flatMap_len (sz := 6) (fun x _ => rfl)]; exact h4)
    have hc := sortB_calls g cap xs.toArray w0 hh (Array.getElem?_eq_some_iff.1 hg).1 (by simpa using hn)
    refine Calls.mono hc fun e w' ⟨he, n, os, hw⟩ => ⟨_, he, rfl, ?_⟩
    have hsr := pdq_sorts (ltOf ordB) ordB_cmp.swo xs.toArray 0 xs.toArray.size (Lib.bitLen xs.toArray.size) true true (Nat.zero_le _) (Nat.le_refl _) (Or.inl rfl)
    have hT : ∀ x y, (ltOf ordB) x y = false → (ltOf ordB) y x = false → x = y := fun x y h5 h6 => ordB_zero (by simp only [ltOf, decide_eq_false_iff_not, Int.not_lt] at h5 h6; have := ordB_cmp.anti x y; omega)
    have hpq : pdq (ltOf ordB) xs.toArray 0 xs.toArray.size (Lib.bitLen xs.toArray.size) true true = (sortL ordB xs).toArray := Array.toList_inj.1 (sorted_unique_holds ordB_cmp.swo hT xs.toArray _ hsr.1 hsr.2)
    rw [hpq] at hw
    obtain ⟨r1, r2⟩ := own_sort (ys := sortL ordB xs) encBV_len ho hl n os
    have hw' : w' = sortWorldK encBV 6 w0 g 0 n (sortL ordB xs).toArray os := hw
    rw [← hw'] at r1 r2
    exact HSat.swap (l1 := []) H rfl rfl r2 r1 (fun b hb => .inl hb)
theorem flat_ints (zs : List Int) : zs.flatMap encI = zs.map (Value.int .i64) := by
  induction zs with
  | nil => rfl
  | cons x r ih => simp [List.flatMap_cons, encI, ih]
theorem putRow_ints (w : World) (g : Nat) (ys : List Int) : Go.Sort.putRow (Value.int .i64) w g 0 ys.toArray = Go.Sort.putRow id w g 0 (Go.Sort.flatK encI 1 ys.toArray) := by
  rw [flatK_list encI 1 ys (fun _ _ => rfl), flat_ints]
  unfold Go.Sort.putRow
  congr 1
  funext c
  unfold Go.Sort.putCells
  apply Array.ext
  · simp
  intro i h1 h2
  simp only [Array.getElem_mapIdx, Nat.zero_le, true_and, Nat.zero_add, Nat.sub_zero, List.size_toArray, List.length_map]
  split
  · rename_i h
    simp [h]
  · rfl
theorem sortI_spec {M : Nat → Prop} {u0 : World} {l : List Atom} (v : Value) (zs : List Int) (w0 : World) (hn : zs.length < 4611686018427387904) (H : HSat M u0 (OSl 3 v 1 encI zs :: l) w0) :
    Ret Tryz.prog 59 #[v] w0 (fun u w => u = .tuple #[] ∧ HSat M u0 (OSl 3 v 1 encI (zs.mergeSort fun x y => decide (x ≤ y)) :: l) w) := by
  have ho : IsOSl w0 3 v 1 encI zs := H.ok _ (List.mem_cons_self ..)
  obtain hv | ⟨g, cap, cur, hv, hb0, hg, h1, h2, h3, h4⟩ := ho.row.2
  · obtain ⟨rfl, hz⟩ := hv
    have hx : zs = [] := List.eq_nil_of_length_eq_zero hz
    subst hx
    exact Calls.mono (Tryz.slices_Sort_int_none none 0 w0) fun e w' ⟨he, hw⟩ => ⟨_, he, rfl, by rw [hw, List.mergeSort_nil]; exact H⟩
  · subst hv
    have hl : (zs.mergeSort fun x y => decide (x ≤ y)).length = zs.length := (List.mergeSort_perm _ _).length_eq
    have hid := holds_id (cs := zs.flatMap encI) hg (by rw [flatMap_len (sz := 1) (fun x _ => rfl)]; exact h4)
    have hh : Go.Sort.Holds (Value.int .i64) w0 g 0 zs.toArray := fun j hj => by
      have hj' : j < zs.length := by simpa using hj
      have := hid j (by rw [flat_ints]; simpa using hj')
      refine ⟨this.1.trans ?_, this.2⟩
      rw [flat_ints]
      simp [hj']
    refine Calls.mono (Tryz.slices_Sort_int g 0 cap zs w0 hh (Array.getElem?_eq_some_iff.1 hg).1 hn) fun e w' ⟨he, n, os, hw⟩ => ⟨_, he, rfl, ?_⟩
    obtain ⟨r1, r2⟩ := own_sort (ys := zs.mergeSort fun x y => decide (x ≤ y)) (enc := encI) (k := 1) (fun _ => rfl) ho hl n os
    have hw' : w' = sortWorldK encI 1 w0 g 0 n (zs.mergeSort fun x y => decide (x ≤ y)).toArray os := by
      rw [hw, putRow_ints]; rfl
    rw [← hw'] at r1 r2
    exact HSat.swap (l1 := []) H rfl rfl r2 r1 (fun b hb => .inl hb)
end Go.Proofs.YtienaifmlhcijaaGreatDoor
end
section
namespace Go.Proofs.YtienaifmlhcijaaGreatDoor
open Go Go.Gw
set_option linter.unusedVariables false
set_option linter.unusedSimpArgs false
theorem run_part1 {P : Program} {w : World} {T : TypeId} {cs : List Value} {off : Nat} (h : scalarB P T = true) (hv : off < cs.length) : (part T cs.toArray off).run P w = .ok cs[off] w := by simp [part, run_isAgg_scalar h, hv]
theorem Ffs32 : (Tryz.prog.fieldsOf 32).toList = [⟨"Gate", 3, 0, false, "", "", 0⟩, ⟨"Number", 3, 1, false, "", "", 8⟩, ⟨"Time", 3, 2, false, "", "", 16⟩, ⟨"Serial", 3, 3, false, "", "", 24⟩, ⟨"Kind", 3, 4, false, "", "", 32⟩, ⟨"Owner", 9, 5, false, "", "", 40⟩] := by kernel_rfl
theorem Fst32 : Tryz.prog.underlying 32 = some (.struct (Tryz.prog.fieldsOf 32)) := by kernel_rfl
theorem Fhe32 : Tryz.prog.stoodInHeld 32 = false := by kernel_rfl
theorem svEq (x y : SV) (w : World) : (Op.equalIn 10000 32 (.agg (encSV x).toArray) (.agg (encSV y).toArray)).run Tryz.prog w = .ok (decide (x = y)) w := by
  rw [run_equalIn_agg w 9999 32 _ _ Fst32 Fhe32, Ffs32]
  obtain ⟨gate, number, time, serial, kind, owner⟩ := x
  obtain ⟨gate', number', time', serial', kind', owner'⟩ := y
  simp [Op.eqFields, encSV, run_part1 Fsca3, run_part1 Fsca9, run_equalIn_int _ 9998 3 .i64 .i64 _ _ Tryz.underlying3, run_equalIn_string _ 9998 9 _ _ Tryz.underlying9, bytes_beq]
  by_cases h0 : gate = gate' <;> by_cases h1 : number = number' <;> by_cases h2 : time = time' <;> by_cases h3 : serial = serial' <;> by_cases h4 : kind = kind' <;> by_cases h5 : owner = owner' <;> simp [h0, h1, h2, h3, h4, h5]
theorem Ffs45 : (Tryz.prog.fieldsOf 45).toList = [⟨"Kind", 3, 0, false, "", "", 0⟩, ⟨"Serial", 3, 1, false, "", "", 8⟩, ⟨"Gate", 3, 2, false, "", "", 16⟩, ⟨"Number", 3, 3, false, "", "", 24⟩, ⟨"Other", 3, 4, false, "", "", 32⟩, ⟨"Count", 3, 5, false, "", "", 40⟩] := by kernel_rfl
theorem Fst45 : Tryz.prog.underlying 45 = some (.struct (Tryz.prog.fieldsOf 45)) := by kernel_rfl
theorem Fhe45 : Tryz.prog.stoodInHeld 45 = false := by kernel_rfl
theorem bvEq (x y : BV) (w : World) : (Op.equalIn 10000 45 (.agg (encBV x).toArray) (.agg (encBV y).toArray)).run Tryz.prog w = .ok (decide (x = y)) w := by
  rw [run_equalIn_agg w 9999 45 _ _ Fst45 Fhe45, Ffs45]
  obtain ⟨kind, serial, gate, number, other, count⟩ := x
  obtain ⟨kind', serial', gate', number', other', count'⟩ := y
  simp [Op.eqFields, encBV, run_part1 Fsca3, run_part1 Fsca9, run_equalIn_int _ 9998 3 .i64 .i64 _ _ Tryz.underlying3, run_equalIn_string _ 9998 9 _ _ Tryz.underlying9, bytes_beq]
  by_cases h0 : kind = kind' <;> by_cases h1 : serial = serial' <;> by_cases h2 : gate = gate' <;> by_cases h3 : number = number' <;> by_cases h4 : other = other' <;> by_cases h5 : count = count' <;> simp [h0, h1, h2, h3, h4, h5]
/-- slices.Grow[[]foyer/api.Scan,foyer/api.Scan] -/
theorem grow_spec (m : Nat) (w0 : World) (hm : m ≤ 200000) :
    Ret Tryz.prog 54 #[.slice none 0 0, .int .i64 (m : Int)] w0 (fun u w => HSat No w0 [OSl 32 u 6 encSV []] w) := by
 refine ret_of_wp (nt := 27) Tryz.func54 rfl rfl rfl (fl := [(0, .slice none 0 0), (1, .int .i64 (m : Int))]) rfl (fun a S => ?_)
 have H := HSat.start w0
 refine gsr ?_
 refine ga S fun a S => ?_
 refine gnt ?_
 refine g_seq ?_
 refine gsr ?_
 refine gm S fun a S => ?_
 refine gy rfl rfl rfl S (y_bin rfl S rfl rfl rfl) fun a S => ?_
 refine gnt ?_
 refine c_if S rfl (fun h1 => ?_) (fun h1 => ?_)
 ·have h1p := h1; try simp only [DL] at h1p
  all_goals (
    exact absurd h1 (by simp))
 ·have h1p := h1; try simp only [DL] at h1p
  refine g_skip ?_
  refine n_then ?_
  refine g_seq ?_
  refine gsr ?_
  refine gm S fun a S => ?_
  refine gm S fun a S => ?_
  refine gy rfl rfl rfl S (y_cap rfl Tryz.underlying29 S rfl) fun a S => ?_
  refine gm S fun a S => ?_
  refine gy rfl rfl rfl S (y_len rfl Tryz.underlying29 S rfl) fun a S => ?_
  refine gy rfl rfl rfl S (y_sub rfl S rfl rfl (by omega)) fun a S => ?_
  refine gy rfl rfl rfl S (y_sub rfl S rfl rfl (by omega)) fun a S => ?_
  rw [show ((m : Int) - (((0 : Nat) : Int) - ((0 : Nat) : Int))) = (m : Int) by omega] at S
  refine ga S fun a S => ?_
  refine gnt ?_
  have S := ((S.nil.cons S 0 rfl).cons S 4 rfl).cons S 1 rfl
  refine gsr ?_
  refine gm S fun a S => ?_
  refine gy rfl rfl rfl S (y_bin rfl S rfl rfl rfl) fun a S => ?_
  refine gnt ?_
  refine c_if S rfl (fun h2 => ?_) (fun h2 => ?_)
  ·have h2p := h2; try simp only [DL] at h2p
   refine g_region ?_
   refine gm S fun a S => ?_
   refine gm S fun a S => ?_
   refine gy rfl rfl rfl S (y_cap rfl Tryz.underlying29 S rfl) fun a S => ?_
   refine gy rfl rfl rfl S ((y_sliceY (j := 0) rfl Tryz.underlying29 Fsiz32 S rfl rfl (by omega))) fun a S => ?_
   refine gm S fun a S => ?_
   refine wl_of (op_appendZ (enc := encSV) (i := 0) (m := m) (c := 0) [] SV.z (wn rfl) rfl rfl rfl Tryz.underlying29 Tryz.underlying3 Finf32 rfl rfl rfl S H rfl rfl (fun j u hu => by simp at hu) rfl (fun _ => rfl) (by simp) (by omega) (by omega) (by omega) (by omega) fun g2 c2 a w hc2 S H => ?_)
   refine gm S fun a S => ?_
   refine gy rfl rfl rfl S (y_len rfl Tryz.underlying29 S rfl) fun a S => ?_
   refine gy rfl rfl rfl S ((y_sliceY (j := 0) rfl Tryz.underlying29 Fsiz32 S rfl rfl (by omega))) fun a S => ?_
   refine ga S fun a S => ?_
   refine gnt ?_
   have S := (S.nil.cons S 4 rfl).cons S 0 rfl
   refine gsr ?_
   refine gm S fun a S => ?_
   refine ga S fun a S => ?_
   refine gnt ?_
   refine g_ret ?_
   refine ret1 rfl S rfl ?_
   exact H.cutO (by simp) 0 (Nat.zero_le _)
  ·have h2p := h2; try simp only [DL] at h2p
   refine g_skip ?_
   refine n_then ?_
   refine gsr ?_
   refine gm S fun a S => ?_
   refine ga S fun a S => ?_
   refine gnt ?_
   have S := S.nil.cons S 4 rfl
   refine g_ret ?_
   refine ret1 rfl S rfl ?_
   exact (H.nilO 32 6 encSV).take [OSl 32 (.slice none 0 0) 6 encSV []]
set_option maxHeartbeats 1000000 in
/-- slices.Concat[[]foyer/api.Scan,foyer/api.Scan] -/
theorem concat_spec (v : Value) (ps : List (Value × List SV)) (w0 : World) (hv : IsSl w0 v 1 encRow ps) (hr : ∀ p ∈ ps, IsSl w0 p.1 6 encSV p.2) (hl : (catO ps).length ≤ 200000) :
    Ret Tryz.prog 18 #[v] w0 (fun u w => HSat No w0 [OSl 32 u 6 encSV (catO ps)] w) := by
 refine ret_of_wp (nt := 36) Tryz.func18 rfl rfl rfl (fl := [(0, v)]) rfl (fun a S => ?_)
 have H := HSat.start w0
 have H := H.ro0 (Sl v 1 encRow ps) rfl (hv)
 have H := H.ro0 (RowsS 6 encSV ps) rfl (hr)
 have hlen := hv.len
 refine gsr ?_
 refine ga S fun a S => ?_
 refine gnt ?_
 refine gsr ?_
 refine ga S fun a S => ?_
 refine gnt ?_
 refine g_seq ?_
 refine gsr ?_
 refine gm S fun a S => ?_
 refine gy rfl rfl rfl S (y_lens rfl Tryz.underlying24 S H rfl) fun a S => ?_
 refine gm S fun a S => ?_
 refine gnt ?_
 refine g_block ?_
 have SU := (((S.nil.cons S 0 rfl).cons S 2 rfl).cons S 9 rfl).cons S 10 rfl
 refine loop_k (X := Nat) SU (fun k => [(3, .int .i64 ((catO (ps.take k)).length : Int)), (11, .int .i64 (k : Int))]) (fun k => k ≤ ps.length) (fun k => ps.length - k) 0 ((S.nil.cons S 11 rfl).cons S 3 rfl) H (Nat.zero_le _) (fun k a w S H hi => ?_)
 simp only [List.cons_append, List.nil_append] at S hi
 refine gsr ?_
 refine gy rfl rfl rfl S (y_bin rfl S rfl rfl rfl) fun a S => ?_
 refine gnt ?_
 refine g_seq ?_
 refine c_if S rfl (fun h1 => ?_) (fun h1 => ?_)
 ·have h1p := h1; try simp only [DL] at h1p
  have hct := catO_take (show k < ps.length by omega)
  have hcl := catO_le ps (k + 1)
  rw [hct, List.length_append] at hcl
  refine g_skip ?_
  refine n_then ?_
  refine g_seq ?_
  refine g_block ?_
  refine gsr ?_
  refine gy rfl rfl rfl S (y_iaddrn rfl Tryz.underlying24 Fsiz29 S H rfl rfl (by first | assumption | omega | (simp only [LL]; omega))) fun a S => ?_
  refine gy rfl rfl rfl S (y_loads _ rfl Fsca29 S H rfl (by first | assumption | omega | (simp only [LL]; omega)) rfl) fun a S => ?_
  refine ga S fun a S => ?_
  refine gnt ?_
  refine gsr ?_
  refine gm S fun a S => ?_
  refine gm S fun a S => ?_
  refine gy rfl rfl rfl S (y_lens rfl Tryz.underlying29 S H rfl) fun a S => ?_
  refine gy rfl rfl rfl S (y_add rfl S rfl rfl (by omega)) fun a S => ?_
  refine ga S fun a S => ?_
  refine gnt ?_
  have S := (((((S.nil.cons S 0 rfl).cons S 2 rfl).cons S 9 rfl).cons S 10 rfl).cons S 11 rfl).cons S 3 rfl
  refine gsr ?_
  refine gm S fun a S => ?_
  refine gy rfl rfl rfl S (y_bin rfl S rfl rfl rfl) fun a S => ?_
  refine gnt ?_
  refine c_if S rfl (fun h2 => ?_) (fun h2 => ?_)
  ·have h2p := h2; try simp only [DL] at h2p
   all_goals (
     have := h2p; omega)
  ·have h2p := h2; try simp only [DL] at h2p
   refine g_skip ?_
   refine n_block ?_
   refine n_then ?_
   refine g_region ?_
   refine gy rfl rfl rfl S (y_add rfl S rfl rfl (by omega)) fun a S => ?_
   refine gm S fun a S => ?_
   refine gnt ?_
   refine ⟨k + 1, (S.nil.cons S 11 rfl).cons S 3 (by rw [hct, List.length_append]; rfl), (((S.nil.cons S 0 rfl).cons S 2 rfl).cons S 9 rfl).cons S 10 rfl, H, by omega, by omega⟩
 ·have h1p := h1; try simp only [DL] at h1p
  obtain rfl : k = ps.length := by omega
  rw [List.take_length] at S
  refine g_exit ?_
  refine x_then (x_then (x_eq ?_))
  refine n_then ?_
  have S := ((S.nil.cons S 0 rfl).cons S 2 rfl).cons S 3 rfl
  refine gsr ?_
  refine gm S fun a S => ?_
  refine wl_of (op_call (wn rfl) rfl rfl S (co_func rfl Tryz.call54 S rfl) (grow_spec _ _ hl) fun u24 w hc a S => ?_)
  have H1 := hc
  have H := H.call1 H1 rfl
  refine ga S fun a S => ?_
  refine gnt ?_
  refine g_seq ?_
  refine gsr ?_
  refine gm S fun a S => ?_
  refine gy rfl rfl rfl S (y_lens rfl Tryz.underlying24 S H rfl) fun a S => ?_
  refine gm S fun a S => ?_
  refine gnt ?_
  have S := ((((S.nil.cons S 2 rfl).cons S 6 rfl).cons S 25 rfl).cons S 26 rfl).cons S 27 rfl
  refine g_block ?_
  have SU := ((S.nil.cons S 2 rfl).cons S 25 rfl).cons S 26 rfl
  refine loopW (X := Nat × Value) SU (fun x => [(6, x.2), (27, .int .i64 (x.1 : Int))]) (fun x w => x.1 ≤ ps.length ∧ HSat No w0 [OSl 32 x.2 6 encSV (catO (ps.take x.1)), RowsS 6 encSV ps, Sl v 1 encRow ps] w) (fun x => ps.length - x.1) (0, u24) ((S.nil.cons S 27 rfl).cons S 6 rfl) (⟨Nat.zero_le _, H⟩) (fun x a w S hW => ?_)
  simp only [List.cons_append, List.nil_append] at S
  obtain ⟨k, s⟩ := x
  obtain ⟨hk, H⟩ := hW
  dsimp only at S H hk
  refine gsr ?_
  refine gy rfl rfl rfl S (y_bin rfl S rfl rfl rfl) fun a S => ?_
  refine gnt ?_
  refine g_seq ?_
  refine c_if S rfl (fun h3 => ?_) (fun h3 => ?_)
  ·have h3p := h3; try simp only [DL] at h3p
   have hct := catO_take (show k < ps.length by omega)
   have hcl := catO_le ps (k + 1)
   rw [hct, List.length_append] at hcl
   refine g_skip ?_
   refine n_then ?_
   refine g_seq ?_
   refine g_block ?_
   refine gsr ?_
   refine gy rfl rfl rfl S (y_iaddrn rfl Tryz.underlying24 Fsiz29 S H rfl rfl (by first | assumption | omega | (simp only [LL]; omega))) fun a S => ?_
   refine gy rfl rfl rfl S (y_loads _ rfl Fsca29 S H rfl (by first | assumption | omega | (simp only [LL]; omega)) rfl) fun a S => ?_
   refine ga S fun a S => ?_
   refine gnt ?_
   refine g_region ?_
   refine gm S fun a S => ?_
   refine gm S fun a S => ?_
   refine wl_of (op_appendT (wn rfl) rfl rfl rfl Tryz.underlying29 Finf32 rfl rfl S H rfl rfl (by simp [encSV, Value.oneCell']) (by first | assumption | omega | (simp only [LL]; omega)) (by first | assumption | omega | (simp only [LL]; omega)) fun u33 a w S H => ?_)
   refine ga S fun a S => ?_
   refine gl_nil ?_
   refine n_block ?_
   refine n_then ?_
   have S := ((((S.nil.cons S 2 rfl).cons S 25 rfl).cons S 26 rfl).cons S 27 rfl).cons S 6 rfl
   refine g_region ?_
   refine gy rfl rfl rfl S (y_add rfl S rfl rfl (by omega)) fun a S => ?_
   refine gm S fun a S => ?_
   refine gnt ?_
   rw [← hct] at H
   exact ⟨(k + 1, u33), (S.nil.cons S 27 rfl).cons S 6 rfl, ((S.nil.cons S 2 rfl).cons S 25 rfl).cons S 26 rfl, ⟨by dsimp only; omega, H⟩, by dsimp only; omega⟩
  ·have h3p := h3; try simp only [DL] at h3p
   obtain rfl : k = ps.length := by omega
   rw [List.take_length] at H
   refine g_exit ?_
   refine x_then (x_then (x_eq ?_))
   refine n_then ?_
   have S := (S.nil.cons S 2 rfl).cons S 6 rfl
   refine gsr ?_
   refine gm S fun a S => ?_
   refine ga S fun a S => ?_
   refine gnt ?_
   refine g_ret ?_
   refine ret1 rfl S rfl ?_
   exact H.take [OSl 32 s 6 encSV (catO ps)]
set_option maxHeartbeats 1000000 in
/-- slices.Compact[[]foyer/api.Scan,foyer/api.Scan] -/
theorem compactS_spec {M : Nat → Prop} {u0 : World} {l : List Atom} (v : Value) (xs : List SV) (w0 : World) (h0 : HSat M u0 (OSl 32 v 6 encSV xs :: l) w0) (hd : ∀ i (h : i + 1 < xs.length), xs[i + 1] ≠ xs[i]) :
    Ret Tryz.prog 21 #[v] w0 (fun u w => u = v ∧ HSat M u0 (OSl 32 v 6 encSV xs :: l) w) := by
 refine ret_of_wp (nt := 61) Tryz.func21 rfl rfl rfl (fl := [(0, v)]) rfl (fun a S => ?_)
 have H := h0
 have hlen := (H.sl v (xs := xs)).len
 refine gsr ?_
 refine ga S fun a S => ?_
 refine gnt ?_
 refine g_seq ?_
 refine gsr ?_
 refine gm S fun a S => ?_
 refine gy rfl rfl rfl S (y_lens rfl Tryz.underlying29 S H rfl) fun a S => ?_
 refine gy rfl rfl rfl S (y_bin rfl S rfl rfl rfl) fun a S => ?_
 refine gnt ?_
 refine c_if S rfl (fun h1 => ?_) (fun h1 => ?_)
 ·have h1p := h1; try simp only [DL] at h1p
  refine gsr ?_
  refine gm S fun a S => ?_
  refine ga S fun a S => ?_
  refine gnt ?_
  have S := (S.nil.cons S 0 rfl).cons S 2 rfl
  refine g_ret ?_
  refine r_then (ret1 rfl S rfl ?_)
  exact ⟨rfl, H⟩
 ·have h1p := h1; try simp only [DL] at h1p
  refine g_skip ?_
  refine n_then ?_
  refine g_seq ?_
  refine gsr ?_
  refine ga S fun a S => ?_
  refine gnt ?_
  refine g_block ?_
  have SU := S.nil.cons S 0 rfl
  refine loopW (X := Nat) SU (fun k => [(3, .int .i64 ((k + 1 : Nat) : Int))]) (fun k w => k + 1 ≤ xs.length ∧ HSat M u0 (OSl 32 v 6 encSV xs :: l) w) (fun k => xs.length - k) 0 (S.nil.cons S 3 rfl) (⟨by have := h1p; omega, H⟩) (fun k a w S hW => ?_)
  simp only [List.cons_append, List.nil_append] at S
  obtain ⟨hk, H⟩ := hW
  refine g_seq ?_
  refine gsr ?_
  refine gm S fun a S => ?_
  refine gm S fun a S => ?_
  refine gy rfl rfl rfl S (y_lens rfl Tryz.underlying29 S H rfl) fun a S => ?_
  refine gy rfl rfl rfl S (y_bin rfl S rfl rfl rfl) fun a S => ?_
  refine gnt ?_
  refine c_if S rfl (fun h2 => ?_) (fun h2 => ?_)
  ·have h2p := h2; try simp only [DL] at h2p
   have hk2 : k + 1 < xs.length := by have := h2p; omega
   refine g_skip ?_
   refine n_then ?_
   have S := (S.nil.cons S 0 rfl).cons S 3 rfl
   refine g_seq ?_
   refine g_block ?_
   refine g_seq ?_
   refine region_st (loud := []) (tails := []) (free := []) [0, 1, 2, 3, 4, 5, 6, 7, 8, 9] [] Fmo (by kernel_rfl) (by kernel_rfl) rfl H ?_
   refine m_w rfl rfl (wn rfl) rfl rfl S (fun w H => y_move rfl S rfl) fun a S => ?_
   refine m_w rfl rfl (wn rfl) rfl rfl S (fun w H => y_move rfl S rfl) fun a S => ?_
   refine m_w rfl rfl (wn rfl) rfl rfl S (fun w H => y_iaddrn rfl Tryz.underlying29 Fsiz32 S H rfl rfl (by first | assumption | omega | (simp only [LL]; omega))) fun a S => ?_
   refine m_loadsa _ rfl rfl (wn rfl) rfl rfl S rfl rfl (by exact Fagg32) (by first | assumption | omega | (simp only [LL]; omega)) fun a S => ?_
   refine m_w rfl rfl (wn rfl) rfl rfl S (fun w H => y_move rfl S rfl) fun a S => ?_
   refine m_w rfl rfl (wn rfl) rfl rfl S (fun w H => y_move rfl S rfl) fun a S => ?_
   refine m_w rfl rfl (wn rfl) rfl rfl S (fun w H => (y_subn (p := k + 1) (q := 1) (m := k) rfl S rfl rfl (by omega) (by omega))) fun a S => ?_
   refine m_w rfl rfl (wn rfl) rfl rfl S (fun w H => y_iaddrn rfl Tryz.underlying29 Fsiz32 S H rfl rfl (by first | assumption | omega | (simp only [LL]; omega))) fun a S => ?_
   refine m_loadsa _ rfl rfl (wn rfl) rfl rfl S rfl rfl (by exact Fagg32) (by first | assumption | omega | (simp only [LL]; omega)) fun a S => ?_
   refine m_w rfl rfl (wn rfl) rfl rfl S (fun w H => y_eqa (svEq _ _) rfl Feqg32 S rfl rfl) fun a S => ?_
   refine m_nil (fun w H => ?_)
   refine n_then ?_
   have S := ((S.nil.cons S 0 rfl).cons S 3 rfl).cons S 25 rfl
   refine c_if S rfl (fun h3 => ?_) (fun h3 => ?_)
   ·have h3p := h3; try simp only [DL] at h3p
    all_goals (
      exfalso
      exact hd k hk2 (by simpa using h3))
   ·have h3p := h3; try simp only [DL] at h3p
    refine g_skip ?_
    refine n_block ?_
    refine n_then ?_
    refine g_region ?_
    refine gm S fun a S => ?_
    refine gy rfl rfl rfl S (y_add rfl S rfl rfl (by omega)) fun a S => ?_
    refine ga S fun a S => ?_
    refine gnt ?_
    exact ⟨k + 1, S.nil.cons S 3 rfl, S.nil.cons S 0 rfl, ⟨by omega, H⟩, by omega⟩
  ·have h2p := h2; try simp only [DL] at h2p
   refine g_exit ?_
   refine x_then (x_then (x_eq ?_))
   refine n_then ?_
   have S := S.nil.cons S 0 rfl
   refine gsr ?_
   refine gm S fun a S => ?_
   refine ga S fun a S => ?_
   refine gnt ?_
   refine g_ret ?_
   refine ret1 rfl S rfl ?_
   exact ⟨rfl, H⟩
set_option maxHeartbeats 1000000 in
/-- slices.Compact[foyer/merge.blames,foyer/api.Blame] -/
theorem compactB_spec {M : Nat → Prop} {u0 : World} {l : List Atom} (v : Value) (xs : List BV) (w0 : World) (h0 : HSat M u0 (OSl 45 v 6 encBV xs :: l) w0) (hd : ∀ i (h : i + 1 < xs.length), xs[i + 1] ≠ xs[i]) :
    Ret Tryz.prog 32 #[v] w0 (fun u w => u = v ∧ HSat M u0 (OSl 45 v 6 encBV xs :: l) w) := by
 refine ret_of_wp (nt := 61) Tryz.func32 rfl rfl rfl (fl := [(0, v)]) rfl (fun a S => ?_)
 have H := h0
 have hlen := (H.sl v (xs := xs)).len
 refine gsr ?_
 refine ga S fun a S => ?_
 refine gnt ?_
 refine g_seq ?_
 refine gsr ?_
 refine gm S fun a S => ?_
 refine gy rfl rfl rfl S (y_lens rfl Tryz.underlying76 S H rfl) fun a S => ?_
 refine gy rfl rfl rfl S (y_bin rfl S rfl rfl rfl) fun a S => ?_
 refine gnt ?_
 refine c_if S rfl (fun h1 => ?_) (fun h1 => ?_)
 ·have h1p := h1; try simp only [DL] at h1p
  refine gsr ?_
  refine gm S fun a S => ?_
  refine ga S fun a S => ?_
  refine gnt ?_
  have S := (S.nil.cons S 0 rfl).cons S 2 rfl
  refine g_ret ?_
  refine r_then (ret1 rfl S rfl ?_)
  exact ⟨rfl, H⟩
 ·have h1p := h1; try simp only [DL] at h1p
  refine g_skip ?_
  refine n_then ?_
  refine g_seq ?_
  refine gsr ?_
  refine ga S fun a S => ?_
  refine gnt ?_
  refine g_block ?_
  have SU := S.nil.cons S 0 rfl
  refine loopW (X := Nat) SU (fun k => [(3, .int .i64 ((k + 1 : Nat) : Int))]) (fun k w => k + 1 ≤ xs.length ∧ HSat M u0 (OSl 45 v 6 encBV xs :: l) w) (fun k => xs.length - k) 0 (S.nil.cons S 3 rfl) (⟨by have := h1p; omega, H⟩) (fun k a w S hW => ?_)
  simp only [List.cons_append, List.nil_append] at S
  obtain ⟨hk, H⟩ := hW
  refine g_seq ?_
  refine gsr ?_
  refine gm S fun a S => ?_
  refine gm S fun a S => ?_
  refine gy rfl rfl rfl S (y_lens rfl Tryz.underlying76 S H rfl) fun a S => ?_
  refine gy rfl rfl rfl S (y_bin rfl S rfl rfl rfl) fun a S => ?_
  refine gnt ?_
  refine c_if S rfl (fun h2 => ?_) (fun h2 => ?_)
  ·have h2p := h2; try simp only [DL] at h2p
   have hk2 : k + 1 < xs.length := by have := h2p; omega
   refine g_skip ?_
   refine n_then ?_
   have S := (S.nil.cons S 0 rfl).cons S 3 rfl
   refine g_seq ?_
   refine g_block ?_
   refine g_seq ?_
   refine region_st (loud := []) (tails := []) (free := []) [0, 1, 2, 3, 4, 5, 6, 7, 8, 9] [] Fmo (by kernel_rfl) (by kernel_rfl) rfl H ?_
   refine m_w rfl rfl (wn rfl) rfl rfl S (fun w H => y_move rfl S rfl) fun a S => ?_
   refine m_w rfl rfl (wn rfl) rfl rfl S (fun w H => y_move rfl S rfl) fun a S => ?_
   refine m_w rfl rfl (wn rfl) rfl rfl S (fun w H => y_iaddrn rfl Tryz.underlying76 Fsiz45 S H rfl rfl (by first | assumption | omega | (simp only [LL]; omega))) fun a S => ?_
   refine m_loadsa _ rfl rfl (wn rfl) rfl rfl S rfl rfl (by exact Fagg45) (by first | assumption | omega | (simp only [LL]; omega)) fun a S => ?_
   refine m_w rfl rfl (wn rfl) rfl rfl S (fun w H => y_move rfl S rfl) fun a S => ?_
   refine m_w rfl rfl (wn rfl) rfl rfl S (fun w H => y_move rfl S rfl) fun a S => ?_
   refine m_w rfl rfl (wn rfl) rfl rfl S (fun w H => (y_subn (p := k + 1) (q := 1) (m := k) rfl S rfl rfl (by omega) (by omega))) fun a S => ?_
   refine m_w rfl rfl (wn rfl) rfl rfl S (fun w H => y_iaddrn rfl Tryz.underlying76 Fsiz45 S H rfl rfl (by first | assumption | omega | (simp only [LL]; omega))) fun a S => ?_
   refine m_loadsa _ rfl rfl (wn rfl) rfl rfl S rfl rfl (by exact Fagg45) (by first | assumption | omega | (simp only [LL]; omega)) fun a S => ?_
   refine m_w rfl rfl (wn rfl) rfl rfl S (fun w H => y_eqa (bvEq _ _) rfl Feqg45 S rfl rfl) fun a S => ?_
   refine m_nil (fun w H => ?_)
   refine n_then ?_
   have S := ((S.nil.cons S 0 rfl).cons S 3 rfl).cons S 25 rfl
   refine c_if S rfl (fun h3 => ?_) (fun h3 => ?_)
   ·have h3p := h3; try simp only [DL] at h3p
    all_goals (
      exfalso
      exact hd k hk2 (by simpa using h3))
   ·have h3p := h3; try simp only [DL] at h3p
    refine g_skip ?_
    refine n_block ?_
    refine n_then ?_
    refine g_region ?_
    refine gm S fun a S => ?_
    refine gy rfl rfl rfl S (y_add rfl S rfl rfl (by omega)) fun a S => ?_
    refine ga S fun a S => ?_
    refine gnt ?_
    exact ⟨k + 1, S.nil.cons S 3 rfl, S.nil.cons S 0 rfl, ⟨by omega, H⟩, by omega⟩
  ·have h2p := h2; try simp only [DL] at h2p
   refine g_exit ?_
   refine x_then (x_then (x_eq ?_))
   refine n_then ?_
   have S := S.nil.cons S 0 rfl
   refine gsr ?_
   refine gm S fun a S => ?_
   refine ga S fun a S => ?_
   refine gnt ?_
   refine g_ret ?_
   refine ret1 rfl S rfl ?_
   exact ⟨rfl, H⟩
/-- foyer/merge.Merge -/
theorem merge_spec (v : Value) (ps : List (Value × List SV)) (w0 : World) (hv : IsSl w0 v 1 encRow ps) (hr : ∀ p ∈ ps, IsSl w0 p.1 6 encSV p.2) (hl : (catO ps).length ≤ 200000) (hn : (catO ps).Nodup) :
    Ret Tryz.prog 8 #[v] w0 (fun u w => HSat No w0 [OSl 32 u 6 encSV (sortL ordS (catO ps))] w) := by
 refine ret_of_wp (nt := 10) Tryz.func8 rfl rfl rfl (fl := [(0, v)]) rfl (fun a S => ?_)
 have H := HSat.start w0
 refine gsr ?_
 refine ga S fun a S => ?_
 refine gnt ?_
 refine gsr ?_
 refine gm S fun a S => ?_
 refine wl_of (op_call (wn rfl) rfl rfl S (co_func rfl Tryz.call18 S rfl) (concat_spec v ps _ hv hr hl) fun u5 w hc a S => ?_)
 have H1 := hc
 have H := H.call1 H1 rfl
 refine ga S fun a S => ?_
 refine gnt ?_
 refine gsr ?_
 refine gm S fun a S => ?_
 refine wl_of (op_call (wn rfl) rfl rfl S (co_func rfl Tryz.call19 S rfl) (sortS_spec u5 (catO ps) _ (by omega) H) fun v w hc a S => ?_)
 obtain ⟨rfl, H⟩ := hc
 
 refine gnt ?_
 have S := (S.nil.cons S 2 rfl).cons S 3 rfl
 refine gsr ?_
 refine gm S fun a S => ?_
 refine wl_of (op_call (wn rfl) rfl rfl S (co_func rfl Tryz.call21 S rfl) (compactS_spec u5 (sortL ordS (catO ps)) _ H (sortL_apart ordS hn)) fun u9 w hc a S => ?_)
 obtain ⟨rfl, H⟩ := hc
 
 refine ga S fun a S => ?_
 refine gnt ?_
 have S := S.nil.cons S 2 rfl
 refine g_ret ?_
 refine ret1 rfl S rfl ?_
 exact H
end Go.Proofs.YtienaifmlhcijaaGreatDoor
end
section
namespace Go.Proofs.YtienaifmlhcijaaGreatDoor
open Go Go.Gw
set_option linter.unusedVariables false
set_option linter.unusedSimpArgs false
section
variable {M : Nat → Prop} {w0 w : World} {l : List Atom} {ks : List Int} {val : Int → Value} {e sz : Nat} {α : Type} {enc : α → List Value} {g : Int → List α} {k : Int}
theorem famGet (H : HSat M w0 (FamA ks (fun j => OSl e (val j) sz enc (g j)) :: l) w) (k : Int) (hz : k ∉ ks → g k = []) : HSat M w0 (OSl e ((mvF ks val k).getD (.slice none 0 0)) sz enc (g k) :: FamA (ks.erase k) (fun j => OSl e (val j) sz enc (g j)) :: l) w := by
  by_cases h : k ∈ ks
  · rw [mvF_in h]; exact H.famOut h
  · rw [mvF_out h, List.erase_of_not_mem h, hz h]; exact H.nilO e sz enc
theorem famPut {u : Value} {x : List α} {val' : Int → Value} {g' : Int → List α} (H : HSat M w0 (OSl e u sz enc x :: FamA (ks.erase k) (fun j => OSl e (val j) sz enc (g j)) :: l) w) (hn : ks.Nodup) (h1 : val' k = u) (h2 : g' k = x) (h3 : ∀ j, j ≠ k → val' j = val j) (h4 : ∀ j, j ≠ k → g' j = g j) :
    HSat M w0 (FamA (addK ks k) (fun j => OSl e (val' j) sz enc (g' j)) :: l) w := by
  unfold addK
  split
  · rename_i h
    exact H.famIn _ h hn rfl (by rw [h1, h2]) (fun j hj hne => by rw [h3 j hne, h4 j hne])
  · rename_i h
    rw [List.erase_of_not_mem h] at H
    exact H.famSnoc _ rfl (by rw [h1, h2]) (fun j hj => by have hne : j ≠ k := fun e => h (e ▸ hj); rw [h3 j hne, h4 j hne])
end
set_option maxHeartbeats 1000000 in
/-- foyer/merge.by[int] -/
theorem by_spec (v : Value) (xs : List SV) (f : FuncId) (he : Enters Tryz.prog f) (kf : SV → Int) (ok : SV → Bool) (w0 : World) (hv : IsSl w0 v 6 encSV xs) (hl : xs.length ≤ 200000)
    (hstep : ∀ s w, Ret Tryz.prog f #[.agg (encSV s).toArray] w (fun u w' => u = .tuple #[.int .i64 (kf s), .bool (ok s)] ∧ Ext w w')) :
    Ret Tryz.prog 23 #[v, .func (.func f) #[] #[]] w0 (fun u w => ∃ b val c, u = .map (some b) ∧ HSat No w0 [MapA b (fun n : Int => .int .i64 n) (fun v : Value => v) (mvF (keysF kf ok (xs)) val) c, FamA (keysF kf ok (xs)) (fun j => OSl 32 (val j) 6 encSV (grpF kf ok (xs) j))] w) := by
 refine ret_of_wp (nt := 34) Tryz.func23 rfl rfl rfl (fl := [(0, v), (1, .func (.func f) #[] #[])]) rfl (fun a S => ?_)
 have H := HSat.start w0
 have H := H.ro0 (Sl v 6 encSV xs) rfl (hv)
 have hlen := hv.len
 refine gsr ?_
 refine ga S fun a S => ?_
 refine gnt ?_
 refine gsr ?_
 refine wl_of (op_makeMap (fun n : Int => .int .i64 n) (fun v : Value => v) (wn rfl) rfl rfl rfl S H fun b10 a w S H => ?_)
 refine ga S fun a S => ?_
 refine gnt ?_
 refine g_seq ?_
 refine gsr ?_
 refine gm S fun a S => ?_
 refine gy rfl rfl rfl S (y_lens rfl Tryz.underlying29 S H rfl) fun a S => ?_
 refine gm S fun a S => ?_
 refine gnt ?_
 refine g_block ?_
 have SU := ((((S.nil.cons S 1 rfl).cons S 4 rfl).cons S 5 rfl).cons S 11 rfl).cons S 12 rfl
 refine loopW (X := Nat × (Int → Value) × Nat) SU (fun x => [(13, .int .i64 (x.1 : Int))]) (fun x w => x.1 ≤ xs.length ∧ HSat No w0 [MapA b10 (fun n : Int => .int .i64 n) (fun v : Value => v) (mvF (keysF kf ok (xs.take x.1)) x.2.1) x.2.2, FamA (keysF kf ok (xs.take x.1)) (fun j => OSl 32 (x.2.1 j) 6 encSV (grpF kf ok (xs.take x.1) j)), Sl v 6 encSV xs] w) (fun x => xs.length - x.1) (0, (fun _ => .slice none 0 0), 0) (S.nil.cons S 13 rfl) (⟨Nat.zero_le _, by have h := (HSat.famNil H (fun j : Int => OSl 32 ((fun _ => Value.slice none 0 0) j) 6 encSV (grpF kf ok (xs.take 0) j))).swap2; rw [← mvF_nil (fun _ : Int => (Value.slice none 0 0))] at h; exact h⟩) (fun x a w S hW => ?_)
 simp only [List.cons_append, List.nil_append] at S
 obtain ⟨k, val, c⟩ := x
 obtain ⟨hk, H⟩ := hW
 dsimp only at S H hk
 refine gsr ?_
 refine gy rfl rfl rfl S (y_bin rfl S rfl rfl rfl) fun a S => ?_
 refine gnt ?_
 refine g_seq ?_
 refine c_if S rfl (fun h1 => ?_) (fun h1 => ?_)
 ·have h1p := h1; try simp only [DL] at h1p
  have hkl : k < xs.length := by omega
  have htk := List.take_succ_eq_append_getElem hkl
  have hgl : (grpF kf ok (xs.take k) (kf xs[k])).length ≤ 200000 := Nat.le_trans (grpF_len _ _ _ _) (by rw [List.length_take]; omega)
  refine g_skip ?_
  refine n_then ?_
  refine g_seq ?_
  refine g_block ?_
  refine gsr ?_
  refine gy rfl rfl rfl S (y_iaddrn rfl Tryz.underlying29 Fsiz32 S H rfl rfl (by first | assumption | omega | (simp only [LL]; omega))) fun a S => ?_
  refine gy rfl rfl rfl S (y_loadsa _ rfl S H rfl (by exact Fagg32) (by first | assumption | omega | (simp only [LL]; omega))) fun a S => ?_
  refine wl_of (op_alloc (wn rfl) rfl rfl rfl S H Fzer32 fun b7 a w S H => ?_)
  refine wl_of (op_storea (wn rfl) rfl rfl S H rfl rfl rfl Fsiz32 rfl (cs' := encSV xs[k]) rfl fun a w S H => ?_)
  refine gnt ?_
  refine gsr ?_
  refine gm S fun a S => ?_
  refine gy rfl rfl rfl S (y_load0 rfl S H rfl (by exact Fagg32)) fun a S => ?_
  refine wl_of (op_call (wn rfl) rfl rfl S (co_value rfl he S rfl rfl) (hstep xs[k] _) fun v w hc a S => ?_)
  obtain ⟨rfl, he⟩ := hc
  have H := H.ext he
  refine gm S fun a S => ?_
  refine gy rfl rfl rfl S (y_extract rfl S rfl rfl) fun a S => ?_
  refine gy rfl rfl rfl S (y_extract rfl S rfl rfl) fun a S => ?_
  refine ga S fun a S => ?_
  refine ga S fun a S => ?_
  refine gnt ?_
  have S := ((((((((S.nil.cons S 1 rfl).cons S 4 rfl).cons S 5 rfl).cons S 11 rfl).cons S 12 rfl).cons S 13 rfl).cons S 7 rfl).cons S 8 rfl).cons S 9 rfl
  refine gsr ?_
  refine gm S fun a S => ?_
  refine gnt ?_
  refine c_if S rfl (fun h2 => ?_) (fun h2 => ?_)
  ·have h2p := h2; try simp only [DL] at h2p
   refine g_region ?_
   refine gm S fun a S => ?_
   refine gm S fun a S => ?_
   refine gm S fun a S => ?_
   refine gm S fun a S => ?_
   refine gy rfl rfl rfl S (y_lookup (_) ((.slice none 0 0 : Value)) rfl Tryz.underlying77 Finf29 S H rfl (keyOK_int Tryz.underlying3) (by exact rfl) (by exact rfl)) fun a S => ?_
   have H := famGet (H.front (FamA (keysF kf ok (xs.take k)) (fun j => OSl 32 (val j) 6 encSV (grpF kf ok (xs.take k) j)))) (kf xs[k]) (grpF_nil kf ok)
   refine gy rfl rfl rfl S (y_load0 rfl S H rfl (by exact Fagg32)) fun a S => ?_
   refine wl_of (op_buildSlice (wn rfl) rfl rfl rfl Tryz.underlying29 Finf32 S H (idx := [0]) rfl rfl rfl (z := [.int .i64 0, .int .i64 0, .int .i64 0, .int .i64 0, .int .i64 0, .string ⟨#[]⟩]) (by kernel_rfl) (cs := [.int .i64 xs[k].gate, .int .i64 xs[k].number, .int .i64 xs[k].time, .int .i64 xs[k].serial, .int .i64 xs[k].kind, .string xs[k].owner]) (by kernel_rfl) fun b30 a w S H => ?_)
   refine wl_of (op_append ([xs[k]]) (wn rfl) rfl rfl rfl Tryz.underlying29 Finf32 rfl rfl S H rfl rfl rfl rfl (by simp) (by simp [encSV]) (by simp [encSV, Value.oneCell']) (by simp only [List.length_singleton]; omega) (by simp only [List.length_singleton]; omega) fun u31 a w hn31 S H => ?_)
   rw [← grpF_yes (kf := kf) (by exact h2)] at H
   refine wl_of (op_mapUpdate (_) (_) (wn rfl) rfl rfl Tryz.underlying77 S H rfl (keyOK_int Tryz.underlying3) (by exact rfl) (by exact rfl) fun a w S H => ?_)
   refine gl_nil ?_
   refine n_block ?_
   refine n_then ?_
   have S := (((((S.nil.cons S 1 rfl).cons S 4 rfl).cons S 5 rfl).cons S 11 rfl).cons S 12 rfl).cons S 13 rfl
   refine g_region ?_
   refine gy rfl rfl rfl S (y_add rfl S rfl rfl (by omega)) fun a S => ?_
   refine gm S fun a S => ?_
   refine gnt ?_
   first
   | (have hok : ok xs[k] = true := by exact h2
      have H2 := (famPut (val' := setF val (kf xs[k]) u31) (g' := grpF kf ok (xs.take k ++ [xs[k]])) (H.take [OSl 32 u31 6 encSV (grpF kf ok (xs.take k ++ [xs[k]]) (kf xs[k])), FamA ((keysF kf ok (xs.take k)).erase (kf xs[k])) (fun j => OSl 32 (val j) 6 encSV (grpF kf ok (xs.take k) j)), MapA b10 (fun n : Int => .int .i64 n) (fun v : Value => v) (upd (mvF (keysF kf ok (xs.take k)) val) (kf xs[k]) u31) (if (mvF (keysF kf ok (xs.take k)) val (kf xs[k])).isSome = true then c else c + 1), Sl v 6 encSV xs]) (keysF_nodup _ _ _) (setF_same val _ u31) rfl (fun j hj => setF_ne val u31 hj) (fun j hj => grpF_ne hj)).swap2
      rw [upd_mvF] at H2
      refine ⟨(k + 1, setF val (kf xs[k]) u31, if (mvF (keysF kf ok (xs.take k)) val (kf xs[k])).isSome = true then c else c + 1), S.nil.cons S 13 rfl, ((((S.nil.cons S 1 rfl).cons S 4 rfl).cons S 5 rfl).cons S 11 rfl).cons S 12 rfl, ⟨by dsimp only; omega, ?_⟩, by dsimp only; omega⟩
      dsimp only
      rw [htk, keysF_yes hok]
      exact H2)
   | (have hok : ok xs[k] = false := by exact h2
      have eg : grpF kf ok (xs.take k ++ [xs[k]]) = grpF kf ok (xs.take k) := funext (grpF_no hok)
      refine ⟨(k + 1, val, c), S.nil.cons S 13 rfl, ((((S.nil.cons S 1 rfl).cons S 4 rfl).cons S 5 rfl).cons S 11 rfl).cons S 12 rfl, ⟨by dsimp only; omega, ?_⟩, by dsimp only; omega⟩
      dsimp only
      rw [htk, keysF_no hok, eg]
      exact H.take [MapA b10 (fun n : Int => .int .i64 n) (fun v : Value => v) (mvF (keysF kf ok (xs.take k)) val) c, FamA (keysF kf ok (xs.take k)) (fun j => OSl 32 (val j) 6 encSV (grpF kf ok (xs.take k) j)), Sl v 6 encSV xs])
  ·have h2p := h2; try simp only [DL] at h2p
   refine g_skip ?_
   refine n_block ?_
   refine n_then ?_
   have S := (((((S.nil.cons S 1 rfl).cons S 4 rfl).cons S 5 rfl).cons S 11 rfl).cons S 12 rfl).cons S 13 rfl
   refine g_region ?_
   refine gy rfl rfl rfl S (y_add rfl S rfl rfl (by omega)) fun a S => ?_
   refine gm S fun a S => ?_
   refine gnt ?_
   first
   | (have hok : ok xs[k] = true := by exact h2
      have H2 := (famPut (val' := setF val (kf xs[k]) u31) (g' := grpF kf ok (xs.take k ++ [xs[k]])) (H.take [OSl 32 u31 6 encSV (grpF kf ok (xs.take k ++ [xs[k]]) (kf xs[k])), FamA ((keysF kf ok (xs.take k)).erase (kf xs[k])) (fun j => OSl 32 (val j) 6 encSV (grpF kf ok (xs.take k) j)), MapA b10 (fun n : Int => .int .i64 n) (fun v : Value => v) (upd (mvF (keysF kf ok (xs.take k)) val) (kf xs[k]) u31) (if (mvF (keysF kf ok (xs.take k)) val (kf xs[k])).isSome = true then c else c + 1), Sl v 6 encSV xs]) (keysF_nodup _ _ _) (setF_same val _ u31) rfl (fun j hj => setF_ne val u31 hj) (fun j hj => grpF_ne hj)).swap2
      rw [upd_mvF] at H2
      refine ⟨(k + 1, setF val (kf xs[k]) u31, if (mvF (keysF kf ok (xs.take k)) val (kf xs[k])).isSome = true then c else c + 1), S.nil.cons S 13 rfl, ((((S.nil.cons S 1 rfl).cons S 4 rfl).cons S 5 rfl).cons S 11 rfl).cons S 12 rfl, ⟨by dsimp only; omega, ?_⟩, by dsimp only; omega⟩
      dsimp only
      rw [htk, keysF_yes hok]
      exact H2)
   | (have hok : ok xs[k] = false := by exact h2
      have eg : grpF kf ok (xs.take k ++ [xs[k]]) = grpF kf ok (xs.take k) := funext (grpF_no hok)
      refine ⟨(k + 1, val, c), S.nil.cons S 13 rfl, ((((S.nil.cons S 1 rfl).cons S 4 rfl).cons S 5 rfl).cons S 11 rfl).cons S 12 rfl, ⟨by dsimp only; omega, ?_⟩, by dsimp only; omega⟩
      dsimp only
      rw [htk, keysF_no hok, eg]
      exact H.take [MapA b10 (fun n : Int => .int .i64 n) (fun v : Value => v) (mvF (keysF kf ok (xs.take k)) val) c, FamA (keysF kf ok (xs.take k)) (fun j => OSl 32 (val j) 6 encSV (grpF kf ok (xs.take k) j)), Sl v 6 encSV xs])
 ·have h1p := h1; try simp only [DL] at h1p
  obtain rfl : k = xs.length := by omega
  rw [List.take_length] at H
  refine g_exit ?_
  refine x_then (x_then (x_eq ?_))
  refine n_then ?_
  have S := (S.nil.cons S 4 rfl).cons S 5 rfl
  refine gsr ?_
  refine gm S fun a S => ?_
  refine ga S fun a S => ?_
  refine gnt ?_
  refine g_ret ?_
  refine ret1 rfl S rfl ?_
  exact ⟨b10, val, c, rfl, H.take [MapA b10 (fun n : Int => .int .i64 n) (fun v : Value => v) (mvF (keysF kf ok (xs)) val) c, FamA (keysF kf ok (xs)) (fun j => OSl 32 (val j) 6 encSV (grpF kf ok (xs) j))]⟩
end Go.Proofs.YtienaifmlhcijaaGreatDoor
end
section
namespace Go.Proofs.YtienaifmlhcijaaGreatDoor
open Go Go.Gw
set_option linter.unusedVariables false
set_option linter.unusedSimpArgs false
/-- foyer/merge.Blames$1 -/
theorem bkey_spec (s : SV) (w0 : World) :
    Ret Tryz.prog 24 #[.agg (encSV s).toArray] w0 (fun u w => u = .tuple #[.int .i64 s.gate, .bool true] ∧ Ext w0 w) := by
 refine ret_of_wp (nt := 6) Tryz.func24 rfl rfl rfl (fl := [(0, .agg (encSV s).toArray)]) rfl (fun a S => ?_)
 have H := HSat.start w0
 refine gsr ?_
 refine wl_of (op_boxa (wn rfl) rfl rfl rfl S H rfl fun b1 a w S H => ?_)
 refine ga S fun a S => ?_
 refine ga S fun a S => ?_
 refine gnt ?_
 refine gsr ?_
 refine gy rfl rfl rfl S (y_faddrb rfl Ffo32_0 S rfl) fun a S => ?_
 refine gy rfl rfl rfl S (y_load rfl Fsca3 S H rfl rfl) fun a S => ?_
 refine ga S fun a S => ?_
 refine ga S fun a S => ?_
 refine gnt ?_
 have S := (S.nil.cons S 2 rfl).cons S 3 rfl
 refine g_ret ?_
 refine ret2 rfl S rfl rfl ?_
 exact ⟨rfl, H.toExt⟩
/-- foyer/merge.ways$1 -/
theorem wkey_spec (s : SV) (w0 : World) :
    Ret Tryz.prog 60 #[.agg (encSV s).toArray] w0 (fun u w => u = .tuple #[.int .i64 s.serial, .bool (okW s)] ∧ Ext w0 w) := by
 refine ret_of_wp (nt := 14) Tryz.func60 rfl rfl rfl (fl := [(0, .agg (encSV s).toArray)]) rfl (fun a S => ?_)
 have H := HSat.start w0
 refine gsr ?_
 refine wl_of (op_boxa (wn rfl) rfl rfl rfl S H rfl fun b1 a w S H => ?_)
 refine ga S fun a S => ?_
 refine ga S fun a S => ?_
 refine gnt ?_
 refine g_seq ?_
 refine region_st (loud := []) (tails := []) (free := []) [0, 1, 2, 3, 4, 5, 6, 7, 8, 9, 10, 11] [] Fmo (by kernel_rfl) (by kernel_rfl) rfl H ?_
 refine m_w rfl rfl (wn rfl) rfl rfl S (fun w H => y_faddrb rfl Ffo32_3 S rfl) fun a S => ?_
 refine m_w rfl rfl (wn rfl) rfl rfl S (fun w H => y_load rfl Fsca3 S H rfl rfl) fun a S => ?_
 refine m_w rfl rfl (wn rfl) rfl rfl S (fun w H => y_faddrb rfl Ffo32_4 S rfl) fun a S => ?_
 refine m_w rfl rfl (wn rfl) rfl rfl S (fun w H => y_load rfl Fsca3 S H rfl rfl) fun a S => ?_
 refine m_w rfl rfl (wn rfl) rfl rfl S (fun w H => y_bin rfl S rfl rfl rfl) fun a S => ?_
 refine m_w rfl rfl (wn rfl) rfl rfl S (fun w H => y_move rfl S rfl) fun a S => ?_
 refine' m_orq [6, 7, 8] 9 S rfl rfl rfl rfl rfl rfl rfl rfl rfl (fun _ S => (wn rfl)) (fun h1 kk => ?yh1) (fun a S => ?_)
 case yh1 =>
  have h1p := h1; try simp only [DL] at h1p
  refine m_w rfl rfl (wg' 9 rfl rfl S rfl h1 rfl) rfl rfl S (fun w H => y_faddrb rfl Ffo32_4 S rfl) fun a S => ?_
  refine m_w rfl rfl (wg' 9 rfl rfl S rfl h1 rfl) rfl rfl S (fun w H => y_load rfl Fsca3 S H rfl rfl) fun a S => ?_
  refine m_w rfl rfl (wg' 9 rfl rfl S rfl h1 rfl) rfl rfl S (fun w H => y_bin rfl S rfl rfl rfl) fun a S => ?_
  refine m_w rfl rfl (wn rfl) rfl rfl S (fun w H => y_or' rfl h1 S rfl rfl) fun a S => ?_
  exact kk _ (S.join 4 13 rfl rfl)
 refine m_w rfl rfl (wn rfl) rfl rfl S (fun w H => y_assign rfl S rfl) fun a S => ?_
 refine m_w rfl rfl (wn rfl) rfl rfl S (fun w H => y_assign rfl S rfl) fun a S => ?_
 refine m_nil (fun w H => ?_)
 refine n_then ?_
 have S := (S.nil.cons S 2 rfl).cons S 3 rfl
 refine g_ret ?_
 refine ret2 rfl S rfl rfl ?_
 exact ⟨rfl, H.toExt⟩
set_option maxHeartbeats 1000000 in
/-- (*foyer/merge.blames).blame -/
theorem blame_spec {M : Nat → Prop} {u0 : World} {l : List Atom} (pb : Nat) (bv : Value) (bs : List BV) (kind other count : Int) (s : SV) (w0 : World) (h0 : HSat M u0 (Cel pb 76 [bv] :: OSl 45 bv 6 encBV (bs) :: l) w0) (hl : bs.length ≤ 10000000) :
    Ret Tryz.prog 26 #[.pointer (some ⟨pb, 0, none⟩), .int .i64 kind, .agg (encSV s).toArray, .int .i64 other, .int .i64 count] w0 (fun u w => u = .tuple #[] ∧ ∃ bv', HSat M u0 (Cel pb 76 [bv'] :: OSl 45 bv' 6 encBV (bs ++ [blameF kind s other count]) :: l) w) := by
 refine ret_of_wp (nt := 27) Tryz.func26 rfl rfl rfl (fl := [(0, .pointer (some ⟨pb, 0, none⟩)), (1, .int .i64 kind), (2, .agg (encSV s).toArray), (3, .int .i64 other), (4, .int .i64 count)]) rfl (fun a S => ?_)
 have H := h0
 refine gsr ?_
 refine wl_of (op_boxa (wn rfl) rfl rfl rfl S H rfl fun b7 a w S H => ?_)
 refine gnt ?_
 refine region_st (loud := [14, 15, 17]) (tails := [15, 17]) (free := [0]) [0, 1, 2, 3, 4, 5, 6, 7, 8, 9, 10, 11, 12, 13, 14, 15, 16, 17] [] Fmo (by kernel_rfl) (by kernel_rfl) rfl H ?_
 refine m_f rfl rfl (wn rfl) rfl rfl S (fun w H => y_move rfl S rfl) fun a S => ?_
 refine m_w rfl rfl (wn rfl) rfl rfl S (fun w H => y_move rfl S rfl) fun a S => ?_
 refine m_w rfl rfl (wn rfl) rfl rfl S (fun w H => y_nilCheck rfl S rfl) fun a S => ?_
 refine m_w rfl rfl (wn rfl) rfl rfl S (fun w H => y_load rfl Fsca76 S H rfl rfl) fun a S => ?_
 refine m_w rfl rfl (wn rfl) rfl rfl S (fun w H => y_move rfl S rfl) fun a S => ?_
 refine m_w rfl rfl (wn rfl) rfl rfl S (fun w H => y_faddrb rfl Ffo32_3 S rfl) fun a S => ?_
 refine m_w rfl rfl (wn rfl) rfl rfl S (fun w H => y_load rfl Fsca3 S H rfl rfl) fun a S => ?_
 refine m_w rfl rfl (wn rfl) rfl rfl S (fun w H => y_faddrb rfl Ffo32_0 S rfl) fun a S => ?_
 refine m_w rfl rfl (wn rfl) rfl rfl S (fun w H => y_load rfl Fsca3 S H rfl rfl) fun a S => ?_
 refine m_w rfl rfl (wn rfl) rfl rfl S (fun w H => y_faddrb rfl Ffo32_1 S rfl) fun a S => ?_
 refine m_w rfl rfl (wn rfl) rfl rfl S (fun w H => y_load rfl Fsca3 S H rfl rfl) fun a S => ?_
 refine m_w rfl rfl (wn rfl) rfl rfl S (fun w H => y_move rfl S rfl) fun a S => ?_
 refine m_w rfl rfl (wn rfl) rfl rfl S (fun w H => y_move rfl S rfl) fun a S => ?_
 refine m_w rfl rfl (wn rfl) rfl rfl S (fun w H => y_buildf rfl Fbld45 S rfl (idx := [0, 1, 2, 3, 4, 5]) rfl (cs := [.int .i64 kind, .int .i64 s.serial, .int .i64 s.gate, .int .i64 s.number, .int .i64 other, .int .i64 count]) (by kernel_rfl)) fun a S => ?_
 refine m_l rfl rfl (fun w H => op_buildSlice (wn rfl) rfl rfl rfl Tryz.underlying76 Finf45 S H (idx := [0]) rfl rfl rfl (z := [.int .i64 0, .int .i64 0, .int .i64 0, .int .i64 0, .int .i64 0, .int .i64 0]) (by kernel_rfl) (cs := [.int .i64 kind, .int .i64 s.serial, .int .i64 s.gate, .int .i64 s.number, .int .i64 other, .int .i64 count]) (by kernel_rfl) fun b24 a w S H => m_next H (List.sublist_cons_self _ _) ?_)
 refine m_l rfl rfl (fun w H => op_append ([blameF kind s other count]) (wn rfl) rfl rfl rfl Tryz.underlying76 Finf45 rfl rfl S H rfl rfl rfl rfl (by simp) (by simp [encBV]) (by simp [encBV, Value.oneCell']) (by simp only [List.length_singleton]; omega) (by simp only [List.length_singleton]; omega) fun u25 a w hn25 S H => m_tail H rfl ?_)
 refine m_w rfl rfl (wn rfl) rfl rfl S (fun w H => y_nilCheck rfl S rfl) fun a S => ?_
 refine m_l rfl rfl (fun w H => op_store (wn rfl) rfl rfl S H rfl rfl (H.sl1 _) Fsiz76 rfl fun a w S H => m_tail H rfl ?_)
 dsimp only [List.set, Nat.zero_add, Nat.reduceAdd] at H
 refine m_nil (fun w H => ?_)
 refine ret0n rfl S ?_
 exact ⟨rfl, u25, H.tail.tail⟩
end Go.Proofs.YtienaifmlhcijaaGreatDoor
end
section
namespace Go.Proofs.YtienaifmlhcijaaGreatDoor
open Go Go.Gw
set_option linter.unusedVariables false
set_option linter.unusedSimpArgs false
section
variable {M : Nat → Prop} {w0 w : World} {l : List Atom} {x1 x2 x3 y1 y2 : Atom}
theorem rot32 (H : HSat M w0 (x1 :: x2 :: x3 :: y1 :: y2 :: l) w) : HSat M w0 (y1 :: y2 :: x1 :: x2 :: x3 :: l) w := H.perm ((List.perm_append_comm (l₁ := [x1, x2, x3]) (l₂ := [y1, y2])).append_right l)
theorem rot22 (H : HSat M w0 (x1 :: x2 :: y1 :: y2 :: l) w) : HSat M w0 (y1 :: y2 :: x1 :: x2 :: l) w := H.perm ((List.perm_append_comm (l₁ := [x1, x2]) (l₂ := [y1, y2])).append_right l)
theorem rot12 (H : HSat M w0 (x1 :: y1 :: y2 :: l) w) : HSat M w0 (y1 :: y2 :: x1 :: l) w := H.perm ((List.perm_append_comm (l₁ := [x1]) (l₂ := [y1, y2])).append_right l)
theorem rot23 (H : HSat M w0 (y1 :: y2 :: x1 :: x2 :: x3 :: l) w) : HSat M w0 (x1 :: x2 :: x3 :: y1 :: y2 :: l) w := H.perm ((List.perm_append_comm (l₁ := [y1, y2]) (l₂ := [x1, x2, x3])).append_right l)
theorem dropM2 (H : HSat M w0 (y1 :: y2 :: x1 :: x2 :: l) w) : HSat M w0 (y1 :: y2 :: l) w := H.sub (List.Sublist.cons_cons _ (List.Sublist.cons_cons _ (List.Sublist.cons _ (List.sublist_cons_self _ _))))
theorem dropM1 (H : HSat M w0 (y1 :: y2 :: x1 :: l) w) : HSat M w0 (y1 :: y2 :: l) w := H.sub (List.Sublist.cons_cons _ (List.Sublist.cons_cons _ (List.sublist_cons_self _ _)))
end
set_option maxHeartbeats 2000000 in
/-- foyer/merge.gate -/
theorem gate_spec {M : Nat → Prop} {u0 : World} {l : List Atom} (v : Value) (xs : List SV) (pb : Nat) (bv : Value) (bs : List BV) (w0 : World) (h0 : HSat M u0 (Sl v 6 encSV xs :: Cel pb 76 [bv] :: OSl 45 bv 6 encBV (bs) :: l) w0) (hl : bs.length ≤ 5000000) (hx : xs.length ≤ 200000) (hne : 0 < xs.length) (hnum : (xs.map (·.number)).Nodup) :
    Ret Tryz.prog 25 #[v, .func (.func 26) #[.pointer (some ⟨pb, 0, none⟩)] #[]] w0 (fun u w => u = .tuple #[] ∧ ∃ bv', HSat M u0 (Sl v 6 encSV xs :: Cel pb 76 [bv'] :: OSl 45 bv' 6 encBV (bs ++ gateB xs) :: l) w) := by
 refine ret_of_wp (nt := 112) Tryz.func25 rfl rfl rfl (fl := [(0, v), (1, .func (.func 26) #[.pointer (some ⟨pb, 0, none⟩)] #[])]) rfl (fun a S => ?_)
 have H := h0
 have hns := nsF_len xs
 have hhd : xs.headD SV.z = xs[0] := by cases xs with | nil => simp at hne | cons x r => rfl
 refine gsr ?_
 refine wl_of (op_makeMap (fun n : Int => .int .i64 n) (fun s : SV => .agg (encSV s).toArray) (wn rfl) rfl rfl rfl S H fun b17 a w S H => ?_)
 refine ga S fun a S => ?_
 refine gnt ?_
 refine gsr ?_
 refine ga S fun a S => ?_
 refine gnt ?_
 refine g_seq ?_
 refine gsr ?_
 refine gm S fun a S => ?_
 refine gy rfl rfl rfl S (y_lens rfl Tryz.underlying29 S H rfl) fun a S => ?_
 refine gm S fun a S => ?_
 refine gnt ?_
 refine g_block ?_
 have SU := ((((S.nil.cons S 1 rfl).cons S 0 rfl).cons S 4 rfl).cons S 18 rfl).cons S 19 rfl
 refine loopW (X := Nat × Value × Nat) SU (fun x => [(20, .int .i64 (x.1 : Int)), (5, x.2.1)]) (fun x w => x.1 ≤ xs.length ∧ HSat M u0 (OSl 3 x.2.1 1 encI ((xs.take (x.1)).map (·.number)) :: MapA b17 (fun n : Int => .int .i64 n) (fun s : SV => .agg (encSV s).toArray) (lookN (xs.take (x.1))) x.2.2 :: Sl v 6 encSV xs :: Cel pb 76 [bv] :: OSl 45 bv 6 encBV (bs) :: l) w) (fun x => xs.length - x.1) (0, .slice none 0 0, 0) ((S.nil.cons S 5 rfl).cons S 20 rfl) (⟨Nat.zero_le _, by exact H.nilO 3 1 encI⟩) (fun x a w S hW => ?_)
 simp only [List.cons_append, List.nil_append] at S
 obtain ⟨k, lv, c⟩ := x
 obtain ⟨hk, H⟩ := hW
 dsimp only at S H hk
 refine gsr ?_
 refine gy rfl rfl rfl S (y_bin rfl S rfl rfl rfl) fun a S => ?_
 refine gnt ?_
 refine g_seq ?_
 refine c_if S rfl (fun h1 => ?_) (fun h1 => ?_)
 ·have h1p := h1; try simp only [DL] at h1p
  have hkl : k < xs.length := by omega
  have htk := List.take_succ_eq_append_getElem hkl
  have hno := lookN_none (l := xs.take k) (lookN_take hnum hkl)
  refine g_skip ?_
  refine n_then ?_
  refine g_seq ?_
  refine g_block ?_
  refine gsr ?_
  refine gy rfl rfl rfl S (y_iaddrn rfl Tryz.underlying29 Fsiz32 S H rfl rfl (by first | assumption | omega | (simp only [LL]; omega))) fun a S => ?_
  refine gy rfl rfl rfl S (y_loadsa _ rfl S H rfl (by exact Fagg32) (by first | assumption | omega | (simp only [LL]; omega))) fun a S => ?_
  refine wl_of (op_alloc (wn rfl) rfl rfl rfl S H Fzer32 fun b7 a w S H => ?_)
  refine wl_of (op_storea (wn rfl) rfl rfl S H rfl rfl rfl Fsiz32 rfl (cs' := encSV xs[k]) rfl fun a w S H => ?_)
  refine gnt ?_
  refine g_seq ?_
  refine gsr ?_
  refine gm S fun a S => ?_
  refine gy rfl rfl rfl S (y_faddrb rfl Ffo32_1 S rfl) fun a S => ?_
  refine gy rfl rfl rfl S (y_load rfl Fsca3 S H rfl rfl) fun a S => ?_
  refine gy rfl rfl rfl S (y_lookupok (_) (SV.z) rfl Tryz.underlying120 Finf32 S H rfl (keyOK_int Tryz.underlying3) (by exact rfl) (by exact rfl)) fun a S => ?_
  rw [hno] at S
  refine gm S fun a S => ?_
  refine gy rfl rfl rfl S (y_extract rfl S rfl rfl) fun a S => ?_
  refine gy rfl rfl rfl S (y_extract rfl S rfl rfl) fun a S => ?_
  refine wl_of (op_alloc (wn rfl) rfl rfl rfl S H Fzer32 fun b8 a w S H => ?_)
  refine wl_of (op_storea (wn rfl) rfl rfl S H rfl rfl rfl Fsiz32 rfl (cs' := encSV SV.z) rfl fun a w S H => ?_)
  refine ga S fun a S => ?_
  refine gnt ?_
  have S := ((((((((S.nil.cons S 1 rfl).cons S 0 rfl).cons S 4 rfl).cons S 18 rfl).cons S 19 rfl).cons S 5 rfl).cons S 20 rfl).cons S 7 rfl).cons S 9 rfl
  refine gsr ?_
  refine gm S fun a S => ?_
  refine gnt ?_
  refine c_if S rfl (fun h2 => ?_) (fun h2 => ?_)
  ·have h2p := h2; try simp only [DL] at h2p
   all_goals (
     exact absurd h2 (by simp))
  ·have h2p := h2; try simp only [DL] at h2p
   refine g_skip ?_
   refine n_then ?_
   refine gsr ?_
   refine gm S fun a S => ?_
   refine gy rfl rfl rfl S (y_faddrb rfl Ffo32_1 S rfl) fun a S => ?_
   refine gy rfl rfl rfl S (y_load rfl Fsca3 S H rfl rfl) fun a S => ?_
   refine gy rfl rfl rfl S (y_load0 rfl S H rfl (by exact Fagg32)) fun a S => ?_
   refine wl_of (op_mapUpdate (_) (_) (wn rfl) rfl rfl Tryz.underlying120 S H rfl (keyOK_int Tryz.underlying3) (by exact rfl) (by exact rfl) fun a w S H => ?_)
   refine gnt ?_
   have S := (((((((S.nil.cons S 1 rfl).cons S 0 rfl).cons S 4 rfl).cons S 18 rfl).cons S 19 rfl).cons S 5 rfl).cons S 20 rfl).cons S 7 rfl
   refine g_region ?_
   refine gm S fun a S => ?_
   refine gy rfl rfl rfl S (y_faddrb rfl Ffo32_1 S rfl) fun a S => ?_
   refine gy rfl rfl rfl S (y_load rfl Fsca3 S H rfl rfl) fun a S => ?_
   refine wl_of (op_buildSlice (wn rfl) rfl rfl rfl Tryz.underlying40 Finf3 S H (idx := [0]) rfl rfl rfl (z := [.int .i64 0]) (by kernel_rfl) (cs := [_]) rfl fun b46 a w S H => ?_)
   refine wl_of (op_append ([xs[k].number]) (wn rfl) rfl rfl rfl Tryz.underlying40 Finf3 rfl rfl S H rfl rfl rfl rfl (by simp) (by simp [encI]) (by simp [encI, Value.oneCell']) (by simp only [List.length_singleton, List.length_map, List.length_take]; omega) (by simp only [List.length_singleton, List.length_map, List.length_take]; omega) fun u47 a w hn47 S H => ?_)
   refine ga S fun a S => ?_
   refine gl_nil ?_
   refine n_block ?_
   refine n_then ?_
   have S := ((((((S.nil.cons S 1 rfl).cons S 0 rfl).cons S 4 rfl).cons S 18 rfl).cons S 19 rfl).cons S 20 rfl).cons S 5 rfl
   refine g_region ?_
   refine gy rfl rfl rfl S (y_add rfl S rfl rfl (by omega)) fun a S => ?_
   refine gm S fun a S => ?_
   refine gnt ?_
   have e1 : (xs.take k).map (·.number) ++ [xs[k].number] = (xs.take (k + 1)).map (·.number) := by rw [htk, List.map_append]; rfl
   rw [e1, lookN_snoc (lookN_take hnum hkl), ← htk] at H
   exact ⟨(k + 1, u47, if (lookN (xs.take k) xs[k].number).isSome = true then c else c + 1), (S.nil.cons S 5 rfl).cons S 20 rfl, ((((S.nil.cons S 1 rfl).cons S 0 rfl).cons S 4 rfl).cons S 18 rfl).cons S 19 rfl, ⟨by dsimp only; omega, H.drop 3⟩, by dsimp only; omega⟩
 ·have h1p := h1; try simp only [DL] at h1p
  obtain rfl : k = xs.length := by omega
  rw [List.take_length] at H
  refine g_exit ?_
  refine x_then (x_then (x_eq ?_))
  refine n_then ?_
  have S := (((S.nil.cons S 1 rfl).cons S 0 rfl).cons S 4 rfl).cons S 5 rfl
  refine gsr ?_
  refine gm S fun a S => ?_
  refine wl_of (op_call (wn rfl) rfl rfl S (co_func rfl Tryz.call59 S rfl) (sortI_spec lv _ _ (by simp only [List.length_map]; omega) H) fun v w hc a S => ?_)
  obtain ⟨rfl, H⟩ := hc
  have H := rot32 (H.freeze.swap2.freeze.swap2)
  refine gnt ?_
  refine g_seq ?_
  refine gsr ?_
  refine ga S fun a S => ?_
  refine gnt ?_
  refine g_block ?_
  have SU := (((S.nil.cons S 1 rfl).cons S 0 rfl).cons S 4 rfl).cons S 5 rfl
  refine loopW (X := Nat × Value) SU (fun x => [(10, .int .i64 ((x.1 + 1 : Nat) : Int))]) (fun x w => x.1 + 1 ≤ xs.length ∧ HSat M u0 (Cel pb 76 [x.2] :: OSl 45 x.2 6 encBV (bs ++ ordBs xs (nsF xs) (x.1)) :: Atom.ro (OSl 3 lv 1 encI (nsF xs)) :: Atom.ro (MapA b17 (fun n : Int => .int .i64 n) (fun s : SV => .agg (encSV s).toArray) (lookN (xs)) c) :: Sl v 6 encSV xs :: l) w) (fun x => xs.length - x.1) (0, bv) (S.nil.cons S 10 rfl) (⟨by dsimp only; omega, by dsimp only; rw [show bs ++ ordBs xs (nsF xs) 0 = bs from List.append_nil bs]; exact H⟩) (fun x a w S hW => ?_)
  simp only [List.cons_append, List.nil_append] at S
  obtain ⟨i, bv⟩ := x
  obtain ⟨hi, H⟩ := hW
  dsimp only at S H hi
  refine g_seq ?_
  refine gsr ?_
  refine gm S fun a S => ?_
  refine gm S fun a S => ?_
  refine gy rfl rfl rfl S (y_lens rfl Tryz.underlying40 S H rfl) fun a S => ?_
  refine gy rfl rfl rfl S (y_bin rfl S rfl rfl rfl) fun a S => ?_
  refine gnt ?_
  refine c_if S rfl (fun h3 => ?_) (fun h3 => ?_)
  ·have h3p := h3; try simp only [DL] at h3p
   have hi1 : i + 1 < (nsF xs).length := by omega
   have eA : (lookN xs (nsF xs)[i + 1]).getD SV.z = (atN xs ((nsF xs).getD (i + 1) 0)) := by rw [getD_at hi1]; rfl
   have eB : (lookN xs (nsF xs)[i]).getD SV.z = (atN xs ((nsF xs).getD (i + 1 - 1) 0)) := by rw [getD_at (show i < (nsF xs).length by omega)]; rfl
   refine g_skip ?_
   refine n_then ?_
   have S := ((((S.nil.cons S 1 rfl).cons S 0 rfl).cons S 4 rfl).cons S 5 rfl).cons S 10 rfl
   refine g_seq ?_
   refine g_block ?_
   refine g_seq ?_
   refine cut (fun a w => ∃ b11 b12, St 112 [(0, v), (1, .func (.func 26) #[.pointer (some ⟨pb, 0, none⟩)] #[]), (4, .map (some b17)), (5, lv), (10, .int .i64 ((i + 1 : Nat) : Int)), (11, .pointer (some ⟨b11, 0, none⟩)), (12, .pointer (some ⟨b12, 0, none⟩))] a ∧ HSat M u0 (Cel pb 76 [bv] :: OSl 45 bv 6 encBV (bs ++ ordBs xs (nsF xs) (i)) :: Cel b11 32 (encSV (atN xs ((nsF xs).getD (i + 1) 0))) :: Cel b12 32 (encSV (atN xs ((nsF xs).getD (i + 1 - 1) 0))) :: Atom.ro (OSl 3 lv 1 encI (nsF xs)) :: Atom.ro (MapA b17 (fun n : Int => .int .i64 n) (fun s : SV => .agg (encSV s).toArray) (lookN (xs)) c) :: Sl v 6 encSV xs :: l) w) ?_ ?_
   ·skip
    refine t_st (tails := [15, 16]) [Atom.ro (OSl 3 lv 1 encI (nsF xs)), Atom.ro (MapA b17 (fun n : Int => .int .i64 n) (fun s : SV => .agg (encSV s).toArray) (lookN (xs)) c)] Fmo H ?_
    refine t_q 0 rfl (by kernel_rfl) (rem' := [1, 2, 3, 4, 5, 6, 7, 8, 9, 10, 11, 12, 13, 14, 15, 16]) rfl rfl rfl rfl S (fun w H => y_move rfl S rfl) fun a S => ?_
    refine t_q 1 rfl (by kernel_rfl) (rem' := [2, 3, 4, 5, 6, 7, 8, 9, 10, 11, 12, 13, 14, 15, 16]) rfl rfl rfl rfl S (fun w H => y_move rfl S rfl) fun a S => ?_
    refine t_q 2 rfl (by kernel_rfl) (rem' := [3, 4, 5, 6, 7, 8, 9, 10, 11, 12, 13, 14, 15, 16]) rfl rfl rfl rfl S (fun w H => y_move rfl S rfl) fun a S => ?_
    refine t_q 3 rfl (by kernel_rfl) (rem' := [4, 5, 6, 7, 8, 9, 10, 11, 12, 13, 14, 15, 16]) rfl rfl rfl rfl S (fun w H => y_iaddrn rfl Tryz.underlying40 Fsiz3 S H rfl rfl (by first | assumption | omega | (simp only [LL]; omega))) fun a S => ?_
    refine t_loads _ 4 rfl (by kernel_rfl) (rem' := [5, 6, 7, 8, 9, 10, 11, 12, 13, 14, 15, 16]) rfl rfl rfl rfl S rfl Fsca3 rfl (by first | assumption | omega | (simp only [LL]; omega)) rfl fun a S => ?_
    refine t_q 5 rfl (by kernel_rfl) (rem' := [6, 7, 8, 9, 10, 11, 12, 13, 14, 15, 16]) rfl rfl rfl rfl S (fun w H => y_lookup (_) (SV.z) rfl Tryz.underlying120 Finf32 S H rfl (keyOK_int Tryz.underlying3) (by exact rfl) (by exact rfl)) fun a S => ?_
    refine t_p 6 rfl (by kernel_rfl) (rem' := [7, 8, 9, 10, 11, 12, 13, 14, 15, 16]) rfl rfl rfl rfl S (fun w => y_move rfl S rfl) fun a S => ?_
    refine t_p 7 rfl (by kernel_rfl) (rem' := [8, 9, 10, 11, 12, 13, 14, 15, 16]) rfl rfl rfl rfl S (fun w => y_move rfl S rfl) fun a S => ?_
    refine t_p 8 rfl (by kernel_rfl) (rem' := [9, 10, 11, 12, 13, 14, 15, 16]) rfl rfl rfl rfl S (fun w => y_move rfl S rfl) fun a S => ?_
    refine t_p 9 rfl (by kernel_rfl) (rem' := [10, 11, 12, 13, 14, 15, 16]) rfl rfl rfl rfl S (fun w => (y_subn (p := i + 1) (q := 1) (m := i) rfl S rfl rfl (by omega) (by omega))) fun a S => ?_
    refine t_f 10 rfl (by kernel_rfl) (rem' := [11, 12, 13, 14, 15, 16]) rfl rfl rfl rfl S (fun w H => y_iaddrn rfl Tryz.underlying40 Fsiz3 S H rfl rfl (by first | assumption | omega | (simp only [LL]; omega))) fun a S => ?_
    refine t_floads _ 11 rfl (by kernel_rfl) (rem' := [12, 13, 14, 15, 16]) rfl rfl rfl rfl S rfl Fsca3 rfl (by first | assumption | omega | (simp only [LL]; omega)) rfl fun a S => ?_
    refine t_f 12 rfl (by kernel_rfl) (rem' := [13, 14, 15, 16]) rfl rfl rfl rfl S (fun w H => y_lookup (_) (SV.z) rfl Tryz.underlying120 Finf32 S H rfl (keyOK_int Tryz.underlying3) (by exact rfl) (by exact rfl)) fun a S => ?_
    refine t_b [13, 14] (by kernel_rfl) rfl (fa2 ?_ ?_)
    ·refine ⟨_, rfl, fun w H => ?_⟩
     refine op_alloc (wn rfl) rfl rfl rfl S H Fzer32 fun b11 a w S H => ?_
     refine t_n H (rem' := [14, 15, 16]) rfl ?_
     refine t_b1 14 (by kernel_rfl) rfl fun w H => ?_
     refine op_alloc (wn rfl) rfl rfl rfl S H Fzer32 fun b12 a w S H => ?_
     refine t_n H (rem' := [15, 16]) rfl ?_
     refine t_b1 15 (by kernel_rfl) rfl fun w H => ?_
     refine op_storea (wn rfl) rfl rfl S H rfl rfl rfl Fsiz32 rfl (cs' := encSV ((lookN xs (nsF xs)[i + 1]).getD SV.z)) rfl fun a w S H => ?_
     refine t_tail H rfl (rem' := [16]) rfl ?_
     refine t_b1 16 (by kernel_rfl) rfl fun w H => ?_
     refine op_storea (wn rfl) rfl rfl S H rfl rfl rfl Fsiz32 rfl (cs' := encSV ((lookN xs (nsF xs)[i]).getD SV.z)) rfl fun a w S H => ?_
     refine t_tail H rfl (rem' := []) rfl ?_
     refine t_nil (fun w H => ?_)
     rw [eA, eB] at H
     first
     | exact ⟨_, _, ((((((S.nil.cons S 12 rfl).cons S 11 rfl).cons S 10 rfl).cons S 5 rfl).cons S 4 rfl).cons S 1 rfl).cons S 0 rfl, rot22 H⟩
     | exact ⟨_, _, ((((((S.nil.cons S 12 rfl).cons S 11 rfl).cons S 10 rfl).cons S 5 rfl).cons S 4 rfl).cons S 1 rfl).cons S 0 rfl, rot22 H.swap2⟩
    ·refine ⟨_, rfl, fun w H => ?_⟩
     refine op_alloc (wn rfl) rfl rfl rfl S H Fzer32 fun b12 a w S H => ?_
     refine t_n H (rem' := [13, 15, 16]) rfl ?_
     refine t_b1 13 (by kernel_rfl) rfl fun w H => ?_
     refine op_alloc (wn rfl) rfl rfl rfl S H Fzer32 fun b11 a w S H => ?_
     refine t_n H (rem' := [15, 16]) rfl ?_
     refine t_b1 15 (by kernel_rfl) rfl fun w H => ?_
     refine op_storea (wn rfl) rfl rfl S H rfl rfl rfl Fsiz32 rfl (cs' := encSV ((lookN xs (nsF xs)[i + 1]).getD SV.z)) rfl fun a w S H => ?_
     refine t_tail H rfl (rem' := [16]) rfl ?_
     refine t_b1 16 (by kernel_rfl) rfl fun w H => ?_
     refine op_storea (wn rfl) rfl rfl S H rfl rfl rfl Fsiz32 rfl (cs' := encSV ((lookN xs (nsF xs)[i]).getD SV.z)) rfl fun a w S H => ?_
     refine t_tail H rfl (rem' := []) rfl ?_
     refine t_nil (fun w H => ?_)
     rw [eA, eB] at H
     first
     | exact ⟨_, _, ((((((S.nil.cons S 12 rfl).cons S 11 rfl).cons S 10 rfl).cons S 5 rfl).cons S 4 rfl).cons S 1 rfl).cons S 0 rfl, rot22 H⟩
     | exact ⟨_, _, ((((((S.nil.cons S 12 rfl).cons S 11 rfl).cons S 10 rfl).cons S 5 rfl).cons S 4 rfl).cons S 1 rfl).cons S 0 rfl, rot22 H.swap2⟩
   rintro a w ⟨b11, b12, S, H⟩
   refine gsr ?_
   refine gy rfl rfl rfl S (y_faddrb rfl Ffo32_2 S rfl) fun a S => ?_
   refine gy rfl rfl rfl S (y_load rfl Fsca3 S H rfl rfl) fun a S => ?_
   refine gy rfl rfl rfl S (y_faddrb rfl Ffo32_2 S rfl) fun a S => ?_
   refine gy rfl rfl rfl S (y_load rfl Fsca3 S H rfl rfl) fun a S => ?_
   refine gy rfl rfl rfl S (y_bin rfl S rfl rfl rfl) fun a S => ?_
   refine gnt ?_
   have S := (((((((S.nil.cons S 12 rfl).cons S 11 rfl).cons S 10 rfl).cons S 5 rfl).cons S 4 rfl).cons S 1 rfl).cons S 0 rfl).cons S 74 rfl
   refine c_if S rfl (fun h4 => ?_) (fun h4 => ?_)
   ·have h4p := h4; try simp only [DL] at h4p
    have hob : ordB1 xs (nsF xs) (i + 1) = [blameF 3 (atN xs ((nsF xs).getD (i + 1) 0)) (atN xs ((nsF xs).getD (i + 1) 0)).gate (atN xs ((nsF xs).getD (i + 1 - 1) 0)).number] := by unfold ordB1; rw [if_pos (by exact h4p)]
    refine g_region ?_
    refine gm S fun a S => ?_
    refine gy rfl rfl rfl S (y_load0 rfl S H rfl (by exact Fagg32)) fun a S => ?_
    refine gy rfl rfl rfl S (y_faddrb rfl Ffo32_0 S rfl) fun a S => ?_
    refine gy rfl rfl rfl S (y_load rfl Fsca3 S H rfl rfl) fun a S => ?_
    refine gy rfl rfl rfl S (y_faddrb rfl Ffo32_1 S rfl) fun a S => ?_
    refine gy rfl rfl rfl S (y_load rfl Fsca3 S H rfl rfl) fun a S => ?_
    refine wl_of (op_call (wn rfl) rfl rfl S (co_value (fi := [.pointer (some ⟨pb, 0, none⟩)]) (cap := []) rfl Tryz.call26 S rfl rfl) (blame_spec pb bv (bs ++ ordBs xs (nsF xs) (i)) 3 (atN xs ((nsF xs).getD (i + 1) 0)).gate (atN xs ((nsF xs).getD (i + 1 - 1) 0)).number (atN xs ((nsF xs).getD (i + 1) 0)) _ H (by simp only [List.length_append]; have := ordBs_len xs (nsF xs) i; have := ordBs_len xs (nsF xs) (xs.length - 1); have := misBs_len xs (xs.headD SV.z).gate (mostF xs) i; omega)) fun v w hc a S => ?_)
    obtain ⟨rfl, bv2, H⟩ := hc
    
    refine gl_nil ?_
    refine n_block ?_
    refine n_then ?_
    have S := ((((S.nil.cons S 10 rfl).cons S 5 rfl).cons S 4 rfl).cons S 1 rfl).cons S 0 rfl
    refine g_region ?_
    refine gm S fun a S => ?_
    refine gy rfl rfl rfl S (y_add rfl S rfl rfl (by omega)) fun a S => ?_
    refine ga S fun a S => ?_
    refine gnt ?_
    first
    | exact ⟨(i + 1, bv2), S.nil.cons S 10 rfl, (((S.nil.cons S 1 rfl).cons S 0 rfl).cons S 4 rfl).cons S 5 rfl, ⟨by dsimp only; omega, by dsimp only; rw [ordBs_s, hob, ← List.append_assoc]; exact dropM2 H⟩, by dsimp only; omega⟩
    | exact ⟨(i + 1, bv), S.nil.cons S 10 rfl, (((S.nil.cons S 1 rfl).cons S 0 rfl).cons S 4 rfl).cons S 5 rfl, ⟨by dsimp only; omega, by dsimp only; rw [ordBs_s, hob, List.append_nil]; exact dropM2 H⟩, by dsimp only; omega⟩
   ·have h4p := h4; try simp only [DL] at h4p
    have hob : ordB1 xs (nsF xs) (i + 1) = [] := by unfold ordB1; rw [if_neg (by have h := h4p; omega)]
    refine g_skip ?_
    refine n_block ?_
    refine n_then ?_
    refine g_region ?_
    refine gm S fun a S => ?_
    refine gy rfl rfl rfl S (y_add rfl S rfl rfl (by omega)) fun a S => ?_
    refine ga S fun a S => ?_
    refine gnt ?_
    first
    | exact ⟨(i + 1, bv2), S.nil.cons S 10 rfl, (((S.nil.cons S 1 rfl).cons S 0 rfl).cons S 4 rfl).cons S 5 rfl, ⟨by dsimp only; omega, by dsimp only; rw [ordBs_s, hob, ← List.append_assoc]; exact dropM2 H⟩, by dsimp only; omega⟩
    | exact ⟨(i + 1, bv), S.nil.cons S 10 rfl, (((S.nil.cons S 1 rfl).cons S 0 rfl).cons S 4 rfl).cons S 5 rfl, ⟨by dsimp only; omega, by dsimp only; rw [ordBs_s, hob, List.append_nil]; exact dropM2 H⟩, by dsimp only; omega⟩
  ·have h3p := h3; try simp only [DL] at h3p
   have hi1 : i = xs.length - 1 := by omega
   subst hi1
   refine g_exit ?_
   refine x_then (x_then (x_eq ?_))
   refine n_then ?_
   have S := (((S.nil.cons S 1 rfl).cons S 0 rfl).cons S 4 rfl).cons S 5 rfl
   refine gsr ?_
   refine gm S fun a S => ?_
   refine gm S fun a S => ?_
   refine gy rfl rfl rfl S (y_lens rfl Tryz.underlying40 S H rfl) fun a S => ?_
   rw [hns] at S
   refine gy rfl rfl rfl S ((y_subn (m := xs.length - 1) rfl S rfl rfl (by omega) (by omega))) fun a S => ?_
   refine gy rfl rfl rfl S (y_iaddrn rfl Tryz.underlying40 Fsiz3 S H rfl rfl (by first | assumption | omega | (simp only [LL]; omega))) fun a S => ?_
   refine gy rfl rfl rfl S (y_loads _ rfl Fsca3 S H rfl (by first | assumption | omega | (simp only [LL]; omega)) rfl) fun a S => ?_
   rw [show (nsF xs)[xs.length - 1] = mostF xs from getD_at (by omega)] at S
   refine ga S fun a S => ?_
   refine gnt ?_
   have S := (((S.nil.cons S 1 rfl).cons S 0 rfl).cons S 4 rfl).cons S 13 rfl
   refine g_seq ?_
   refine gsr ?_
   refine gm S fun a S => ?_
   refine gy rfl rfl rfl S (y_bin rfl S rfl rfl rfl) fun a S => ?_
   refine gnt ?_
   refine c_if S rfl (fun h5 => ?_) (fun h5 => ?_)
   ·have h5p := h5; try simp only [DL] at h5p
    refine g_ret ?_
    refine r_then (ret0 rfl S ?_)
    refine ⟨rfl, bv, ?_⟩
    unfold gateB; rw [if_pos (by exact h5p), List.append_nil]
    exact (rot23 H).tail.tail
   ·have h5p := h5; try simp only [DL] at h5p
    refine g_skip ?_
    refine n_then ?_
    refine gsr ?_
    refine ga S fun a S => ?_
    refine gnt ?_
    refine g_block ?_
    have SU := (((S.nil.cons S 1 rfl).cons S 0 rfl).cons S 4 rfl).cons S 13 rfl
    refine loopW (X := Nat × Value) SU (fun x => [(14, .int .i64 ((x.1 + 1 : Nat) : Int))]) (fun x w => ((x.1 + 1 : Nat) : Int) ≤ max 1 (mostF xs) ∧ HSat M u0 (Cel pb 76 [x.2] :: OSl 45 x.2 6 encBV (bs ++ ordBs xs (nsF xs) (xs.length - 1) ++ misBs xs (xs.headD SV.z).gate (mostF xs) (x.1)) :: Atom.ro (OSl 3 lv 1 encI (nsF xs)) :: Atom.ro (MapA b17 (fun n : Int => .int .i64 n) (fun s : SV => .agg (encSV s).toArray) (lookN (xs)) c) :: Sl v 6 encSV xs :: l) w) (fun x => (mostF xs - x.1).toNat) (0, bv) (S.nil.cons S 14 rfl) (⟨by dsimp only; omega, by dsimp only; rw [show bs ++ ordBs xs (nsF xs) (xs.length - 1) ++ misBs xs (xs.headD SV.z).gate (mostF xs) (0) = bs ++ ordBs xs (nsF xs) (xs.length - 1) from List.append_nil _]; exact H⟩) (fun x a w S hW => ?_)
    simp only [List.cons_append, List.nil_append] at S
    obtain ⟨i, bv⟩ := x
    obtain ⟨hi, H⟩ := hW
    dsimp only at S H hi
    refine g_seq ?_
    refine gsr ?_
    refine gm S fun a S => ?_
    refine gm S fun a S => ?_
    refine gy rfl rfl rfl S (y_bin rfl S rfl rfl rfl) fun a S => ?_
    refine gnt ?_
    refine c_if S rfl (fun h6 => ?_) (fun h6 => ?_)
    ·have h6p := h6; try simp only [DL] at h6p
     refine g_skip ?_
     refine n_then ?_
     refine g_seq ?_
     refine g_block ?_
     refine gsr ?_
     refine gm S fun a S => ?_
     refine gm S fun a S => ?_
     refine gy rfl rfl rfl S (y_lookupok (_) (SV.z) rfl Tryz.underlying120 Finf32 S H rfl (keyOK_int Tryz.underlying3) (by exact rfl) (by exact rfl)) fun a S => ?_
     refine gm S fun a S => ?_
     refine gy rfl rfl rfl S (y_extract rfl S rfl rfl) fun a S => ?_
     refine gy rfl rfl rfl S (y_extract rfl S rfl rfl) fun a S => ?_
     refine wl_of (op_alloc (wn rfl) rfl rfl rfl S H Fzer32 fun b15 a w S H => ?_)
     refine wl_of (op_storea (wn rfl) rfl rfl S H rfl rfl rfl Fsiz32 rfl (cs' := encSV ((lookN xs ((i + 1 : Nat) : Int)).getD SV.z)) rfl fun a w S H => ?_)
     have H := rot12 H
     refine ga S fun a S => ?_
     refine gnt ?_
     have S := (((((S.nil.cons S 1 rfl).cons S 0 rfl).cons S 4 rfl).cons S 13 rfl).cons S 14 rfl).cons S 16 rfl
     refine gsr ?_
     refine gm S fun a S => ?_
     refine gy rfl rfl rfl S (y_not rfl S rfl) fun a S => ?_
     refine gnt ?_
     refine c_if S rfl (fun h7 => ?_) (fun h7 => ?_)
     ·have h7p := h7; try simp only [DL] at h7p
      have hmb : misB1 xs (xs.headD SV.z).gate (mostF xs) (i + 1) = [blameF 3 ⟨xs[0].gate, ((i + 1 : Nat) : Int), 0, 0, 0, ⟨#[]⟩⟩ (-1) (mostF xs)] := by
        unfold misB1; rw [if_pos (by have h := h7; revert h; cases lookN xs ((i + 1 : Nat) : Int) <;> simp), hhd]; rfl
      refine g_region ?_
      refine gm S fun a S => ?_
      refine gm S fun a S => ?_
      refine gy rfl rfl rfl S (y_iaddrs rfl Tryz.underlying29 Fsiz32 S H rfl rfl (by first | assumption | omega | (simp only [LL]; omega))) fun a S => ?_
      refine gy rfl rfl rfl S (y_faddr rfl Ffo32_0 S rfl) fun a S => ?_
      refine gy rfl rfl rfl S (y_loadsf _ rfl Fsca3 S H rfl (by first | assumption | omega | (simp only [LL]; omega)) rfl) fun a S => ?_
      refine gm S fun a S => ?_
      refine gy rfl rfl rfl S (y_buildf rfl Fbld32 S rfl (idx := [0, 1]) rfl (cs := [.int .i64 xs[0].gate, .int .i64 ((i + 1 : Nat) : Int), .int .i64 0, .int .i64 0, .int .i64 0, .string ⟨#[]⟩]) (by kernel_rfl)) fun a S => ?_
      refine gm S fun a S => ?_
      refine wl_of (op_call (wn rfl) rfl rfl S (co_value (fi := [.pointer (some ⟨pb, 0, none⟩)]) (cap := []) rfl Tryz.call26 S rfl rfl) (blame_spec pb bv (bs ++ ordBs xs (nsF xs) (xs.length - 1) ++ misBs xs (xs.headD SV.z).gate (mostF xs) (i)) 3 (-1) (mostF xs) ⟨xs[0].gate, ((i + 1 : Nat) : Int), 0, 0, 0, ⟨#[]⟩⟩ _ H (by simp only [List.length_append]; have := ordBs_len xs (nsF xs) i; have := ordBs_len xs (nsF xs) (xs.length - 1); have := misBs_len xs (xs.headD SV.z).gate (mostF xs) i; omega)) fun v w hc a S => ?_)
      obtain ⟨rfl, bv2, H⟩ := hc
      
      refine gl_nil ?_
      refine n_block ?_
      refine n_then ?_
      have S := ((((S.nil.cons S 1 rfl).cons S 0 rfl).cons S 4 rfl).cons S 13 rfl).cons S 14 rfl
      refine g_region ?_
      refine gm S fun a S => ?_
      refine gy rfl rfl rfl S (y_add rfl S rfl rfl (by omega)) fun a S => ?_
      refine ga S fun a S => ?_
      refine gnt ?_
      first
      | exact ⟨(i + 1, bv2), S.nil.cons S 14 rfl, (((S.nil.cons S 1 rfl).cons S 0 rfl).cons S 4 rfl).cons S 13 rfl, ⟨by dsimp only; omega, by dsimp only; rw [misBs_s, hmb, ← List.append_assoc]; exact dropM1 H⟩, by dsimp only; omega⟩
      | exact ⟨(i + 1, bv), S.nil.cons S 14 rfl, (((S.nil.cons S 1 rfl).cons S 0 rfl).cons S 4 rfl).cons S 13 rfl, ⟨by dsimp only; omega, by dsimp only; rw [misBs_s, hmb, List.append_nil]; exact dropM1 H⟩, by dsimp only; omega⟩
     ·have h7p := h7; try simp only [DL] at h7p
      have hmb : misB1 xs (xs.headD SV.z).gate (mostF xs) (i + 1) = [] := by
        unfold misB1; rw [if_neg (by have h := h7; revert h; cases lookN xs ((i + 1 : Nat) : Int) <;> simp)]
      refine g_skip ?_
      refine n_block ?_
      refine n_then ?_
      refine g_region ?_
      refine gm S fun a S => ?_
      refine gy rfl rfl rfl S (y_add rfl S rfl rfl (by omega)) fun a S => ?_
      refine ga S fun a S => ?_
      refine gnt ?_
      first
      | exact ⟨(i + 1, bv2), S.nil.cons S 14 rfl, (((S.nil.cons S 1 rfl).cons S 0 rfl).cons S 4 rfl).cons S 13 rfl, ⟨by dsimp only; omega, by dsimp only; rw [misBs_s, hmb, ← List.append_assoc]; exact dropM1 H⟩, by dsimp only; omega⟩
      | exact ⟨(i + 1, bv), S.nil.cons S 14 rfl, (((S.nil.cons S 1 rfl).cons S 0 rfl).cons S 4 rfl).cons S 13 rfl, ⟨by dsimp only; omega, by dsimp only; rw [misBs_s, hmb, List.append_nil]; exact dropM1 H⟩, by dsimp only; omega⟩
    ·have h6p := h6; try simp only [DL] at h6p
     refine g_exit ?_
     refine x_then (x_then (x_eq ?_))
     refine ret0n rfl S ?_
     refine ⟨rfl, bv, ?_⟩
     unfold gateB; rw [if_neg (by have := h5p; omega), show (mostF xs - 1).toNat = i by omega, ← List.append_assoc]
     exact (rot23 H).tail.tail
end Go.Proofs.YtienaifmlhcijaaGreatDoor
end
section
namespace Go.Proofs.YtienaifmlhcijaaGreatDoor
open Go Go.Gw
set_option linter.unusedVariables false
set_option linter.unusedSimpArgs false
/-- foyer/merge.ways -/
theorem ways_spec (v : Value) (xs : List SV) (w0 : World) (hv : IsSl w0 v 6 encSV xs) (hl : xs.length ≤ 200000) :
    Ret Tryz.prog 27 #[v] w0 (fun u w => ∃ b val c, u = .map (some b) ∧ HSat No w0 [MapA b (fun n : Int => .int .i64 n) (fun v : Value => v) (mvF (keysF SV.serial okW xs) val) c, FamA (keysF SV.serial okW xs) (fun j => OSl 32 (val j) 6 encSV (grpF SV.serial okW xs j))] w) := by
 refine ret_of_wp (nt := 5) Tryz.func27 rfl rfl rfl (fl := [(0, v)]) rfl (fun a S => ?_)
 have H := HSat.start w0
 refine gsr ?_
 refine ga S fun a S => ?_
 refine gnt ?_
 refine gsr ?_
 refine gm S fun a S => ?_
 refine wl_of (op_call (wn rfl) rfl rfl S (co_func rfl Tryz.call23 S rfl) (by_spec v xs 60 Tryz.call60 SV.serial okW _ hv hl wkey_spec) fun u4 w hc a S => ?_)
 obtain ⟨b4, val, c, rfl, H1⟩ := hc
 have H := H.call H1 (by simp [MapA, FamA, bun_own])
 simp only [List.cons_append, List.nil_append] at H
 refine ga S fun a S => ?_
 refine gnt ?_
 have S := S.nil.cons S 2 rfl
 refine g_ret ?_
 refine ret1 rfl S rfl ?_
 exact ⟨b4, val, c, rfl, H⟩
/-- slices.Backward[[]foyer/api.Owned,foyer/api.Owned] -/
theorem backward_spec (v : Value) (os : List OV) (w0 : World) (hv : IsSl w0 v 11 encO os) :
    Ret Tryz.prog 22 #[v] w0 (fun u w => ∃ b, u = .func (.func 58) #[] #[.pointer (some ⟨b, 0, none⟩)] ∧ HSat No w0 [Cel b 25 [v]] w) := by
 refine ret_of_wp (nt := 4) Tryz.func22 rfl rfl rfl (fl := [(0, v)]) rfl (fun a S => ?_)
 have H := HSat.start w0
 have H := H.ro0 (Sl v 11 encO os) rfl (hv)
 refine gsr ?_
 refine wl_of (op_box1 (wn rfl) rfl rfl rfl S H rfl (H.slc _) fun b1 a w S H => ?_)
 refine ga S fun a S => ?_
 refine gnt ?_
 refine gsr ?_
 refine gy rfl rfl rfl S (y_makeFunc rfl S rfl rfl) fun a S => ?_
 refine ga S fun a S => ?_
 refine gnt ?_
 have S := S.nil.cons S 2 rfl
 refine g_ret ?_
 refine ret1 rfl S rfl ?_
 exact ⟨_, rfl, H.take [Cel b1 25 [v]]⟩
set_option maxHeartbeats 1000000 in
/-- slices.Backward[[]foyer/api.Owned,foyer/api.Owned]$1 -/
theorem backward_iter {M : Nat → Prop} {u0 : World} {Z : Type} (L : Nat → Z → List Atom) (lb c1 : Nat) (v : Value) (os : List OV) (w0 : World)
    (hround : ∀ k (h : k < os.length) z w, HSat M u0 (Atom.ro (Cel c1 25 [v]) :: Sl v 11 encO os :: L (k + 1) z) w → YieldRet Tryz.prog lb #[.int .i64 (k : Int), .agg (encO os[k]).toArray] w (fun u w' => u = .bool true ∧ ∃ z, HSat M u0 (Atom.ro (Cel c1 25 [v]) :: Sl v 11 encO os :: L (k) z) w')) (h0 : ∃ z, HSat M u0 (Atom.ro (Cel c1 25 [v]) :: Sl v 11 encO os :: L (os.length) z) w0) :
    Ret Tryz.prog 58 #[.func (.yield lb) #[] #[], .pointer (some ⟨c1, 0, none⟩)] w0 (fun u w => ∃ z, HSat M u0 (Atom.ro (Cel c1 25 [v]) :: Sl v 11 encO os :: L (0) z) w) := by
 refine ret_of_wp (nt := 19) Tryz.func58 rfl rfl rfl (fl := [(0, .func (.yield lb) #[] #[]), (1, .pointer (some ⟨c1, 0, none⟩))]) rfl (fun a S => ?_)
 obtain ⟨z0, H⟩ := h0
 have hlx := (H.sl v (xs := os)).len
 refine gsr ?_
 refine gy rfl rfl rfl S (y_load rfl Fsca25 S H rfl rfl) fun a S => ?_
 refine gy rfl rfl rfl S (y_lens rfl Tryz.underlying25 S H rfl) fun a S => ?_
 refine gy rfl rfl rfl S (y_sub rfl S rfl rfl (by omega)) fun a S => ?_
 refine ga S fun a S => ?_
 refine gnt ?_
 refine g_block ?_
 have SU := (S.nil.cons S 1 rfl).cons S 0 rfl
 refine loopW (X := Nat) SU (fun r => [(3, .int .i64 ((r : Int) - 1))]) (fun r w => r ≤ os.length ∧ ∃ z, HSat M u0 (Atom.ro (Cel c1 25 [v]) :: Sl v 11 encO os :: L (r) z) w) (fun r => r) os.length (S.nil.cons S 3 rfl) (⟨by omega, z0, H⟩) (fun r a w S hW => ?_)
 simp only [List.cons_append, List.nil_append] at S
 obtain ⟨hk, z, H⟩ := hW
 refine g_seq ?_
 refine gsr ?_
 refine gm S fun a S => ?_
 refine gy rfl rfl rfl S (y_bin rfl S rfl rfl rfl) fun a S => ?_
 refine gnt ?_
 refine c_if S rfl (fun h1 => ?_) (fun h1 => ?_)
 ·have h1p := h1; try simp only [DL] at h1p
  obtain ⟨k, rfl⟩ : ∃ k, r = k + 1 := ⟨r - 1, by omega⟩
  rw [show (((k + 1 : Nat) : Int) - 1) = (k : Int) by omega] at S
  have hkl : k < os.length := by omega
  refine g_skip ?_
  refine n_then ?_
  refine g_seq ?_
  refine g_block ?_
  refine gsr ?_
  refine gm S fun a S => ?_
  refine gm S fun a S => ?_
  refine gy rfl rfl rfl S (y_load rfl Fsca25 S H rfl rfl) fun a S => ?_
  refine gm S fun a S => ?_
  refine gy rfl rfl rfl S (y_iaddrn rfl Tryz.underlying25 Fsiz42 S H rfl rfl (by first | assumption | omega | (simp only [LL]; omega))) fun a S => ?_
  refine gy rfl rfl rfl S (y_loadsa _ rfl S H rfl (by exact Fagg42) (by first | assumption | omega | (simp only [LL]; omega))) fun a S => ?_
  refine wl_of (op_yield (wn rfl) rfl rfl rfl S rfl rfl (hround k hkl z _ H) fun u w hc a S => ?_)
  obtain ⟨rfl, z2, H⟩ := hc
  refine gy rfl rfl rfl S (y_not rfl S rfl) fun a S => ?_
  refine gnt ?_
  have S := (((S.nil.cons S 1 rfl).cons S 0 rfl).cons S 3 rfl).cons S 18 rfl
  refine c_if S rfl (fun h2 => ?_) (fun h2 => ?_)
  ·have h2p := h2; try simp only [DL] at h2p
   all_goals (
     exact absurd h2 (by simp))
  ·have h2p := h2; try simp only [DL] at h2p
   refine g_skip ?_
   refine n_block ?_
   refine n_then ?_
   refine g_region ?_
   refine gm S fun a S => ?_
   refine gy rfl rfl rfl S (y_sub rfl S rfl rfl (by omega)) fun a S => ?_
   refine ga S fun a S => ?_
   refine gnt ?_
   exact ⟨k, S.nil.cons S 3 rfl, (S.nil.cons S 1 rfl).cons S 0 rfl, ⟨by omega, z2, H⟩, by omega⟩
 ·have h1p := h1; try simp only [DL] at h1p
  obtain rfl : r = 0 := by omega
  refine g_exit ?_
  refine x_then (x_then (x_eq ?_))
  refine ret0n rfl S ?_
  exact ⟨z, H⟩
end Go.Proofs.YtienaifmlhcijaaGreatDoor
end
section
namespace Go.Proofs.YtienaifmlhcijaaGreatDoor
open Go Go.Gw
set_option linter.unusedVariables false
set_option linter.unusedSimpArgs false
/-- a slice of a family, to be read -/
theorem famSl {M : Nat → Prop} {w0 w : World} {l : List Atom} {ks : List Int} {e sz : Nat} {val : Int → Value} {α : Type} {enc : α → List Value} {g : Int → List α} (H : HSat M w0 (Atom.ro (FamA ks (fun j => OSl e (val j) sz enc (g j))) :: l) w) {k : Int} (hk : k ∈ ks) :
    HSat M w0 (Sl (val k) sz enc (g k) :: Atom.ro (FamA ks (fun j => OSl e (val j) sz enc (g j))) :: l) w := by
  have hok : (FamA ks (fun j => OSl e (val j) sz enc (g j))).ok w := H.ok (Atom.ro (FamA ks (fun j => OSl e (val j) sz enc (g j)))) (List.mem_cons_self ..)
  have hsl : IsSl w (val k) sz enc (g k) := IsOSl.sl ((hok.1 _ (List.mem_map.2 ⟨k, hk, rfl⟩)).2)
  have hs := List.pairwise_cons.1 H.sep
  refine HSat.ro H (Sl (val k) sz enc (g k)) rfl hsl (fun y hy ho b hb hyb => ?_)
  rcases List.mem_cons.1 hy with rfl | hy
  · cases ho
  · exact hs.1 y hy (.inr ho) b ⟨_, List.mem_map.2 ⟨k, hk, rfl⟩, rfl, hb.1⟩ hyb
theorem it_len {M : Nat → Prop} {w0 w : World} {l : List Atom} {r b : Nat} {ks : List Int} {val : Int → Value} {kenc : Int → Value} {enc : Value → Value} {done : List (Int × Value)} {left : Nat} (H : HSat M w0 (ItA r b kenc enc (mvF ks val) done left :: l) w) : done.length ≤ ks.length := by
  have := nodup_sub_len (ys := ks) H.it.nodup (fun k hk => by obtain ⟨p, hp, rfl⟩ := List.mem_map.1 hk; exact (mvF_some (H.it.sub hp)).1)
  simpa using this
theorem it_perm {M : Nat → Prop} {w0 w : World} {l : List Atom} {r b : Nat} {ks : List Int} {val : Int → Value} {kenc : Int → Value} {enc : Value → Value} {done : List (Int × Value)} {left : Nat} (H : HSat M w0 (ItA r b kenc enc (mvF ks val) done left :: l) w) (h0 : left = 0) (hn : ks.Nodup) : (done.map (·.1)).Perm ks :=
  keys_perm H.it.nodup hn (fun k => ⟨fun hk => by obtain ⟨p, hp, rfl⟩ := List.mem_map.1 hk; exact (mvF_some (H.it.sub hp)).1, fun hk => List.mem_map.2 ⟨(k, val k), H.it.all h0 (mvF_in hk), rfl⟩⟩)
set_option maxHeartbeats 4000000 in
/-- foyer/merge.Blames -/
theorem blames_spec (v : Value) (xs : List SV) (ov : Value) (os : List OV) (w0 : World) (hv : IsSl w0 v 6 encSV xs) (ho : IsSl w0 ov 11 encO os) (hn : xs.Nodup) (hl : xs.length ≤ 1000)
    (hnum : ∀ g, ((grpF SV.gate (fun _ => true) (sortL ordS xs) g).map (·.number)).Nodup) (hN : (BL (pairsO os) 50 (sortL ordS xs)).Nodup) :
    Ret Tryz.prog 9 #[v, ov, .int .i64 50] w0 (fun u w => HSat No w0 [OSl 45 u 6 encBV (sortL ordB (BL (pairsO os) 50 (sortL ordS xs)))] w) := by
 refine ret_of_wp (nt := 128) Tryz.func9 rfl rfl rfl (fl := [(0, v), (1, ov), (2, .int .i64 50)]) rfl (fun a S => ?_)
 have H := HSat.start w0
 have H := H.ro0 (Sl v 6 encSV xs) rfl (hv)
 have H := H.ro0 (Sl ov 11 encO os) rfl (ho)
 have hlx := hv.len
 have hlo := ho.len
 have hll : (sortL ordS xs).length = xs.length := (sortL_perm ordS xs).length_eq
 have hcat : catO [(v, xs)] = xs := by simp [catO]
 refine gsr ?_
 refine ga S fun a S => ?_
 refine gnt ?_
 refine gsr ?_
 refine gm S fun a S => ?_
 refine wl_of (op_buildSlice (wn rfl) rfl rfl rfl Tryz.underlying24 Finf29 S H (idx := [0]) rfl rfl rfl (z := [.slice none 0 0]) (by kernel_rfl) (cs := [v]) (by obtain ⟨p, c, hp⟩ := hv.shape; rw [hp]; rfl) fun b21 a w S H => ?_)
 refine wl_of (op_call (wn rfl) rfl rfl S (co_func rfl Tryz.call8 S rfl) (merge_spec (.slice (some ⟨b21, 0, none⟩) 1 1) [(v, xs)] _ (H.slb b21 [(v, xs)] encRow 1 rfl rfl (by intro x _; rfl) (by decide)) (fun p hp => by rw [List.mem_singleton.1 hp]; exact H.sl v) (by rw [hcat]; omega) (by rw [hcat]; exact hn)) fun u22 w hc a S => ?_)
 have H1 := hc
 rw [hcat] at H1
 have H := H.call1 H1 rfl
 refine ga S fun a S => ?_
 refine gnt ?_
 have S := (((S.nil.cons S 2 rfl).cons S 1 rfl).cons S 6 rfl).cons S 7 rfl
 refine gsr ?_
 refine gm S fun a S => ?_
 refine gy rfl rfl rfl S (y_min rfl S rfl rfl) fun a S => ?_
 refine gy rfl rfl rfl S (y_max rfl S rfl rfl) fun a S => ?_
 rw [show max 0 (min 50 1000000000) = (50 : Int) from by decide] at S
 refine ga S fun a S => ?_
 refine gnt ?_
 have S := (((S.nil.cons S 1 rfl).cons S 6 rfl).cons S 7 rfl).cons S 2 rfl
 refine gsr ?_
 refine wl_of (op_makeMap (fun n : Int => .int .i64 n) (fun n : Int => .int .i64 n) (wn rfl) rfl rfl rfl S H fun b26 a w S H => ?_)
 refine wl_of (op_alloc (wn rfl) rfl rfl rfl S H Fzer72 fun b8 a w S H => ?_)
 refine wl_of (op_store (wn rfl) rfl rfl S H rfl rfl rfl Fsiz72 rfl fun a w S H => ?_)
 dsimp only [List.set, Nat.zero_add, Nat.reduceAdd] at H
 refine gnt ?_
 refine g_seq ?_
 refine gsr ?_
 refine gm S fun a S => ?_
 refine wl_of (op_call (wn rfl) rfl rfl S (co_func rfl Tryz.call22 S rfl) (backward_spec ov os _ (H.sl ov)) fun v w hc a S => ?_)
 obtain ⟨c1, rfl, H1⟩ := hc
 have H := H.call1 H1 rfl
 have H := (H.freeze.front (Cel b8 72 [.map (some b26)])).freeze.defs0
 refine gnt ?_
 refine g_block ?_
 rw [show (fun _ : Int => (none : Option Int)) = sinM (pairsO (os.drop os.length)) by rw [List.drop_length]; rfl] at H
 refine g_range (Φ := fun p l2 => p = none ∧ ∃ z, l2 = [MapA b26 (fun n : Int => .int .i64 n) (fun n : Int => .int .i64 n) (sinM (pairsO (os))) z, Atom.ro (Cel b8 72 [.map (some b26)]), OSl 32 u22 6 encSV (sortL ordS xs)]) S (H.take [DefsA [], Atom.ro (Cel c1 25 [ov]), Sl ov 11 encO os, MapA b26 (fun n : Int => .int .i64 n) (fun n : Int => .int .i64 n) (sinM (pairsO (os.drop os.length))) 0, Atom.ro (Cel b8 72 [.map (some b26)]), OSl 32 u22 6 encSV (sortL ordS xs)]) rfl Tryz.call58 (fun R lb w1 hrec H1 => ?_) ?_
 ·have SR := S.recd
  refine Ret.mono (backward_iter (M := No) (u0 := w0) (Z := Nat) (fun k z => Blk lb (.loop R) :: DefsA [R.defers] :: MapA b26 (fun n : Int => .int .i64 n) (fun n : Int => .int .i64 n) (sinM (pairsO (os.drop (k)))) z :: Atom.ro (Cel b8 72 [.map (some b26)]) :: OSl 32 u22 6 encSV (sortL ordS xs) :: []) lb c1 ov os w1 (fun k hk z w H => ?_) ⟨0, by have h := H1.take (Atom.ro (Cel c1 25 [ov]) :: Sl ov 11 encO os :: Blk lb (.loop R) :: DefsA [R.defers] :: MapA b26 (fun n : Int => .int .i64 n) (fun n : Int => .int .i64 n) (sinM (pairsO (os.drop (os.length)))) 0 :: Atom.ro (Cel b8 72 [.map (some b26)]) :: OSl 32 u22 6 encSV (sortL ordS xs) :: []); exact h⟩) ?_
  ·skip
   skip
   refine yield2 hrec SR H rfl rfl (fun a S => ?_)
   refine g_region ?_
   refine wl_of (op_alloc (wn rfl) rfl rfl rfl S H Fzer42 fun b10 a w S H => ?_)
   refine wl_of (op_storea (wn rfl) rfl rfl S H rfl rfl rfl Fsiz42 rfl (cs' := encO os[k]) rfl fun a w S H => ?_)
   refine gnt ?_
   refine r_begin hrec H (fun w H => ?_)
   refine g_block ?_
   refine g_region ?_
   refine gy rfl rfl rfl S (y_load rfl Fsca72 S H rfl rfl) fun a S => ?_
   refine gy rfl rfl rfl S (y_faddrb rfl Ffo42_0 S rfl) fun a S => ?_
   refine gy rfl rfl rfl S (y_faddrb rfl Ffo35_0 S rfl) fun a S => ?_
   refine gy rfl rfl rfl S (y_load rfl Fsca3 S H rfl rfl) fun a S => ?_
   refine gy rfl rfl rfl S (y_faddrb rfl Ffo42_4 S rfl) fun a S => ?_
   refine gy rfl rfl rfl S (y_load rfl Fsca3 S H rfl rfl) fun a S => ?_
   refine wl_of (op_mapUpdate (_) (_) (wn rfl) rfl rfl Tryz.underlying72 S H rfl (keyOK_int Tryz.underlying3) (by exact rfl) (by exact rfl) fun a w S H => ?_)
   refine gl_nil ?_
   refine n_block ?_
   refine r_end hrec H (fun w H => ?_)
   have e := sinM_cons (os[k].t.serial, os[k].gone) (pairsO (os.drop (k + 1)))
   rw [← pairsO_drop hk] at e
   dsimp only at e
   rw [e] at H
   exact ⟨rfl, _, H.take (Atom.ro (Cel c1 25 [ov]) :: Sl ov 11 encO os :: Blk lb (.loop R) :: DefsA [R.defers] :: MapA b26 (fun n : Int => .int .i64 n) (fun n : Int => .int .i64 n) (sinM (pairsO (os.drop (k)))) (if (sinM (pairsO (os.drop (k + 1))) os[k].t.serial).isSome = true then z else z + 1) :: Atom.ro (Cel b8 72 [.map (some b26)]) :: OSl 32 u22 6 encSV (sortL ordS xs) :: [])⟩
  ·rintro _ w2 ⟨z, H2⟩
   exact ⟨.ready, none, _, by simp, ⟨rfl, z, rfl⟩, by rw [hrec.same]; exact H2.take [Blk lb (.loop R), DefsA [R.defers], MapA b26 (fun n : Int => .int .i64 n) (fun n : Int => .int .i64 n) (sinM (pairsO (os.drop 0))) z, Atom.ro (Cel b8 72 [.map (some b26)]), OSl 32 u22 6 encSV (sortL ordS xs)]⟩
 ·intro bd a w pend l2 S H hΦ
  obtain ⟨rfl, z, rfl⟩ := hΦ
  refine n_block ?_
  refine n_then ?_
  have S := (((S.nil.cons S 6 rfl).cons S 7 rfl).cons S 2 rfl).cons S 8 rfl
  refine gsr ?_
  refine wl_of (op_alloc (wn rfl) rfl rfl rfl S H Fzer76 fun b11 a w S H => ?_)
  refine gnt ?_
  refine g_seq ?_
  refine gsr ?_
  refine gm S fun a S => ?_
  refine wl_of (op_call (wn rfl) rfl rfl S (co_func rfl Tryz.call23 S rfl) (by_spec u22 (sortL ordS xs) 24 Tryz.call24 SV.gate (fun _ => true) _ (H.sl u22) (by omega) bkey_spec) fun v w hc a S => ?_)
  obtain ⟨b38, val, cc, rfl, H1⟩ := hc
  have H := H.call H1 (by simp [MapA, FamA, bun_own])
  simp only [List.cons_append, List.nil_append] at H
  refine wl_of (op_range (wn rfl) rfl rfl rfl Tryz.underlying77 S H rfl fun r39 a w S H => ?_)
  have H := ((H.front (FamA (keysF SV.gate (fun _ => true) (sortL ordS xs)) (fun j => OSl 32 (val j) 6 encSV (grpF SV.gate (fun _ => true) (sortL ordS xs) j)))).freeze.nilO 45 6 encBV).take [ItA r39 b38 (fun n : Int => .int .i64 n) (fun v : Value => v) (mvF (keysF SV.gate (fun _ => true) (sortL ordS xs)) val) [] cc, Cel b11 76 [(.slice none 0 0)], OSl 45 (.slice none 0 0) 6 encBV ([]), Atom.ro (FamA (keysF SV.gate (fun _ => true) (sortL ordS xs)) (fun j => OSl 32 (val j) 6 encSV (grpF SV.gate (fun _ => true) (sortL ordS xs) j))), OSl 32 u22 6 encSV (sortL ordS xs), MapA b26 (fun n : Int => .int .i64 n) (fun n : Int => .int .i64 n) (sinM (pairsO (os))) z, Atom.ro (Cel b8 72 [.map (some b26)]), DefsA [bd]]
  refine gnt ?_
  refine g_block ?_
  have SU := (((((S.nil.cons S 6 rfl).cons S 7 rfl).cons S 2 rfl).cons S 8 rfl).cons S 11 rfl).cons S 39 rfl
  refine loopW (X := List (Int × Value) × Nat × Value) SU (fun x => []) (fun x w => HSat No w0 [ItA r39 b38 (fun n : Int => .int .i64 n) (fun v : Value => v) (mvF (keysF SV.gate (fun _ => true) (sortL ordS xs)) val) x.1 x.2.1, Cel b11 76 [x.2.2], OSl 45 x.2.2 6 encBV ((x.1).flatMap (fun p : Int × Value => gateB (grpF SV.gate (fun _ => true) (sortL ordS xs) p.1))), Atom.ro (FamA (keysF SV.gate (fun _ => true) (sortL ordS xs)) (fun j => OSl 32 (val j) 6 encSV (grpF SV.gate (fun _ => true) (sortL ordS xs) j))), OSl 32 u22 6 encSV (sortL ordS xs), MapA b26 (fun n : Int => .int .i64 n) (fun n : Int => .int .i64 n) (sinM (pairsO (os))) z, Atom.ro (Cel b8 72 [.map (some b26)]), DefsA [bd]] w) (fun x => x.2.1) ([], cc, .slice none 0 0) (S.nil) (H) (fun x a w S hW => ?_)
  simp only [List.cons_append, List.nil_append] at S
  obtain ⟨done, left, bv⟩ := x
  dsimp only at S hW
  have H := hW
  have hdl := Nat.le_trans (it_len H) (keysF_len _ _ _)
  have hb38 : ((done).flatMap (fun p : Int × Value => gateB (grpF SV.gate (fun _ => true) (sortL ordS xs) p.1))).length ≤ 5000000 := Nat.le_trans (flat_len (b := 5000) (fun p _ => Nat.le_trans (gateB_len _) (by have := grpF_len SV.gate (fun _ => true) (sortL ordS xs) p.1; omega))) (by omega)
  refine g_seq ?_
  rcases Nat.eq_zero_or_pos left with hz | hz
  ·skip
   refine g_region ?_
   refine wl_of (op_nextE hz (wn rfl) rfl rfl rfl S H rfl fun a w S H => ?_)
   refine gy rfl rfl rfl S (y_extract rfl S rfl rfl) fun a S => ?_
   refine gnt ?_
   refine g_seq ?_
   refine c_if S rfl (fun h1 => ?_) (fun h1 => ?_)
   ·have h1p := h1; try simp only [DL] at h1p
    all_goals (
      exact absurd h1 (by simp))
   ·have h1p := h1; try simp only [DL] at h1p
    have hK1 := it_perm H hz (keysF_nodup _ _ _)
    have hB1l := hb38
    obtain ⟨B1, hB1⟩ : ∃ B, B = (done).flatMap (fun p : Int × Value => gateB (grpF SV.gate (fun _ => true) (sortL ordS xs) p.1)) := ⟨_, rfl⟩
    rw [← hB1] at H hB1l
    refine g_exit ?_
    refine x_then (x_then (x_eq ?_))
    refine n_then ?_
    refine g_seq ?_
    refine gsr ?_
    refine gm S fun a S => ?_
    refine wl_of (op_call (wn rfl) rfl rfl S (co_func rfl Tryz.call27 S rfl) (ways_spec u22 (sortL ordS xs) _ (H.sl u22) (by omega)) fun v w hc a S => ?_)
    obtain ⟨b48, val2, cc, rfl, H1⟩ := hc
    have H := H.call H1 (by simp [MapA, FamA, bun_own])
    simp only [List.cons_append, List.nil_append] at H
    refine wl_of (op_range (wn rfl) rfl rfl rfl Tryz.underlying77 S H rfl fun r49 a w S H => ?_)
    have H := ((H.front (FamA (keysF SV.serial okW (sortL ordS xs)) (fun j => OSl 32 (val2 j) 6 encSV (grpF SV.serial okW (sortL ordS xs) j)))).freeze).take [ItA r49 b48 (fun n : Int => .int .i64 n) (fun v : Value => v) (mvF (keysF SV.serial okW (sortL ordS xs)) val2) [] cc, Cel b11 76 [bv], OSl 45 bv 6 encBV (B1), Atom.ro (FamA (keysF SV.serial okW (sortL ordS xs)) (fun j => OSl 32 (val2 j) 6 encSV (grpF SV.serial okW (sortL ordS xs) j))), OSl 32 u22 6 encSV (sortL ordS xs), MapA b26 (fun n : Int => .int .i64 n) (fun n : Int => .int .i64 n) (sinM (pairsO (os))) z, Atom.ro (Cel b8 72 [.map (some b26)]), DefsA [bd]]
    refine gnt ?_
    have S := ((((S.nil.cons S 6 rfl).cons S 2 rfl).cons S 8 rfl).cons S 11 rfl).cons S 49 rfl
    refine g_block ?_
    have SU := ((((S.nil.cons S 6 rfl).cons S 2 rfl).cons S 8 rfl).cons S 11 rfl).cons S 49 rfl
    refine loopW (X := List (Int × Value) × Nat × Value) SU (fun x => []) (fun x w => HSat No w0 [ItA r49 b48 (fun n : Int => .int .i64 n) (fun v : Value => v) (mvF (keysF SV.serial okW (sortL ordS xs)) val2) x.1 x.2.1, Cel b11 76 [x.2.2], OSl 45 x.2.2 6 encBV (B1 ++ (x.1).flatMap (fun p : Int × Value => wayB (pairsO os) 50 (grpF SV.serial okW (sortL ordS xs) p.1))), Atom.ro (FamA (keysF SV.serial okW (sortL ordS xs)) (fun j => OSl 32 (val2 j) 6 encSV (grpF SV.serial okW (sortL ordS xs) j))), OSl 32 u22 6 encSV (sortL ordS xs), MapA b26 (fun n : Int => .int .i64 n) (fun n : Int => .int .i64 n) (sinM (pairsO (os))) z, Atom.ro (Cel b8 72 [.map (some b26)]), DefsA [bd]] w) (fun x => x.2.1) ([], cc, bv) (S.nil) (by dsimp only; rw [show B1 ++ ([]).flatMap (fun p : Int × Value => wayB (pairsO os) 50 (grpF SV.serial okW (sortL ordS xs) p.1)) = B1 from List.append_nil B1]; exact H) (fun x a w S hW => ?_)
    simp only [List.cons_append, List.nil_append] at S
    obtain ⟨done2, left2, bv⟩ := x
    dsimp only at S hW
    have H := hW
    have hdl2 := Nat.le_trans (it_len H) (keysF_len _ _ _)
    have hb48 : (B1 ++ (done2).flatMap (fun p : Int × Value => wayB (pairsO os) 50 (grpF SV.serial okW (sortL ordS xs) p.1))).length ≤ 7000000 := by
      have h1 : (done2.flatMap (fun p : Int × Value => wayB (pairsO os) 50 (grpF SV.serial okW (sortL ordS xs) p.1))).length ≤ done2.length * 2000 := flat_len (fun p _ => Nat.le_trans (wayBs_len _ _ _ _) (by have := grpF_len SV.serial okW (sortL ordS xs) p.1; omega))
      rw [List.length_append]; omega
    refine g_seq ?_
    rcases Nat.eq_zero_or_pos left2 with hz | hz
    ·skip
     refine g_region ?_
     refine wl_of (op_nextE hz (wn rfl) rfl rfl rfl S H rfl fun a w S H => ?_)
     refine gy rfl rfl rfl S (y_extract rfl S rfl rfl) fun a S => ?_
     refine gnt ?_
     refine g_seq ?_
     refine c_if S rfl (fun h2 => ?_) (fun h2 => ?_)
     ·have h2p := h2; try simp only [DL] at h2p
      all_goals (
        exact absurd h2 (by simp))
     ·have h2p := h2; try simp only [DL] at h2p
      have hfin : sortL ordB (B1 ++ (done2).flatMap (fun p : Int × Value => wayB (pairsO os) 50 (grpF SV.serial okW (sortL ordS xs) p.1))) = sortL ordB (BL (pairsO os) 50 (sortL ordS xs)) := by
        have hK2 := it_perm H hz (keysF_nodup _ _ _)
        refine sortL_eq ordB_cmp (fun _ _ => ordB_zero) ?_
        have hp := BLk_perm (gone := pairsO os) (stale := 50) hK1 hK2
        unfold BLk at hp
        rw [List.flatMap_map, List.flatMap_map, ← hB1] at hp
        exact hp
      refine g_exit ?_
      refine x_then (x_then (x_eq ?_))
      refine n_then ?_
      have S := (S.nil.cons S 6 rfl).cons S 11 rfl
      refine gsr ?_
      refine gy rfl rfl rfl S (y_load rfl Fsca76 S H rfl rfl) fun a S => ?_
      refine wl_of (op_call (wn rfl) rfl rfl S (co_func rfl Tryz.call28 S rfl) (sortB_spec bv (B1 ++ (done2).flatMap (fun p : Int × Value => wayB (pairsO os) 50 (grpF SV.serial okW (sortL ordS xs) p.1))) _ (by omega) (H.take [OSl 45 bv 6 encBV (B1 ++ (done2).flatMap (fun p : Int × Value => wayB (pairsO os) 50 (grpF SV.serial okW (sortL ordS xs) p.1))), Cel b11 76 [bv], DefsA [bd]])) fun v w hc a S => ?_)
      obtain ⟨rfl, H⟩ := hc
      rw [hfin] at H
      refine gnt ?_
      refine gsr ?_
      refine gy rfl rfl rfl S (y_load rfl Fsca76 S H rfl rfl) fun a S => ?_
      refine wl_of (op_call (wn rfl) rfl rfl S (co_func rfl Tryz.call32 S rfl) (compactB_spec bv (sortL ordB (BL (pairsO os) 50 (sortL ordS xs))) _ H (sortL_apart ordB hN)) fun u127 w hc a S => ?_)
      obtain ⟨rfl, H⟩ := hc
      
      refine ga S fun a S => ?_
      refine gnt ?_
      have S := S.nil.cons S 6 rfl
      refine g_ret ?_
      refine ret1M rfl S (H.front (DefsA [bd])) rfl (fun w H => ?_)
      exact H.take [OSl 45 u127 6 encBV (sortL ordB (BL (pairsO os) 50 (sortL ordS xs)))]
    ·skip
     refine g_region ?_
     refine wl_of (op_nextY hz (wn rfl) rfl rfl rfl S H rfl fun key2 u left3 a w hlt hm hkd S H => ?_)
     obtain ⟨hks, rfl⟩ := mvF_some hm
     refine gy rfl rfl rfl S (y_extract rfl S rfl rfl) fun a S => ?_
     refine gnt ?_
     refine g_seq ?_
     refine c_if S rfl (fun h3 => ?_) (fun h3 => ?_)
     ·have h3p := h3; try simp only [DL] at h3p
      refine g_skip ?_
      refine n_then ?_
      refine g_block ?_
      refine gsr ?_
      refine gy rfl rfl rfl S ((y_entry rfl S H rfl)) fun a S => ?_
      refine gy rfl rfl rfl S (y_extract rfl S rfl rfl) fun a S => ?_
      have hwl := grpF_len SV.serial okW (sortL ordS xs) key2
      have H := (famSl (H.front (Atom.ro (FamA (keysF SV.serial okW (sortL ordS xs)) (fun j => OSl 32 (val2 j) 6 encSV (grpF SV.serial okW (sortL ordS xs) j))))) hks).take [Sl (val2 key2) 6 encSV (grpF SV.serial okW (sortL ordS xs) key2), Cel b11 76 [bv], OSl 45 bv 6 encBV (B1 ++ (done2).flatMap (fun p : Int × Value => wayB (pairsO os) 50 (grpF SV.serial okW (sortL ordS xs) p.1))), ItA r49 b48 (fun n : Int => .int .i64 n) (fun v : Value => v) (mvF (keysF SV.serial okW (sortL ordS xs)) val2) (done2 ++ [(key2, val2 key2)]) left3, Atom.ro (FamA (keysF SV.serial okW (sortL ordS xs)) (fun j => OSl 32 (val2 j) 6 encSV (grpF SV.serial okW (sortL ordS xs) j))), OSl 32 u22 6 encSV (sortL ordS xs), MapA b26 (fun n : Int => .int .i64 n) (fun n : Int => .int .i64 n) (sinM (pairsO (os))) z, Atom.ro (Cel b8 72 [.map (some b26)]), DefsA [bd]]
      refine ga S fun a S => ?_
      refine gnt ?_
      have S := (((((S.nil.cons S 6 rfl).cons S 2 rfl).cons S 8 rfl).cons S 11 rfl).cons S 49 rfl).cons S 15 rfl
      refine gsr ?_
      refine gm S fun a S => ?_
      refine gy rfl rfl rfl S (y_lens rfl Tryz.underlying29 S H rfl) fun a S => ?_
      refine gm S fun a S => ?_
      refine gnt ?_
      refine g_block ?_
      have SU := (((((((S.nil.cons S 6 rfl).cons S 2 rfl).cons S 8 rfl).cons S 11 rfl).cons S 49 rfl).cons S 15 rfl).cons S 54 rfl).cons S 55 rfl
      refine loopW (X := Nat × Value) SU (fun x => [(56, .int .i64 (x.1 : Int))]) (fun x w => x.1 ≤ (grpF SV.serial okW (sortL ordS xs) key2).length ∧ HSat No w0 [Sl (val2 key2) 6 encSV (grpF SV.serial okW (sortL ordS xs) key2), Cel b11 76 [x.2], OSl 45 x.2 6 encBV (B1 ++ (done2).flatMap (fun p : Int × Value => wayB (pairsO os) 50 (grpF SV.serial okW (sortL ordS xs) p.1)) ++ wayBs (pairsO os) 50 (grpF SV.serial okW (sortL ordS xs) key2) (x.1)), ItA r49 b48 (fun n : Int => .int .i64 n) (fun v : Value => v) (mvF (keysF SV.serial okW (sortL ordS xs)) val2) (done2 ++ [(key2, val2 key2)]) left3, Atom.ro (FamA (keysF SV.serial okW (sortL ordS xs)) (fun j => OSl 32 (val2 j) 6 encSV (grpF SV.serial okW (sortL ordS xs) j))), OSl 32 u22 6 encSV (sortL ordS xs), MapA b26 (fun n : Int => .int .i64 n) (fun n : Int => .int .i64 n) (sinM (pairsO (os))) z, Atom.ro (Cel b8 72 [.map (some b26)]), DefsA [bd]] w) (fun x => (grpF SV.serial okW (sortL ordS xs) key2).length - x.1) (0, bv) (S.nil.cons S 56 rfl) (⟨Nat.zero_le _, by dsimp only; rw [show B1 ++ (done2).flatMap (fun p : Int × Value => wayB (pairsO os) 50 (grpF SV.serial okW (sortL ordS xs) p.1)) ++ wayBs (pairsO os) 50 (grpF SV.serial okW (sortL ordS xs) key2) (0) = B1 ++ (done2).flatMap (fun p : Int × Value => wayB (pairsO os) 50 (grpF SV.serial okW (sortL ordS xs) p.1)) from List.append_nil _]; exact H⟩) (fun x a w S hW => ?_)
      simp only [List.cons_append, List.nil_append] at S
      obtain ⟨i, bv⟩ := x
      obtain ⟨hi, H⟩ := hW
      dsimp only at S hi H
      refine gsr ?_
      refine gy rfl rfl rfl S (y_bin rfl S rfl rfl rfl) fun a S => ?_
      refine gnt ?_
      refine g_seq ?_
      refine c_if S rfl (fun h4 => ?_) (fun h4 => ?_)
      ·have h4p := h4; try simp only [DL] at h4p
       refine g_skip ?_
       refine n_then ?_
       refine g_seq ?_
       refine g_block ?_
       refine gsr ?_
       refine gm S fun a S => ?_
       refine gy rfl rfl rfl S (y_iaddrn rfl Tryz.underlying29 Fsiz32 S H rfl rfl (by first | assumption | omega | (simp only [LL]; omega))) fun a S => ?_
       refine gy rfl rfl rfl S (y_loadsa _ rfl S H rfl (by exact Fagg32) (by first | assumption | omega | (simp only [LL]; omega))) fun a S => ?_
       refine wl_of (op_alloc (wn rfl) rfl rfl rfl S H Fzer32 fun b17 a w S H => ?_)
       refine ga S fun a S => ?_
       refine wl_of (op_storea (wn rfl) rfl rfl S H rfl rfl rfl Fsiz32 rfl (cs' := encSV (grpF SV.serial okW (sortL ordS xs) key2)[i]) rfl fun a w S H => ?_)
       refine gnt ?_
       have S := ((((((((((S.nil.cons S 6 rfl).cons S 2 rfl).cons S 8 rfl).cons S 11 rfl).cons S 49 rfl).cons S 15 rfl).cons S 54 rfl).cons S 55 rfl).cons S 56 rfl).cons S 17 rfl).cons S 16 rfl
       refine g_seq ?_
       refine gsr ?_
       refine gy rfl rfl rfl S (y_faddrb rfl Ffo32_4 S rfl) fun a S => ?_
       refine gy rfl rfl rfl S (y_load rfl Fsca3 S H rfl rfl) fun a S => ?_
       refine gy rfl rfl rfl S (y_bin rfl S rfl rfl rfl) fun a S => ?_
       refine gnt ?_
       refine c_if S rfl (fun h5 => ?_) (fun h5 => ?_)
       ·have h5p := h5; try simp only [DL] at h5p
        have hw1 : wayB1 (pairsO os) 50 (grpF SV.serial okW (sortL ordS xs) key2) i = [] := wayB1_a (by omega) (by exact h5p)
        refine g_exit ?_
        refine x_then (x_eq ?_)
        refine n_then ?_
        have S := ((((((((S.nil.cons S 6 rfl).cons S 2 rfl).cons S 8 rfl).cons S 11 rfl).cons S 49 rfl).cons S 15 rfl).cons S 54 rfl).cons S 55 rfl).cons S 56 rfl
        refine g_region ?_
        refine gy rfl rfl rfl S (y_add rfl S rfl rfl (by omega)) fun a S => ?_
        refine gm S fun a S => ?_
        refine gnt ?_
        first
        | exact ⟨(i + 1, bv), S.nil.cons S 56 rfl, (((((((S.nil.cons S 6 rfl).cons S 2 rfl).cons S 8 rfl).cons S 11 rfl).cons S 49 rfl).cons S 15 rfl).cons S 54 rfl).cons S 55 rfl, ⟨by dsimp only; omega, by dsimp only; rw [wayBs_s, hw1, List.append_nil]; exact H.take [Sl (val2 key2) 6 encSV (grpF SV.serial okW (sortL ordS xs) key2), Cel b11 76 [bv], OSl 45 bv 6 encBV (B1 ++ (done2).flatMap (fun p : Int × Value => wayB (pairsO os) 50 (grpF SV.serial okW (sortL ordS xs) p.1)) ++ wayBs (pairsO os) 50 (grpF SV.serial okW (sortL ordS xs) key2) (i)), ItA r49 b48 (fun n : Int => .int .i64 n) (fun v : Value => v) (mvF (keysF SV.serial okW (sortL ordS xs)) val2) (done2 ++ [(key2, val2 key2)]) left3, Atom.ro (FamA (keysF SV.serial okW (sortL ordS xs)) (fun j => OSl 32 (val2 j) 6 encSV (grpF SV.serial okW (sortL ordS xs) j))), OSl 32 u22 6 encSV (sortL ordS xs), MapA b26 (fun n : Int => .int .i64 n) (fun n : Int => .int .i64 n) (sinM (pairsO (os))) z, Atom.ro (Cel b8 72 [.map (some b26)]), DefsA [bd]]⟩, by dsimp only; omega⟩
        | exact ⟨(i + 1, bv5), S.nil.cons S 56 rfl, (((((((S.nil.cons S 6 rfl).cons S 2 rfl).cons S 8 rfl).cons S 11 rfl).cons S 49 rfl).cons S 15 rfl).cons S 54 rfl).cons S 55 rfl, ⟨by dsimp only; omega, by dsimp only; rw [wayBs_s, hw1, ← List.append_assoc]; exact H.take [Sl (val2 key2) 6 encSV (grpF SV.serial okW (sortL ordS xs) key2), Cel b11 76 [bv5], OSl 45 bv5 6 encBV (B1 ++ (done2).flatMap (fun p : Int × Value => wayB (pairsO os) 50 (grpF SV.serial okW (sortL ordS xs) p.1)) ++ wayBs (pairsO os) 50 (grpF SV.serial okW (sortL ordS xs) key2) (i) ++ staleB (pairsO os) 50 (grpF SV.serial okW (sortL ordS xs) key2)[i]), ItA r49 b48 (fun n : Int => .int .i64 n) (fun v : Value => v) (mvF (keysF SV.serial okW (sortL ordS xs)) val2) (done2 ++ [(key2, val2 key2)]) left3, Atom.ro (FamA (keysF SV.serial okW (sortL ordS xs)) (fun j => OSl 32 (val2 j) 6 encSV (grpF SV.serial okW (sortL ordS xs) j))), OSl 32 u22 6 encSV (sortL ordS xs), MapA b26 (fun n : Int => .int .i64 n) (fun n : Int => .int .i64 n) (sinM (pairsO (os))) z, Atom.ro (Cel b8 72 [.map (some b26)]), DefsA [bd]]⟩, by dsimp only; omega⟩
        | exact ⟨((j + 1) + 1, bv7), S.nil.cons S 56 rfl, (((((((S.nil.cons S 6 rfl).cons S 2 rfl).cons S 8 rfl).cons S 11 rfl).cons S 49 rfl).cons S 15 rfl).cons S 54 rfl).cons S 55 rfl, ⟨by dsimp only; omega, by dsimp only; rw [wayBs_s, hw1, ← List.append_assoc, ← List.append_assoc]; exact H.take [Sl (val2 key2) 6 encSV (grpF SV.serial okW (sortL ordS xs) key2), Cel b11 76 [bv7], OSl 45 bv7 6 encBV (B1 ++ (done2).flatMap (fun p : Int × Value => wayB (pairsO os) 50 (grpF SV.serial okW (sortL ordS xs) p.1)) ++ wayBs (pairsO os) 50 (grpF SV.serial okW (sortL ordS xs) key2) (j + 1) ++ staleB (pairsO os) 50 (grpF SV.serial okW (sortL ordS xs) key2)[j + 1] ++ [blameF 1 (grpF SV.serial okW (sortL ordS xs) key2)[j + 1] (grpF SV.serial okW (sortL ordS xs) key2)[j].gate (grpF SV.serial okW (sortL ordS xs) key2)[j].number]), ItA r49 b48 (fun n : Int => .int .i64 n) (fun v : Value => v) (mvF (keysF SV.serial okW (sortL ordS xs)) val2) (done2 ++ [(key2, val2 key2)]) left3, Atom.ro (FamA (keysF SV.serial okW (sortL ordS xs)) (fun j => OSl 32 (val2 j) 6 encSV (grpF SV.serial okW (sortL ordS xs) j))), OSl 32 u22 6 encSV (sortL ordS xs), MapA b26 (fun n : Int => .int .i64 n) (fun n : Int => .int .i64 n) (sinM (pairsO (os))) z, Atom.ro (Cel b8 72 [.map (some b26)]), DefsA [bd]]⟩, by dsimp only; omega⟩
        | exact ⟨((j + 1) + 1, bv7), S.nil.cons S 56 rfl, (((((((S.nil.cons S 6 rfl).cons S 2 rfl).cons S 8 rfl).cons S 11 rfl).cons S 49 rfl).cons S 15 rfl).cons S 54 rfl).cons S 55 rfl, ⟨by dsimp only; omega, by dsimp only; rw [wayBs_s, hw1, ← List.append_assoc, ← List.append_assoc]; exact H.take [Sl (val2 key2) 6 encSV (grpF SV.serial okW (sortL ordS xs) key2), Cel b11 76 [bv7], OSl 45 bv7 6 encBV (B1 ++ (done2).flatMap (fun p : Int × Value => wayB (pairsO os) 50 (grpF SV.serial okW (sortL ordS xs) p.1)) ++ wayBs (pairsO os) 50 (grpF SV.serial okW (sortL ordS xs) key2) (j + 1) ++ staleB (pairsO os) 50 (grpF SV.serial okW (sortL ordS xs) key2)[j + 1] ++ [blameF 2 (grpF SV.serial okW (sortL ordS xs) key2)[j + 1] (grpF SV.serial okW (sortL ordS xs) key2)[j].gate (grpF SV.serial okW (sortL ordS xs) key2)[j].number]), ItA r49 b48 (fun n : Int => .int .i64 n) (fun v : Value => v) (mvF (keysF SV.serial okW (sortL ordS xs)) val2) (done2 ++ [(key2, val2 key2)]) left3, Atom.ro (FamA (keysF SV.serial okW (sortL ordS xs)) (fun j => OSl 32 (val2 j) 6 encSV (grpF SV.serial okW (sortL ordS xs) j))), OSl 32 u22 6 encSV (sortL ordS xs), MapA b26 (fun n : Int => .int .i64 n) (fun n : Int => .int .i64 n) (sinM (pairsO (os))) z, Atom.ro (Cel b8 72 [.map (some b26)]), DefsA [bd]]⟩, by dsimp only; omega⟩
        | exact ⟨((j + 1) + 1, bv5), S.nil.cons S 56 rfl, (((((((S.nil.cons S 6 rfl).cons S 2 rfl).cons S 8 rfl).cons S 11 rfl).cons S 49 rfl).cons S 15 rfl).cons S 54 rfl).cons S 55 rfl, ⟨by dsimp only; omega, by dsimp only; rw [wayBs_s, hw1, ← List.append_assoc]; exact H.take [Sl (val2 key2) 6 encSV (grpF SV.serial okW (sortL ordS xs) key2), Cel b11 76 [bv5], OSl 45 bv5 6 encBV (B1 ++ (done2).flatMap (fun p : Int × Value => wayB (pairsO os) 50 (grpF SV.serial okW (sortL ordS xs) p.1)) ++ wayBs (pairsO os) 50 (grpF SV.serial okW (sortL ordS xs) key2) (j + 1) ++ staleB (pairsO os) 50 (grpF SV.serial okW (sortL ordS xs) key2)[j + 1]), ItA r49 b48 (fun n : Int => .int .i64 n) (fun v : Value => v) (mvF (keysF SV.serial okW (sortL ordS xs)) val2) (done2 ++ [(key2, val2 key2)]) left3, Atom.ro (FamA (keysF SV.serial okW (sortL ordS xs)) (fun j => OSl 32 (val2 j) 6 encSV (grpF SV.serial okW (sortL ordS xs) j))), OSl 32 u22 6 encSV (sortL ordS xs), MapA b26 (fun n : Int => .int .i64 n) (fun n : Int => .int .i64 n) (sinM (pairsO (os))) z, Atom.ro (Cel b8 72 [.map (some b26)]), DefsA [bd]]⟩, by dsimp only; omega⟩
       ·have h5p := h5; try simp only [DL] at h5p
        have hil : i < (grpF SV.serial okW (sortL ordS xs) key2).length := by omega
        have hk1 : (grpF SV.serial okW (sortL ordS xs) key2)[i].kind = 1 := by exact h5p
        refine g_skip ?_
        refine n_then ?_
        refine g_seq ?_
        refine gsr ?_
        refine gy rfl rfl rfl S (y_load rfl Fsca72 S H rfl rfl) fun a S => ?_
        refine gy rfl rfl rfl S (y_faddrb rfl Ffo32_3 S rfl) fun a S => ?_
        refine gy rfl rfl rfl S (y_load rfl Fsca3 S H rfl rfl) fun a S => ?_
        refine gy rfl rfl rfl S (y_lookup (_) ((0 : Int)) rfl Tryz.underlying72 Finf3 S H rfl (keyOK_int Tryz.underlying3) (by exact rfl) (by exact rfl)) fun a S => ?_
        rw [show (sinM (pairsO os) (grpF SV.serial okW (sortL ordS xs) key2)[i].serial).getD 0 = sinceF (pairsO os) (grpF SV.serial okW (sortL ordS xs) key2)[i].serial from rfl] at S
        refine ga S fun a S => ?_
        refine gnt ?_
        have S := (((((((((((S.nil.cons S 6 rfl).cons S 2 rfl).cons S 8 rfl).cons S 11 rfl).cons S 49 rfl).cons S 15 rfl).cons S 54 rfl).cons S 55 rfl).cons S 56 rfl).cons S 17 rfl).cons S 16 rfl).cons S 18 rfl
        refine gsr ?_
        refine gm S fun a S => ?_
        refine gy rfl rfl rfl S (y_bin rfl S rfl rfl rfl) fun a S => ?_
        refine gm S fun a S => ?_
        refine' wl_and 2 70 rfl S H rfl rfl rfl rfl rfl rfl rfl (fun _ S => (wn rfl)) (fun h6 kk => ?yh6) (fun a w S H => ?_)
        case yh6 =>
         have h6p := h6; try simp only [DL] at h6p
         refine gz 70 h6 S rfl rfl rfl rfl rfl rfl (y_move rfl S rfl) fun a S => ?_
         refine gz 70 h6 S rfl rfl rfl rfl rfl rfl (y_bin rfl S rfl rfl rfl) fun a S => ?_
         refine gy rfl rfl rfl S (y_and' rfl h6 S rfl rfl) fun a S => ?_
         exact kk _ _ (S.join 3 73 rfl rfl) H
        refine gm S fun a S => ?_
        refine' wl_and 6 74 rfl S H rfl rfl rfl rfl rfl rfl rfl (fun _ S => (wn rfl)) (fun h7 kk => ?yh7) (fun a w S H => ?_)
        case yh7 =>
         have h7p := h7; try simp only [DL] at h7p
         refine gz 74 h7 S rfl rfl rfl rfl rfl rfl (y_faddrb rfl Ffo32_2 S rfl) fun a S => ?_
         refine gz 74 h7 S rfl rfl rfl rfl rfl rfl (y_load rfl Fsca3 S H rfl rfl) fun a S => ?_
         refine gz 74 h7 S rfl rfl rfl rfl rfl rfl (y_move rfl S rfl) fun a S => ?_
         refine gz 74 h7 S rfl rfl rfl rfl rfl rfl (y_move rfl S rfl) fun a S => ?_
         refine gz 74 h7 S rfl rfl rfl rfl rfl rfl (y_add rfl S rfl rfl (by omega)) fun a S => ?_
         refine gz 74 h7 S rfl rfl rfl rfl rfl rfl (y_bin rfl S rfl rfl rfl) fun a S => ?_
         refine gy rfl rfl rfl S (y_and' rfl h7 S rfl rfl) fun a S => ?_
         exact kk _ _ (S.join 7 81 rfl rfl) H
        refine gnt ?_
        have S := ((((((((((((S.nil.cons S 6 rfl).cons S 2 rfl).cons S 8 rfl).cons S 11 rfl).cons S 49 rfl).cons S 15 rfl).cons S 54 rfl).cons S 55 rfl).cons S 56 rfl).cons S 17 rfl).cons S 16 rfl).cons S 18 rfl).cons S 81 rfl
        refine c_if S rfl (fun h8 => ?_) (fun h8 => ?_)
        ·have h8p := h8; try simp only [DL] at h8p
         have hst : staleB (pairsO os) 50 (grpF SV.serial okW (sortL ordS xs) key2)[i] = [blameF 4 (grpF SV.serial okW (sortL ordS xs) key2)[i] (-1) (sinceF (pairsO os) (grpF SV.serial okW (sortL ordS xs) key2)[i].serial)] := by
           have h := h8p
           unfold staleB; rw [if_pos (by first | exact ⟨h.1.1, h.1.2, h.2⟩ | exact h | omega)]
         refine g_region ?_
         refine gy rfl rfl rfl S (y_load0 rfl S H rfl (by exact Fagg32)) fun a S => ?_
         refine gm S fun a S => ?_
         refine wl_of (op_call (wn rfl) rfl rfl S (co_func rfl Tryz.call26 S rfl) (blame_spec b11 bv (B1 ++ (done2).flatMap (fun p : Int × Value => wayB (pairsO os) 50 (grpF SV.serial okW (sortL ordS xs) p.1)) ++ wayBs (pairsO os) 50 (grpF SV.serial okW (sortL ordS xs) key2) (i)) 4 (-1) (sinceF (pairsO os) (grpF SV.serial okW (sortL ordS xs) key2)[i].serial) (grpF SV.serial okW (sortL ordS xs) key2)[i] _ (H.take [Cel b11 76 [bv], OSl 45 bv 6 encBV (B1 ++ (done2).flatMap (fun p : Int × Value => wayB (pairsO os) 50 (grpF SV.serial okW (sortL ordS xs) p.1)) ++ wayBs (pairsO os) 50 (grpF SV.serial okW (sortL ordS xs) key2) (i)), Cel b17 32 (encSV (grpF SV.serial okW (sortL ordS xs) key2)[i]), Sl (val2 key2) 6 encSV (grpF SV.serial okW (sortL ordS xs) key2), ItA r49 b48 (fun n : Int => .int .i64 n) (fun v : Value => v) (mvF (keysF SV.serial okW (sortL ordS xs)) val2) (done2 ++ [(key2, val2 key2)]) left3, Atom.ro (FamA (keysF SV.serial okW (sortL ordS xs)) (fun j => OSl 32 (val2 j) 6 encSV (grpF SV.serial okW (sortL ordS xs) j))), OSl 32 u22 6 encSV (sortL ordS xs), MapA b26 (fun n : Int => .int .i64 n) (fun n : Int => .int .i64 n) (sinM (pairsO (os))) z, Atom.ro (Cel b8 72 [.map (some b26)]), DefsA [bd]]) (by have h1 := hb48; have h2 := wayBs_len (pairsO os) 50 (grpF SV.serial okW (sortL ordS xs) key2) (i); have h3 := staleB_len (pairsO os) 50 (grpF SV.serial okW (sortL ordS xs) key2)[i]; simp only [List.length_append] at h1 ⊢; omega)) fun v w hc a S => ?_)
         obtain ⟨rfl, bv5, H⟩ := hc
         rw [← hst] at H
         refine gnt ?_
         have S := ((((((((((S.nil.cons S 6 rfl).cons S 2 rfl).cons S 8 rfl).cons S 11 rfl).cons S 49 rfl).cons S 15 rfl).cons S 54 rfl).cons S 55 rfl).cons S 56 rfl).cons S 17 rfl).cons S 16 rfl
         refine g_seq ?_
         refine gsr ?_
         refine gm S fun a S => ?_
         refine gy rfl rfl rfl S (y_bin rfl S rfl rfl rfl) fun a S => ?_
         refine gm S fun a S => ?_
         refine' wl_or 7 87 rfl S H rfl rfl rfl rfl rfl rfl rfl (fun _ S => (wn rfl)) (fun h9 kk => ?yh9) (fun a w S H => ?_)
         case yh9 =>
          have h9p := h9; try simp only [DL] at h9p
          refine gz 87 h9 S rfl rfl rfl rfl rfl rfl (y_move rfl S rfl) fun a S => ?_
          refine gz 87 h9 S rfl rfl rfl rfl rfl rfl (y_move rfl S rfl) fun a S => ?_
          refine gz 87 h9 S rfl rfl rfl rfl rfl rfl (y_sub rfl S rfl rfl (by omega)) fun a S => ?_
          refine gz 87 h9 S rfl rfl rfl rfl rfl rfl (y_iaddrs rfl Tryz.underlying29 Fsiz32 S H rfl rfl (by first | assumption | omega | (simp only [LL]; omega))) fun a S => ?_
          refine gz 87 h9 S rfl rfl rfl rfl rfl rfl (y_faddr rfl Ffo32_4 S rfl) fun a S => ?_
          refine gz 87 h9 S rfl rfl rfl rfl rfl rfl (y_loadsf _ rfl Fsca3 S H rfl (by first | assumption | omega | (simp only [LL]; omega)) rfl) fun a S => ?_
          refine gz 87 h9 S rfl rfl rfl rfl rfl rfl (y_bin rfl S rfl rfl rfl) fun a S => ?_
          refine gy rfl rfl rfl S (y_or' rfl h9 S rfl rfl) fun a S => ?_
          exact kk _ _ (S.join 8 95 rfl rfl) H
         refine gnt ?_
         refine c_if S rfl (fun h10 => ?_) (fun h10 => ?_)
         ·have h10p := h10; try simp only [DL] at h10p
          have hw1 : wayB1 (pairsO os) 50 (grpF SV.serial okW (sortL ordS xs) key2) i = staleB (pairsO os) 50 (grpF SV.serial okW (sortL ordS xs) key2)[i] := wayB1_b hil hk1 (by
            rcases h10p with h | h
            · exact .inl (by omega)
            · by_cases h0 : i = 0
              · exact .inl h0
              · refine .inr ⟨i - 1, by omega, by omega, ?_⟩
                have e : ((i : Int) - 1).toNat = i - 1 := by omega
                simp only [e] at h
                exact h)
          refine g_exit ?_
          refine x_then (x_eq ?_)
          refine n_then ?_
          have S := ((((((((S.nil.cons S 6 rfl).cons S 2 rfl).cons S 8 rfl).cons S 11 rfl).cons S 49 rfl).cons S 15 rfl).cons S 54 rfl).cons S 55 rfl).cons S 56 rfl
          refine g_region ?_
          refine gy rfl rfl rfl S (y_add rfl S rfl rfl (by omega)) fun a S => ?_
          refine gm S fun a S => ?_
          refine gnt ?_
          first
          | exact ⟨(i + 1, bv), S.nil.cons S 56 rfl, (((((((S.nil.cons S 6 rfl).cons S 2 rfl).cons S 8 rfl).cons S 11 rfl).cons S 49 rfl).cons S 15 rfl).cons S 54 rfl).cons S 55 rfl, ⟨by dsimp only; omega, by dsimp only; rw [wayBs_s, hw1, List.append_nil]; exact H.take [Sl (val2 key2) 6 encSV (grpF SV.serial okW (sortL ordS xs) key2), Cel b11 76 [bv], OSl 45 bv 6 encBV (B1 ++ (done2).flatMap (fun p : Int × Value => wayB (pairsO os) 50 (grpF SV.serial okW (sortL ordS xs) p.1)) ++ wayBs (pairsO os) 50 (grpF SV.serial okW (sortL ordS xs) key2) (i)), ItA r49 b48 (fun n : Int => .int .i64 n) (fun v : Value => v) (mvF (keysF SV.serial okW (sortL ordS xs)) val2) (done2 ++ [(key2, val2 key2)]) left3, Atom.ro (FamA (keysF SV.serial okW (sortL ordS xs)) (fun j => OSl 32 (val2 j) 6 encSV (grpF SV.serial okW (sortL ordS xs) j))), OSl 32 u22 6 encSV (sortL ordS xs), MapA b26 (fun n : Int => .int .i64 n) (fun n : Int => .int .i64 n) (sinM (pairsO (os))) z, Atom.ro (Cel b8 72 [.map (some b26)]), DefsA [bd]]⟩, by dsimp only; omega⟩
          | exact ⟨(i + 1, bv5), S.nil.cons S 56 rfl, (((((((S.nil.cons S 6 rfl).cons S 2 rfl).cons S 8 rfl).cons S 11 rfl).cons S 49 rfl).cons S 15 rfl).cons S 54 rfl).cons S 55 rfl, ⟨by dsimp only; omega, by dsimp only; rw [wayBs_s, hw1, ← List.append_assoc]; exact H.take [Sl (val2 key2) 6 encSV (grpF SV.serial okW (sortL ordS xs) key2), Cel b11 76 [bv5], OSl 45 bv5 6 encBV (B1 ++ (done2).flatMap (fun p : Int × Value => wayB (pairsO os) 50 (grpF SV.serial okW (sortL ordS xs) p.1)) ++ wayBs (pairsO os) 50 (grpF SV.serial okW (sortL ordS xs) key2) (i) ++ staleB (pairsO os) 50 (grpF SV.serial okW (sortL ordS xs) key2)[i]), ItA r49 b48 (fun n : Int => .int .i64 n) (fun v : Value => v) (mvF (keysF SV.serial okW (sortL ordS xs)) val2) (done2 ++ [(key2, val2 key2)]) left3, Atom.ro (FamA (keysF SV.serial okW (sortL ordS xs)) (fun j => OSl 32 (val2 j) 6 encSV (grpF SV.serial okW (sortL ordS xs) j))), OSl 32 u22 6 encSV (sortL ordS xs), MapA b26 (fun n : Int => .int .i64 n) (fun n : Int => .int .i64 n) (sinM (pairsO (os))) z, Atom.ro (Cel b8 72 [.map (some b26)]), DefsA [bd]]⟩, by dsimp only; omega⟩
          | exact ⟨((j + 1) + 1, bv7), S.nil.cons S 56 rfl, (((((((S.nil.cons S 6 rfl).cons S 2 rfl).cons S 8 rfl).cons S 11 rfl).cons S 49 rfl).cons S 15 rfl).cons S 54 rfl).cons S 55 rfl, ⟨by dsimp only; omega, by dsimp only; rw [wayBs_s, hw1, ← List.append_assoc, ← List.append_assoc]; exact H.take [Sl (val2 key2) 6 encSV (grpF SV.serial okW (sortL ordS xs) key2), Cel b11 76 [bv7], OSl 45 bv7 6 encBV (B1 ++ (done2).flatMap (fun p : Int × Value => wayB (pairsO os) 50 (grpF SV.serial okW (sortL ordS xs) p.1)) ++ wayBs (pairsO os) 50 (grpF SV.serial okW (sortL ordS xs) key2) (j + 1) ++ staleB (pairsO os) 50 (grpF SV.serial okW (sortL ordS xs) key2)[j + 1] ++ [blameF 1 (grpF SV.serial okW (sortL ordS xs) key2)[j + 1] (grpF SV.serial okW (sortL ordS xs) key2)[j].gate (grpF SV.serial okW (sortL ordS xs) key2)[j].number]), ItA r49 b48 (fun n : Int => .int .i64 n) (fun v : Value => v) (mvF (keysF SV.serial okW (sortL ordS xs)) val2) (done2 ++ [(key2, val2 key2)]) left3, Atom.ro (FamA (keysF SV.serial okW (sortL ordS xs)) (fun j => OSl 32 (val2 j) 6 encSV (grpF SV.serial okW (sortL ordS xs) j))), OSl 32 u22 6 encSV (sortL ordS xs), MapA b26 (fun n : Int => .int .i64 n) (fun n : Int => .int .i64 n) (sinM (pairsO (os))) z, Atom.ro (Cel b8 72 [.map (some b26)]), DefsA [bd]]⟩, by dsimp only; omega⟩
          | exact ⟨((j + 1) + 1, bv7), S.nil.cons S 56 rfl, (((((((S.nil.cons S 6 rfl).cons S 2 rfl).cons S 8 rfl).cons S 11 rfl).cons S 49 rfl).cons S 15 rfl).cons S 54 rfl).cons S 55 rfl, ⟨by dsimp only; omega, by dsimp only; rw [wayBs_s, hw1, ← List.append_assoc, ← List.append_assoc]; exact H.take [Sl (val2 key2) 6 encSV (grpF SV.serial okW (sortL ordS xs) key2), Cel b11 76 [bv7], OSl 45 bv7 6 encBV (B1 ++ (done2).flatMap (fun p : Int × Value => wayB (pairsO os) 50 (grpF SV.serial okW (sortL ordS xs) p.1)) ++ wayBs (pairsO os) 50 (grpF SV.serial okW (sortL ordS xs) key2) (j + 1) ++ staleB (pairsO os) 50 (grpF SV.serial okW (sortL ordS xs) key2)[j + 1] ++ [blameF 2 (grpF SV.serial okW (sortL ordS xs) key2)[j + 1] (grpF SV.serial okW (sortL ordS xs) key2)[j].gate (grpF SV.serial okW (sortL ordS xs) key2)[j].number]), ItA r49 b48 (fun n : Int => .int .i64 n) (fun v : Value => v) (mvF (keysF SV.serial okW (sortL ordS xs)) val2) (done2 ++ [(key2, val2 key2)]) left3, Atom.ro (FamA (keysF SV.serial okW (sortL ordS xs)) (fun j => OSl 32 (val2 j) 6 encSV (grpF SV.serial okW (sortL ordS xs) j))), OSl 32 u22 6 encSV (sortL ordS xs), MapA b26 (fun n : Int => .int .i64 n) (fun n : Int => .int .i64 n) (sinM (pairsO (os))) z, Atom.ro (Cel b8 72 [.map (some b26)]), DefsA [bd]]⟩, by dsimp only; omega⟩
          | exact ⟨((j + 1) + 1, bv5), S.nil.cons S 56 rfl, (((((((S.nil.cons S 6 rfl).cons S 2 rfl).cons S 8 rfl).cons S 11 rfl).cons S 49 rfl).cons S 15 rfl).cons S 54 rfl).cons S 55 rfl, ⟨by dsimp only; omega, by dsimp only; rw [wayBs_s, hw1, ← List.append_assoc]; exact H.take [Sl (val2 key2) 6 encSV (grpF SV.serial okW (sortL ordS xs) key2), Cel b11 76 [bv5], OSl 45 bv5 6 encBV (B1 ++ (done2).flatMap (fun p : Int × Value => wayB (pairsO os) 50 (grpF SV.serial okW (sortL ordS xs) p.1)) ++ wayBs (pairsO os) 50 (grpF SV.serial okW (sortL ordS xs) key2) (j + 1) ++ staleB (pairsO os) 50 (grpF SV.serial okW (sortL ordS xs) key2)[j + 1]), ItA r49 b48 (fun n : Int => .int .i64 n) (fun v : Value => v) (mvF (keysF SV.serial okW (sortL ordS xs)) val2) (done2 ++ [(key2, val2 key2)]) left3, Atom.ro (FamA (keysF SV.serial okW (sortL ordS xs)) (fun j => OSl 32 (val2 j) 6 encSV (grpF SV.serial okW (sortL ordS xs) j))), OSl 32 u22 6 encSV (sortL ordS xs), MapA b26 (fun n : Int => .int .i64 n) (fun n : Int => .int .i64 n) (sinM (pairsO (os))) z, Atom.ro (Cel b8 72 [.map (some b26)]), DefsA [bd]]⟩, by dsimp only; omega⟩
         ·have h10p := h10; try simp only [DL] at h10p
          have h6 := h10p
          obtain ⟨j, rfl⟩ : ∃ j, i = j + 1 := ⟨i - 1, by omega⟩
          have hkj : (grpF SV.serial okW (sortL ordS xs) key2)[j].kind = 1 := by
            have h := h6.2
            have e : (((j + 1 : Nat) : Int) - 1).toNat = j := by omega
            simp only [e] at h
            exact h
          refine g_skip ?_
          refine n_then ?_
          have S := ((((((((((S.nil.cons S 6 rfl).cons S 2 rfl).cons S 8 rfl).cons S 11 rfl).cons S 49 rfl).cons S 15 rfl).cons S 54 rfl).cons S 55 rfl).cons S 56 rfl).cons S 17 rfl).cons S 16 rfl
          refine gsr ?_
          refine gm S fun a S => ?_
          refine gm S fun a S => ?_
          refine gy rfl rfl rfl S ((y_subn (p := j + 1) (q := 1) (m := j) rfl S rfl rfl (by omega) (by omega))) fun a S => ?_
          refine gy rfl rfl rfl S (y_iaddrn rfl Tryz.underlying29 Fsiz32 S H rfl rfl (by first | assumption | omega | (simp only [LL]; omega))) fun a S => ?_
          refine gy rfl rfl rfl S (y_loadsa _ rfl S H rfl (by exact Fagg32) (by first | assumption | omega | (simp only [LL]; omega))) fun a S => ?_
          refine wl_of (op_alloc (wn rfl) rfl rfl rfl S H Fzer32 fun b19 a w S H => ?_)
          refine wl_of (op_storea (wn rfl) rfl rfl S H rfl rfl rfl Fsiz32 rfl (cs' := encSV (grpF SV.serial okW (sortL ordS xs) key2)[j]) rfl fun a w S H => ?_)
          refine gnt ?_
          have S := ((((((((((S.nil.cons S 6 rfl).cons S 2 rfl).cons S 8 rfl).cons S 11 rfl).cons S 49 rfl).cons S 15 rfl).cons S 54 rfl).cons S 55 rfl).cons S 56 rfl).cons S 17 rfl).cons S 19 rfl
          refine gsr ?_
          refine gy rfl rfl rfl S (y_faddrb rfl Ffo32_0 S rfl) fun a S => ?_
          refine gy rfl rfl rfl S (y_load rfl Fsca3 S H rfl rfl) fun a S => ?_
          refine gy rfl rfl rfl S (y_faddrb rfl Ffo32_0 S rfl) fun a S => ?_
          refine gy rfl rfl rfl S (y_load rfl Fsca3 S H rfl rfl) fun a S => ?_
          refine gy rfl rfl rfl S (y_bin rfl S rfl rfl rfl) fun a S => ?_
          refine gnt ?_
          have S := (((((((((((S.nil.cons S 6 rfl).cons S 2 rfl).cons S 8 rfl).cons S 11 rfl).cons S 49 rfl).cons S 15 rfl).cons S 54 rfl).cons S 55 rfl).cons S 56 rfl).cons S 17 rfl).cons S 19 rfl).cons S 105 rfl
          refine c_if S rfl (fun h11 => ?_) (fun h11 => ?_)
          ·have h11p := h11; try simp only [DL] at h11p
           have hw1 := wayB1_c (g := pairsO os) (st := 50) hil hk1 hkj (by exact h11p)
           refine g_region ?_
           refine gy rfl rfl rfl S (y_load0 rfl S H rfl (by exact Fagg32)) fun a S => ?_
           refine gy rfl rfl rfl S (y_faddrb rfl Ffo32_0 S rfl) fun a S => ?_
           refine gy rfl rfl rfl S (y_load rfl Fsca3 S H rfl rfl) fun a S => ?_
           refine gy rfl rfl rfl S (y_faddrb rfl Ffo32_1 S rfl) fun a S => ?_
           refine gy rfl rfl rfl S (y_load rfl Fsca3 S H rfl rfl) fun a S => ?_
           refine wl_of (op_call (wn rfl) rfl rfl S (co_func rfl Tryz.call26 S rfl) (blame_spec b11 bv5 (B1 ++ (done2).flatMap (fun p : Int × Value => wayB (pairsO os) 50 (grpF SV.serial okW (sortL ordS xs) p.1)) ++ wayBs (pairsO os) 50 (grpF SV.serial okW (sortL ordS xs) key2) (j + 1) ++ staleB (pairsO os) 50 (grpF SV.serial okW (sortL ordS xs) key2)[j + 1]) 1 ((grpF SV.serial okW (sortL ordS xs) key2)[j].gate) ((grpF SV.serial okW (sortL ordS xs) key2)[j].number) (grpF SV.serial okW (sortL ordS xs) key2)[j + 1] _ (H.take [Cel b11 76 [bv5], OSl 45 bv5 6 encBV (B1 ++ (done2).flatMap (fun p : Int × Value => wayB (pairsO os) 50 (grpF SV.serial okW (sortL ordS xs) p.1)) ++ wayBs (pairsO os) 50 (grpF SV.serial okW (sortL ordS xs) key2) (j + 1) ++ staleB (pairsO os) 50 (grpF SV.serial okW (sortL ordS xs) key2)[j + 1]), Cel b17 32 (encSV (grpF SV.serial okW (sortL ordS xs) key2)[j + 1]), Sl (val2 key2) 6 encSV (grpF SV.serial okW (sortL ordS xs) key2), ItA r49 b48 (fun n : Int => .int .i64 n) (fun v : Value => v) (mvF (keysF SV.serial okW (sortL ordS xs)) val2) (done2 ++ [(key2, val2 key2)]) left3, Atom.ro (FamA (keysF SV.serial okW (sortL ordS xs)) (fun j => OSl 32 (val2 j) 6 encSV (grpF SV.serial okW (sortL ordS xs) j))), OSl 32 u22 6 encSV (sortL ordS xs), MapA b26 (fun n : Int => .int .i64 n) (fun n : Int => .int .i64 n) (sinM (pairsO (os))) z, Atom.ro (Cel b8 72 [.map (some b26)]), DefsA [bd]]) (by have h1 := hb48; have h2 := wayBs_len (pairsO os) 50 (grpF SV.serial okW (sortL ordS xs) key2) (j + 1); have h3 := staleB_len (pairsO os) 50 (grpF SV.serial okW (sortL ordS xs) key2)[j + 1]; simp only [List.length_append] at h1 ⊢; omega)) fun v w hc a S => ?_)
           obtain ⟨rfl, bv7, H⟩ := hc
           
           refine gl_nil ?_
           refine n_block ?_
           refine n_then ?_
           have S := ((((((((S.nil.cons S 6 rfl).cons S 2 rfl).cons S 8 rfl).cons S 11 rfl).cons S 49 rfl).cons S 15 rfl).cons S 54 rfl).cons S 55 rfl).cons S 56 rfl
           refine g_region ?_
           refine gy rfl rfl rfl S (y_add rfl S rfl rfl (by omega)) fun a S => ?_
           refine gm S fun a S => ?_
           refine gnt ?_
           first
           | exact ⟨(i + 1, bv), S.nil.cons S 56 rfl, (((((((S.nil.cons S 6 rfl).cons S 2 rfl).cons S 8 rfl).cons S 11 rfl).cons S 49 rfl).cons S 15 rfl).cons S 54 rfl).cons S 55 rfl, ⟨by dsimp only; omega, by dsimp only; rw [wayBs_s, hw1, List.append_nil]; exact H.take [Sl (val2 key2) 6 encSV (grpF SV.serial okW (sortL ordS xs) key2), Cel b11 76 [bv], OSl 45 bv 6 encBV (B1 ++ (done2).flatMap (fun p : Int × Value => wayB (pairsO os) 50 (grpF SV.serial okW (sortL ordS xs) p.1)) ++ wayBs (pairsO os) 50 (grpF SV.serial okW (sortL ordS xs) key2) (i)), ItA r49 b48 (fun n : Int => .int .i64 n) (fun v : Value => v) (mvF (keysF SV.serial okW (sortL ordS xs)) val2) (done2 ++ [(key2, val2 key2)]) left3, Atom.ro (FamA (keysF SV.serial okW (sortL ordS xs)) (fun j => OSl 32 (val2 j) 6 encSV (grpF SV.serial okW (sortL ordS xs) j))), OSl 32 u22 6 encSV (sortL ordS xs), MapA b26 (fun n : Int => .int .i64 n) (fun n : Int => .int .i64 n) (sinM (pairsO (os))) z, Atom.ro (Cel b8 72 [.map (some b26)]), DefsA [bd]]⟩, by dsimp only; omega⟩
           | exact ⟨(i + 1, bv5), S.nil.cons S 56 rfl, (((((((S.nil.cons S 6 rfl).cons S 2 rfl).cons S 8 rfl).cons S 11 rfl).cons S 49 rfl).cons S 15 rfl).cons S 54 rfl).cons S 55 rfl, ⟨by dsimp only; omega, by dsimp only; rw [wayBs_s, hw1, ← List.append_assoc]; exact H.take [Sl (val2 key2) 6 encSV (grpF SV.serial okW (sortL ordS xs) key2), Cel b11 76 [bv5], OSl 45 bv5 6 encBV (B1 ++ (done2).flatMap (fun p : Int × Value => wayB (pairsO os) 50 (grpF SV.serial okW (sortL ordS xs) p.1)) ++ wayBs (pairsO os) 50 (grpF SV.serial okW (sortL ordS xs) key2) (i) ++ staleB (pairsO os) 50 (grpF SV.serial okW (sortL ordS xs) key2)[i]), ItA r49 b48 (fun n : Int => .int .i64 n) (fun v : Value => v) (mvF (keysF SV.serial okW (sortL ordS xs)) val2) (done2 ++ [(key2, val2 key2)]) left3, Atom.ro (FamA (keysF SV.serial okW (sortL ordS xs)) (fun j => OSl 32 (val2 j) 6 encSV (grpF SV.serial okW (sortL ordS xs) j))), OSl 32 u22 6 encSV (sortL ordS xs), MapA b26 (fun n : Int => .int .i64 n) (fun n : Int => .int .i64 n) (sinM (pairsO (os))) z, Atom.ro (Cel b8 72 [.map (some b26)]), DefsA [bd]]⟩, by dsimp only; omega⟩
           | exact ⟨((j + 1) + 1, bv7), S.nil.cons S 56 rfl, (((((((S.nil.cons S 6 rfl).cons S 2 rfl).cons S 8 rfl).cons S 11 rfl).cons S 49 rfl).cons S 15 rfl).cons S 54 rfl).cons S 55 rfl, ⟨by dsimp only; omega, by dsimp only; rw [wayBs_s, hw1, ← List.append_assoc, ← List.append_assoc]; exact H.take [Sl (val2 key2) 6 encSV (grpF SV.serial okW (sortL ordS xs) key2), Cel b11 76 [bv7], OSl 45 bv7 6 encBV (B1 ++ (done2).flatMap (fun p : Int × Value => wayB (pairsO os) 50 (grpF SV.serial okW (sortL ordS xs) p.1)) ++ wayBs (pairsO os) 50 (grpF SV.serial okW (sortL ordS xs) key2) (j + 1) ++ staleB (pairsO os) 50 (grpF SV.serial okW (sortL ordS xs) key2)[j + 1] ++ [blameF 1 (grpF SV.serial okW (sortL ordS xs) key2)[j + 1] (grpF SV.serial okW (sortL ordS xs) key2)[j].gate (grpF SV.serial okW (sortL ordS xs) key2)[j].number]), ItA r49 b48 (fun n : Int => .int .i64 n) (fun v : Value => v) (mvF (keysF SV.serial okW (sortL ordS xs)) val2) (done2 ++ [(key2, val2 key2)]) left3, Atom.ro (FamA (keysF SV.serial okW (sortL ordS xs)) (fun j => OSl 32 (val2 j) 6 encSV (grpF SV.serial okW (sortL ordS xs) j))), OSl 32 u22 6 encSV (sortL ordS xs), MapA b26 (fun n : Int => .int .i64 n) (fun n : Int => .int .i64 n) (sinM (pairsO (os))) z, Atom.ro (Cel b8 72 [.map (some b26)]), DefsA [bd]]⟩, by dsimp only; omega⟩
           | exact ⟨((j + 1) + 1, bv7), S.nil.cons S 56 rfl, (((((((S.nil.cons S 6 rfl).cons S 2 rfl).cons S 8 rfl).cons S 11 rfl).cons S 49 rfl).cons S 15 rfl).cons S 54 rfl).cons S 55 rfl, ⟨by dsimp only; omega, by dsimp only; rw [wayBs_s, hw1, ← List.append_assoc, ← List.append_assoc]; exact H.take [Sl (val2 key2) 6 encSV (grpF SV.serial okW (sortL ordS xs) key2), Cel b11 76 [bv7], OSl 45 bv7 6 encBV (B1 ++ (done2).flatMap (fun p : Int × Value => wayB (pairsO os) 50 (grpF SV.serial okW (sortL ordS xs) p.1)) ++ wayBs (pairsO os) 50 (grpF SV.serial okW (sortL ordS xs) key2) (j + 1) ++ staleB (pairsO os) 50 (grpF SV.serial okW (sortL ordS xs) key2)[j + 1] ++ [blameF 2 (grpF SV.serial okW (sortL ordS xs) key2)[j + 1] (grpF SV.serial okW (sortL ordS xs) key2)[j].gate (grpF SV.serial okW (sortL ordS xs) key2)[j].number]), ItA r49 b48 (fun n : Int => .int .i64 n) (fun v : Value => v) (mvF (keysF SV.serial okW (sortL ordS xs)) val2) (done2 ++ [(key2, val2 key2)]) left3, Atom.ro (FamA (keysF SV.serial okW (sortL ordS xs)) (fun j => OSl 32 (val2 j) 6 encSV (grpF SV.serial okW (sortL ordS xs) j))), OSl 32 u22 6 encSV (sortL ordS xs), MapA b26 (fun n : Int => .int .i64 n) (fun n : Int => .int .i64 n) (sinM (pairsO (os))) z, Atom.ro (Cel b8 72 [.map (some b26)]), DefsA [bd]]⟩, by dsimp only; omega⟩
           | exact ⟨((j + 1) + 1, bv5), S.nil.cons S 56 rfl, (((((((S.nil.cons S 6 rfl).cons S 2 rfl).cons S 8 rfl).cons S 11 rfl).cons S 49 rfl).cons S 15 rfl).cons S 54 rfl).cons S 55 rfl, ⟨by dsimp only; omega, by dsimp only; rw [wayBs_s, hw1, ← List.append_assoc]; exact H.take [Sl (val2 key2) 6 encSV (grpF SV.serial okW (sortL ordS xs) key2), Cel b11 76 [bv5], OSl 45 bv5 6 encBV (B1 ++ (done2).flatMap (fun p : Int × Value => wayB (pairsO os) 50 (grpF SV.serial okW (sortL ordS xs) p.1)) ++ wayBs (pairsO os) 50 (grpF SV.serial okW (sortL ordS xs) key2) (j + 1) ++ staleB (pairsO os) 50 (grpF SV.serial okW (sortL ordS xs) key2)[j + 1]), ItA r49 b48 (fun n : Int => .int .i64 n) (fun v : Value => v) (mvF (keysF SV.serial okW (sortL ordS xs)) val2) (done2 ++ [(key2, val2 key2)]) left3, Atom.ro (FamA (keysF SV.serial okW (sortL ordS xs)) (fun j => OSl 32 (val2 j) 6 encSV (grpF SV.serial okW (sortL ordS xs) j))), OSl 32 u22 6 encSV (sortL ordS xs), MapA b26 (fun n : Int => .int .i64 n) (fun n : Int => .int .i64 n) (sinM (pairsO (os))) z, Atom.ro (Cel b8 72 [.map (some b26)]), DefsA [bd]]⟩, by dsimp only; omega⟩
          ·have h11p := h11; try simp only [DL] at h11p
           refine gsr ?_
           refine gy rfl rfl rfl S (y_faddrb rfl Ffo32_1 S rfl) fun a S => ?_
           refine gy rfl rfl rfl S (y_load rfl Fsca3 S H rfl rfl) fun a S => ?_
           refine gy rfl rfl rfl S (y_faddrb rfl Ffo32_1 S rfl) fun a S => ?_
           refine gy rfl rfl rfl S (y_load rfl Fsca3 S H rfl rfl) fun a S => ?_
           refine gy rfl rfl rfl S (y_bin rfl S rfl rfl rfl) fun a S => ?_
           refine gnt ?_
           have S := (((((((((((S.nil.cons S 6 rfl).cons S 2 rfl).cons S 8 rfl).cons S 11 rfl).cons S 49 rfl).cons S 15 rfl).cons S 54 rfl).cons S 55 rfl).cons S 56 rfl).cons S 17 rfl).cons S 19 rfl).cons S 116 rfl
           refine c_if S rfl (fun h12 => ?_) (fun h12 => ?_)
           ·have h12p := h12; try simp only [DL] at h12p
            have hw1 := wayB1_d (g := pairsO os) (st := 50) hil hk1 hkj (by exact h11p) (by exact h12p)
            refine g_region ?_
            refine gy rfl rfl rfl S (y_load0 rfl S H rfl (by exact Fagg32)) fun a S => ?_
            refine gy rfl rfl rfl S (y_faddrb rfl Ffo32_0 S rfl) fun a S => ?_
            refine gy rfl rfl rfl S (y_load rfl Fsca3 S H rfl rfl) fun a S => ?_
            refine gy rfl rfl rfl S (y_faddrb rfl Ffo32_1 S rfl) fun a S => ?_
            refine gy rfl rfl rfl S (y_load rfl Fsca3 S H rfl rfl) fun a S => ?_
            refine wl_of (op_call (wn rfl) rfl rfl S (co_func rfl Tryz.call26 S rfl) (blame_spec b11 bv5 (B1 ++ (done2).flatMap (fun p : Int × Value => wayB (pairsO os) 50 (grpF SV.serial okW (sortL ordS xs) p.1)) ++ wayBs (pairsO os) 50 (grpF SV.serial okW (sortL ordS xs) key2) (j + 1) ++ staleB (pairsO os) 50 (grpF SV.serial okW (sortL ordS xs) key2)[j + 1]) 2 ((grpF SV.serial okW (sortL ordS xs) key2)[j].gate) ((grpF SV.serial okW (sortL ordS xs) key2)[j].number) (grpF SV.serial okW (sortL ordS xs) key2)[j + 1] _ (H.take [Cel b11 76 [bv5], OSl 45 bv5 6 encBV (B1 ++ (done2).flatMap (fun p : Int × Value => wayB (pairsO os) 50 (grpF SV.serial okW (sortL ordS xs) p.1)) ++ wayBs (pairsO os) 50 (grpF SV.serial okW (sortL ordS xs) key2) (j + 1) ++ staleB (pairsO os) 50 (grpF SV.serial okW (sortL ordS xs) key2)[j + 1]), Cel b17 32 (encSV (grpF SV.serial okW (sortL ordS xs) key2)[j + 1]), Sl (val2 key2) 6 encSV (grpF SV.serial okW (sortL ordS xs) key2), ItA r49 b48 (fun n : Int => .int .i64 n) (fun v : Value => v) (mvF (keysF SV.serial okW (sortL ordS xs)) val2) (done2 ++ [(key2, val2 key2)]) left3, Atom.ro (FamA (keysF SV.serial okW (sortL ordS xs)) (fun j => OSl 32 (val2 j) 6 encSV (grpF SV.serial okW (sortL ordS xs) j))), OSl 32 u22 6 encSV (sortL ordS xs), MapA b26 (fun n : Int => .int .i64 n) (fun n : Int => .int .i64 n) (sinM (pairsO (os))) z, Atom.ro (Cel b8 72 [.map (some b26)]), DefsA [bd]]) (by have h1 := hb48; have h2 := wayBs_len (pairsO os) 50 (grpF SV.serial okW (sortL ordS xs) key2) (j + 1); have h3 := staleB_len (pairsO os) 50 (grpF SV.serial okW (sortL ordS xs) key2)[j + 1]; simp only [List.length_append] at h1 ⊢; omega)) fun v w hc a S => ?_)
            obtain ⟨rfl, bv7, H⟩ := hc
            
            refine gl_nil ?_
            refine n_block ?_
            refine n_then ?_
            have S := ((((((((S.nil.cons S 6 rfl).cons S 2 rfl).cons S 8 rfl).cons S 11 rfl).cons S 49 rfl).cons S 15 rfl).cons S 54 rfl).cons S 55 rfl).cons S 56 rfl
            refine g_region ?_
            refine gy rfl rfl rfl S (y_add rfl S rfl rfl (by omega)) fun a S => ?_
            refine gm S fun a S => ?_
            refine gnt ?_
            first
            | exact ⟨(i + 1, bv), S.nil.cons S 56 rfl, (((((((S.nil.cons S 6 rfl).cons S 2 rfl).cons S 8 rfl).cons S 11 rfl).cons S 49 rfl).cons S 15 rfl).cons S 54 rfl).cons S 55 rfl, ⟨by dsimp only; omega, by dsimp only; rw [wayBs_s, hw1, List.append_nil]; exact H.take [Sl (val2 key2) 6 encSV (grpF SV.serial okW (sortL ordS xs) key2), Cel b11 76 [bv], OSl 45 bv 6 encBV (B1 ++ (done2).flatMap (fun p : Int × Value => wayB (pairsO os) 50 (grpF SV.serial okW (sortL ordS xs) p.1)) ++ wayBs (pairsO os) 50 (grpF SV.serial okW (sortL ordS xs) key2) (i)), ItA r49 b48 (fun n : Int => .int .i64 n) (fun v : Value => v) (mvF (keysF SV.serial okW (sortL ordS xs)) val2) (done2 ++ [(key2, val2 key2)]) left3, Atom.ro (FamA (keysF SV.serial okW (sortL ordS xs)) (fun j => OSl 32 (val2 j) 6 encSV (grpF SV.serial okW (sortL ordS xs) j))), OSl 32 u22 6 encSV (sortL ordS xs), MapA b26 (fun n : Int => .int .i64 n) (fun n : Int => .int .i64 n) (sinM (pairsO (os))) z, Atom.ro (Cel b8 72 [.map (some b26)]), DefsA [bd]]⟩, by dsimp only; omega⟩
            | exact ⟨(i + 1, bv5), S.nil.cons S 56 rfl, (((((((S.nil.cons S 6 rfl).cons S 2 rfl).cons S 8 rfl).cons S 11 rfl).cons S 49 rfl).cons S 15 rfl).cons S 54 rfl).cons S 55 rfl, ⟨by dsimp only; omega, by dsimp only; rw [wayBs_s, hw1, ← List.append_assoc]; exact H.take [Sl (val2 key2) 6 encSV (grpF SV.serial okW (sortL ordS xs) key2), Cel b11 76 [bv5], OSl 45 bv5 6 encBV (B1 ++ (done2).flatMap (fun p : Int × Value => wayB (pairsO os) 50 (grpF SV.serial okW (sortL ordS xs) p.1)) ++ wayBs (pairsO os) 50 (grpF SV.serial okW (sortL ordS xs) key2) (i) ++ staleB (pairsO os) 50 (grpF SV.serial okW (sortL ordS xs) key2)[i]), ItA r49 b48 (fun n : Int => .int .i64 n) (fun v : Value => v) (mvF (keysF SV.serial okW (sortL ordS xs)) val2) (done2 ++ [(key2, val2 key2)]) left3, Atom.ro (FamA (keysF SV.serial okW (sortL ordS xs)) (fun j => OSl 32 (val2 j) 6 encSV (grpF SV.serial okW (sortL ordS xs) j))), OSl 32 u22 6 encSV (sortL ordS xs), MapA b26 (fun n : Int => .int .i64 n) (fun n : Int => .int .i64 n) (sinM (pairsO (os))) z, Atom.ro (Cel b8 72 [.map (some b26)]), DefsA [bd]]⟩, by dsimp only; omega⟩
            | exact ⟨((j + 1) + 1, bv7), S.nil.cons S 56 rfl, (((((((S.nil.cons S 6 rfl).cons S 2 rfl).cons S 8 rfl).cons S 11 rfl).cons S 49 rfl).cons S 15 rfl).cons S 54 rfl).cons S 55 rfl, ⟨by dsimp only; omega, by dsimp only; rw [wayBs_s, hw1, ← List.append_assoc, ← List.append_assoc]; exact H.take [Sl (val2 key2) 6 encSV (grpF SV.serial okW (sortL ordS xs) key2), Cel b11 76 [bv7], OSl 45 bv7 6 encBV (B1 ++ (done2).flatMap (fun p : Int × Value => wayB (pairsO os) 50 (grpF SV.serial okW (sortL ordS xs) p.1)) ++ wayBs (pairsO os) 50 (grpF SV.serial okW (sortL ordS xs) key2) (j + 1) ++ staleB (pairsO os) 50 (grpF SV.serial okW (sortL ordS xs) key2)[j + 1] ++ [blameF 1 (grpF SV.serial okW (sortL ordS xs) key2)[j + 1] (grpF SV.serial okW (sortL ordS xs) key2)[j].gate (grpF SV.serial okW (sortL ordS xs) key2)[j].number]), ItA r49 b48 (fun n : Int => .int .i64 n) (fun v : Value => v) (mvF (keysF SV.serial okW (sortL ordS xs)) val2) (done2 ++ [(key2, val2 key2)]) left3, Atom.ro (FamA (keysF SV.serial okW (sortL ordS xs)) (fun j => OSl 32 (val2 j) 6 encSV (grpF SV.serial okW (sortL ordS xs) j))), OSl 32 u22 6 encSV (sortL ordS xs), MapA b26 (fun n : Int => .int .i64 n) (fun n : Int => .int .i64 n) (sinM (pairsO (os))) z, Atom.ro (Cel b8 72 [.map (some b26)]), DefsA [bd]]⟩, by dsimp only; omega⟩
            | exact ⟨((j + 1) + 1, bv7), S.nil.cons S 56 rfl, (((((((S.nil.cons S 6 rfl).cons S 2 rfl).cons S 8 rfl).cons S 11 rfl).cons S 49 rfl).cons S 15 rfl).cons S 54 rfl).cons S 55 rfl, ⟨by dsimp only; omega, by dsimp only; rw [wayBs_s, hw1, ← List.append_assoc, ← List.append_assoc]; exact H.take [Sl (val2 key2) 6 encSV (grpF SV.serial okW (sortL ordS xs) key2), Cel b11 76 [bv7], OSl 45 bv7 6 encBV (B1 ++ (done2).flatMap (fun p : Int × Value => wayB (pairsO os) 50 (grpF SV.serial okW (sortL ordS xs) p.1)) ++ wayBs (pairsO os) 50 (grpF SV.serial okW (sortL ordS xs) key2) (j + 1) ++ staleB (pairsO os) 50 (grpF SV.serial okW (sortL ordS xs) key2)[j + 1] ++ [blameF 2 (grpF SV.serial okW (sortL ordS xs) key2)[j + 1] (grpF SV.serial okW (sortL ordS xs) key2)[j].gate (grpF SV.serial okW (sortL ordS xs) key2)[j].number]), ItA r49 b48 (fun n : Int => .int .i64 n) (fun v : Value => v) (mvF (keysF SV.serial okW (sortL ordS xs)) val2) (done2 ++ [(key2, val2 key2)]) left3, Atom.ro (FamA (keysF SV.serial okW (sortL ordS xs)) (fun j => OSl 32 (val2 j) 6 encSV (grpF SV.serial okW (sortL ordS xs) j))), OSl 32 u22 6 encSV (sortL ordS xs), MapA b26 (fun n : Int => .int .i64 n) (fun n : Int => .int .i64 n) (sinM (pairsO (os))) z, Atom.ro (Cel b8 72 [.map (some b26)]), DefsA [bd]]⟩, by dsimp only; omega⟩
            | exact ⟨((j + 1) + 1, bv5), S.nil.cons S 56 rfl, (((((((S.nil.cons S 6 rfl).cons S 2 rfl).cons S 8 rfl).cons S 11 rfl).cons S 49 rfl).cons S 15 rfl).cons S 54 rfl).cons S 55 rfl, ⟨by dsimp only; omega, by dsimp only; rw [wayBs_s, hw1, ← List.append_assoc]; exact H.take [Sl (val2 key2) 6 encSV (grpF SV.serial okW (sortL ordS xs) key2), Cel b11 76 [bv5], OSl 45 bv5 6 encBV (B1 ++ (done2).flatMap (fun p : Int × Value => wayB (pairsO os) 50 (grpF SV.serial okW (sortL ordS xs) p.1)) ++ wayBs (pairsO os) 50 (grpF SV.serial okW (sortL ordS xs) key2) (j + 1) ++ staleB (pairsO os) 50 (grpF SV.serial okW (sortL ordS xs) key2)[j + 1]), ItA r49 b48 (fun n : Int => .int .i64 n) (fun v : Value => v) (mvF (keysF SV.serial okW (sortL ordS xs)) val2) (done2 ++ [(key2, val2 key2)]) left3, Atom.ro (FamA (keysF SV.serial okW (sortL ordS xs)) (fun j => OSl 32 (val2 j) 6 encSV (grpF SV.serial okW (sortL ordS xs) j))), OSl 32 u22 6 encSV (sortL ordS xs), MapA b26 (fun n : Int => .int .i64 n) (fun n : Int => .int .i64 n) (sinM (pairsO (os))) z, Atom.ro (Cel b8 72 [.map (some b26)]), DefsA [bd]]⟩, by dsimp only; omega⟩
           ·have h12p := h12; try simp only [DL] at h12p
            have hw1 := wayB1_e (g := pairsO os) (st := 50) hil hk1 hkj (by exact h11p) (by exact h12p)
            refine g_skip ?_
            refine n_block ?_
            refine n_then ?_
            refine g_region ?_
            refine gy rfl rfl rfl S (y_add rfl S rfl rfl (by omega)) fun a S => ?_
            refine gm S fun a S => ?_
            refine gnt ?_
            first
            | exact ⟨(i + 1, bv), S.nil.cons S 56 rfl, (((((((S.nil.cons S 6 rfl).cons S 2 rfl).cons S 8 rfl).cons S 11 rfl).cons S 49 rfl).cons S 15 rfl).cons S 54 rfl).cons S 55 rfl, ⟨by dsimp only; omega, by dsimp only; rw [wayBs_s, hw1, List.append_nil]; exact H.take [Sl (val2 key2) 6 encSV (grpF SV.serial okW (sortL ordS xs) key2), Cel b11 76 [bv], OSl 45 bv 6 encBV (B1 ++ (done2).flatMap (fun p : Int × Value => wayB (pairsO os) 50 (grpF SV.serial okW (sortL ordS xs) p.1)) ++ wayBs (pairsO os) 50 (grpF SV.serial okW (sortL ordS xs) key2) (i)), ItA r49 b48 (fun n : Int => .int .i64 n) (fun v : Value => v) (mvF (keysF SV.serial okW (sortL ordS xs)) val2) (done2 ++ [(key2, val2 key2)]) left3, Atom.ro (FamA (keysF SV.serial okW (sortL ordS xs)) (fun j => OSl 32 (val2 j) 6 encSV (grpF SV.serial okW (sortL ordS xs) j))), OSl 32 u22 6 encSV (sortL ordS xs), MapA b26 (fun n : Int => .int .i64 n) (fun n : Int => .int .i64 n) (sinM (pairsO (os))) z, Atom.ro (Cel b8 72 [.map (some b26)]), DefsA [bd]]⟩, by dsimp only; omega⟩
            | exact ⟨(i + 1, bv5), S.nil.cons S 56 rfl, (((((((S.nil.cons S 6 rfl).cons S 2 rfl).cons S 8 rfl).cons S 11 rfl).cons S 49 rfl).cons S 15 rfl).cons S 54 rfl).cons S 55 rfl, ⟨by dsimp only; omega, by dsimp only; rw [wayBs_s, hw1, ← List.append_assoc]; exact H.take [Sl (val2 key2) 6 encSV (grpF SV.serial okW (sortL ordS xs) key2), Cel b11 76 [bv5], OSl 45 bv5 6 encBV (B1 ++ (done2).flatMap (fun p : Int × Value => wayB (pairsO os) 50 (grpF SV.serial okW (sortL ordS xs) p.1)) ++ wayBs (pairsO os) 50 (grpF SV.serial okW (sortL ordS xs) key2) (i) ++ staleB (pairsO os) 50 (grpF SV.serial okW (sortL ordS xs) key2)[i]), ItA r49 b48 (fun n : Int => .int .i64 n) (fun v : Value => v) (mvF (keysF SV.serial okW (sortL ordS xs)) val2) (done2 ++ [(key2, val2 key2)]) left3, Atom.ro (FamA (keysF SV.serial okW (sortL ordS xs)) (fun j => OSl 32 (val2 j) 6 encSV (grpF SV.serial okW (sortL ordS xs) j))), OSl 32 u22 6 encSV (sortL ordS xs), MapA b26 (fun n : Int => .int .i64 n) (fun n : Int => .int .i64 n) (sinM (pairsO (os))) z, Atom.ro (Cel b8 72 [.map (some b26)]), DefsA [bd]]⟩, by dsimp only; omega⟩
            | exact ⟨((j + 1) + 1, bv7), S.nil.cons S 56 rfl, (((((((S.nil.cons S 6 rfl).cons S 2 rfl).cons S 8 rfl).cons S 11 rfl).cons S 49 rfl).cons S 15 rfl).cons S 54 rfl).cons S 55 rfl, ⟨by dsimp only; omega, by dsimp only; rw [wayBs_s, hw1, ← List.append_assoc, ← List.append_assoc]; exact H.take [Sl (val2 key2) 6 encSV (grpF SV.serial okW (sortL ordS xs) key2), Cel b11 76 [bv7], OSl 45 bv7 6 encBV (B1 ++ (done2).flatMap (fun p : Int × Value => wayB (pairsO os) 50 (grpF SV.serial okW (sortL ordS xs) p.1)) ++ wayBs (pairsO os) 50 (grpF SV.serial okW (sortL ordS xs) key2) (j + 1) ++ staleB (pairsO os) 50 (grpF SV.serial okW (sortL ordS xs) key2)[j + 1] ++ [blameF 1 (grpF SV.serial okW (sortL ordS xs) key2)[j + 1] (grpF SV.serial okW (sortL ordS xs) key2)[j].gate (grpF SV.serial okW (sortL ordS xs) key2)[j].number]), ItA r49 b48 (fun n : Int => .int .i64 n) (fun v : Value => v) (mvF (keysF SV.serial okW (sortL ordS xs)) val2) (done2 ++ [(key2, val2 key2)]) left3, Atom.ro (FamA (keysF SV.serial okW (sortL ordS xs)) (fun j => OSl 32 (val2 j) 6 encSV (grpF SV.serial okW (sortL ordS xs) j))), OSl 32 u22 6 encSV (sortL ordS xs), MapA b26 (fun n : Int => .int .i64 n) (fun n : Int => .int .i64 n) (sinM (pairsO (os))) z, Atom.ro (Cel b8 72 [.map (some b26)]), DefsA [bd]]⟩, by dsimp only; omega⟩
            | exact ⟨((j + 1) + 1, bv7), S.nil.cons S 56 rfl, (((((((S.nil.cons S 6 rfl).cons S 2 rfl).cons S 8 rfl).cons S 11 rfl).cons S 49 rfl).cons S 15 rfl).cons S 54 rfl).cons S 55 rfl, ⟨by dsimp only; omega, by dsimp only; rw [wayBs_s, hw1, ← List.append_assoc, ← List.append_assoc]; exact H.take [Sl (val2 key2) 6 encSV (grpF SV.serial okW (sortL ordS xs) key2), Cel b11 76 [bv7], OSl 45 bv7 6 encBV (B1 ++ (done2).flatMap (fun p : Int × Value => wayB (pairsO os) 50 (grpF SV.serial okW (sortL ordS xs) p.1)) ++ wayBs (pairsO os) 50 (grpF SV.serial okW (sortL ordS xs) key2) (j + 1) ++ staleB (pairsO os) 50 (grpF SV.serial okW (sortL ordS xs) key2)[j + 1] ++ [blameF 2 (grpF SV.serial okW (sortL ordS xs) key2)[j + 1] (grpF SV.serial okW (sortL ordS xs) key2)[j].gate (grpF SV.serial okW (sortL ordS xs) key2)[j].number]), ItA r49 b48 (fun n : Int => .int .i64 n) (fun v : Value => v) (mvF (keysF SV.serial okW (sortL ordS xs)) val2) (done2 ++ [(key2, val2 key2)]) left3, Atom.ro (FamA (keysF SV.serial okW (sortL ordS xs)) (fun j => OSl 32 (val2 j) 6 encSV (grpF SV.serial okW (sortL ordS xs) j))), OSl 32 u22 6 encSV (sortL ordS xs), MapA b26 (fun n : Int => .int .i64 n) (fun n : Int => .int .i64 n) (sinM (pairsO (os))) z, Atom.ro (Cel b8 72 [.map (some b26)]), DefsA [bd]]⟩, by dsimp only; omega⟩
            | exact ⟨((j + 1) + 1, bv5), S.nil.cons S 56 rfl, (((((((S.nil.cons S 6 rfl).cons S 2 rfl).cons S 8 rfl).cons S 11 rfl).cons S 49 rfl).cons S 15 rfl).cons S 54 rfl).cons S 55 rfl, ⟨by dsimp only; omega, by dsimp only; rw [wayBs_s, hw1, ← List.append_assoc]; exact H.take [Sl (val2 key2) 6 encSV (grpF SV.serial okW (sortL ordS xs) key2), Cel b11 76 [bv5], OSl 45 bv5 6 encBV (B1 ++ (done2).flatMap (fun p : Int × Value => wayB (pairsO os) 50 (grpF SV.serial okW (sortL ordS xs) p.1)) ++ wayBs (pairsO os) 50 (grpF SV.serial okW (sortL ordS xs) key2) (j + 1) ++ staleB (pairsO os) 50 (grpF SV.serial okW (sortL ordS xs) key2)[j + 1]), ItA r49 b48 (fun n : Int => .int .i64 n) (fun v : Value => v) (mvF (keysF SV.serial okW (sortL ordS xs)) val2) (done2 ++ [(key2, val2 key2)]) left3, Atom.ro (FamA (keysF SV.serial okW (sortL ordS xs)) (fun j => OSl 32 (val2 j) 6 encSV (grpF SV.serial okW (sortL ordS xs) j))), OSl 32 u22 6 encSV (sortL ordS xs), MapA b26 (fun n : Int => .int .i64 n) (fun n : Int => .int .i64 n) (sinM (pairsO (os))) z, Atom.ro (Cel b8 72 [.map (some b26)]), DefsA [bd]]⟩, by dsimp only; omega⟩
        ·have h8p := h8; try simp only [DL] at h8p
         have hst : staleB (pairsO os) 50 (grpF SV.serial okW (sortL ordS xs) key2)[i] = [] := by
           have h := h8p
           unfold staleB; rw [if_neg (by omega)]
         obtain ⟨bv5, rfl⟩ : ∃ b, b = bv := ⟨_, rfl⟩
         rw [show B1 ++ (done2).flatMap (fun p : Int × Value => wayB (pairsO os) 50 (grpF SV.serial okW (sortL ordS xs) p.1)) ++ wayBs (pairsO os) 50 (grpF SV.serial okW (sortL ordS xs) key2) (i) = B1 ++ (done2).flatMap (fun p : Int × Value => wayB (pairsO os) 50 (grpF SV.serial okW (sortL ordS xs) p.1)) ++ wayBs (pairsO os) 50 (grpF SV.serial okW (sortL ordS xs) key2) (i) ++ staleB (pairsO os) 50 (grpF SV.serial okW (sortL ordS xs) key2)[i] from by rw [hst, List.append_nil]] at H
         refine g_skip ?_
         refine n_then ?_
         refine g_seq ?_
         refine gsr ?_
         refine gm S fun a S => ?_
         refine gy rfl rfl rfl S (y_bin rfl S rfl rfl rfl) fun a S => ?_
         refine gm S fun a S => ?_
         refine' wl_or 7 87 rfl S H rfl rfl rfl rfl rfl rfl rfl (fun _ S => (wn rfl)) (fun h13 kk => ?yh13) (fun a w S H => ?_)
         case yh13 =>
          have h13p := h13; try simp only [DL] at h13p
          refine gz 87 h13 S rfl rfl rfl rfl rfl rfl (y_move rfl S rfl) fun a S => ?_
          refine gz 87 h13 S rfl rfl rfl rfl rfl rfl (y_move rfl S rfl) fun a S => ?_
          refine gz 87 h13 S rfl rfl rfl rfl rfl rfl (y_sub rfl S rfl rfl (by omega)) fun a S => ?_
          refine gz 87 h13 S rfl rfl rfl rfl rfl rfl (y_iaddrs rfl Tryz.underlying29 Fsiz32 S H rfl rfl (by first | assumption | omega | (simp only [LL]; omega))) fun a S => ?_
          refine gz 87 h13 S rfl rfl rfl rfl rfl rfl (y_faddr rfl Ffo32_4 S rfl) fun a S => ?_
          refine gz 87 h13 S rfl rfl rfl rfl rfl rfl (y_loadsf _ rfl Fsca3 S H rfl (by first | assumption | omega | (simp only [LL]; omega)) rfl) fun a S => ?_
          refine gz 87 h13 S rfl rfl rfl rfl rfl rfl (y_bin rfl S rfl rfl rfl) fun a S => ?_
          refine gy rfl rfl rfl S (y_or' rfl h13 S rfl rfl) fun a S => ?_
          exact kk _ _ (S.join 8 95 rfl rfl) H
         refine gnt ?_
         have S := (((((((((((S.nil.cons S 6 rfl).cons S 2 rfl).cons S 8 rfl).cons S 11 rfl).cons S 49 rfl).cons S 15 rfl).cons S 54 rfl).cons S 55 rfl).cons S 56 rfl).cons S 17 rfl).cons S 16 rfl).cons S 95 rfl
         refine c_if S rfl (fun h14 => ?_) (fun h14 => ?_)
         ·have h14p := h14; try simp only [DL] at h14p
          have hw1 : wayB1 (pairsO os) 50 (grpF SV.serial okW (sortL ordS xs) key2) i = staleB (pairsO os) 50 (grpF SV.serial okW (sortL ordS xs) key2)[i] := wayB1_b hil hk1 (by
            rcases h14p with h | h
            · exact .inl (by omega)
            · by_cases h0 : i = 0
              · exact .inl h0
              · refine .inr ⟨i - 1, by omega, by omega, ?_⟩
                have e : ((i : Int) - 1).toNat = i - 1 := by omega
                simp only [e] at h
                exact h)
          refine g_exit ?_
          refine x_then (x_eq ?_)
          refine n_then ?_
          refine g_region ?_
          refine gy rfl rfl rfl S (y_add rfl S rfl rfl (by omega)) fun a S => ?_
          refine gm S fun a S => ?_
          refine gnt ?_
          first
          | exact ⟨(i + 1, bv), S.nil.cons S 56 rfl, (((((((S.nil.cons S 6 rfl).cons S 2 rfl).cons S 8 rfl).cons S 11 rfl).cons S 49 rfl).cons S 15 rfl).cons S 54 rfl).cons S 55 rfl, ⟨by dsimp only; omega, by dsimp only; rw [wayBs_s, hw1, List.append_nil]; exact H.take [Sl (val2 key2) 6 encSV (grpF SV.serial okW (sortL ordS xs) key2), Cel b11 76 [bv], OSl 45 bv 6 encBV (B1 ++ (done2).flatMap (fun p : Int × Value => wayB (pairsO os) 50 (grpF SV.serial okW (sortL ordS xs) p.1)) ++ wayBs (pairsO os) 50 (grpF SV.serial okW (sortL ordS xs) key2) (i)), ItA r49 b48 (fun n : Int => .int .i64 n) (fun v : Value => v) (mvF (keysF SV.serial okW (sortL ordS xs)) val2) (done2 ++ [(key2, val2 key2)]) left3, Atom.ro (FamA (keysF SV.serial okW (sortL ordS xs)) (fun j => OSl 32 (val2 j) 6 encSV (grpF SV.serial okW (sortL ordS xs) j))), OSl 32 u22 6 encSV (sortL ordS xs), MapA b26 (fun n : Int => .int .i64 n) (fun n : Int => .int .i64 n) (sinM (pairsO (os))) z, Atom.ro (Cel b8 72 [.map (some b26)]), DefsA [bd]]⟩, by dsimp only; omega⟩
          | exact ⟨(i + 1, bv5), S.nil.cons S 56 rfl, (((((((S.nil.cons S 6 rfl).cons S 2 rfl).cons S 8 rfl).cons S 11 rfl).cons S 49 rfl).cons S 15 rfl).cons S 54 rfl).cons S 55 rfl, ⟨by dsimp only; omega, by dsimp only; rw [wayBs_s, hw1, ← List.append_assoc]; exact H.take [Sl (val2 key2) 6 encSV (grpF SV.serial okW (sortL ordS xs) key2), Cel b11 76 [bv5], OSl 45 bv5 6 encBV (B1 ++ (done2).flatMap (fun p : Int × Value => wayB (pairsO os) 50 (grpF SV.serial okW (sortL ordS xs) p.1)) ++ wayBs (pairsO os) 50 (grpF SV.serial okW (sortL ordS xs) key2) (i) ++ staleB (pairsO os) 50 (grpF SV.serial okW (sortL ordS xs) key2)[i]), ItA r49 b48 (fun n : Int => .int .i64 n) (fun v : Value => v) (mvF (keysF SV.serial okW (sortL ordS xs)) val2) (done2 ++ [(key2, val2 key2)]) left3, Atom.ro (FamA (keysF SV.serial okW (sortL ordS xs)) (fun j => OSl 32 (val2 j) 6 encSV (grpF SV.serial okW (sortL ordS xs) j))), OSl 32 u22 6 encSV (sortL ordS xs), MapA b26 (fun n : Int => .int .i64 n) (fun n : Int => .int .i64 n) (sinM (pairsO (os))) z, Atom.ro (Cel b8 72 [.map (some b26)]), DefsA [bd]]⟩, by dsimp only; omega⟩
          | exact ⟨((j + 1) + 1, bv7), S.nil.cons S 56 rfl, (((((((S.nil.cons S 6 rfl).cons S 2 rfl).cons S 8 rfl).cons S 11 rfl).cons S 49 rfl).cons S 15 rfl).cons S 54 rfl).cons S 55 rfl, ⟨by dsimp only; omega, by dsimp only; rw [wayBs_s, hw1, ← List.append_assoc, ← List.append_assoc]; exact H.take [Sl (val2 key2) 6 encSV (grpF SV.serial okW (sortL ordS xs) key2), Cel b11 76 [bv7], OSl 45 bv7 6 encBV (B1 ++ (done2).flatMap (fun p : Int × Value => wayB (pairsO os) 50 (grpF SV.serial okW (sortL ordS xs) p.1)) ++ wayBs (pairsO os) 50 (grpF SV.serial okW (sortL ordS xs) key2) (j + 1) ++ staleB (pairsO os) 50 (grpF SV.serial okW (sortL ordS xs) key2)[j + 1] ++ [blameF 1 (grpF SV.serial okW (sortL ordS xs) key2)[j + 1] (grpF SV.serial okW (sortL ordS xs) key2)[j].gate (grpF SV.serial okW (sortL ordS xs) key2)[j].number]), ItA r49 b48 (fun n : Int => .int .i64 n) (fun v : Value => v) (mvF (keysF SV.serial okW (sortL ordS xs)) val2) (done2 ++ [(key2, val2 key2)]) left3, Atom.ro (FamA (keysF SV.serial okW (sortL ordS xs)) (fun j => OSl 32 (val2 j) 6 encSV (grpF SV.serial okW (sortL ordS xs) j))), OSl 32 u22 6 encSV (sortL ordS xs), MapA b26 (fun n : Int => .int .i64 n) (fun n : Int => .int .i64 n) (sinM (pairsO (os))) z, Atom.ro (Cel b8 72 [.map (some b26)]), DefsA [bd]]⟩, by dsimp only; omega⟩
          | exact ⟨((j + 1) + 1, bv7), S.nil.cons S 56 rfl, (((((((S.nil.cons S 6 rfl).cons S 2 rfl).cons S 8 rfl).cons S 11 rfl).cons S 49 rfl).cons S 15 rfl).cons S 54 rfl).cons S 55 rfl, ⟨by dsimp only; omega, by dsimp only; rw [wayBs_s, hw1, ← List.append_assoc, ← List.append_assoc]; exact H.take [Sl (val2 key2) 6 encSV (grpF SV.serial okW (sortL ordS xs) key2), Cel b11 76 [bv7], OSl 45 bv7 6 encBV (B1 ++ (done2).flatMap (fun p : Int × Value => wayB (pairsO os) 50 (grpF SV.serial okW (sortL ordS xs) p.1)) ++ wayBs (pairsO os) 50 (grpF SV.serial okW (sortL ordS xs) key2) (j + 1) ++ staleB (pairsO os) 50 (grpF SV.serial okW (sortL ordS xs) key2)[j + 1] ++ [blameF 2 (grpF SV.serial okW (sortL ordS xs) key2)[j + 1] (grpF SV.serial okW (sortL ordS xs) key2)[j].gate (grpF SV.serial okW (sortL ordS xs) key2)[j].number]), ItA r49 b48 (fun n : Int => .int .i64 n) (fun v : Value => v) (mvF (keysF SV.serial okW (sortL ordS xs)) val2) (done2 ++ [(key2, val2 key2)]) left3, Atom.ro (FamA (keysF SV.serial okW (sortL ordS xs)) (fun j => OSl 32 (val2 j) 6 encSV (grpF SV.serial okW (sortL ordS xs) j))), OSl 32 u22 6 encSV (sortL ordS xs), MapA b26 (fun n : Int => .int .i64 n) (fun n : Int => .int .i64 n) (sinM (pairsO (os))) z, Atom.ro (Cel b8 72 [.map (some b26)]), DefsA [bd]]⟩, by dsimp only; omega⟩
          | exact ⟨((j + 1) + 1, bv5), S.nil.cons S 56 rfl, (((((((S.nil.cons S 6 rfl).cons S 2 rfl).cons S 8 rfl).cons S 11 rfl).cons S 49 rfl).cons S 15 rfl).cons S 54 rfl).cons S 55 rfl, ⟨by dsimp only; omega, by dsimp only; rw [wayBs_s, hw1, ← List.append_assoc]; exact H.take [Sl (val2 key2) 6 encSV (grpF SV.serial okW (sortL ordS xs) key2), Cel b11 76 [bv5], OSl 45 bv5 6 encBV (B1 ++ (done2).flatMap (fun p : Int × Value => wayB (pairsO os) 50 (grpF SV.serial okW (sortL ordS xs) p.1)) ++ wayBs (pairsO os) 50 (grpF SV.serial okW (sortL ordS xs) key2) (j + 1) ++ staleB (pairsO os) 50 (grpF SV.serial okW (sortL ordS xs) key2)[j + 1]), ItA r49 b48 (fun n : Int => .int .i64 n) (fun v : Value => v) (mvF (keysF SV.serial okW (sortL ordS xs)) val2) (done2 ++ [(key2, val2 key2)]) left3, Atom.ro (FamA (keysF SV.serial okW (sortL ordS xs)) (fun j => OSl 32 (val2 j) 6 encSV (grpF SV.serial okW (sortL ordS xs) j))), OSl 32 u22 6 encSV (sortL ordS xs), MapA b26 (fun n : Int => .int .i64 n) (fun n : Int => .int .i64 n) (sinM (pairsO (os))) z, Atom.ro (Cel b8 72 [.map (some b26)]), DefsA [bd]]⟩, by dsimp only; omega⟩
         ·have h14p := h14; try simp only [DL] at h14p
          have h6 := h14p
          obtain ⟨j, rfl⟩ : ∃ j, i = j + 1 := ⟨i - 1, by omega⟩
          have hkj : (grpF SV.serial okW (sortL ordS xs) key2)[j].kind = 1 := by
            have h := h6.2
            have e : (((j + 1 : Nat) : Int) - 1).toNat = j := by omega
            simp only [e] at h
            exact h
          refine g_skip ?_
          refine n_then ?_
          refine gsr ?_
          refine gm S fun a S => ?_
          refine gm S fun a S => ?_
          refine gy rfl rfl rfl S ((y_subn (p := j + 1) (q := 1) (m := j) rfl S rfl rfl (by omega) (by omega))) fun a S => ?_
          refine gy rfl rfl rfl S (y_iaddrn rfl Tryz.underlying29 Fsiz32 S H rfl rfl (by first | assumption | omega | (simp only [LL]; omega))) fun a S => ?_
          refine gy rfl rfl rfl S (y_loadsa _ rfl S H rfl (by exact Fagg32) (by first | assumption | omega | (simp only [LL]; omega))) fun a S => ?_
          refine wl_of (op_alloc (wn rfl) rfl rfl rfl S H Fzer32 fun b19 a w S H => ?_)
          refine wl_of (op_storea (wn rfl) rfl rfl S H rfl rfl rfl Fsiz32 rfl (cs' := encSV (grpF SV.serial okW (sortL ordS xs) key2)[j]) rfl fun a w S H => ?_)
          refine gnt ?_
          have S := ((((((((((S.nil.cons S 6 rfl).cons S 2 rfl).cons S 8 rfl).cons S 11 rfl).cons S 49 rfl).cons S 15 rfl).cons S 54 rfl).cons S 55 rfl).cons S 56 rfl).cons S 17 rfl).cons S 19 rfl
          refine gsr ?_
          refine gy rfl rfl rfl S (y_faddrb rfl Ffo32_0 S rfl) fun a S => ?_
          refine gy rfl rfl rfl S (y_load rfl Fsca3 S H rfl rfl) fun a S => ?_
          refine gy rfl rfl rfl S (y_faddrb rfl Ffo32_0 S rfl) fun a S => ?_
          refine gy rfl rfl rfl S (y_load rfl Fsca3 S H rfl rfl) fun a S => ?_
          refine gy rfl rfl rfl S (y_bin rfl S rfl rfl rfl) fun a S => ?_
          refine gnt ?_
          have S := (((((((((((S.nil.cons S 6 rfl).cons S 2 rfl).cons S 8 rfl).cons S 11 rfl).cons S 49 rfl).cons S 15 rfl).cons S 54 rfl).cons S 55 rfl).cons S 56 rfl).cons S 17 rfl).cons S 19 rfl).cons S 105 rfl
          refine c_if S rfl (fun h15 => ?_) (fun h15 => ?_)
          ·have h15p := h15; try simp only [DL] at h15p
           have hw1 := wayB1_c (g := pairsO os) (st := 50) hil hk1 hkj (by exact h15p)
           refine g_region ?_
           refine gy rfl rfl rfl S (y_load0 rfl S H rfl (by exact Fagg32)) fun a S => ?_
           refine gy rfl rfl rfl S (y_faddrb rfl Ffo32_0 S rfl) fun a S => ?_
           refine gy rfl rfl rfl S (y_load rfl Fsca3 S H rfl rfl) fun a S => ?_
           refine gy rfl rfl rfl S (y_faddrb rfl Ffo32_1 S rfl) fun a S => ?_
           refine gy rfl rfl rfl S (y_load rfl Fsca3 S H rfl rfl) fun a S => ?_
           refine wl_of (op_call (wn rfl) rfl rfl S (co_func rfl Tryz.call26 S rfl) (blame_spec b11 bv5 (B1 ++ (done2).flatMap (fun p : Int × Value => wayB (pairsO os) 50 (grpF SV.serial okW (sortL ordS xs) p.1)) ++ wayBs (pairsO os) 50 (grpF SV.serial okW (sortL ordS xs) key2) (j + 1) ++ staleB (pairsO os) 50 (grpF SV.serial okW (sortL ordS xs) key2)[j + 1]) 1 ((grpF SV.serial okW (sortL ordS xs) key2)[j].gate) ((grpF SV.serial okW (sortL ordS xs) key2)[j].number) (grpF SV.serial okW (sortL ordS xs) key2)[j + 1] _ (H.take [Cel b11 76 [bv5], OSl 45 bv5 6 encBV (B1 ++ (done2).flatMap (fun p : Int × Value => wayB (pairsO os) 50 (grpF SV.serial okW (sortL ordS xs) p.1)) ++ wayBs (pairsO os) 50 (grpF SV.serial okW (sortL ordS xs) key2) (j + 1) ++ staleB (pairsO os) 50 (grpF SV.serial okW (sortL ordS xs) key2)[j + 1]), Cel b17 32 (encSV (grpF SV.serial okW (sortL ordS xs) key2)[j + 1]), Sl (val2 key2) 6 encSV (grpF SV.serial okW (sortL ordS xs) key2), ItA r49 b48 (fun n : Int => .int .i64 n) (fun v : Value => v) (mvF (keysF SV.serial okW (sortL ordS xs)) val2) (done2 ++ [(key2, val2 key2)]) left3, Atom.ro (FamA (keysF SV.serial okW (sortL ordS xs)) (fun j => OSl 32 (val2 j) 6 encSV (grpF SV.serial okW (sortL ordS xs) j))), OSl 32 u22 6 encSV (sortL ordS xs), MapA b26 (fun n : Int => .int .i64 n) (fun n : Int => .int .i64 n) (sinM (pairsO (os))) z, Atom.ro (Cel b8 72 [.map (some b26)]), DefsA [bd]]) (by have h1 := hb48; have h2 := wayBs_len (pairsO os) 50 (grpF SV.serial okW (sortL ordS xs) key2) (j + 1); have h3 := staleB_len (pairsO os) 50 (grpF SV.serial okW (sortL ordS xs) key2)[j + 1]; simp only [List.length_append] at h1 ⊢; omega)) fun v w hc a S => ?_)
           obtain ⟨rfl, bv7, H⟩ := hc
           
           refine gl_nil ?_
           refine n_block ?_
           refine n_then ?_
           have S := ((((((((S.nil.cons S 6 rfl).cons S 2 rfl).cons S 8 rfl).cons S 11 rfl).cons S 49 rfl).cons S 15 rfl).cons S 54 rfl).cons S 55 rfl).cons S 56 rfl
           refine g_region ?_
           refine gy rfl rfl rfl S (y_add rfl S rfl rfl (by omega)) fun a S => ?_
           refine gm S fun a S => ?_
           refine gnt ?_
           first
           | exact ⟨(i + 1, bv), S.nil.cons S 56 rfl, (((((((S.nil.cons S 6 rfl).cons S 2 rfl).cons S 8 rfl).cons S 11 rfl).cons S 49 rfl).cons S 15 rfl).cons S 54 rfl).cons S 55 rfl, ⟨by dsimp only; omega, by dsimp only; rw [wayBs_s, hw1, List.append_nil]; exact H.take [Sl (val2 key2) 6 encSV (grpF SV.serial okW (sortL ordS xs) key2), Cel b11 76 [bv], OSl 45 bv 6 encBV (B1 ++ (done2).flatMap (fun p : Int × Value => wayB (pairsO os) 50 (grpF SV.serial okW (sortL ordS xs) p.1)) ++ wayBs (pairsO os) 50 (grpF SV.serial okW (sortL ordS xs) key2) (i)), ItA r49 b48 (fun n : Int => .int .i64 n) (fun v : Value => v) (mvF (keysF SV.serial okW (sortL ordS xs)) val2) (done2 ++ [(key2, val2 key2)]) left3, Atom.ro (FamA (keysF SV.serial okW (sortL ordS xs)) (fun j => OSl 32 (val2 j) 6 encSV (grpF SV.serial okW (sortL ordS xs) j))), OSl 32 u22 6 encSV (sortL ordS xs), MapA b26 (fun n : Int => .int .i64 n) (fun n : Int => .int .i64 n) (sinM (pairsO (os))) z, Atom.ro (Cel b8 72 [.map (some b26)]), DefsA [bd]]⟩, by dsimp only; omega⟩
           | exact ⟨(i + 1, bv5), S.nil.cons S 56 rfl, (((((((S.nil.cons S 6 rfl).cons S 2 rfl).cons S 8 rfl).cons S 11 rfl).cons S 49 rfl).cons S 15 rfl).cons S 54 rfl).cons S 55 rfl, ⟨by dsimp only; omega, by dsimp only; rw [wayBs_s, hw1, ← List.append_assoc]; exact H.take [Sl (val2 key2) 6 encSV (grpF SV.serial okW (sortL ordS xs) key2), Cel b11 76 [bv5], OSl 45 bv5 6 encBV (B1 ++ (done2).flatMap (fun p : Int × Value => wayB (pairsO os) 50 (grpF SV.serial okW (sortL ordS xs) p.1)) ++ wayBs (pairsO os) 50 (grpF SV.serial okW (sortL ordS xs) key2) (i) ++ staleB (pairsO os) 50 (grpF SV.serial okW (sortL ordS xs) key2)[i]), ItA r49 b48 (fun n : Int => .int .i64 n) (fun v : Value => v) (mvF (keysF SV.serial okW (sortL ordS xs)) val2) (done2 ++ [(key2, val2 key2)]) left3, Atom.ro (FamA (keysF SV.serial okW (sortL ordS xs)) (fun j => OSl 32 (val2 j) 6 encSV (grpF SV.serial okW (sortL ordS xs) j))), OSl 32 u22 6 encSV (sortL ordS xs), MapA b26 (fun n : Int => .int .i64 n) (fun n : Int => .int .i64 n) (sinM (pairsO (os))) z, Atom.ro (Cel b8 72 [.map (some b26)]), DefsA [bd]]⟩, by dsimp only; omega⟩
           | exact ⟨((j + 1) + 1, bv7), S.nil.cons S 56 rfl, (((((((S.nil.cons S 6 rfl).cons S 2 rfl).cons S 8 rfl).cons S 11 rfl).cons S 49 rfl).cons S 15 rfl).cons S 54 rfl).cons S 55 rfl, ⟨by dsimp only; omega, by dsimp only; rw [wayBs_s, hw1, ← List.append_assoc, ← List.append_assoc]; exact H.take [Sl (val2 key2) 6 encSV (grpF SV.serial okW (sortL ordS xs) key2), Cel b11 76 [bv7], OSl 45 bv7 6 encBV (B1 ++ (done2).flatMap (fun p : Int × Value => wayB (pairsO os) 50 (grpF SV.serial okW (sortL ordS xs) p.1)) ++ wayBs (pairsO os) 50 (grpF SV.serial okW (sortL ordS xs) key2) (j + 1) ++ staleB (pairsO os) 50 (grpF SV.serial okW (sortL ordS xs) key2)[j + 1] ++ [blameF 1 (grpF SV.serial okW (sortL ordS xs) key2)[j + 1] (grpF SV.serial okW (sortL ordS xs) key2)[j].gate (grpF SV.serial okW (sortL ordS xs) key2)[j].number]), ItA r49 b48 (fun n : Int => .int .i64 n) (fun v : Value => v) (mvF (keysF SV.serial okW (sortL ordS xs)) val2) (done2 ++ [(key2, val2 key2)]) left3, Atom.ro (FamA (keysF SV.serial okW (sortL ordS xs)) (fun j => OSl 32 (val2 j) 6 encSV (grpF SV.serial okW (sortL ordS xs) j))), OSl 32 u22 6 encSV (sortL ordS xs), MapA b26 (fun n : Int => .int .i64 n) (fun n : Int => .int .i64 n) (sinM (pairsO (os))) z, Atom.ro (Cel b8 72 [.map (some b26)]), DefsA [bd]]⟩, by dsimp only; omega⟩
           | exact ⟨((j + 1) + 1, bv7), S.nil.cons S 56 rfl, (((((((S.nil.cons S 6 rfl).cons S 2 rfl).cons S 8 rfl).cons S 11 rfl).cons S 49 rfl).cons S 15 rfl).cons S 54 rfl).cons S 55 rfl, ⟨by dsimp only; omega, by dsimp only; rw [wayBs_s, hw1, ← List.append_assoc, ← List.append_assoc]; exact H.take [Sl (val2 key2) 6 encSV (grpF SV.serial okW (sortL ordS xs) key2), Cel b11 76 [bv7], OSl 45 bv7 6 encBV (B1 ++ (done2).flatMap (fun p : Int × Value => wayB (pairsO os) 50 (grpF SV.serial okW (sortL ordS xs) p.1)) ++ wayBs (pairsO os) 50 (grpF SV.serial okW (sortL ordS xs) key2) (j + 1) ++ staleB (pairsO os) 50 (grpF SV.serial okW (sortL ordS xs) key2)[j + 1] ++ [blameF 2 (grpF SV.serial okW (sortL ordS xs) key2)[j + 1] (grpF SV.serial okW (sortL ordS xs) key2)[j].gate (grpF SV.serial okW (sortL ordS xs) key2)[j].number]), ItA r49 b48 (fun n : Int => .int .i64 n) (fun v : Value => v) (mvF (keysF SV.serial okW (sortL ordS xs)) val2) (done2 ++ [(key2, val2 key2)]) left3, Atom.ro (FamA (keysF SV.serial okW (sortL ordS xs)) (fun j => OSl 32 (val2 j) 6 encSV (grpF SV.serial okW (sortL ordS xs) j))), OSl 32 u22 6 encSV (sortL ordS xs), MapA b26 (fun n : Int => .int .i64 n) (fun n : Int => .int .i64 n) (sinM (pairsO (os))) z, Atom.ro (Cel b8 72 [.map (some b26)]), DefsA [bd]]⟩, by dsimp only; omega⟩
           | exact ⟨((j + 1) + 1, bv5), S.nil.cons S 56 rfl, (((((((S.nil.cons S 6 rfl).cons S 2 rfl).cons S 8 rfl).cons S 11 rfl).cons S 49 rfl).cons S 15 rfl).cons S 54 rfl).cons S 55 rfl, ⟨by dsimp only; omega, by dsimp only; rw [wayBs_s, hw1, ← List.append_assoc]; exact H.take [Sl (val2 key2) 6 encSV (grpF SV.serial okW (sortL ordS xs) key2), Cel b11 76 [bv5], OSl 45 bv5 6 encBV (B1 ++ (done2).flatMap (fun p : Int × Value => wayB (pairsO os) 50 (grpF SV.serial okW (sortL ordS xs) p.1)) ++ wayBs (pairsO os) 50 (grpF SV.serial okW (sortL ordS xs) key2) (j + 1) ++ staleB (pairsO os) 50 (grpF SV.serial okW (sortL ordS xs) key2)[j + 1]), ItA r49 b48 (fun n : Int => .int .i64 n) (fun v : Value => v) (mvF (keysF SV.serial okW (sortL ordS xs)) val2) (done2 ++ [(key2, val2 key2)]) left3, Atom.ro (FamA (keysF SV.serial okW (sortL ordS xs)) (fun j => OSl 32 (val2 j) 6 encSV (grpF SV.serial okW (sortL ordS xs) j))), OSl 32 u22 6 encSV (sortL ordS xs), MapA b26 (fun n : Int => .int .i64 n) (fun n : Int => .int .i64 n) (sinM (pairsO (os))) z, Atom.ro (Cel b8 72 [.map (some b26)]), DefsA [bd]]⟩, by dsimp only; omega⟩
          ·have h15p := h15; try simp only [DL] at h15p
           refine gsr ?_
           refine gy rfl rfl rfl S (y_faddrb rfl Ffo32_1 S rfl) fun a S => ?_
           refine gy rfl rfl rfl S (y_load rfl Fsca3 S H rfl rfl) fun a S => ?_
           refine gy rfl rfl rfl S (y_faddrb rfl Ffo32_1 S rfl) fun a S => ?_
           refine gy rfl rfl rfl S (y_load rfl Fsca3 S H rfl rfl) fun a S => ?_
           refine gy rfl rfl rfl S (y_bin rfl S rfl rfl rfl) fun a S => ?_
           refine gnt ?_
           have S := (((((((((((S.nil.cons S 6 rfl).cons S 2 rfl).cons S 8 rfl).cons S 11 rfl).cons S 49 rfl).cons S 15 rfl).cons S 54 rfl).cons S 55 rfl).cons S 56 rfl).cons S 17 rfl).cons S 19 rfl).cons S 116 rfl
           refine c_if S rfl (fun h16 => ?_) (fun h16 => ?_)
           ·have h16p := h16; try simp only [DL] at h16p
            have hw1 := wayB1_d (g := pairsO os) (st := 50) hil hk1 hkj (by exact h15p) (by exact h16p)
            refine g_region ?_
            refine gy rfl rfl rfl S (y_load0 rfl S H rfl (by exact Fagg32)) fun a S => ?_
            refine gy rfl rfl rfl S (y_faddrb rfl Ffo32_0 S rfl) fun a S => ?_
            refine gy rfl rfl rfl S (y_load rfl Fsca3 S H rfl rfl) fun a S => ?_
            refine gy rfl rfl rfl S (y_faddrb rfl Ffo32_1 S rfl) fun a S => ?_
            refine gy rfl rfl rfl S (y_load rfl Fsca3 S H rfl rfl) fun a S => ?_
            refine wl_of (op_call (wn rfl) rfl rfl S (co_func rfl Tryz.call26 S rfl) (blame_spec b11 bv5 (B1 ++ (done2).flatMap (fun p : Int × Value => wayB (pairsO os) 50 (grpF SV.serial okW (sortL ordS xs) p.1)) ++ wayBs (pairsO os) 50 (grpF SV.serial okW (sortL ordS xs) key2) (j + 1) ++ staleB (pairsO os) 50 (grpF SV.serial okW (sortL ordS xs) key2)[j + 1]) 2 ((grpF SV.serial okW (sortL ordS xs) key2)[j].gate) ((grpF SV.serial okW (sortL ordS xs) key2)[j].number) (grpF SV.serial okW (sortL ordS xs) key2)[j + 1] _ (H.take [Cel b11 76 [bv5], OSl 45 bv5 6 encBV (B1 ++ (done2).flatMap (fun p : Int × Value => wayB (pairsO os) 50 (grpF SV.serial okW (sortL ordS xs) p.1)) ++ wayBs (pairsO os) 50 (grpF SV.serial okW (sortL ordS xs) key2) (j + 1) ++ staleB (pairsO os) 50 (grpF SV.serial okW (sortL ordS xs) key2)[j + 1]), Cel b17 32 (encSV (grpF SV.serial okW (sortL ordS xs) key2)[j + 1]), Sl (val2 key2) 6 encSV (grpF SV.serial okW (sortL ordS xs) key2), ItA r49 b48 (fun n : Int => .int .i64 n) (fun v : Value => v) (mvF (keysF SV.serial okW (sortL ordS xs)) val2) (done2 ++ [(key2, val2 key2)]) left3, Atom.ro (FamA (keysF SV.serial okW (sortL ordS xs)) (fun j => OSl 32 (val2 j) 6 encSV (grpF SV.serial okW (sortL ordS xs) j))), OSl 32 u22 6 encSV (sortL ordS xs), MapA b26 (fun n : Int => .int .i64 n) (fun n : Int => .int .i64 n) (sinM (pairsO (os))) z, Atom.ro (Cel b8 72 [.map (some b26)]), DefsA [bd]]) (by have h1 := hb48; have h2 := wayBs_len (pairsO os) 50 (grpF SV.serial okW (sortL ordS xs) key2) (j + 1); have h3 := staleB_len (pairsO os) 50 (grpF SV.serial okW (sortL ordS xs) key2)[j + 1]; simp only [List.length_append] at h1 ⊢; omega)) fun v w hc a S => ?_)
            obtain ⟨rfl, bv7, H⟩ := hc
            
            refine gl_nil ?_
            refine n_block ?_
            refine n_then ?_
            have S := ((((((((S.nil.cons S 6 rfl).cons S 2 rfl).cons S 8 rfl).cons S 11 rfl).cons S 49 rfl).cons S 15 rfl).cons S 54 rfl).cons S 55 rfl).cons S 56 rfl
            refine g_region ?_
            refine gy rfl rfl rfl S (y_add rfl S rfl rfl (by omega)) fun a S => ?_
            refine gm S fun a S => ?_
            refine gnt ?_
            first
            | exact ⟨(i + 1, bv), S.nil.cons S 56 rfl, (((((((S.nil.cons S 6 rfl).cons S 2 rfl).cons S 8 rfl).cons S 11 rfl).cons S 49 rfl).cons S 15 rfl).cons S 54 rfl).cons S 55 rfl, ⟨by dsimp only; omega, by dsimp only; rw [wayBs_s, hw1, List.append_nil]; exact H.take [Sl (val2 key2) 6 encSV (grpF SV.serial okW (sortL ordS xs) key2), Cel b11 76 [bv], OSl 45 bv 6 encBV (B1 ++ (done2).flatMap (fun p : Int × Value => wayB (pairsO os) 50 (grpF SV.serial okW (sortL ordS xs) p.1)) ++ wayBs (pairsO os) 50 (grpF SV.serial okW (sortL ordS xs) key2) (i)), ItA r49 b48 (fun n : Int => .int .i64 n) (fun v : Value => v) (mvF (keysF SV.serial okW (sortL ordS xs)) val2) (done2 ++ [(key2, val2 key2)]) left3, Atom.ro (FamA (keysF SV.serial okW (sortL ordS xs)) (fun j => OSl 32 (val2 j) 6 encSV (grpF SV.serial okW (sortL ordS xs) j))), OSl 32 u22 6 encSV (sortL ordS xs), MapA b26 (fun n : Int => .int .i64 n) (fun n : Int => .int .i64 n) (sinM (pairsO (os))) z, Atom.ro (Cel b8 72 [.map (some b26)]), DefsA [bd]]⟩, by dsimp only; omega⟩
            | exact ⟨(i + 1, bv5), S.nil.cons S 56 rfl, (((((((S.nil.cons S 6 rfl).cons S 2 rfl).cons S 8 rfl).cons S 11 rfl).cons S 49 rfl).cons S 15 rfl).cons S 54 rfl).cons S 55 rfl, ⟨by dsimp only; omega, by dsimp only; rw [wayBs_s, hw1, ← List.append_assoc]; exact H.take [Sl (val2 key2) 6 encSV (grpF SV.serial okW (sortL ordS xs) key2), Cel b11 76 [bv5], OSl 45 bv5 6 encBV (B1 ++ (done2).flatMap (fun p : Int × Value => wayB (pairsO os) 50 (grpF SV.serial okW (sortL ordS xs) p.1)) ++ wayBs (pairsO os) 50 (grpF SV.serial okW (sortL ordS xs) key2) (i) ++ staleB (pairsO os) 50 (grpF SV.serial okW (sortL ordS xs) key2)[i]), ItA r49 b48 (fun n : Int => .int .i64 n) (fun v : Value => v) (mvF (keysF SV.serial okW (sortL ordS xs)) val2) (done2 ++ [(key2, val2 key2)]) left3, Atom.ro (FamA (keysF SV.serial okW (sortL ordS xs)) (fun j => OSl 32 (val2 j) 6 encSV (grpF SV.serial okW (sortL ordS xs) j))), OSl 32 u22 6 encSV (sortL ordS xs), MapA b26 (fun n : Int => .int .i64 n) (fun n : Int => .int .i64 n) (sinM (pairsO (os))) z, Atom.ro (Cel b8 72 [.map (some b26)]), DefsA [bd]]⟩, by dsimp only; omega⟩
            | exact ⟨((j + 1) + 1, bv7), S.nil.cons S 56 rfl, (((((((S.nil.cons S 6 rfl).cons S 2 rfl).cons S 8 rfl).cons S 11 rfl).cons S 49 rfl).cons S 15 rfl).cons S 54 rfl).cons S 55 rfl, ⟨by dsimp only; omega, by dsimp only; rw [wayBs_s, hw1, ← List.append_assoc, ← List.append_assoc]; exact H.take [Sl (val2 key2) 6 encSV (grpF SV.serial okW (sortL ordS xs) key2), Cel b11 76 [bv7], OSl 45 bv7 6 encBV (B1 ++ (done2).flatMap (fun p : Int × Value => wayB (pairsO os) 50 (grpF SV.serial okW (sortL ordS xs) p.1)) ++ wayBs (pairsO os) 50 (grpF SV.serial okW (sortL ordS xs) key2) (j + 1) ++ staleB (pairsO os) 50 (grpF SV.serial okW (sortL ordS xs) key2)[j + 1] ++ [blameF 1 (grpF SV.serial okW (sortL ordS xs) key2)[j + 1] (grpF SV.serial okW (sortL ordS xs) key2)[j].gate (grpF SV.serial okW (sortL ordS xs) key2)[j].number]), ItA r49 b48 (fun n : Int => .int .i64 n) (fun v : Value => v) (mvF (keysF SV.serial okW (sortL ordS xs)) val2) (done2 ++ [(key2, val2 key2)]) left3, Atom.ro (FamA (keysF SV.serial okW (sortL ordS xs)) (fun j => OSl 32 (val2 j) 6 encSV (grpF SV.serial okW (sortL ordS xs) j))), OSl 32 u22 6 encSV (sortL ordS xs), MapA b26 (fun n : Int => .int .i64 n) (fun n : Int => .int .i64 n) (sinM (pairsO (os))) z, Atom.ro (Cel b8 72 [.map (some b26)]), DefsA [bd]]⟩, by dsimp only; omega⟩
            | exact ⟨((j + 1) + 1, bv7), S.nil.cons S 56 rfl, (((((((S.nil.cons S 6 rfl).cons S 2 rfl).cons S 8 rfl).cons S 11 rfl).cons S 49 rfl).cons S 15 rfl).cons S 54 rfl).cons S 55 rfl, ⟨by dsimp only; omega, by dsimp only; rw [wayBs_s, hw1, ← List.append_assoc, ← List.append_assoc]; exact H.take [Sl (val2 key2) 6 encSV (grpF SV.serial okW (sortL ordS xs) key2), Cel b11 76 [bv7], OSl 45 bv7 6 encBV (B1 ++ (done2).flatMap (fun p : Int × Value => wayB (pairsO os) 50 (grpF SV.serial okW (sortL ordS xs) p.1)) ++ wayBs (pairsO os) 50 (grpF SV.serial okW (sortL ordS xs) key2) (j + 1) ++ staleB (pairsO os) 50 (grpF SV.serial okW (sortL ordS xs) key2)[j + 1] ++ [blameF 2 (grpF SV.serial okW (sortL ordS xs) key2)[j + 1] (grpF SV.serial okW (sortL ordS xs) key2)[j].gate (grpF SV.serial okW (sortL ordS xs) key2)[j].number]), ItA r49 b48 (fun n : Int => .int .i64 n) (fun v : Value => v) (mvF (keysF SV.serial okW (sortL ordS xs)) val2) (done2 ++ [(key2, val2 key2)]) left3, Atom.ro (FamA (keysF SV.serial okW (sortL ordS xs)) (fun j => OSl 32 (val2 j) 6 encSV (grpF SV.serial okW (sortL ordS xs) j))), OSl 32 u22 6 encSV (sortL ordS xs), MapA b26 (fun n : Int => .int .i64 n) (fun n : Int => .int .i64 n) (sinM (pairsO (os))) z, Atom.ro (Cel b8 72 [.map (some b26)]), DefsA [bd]]⟩, by dsimp only; omega⟩
            | exact ⟨((j + 1) + 1, bv5), S.nil.cons S 56 rfl, (((((((S.nil.cons S 6 rfl).cons S 2 rfl).cons S 8 rfl).cons S 11 rfl).cons S 49 rfl).cons S 15 rfl).cons S 54 rfl).cons S 55 rfl, ⟨by dsimp only; omega, by dsimp only; rw [wayBs_s, hw1, ← List.append_assoc]; exact H.take [Sl (val2 key2) 6 encSV (grpF SV.serial okW (sortL ordS xs) key2), Cel b11 76 [bv5], OSl 45 bv5 6 encBV (B1 ++ (done2).flatMap (fun p : Int × Value => wayB (pairsO os) 50 (grpF SV.serial okW (sortL ordS xs) p.1)) ++ wayBs (pairsO os) 50 (grpF SV.serial okW (sortL ordS xs) key2) (j + 1) ++ staleB (pairsO os) 50 (grpF SV.serial okW (sortL ordS xs) key2)[j + 1]), ItA r49 b48 (fun n : Int => .int .i64 n) (fun v : Value => v) (mvF (keysF SV.serial okW (sortL ordS xs)) val2) (done2 ++ [(key2, val2 key2)]) left3, Atom.ro (FamA (keysF SV.serial okW (sortL ordS xs)) (fun j => OSl 32 (val2 j) 6 encSV (grpF SV.serial okW (sortL ordS xs) j))), OSl 32 u22 6 encSV (sortL ordS xs), MapA b26 (fun n : Int => .int .i64 n) (fun n : Int => .int .i64 n) (sinM (pairsO (os))) z, Atom.ro (Cel b8 72 [.map (some b26)]), DefsA [bd]]⟩, by dsimp only; omega⟩
           ·have h16p := h16; try simp only [DL] at h16p
            have hw1 := wayB1_e (g := pairsO os) (st := 50) hil hk1 hkj (by exact h15p) (by exact h16p)
            refine g_skip ?_
            refine n_block ?_
            refine n_then ?_
            refine g_region ?_
            refine gy rfl rfl rfl S (y_add rfl S rfl rfl (by omega)) fun a S => ?_
            refine gm S fun a S => ?_
            refine gnt ?_
            first
            | exact ⟨(i + 1, bv), S.nil.cons S 56 rfl, (((((((S.nil.cons S 6 rfl).cons S 2 rfl).cons S 8 rfl).cons S 11 rfl).cons S 49 rfl).cons S 15 rfl).cons S 54 rfl).cons S 55 rfl, ⟨by dsimp only; omega, by dsimp only; rw [wayBs_s, hw1, List.append_nil]; exact H.take [Sl (val2 key2) 6 encSV (grpF SV.serial okW (sortL ordS xs) key2), Cel b11 76 [bv], OSl 45 bv 6 encBV (B1 ++ (done2).flatMap (fun p : Int × Value => wayB (pairsO os) 50 (grpF SV.serial okW (sortL ordS xs) p.1)) ++ wayBs (pairsO os) 50 (grpF SV.serial okW (sortL ordS xs) key2) (i)), ItA r49 b48 (fun n : Int => .int .i64 n) (fun v : Value => v) (mvF (keysF SV.serial okW (sortL ordS xs)) val2) (done2 ++ [(key2, val2 key2)]) left3, Atom.ro (FamA (keysF SV.serial okW (sortL ordS xs)) (fun j => OSl 32 (val2 j) 6 encSV (grpF SV.serial okW (sortL ordS xs) j))), OSl 32 u22 6 encSV (sortL ordS xs), MapA b26 (fun n : Int => .int .i64 n) (fun n : Int => .int .i64 n) (sinM (pairsO (os))) z, Atom.ro (Cel b8 72 [.map (some b26)]), DefsA [bd]]⟩, by dsimp only; omega⟩
            | exact ⟨(i + 1, bv5), S.nil.cons S 56 rfl, (((((((S.nil.cons S 6 rfl).cons S 2 rfl).cons S 8 rfl).cons S 11 rfl).cons S 49 rfl).cons S 15 rfl).cons S 54 rfl).cons S 55 rfl, ⟨by dsimp only; omega, by dsimp only; rw [wayBs_s, hw1, ← List.append_assoc]; exact H.take [Sl (val2 key2) 6 encSV (grpF SV.serial okW (sortL ordS xs) key2), Cel b11 76 [bv5], OSl 45 bv5 6 encBV (B1 ++ (done2).flatMap (fun p : Int × Value => wayB (pairsO os) 50 (grpF SV.serial okW (sortL ordS xs) p.1)) ++ wayBs (pairsO os) 50 (grpF SV.serial okW (sortL ordS xs) key2) (i) ++ staleB (pairsO os) 50 (grpF SV.serial okW (sortL ordS xs) key2)[i]), ItA r49 b48 (fun n : Int => .int .i64 n) (fun v : Value => v) (mvF (keysF SV.serial okW (sortL ordS xs)) val2) (done2 ++ [(key2, val2 key2)]) left3, Atom.ro (FamA (keysF SV.serial okW (sortL ordS xs)) (fun j => OSl 32 (val2 j) 6 encSV (grpF SV.serial okW (sortL ordS xs) j))), OSl 32 u22 6 encSV (sortL ordS xs), MapA b26 (fun n : Int => .int .i64 n) (fun n : Int => .int .i64 n) (sinM (pairsO (os))) z, Atom.ro (Cel b8 72 [.map (some b26)]), DefsA [bd]]⟩, by dsimp only; omega⟩
            | exact ⟨((j + 1) + 1, bv7), S.nil.cons S 56 rfl, (((((((S.nil.cons S 6 rfl).cons S 2 rfl).cons S 8 rfl).cons S 11 rfl).cons S 49 rfl).cons S 15 rfl).cons S 54 rfl).cons S 55 rfl, ⟨by dsimp only; omega, by dsimp only; rw [wayBs_s, hw1, ← List.append_assoc, ← List.append_assoc]; exact H.take [Sl (val2 key2) 6 encSV (grpF SV.serial okW (sortL ordS xs) key2), Cel b11 76 [bv7], OSl 45 bv7 6 encBV (B1 ++ (done2).flatMap (fun p : Int × Value => wayB (pairsO os) 50 (grpF SV.serial okW (sortL ordS xs) p.1)) ++ wayBs (pairsO os) 50 (grpF SV.serial okW (sortL ordS xs) key2) (j + 1) ++ staleB (pairsO os) 50 (grpF SV.serial okW (sortL ordS xs) key2)[j + 1] ++ [blameF 1 (grpF SV.serial okW (sortL ordS xs) key2)[j + 1] (grpF SV.serial okW (sortL ordS xs) key2)[j].gate (grpF SV.serial okW (sortL ordS xs) key2)[j].number]), ItA r49 b48 (fun n : Int => .int .i64 n) (fun v : Value => v) (mvF (keysF SV.serial okW (sortL ordS xs)) val2) (done2 ++ [(key2, val2 key2)]) left3, Atom.ro (FamA (keysF SV.serial okW (sortL ordS xs)) (fun j => OSl 32 (val2 j) 6 encSV (grpF SV.serial okW (sortL ordS xs) j))), OSl 32 u22 6 encSV (sortL ordS xs), MapA b26 (fun n : Int => .int .i64 n) (fun n : Int => .int .i64 n) (sinM (pairsO (os))) z, Atom.ro (Cel b8 72 [.map (some b26)]), DefsA [bd]]⟩, by dsimp only; omega⟩
            | exact ⟨((j + 1) + 1, bv7), S.nil.cons S 56 rfl, (((((((S.nil.cons S 6 rfl).cons S 2 rfl).cons S 8 rfl).cons S 11 rfl).cons S 49 rfl).cons S 15 rfl).cons S 54 rfl).cons S 55 rfl, ⟨by dsimp only; omega, by dsimp only; rw [wayBs_s, hw1, ← List.append_assoc, ← List.append_assoc]; exact H.take [Sl (val2 key2) 6 encSV (grpF SV.serial okW (sortL ordS xs) key2), Cel b11 76 [bv7], OSl 45 bv7 6 encBV (B1 ++ (done2).flatMap (fun p : Int × Value => wayB (pairsO os) 50 (grpF SV.serial okW (sortL ordS xs) p.1)) ++ wayBs (pairsO os) 50 (grpF SV.serial okW (sortL ordS xs) key2) (j + 1) ++ staleB (pairsO os) 50 (grpF SV.serial okW (sortL ordS xs) key2)[j + 1] ++ [blameF 2 (grpF SV.serial okW (sortL ordS xs) key2)[j + 1] (grpF SV.serial okW (sortL ordS xs) key2)[j].gate (grpF SV.serial okW (sortL ordS xs) key2)[j].number]), ItA r49 b48 (fun n : Int => .int .i64 n) (fun v : Value => v) (mvF (keysF SV.serial okW (sortL ordS xs)) val2) (done2 ++ [(key2, val2 key2)]) left3, Atom.ro (FamA (keysF SV.serial okW (sortL ordS xs)) (fun j => OSl 32 (val2 j) 6 encSV (grpF SV.serial okW (sortL ordS xs) j))), OSl 32 u22 6 encSV (sortL ordS xs), MapA b26 (fun n : Int => .int .i64 n) (fun n : Int => .int .i64 n) (sinM (pairsO (os))) z, Atom.ro (Cel b8 72 [.map (some b26)]), DefsA [bd]]⟩, by dsimp only; omega⟩
            | exact ⟨((j + 1) + 1, bv5), S.nil.cons S 56 rfl, (((((((S.nil.cons S 6 rfl).cons S 2 rfl).cons S 8 rfl).cons S 11 rfl).cons S 49 rfl).cons S 15 rfl).cons S 54 rfl).cons S 55 rfl, ⟨by dsimp only; omega, by dsimp only; rw [wayBs_s, hw1, ← List.append_assoc]; exact H.take [Sl (val2 key2) 6 encSV (grpF SV.serial okW (sortL ordS xs) key2), Cel b11 76 [bv5], OSl 45 bv5 6 encBV (B1 ++ (done2).flatMap (fun p : Int × Value => wayB (pairsO os) 50 (grpF SV.serial okW (sortL ordS xs) p.1)) ++ wayBs (pairsO os) 50 (grpF SV.serial okW (sortL ordS xs) key2) (j + 1) ++ staleB (pairsO os) 50 (grpF SV.serial okW (sortL ordS xs) key2)[j + 1]), ItA r49 b48 (fun n : Int => .int .i64 n) (fun v : Value => v) (mvF (keysF SV.serial okW (sortL ordS xs)) val2) (done2 ++ [(key2, val2 key2)]) left3, Atom.ro (FamA (keysF SV.serial okW (sortL ordS xs)) (fun j => OSl 32 (val2 j) 6 encSV (grpF SV.serial okW (sortL ordS xs) j))), OSl 32 u22 6 encSV (sortL ordS xs), MapA b26 (fun n : Int => .int .i64 n) (fun n : Int => .int .i64 n) (sinM (pairsO (os))) z, Atom.ro (Cel b8 72 [.map (some b26)]), DefsA [bd]]⟩, by dsimp only; omega⟩
      ·have h4p := h4; try simp only [DL] at h4p
       obtain rfl : i = (grpF SV.serial okW (sortL ordS xs) key2).length := by omega
       refine g_exit ?_
       refine x_then (x_then (x_eq ?_))
       refine n_block ?_
       refine n_then ?_
       have e : B1 ++ (done2 ++ [(key2, val2 key2)]).flatMap (fun p : Int × Value => wayB (pairsO os) 50 (grpF SV.serial okW (sortL ordS xs) p.1)) = B1 ++ (done2).flatMap (fun p : Int × Value => wayB (pairsO os) 50 (grpF SV.serial okW (sortL ordS xs) p.1)) ++ wayBs (pairsO os) 50 (grpF SV.serial okW (sortL ordS xs) key2) ((grpF SV.serial okW (sortL ordS xs) key2).length) := by rw [List.flatMap_append, ← List.append_assoc]; simp [wayB]
       rw [← e] at H
       exact ⟨(done2 ++ [(key2, val2 key2)], left3, bv), S.nil, ((((S.nil.cons S 6 rfl).cons S 2 rfl).cons S 8 rfl).cons S 11 rfl).cons S 49 rfl, H.take [ItA r49 b48 (fun n : Int => .int .i64 n) (fun v : Value => v) (mvF (keysF SV.serial okW (sortL ordS xs)) val2) (done2 ++ [(key2, val2 key2)]) left3, Cel b11 76 [bv], OSl 45 bv 6 encBV (B1 ++ (done2 ++ [(key2, val2 key2)]).flatMap (fun p : Int × Value => wayB (pairsO os) 50 (grpF SV.serial okW (sortL ordS xs) p.1))), Atom.ro (FamA (keysF SV.serial okW (sortL ordS xs)) (fun j => OSl 32 (val2 j) 6 encSV (grpF SV.serial okW (sortL ordS xs) j))), OSl 32 u22 6 encSV (sortL ordS xs), MapA b26 (fun n : Int => .int .i64 n) (fun n : Int => .int .i64 n) (sinM (pairsO (os))) z, Atom.ro (Cel b8 72 [.map (some b26)]), DefsA [bd]], by dsimp only; omega⟩
     ·have h3p := h3; try simp only [DL] at h3p
      all_goals (
        exact absurd h3 (by simp))
  ·skip
   refine g_region ?_
   refine wl_of (op_nextY hz (wn rfl) rfl rfl rfl S H rfl fun key u left2 a w hlt hm hkd S H => ?_)
   obtain ⟨hks, rfl⟩ := mvF_some hm
   refine gy rfl rfl rfl S (y_extract rfl S rfl rfl) fun a S => ?_
   refine gnt ?_
   refine g_seq ?_
   refine c_if S rfl (fun h17 => ?_) (fun h17 => ?_)
   ·have h17p := h17; try simp only [DL] at h17p
    refine g_skip ?_
    refine n_then ?_
    refine g_block ?_
    refine gsr ?_
    refine gy rfl rfl rfl S ((y_entry rfl S H rfl)) fun a S => ?_
    refine gy rfl rfl rfl S (y_extract rfl S rfl rfl) fun a S => ?_
    refine ga S fun a S => ?_
    refine gnt ?_
    have S := ((((((S.nil.cons S 6 rfl).cons S 7 rfl).cons S 2 rfl).cons S 8 rfl).cons S 11 rfl).cons S 39 rfl).cons S 13 rfl
    refine g_region ?_
    refine gm S fun a S => ?_
    refine gy rfl rfl rfl S (y_makeFunc rfl S rfl rfl) fun a S => ?_
    have H := (famSl (H.front (Atom.ro (FamA (keysF SV.gate (fun _ => true) (sortL ordS xs)) (fun j => OSl 32 (val j) 6 encSV (grpF SV.gate (fun _ => true) (sortL ordS xs) j))))) hks).take [Sl (val key) 6 encSV (grpF SV.gate (fun _ => true) (sortL ordS xs) key), Cel b11 76 [bv], OSl 45 bv 6 encBV ((done).flatMap (fun p : Int × Value => gateB (grpF SV.gate (fun _ => true) (sortL ordS xs) p.1))), ItA r39 b38 (fun n : Int => .int .i64 n) (fun v : Value => v) (mvF (keysF SV.gate (fun _ => true) (sortL ordS xs)) val) (done ++ [(key, val key)]) left2, Atom.ro (FamA (keysF SV.gate (fun _ => true) (sortL ordS xs)) (fun j => OSl 32 (val j) 6 encSV (grpF SV.gate (fun _ => true) (sortL ordS xs) j))), OSl 32 u22 6 encSV (sortL ordS xs), MapA b26 (fun n : Int => .int .i64 n) (fun n : Int => .int .i64 n) (sinM (pairsO (os))) z, Atom.ro (Cel b8 72 [.map (some b26)]), DefsA [bd]]
    refine wl_of (op_call (wn rfl) rfl rfl S (co_func rfl Tryz.call25 S rfl) (gate_spec (val key) (grpF SV.gate (fun _ => true) (sortL ordS xs) key) b11 bv ((done).flatMap (fun p : Int × Value => gateB (grpF SV.gate (fun _ => true) (sortL ordS xs) p.1))) _ H hb38 (by have := grpF_len SV.gate (fun _ => true) (sortL ordS xs) key; omega) (List.length_pos_iff.2 (grpF_ne_nil hks)) (hnum key)) fun v w hc a S => ?_)
    obtain ⟨rfl, bv2, H⟩ := hc
    
    refine gl_nil ?_
    refine n_block ?_
    refine n_then ?_
    have e : (done ++ [(key, val key)]).flatMap (fun p : Int × Value => gateB (grpF SV.gate (fun _ => true) (sortL ordS xs) p.1)) = (done).flatMap (fun p : Int × Value => gateB (grpF SV.gate (fun _ => true) (sortL ordS xs) p.1)) ++ gateB (grpF SV.gate (fun _ => true) (sortL ordS xs) key) := by rw [List.flatMap_append]; simp
    rw [← e] at H
    exact ⟨(done ++ [(key, val key)], left2, bv2), S.nil, (((((S.nil.cons S 6 rfl).cons S 7 rfl).cons S 2 rfl).cons S 8 rfl).cons S 11 rfl).cons S 39 rfl, H.take [ItA r39 b38 (fun n : Int => .int .i64 n) (fun v : Value => v) (mvF (keysF SV.gate (fun _ => true) (sortL ordS xs)) val) (done ++ [(key, val key)]) left2, Cel b11 76 [bv2], OSl 45 bv2 6 encBV ((done ++ [(key, val key)]).flatMap (fun p : Int × Value => gateB (grpF SV.gate (fun _ => true) (sortL ordS xs) p.1))), Atom.ro (FamA (keysF SV.gate (fun _ => true) (sortL ordS xs)) (fun j => OSl 32 (val j) 6 encSV (grpF SV.gate (fun _ => true) (sortL ordS xs) j))), OSl 32 u22 6 encSV (sortL ordS xs), MapA b26 (fun n : Int => .int .i64 n) (fun n : Int => .int .i64 n) (sinM (pairsO (os))) z, Atom.ro (Cel b8 72 [.map (some b26)]), DefsA [bd]], by dsimp only; omega⟩
   ·have h17p := h17; try simp only [DL] at h17p
    all_goals (
      exact absurd h17 (by simp))
end Go.Proofs.YtienaifmlhcijaaGreatDoor
end
section
namespace Go.Proofs.YtienaifmlhcijaaGreatDoor
open Go Go.Gw
set_option linter.unusedVariables false
set_option linter.unusedSimpArgs false
theorem catO_eq {α : Type} (ps : List (Value × List α)) : catO ps = (ps.map (·.2)).flatten := by unfold catO; rw [List.flatMap_def]
theorem sortS_sortS (xs : List SV) : sortL ordS (sortL ordS xs) = sortL ordS xs := sortL_eq ordS_cmp (fun _ _ => ordS_zero) (sortL_perm ordS xs)
theorem merge_t (v : Value) (ps : List (Value × List SV)) (w0 : World) (ls : List (List SV)) (hp : ps.map (·.2) = ls) (hv : IsSl w0 v 1 encRow ps) (hr : ∀ p ∈ ps, IsSl w0 p.1 6 encSV p.2) (hl : ls.flatten.length ≤ 1000) (hn : ls.flatten.Nodup) :
    Ret Tryz.prog 8 #[v] w0 (fun u w => HSat No w0 [OSl 32 u 6 encSV (sortL ordS ls.flatten)] w) := by
  have e : catO ps = ls.flatten := by rw [catO_eq, hp]
  have := merge_spec v ps w0 hv hr (by rw [e]; omega) (by rw [e]; exact hn)
  rwa [e] at this
theorem blames_t (v : Value) (xs : List SV) (ov : Value) (os : List OV) (w0 : World) (hv : IsSl w0 v 6 encSV xs) (ho : IsSl w0 ov 11 encO os) (hx : Own xs) (hs : sortL ordS xs = xs) (hl : xs.length ≤ 1000) :
    Ret Tryz.prog 9 #[v, ov, .int .i64 50] w0 (fun u w => HSat No w0 [OSl 45 u 6 encBV (sortL ordB (BL (pairsO os) 50 xs))] w) := by
  have := blames_spec v xs ov os w0 hv ho hx.nodup hl (fun g => by rw [hs]; exact hx.nums g) (by rw [hs]; exact BL_nodup hx _ _)
  rwa [hs] at this
theorem rows3 {α : Type} {ps : List (Value × List α)} {x y z : List α} (h : ps.map (·.2) = [x, y, z]) : ∃ v0 v1 v2, ps = [(v0, x), (v1, y), (v2, z)] := by
  match ps, h with
  | [(v0, x'), (v1, y'), (v2, z')], h => simp at h; obtain ⟨rfl, rfl, rfl⟩ := h; exact ⟨v0, v1, v2, rfl⟩
/-- foyer/foyerref38.SameBlames -/
theorem sameb_spec (va vb : Value) (xs ys : List BV) (w0 : World) (ha : IsSl w0 va 6 encBV xs) (hb : IsSl w0 vb 6 encBV ys) :
    Ret Tryz.prog 10 #[va, vb] w0 (fun u w => u = .bool (decide (xs = ys)) ∧ Ext w0 w) := by
 refine ret_of_wp (nt := 26) Tryz.func10 rfl rfl rfl (fl := [(0, va), (1, vb)]) rfl (fun a S => ?_)
 have H := HSat.start w0
 have H := H.ro0 (Sl va 6 encBV xs) rfl (ha)
 have H := H.ro0 (Sl vb 6 encBV ys) rfl (hb)
 have hl1 := ha.len
 have hl2 := hb.len
 refine gsr ?_
 refine ga S fun a S => ?_
 refine gnt ?_
 refine g_seq ?_
 refine gsr ?_
 refine gm S fun a S => ?_
 refine gy rfl rfl rfl S (y_lens rfl Tryz.underlying26 S H rfl) fun a S => ?_
 refine gm S fun a S => ?_
 refine gy rfl rfl rfl S (y_lens rfl Tryz.underlying26 S H rfl) fun a S => ?_
 refine gy rfl rfl rfl S (y_bin rfl S rfl rfl rfl) fun a S => ?_
 refine gnt ?_
 have S := (((S.nil.cons S 1 rfl).cons S 0 rfl).cons S 4 rfl).cons S 10 rfl
 refine c_if S rfl (fun h1 => ?_) (fun h1 => ?_)
 ·have h1p := h1; try simp only [DL] at h1p
  have hno : xs ≠ ys := fun e => by have h := h1p; rw [e] at h; exact h rfl
  refine gsr ?_
  refine ga S fun a S => ?_
  refine gnt ?_
  refine g_ret ?_
  refine r_then (ret1 rfl S rfl ?_)
  exact ⟨congrArg Value.bool (decide_eq_false hno).symm, H.toExt⟩
 ·have h1p := h1; try simp only [DL] at h1p
  have hll : xs.length = ys.length := by have h := h1p; omega
  refine g_skip ?_
  refine n_then ?_
  refine g_seq ?_
  refine gsr ?_
  refine ga S fun a S => ?_
  refine gnt ?_
  refine g_block ?_
  have SU := (S.nil.cons S 1 rfl).cons S 0 rfl
  refine loop_k (X := Nat) SU (fun k => [(5, .int .i64 (k : Int))]) (fun k => k ≤ xs.length ∧ xs.take k = ys.take k) (fun k => xs.length - k) 0 (S.nil.cons S 5 rfl) H (⟨by omega, rfl⟩) (fun k a w S H hi => ?_)
  simp only [List.cons_append, List.nil_append] at S hi
  obtain ⟨hk, htk⟩ := hi
  refine g_seq ?_
  refine gsr ?_
  refine gm S fun a S => ?_
  refine gm S fun a S => ?_
  refine gy rfl rfl rfl S (y_lens rfl Tryz.underlying26 S H rfl) fun a S => ?_
  refine gy rfl rfl rfl S (y_bin rfl S rfl rfl rfl) fun a S => ?_
  refine gnt ?_
  refine c_if S rfl (fun h2 => ?_) (fun h2 => ?_)
  ·have h2p := h2; try simp only [DL] at h2p
   refine g_skip ?_
   refine n_then ?_
   have S := ((S.nil.cons S 1 rfl).cons S 0 rfl).cons S 5 rfl
   refine g_seq ?_
   refine g_block ?_
   refine g_seq ?_
   refine region_st (loud := []) (tails := []) (free := []) [0, 1, 2, 3, 4, 5, 6, 7, 8] [] Fmo (by kernel_rfl) (by kernel_rfl) rfl H ?_
   refine m_w rfl rfl (wn rfl) rfl rfl S (fun w H => y_move rfl S rfl) fun a S => ?_
   refine m_w rfl rfl (wn rfl) rfl rfl S (fun w H => y_move rfl S rfl) fun a S => ?_
   refine m_w rfl rfl (wn rfl) rfl rfl S (fun w H => y_iaddrn rfl Tryz.underlying26 Fsiz45 S H rfl rfl (by first | assumption | omega | (simp only [LL]; omega))) fun a S => ?_
   refine m_loadsa _ rfl rfl (wn rfl) rfl rfl S rfl rfl (by exact Fagg45) (by first | assumption | omega | (simp only [LL]; omega)) fun a S => ?_
   refine m_w rfl rfl (wn rfl) rfl rfl S (fun w H => y_move rfl S rfl) fun a S => ?_
   refine m_w rfl rfl (wn rfl) rfl rfl S (fun w H => y_move rfl S rfl) fun a S => ?_
   refine m_w rfl rfl (wn rfl) rfl rfl S (fun w H => y_iaddrn rfl Tryz.underlying26 Fsiz45 S H rfl rfl (by first | assumption | omega | (simp only [LL]; omega))) fun a S => ?_
   refine m_loadsa _ rfl rfl (wn rfl) rfl rfl S rfl rfl (by exact Fagg45) (by first | assumption | omega | (simp only [LL]; omega)) fun a S => ?_
   refine m_w rfl rfl (wn rfl) rfl rfl S (fun w H => y_nea (bvEq _ _) rfl Feqg45 S rfl rfl) fun a S => ?_
   refine m_nil (fun w H => ?_)
   refine n_then ?_
   have S := (((S.nil.cons S 1 rfl).cons S 0 rfl).cons S 5 rfl).cons S 25 rfl
   refine c_if S rfl (fun h3 => ?_) (fun h3 => ?_)
   ·have h3p := h3; try simp only [DL] at h3p
    have hno : xs ≠ ys := fun e => by subst e; have h := h3; simp at h
    refine gsr ?_
    refine ga S fun a S => ?_
    refine gnt ?_
    refine g_ret ?_
    refine r_block (r_then (r_then (r_block (r_then (ret1 rfl S rfl ?_)))))
    exact ⟨congrArg Value.bool (decide_eq_false hno).symm, H.toExt⟩
   ·have h3p := h3; try simp only [DL] at h3p
    have hel : xs[k] = ys[k] := by have h := h3; simpa using h
    refine g_skip ?_
    refine n_block ?_
    refine n_then ?_
    refine g_region ?_
    refine gm S fun a S => ?_
    refine gy rfl rfl rfl S (y_add rfl S rfl rfl (by omega)) fun a S => ?_
    refine ga S fun a S => ?_
    refine gnt ?_
    refine ⟨k + 1, S.nil.cons S 5 rfl, (S.nil.cons S 1 rfl).cons S 0 rfl, H, ?_, ?_⟩
    · exact ⟨by omega, by rw [List.take_succ_eq_append_getElem (by omega), List.take_succ_eq_append_getElem (by omega), htk, hel]⟩
    · omega
  ·have h2p := h2; try simp only [DL] at h2p
   refine g_exit ?_
   refine x_then (x_then (x_eq ?_))
   refine n_then ?_
   have S := S.nil
   refine gsr ?_
   refine ga S fun a S => ?_
   refine gnt ?_
   refine g_ret ?_
   refine ret1 rfl S rfl ?_
   obtain rfl : k = xs.length := by omega
   rw [List.take_length, List.take_of_length_le (by omega)] at htk
   exact ⟨congrArg Value.bool (decide_eq_true htk).symm, H.toExt⟩
set_option maxHeartbeats 2000000 in
/-- foyer/foyertop.w09Admits -/
theorem admits_spec (w0 : World) (hT : Tabs w0) (hB : TabBs w0) :
    Ret Tryz.prog 6 #[] w0 (fun u w => u = .bool true ∧ Ext w0 w) := by
 refine ret_of_wp (nt := 77) Tryz.func6 rfl rfl rfl (fl := []) rfl (fun a S => ?_)
 have H := HSat.start w0
 have H := H.ro0 (TabB) rfl (hB)
 have H := H.ro0 (TabsA) rfl (hT)
 refine gsr ?_
 refine ga S fun a S => ?_
 refine gnt ?_
 refine gsr ?_
 refine gy rfl rfl rfl S (y_buildf rfl Fbld50 S rfl (idx := [0]) rfl (cs := [_, _, _, _]) rfl) fun a S => ?_
 refine gy rfl rfl rfl S (y_buildf rfl Fbld50 S rfl (idx := [0, 1]) rfl (cs := [_, _, _, _]) rfl) fun a S => ?_
 refine gy rfl rfl rfl S (y_buildf rfl Fbld50 S rfl (idx := [0]) rfl (cs := [_, _, _, _]) rfl) fun a S => ?_
 refine gy rfl rfl rfl S (y_buildf rfl Fbld50 S rfl (idx := [0, 1]) rfl (cs := [_, _, _, _]) rfl) fun a S => ?_
 refine gy rfl rfl rfl S (y_buildf rfl Fbld50 S rfl (idx := [0]) rfl (cs := [_, _, _, _]) rfl) fun a S => ?_
 refine gy rfl rfl rfl S (y_buildf rfl Fbld50 S rfl (idx := [0]) rfl (cs := [_, _, _, _]) rfl) fun a S => ?_
 refine gy rfl rfl rfl S (y_buildf rfl Fbld50 S rfl (idx := [0]) rfl (cs := [_, _, _, _]) rfl) fun a S => ?_
 refine gy rfl rfl rfl S (y_buildf rfl Fbld50 S rfl (idx := [0]) rfl (cs := [_, _, _, _]) rfl) fun a S => ?_
 refine gy rfl rfl rfl S (y_buildf rfl Fbld50 S rfl (idx := [0, 1, 3]) rfl (cs := [_, _, _, _]) rfl) fun a S => ?_
 refine gy rfl rfl rfl S (y_buildf rfl Fbld50 S rfl (idx := [0, 1]) rfl (cs := [_, _, _, _]) rfl) fun a S => ?_
 refine wl_of (op_buildSlice (wn rfl) rfl rfl rfl Tryz.underlying22 Finf50 S H (idx := [0, 1, 2, 3, 4, 5, 6, 7, 8, 9]) rfl rfl rfl (z := [.int .u8 0, .int .u8 0, .int .u8 0, .int .u8 0, .int .u8 0, .int .u8 0, .int .u8 0, .int .u8 0, .int .u8 0, .int .u8 0, .int .u8 0, .int .u8 0, .int .u8 0, .int .u8 0, .int .u8 0, .int .u8 0, .int .u8 0, .int .u8 0, .int .u8 0, .int .u8 0, .int .u8 0, .int .u8 0, .int .u8 0, .int .u8 0, .int .u8 0, .int .u8 0, .int .u8 0, .int .u8 0, .int .u8 0, .int .u8 0, .int .u8 0, .int .u8 0, .int .u8 0, .int .u8 0, .int .u8 0, .int .u8 0, .int .u8 0, .int .u8 0, .int .u8 0, .int .u8 0]) (by kernel_rfl) (cs := [.int .u8 1, .int .u8 0, .int .u8 0, .int .u8 0, .int .u8 1, .int .u8 1, .int .u8 0, .int .u8 0, .int .u8 2, .int .u8 0, .int .u8 0, .int .u8 0, .int .u8 2, .int .u8 1, .int .u8 0, .int .u8 0, .int .u8 0, .int .u8 0, .int .u8 0, .int .u8 0, .int .u8 1, .int .u8 0, .int .u8 0, .int .u8 0, .int .u8 3, .int .u8 0, .int .u8 0, .int .u8 0, .int .u8 2, .int .u8 0, .int .u8 0, .int .u8 0, .int .u8 3, .int .u8 1, .int .u8 0, .int .u8 100, .int .u8 2, .int .u8 1, .int .u8 0, .int .u8 0]) (by kernel_rfl) fun b17 a w S H => ?_)
 refine wl_of (op_call (wn rfl) rfl rfl S (co_func rfl Tryz.call7 S rfl) (gates_spec _ exE _ (H.slb b17 exE encE 4 rfl rfl (by intro x _; rfl) (by show 10 ≤ 9223372036854775807; decide)) H.tabs (tabB_of H) (by decide) (by decide)) fun v w hc a S => ?_)
 obtain ⟨lgv, ps, tv, wv, rfl, hps, H1⟩ := hc
 rw [ex_logs] at hps
 obtain ⟨al, hal, hinv, _⟩ := play_inv keyF 10 exE rfl (by decide)
 have hlg : (play keyF exE).logs = [[x1, x3, x4], [x2, x5], []] := ex_logs
 have hal5 : al.length = 5 := by rw [← hinv.perm.length_eq, hlg]; rfl
 rw [ex_gone, ex_want] at H1
 obtain ⟨v0, v1, v2, rfl⟩ := rows3 hps
 have H := H.call4 H1 rfl rfl rfl rfl
 refine gm S fun a S => ?_
 refine gy rfl rfl rfl S (y_extract rfl S rfl rfl) fun a S => ?_
 refine gy rfl rfl rfl S (y_extract rfl S rfl rfl) fun a S => ?_
 refine gy rfl rfl rfl S (y_extract rfl S rfl rfl) fun a S => ?_
 refine ga S fun a S => ?_
 refine ga S fun a S => ?_
 refine ga S fun a S => ?_
 refine gnt ?_
 have S := (((S.nil.cons S 0 rfl).cons S 1 rfl).cons S 2 rfl).cons S 3 rfl
 refine gsr ?_
 refine gm S fun a S => ?_
 refine wl_of (op_call (wn rfl) rfl rfl S (co_func rfl Tryz.call8 S rfl) (merge_t lgv [(v0, [x1, x3, x4]), (v1, [x2, x5]), (v2, [])] _ (play keyF exE).logs (by rw [hlg]; rfl) (H.sl lgv) (H.rws 32 _) (by rw [hinv.perm.length_eq]; omega) (hinv.perm.nodup_iff.2 hinv.own.nodup)) fun u23 w hc a S => ?_)
 have H1 := hc
 rw [hinv.merged] at H1
 have H := H.call1 H1 rfl
 have H := (H.front (RowsA 32 6 encSV [(v0, [x1, x3, x4]), (v1, [x2, x5]), (v2, [])])).unfold
 simp only [rowsL, List.map_cons, List.map_nil, List.cons_append, List.nil_append] at H
 refine ga S fun a S => ?_
 refine gnt ?_
 refine g_seq ?_
 refine gsr ?_
 refine gm S fun a S => ?_
 refine gy rfl rfl rfl S ((y_lens rfl Tryz.underlying29 S H rfl)) fun a S => ?_
 refine gy rfl rfl rfl S (y_bin rfl S rfl rfl rfl) fun a S => ?_
 refine gm S fun a S => ?_
 refine' wl_or 3 27 rfl S H rfl rfl rfl rfl rfl rfl rfl (fun _ S => (wn rfl)) (fun h1 kk => ?yh1) (fun a w S H => ?_)
 case yh1 =>
  have h1p := h1; try simp only [DL] at h1p
  refine gz 27 h1 S rfl rfl rfl rfl rfl rfl (y_move rfl S rfl) fun a S => ?_
  refine gz 27 h1 S rfl rfl rfl rfl rfl rfl (y_lens rfl Tryz.underlying26 S H rfl) fun a S => ?_
  refine gz 27 h1 S rfl rfl rfl rfl rfl rfl (y_bin rfl S rfl rfl rfl) fun a S => ?_
  refine gy rfl rfl rfl S (y_or' rfl h1 S rfl rfl) fun a S => ?_
  exact kk _ _ (S.join 4 31 rfl rfl) H
 refine gm S fun a S => ?_
 refine' wl_or 5 32 rfl S H rfl rfl rfl rfl rfl rfl rfl (fun _ S => (wn rfl)) (fun h2 kk => ?yh2) (fun a w S H => ?_)
 case yh2 =>
  have h2p := h2; try simp only [DL] at h2p
  refine gz 32 h2 S rfl rfl rfl rfl rfl rfl (y_move rfl S rfl) fun a S => ?_
  refine gz 32 h2 S rfl rfl rfl rfl rfl rfl ((y_iaddrn (i := 0) rfl Tryz.underlying25 Fsiz42 S H rfl rfl (by rw [titL_len]; decide))) fun a S => ?_
  refine gz 32 h2 S rfl rfl rfl rfl rfl rfl (y_faddr rfl Ffo42_4 S rfl) fun a S => ?_
  refine gz 32 h2 S rfl rfl rfl rfl rfl rfl ((y_loadsf (u := .int .i64 6) tv rfl Fsca3 S H rfl (by rw [titL_len]; decide) (by rw [titL_at]; rfl))) fun a S => ?_
  refine gz 32 h2 S rfl rfl rfl rfl rfl rfl (y_bin rfl S rfl rfl rfl) fun a S => ?_
  refine gy rfl rfl rfl S (y_or' rfl h2 S rfl rfl) fun a S => ?_
  exact kk _ _ (S.join 6 38 rfl rfl) H
 refine gm S fun a S => ?_
 refine' wl_or 5 39 rfl S H rfl rfl rfl rfl rfl rfl rfl (fun _ S => (wn rfl)) (fun h3 kk => ?yh3) (fun a w S H => ?_)
 case yh3 =>
  have h3p := h3; try simp only [DL] at h3p
  refine gz 39 h3 S rfl rfl rfl rfl rfl rfl (y_move rfl S rfl) fun a S => ?_
  refine gz 39 h3 S rfl rfl rfl rfl rfl rfl ((y_iaddrn (i := 0) rfl Tryz.underlying24 Fsiz29 S H rfl rfl (by simp))) fun a S => ?_
  refine gz 39 h3 S rfl rfl rfl rfl rfl rfl ((y_loads (u := v0) lgv rfl Fsca29 S H rfl (by simp) rfl)) fun a S => ?_
  refine gz 39 h3 S rfl rfl rfl rfl rfl rfl (y_lens rfl Tryz.underlying29 S H rfl) fun a S => ?_
  refine gz 39 h3 S rfl rfl rfl rfl rfl rfl (y_bin rfl S rfl rfl rfl) fun a S => ?_
  refine gy rfl rfl rfl S (y_or' rfl h3 S rfl rfl) fun a S => ?_
  exact kk _ _ (S.join 6 45 rfl rfl) H
 refine gm S fun a S => ?_
 refine' wl_or 5 46 rfl S H rfl rfl rfl rfl rfl rfl rfl (fun _ S => (wn rfl)) (fun h4 kk => ?yh4) (fun a w S H => ?_)
 case yh4 =>
  have h4p := h4; try simp only [DL] at h4p
  refine gz 46 h4 S rfl rfl rfl rfl rfl rfl (y_move rfl S rfl) fun a S => ?_
  refine gz 46 h4 S rfl rfl rfl rfl rfl rfl ((y_iaddrn (i := 1) rfl Tryz.underlying24 Fsiz29 S H rfl rfl (by simp))) fun a S => ?_
  refine gz 46 h4 S rfl rfl rfl rfl rfl rfl ((y_loads (u := v1) lgv rfl Fsca29 S H rfl (by simp) rfl)) fun a S => ?_
  refine gz 46 h4 S rfl rfl rfl rfl rfl rfl (y_lens rfl Tryz.underlying29 S H rfl) fun a S => ?_
  refine gz 46 h4 S rfl rfl rfl rfl rfl rfl (y_bin rfl S rfl rfl rfl) fun a S => ?_
  refine gy rfl rfl rfl S (y_or' rfl h4 S rfl rfl) fun a S => ?_
  exact kk _ _ (S.join 6 52 rfl rfl) H
 refine gnt ?_
 have S := (((((S.nil.cons S 0 rfl).cons S 1 rfl).cons S 2 rfl).cons S 3 rfl).cons S 4 rfl).cons S 52 rfl
 refine c_if S rfl (fun h5 => ?_) (fun h5 => ?_)
 ·have h5p := h5; try simp only [DL] at h5p
  all_goals (
    exfalso
    have h := h5
    simp [hal5] at h)
 ·have h5p := h5; try simp only [DL] at h5p
  refine g_skip ?_
  refine n_then ?_
  refine gsr ?_
  refine gm S fun a S => ?_
  refine gm S fun a S => ?_
  refine wl_of (op_call (wn rfl) rfl rfl S (co_func rfl Tryz.call9 S rfl) (blames_t u23 al tv (titL [6, 0, 0, 0, 0]) _ (H.sl u23) (H.sl tv) hinv.own (sortS_id hinv.inc) (by omega)) fun u55 w hc a S => ?_)
  have H1 := hc
  have hpl := hinv.blames
  rw [ex_want] at hpl
  have hpe := titL_pairs (play keyF exE)
  rw [ex_gone] at hpe
  rw [hpe, List.perm_singleton.1 hpl] at H1
  have H := H.call1 H1 rfl
  refine ga S fun a S => ?_
  refine gnt ?_
  have S := (((S.nil.cons S 0 rfl).cons S 1 rfl).cons S 3 rfl).cons S 5 rfl
  refine gsr ?_
  refine gm S fun a S => ?_
  refine gm S fun a S => ?_
  refine wl_of (op_call (wn rfl) rfl rfl S (co_func rfl Tryz.call10 S rfl) (sameb_spec u55 wv [exB] [exB] _ (H.sl u55) (H.sl wv)) fun v w hc a S => ?_)
  obtain ⟨rfl, he⟩ := hc
  have H := H.ext he
  refine gm S fun a S => ?_
  refine' wl_and 7 59 rfl S H rfl rfl rfl rfl rfl rfl rfl (fun _ S => (wn rfl)) (fun h6 kk => ?yh6) (fun a w S H => ?_)
  case yh6 =>
   have h6p := h6; try simp only [DL] at h6p
   refine gz 59 h6 S rfl rfl rfl rfl rfl rfl (y_move rfl S rfl) fun a S => ?_
   refine gz 59 h6 S rfl rfl rfl rfl rfl rfl ((y_iaddrn (i := 0) rfl Tryz.underlying24 Fsiz29 S H rfl rfl (by simp))) fun a S => ?_
   refine gz 59 h6 S rfl rfl rfl rfl rfl rfl ((y_loads (u := v0) lgv rfl Fsca29 S H rfl (by simp) rfl)) fun a S => ?_
   refine gz 59 h6 S rfl rfl rfl rfl rfl rfl ((y_iaddrn (i := 2) rfl Tryz.underlying29 Fsiz32 S H rfl rfl (by simp))) fun a S => ?_
   refine gz 59 h6 S rfl rfl rfl rfl rfl rfl (y_faddr rfl Ffo32_4 S rfl) fun a S => ?_
   refine gz 59 h6 S rfl rfl rfl rfl rfl rfl ((y_loadsf (u := .int .i64 3) v0 rfl Fsca3 S H rfl (by simp) rfl)) fun a S => ?_
   refine gz 59 h6 S rfl rfl rfl rfl rfl rfl (y_bin rfl S rfl rfl rfl) fun a S => ?_
   refine gy rfl rfl rfl S (y_and' rfl h6 S rfl rfl) fun a S => ?_
   exact kk _ _ (S.join 8 67 rfl rfl) H
  refine gm S fun a S => ?_
  refine' wl_and 7 68 rfl S H rfl rfl rfl rfl rfl rfl rfl (fun _ S => (wn rfl)) (fun h7 kk => ?yh7) (fun a w S H => ?_)
  case yh7 =>
   have h7p := h7; try simp only [DL] at h7p
   refine gz 68 h7 S rfl rfl rfl rfl rfl rfl (y_move rfl S rfl) fun a S => ?_
   refine gz 68 h7 S rfl rfl rfl rfl rfl rfl ((y_iaddrn (i := 1) rfl Tryz.underlying24 Fsiz29 S H rfl rfl (by simp))) fun a S => ?_
   refine gz 68 h7 S rfl rfl rfl rfl rfl rfl ((y_loads (u := v1) lgv rfl Fsca29 S H rfl (by simp) rfl)) fun a S => ?_
   refine gz 68 h7 S rfl rfl rfl rfl rfl rfl ((y_iaddrn (i := 1) rfl Tryz.underlying29 Fsiz32 S H rfl rfl (by simp))) fun a S => ?_
   refine gz 68 h7 S rfl rfl rfl rfl rfl rfl (y_faddr rfl Ffo32_4 S rfl) fun a S => ?_
   refine gz 68 h7 S rfl rfl rfl rfl rfl rfl ((y_loadsf (u := .int .i64 2) v1 rfl Fsca3 S H rfl (by simp) rfl)) fun a S => ?_
   refine gz 68 h7 S rfl rfl rfl rfl rfl rfl (y_bin rfl S rfl rfl rfl) fun a S => ?_
   refine gy rfl rfl rfl S (y_and' rfl h7 S rfl rfl) fun a S => ?_
   exact kk _ _ (S.join 8 76 rfl rfl) H
  refine ga S fun a S => ?_
  refine gnt ?_
  have S := S.nil.cons S 0 rfl
  refine g_ret ?_
  refine ret1 rfl S rfl ?_
  exact ⟨congrArg Value.bool (by simp), H.toExt⟩
end Go.Proofs.YtienaifmlhcijaaGreatDoor
end
