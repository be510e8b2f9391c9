/- Own slices that are made, written, cleared; whole slices appended; pointers and slices compared with nil; bundles of atoms. No condition. -/
import Derived.Test.YtngocpdmlijnfaaDoorGwJoin
namespace Go.Gw
set_option linter.unusedVariables false
set_option linter.unusedSimpArgs false
section
variable {r : Option Nat} {P : Program} {o : Oper} {n : Sz} {fl flU : Slots} {a : Act} {w w0 : World} {v : Value} {M : Nat → Prop} {l : List Atom} {ops : Array Oper} {d : Nat} {K : Act → World → Prop} {Q : Exit → Act → World → Prop}
/-- the first atom read otherwise -/
theorem HSat.conv {x y : Atom} (H : HSat M w0 (x :: l) w) (hown : y.own = true → x.own = true) (hfp : ∀ b, y.fp b → x.fp b) (hok : x.ok w → y.ok w) : HSat M w0 (y :: l) w := by
  have hs := List.pairwise_cons.1 H.sep
  refine ⟨H.fr, fun z hz => ?_, fun z hz ho b hb => ?_, List.pairwise_cons.2 ⟨fun z hz ho b hb => ?_, hs.2⟩⟩
  · rcases List.mem_cons.1 hz with rfl | hz
    · exact hok (H.ok x (by simp))
    · exact H.ok z (List.mem_cons_of_mem _ hz)
  · rcases List.mem_cons.1 hz with rfl | hz
    · exact H.mine x (by simp) (hown ho) b (hfp b hb)
    · exact H.mine z (List.mem_cons_of_mem _ hz) ho b hb
  · exact hs.1 z hz (ho.imp hown id) b (hfp b hb)
theorem HSat.freeze {x : Atom} (H : HSat M w0 (x :: l) w) : HSat M w0 (Atom.ro x :: l) w := H.conv (fun h => by cases h) (fun _ h => h) (fun h => h)
theorem HSat.celO {α : Type} {b : Nat} {E : TypeId} {cs : List Value} (H : HSat M w0 (Cel b E cs :: l) w) (xs : List α) (enc : α → List Value) (sz : Nat) {m : Nat} (hcs : cs = xs.flatMap enc) (hs : ∀ x ∈ xs, (enc x).length = sz) (hm : xs.length = m) (hl : m ≤ 9223372036854775807) :
    HSat M w0 (OSl E (.slice (some ⟨b, 0, none⟩) m m) sz enc xs :: l) w := by
  subst hm
  refine H.conv (fun _ => rfl) (fun k hk => ?_) (fun hok => ⟨⟨flatMap_len hs, .inr ⟨b, xs.length, cs.toArray, rfl, Nat.zero_le _, hok, Nat.le_refl _, by simpa [maxLen] using hl, ?_, ?_⟩⟩, hl, hs⟩)
  · simp only [OSl, Value.ownBlock, Option.some.injEq] at hk; exact hk.symm
  · rw [hcs]; simpa using flatMap_len hs
  · rw [hcs, List.take_of_length_le]
    rw [flatMap_len hs]; exact Nat.le_refl _
theorem IsSl.flat {w : World} {v : Value} {sz : Nat} {α : Type} {enc : α → List Value} {xs : List α} (h : IsSl w v sz enc xs) (hsz : 0 < sz) (hne : xs ≠ []) : ∃ b off c, v = .slice (some ⟨b, off, none⟩) xs.length c ∧ ∀ j u, (xs.flatMap enc)[j]? = some u → w.cell? ⟨b, off + j, none⟩ = some u := by
  obtain ⟨b, off, c, hv, _⟩ := h.cells 0 (List.length_pos_iff.2 hne)
  refine ⟨b, off, c, hv, fun j u hu => ?_⟩
  have hj : j < xs.length * sz := by rw [← flatMap_len h.sizes]; exact (List.getElem?_eq_some_iff.1 hu).1
  have hi : j / sz < xs.length := (Nat.div_lt_iff_lt_mul hsz).2 hj
  have hr := Nat.mod_lt j hsz
  have hf := flatMap_at h.sizes (j / sz) hi (j % sz) hr
  have ej : j / sz * sz + j % sz = j := by rw [Nat.mul_comm]; exact Nat.div_add_mod j sz
  rw [ej, hu] at hf
  obtain ⟨b', off', c', hv', hc⟩ := h.cells (j / sz) hi
  rw [hv] at hv'
  simp only [Value.slice.injEq, Option.some.injEq, Addr.mk.injEq, and_true, true_and] at hv'
  obtain ⟨⟨rfl, rfl⟩, _⟩ := hv'
  have := hc (j % sz) u hf.symm
  rwa [Nat.add_assoc, ej] at this
theorem op_appendS {T E : TypeId} {s x : Operand} {z v2 : Value} {sz by_ : Nat} {α : Type} {enc : α → List Value} {xs ys : List α} {l' : Atom → List Atom}
    (hw : Region.wanted o (yielded ops a.tmps) = true) (hd : o.dst = some d) (hn : Nat.blt d n.n = true) (ho : o.op = .call { callee := .builtin .append, args := #[s, x], argTypes := #[T, T] }) (hT : P.underlying T = some (.slice E)) (hE : infoB P E = some (z, sz, by_)) (hz : z.cells.size = sz) (hsz : Nat.blt 0 sz = true)
    (S : St n fl a) (H : HSat M w0 l w) (hs : ev fl s = some v) (hx : ev fl x = some v2) [hO : HasO l v E sz α enc xs l'] [hY : HasSl l v2 sz α enc ys] (hne : ys ≠ []) (h1 : ∀ y ∈ ys, ∀ u ∈ enc y, u.oneCell' = true) (hb : (xs.length + ys.length) * by_ ≤ 140737488355328) (hlen : xs.length + ys.length ≤ 9223372036854775807)
    (k : ∀ v' a' w', v' ≠ .slice none 0 0 → St n ((d, v') :: fl) a' → HSat M w0 (l' (OSl E v' sz enc (xs ++ ys))) w' → K a' w') : opw P ops o a w K := by
  obtain ⟨l1, l2, e1, e2⟩ := hO.at_
  have hok : IsOSl w E v sz enc xs := H.ok (OSl E v sz enc xs) (by rw [e1]; simp)
  have hsl := H.sl v2 (h := hY)
  obtain ⟨b, off, c, rfl, hf⟩ := hsl.flat (by simpa using hsz) hne
  obtain ⟨v', w', hr, hown, hfr, hnew, hnn⟩ := run_append_at (P := P) (ty := o.type) hT hE hz (by simpa using hsz) hok hsl.sizes h1 ⟨b, off, none⟩ c (fun j u hu => by rw [add_plain]; exact hf j u hu) hb hlen hne
  have hrun : (execOp a.eval o).run P w = .ok (.value v') w' := by
    unfold execOp; rw [ho]
    simp only [resolve, invoke, builtin, Sem.run_bind, Sem.run_pure, Result.andThen_ok, List.map_toArray, List.map_cons, List.map_nil, S.ev hs, S.ev hx, hr]
  refine opw_val hw hrun ?_
  rw [hd]
  refine k v' _ w' hnn (S.put hn v') ?_
  rw [e2]
  rw [e1] at H
  exact HSat.swap H rfl rfl hfr hown hnew
/-- the same, whether anything is appended or not -/
theorem op_appendT {T E : TypeId} {s x : Operand} {z v2 : Value} {sz by_ : Nat} {α : Type} {enc : α → List Value} {xs ys : List α} {l' : Atom → List Atom}
    (hw : Region.wanted o (yielded ops a.tmps) = true) (hd : o.dst = some d) (hn : Nat.blt d n.n = true) (ho : o.op = .call { callee := .builtin .append, args := #[s, x], argTypes := #[T, T] }) (hT : P.underlying T = some (.slice E)) (hE : infoB P E = some (z, sz, by_)) (hz : z.cells.size = sz) (hsz : Nat.blt 0 sz = true)
    (S : St n fl a) (H : HSat M w0 l w) (hs : ev fl s = some v) (hx : ev fl x = some v2) [hO : HasO l v E sz α enc xs l'] [hY : HasSl l v2 sz α enc ys] (h1 : ∀ y ∈ ys, ∀ u ∈ enc y, u.oneCell' = true) (hb : (xs.length + ys.length) * by_ ≤ 140737488355328) (hlen : xs.length + ys.length ≤ 9223372036854775807)
    (k : ∀ v' a' w', St n ((d, v') :: fl) a' → HSat M w0 (l' (OSl E v' sz enc (xs ++ ys))) w' → K a' w') : opw P ops o a w K := by
  by_cases hne : ys = []
  · subst hne
    obtain ⟨l1, l2, e1, e2⟩ := hO.at_
    have hok : IsOSl w E v sz enc xs := H.ok (OSl E v sz enc xs) (by rw [e1]; simp)
    obtain ⟨i, hinf, hzi, hsi, hbi⟩ := infoB_parts hE
    obtain ⟨p2, c2, rfl⟩ := (H.sl v2 (h := hY)).shape
    have hrun : (execOp a.eval o).run P w = .ok (.value v) w := by
      unfold execOp; rw [ho]
      have hl0 : ∀ q : Addr, (loadCells q 0).run P w = .ok #[] w := fun q => by simpa using run_loadCells_list (P := P) w q [] (by simp)
      rcases hok.row.2 with ⟨rfl, hn⟩ | ⟨g, cap, cur, rfl, hbase, hg, hnc, hcm, hcs, ht⟩
      · cases p2 <;> simp [hl0, resolve, invoke, builtin, S.ev hs, S.ev hx, Builtin.append_, run_underlying hT, sizeOf, typeInfo, hinf, Builtin.lenOf, Builtin.firstCells]
      · cases p2 <;> simp [hl0, resolve, invoke, builtin, S.ev hs, S.ev hx, Builtin.append_, run_underlying hT, sizeOf, typeInfo, hinf, Builtin.lenOf, Builtin.firstCells, hnc, storeCells]
    refine opw_val hw hrun ?_
    rw [hd]
    refine k v _ w (S.put hn v) ?_
    rw [e2, List.append_nil]
    rw [e1] at H
    exact H
  · exact op_appendS hw hd hn ho hT hE hz hsz S H hs hx hne h1 hb hlen (fun v' a' w' _ => k v' a' w')
theorem run_equalIn_ptr (d : Nat) {T E : TypeId} (hT : P.underlying T = some (.pointer E)) (p : Option Addr) : (Op.equalIn (d + 1) T (.pointer p) (.pointer none)).run P w = .ok p.isNone w := by
  cases p <;> simp [Op.equalIn, run_underlying hT]
theorem run_equalIn_sl (d : Nat) {T E : TypeId} (hT : P.underlying T = some (.slice E)) (p : Option Addr) (i c : Nat) : (Op.equalIn (d + 1) T (.slice p i c) (.slice none 0 0)).run P w = .ok p.isNone w := by
  cases p <;> simp [Op.equalIn, run_underlying hT]
theorem run_equal_ptr {T E : TypeId} (hT : P.underlying T = some (.pointer E)) (p : Option Addr) : (Op.equal T (.pointer p) (.pointer none)).run P w = .ok p.isNone w := by
  unfold Op.equal Op.maxDepth; exact run_equalIn_ptr 9999 hT p
theorem y_eqp {T U E : TypeId} {x y : Operand} {p : Option Addr} (ho : o.op = .binOp .eql T x y U) (hT : P.underlying T = some (.pointer E)) (S : St n fl a) (hx : ev fl x = some (.pointer p)) (hy : ev fl y = some (.pointer none)) : Yld P o a w (.bool p.isNone) := by
  unfold Yld execOp; rw [ho]; simp only [S.ev hx, S.ev hy, eqGuard, binOp]
  simp [run_equal_ptr hT]
theorem run_equal_sl {T E : TypeId} (hT : P.underlying T = some (.slice E)) (p : Option Addr) (i c : Nat) : (Op.equal T (.slice p i c) (.slice none 0 0)).run P w = .ok p.isNone w := by
  unfold Op.equal Op.maxDepth; exact run_equalIn_sl 9999 hT p i c
theorem y_eqsl {T U E : TypeId} {x y : Operand} {p : Option Addr} {i c : Nat} (ho : o.op = .binOp .eql T x y U) (hT : P.underlying T = some (.slice E)) (S : St n fl a) (hx : ev fl x = some (.slice p i c)) (hy : ev fl y = some (.slice none 0 0)) : Yld P o a w (.bool p.isNone) := by
  unfold Yld execOp; rw [ho]; simp only [S.ev hx, S.ev hy, eqGuard, binOp]
  simp [run_equal_sl hT]
/-- several atoms as one -/
def Bun (ls : List Atom) : Atom where
  own := true
  fp := fun k => ∃ x ∈ ls, x.own = true ∧ x.fp k
  ok := fun w => (∀ x ∈ ls, x.own = true ∧ x.ok w) ∧ ls.Pairwise apart
  loc := fun w w' h hok => ⟨fun x hx => ⟨(hok.1 x hx).1, x.loc w w' (fun b hb => h b ⟨x, hx, (hok.1 x hx).1, hb⟩) (hok.1 x hx).2⟩, hok.2⟩
  lt := fun w b hok ⟨x, hx, _, hb⟩ => x.lt w b (hok.1 x hx).2 hb
theorem HSat.fold {ls : List Atom} (H : HSat M w0 (ls ++ l) w) (ho : ∀ x ∈ ls, x.own = true) : HSat M w0 (Bun ls :: l) w := by
  have hs := List.pairwise_append.1 H.sep
  refine ⟨H.fr, fun z hz => ?_, fun z hz ho' b hb => ?_, List.pairwise_cons.2 ⟨fun z hz _ b hb => ?_, hs.2.1⟩⟩
  · rcases List.mem_cons.1 hz with rfl | hz
    · exact ⟨fun x hx => ⟨ho x hx, H.ok x (List.mem_append_left _ hx)⟩, hs.1⟩
    · exact H.ok z (List.mem_append_right _ hz)
  · rcases List.mem_cons.1 hz with rfl | hz
    · obtain ⟨x, hx, hxo, hxb⟩ := hb
      exact H.mine x (List.mem_append_left _ hx) hxo b hxb
    · exact H.mine z (List.mem_append_right _ hz) ho' b hb
  · obtain ⟨x, hx, hxo, hxb⟩ := hb
    exact hs.2.2 x hx z hz (.inl hxo) b hxb
theorem HSat.unfold {ls : List Atom} (H : HSat M w0 (Bun ls :: l) w) : HSat M w0 (ls ++ l) w := by
  have hs := List.pairwise_cons.1 H.sep
  have hok := H.ok (Bun ls) (by simp)
  refine ⟨H.fr, fun z hz => ?_, fun z hz ho' b hb => ?_, List.pairwise_append.2 ⟨hok.2, hs.2, fun x hx z hz _ b hb => ?_⟩⟩
  · rcases List.mem_append.1 hz with hz | hz
    · exact (hok.1 z hz).2
    · exact H.ok z (List.mem_cons_of_mem _ hz)
  · rcases List.mem_append.1 hz with hz | hz
    · exact H.mine (Bun ls) (by simp) rfl b ⟨z, hz, ho', hb⟩
    · exact H.mine z (List.mem_cons_of_mem _ hz) ho' b hb
  · exact hs.1 z hz (.inl rfl) b ⟨x, hx, (hok.1 x hx).1, hb⟩
theorem HSat.call1 {w' : World} {x : Atom} (H : HSat M w0 l w) (H' : HSat No w [x] w') (hx : x.own = true) : HSat M w0 (x :: l) w' := H.call H' (by simpa using hx)
theorem HSat.call2 {w' : World} {x y : Atom} (H : HSat M w0 l w) (H' : HSat No w [x, y] w') (hx : x.own = true) (hy : y.own = true) : HSat M w0 (x :: y :: l) w' := H.call H' (by simp [hx, hy])
end
inductive Key where
  | b (n : Nat)
  | s (v : Value)
class HasKey (l : List Atom) (k : Key) (x : outParam Atom) (r : outParam (List Atom)) : Prop where
  perm : l.Perm (x :: r)
instance (priority := 2000) HasKey.blk (l : List Atom) (b : Nat) (o : Obj) : HasKey (Blk b o :: l) (.b b) (Blk b o) l := ⟨List.Perm.refl _⟩
instance (priority := 2000) HasKey.osl (l : List Atom) (e : TypeId) (v : Value) (sz : Nat) (α : Type) (enc : α → List Value) (xs : List α) : HasKey (OSl e v sz enc xs :: l) (.s v) (OSl e v sz enc xs) l := ⟨List.Perm.refl _⟩
instance (priority := 2000) HasKey.sl (l : List Atom) (v : Value) (sz : Nat) (α : Type) (enc : α → List Value) (xs : List α) : HasKey (Sl v sz enc xs :: l) (.s v) (Sl v sz enc xs) l := ⟨List.Perm.refl _⟩
instance HasKey.there (l : List Atom) (z : Atom) (k : Key) (x : Atom) (r : List Atom) [h : HasKey l k x r] : HasKey (z :: l) k x (z :: r) := ⟨(List.Perm.cons _ h.perm).trans (List.Perm.swap _ _ _)⟩
class HasKeys (l : List Atom) (ks : List Key) (tgt rest : outParam (List Atom)) : Prop where
  perm : l.Perm (tgt ++ rest)
instance HasKeys.nil (l : List Atom) : HasKeys l [] [] l := ⟨List.Perm.refl _⟩
instance HasKeys.cons (l : List Atom) (k : Key) (ks : List Key) (x : Atom) (r t rest : List Atom) [h1 : HasKey l k x r] [h2 : HasKeys r ks t rest] : HasKeys l (k :: ks) (x :: t) rest := ⟨h1.perm.trans (List.Perm.cons x h2.perm)⟩
theorem HSat.takeK {M : Nat → Prop} {w0 w : World} {l : List Atom} (H : HSat M w0 l w) (ks : List Key) {tgt rest : List Atom} [h : HasKeys l ks tgt rest] : HSat M w0 tgt w := (H.perm h.perm).sub (List.sublist_append_left _ _)
theorem HSat.front {M : Nat → Prop} {w0 w : World} {l r : List Atom} {l' : Atom → List Atom} (H : HSat M w0 l w) (x : Atom) [h : HasA l x r l'] : HSat M w0 (x :: r) w := H.perm h.to_
section
variable {P : Program} {ops : Array Oper} {loud tails free rest : List Nat} {ro : List Atom} {K : Act → World → Prop} {n : Sz} {d g : Nat} {fl : Slots} {a : Act} {w0 : World} {M : Nat → Prop} {l : List Atom} {pk : Oper}
/-- the operations of numbers L are passed over when slot g is not b -/
def skipN (ops : Array Oper) (n : Nat) (keys : List Nat) (g : Nat) (b : Bool) (L : List Nat) : Bool :=
  match L.mapM (fun i => ops[i]?) with
  | some os => skipOK ops n keys g b os []
  | none => false
theorem mix_skip {C : World → Prop} (hst : Stable C) (hCD : ∀ w, C w → RO ro w) {b : Bool} {u : Value} (hu : u ≠ .bool b) (hgl : fl.lookup g = some u) :
    ∀ (L : List Nat) (os : List Oper) (ds : List Nat) (a : Act), L.mapM (fun i => ops[i]?) = some os → skipOK ops n.n (fl.map (·.1)) g b os ds = true → St n fl a → (∀ x ∈ ds, x < n.n ∧ a.tmps.getD x undef = undef) →
      (∀ a', St n fl a' → Mix P ops loud tails free (RO ro) K rest a' C) → Mix P ops loud tails free (RO ro) K (L ++ rest) a C := by
  intro L
  induction L with
  | nil => intro os ds a _ _ S _ k; exact k a S
  | cons i r ih =>
    intro os ds a hos hs S hds k
    rw [List.mapM_cons] at hos
    cases ho : ops[i]? with
    | none => rw [ho] at hos; cases hos
    | some o =>
      rw [ho] at hos
      cases hr : r.mapM (fun i => ops[i]?) with
      | none => rw [hr] at hos; cases hos
      | some rs =>
        rw [hr] at hos
        cases hos
        simp only [skipOK] at hs
        split at hs
        · rename_i j b' d hg hd
          simp only [Bool.and_eq_true] at hs
          obtain ⟨⟨⟨⟨h1, h2⟩, h3⟩, h4⟩, h5⟩ := hs
          have hw : Region.wanted o (yielded ops a.tmps) = false := by
            split at h1
            · rename_i gd hgd
              simp only [Bool.and_eq_true, Bool.or_eq_true, beq_iff_eq] at h1
              rcases h1.2 with ⟨e1, e2⟩ | h1'
              · subst e1; subst e2
                exact ug gd hg hgd S hgl hu h1.1
              · have := hds gd (by simpa using h1')
                have Su : St n [(gd, undef)] a := ⟨S.size, S.defers, fun i v hi => by
                  simp only [List.lookup] at hi
                  split at hi
                  · rename_i he; have e : i = gd := by simpa using he
                    subst e; cases hi; exact this.2
                  · cases hi⟩
                exact ug (fl := [(gd, undef)]) (v := undef) gd hg hgd Su (by simp [List.lookup]) (by simp [undef]) h1.1
            · cases h1
          have hrest : Mix P ops loud tails free (RO ro) K (r ++ rest) (a.put o.dst undef) C := by
            rw [hd]
            refine ih rs (d :: ds) _ hr h5 ((S.put h4 undef).keep (by simpa using h2)) ?_ k
            intro x hx
            have hd4 : d < n.n := by simpa using h4
            rcases List.mem_cons.1 hx with rfl | hx
            · exact ⟨hd4, (S.put h4 undef).get _ undef (by simp [List.lookup])⟩
            · have hne : d ≠ x := by rintro rfl; simp [hx] at h3
              refine ⟨(hds x hx).1, ?_⟩
              have := (hds x hx).2
              simp only [Act.put, Array.getD_eq_getD_getElem?] at this ⊢
              rw [Array.getElem?_setIfInBounds_ne hne]; exact this
          refine ⟨o, ho, ?_⟩
          split
          · intro w hC
            exact opw_un hw ⟨C, hst, hC, hCD, .inl (fun _ h => h), hrest⟩
          · exact ⟨undef, .inr ⟨hw, rfl⟩, hrest⟩
        · cases hs
theorem m_or [ROs ro] [HasRO l ro] {B B2 : Bool} {c x y : Operand} {p : Nat} (L : List Nat) (g : Nat) (S : St n fl a) (hB : fl.lookup g = some (.bool B)) (hsk : skipN ops n.n (fl.map (·.1)) g false L = true) (hp : ops[p]? = some pk) (hlp : (loud.contains p || free.contains p) = false) (hpk : pk.op = .pick c x y) (hc : ev fl c = some (.bool B)) (hx : ev fl x = some (.bool true)) (hd : pk.dst = some d) (hn : Nat.blt d n.n = true)
    (hw : ∀ a', St n fl a' → Region.wanted pk (yielded ops a'.tmps) = true)
    (hyes : B = false → (∀ l1 a', St n ((d, .bool (B || B2)) :: fl) a' → Mix P ops loud tails free (RO ro) K rest a' (HSat M w0 (l1 ++ l))) → Mix P ops loud tails free (RO ro) K (L ++ p :: rest) a (HSat M w0 l))
    (k : ∀ l1 a', St n ((d, .bool (B || B2)) :: fl) a' → Mix P ops loud tails free (RO ro) K rest a' (HSat M w0 (l1 ++ l))) : Mix P ops loud tails free (RO ro) K (L ++ p :: rest) a (HSat M w0 l) := by
  cases B with
  | false => exact hyes rfl k
  | true =>
    unfold skipN at hsk
    split at hsk
    · rename_i os hos
      refine mix_skip stable_hsat (RO.of ROs.all) (by simp) hB L os [] a hos hsk S (by simp) fun a' S' => ?_
      exact m_w hp hlp (hw a' S') hd hn S' (v := .bool (true || B2)) (fun w _ => by unfold Yld execOp; rw [hpk]; simp only [S'.ev hc, S'.ev hx]; simp [asBool]) (fun a'' S'' => k [] a'' S'')
    · cases hsk
theorem m_orq [ROs ro] [HasRO l ro] {B B2 : Bool} {c x y : Operand} {p : Nat} (L : List Nat) (g : Nat) (S : St n fl a) (hB : fl.lookup g = some (.bool B)) (hsk : skipN ops n.n (fl.map (·.1)) g false L = true) (hp : ops[p]? = some pk) (hlp : (loud.contains p || free.contains p) = false) (hpk : pk.op = .pick c x y) (hc : ev fl c = some (.bool B)) (hx : ev fl x = some (.bool true)) (hd : pk.dst = some d) (hn : Nat.blt d n.n = true)
    (hw : ∀ a', St n fl a' → Region.wanted pk (yielded ops a'.tmps) = true)
    (hyes : B = false → (∀ a', St n ((d, .bool (B || B2)) :: fl) a' → Mix P ops loud tails free (RO ro) K rest a' (HSat M w0 l)) → Mix P ops loud tails free (RO ro) K (L ++ p :: rest) a (HSat M w0 l))
    (k : ∀ a', St n ((d, .bool (B || B2)) :: fl) a' → Mix P ops loud tails free (RO ro) K rest a' (HSat M w0 l)) : Mix P ops loud tails free (RO ro) K (L ++ p :: rest) a (HSat M w0 l) := by
  cases B with
  | false => exact hyes rfl k
  | true =>
    unfold skipN at hsk
    split at hsk
    · rename_i os hos
      refine mix_skip stable_hsat (RO.of ROs.all) (by simp) hB L os [] a hos hsk S (by simp) fun a' S' => ?_
      exact m_w hp hlp (hw a' S') hd hn S' (v := .bool (true || B2)) (fun w _ => by unfold Yld execOp; rw [hpk]; simp only [S'.ev hc, S'.ev hx]; simp [asBool]) (fun a'' S'' => k a'' S'')
    · cases hsk
instance HasBlk.app (l1 l : List Atom) (b : Nat) (o : Obj) (l' : Obj → List Atom) [h : HasBlk l b o l'] : HasBlk (l1 ++ l) b o (fun o' => l1 ++ l' o') := by
  obtain ⟨k1, k2, h1, h2⟩ := h.at_
  exact ⟨l1 ++ k1, k2, by simp [h1], fun o' => by simp [h2]⟩
instance HasSl.app (l1 l : List Atom) (v : Value) (sz : Nat) (α : Type) (enc : α → List Value) (xs : List α) [h : HasSl l v sz α enc xs] : HasSl (l1 ++ l) v sz α enc xs := ⟨fun w hw => h.at_ w (fun y hy => hw y (List.mem_append_right _ hy))⟩
instance HasO.app (l1 l : List Atom) (e : TypeId) (v : Value) (sz : Nat) (α : Type) (enc : α → List Value) (xs : List α) (l' : Atom → List Atom) [h : HasO l v e sz α enc xs l'] : HasO (l1 ++ l) v e sz α enc xs (fun y => l1 ++ l' y) := by
  obtain ⟨k1, k2, h1, h2⟩ := h.at_
  exact ⟨l1 ++ k1, k2, by simp [h1], fun y => by simp [h2]⟩
theorem HSat.right {M : Nat → Prop} {w0 w : World} {l1 l : List Atom} (H : HSat M w0 (l1 ++ l) w) : HSat M w0 l w := H.sub (List.sublist_append_right _ _)
end
end Go.Gw
