/- Families of atoms, bags of slices that are only read, facts as atoms; interface values and calls through them. No condition. -/
import Derived.Test.YtbjknckddoegfaaGwIns
import Derived.ChangeKeysEq
namespace Go.Gw
set_option linter.unusedVariables false
set_option linter.unusedSimpArgs false
set_option linter.unusedSectionVars false
/-- a fact as an atom -/
def PureA (p : Prop) : Atom := ⟨true, fun _ => False, fun _ => p, fun _ _ _ h => h, fun _ _ _ h => h.elim⟩
/-- the atoms of the keys ks -/
def FamA {ι : Type} (ks : List ι) (f : ι → Atom) : Atom := Bun (ks.map f)
/-- slices that nobody writes any more, all of the call's own -/
def BagA (sz : Nat) {α : Type} (enc : α → List Value) (ps : List (Value × List α)) : Atom where
  own := true
  fp := fun k => ∃ p ∈ ps, p.1.ownBlock = some k ∧ 0 < sz ∧ p.2 ≠ []
  ok := fun w => ∀ p ∈ ps, IsSl w p.1 sz enc p.2
  loc := fun w w' h hok p hp => (Sl p.1 sz enc p.2).loc w w' (fun b hb => h b ⟨p, hp, hb⟩) (hok p hp)
  lt := fun w b hok ⟨p, hp, hb⟩ => (Sl p.1 sz enc p.2).lt w b (hok p hp) hb
theorem bagSl {sz : Nat} {α : Type} {enc : α → List Value} {ps : List (Value × List α)} {v : Value} {xs : List α} (h : (v, xs) ∈ ps) : ∀ l : List Atom, HasSl (BagA sz enc ps :: l) v sz α enc xs := fun l => ⟨fun w hw => hw (BagA sz enc ps) (List.mem_cons_self ..) (v, xs) h⟩
theorem bagSlRo {sz : Nat} {α : Type} {enc : α → List Value} {ps : List (Value × List α)} {v : Value} {xs : List α} (h : (v, xs) ∈ ps) : ∀ l : List Atom, HasSl (Atom.ro (BagA sz enc ps) :: l) v sz α enc xs := fun l => ⟨fun w hw => hw (Atom.ro (BagA sz enc ps)) (List.mem_cons_self ..) (v, xs) h⟩
section
variable {w w0 : World} {M : Nat → Prop} {l : List Atom}
theorem HSat.fact {p : Prop} (H : HSat M w0 (PureA p :: l) w) : p := H.ok (PureA p) (List.mem_cons_self ..)
theorem HSat.laid {p : Prop} (H : HSat M w0 l w) (h : p) : HSat M w0 (PureA p :: l) w :=
  ⟨H.fr, fun x hx => (List.mem_cons.1 hx).elim (fun e => e ▸ h) (H.ok x), fun x hx ho b hb => (List.mem_cons.1 hx).elim (fun e => by subst e; exact (hb : False).elim) (fun hx => H.mine x hx ho b hb), List.pairwise_cons.2 ⟨fun y hy ho b hb => (hb : False).elim, H.sep⟩⟩
/-- two atoms become one -/
theorem HSat.merge {x y z : Atom} (H : HSat M w0 (x :: y :: l) w) (hx : x.own = true) (hy : y.own = true) (hz : z.own = true) (hf : ∀ b, z.fp b → x.fp b ∨ y.fp b) (hok : x.ok w → y.ok w → z.ok w) : HSat M w0 (z :: l) w := by
  have h1 := List.pairwise_cons.1 H.sep
  have h2 := List.pairwise_cons.1 h1.2
  refine ⟨H.fr, fun a ha => ?_, fun a ha ho b hb => ?_, List.pairwise_cons.2 ⟨fun a ha ho b hb => ?_, h2.2⟩⟩
  · rcases List.mem_cons.1 ha with rfl | ha
    · exact hok (H.ok x (by simp)) (H.ok y (by simp))
    · exact H.ok a (by simp [ha])
  · rcases List.mem_cons.1 ha with rfl | ha
    · rcases hf b hb with h | h
      · exact H.mine x (by simp) hx b h
      · exact H.mine y (by simp) hy b h
    · exact H.mine a (by simp [ha]) ho b hb
  · rcases hf b hb with h | h
    · exact h1.1 a (by simp [ha]) (.inl hx) b h
    · exact h2.1 a ha (.inl hy) b h
/-- an own slice goes into the bag -/
theorem HSat.bagIn {e : TypeId} {v : Value} {sz : Nat} {α : Type} {enc : α → List Value} {xs : List α} {ps : List (Value × List α)} (H : HSat M w0 (OSl e v sz enc xs :: BagA sz enc ps :: l) w) : HSat M w0 (BagA sz enc ((v, xs) :: ps) :: l) w :=
  H.merge rfl rfl rfl (fun b ⟨p, hp, hb⟩ => by
    rcases List.mem_cons.1 hp with rfl | hp
    · exact .inl hb.1
    · exact .inr ⟨p, hp, hb⟩) (fun h1 h2 p hp => by
    rcases List.mem_cons.1 hp with rfl | hp
    · exact IsOSl.sl h1
    · exact h2 p hp)
theorem HSat.bagNil (H : HSat M w0 l w) (sz : Nat) {α : Type} (enc : α → List Value) : HSat M w0 (BagA sz enc [(.slice none 0 0, [])] :: l) w := by
  refine ⟨H.fr, fun x hx => ?_, fun x hx ho b hb => ?_, List.pairwise_cons.2 ⟨fun y hy ho b hb => ?_, H.sep⟩⟩
  · rcases List.mem_cons.1 hx with rfl | hx
    · intro p hp; rw [List.mem_singleton.1 hp]; exact IsSl.nil w sz enc
    · exact H.ok x hx
  · rcases List.mem_cons.1 hx with rfl | hx
    · obtain ⟨p, hp, h1, h2, h3⟩ := hb; rw [List.mem_singleton.1 hp] at h3; exact absurd rfl h3
    · exact H.mine x hx ho b hb
  · obtain ⟨p, hp, h1, h2, h3⟩ := hb; rw [List.mem_singleton.1 hp] at h3; exact absurd rfl h3
/-- a part of a slice of the bag -/
theorem HSat.bagSub {sz : Nat} {α : Type} {enc : α → List Value} {ps : List (Value × List α)} {v v' : Value} {xs xs' : List α} (H : HSat M w0 (BagA sz enc ps :: l) w) (hin : (v, xs) ∈ ps) (hb : ∀ k, v'.ownBlock = some k → xs' ≠ [] → v.ownBlock = some k ∧ xs ≠ []) (hs : IsSl w v sz enc xs → IsSl w v' sz enc xs') : HSat M w0 (BagA sz enc ((v', xs') :: ps) :: l) w :=
  H.conv (fun _ => rfl) (fun b ⟨p, hp, h1, h2, h3⟩ => by
    rcases List.mem_cons.1 hp with rfl | hp
    · obtain ⟨a1, a2⟩ := hb b h1 h3
      exact ⟨(v, xs), hin, a1, h2, a2⟩
    · exact ⟨p, hp, h1, h2, h3⟩) (fun hok p hp => by
    rcases List.mem_cons.1 hp with rfl | hp
    · exact hs (hok (v, xs) hin)
    · exact hok p hp)
theorem HSat.bag {sz : Nat} {α : Type} {enc : α → List Value} {ps : List (Value × List α)} (H : HSat M w0 (BagA sz enc ps :: l) w) {v : Value} {xs : List α} (h : (v, xs) ∈ ps) : IsSl w v sz enc xs := H.ok (BagA sz enc ps) (List.mem_cons_self ..) (v, xs) h
section fam
variable {ι : Type} [DecidableEq ι] {ks : List ι} {f : ι → Atom}
theorem HSat.famOut (H : HSat M w0 (FamA ks f :: l) w) {k : ι} (hk : k ∈ ks) : HSat M w0 (f k :: FamA (ks.erase k) f :: l) w := by
  have hown : ∀ x ∈ (ks.erase k).map f, x.own = true := fun x hx => by
    obtain ⟨j, hj, rfl⟩ := List.mem_map.1 hx
    exact ((H.ok (FamA ks f) (List.mem_cons_self ..)).1 (f j) (List.mem_map.2 ⟨j, List.mem_of_mem_erase hj, rfl⟩)).1
  have hp : (ks.map f).Perm (f k :: (ks.erase k).map f) := (List.perm_cons_erase hk).map f
  have h1 := H.unfold.perm (List.Perm.append_right l hp)
  have h2 : HSat M w0 ((ks.erase k).map f ++ (f k :: l)) w := h1.perm (List.perm_middle (a := f k) (l₁ := (ks.erase k).map f) (l₂ := l)).symm
  exact (h2.fold hown).swap2
theorem HSat.famIn {y : Atom} (f' : ι → Atom) {k : ι} (H : HSat M w0 (y :: FamA (ks.erase k) f :: l) w) (hk : k ∈ ks) (hn : ks.Nodup) (hy : y.own = true) (hf : f' k = y) (ho : ∀ j ∈ ks, j ≠ k → f' j = f j) : HSat M w0 (FamA ks f' :: l) w := by
  have hown : ∀ x ∈ (ks.erase k).map f, x.own = true := fun x hx => by
    obtain ⟨j, hj, rfl⟩ := List.mem_map.1 hx
    exact ((H.ok (FamA (ks.erase k) f) (by simp)).1 (f j) (List.mem_map.2 ⟨j, hj, rfl⟩)).1
  have he : (ks.erase k).map f' = (ks.erase k).map f := List.map_congr_left fun j hj => ho j (List.mem_of_mem_erase hj) (fun e => by subst e; exact absurd hj (List.Nodup.not_mem_erase hn))
  have hp : (ks.map f').Perm (y :: (ks.erase k).map f) := by
    have := (List.perm_cons_erase hk).map f'
    rw [List.map_cons, hf, he] at this; exact this
  have h1 : HSat M w0 ((ks.erase k).map f ++ (y :: l)) w := H.swap2.unfold
  have h2 : HSat M w0 ((y :: (ks.erase k).map f) ++ l) w := h1.perm (List.perm_middle (a := y) (l₁ := (ks.erase k).map f) (l₂ := l))
  refine (h2.perm (List.Perm.append_right l hp.symm)).fold (fun x hx => ?_)
  have := hp.mem_iff.1 hx
  rcases List.mem_cons.1 this with rfl | h
  · exact hy
  · exact hown x h
theorem HSat.famEq {f' : ι → Atom} (H : HSat M w0 (FamA ks f :: l) w) (h : ∀ j ∈ ks, f' j = f j) : HSat M w0 (FamA ks f' :: l) w := by
  have : ks.map f' = ks.map f := List.map_congr_left h
  unfold FamA at H ⊢
  rw [this]; exact H
theorem HSat.famNil (H : HSat M w0 l w) (f : ι → Atom) : HSat M w0 (FamA [] f :: l) w := HSat.fold (ls := []) H (by simp)
/-- one more key, at the end -/
theorem HSat.famSnoc {y : Atom} (f' : ι → Atom) {k : ι} (H : HSat M w0 (y :: FamA ks f :: l) w) (hy : y.own = true) (hf : f' k = y) (ho : ∀ j ∈ ks, f' j = f j) : HSat M w0 (FamA (ks ++ [k]) f' :: l) w := by
  have hown : ∀ x ∈ ks.map f, x.own = true := fun x hx => ((H.ok (FamA ks f) (by simp)).1 x hx).1
  have he : (ks ++ [k]).map f' = ks.map f ++ [y] := by rw [List.map_append, List.map_congr_left ho]; simp [hf]
  have h1 : HSat M w0 (ks.map f ++ (y :: l)) w := H.swap2.unfold
  have h2 : HSat M w0 ((ks.map f ++ [y]) ++ l) w := by simpa using h1
  unfold FamA
  rw [he]
  refine h2.fold (fun x hx => ?_)
  rcases List.mem_append.1 hx with h | h
  · exact hown x h
  · rw [List.mem_singleton.1 h]; exact hy
end fam
end
/-- an array of two integers as a key -/
theorem keyOK_a2 {P : Program} {T e : TypeId} (hT : P.underlying T = some (.array 2 e)) (he : P.underlying e = some (.int .i64)) (hs : (P.info? e).map (·.size) = some 1) : KeyOK P T (fun k : Int × Int => Value.agg [.int .i64 k.1, .int .i64 k.2].toArray) := by
  have hsc : scalarB P e = true := by simp [scalarB, he]
  obtain ⟨i, hi⟩ := info_of_underlying he
  have hc : P.cellsOf e = 1 := by rw [hi] at hs; simpa [Program.cellsOf, hi] using hs
  have pt : ∀ (w : World) (cs : Array Value) (o : Nat) (v : Value), cs[o]? = some v → (part e cs o).run P w = .ok v w := by
    intro w cs o v hv
    simp [part, run_isAgg_scalar hsc, hv]
  have eqi : ∀ (w : World) (n : Nat) (x y : Int), (Op.equalIn (n + 1) e (.int .i64 x) (.int .i64 y)).run P w = .ok (x == y) w := by
    intro w n x y
    simp [Op.equalIn, run_underlying he]
  refine ⟨find_asking hT (fun a b => rfl) (fun w a b => ?_), fun em s w => ?_, fun s => ?_⟩
  · obtain ⟨x1, x2⟩ := a
    obtain ⟨y1, y2⟩ := b
    unfold Op.equal Op.maxDepth
    rw [run_equalIn_array w 9999 _ _ hT hi, hc]
    have px1 := pt w #[.int .i64 x1, .int .i64 x2] 0 (.int .i64 x1) rfl
    have px2 := pt w #[.int .i64 x1, .int .i64 x2] 1 (.int .i64 x2) rfl
    have py1 := pt w #[.int .i64 y1, .int .i64 y2] 0 (.int .i64 y1) rfl
    have py2 := pt w #[.int .i64 y1, .int .i64 y2] 1 (.int .i64 y2) rfl
    have key : decide ((x1, x2) = (y1, y2)) = ((x1 == y1) && (x2 == y2)) := by
      rw [Bool.eq_iff_iff]; simp
    rw [key, show List.range 2 = [0, 1] from rfl]
    simp only [Op.eqItems, Sem.run_bind, Nat.zero_mul, Nat.one_mul, px1, px2, py1, py2, Result.andThen_ok, eqi w 9998]
    cases g1 : x1 == y1 <;> simp [px2, py2, eqi w 9998]
    cases g2 : x2 == y2 <;> simpa using g2
  · obtain ⟨x1, x2⟩ := s
    have px1 := pt w #[.int .i64 x1, .int .i64 x2] 0 (.int .i64 x1) rfl
    have px2 := pt w #[.int .i64 x1, .int .i64 x2] 1 (.int .i64 x2) rfl
    unfold Instr.checkKey
    simp only [Sem.run_bind, run_underlying hT, Result.andThen_ok, Std.Legacy.Range.forIn_eq_forIn_range', Std.Legacy.Range.size]
    simp [List.range', run_sizeOf w hi, hc, px1, px2, checkKey_int he em 9998]
  · obtain ⟨x1, x2⟩ := s
    simp [Instr.sameBits]
def notIfaceB (P : Program) (T : TypeId) : Bool := match P.underlying T with
  | some (.interface _) | none => false
  | some _ => true
section
variable {P : Program} {o : Oper} {n : Sz} {fl : Slots} {a : Act} {w w0 : World} {v : Value} {M : Nat → Prop} {l : List Atom} {ops : Array Oper} {d : Nat} {K : Act → World → Prop}
theorem y_mkiface {T : TypeId} {x : Operand} (ho : o.op = .makeInterface T x) (hT : notIfaceB P T = true) (S : St n fl a) (hx : ev fl x = some v) : Yld P o a w (.iface T v) := by
  unfold Yld execOp; rw [ho]; simp only [S.ev hx]
  unfold notIfaceB at hT
  cases hu : P.underlying T with
  | none => rw [hu] at hT; cases hT
  | some d => cases d <;> rw [hu] at hT <;> first | (cases hT; done) | simp [Instr.makeInterface, run_underlying hu]
theorem y_assertY {T xT : TypeId} {x : Operand} (ho : o.op = .typeAssert x xT T true) (hT : notIfaceB P T = true) (S : St n fl a) (hx : ev fl x = some (.iface T v)) : Yld P o a w (.tuple #[v, .bool true]) := by
  unfold Yld execOp; rw [ho]; simp only [S.ev hx]
  unfold notIfaceB at hT
  cases hu : P.underlying T with
  | none => rw [hu] at hT; cases hT
  | some d => cases d <;> rw [hu] at hT <;> first | (cases hT; done) | simp [Instr.typeAssert, run_underlying hu]
theorem y_assertN {T U xT : TypeId} {x : Operand} {z : Value} (hne : U ≠ T) (hz : (P.info? T).bind (·.zero) = some z) (ho : o.op = .typeAssert x xT T true) (hT : notIfaceB P T = true) (S : St n fl a) (hx : ev fl x = some (.iface U v)) : Yld P o a w (.tuple #[z, .bool false]) := by
  unfold Yld execOp; rw [ho]; simp only [S.ev hx]
  unfold notIfaceB at hT
  cases hu : P.underlying T with
  | none => rw [hu] at hT; cases hT
  | some d => cases d <;> rw [hu] at hT <;> first | (cases hT; done) | simp [Instr.typeAssert, run_underlying hu, hne, run_zeroValue hz]
/-- a method called through an interface value of a known type -/
theorem co_invoke {f : FuncId} {T : TypeId} {x : Operand} {xs : Array Operand} {at_ : Array TypeId} {name : String} {vs : List Value} (hm : ∀ w, (method (P.types.size + Made.depth) T v name).run P w = .ok (f, v) w) (ho : o.op = .call { callee := .invoke x name, args := xs, argTypes := at_ }) (he : Enters P f) (S : St n fl a) (hf : ev fl x = some (.iface T v)) (hx : evs fl xs.toList = some vs) : CallOp P o a w f (v :: vs).toArray := by
  have h := S.evs hx
  have h2 : xs.map a.eval = vs.toArray := by rw [← h, ← Array.toList_map]
  have h3 := he (v :: vs).toArray w
  unfold CallOp execOp; rw [ho]
  simp only [resolve, S.ev hf, h2]
  have e1 : (#[Value.iface T v] ++ vs.toArray).extract 1 (#[Value.iface T v] ++ vs.toArray).size = vs.toArray := by simp
  have e2 : (#[v] ++ vs.toArray) = (v :: vs).toArray := by simp
  have e3 : (#[Value.iface T v] ++ vs.toArray)[0]? = some (Value.iface T v) := by simp
  simp only [Sem.run_bind, Sem.run_pure, Result.andThen_ok, invoke, e1, e3, callMethod, program, Sem.run, hm, e2, h3]
theorem op_insert {κ β : Type} {inst : DecidableEq κ} {T kt et : TypeId} {x ix y : Operand} {b : Nat} {kenc : κ → Value} {enc : β → Value} {m : κ → Option β} {c : Nat} {l' : Atom → List Atom} (k : κ) (u : β) (hw : Region.wanted o (yielded ops a.tmps) = true) (hd : o.dst = none) (ho : o.op = .insert T x ix y) (hT : P.underlying T = some (.map kt et)) (S : St n fl a) (H : HSat M w0 l w)
    (hx : ev fl x = some (.map (some b))) [h : HasMap l b κ β inst kenc enc m c l'] (KO : KeyOK P kt kenc) (hi : ev fl ix = some (kenc k)) (hy : ev fl y = some (enc u))
    (kk : ∀ a' w', St n fl a' → HSat M w0 (l' (MapA b kenc enc (upd m k u) (if (m k).isSome = true then c else c + 1))) w' → K a' w') : opw P ops o a w K := by
  have key := op_mapUpdate (o := { o with op := .mapUpdate T x ix y }) (P := P) (ops := ops) (K := K) k u hw hd rfl hT S H hx (h := h) KO hi hy kk
  have he : execOp a.eval o = execOp a.eval { o with op := .mapUpdate T x ix y } := by
    unfold execOp; rw [ho]
  unfold opw at key ⊢
  rw [he]
  exact key
end
end Go.Gw
