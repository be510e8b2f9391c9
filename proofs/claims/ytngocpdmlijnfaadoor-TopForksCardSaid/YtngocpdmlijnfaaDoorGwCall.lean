/- Calls of Go functions, results in memory, loops, guards. No condition. -/
import Derived.Test.YtngocpdmlijnfaaDoorGwMem
import Derived.Deep.LoopGhost
namespace Go.Gw
set_option linter.unusedVariables false
set_option linter.unusedSimpArgs false
/-- the values of a call's operands -/
def evs (fl : Slots) : List Operand → Option (List Value)
  | [] => some []
  | x :: r => match ev fl x, evs fl r with
    | some v, some vs => some (v :: vs)
    | _, _ => none
section
variable {P : Program} {o : Oper} {n : Sz} {fl : Slots} {a : Act} {w w0 : World} {v : Value} {M : Nat → Prop} {l : List Atom}
variable {r : Option Nat} {ops : Array Oper} {Q : Exit → Act → World → Prop} {rest : List Oper} {d : Nat} {K : Act → World → Prop}
theorem St.evs (S : St n fl a) : ∀ {xs : List Operand} {vs : List Value}, Gw.evs fl xs = some vs → xs.map a.eval = vs
  | [], vs, h => by simp [Gw.evs] at h; subst h; rfl
  | x :: r, vs, h => by
    simp only [Gw.evs] at h
    split at h
    · rename_i v vs' h1 h2
      cases h
      simp [S.ev h1, St.evs S h2]
    · cases h
def Enters (P : Program) (f : FuncId) : Prop := ∀ (args : Array Value) (w : World), (callFunc f args).run P w = .ok (.enter f args) w
/-- what runs when a function value is called with arguments -/
def CallOp (P : Program) (o : Oper) (a : Act) (w : World) (f : FuncId) (args : Array Value) : Prop := (execOp a.eval o).run P w = .ok (.enter f args) w
theorem co_func {f : FuncId} {xs : Array Operand} {at_ : Array TypeId} {vs : List Value} (ho : o.op = .call { callee := .value (.func f), args := xs, argTypes := at_ }) (he : Enters P f) (S : St n fl a) (hx : evs fl xs.toList = some vs) : CallOp P o a w f vs.toArray := by
  have h := S.evs hx
  have h2 : xs.map a.eval = vs.toArray := by rw [← h, ← Array.toList_map]
  unfold CallOp execOp; rw [ho]
  simp only [resolve, Act.eval, Deferred.ofValue, h2]
  simpa [invoke] using he vs.toArray w
/-- a closure's call: the arguments, then what it has captured -/
theorem co_value {f : FuncId} {x : Operand} {xs : Array Operand} {at_ : Array TypeId} {vs fi cap : List Value} (ho : o.op = .call { callee := .value x, args := xs, argTypes := at_ }) (he : Enters P f) (S : St n fl a) (hf : ev fl x = some (.func (.func f) fi.toArray cap.toArray)) (hx : evs fl xs.toList = some vs) : CallOp P o a w f (fi ++ vs ++ cap).toArray := by
  have h := S.evs hx
  have h2 : xs.map a.eval = vs.toArray := by rw [← h, ← Array.toList_map]
  unfold CallOp execOp; rw [ho]
  simp only [resolve, S.ev hf, Deferred.ofValue, h2]
  simpa [invoke] using he ((fi ++ vs ++ cap).toArray) w
theorem op_call (hw : Region.wanted o (yielded ops a.tmps) = true) (hd : o.dst = some d) (hn : Nat.blt d n.n = true) {f : FuncId} {args : Array Value} (S : St n fl a) (hc : CallOp P o a w f args) {R : Value → World → Prop} (h : Ret P f args w R)
    (k : ∀ v w', R v w' → ∀ a', St n ((d, v) :: fl) a' → K a' w') : opw P ops o a w K := by
  refine opw_is hw hc ?_
  show Calls P f args w _
  rw [hd]
  exact Calls.mono h fun e w' ⟨v, he, hR⟩ => ⟨v, he, k v w' hR _ (S.put hn v)⟩
theorem y_extract {x : Operand} {i : Nat} {vs : List Value} (ho : o.op = .extract x i) (S : St n fl a) (hx : ev fl x = some (.tuple vs.toArray)) (hv : vs[i]? = some v) : Yld P o a w v := by
  unfold Yld execOp; rw [ho]; simp [S.ev hx, Instr.extract, hv]
theorem y_makeFunc {f : FuncId} {fi cap : Array Operand} {fv cv : List Value} (ho : o.op = .makeFunc (.func f) fi cap) (S : St n fl a) (h1 : evs fl fi.toList = some fv) (h2 : evs fl cap.toList = some cv) : Yld P o a w (.func (.func f) fv.toArray cv.toArray) := by
  have e1 : fi.map a.eval = fv.toArray := by rw [← S.evs h1, ← Array.toList_map]
  have e2 : cap.map a.eval = cv.toArray := by rw [← S.evs h2, ← Array.toList_map]
  unfold Yld execOp; rw [ho]; simp [Instr.makeFunc, e1, e2]
/-- a call that turns atom x into y, wherever x stands -/
theorem Ret.at_ {f : FuncId} {args : Array Value} {x y : Atom} {r : List Atom} {l' : Atom → List Atom} [hA : HasA l x r l'] {R : Value → Prop} (H : HSat M w0 l w) (h : HSat M w0 (x :: r) w → Ret P f args w (fun v w' => R v ∧ HSat M w0 (y :: r) w')) :
    Ret P f args w (fun v w' => R v ∧ HSat M w0 (l' y) w') :=
  (h (H.perm hA.to_)).mono fun v w' ⟨h1, h2⟩ => ⟨h1, h2.perm (hA.back y)⟩
/-- a result that lies in a block -/
theorem retc {fn : Func} {R : Value → World → Prop} {t T b : Nat} {cs : List Value} {T' : TypeId} {fz : Nat × Nat} (hr : fn.results = #[.cell t T]) (S : St n fl a) (H : HSat M w0 l w) (hv : fl.lookup t = some (.pointer (some ⟨b, 0, none⟩)))
    [h : HasRd l b (.cells cs.toArray T' fz)] (hT : aggB P T cs.length = true) (hR : R (.agg cs.toArray) w) (hds : n.ds = [] := by rfl) : endP P fn R .ret a w := by
  refine end_ret S hds (v := .agg cs.toArray) ?_ hR
  have hl := run_loadVar_agg (P := P) (w := w) (p := ⟨b, 0, none⟩) hT (fun j u hu => by rw [add_plain, H.cell h]; simpa using hu)
  have hv' : a.tmps[t]?.getD undef = .pointer (some ⟨b, 0, none⟩) := by rw [← Array.getD_eq_getD_getElem?]; exact S.get t _ hv
  simp [results, hr, hv', asAddr, hl]
/-- A loop: x says what the slots mods x and the atoms hp x hold, flU is what no round turns. -/
theorem loop {X : Type} {c : Code} {flU : Slots} (SU : St n flU a) (mods : X → Slots) (hp : X → List Atom) (inv : X → Prop) (μ : X → Nat) (x0 : X) (S0 : St n (mods x0) a) (H0 : HSat M w0 (hp x0) w) (h0 : inv x0)
    (body : ∀ x a w, St n (mods x ++ flU) a → HSat M w0 (hp x) w → inv x →
      gp r P c (Exit.then (fun a' w' => ∃ y, St n (mods y) a' ∧ St n flU a' ∧ HSat M w0 (hp y) w' ∧ inv y ∧ μ y < μ x) Q) a w) : gp r P (Code.loop c) Q a w := by
  refine g_loop (fun m a w => ∃ x, μ x = m ∧ St n (mods x) a ∧ St n flU a ∧ HSat M w0 (hp x) w ∧ inv x) (μ x0) ⟨x0, rfl, S0, SU, H0, h0⟩ ?_
  rintro m a w ⟨x, rfl, S1, S2, H, hi⟩
  refine g_mono (body x a w (S1.append S2) H hi) ?_
  intro e a' w' hq
  cases e with
  | normal =>
    obtain ⟨y, h1, h2, h3, h4, h5⟩ := hq
    exact ⟨μ y, h5, y, rfl, h1, h2, h3, h4⟩
  | _ => exact hq
/-- an operation under a guard that holds -/
theorem wg (g : Nat) {j : Nat} {b : Bool} (hg : o.guard = some (j, b)) (hj : (ops[j]?).bind (·.dst) = some g) (S : St n fl a) (hb : fl.lookup g = some (.bool b)) (hn : Nat.blt g n.n = true) : Region.wanted o (yielded ops a.tmps) = true := by
  have hv := S.get g _ hb
  have hlt : g < a.tmps.size := by rw [S.size]; simpa using hn
  have : a.tmps[g]? = some (.bool b) := by
    simp only [Array.getD_eq_getD_getElem?] at hv
    rw [Array.getElem?_eq_getElem hlt] at hv ⊢
    simpa using hv
  simp [Region.wanted, hg, yielded, hj, this]
theorem ug (g : Nat) {j : Nat} {b : Bool} (hg : o.guard = some (j, b)) (hj : (ops[j]?).bind (·.dst) = some g) (S : St n fl a) {v : Value} (hb : fl.lookup g = some v) (hv : v ≠ .bool b) (hn : Nat.blt g n.n = true) : Region.wanted o (yielded ops a.tmps) = false := by
  have hv' := S.get g _ hb
  have hlt : g < a.tmps.size := by rw [S.size]; simpa using hn
  have : a.tmps[g]? = some v := by
    simp only [Array.getD_eq_getD_getElem?] at hv'
    rw [Array.getElem?_eq_getElem hlt] at hv' ⊢
    simpa using hv'
  simp only [Region.wanted, hg, yielded, hj, Option.bind_some, this]
  cases v with
  | bool c => cases b <;> cases c <;> simp_all
  | _ => simp
theorem wg' (g : Nat) {j : Nat} {b B : Bool} (hg : o.guard = some (j, b)) (hj : (ops[j]?).bind (·.dst) = some g) (S : St n fl a) (hb : fl.lookup g = some (.bool B)) (h : B = b) (hn : Nat.blt g n.n = true) : Region.wanted o (yielded ops a.tmps) = true := by
  subst h; exact wg g hg hj S hb hn
/-- all of these operations are passed over when slot g is not b -/
def skipOK (ops : Array Oper) (n : Nat) (keys : List Nat) (g : Nat) (b : Bool) : List Oper → List Nat → Bool
  | [], _ => true
  | o :: r, ds =>
    match o.guard, o.dst with
    | some (j, b'), some d =>
      (match (ops[j]?).bind (·.dst) with
        | some gd => Nat.blt gd n && ((gd == g && b' == b) || ds.contains gd)
        | none => false) && !keys.contains d && !ds.contains d && Nat.blt d n && skipOK ops n keys g b r (d :: ds)
    | _, _ => false
theorem St.keep {d : Nat} {v : Value} (S : St n ((d, v) :: fl) a) (h : (fl.map (·.1)).contains d = false) : St n fl a := by
  have := S.old 1 (by simp [disjB] at h ⊢; intro x hx; exact h _ hx)
  simpa using this
theorem skip_all {g : Nat} {b : Bool} {u : Value} {tail : List Oper} (hu : u ≠ .bool b) (hgl : fl.lookup g = some u) :
    ∀ (blk : List Oper) (ds : List Nat) (a : Act), skipOK ops n.n (fl.map (·.1)) g b blk ds = true → St n fl a → (∀ x ∈ ds, x < n.n ∧ a.tmps.getD x undef = undef) →
      (∀ a', St n fl a' → gl P ops Q tail a' w) → gl P ops Q (blk ++ tail) a w := by
  intro blk
  induction blk with
  | nil => intro ds a _ S _ k; exact k a S
  | cons o r ih =>
    intro ds a hs S hds k
    simp only [skipOK] at hs
    split at hs
    · rename_i j b' d hg hd
      simp only [Bool.and_eq_true] at hs
      obtain ⟨⟨⟨⟨h1, h2⟩, h3⟩, h4⟩, h5⟩ := hs
      have hw : Region.wanted o (yielded ops a.tmps) = false := by
        split at h1
        · rename_i gd hgd
          simp only [Bool.and_eq_true, Bool.or_eq_true, beq_iff_eq] at h1
          rcases h1.2 with ⟨e1, e2⟩ | h1'
          · subst e1; subst e2
            exact ug gd hg hgd S hgl hu h1.1
          · have := hds gd (by simpa using h1')
            have Su : St n [(gd, undef)] a := ⟨S.size, S.defers, fun i v hi => by
              simp only [List.lookup] at hi
              split at hi
              · rename_i he; have e : i = gd := by simpa using he
                subst e; cases hi; exact this.2
              · cases hi⟩
            exact ug (fl := [(gd, undef)]) (v := undef) gd hg hgd Su (by simp [List.lookup]) (by simp [undef]) h1.1
        · cases h1
      show gl P ops Q (o :: (r ++ tail)) a w
      refine opw_un hw ?_
      rw [hd]
      refine ih (d :: ds) _ h5 ((S.put h4 undef).keep (by simpa using h2)) ?_ k
      intro x hx
      have hd4 : d < n.n := by simpa using h4
      rcases List.mem_cons.1 hx with rfl | hx
      · exact ⟨hd4, (S.put h4 undef).get _ undef (by simp [List.lookup])⟩
      · have hne : d ≠ x := by rintro rfl; simp [hx] at h3
        refine ⟨(hds x hx).1, ?_⟩
        have := (hds x hx).2
        simp only [Act.put, Array.getD_eq_getD_getElem?] at this ⊢
        rw [Array.getElem?_setIfInBounds_ne hne]; exact this
    · cases hs
/-- a && b, a || b: the operations of b stand under a's guard; the ways meet again at the pick -/
theorem wl_or {M : Nat → Prop} {L rest : List Oper} {pk : Oper} (m g : Nat) {B B2 : Bool} {c x y : Operand} (hL : L = L.take m ++ pk :: rest) (S : St n fl a) (H : HSat M w0 l w) (hB : fl.lookup g = some (.bool B))
    (hsk : skipOK ops n.n (fl.map (·.1)) g false (L.take m) [] = true) (hpk : pk.op = .pick c x y) (hc : ev fl c = some (.bool B)) (hx : ev fl x = some (.bool true)) (hd : pk.dst = some d) (hn : Nat.blt d n.n = true)
    (hw : ∀ a', St n fl a' → Region.wanted pk (yielded ops a'.tmps) = true)
    (hyes : B = false → (∀ a' w', St n ((d, .bool (B || B2)) :: fl) a' → HSat M w0 l w' → gl P ops Q rest a' w') → gl P ops Q L a w)
    (k : ∀ a' w', St n ((d, .bool (B || B2)) :: fl) a' → HSat M w0 l w' → gl P ops Q rest a' w') : gl P ops Q L a w := by
  cases B with
  | false => exact hyes rfl k
  | true =>
    rw [hL]
    refine skip_all (by simp) hB _ [] a hsk S (by simp) fun a' S' => ?_
    refine wl_of (op_y (hw a' S') hd hn S' (v := .bool (true || B2)) ?_ (fun a'' S'' => k a'' w S'' H))
    unfold Yld execOp; rw [hpk]; simp only [S'.ev hc, S'.ev hx]; simp [asBool]
theorem wl_and {M : Nat → Prop} {L rest : List Oper} {pk : Oper} (m g : Nat) {B B2 : Bool} {c x y : Operand} (hL : L = L.take m ++ pk :: rest) (S : St n fl a) (H : HSat M w0 l w) (hB : fl.lookup g = some (.bool B))
    (hsk : skipOK ops n.n (fl.map (·.1)) g true (L.take m) [] = true) (hpk : pk.op = .pick c x y) (hc : ev fl c = some (.bool B)) (hy : ev fl y = some (.bool false)) (hd : pk.dst = some d) (hn : Nat.blt d n.n = true)
    (hw : ∀ a', St n fl a' → Region.wanted pk (yielded ops a'.tmps) = true)
    (hyes : B = true → (∀ a' w', St n ((d, .bool (B && B2)) :: fl) a' → HSat M w0 l w' → gl P ops Q rest a' w') → gl P ops Q L a w)
    (k : ∀ a' w', St n ((d, .bool (B && B2)) :: fl) a' → HSat M w0 l w' → gl P ops Q rest a' w') : gl P ops Q L a w := by
  cases B with
  | true => exact hyes rfl k
  | false =>
    rw [hL]
    refine skip_all (by simp) hB _ [] a hsk S (by simp) fun a' S' => ?_
    refine wl_of (op_y (hw a' S') hd hn S' (v := .bool (false && B2)) ?_ (fun a'' S'' => k a'' w S'' H))
    unfold Yld execOp; rw [hpk]; simp only [S'.ev hc, S'.ev hy]; simp [asBool]
/-- the pick at the end of the way on which b was reckoned -/
theorem y_or' {c x y : Operand} {B B2 : Bool} (ho : o.op = .pick c x y) (h : B = false) (S : St n fl a) (hc : ev fl c = some (.bool B)) (hy : ev fl y = some (.bool B2)) : Yld P o a w (.bool (B || B2)) := by
  subst h; unfold Yld execOp; rw [ho]; simp only [S.ev hc, S.ev hy]; simp [asBool]
theorem y_and' {c x y : Operand} {B B2 : Bool} (ho : o.op = .pick c x y) (h : B = true) (S : St n fl a) (hc : ev fl c = some (.bool B)) (hx : ev fl x = some (.bool B2)) : Yld P o a w (.bool (B && B2)) := by
  subst h; unfold Yld execOp; rw [ho]; simp only [S.ev hc, S.ev hx]; simp [asBool]
/-- forget all but slot d and what was there before the m newest -/
theorem St.join {fl' : Slots} (S : St n fl' a) (m d : Nat) {v : Value} (h : fl'.lookup d = some v) (hm : disjB m fl' = true) : St n ((d, v) :: fl'.drop m) a := (S.old m hm).cons S d h
end
end Go.Gw
