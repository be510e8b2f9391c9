/- Layer 48: how the reference's replicas lie in memory. No condition. -/
import Derived.Test.YtbjknckddoegfaaPlainM
namespace Go.Proofs.Ytbjknckddoegfaa
open Go Go.Gw
set_option linter.unusedSimpArgs false
set_option linter.unusedVariables false
def mK : Msg → Int
  | .ask _ _ _ => 1
  | .vote _ _ => 2
  | .share _ _ _ => 3
  | .ack _ _ => 4
def mL : Msg → Int
  | .ask _ l _ => l
  | _ => 0
def mN : Msg → Int
  | .ask _ _ n => n
  | .ack _ n => n
  | _ => 0
def mB : Msg → Bool
  | .vote _ b => b
  | _ => false
def mV : Msg → Value → Value
  | .share _ _ _, v => v
  | _, _ => .slice none 0 0
def mD : Msg → Int
  | .share _ _ d => (d : Int)
  | _ => 0
def rmC (m : Msg) (v : Value) : List Value := [.int .i64 (mK m), .int .i64 m.term, .int .i64 (mL m), .int .i64 (mN m), .bool (mB m), mV m v, .int .i64 (mD m)]
def encRM (m : MV) : List Value := rmC m.1 m.2
abbrev eB1 : Bool → List Value := fun b => [.bool b]
structure RV where
  lv : Value
  vv : Value
  vs : List Bool
  aw : Value
  ak : List Int
structure RV.Fits (n : Nat) (x : RV) (p : Peer) : Prop where
  v : p.role = 1 → x.vs.length = n ∧ ∀ k, k < n → x.vs.getD k false = p.votes k
  a : p.role = 2 → x.ak.length = n ∧ ∀ k, k < n → x.ak.getD k 0 = p.acks k
  t : -1 ≤ p.vote
abbrev RPCel (pb : Nat) (x : RV) (p : Peer) : Atom := Cel pb 67 [.int .i64 p.term, .int .i64 p.vote, x.lv, .bool p.down, .int .i64 (p.role : Int), .int .i64 (p.done : Int), x.vv, x.aw]
def replL (n pb : Nat) (x : RV) (p : Peer) : List Atom := [RPCel pb x p, OSl 4 x.vv 1 eB1 x.vs, OSl 3 x.aw 1 encI x.ak, PureA (x.Fits n p)]
def ReplA (n pb : Nat) (x : RV) (p : Peer) : Atom := Bun (replL n pb x p)
structure RC where
  b : Nat
  av : Value
  qv : Value
  pb : Nat → Nat
abbrev RCel (c : RC) : Atom := Atom.ro (Cel c.b 62 [c.av, c.qv])
abbrev RPts (c : RC) (n : Nat) : Atom := Atom.ro (OSl 63 c.av 1 (encPt c.pb) (List.range n))
structure RGV where
  p : Nat → RV
  qs : List (Value × List MV)
  mb : List (Value × List MV)
  bag : List (Value × List Ent)
def RGV.row (z : RGV) (n i j : Nat) : Value × List MV := z.qs.getD (i * n + j) (.slice none 0 0, [])
structure ROK (n : Nat) (g : Grp) (z : RGV) : Prop where
  en : g.n = n
  n7 : n ≤ 7
  lg : ∀ i, i < n → ((z.p i).lv, (g.at_ i).log) ∈ z.bag
  ql : z.qs.length = n * n
  qe : ∀ a b, a < n → b < n → (z.row n a b).2.map (·.1) = g.q a b
  qb : ∀ p ∈ z.qs, p ∈ z.mb
  sh : ∀ p ∈ z.qs, ∀ m ∈ p.2, ∀ t l d, m.1 = .share t l d → (m.2, l) ∈ z.bag
  cm : ∀ p ∈ z.mb, capOK p.1
abbrev RPrs (c : RC) (n : Nat) (g : Grp) (z : RGV) : Atom := FamA (List.range n) (fun i => ReplA n (c.pb i) (z.p i) (g.at_ i))
abbrev RQs (c : RC) (z : RGV) : Atom := OSl 74 c.qv 1 encRow z.qs
def RGrpL (c : RC) (n : Nat) (g : Grp) (z : RGV) : List Atom := [RPrs c n g z, RQs c z, BagA 7 encRM z.mb, BagA 2 Ent.enc z.bag, PureA (ROK n g z)]
def RGrpA (c : RC) (n : Nat) (g : Grp) (z : RGV) : Atom := Bun (RGrpL c n g z)
theorem idx_lt {n i j : Nat} (hi : i < n) (hj : j < n) : i * n + j < n * n := by
  have : (i + 1) * n ≤ n * n := Nat.mul_le_mul_right _ hi
  rw [Nat.add_mul] at this
  omega
theorem idx_inj {n a b i j : Nat} (hb : b < n) (hj : j < n) (h : a * n + b = i * n + j) : a = i ∧ b = j := by
  have hn : 0 < n := by omega
  have h1 : (b + a * n) / n = a := by rw [Nat.add_mul_div_right _ _ hn, Nat.div_eq_of_lt hb]; omega
  have h2 : (j + i * n) / n = i := by rw [Nat.add_mul_div_right _ _ hn, Nat.div_eq_of_lt hj]; omega
  have h3 : b + a * n = j + i * n := by omega
  rw [h3] at h1
  have : a = i := by omega
  subst this
  exact ⟨rfl, by omega⟩
theorem ROK.row_mem {n : Nat} {g : Grp} {z : RGV} (hz : ROK n g z) {i j : Nat} (hi : i < n) (hj : j < n) : z.row n i j ∈ z.qs := by
  have h := idx_lt hi hj
  rw [← hz.ql] at h
  unfold RGV.row
  rw [List.getD_eq_getElem?_getD, List.getElem?_eq_getElem h]
  exact List.getElem_mem h
theorem fill7 (a b c d e f g : Value) : Instr.fill (fun i => some (i * 7, 7)) [Value.int .i64 0, .int .i64 0, .int .i64 0, .int .i64 0, .bool false, .slice none 0 0, .int .i64 0].toArray ([0].zip [Value.agg [a, b, c, d, e, f, g].toArray]) = some [a, b, c, d, e, f, g].toArray := by simp [Instr.fill, Value.cells]
section
variable {w w0 : World} {M : Nat → Prop} {l : List Atom}
theorem rgrpOut {c : RC} {n : Nat} {g : Grp} {z : RGV} (H : HSat M w0 (RGrpA c n g z :: l) w) : HSat M w0 (RPrs c n g z :: RQs c z :: BagA 7 encRM z.mb :: BagA 2 Ent.enc z.bag :: l) w ∧ ROK n g z := by
  have h := H.unfold
  unfold RGrpL at h
  refine ⟨h.sub ?_, h.ok (PureA (ROK n g z)) (by simp)⟩
  simp only [List.cons_append, List.nil_append]
  repeat apply List.Sublist.cons_cons
  exact List.sublist_cons_self _ _
theorem rgrpIn {c : RC} {n : Nat} {g : Grp} {z : RGV} (H : HSat M w0 ([RPrs c n g z, RQs c z, BagA 7 encRM z.mb, BagA 2 Ent.enc z.bag] ++ l) w) (hz : ROK n g z) : HSat M w0 (RGrpA c n g z :: l) w := by
  refine HSat.fold (ls := RGrpL c n g z) ((H.laid hz).perm ?_) (by simp [RGrpL, PureA, Blk, OSl, FamA, Bun, BagA])
  unfold RGrpL
  exact (List.perm_middle (a := PureA (ROK n g z)) (l₁ := [RPrs c n g z, RQs c z, BagA 7 encRM z.mb, BagA 2 Ent.enc z.bag]) (l₂ := l)).symm.trans (by simp)
/-- all replicas but one -/
abbrev RRest (c : RC) (n : Nat) (g : Grp) (z : RGV) (i : Nat) : Atom := FamA ((List.range n).erase i) (fun i => ReplA n (c.pb i) (z.p i) (g.at_ i))
theorem replOut {c : RC} {n : Nat} {g : Grp} {z : RGV} (H : HSat M w0 (RPrs c n g z :: l) w) {i : Nat} (hi : i < n) : HSat M w0 (RPCel (c.pb i) (z.p i) (g.at_ i) :: OSl 4 (z.p i).vv 1 eB1 (z.p i).vs :: OSl 3 (z.p i).aw 1 encI (z.p i).ak :: RRest c n g z i :: l) w ∧ (z.p i).Fits n (g.at_ i) := by
  have h := (H.famOut (List.mem_range.2 hi)).unfold
  unfold replL at h
  refine ⟨h.sub ?_, h.ok (PureA ((z.p i).Fits n (g.at_ i))) (by simp)⟩
  simp only [List.cons_append, List.nil_append]
  repeat apply List.Sublist.cons_cons
  exact List.sublist_cons_self _ _
theorem replIn {c : RC} {n : Nat} {g g' : Grp} {z z' : RGV} {i : Nat} (x : RV) (p : Peer) (H : HSat M w0 (RPCel (c.pb i) x p :: OSl 4 x.vv 1 eB1 x.vs :: OSl 3 x.aw 1 encI x.ak :: RRest c n g z i :: l) w) (hi : i < n) (hf : x.Fits n p) (h1 : z'.p i = x) (h2 : g'.at_ i = p) (ho : ∀ j, j < n → j ≠ i → z'.p j = z.p j ∧ g'.at_ j = g.at_ j) :
    HSat M w0 (RPrs c n g' z' :: l) w := by
  have h3 : HSat M w0 (ReplA n (c.pb i) x p :: RRest c n g z i :: l) w := by
    refine HSat.fold (ls := replL n (c.pb i) x p) ((H.laid hf).perm ?_) (by simp [replL, PureA, Blk, OSl])
    unfold replL
    exact (List.perm_middle (a := PureA (x.Fits n p)) (l₁ := [RPCel (c.pb i) x p, OSl 4 x.vv 1 eB1 x.vs, OSl 3 x.aw 1 encI x.ak]) (l₂ := RRest c n g z i :: l)).symm.trans (by simp)
  exact h3.famIn (fun i => ReplA n (c.pb i) (z'.p i) (g'.at_ i)) (List.mem_range.2 hi) List.nodup_range rfl (by rw [h1, h2]) (fun j hj hne => by obtain ⟨e1, e2⟩ := ho j (List.mem_range.1 hj) hne; rw [e1, e2])
/-- a changed replica is put back -/
theorem rputIn {c : RC} {n : Nat} {g : Grp} {z : RGV} {i : Nat} (x : RV) (p : Peer) {bag : List (Value × List Ent)} (H : HSat M w0 ([RPCel (c.pb i) x p, OSl 4 x.vv 1 eB1 x.vs, OSl 3 x.aw 1 encI x.ak, RRest c n g z i, RQs c z, BagA 7 encRM z.mb, BagA 2 Ent.enc bag] ++ l) w) (hz : ROK n g z) (hi : i < n) (hf : x.Fits n p)
    (hsub : ∀ q ∈ z.bag, q ∈ bag) (hl : (x.lv, p.log) ∈ bag) : HSat M w0 (RGrpA c n (g.put i p) { z with p := fun v => if v = i then x else z.p v, bag := bag } :: l) w := by
  have hin : i < g.n := by rw [hz.en]; exact hi
  have hat : (g.put i p).at_ i = p := Grp.put_same p hin
  have hoth : ∀ v, v ≠ i → (g.put i p).at_ v = g.at_ v := fun v hv => Grp.put_ne p hv
  have h1 := replIn (g' := g.put i p) (z' := { z with p := fun v => if v = i then x else z.p v, bag := bag }) x p H hi hf (if_pos rfl) hat (fun j hj hne => ⟨if_neg hne, hoth j hne⟩)
  refine rgrpIn h1 ⟨(Grp.put_n g i p).trans hz.en, hz.n7, fun j hj => ?_, hz.ql, hz.qe, hz.qb, fun a ha m hm t l d e => hsub _ (hz.sh a ha m hm t l d e), hz.cm⟩
  by_cases e : j = i
  · subst e; rw [hat]; show ((if j = j then x else z.p j).lv, p.log) ∈ bag; rw [if_pos rfl]; exact hl
  · rw [hoth j e]; show ((if j = i then x else z.p j).lv, _) ∈ bag; rw [if_neg e]; exact hsub _ (hz.lg j hj)
theorem rputSame {c : RC} {n : Nat} {g : Grp} {z : RGV} {i : Nat} {bag : List (Value × List Ent)} (H : HSat M w0 ([RPCel (c.pb i) (z.p i) (g.at_ i), OSl 4 (z.p i).vv 1 eB1 (z.p i).vs, OSl 3 (z.p i).aw 1 encI (z.p i).ak, RRest c n g z i, RQs c z, BagA 7 encRM z.mb, BagA 2 Ent.enc bag] ++ l) w) (hz : ROK n g z) (hi : i < n) (hf : (z.p i).Fits n (g.at_ i))
    (hsub : ∀ q ∈ z.bag, q ∈ bag) : HSat M w0 (RGrpA c n g { z with bag := bag } :: l) w := by
  have h1 := replIn (g' := g) (z' := { z with bag := bag }) (z.p i) (g.at_ i) H hi hf rfl rfl (fun j hj hne => ⟨rfl, rfl⟩)
  exact rgrpIn h1 ⟨hz.en, hz.n7, fun j hj => hsub _ (hz.lg j hj), hz.ql, hz.qe, hz.qb, fun a ha m hm t l d e => hsub _ (hz.sh a ha m hm t l d e), hz.cm⟩
theorem rowSet {z : RGV} {n a b i j : Nat} {r : Value × List MV} (hb : b < n) (hj : j < n) (ha : a < n) (hi : i < n) (hl : z.qs.length = n * n) : ({ z with qs := z.qs.set (i * n + j) r } : RGV).row n a b = if a = i ∧ b = j then r else z.row n a b := by
  unfold RGV.row
  rw [List.getD_eq_getElem?_getD, List.getElem?_set]
  have hlt := idx_lt hi hj
  by_cases e : a = i ∧ b = j
  · rw [if_pos e, e.1, e.2, if_pos rfl, if_pos (by rw [hl]; exact hlt)]; rfl
  · rw [if_neg e, if_neg (fun h => e (idx_inj hb hj h.symm)), List.getD_eq_getElem?_getD]
/-- a queue has been changed -/
theorem rqueIn {c : RC} {n : Nat} {g g' : Grp} {z : RGV} {i j : Nat} {u : Value} {xs : List MV} {mb : List (Value × List MV)} (H : HSat M w0 ([RPrs c n g z, OSl 74 c.qv 1 encRow (z.qs.set (i * n + j) (u, xs)), BagA 7 encRM mb, BagA 2 Ent.enc z.bag] ++ l) w)
    (hz : ROK n g z) (hi : i < n) (hj : j < n) (hu : (u, xs) ∈ mb) (hsub : ∀ q ∈ z.mb, q ∈ mb) (hcm : ∀ q ∈ mb, capOK q.1) (hm : ∀ m ∈ xs, ∀ t l d, m.1 = .share t l d → (m.2, l) ∈ z.bag) (hn : g'.n = g.n) (ha : ∀ v, g'.at_ v = g.at_ v) (hq : ∀ a b, g'.q a b = if a = i ∧ b = j then xs.map (·.1) else g.q a b) :
    ∃ z', z'.bag = z.bag ∧ HSat M w0 (RGrpA c n g' z' :: l) w := by
  refine ⟨{ z with qs := z.qs.set (i * n + j) (u, xs), mb := mb }, rfl, rgrpIn (HSat.famEq H (fun v _ => by rw [ha])) ⟨hn.trans hz.en, hz.n7, fun v hv => by rw [ha]; exact hz.lg v hv, by rw [List.length_set]; exact hz.ql, fun a b ha' hb' => ?_, fun p hp => ?_, fun p hp m hm' => ?_, hcm⟩⟩
  · have := rowSet (z := z) (r := (u, xs)) hb' hj ha' hi hz.ql
    rw [show ({ z with qs := z.qs.set (i * n + j) (u, xs), mb := mb } : RGV).row n a b = ({ z with qs := z.qs.set (i * n + j) (u, xs) } : RGV).row n a b from rfl, this, hq]
    split
    · rfl
    · exact hz.qe a b ha' hb'
  · rcases List.mem_or_eq_of_mem_set hp with h | h
    · exact hsub _ (hz.qb p h)
    · rw [h]; exact hu
  · rcases List.mem_or_eq_of_mem_set hp with h | h
    · exact hz.sh p h m hm'
    · rw [h] at hm'; exact hm m hm'
theorem rprsCells {c : RC} {n : Nat} {g : Grp} {z : RGV} {i : Nat} (hi : i < n) {w : World} (h : (RPrs c n g z).ok w) : w.heap[c.pb i]? = some (.cells [.int .i64 (g.at_ i).term, .int .i64 (g.at_ i).vote, (z.p i).lv, .bool (g.at_ i).down, .int .i64 ((g.at_ i).role : Int), .int .i64 ((g.at_ i).done : Int), (z.p i).vv, (z.p i).aw].toArray 67 (0, 0)) :=
  ((h.1 (ReplA n (c.pb i) (z.p i) (g.at_ i)) (List.mem_map.2 ⟨i, List.mem_range.2 hi, rfl⟩)).2.1 (RPCel (c.pb i) (z.p i) (g.at_ i)) (by simp [replL])).2
theorem rprsRd {c : RC} {n : Nat} {g : Grp} {z : RGV} {i : Nat} (hi : i < n) : ∀ l : List Atom, HasRd (RPrs c n g z :: l) (c.pb i) (.cells [.int .i64 (g.at_ i).term, .int .i64 (g.at_ i).vote, (z.p i).lv, .bool (g.at_ i).down, .int .i64 ((g.at_ i).role : Int), .int .i64 ((g.at_ i).done : Int), (z.p i).vv, (z.p i).aw].toArray 67 (0, 0)) := fun l => ⟨fun w hw => rprsCells hi (hw (RPrs c n g z) (List.mem_cons_self ..))⟩
theorem rprsRdRo {c : RC} {n : Nat} {g : Grp} {z : RGV} {i : Nat} (hi : i < n) : ∀ l : List Atom, HasRd (Atom.ro (RPrs c n g z) :: l) (c.pb i) (.cells [.int .i64 (g.at_ i).term, .int .i64 (g.at_ i).vote, (z.p i).lv, .bool (g.at_ i).down, .int .i64 ((g.at_ i).role : Int), .int .i64 ((g.at_ i).done : Int), (z.p i).vv, (z.p i).aw].toArray 67 (0, 0)) := fun l => ⟨fun w hw => rprsCells hi (hw (Atom.ro (RPrs c n g z)) (List.mem_cons_self ..))⟩
theorem rgrpReads {c : RC} {n : Nat} {g : Grp} {z : RGV} (H : HSat M w0 (RGrpA c n g z :: RCel c :: RPts c n :: l) w) : HSat No w [Atom.ro (RPrs c n g z), Atom.ro (BagA 2 Ent.enc z.bag), RCel c, RPts c n] w ∧ ROK n g z := by
  obtain ⟨h, hz⟩ := rgrpOut H
  refine ⟨?_, hz⟩
  have h1 := h.reads
  exact h1.sub (by
    simp only [List.map_cons]
    exact List.Sublist.cons_cons _ (List.Sublist.cons _ (List.Sublist.cons _ (List.Sublist.cons_cons _ (List.Sublist.cons_cons _ (List.Sublist.cons_cons _ (List.nil_sublist _)))))))
theorem rmOne {rx : List MV} {bag : List (Value × List Ent)} (hs : ∀ m ∈ rx, ∀ t l d, m.1 = .share t l d → (m.2, l) ∈ bag) (hb : ∀ p ∈ bag, IsSl w p.1 2 Ent.enc p.2) : ∀ m ∈ rx, ∀ u ∈ encRM m, u.oneCell' = true := fun m hm u hu => by
  obtain ⟨x, v⟩ := m
  simp only [encRM, rmC, List.mem_cons, List.not_mem_nil, or_false] at hu
  rcases hu with rfl | rfl | rfl | rfl | rfl | rfl | rfl
  · rfl
  · rfl
  · rfl
  · rfl
  · rfl
  · cases x with
    | share t lg d => exact IsSl.one (hb _ (hs _ hm t lg d rfl))
    | _ => rfl
  · rfl
theorem fillRM {m : Msg} {v : Value} (h : (mV m v).oneCell' = true) : Instr.fill (fun i => some (i * 7, 7)) [Value.int .i64 0, .int .i64 0, .int .i64 0, .int .i64 0, .bool false, .slice none 0 0, .int .i64 0].toArray ([0].zip [Value.agg (rmC m v).toArray]) = some (rmC m v).toArray := fill7 _ _ _ _ _ _ _
theorem rsendIn {c : RC} {n : Nat} {g : Grp} {z : RGV} {i j : Nat} {m : MV} {u rv : Value} {rx : List MV} (H : HSat M w0 ([RPrs c n g z, OSl 74 c.qv 1 encRow (z.qs.set (i * n + j) (u, rx ++ [m])), OSl 76 u 7 encRM (rx ++ [m]), BagA 7 encRM z.mb, BagA 2 Ent.enc z.bag] ++ l) w)
    (hz : ROK n g z) (hi : i < n) (hj : j < n) (hrw : z.row n i j = (rv, rx)) (hm : ∀ t l d, m.1 = .share t l d → (m.2, l) ∈ z.bag) : ∃ z', z'.bag = z.bag ∧ HSat M w0 (RGrpA c n (g.send i j m.1) z' :: l) w := by
  have hcap : capOK u := IsOSl.cap (H.ok (OSl 76 u 7 encRM (rx ++ [m])) (by simp))
  have h1 : HSat M w0 (OSl 76 u 7 encRM (rx ++ [m]) :: BagA 7 encRM z.mb :: ([RPrs c n g z, OSl 74 c.qv 1 encRow (z.qs.set (i * n + j) (u, rx ++ [m])), BagA 2 Ent.enc z.bag] ++ l)) w := by
    refine H.perm ?_
    exact (List.perm_append_comm (l₁ := [RPrs c n g z, OSl 74 c.qv 1 encRow (z.qs.set (i * n + j) (u, rx ++ [m]))]) (l₂ := [OSl 76 u 7 encRM (rx ++ [m]), BagA 7 encRM z.mb])).append_right (BagA 2 Ent.enc z.bag :: l)
  have h2 := h1.bagIn
  have h3 : HSat M w0 ([RPrs c n g z, OSl 74 c.qv 1 encRow (z.qs.set (i * n + j) (u, rx ++ [m])), BagA 7 encRM ((u, rx ++ [m]) :: z.mb), BagA 2 Ent.enc z.bag] ++ l) w :=
    h2.perm (List.perm_middle (a := BagA 7 encRM ((u, rx ++ [m]) :: z.mb)) (l₁ := [RPrs c n g z, OSl 74 c.qv 1 encRow (z.qs.set (i * n + j) (u, rx ++ [m]))]) (l₂ := BagA 2 Ent.enc z.bag :: l)).symm
  have hre := hz.qe i j hi hj
  have hrm := hz.row_mem hi hj
  rw [hrw] at hre hrm
  refine rqueIn h3 hz hi hj (List.mem_cons_self ..) (fun q hq => List.mem_cons_of_mem _ hq) (fun q hq => ?_) (fun x hx => ?_) rfl (fun _ => rfl) (fun a b => ?_)
  · rcases List.mem_cons.1 hq with rfl | hq
    · exact hcap
    · exact hz.cm q hq
  · rcases List.mem_append.1 hx with h | h
    · exact hz.sh _ hrm x h
    · rw [List.mem_singleton.1 h]; exact hm
  · show (if a = i ∧ b = j then g.q a b ++ [m.1] else g.q a b) = _
    split
    · rename_i e; rw [List.map_append, hre, e.1, e.2]; rfl
    · rfl
/-- a log has been copied -/
theorem rshareIn {c : RC} {n : Nat} {g : Grp} {z : RGV} {i : Nat} {u : Value} {l2 : List Ent} (H : HSat M w0 ([OSl 89 u 2 Ent.enc l2, RPCel (c.pb i) (z.p i) (g.at_ i), OSl 4 (z.p i).vv 1 eB1 (z.p i).vs, OSl 3 (z.p i).aw 1 encI (z.p i).ak, RRest c n g z i, RQs c z, BagA 7 encRM z.mb, BagA 2 Ent.enc z.bag] ++ l) w) (hz : ROK n g z) (hi : i < n) (hf : (z.p i).Fits n (g.at_ i)) :
    HSat M w0 (RGrpA c n g { z with bag := (u, l2) :: z.bag } :: l) w := by
  have h1 : HSat M w0 (OSl 89 u 2 Ent.enc l2 :: BagA 2 Ent.enc z.bag :: ([RPCel (c.pb i) (z.p i) (g.at_ i), OSl 4 (z.p i).vv 1 eB1 (z.p i).vs, OSl 3 (z.p i).aw 1 encI (z.p i).ak, RRest c n g z i, RQs c z, BagA 7 encRM z.mb] ++ l)) w := by
    refine H.perm (List.Perm.cons _ ?_)
    exact (List.perm_middle (a := BagA 2 Ent.enc z.bag) (l₁ := [RPCel (c.pb i) (z.p i) (g.at_ i), OSl 4 (z.p i).vv 1 eB1 (z.p i).vs, OSl 3 (z.p i).aw 1 encI (z.p i).ak, RRest c n g z i, RQs c z, BagA 7 encRM z.mb]) (l₂ := l))
  have h2 := h1.bagIn
  have h3 : HSat M w0 ([RPCel (c.pb i) (z.p i) (g.at_ i), OSl 4 (z.p i).vv 1 eB1 (z.p i).vs, OSl 3 (z.p i).aw 1 encI (z.p i).ak, RRest c n g z i, RQs c z, BagA 7 encRM z.mb, BagA 2 Ent.enc ((u, l2) :: z.bag)] ++ l) w :=
    h2.perm (List.perm_middle (a := BagA 2 Ent.enc ((u, l2) :: z.bag)) (l₁ := [RPCel (c.pb i) (z.p i) (g.at_ i), OSl 4 (z.p i).vv 1 eB1 (z.p i).vs, OSl 3 (z.p i).aw 1 encI (z.p i).ak, RRest c n g z i, RQs c z, BagA 7 encRM z.mb]) (l₂ := l)).symm
  exact rputSame h3 hz hi hf (fun q hq => List.mem_cons_of_mem _ hq)
/-- an own slice of entries goes into the bag, wherever this stands -/
theorem rbag2 {u : Value} {l2 : List Ent} {bag : List (Value × List Ent)} {l1 : List Atom} (H : HSat M w0 ((OSl 89 u 2 Ent.enc l2 :: (l1 ++ [BagA 2 Ent.enc bag])) ++ l) w) : HSat M w0 ((l1 ++ [BagA 2 Ent.enc ((u, l2) :: bag)]) ++ l) w := by
  have h1 : HSat M w0 (OSl 89 u 2 Ent.enc l2 :: BagA 2 Ent.enc bag :: (l1 ++ l)) w := by
    refine H.perm ?_
    rw [List.cons_append, List.append_assoc]
    exact List.Perm.cons _ (List.perm_middle (a := BagA 2 Ent.enc bag) (l₁ := l1) (l₂ := l))
  have h2 := h1.bagIn
  refine h2.perm ?_
  rw [List.append_assoc]
  exact (List.perm_middle (a := BagA 2 Ent.enc ((u, l2) :: bag)) (l₁ := l1) (l₂ := l)).symm
end
theorem RV.Fits.step {n : Nat} {x : RV} {p : Peer} (h : x.Fits n p) (t : Int) : x.Fits n (p.step t) := by
  unfold Peer.step; split
  · exact ⟨fun h => (by cases h), fun h => (by cases h), Int.le_refl _⟩
  · exact h
theorem setB {xs : List Bool} {n i : Nat} (hl : xs.length = n) (hi : i < n) (f : Nat → Bool) (h : ∀ k, k < n → xs.getD k false = f k) : (xs.set i true).length = n ∧ ∀ k, k < n → (xs.set i true).getD k false = if k = i then true else f k := by
  refine ⟨by rw [List.length_set]; exact hl, fun k hk => ?_⟩
  rw [List.getD_eq_getElem?_getD, List.getElem?_set]
  by_cases e : i = k
  · rw [if_pos e, if_pos (by omega), if_pos e.symm]; rfl
  · rw [if_neg e, if_neg (fun h => e h.symm), ← h k hk, List.getD_eq_getElem?_getD]
theorem setI {xs : List Int} {n i : Nat} {v : Int} (hl : xs.length = n) (hi : i < n) (f : Nat → Int) (h : ∀ k, k < n → xs.getD k 0 = f k) : (xs.set i v).length = n ∧ ∀ k, k < n → (xs.set i v).getD k 0 = if k = i then v else f k := by
  refine ⟨by rw [List.length_set]; exact hl, fun k hk => ?_⟩
  rw [List.getD_eq_getElem?_getD, List.getElem?_set]
  by_cases e : i = k
  · rw [if_pos e, if_pos (by omega), if_pos e.symm]; rfl
  · rw [if_neg e, if_neg (fun h => e h.symm), ← h k hk, List.getD_eq_getElem?_getD]
def RV.z : RV := ⟨.slice none 0 0, .slice none 0 0, [], .slice none 0 0, []⟩
section
variable {w w0 : World} {M : Nat → Prop} {l : List Atom}
theorem rnewPeer {b n : Nat} (H : HSat M w0 (Cel b 67 [.int .i64 0, .int .i64 (-1), .slice none 0 0, .bool false, .int .i64 0, .int .i64 0, .slice none 0 0, .slice none 0 0] :: l) w) : HSat M w0 (ReplA n b RV.z Peer.z :: l) w := by
  have hf : RV.z.Fits n Peer.z := ⟨fun h => (by cases h), fun h => (by cases h), Int.le_refl _⟩
  have h1 := ((H.laid hf).nilO 3 1 encI).nilO 4 1 eB1
  refine HSat.fold (ls := replL n b RV.z Peer.z) (h1.perm ?_) (by simp [replL, PureA, Blk, OSl])
  have p1 : ([OSl 4 (.slice none 0 0) 1 eB1 [], OSl 3 (.slice none 0 0) 1 encI [], PureA (RV.z.Fits n Peer.z), Cel b 67 [.int .i64 0, .int .i64 (-1), .slice none 0 0, .bool false, .int .i64 0, .int .i64 0, .slice none 0 0, .slice none 0 0]] : List Atom).Perm (replL n b RV.z Peer.z) := (List.perm_append_comm (l₁ := [OSl 4 (.slice none 0 0) 1 eB1 [], OSl 3 (.slice none 0 0) 1 encI [], PureA (RV.z.Fits n Peer.z)]) (l₂ := [RPCel b RV.z Peer.z]))
  exact p1.append_right l
/-- the oldest message has left a queue -/
theorem rpopIn {c : RC} {n : Nat} {g : Grp} {z : RGV} {i j : Nat} {rv : Value} {mv : MV} {rx : List MV} {u : Value} (H : HSat M w0 ([RPrs c n g z, OSl 74 c.qv 1 encRow (z.qs.set (i * n + j) (u, rx)), BagA 7 encRM z.mb, BagA 2 Ent.enc z.bag] ++ l) w)
    (hz : ROK n g z) (hi : i < n) (hj : j < n) (hrw : z.row n i j = (rv, mv :: rx)) (hu : u = subV rv 1 (mv :: rx).length 7) : ∃ z', z'.bag = z.bag ∧ HSat M w0 (RGrpA c n (g.pop i j (rx.map (·.1))) z' :: l) w := by
  have hrm := hz.row_mem hi hj
  rw [hrw] at hrm
  have hmb := hz.qb _ hrm
  have hcap : capOK rv := hz.cm _ hmb
  have h1 : HSat M w0 (BagA 7 encRM z.mb :: ([RPrs c n g z, OSl 74 c.qv 1 encRow (z.qs.set (i * n + j) (u, rx))] ++ (BagA 2 Ent.enc z.bag :: l))) w := H.perm (List.perm_middle (a := BagA 7 encRM z.mb) (l₁ := [RPrs c n g z, OSl 74 c.qv 1 encRow (z.qs.set (i * n + j) (u, rx))]) (l₂ := BagA 2 Ent.enc z.bag :: l))
  have h2 := h1.bagSub (v' := u) (xs' := rx) hmb (fun k hk hne => ⟨by
      subst hu
      cases rv with
      | slice p q s =>
        simp only [subV] at hk
        split at hk
        · cases p with
          | none => simp [Value.ownBlock] at hk
          | some a => simpa [Value.ownBlock] using hk
        · cases p with
          | none => simp [Value.ownBlock] at hk
          | some a =>
            obtain ⟨b, o, sub⟩ := a
            simp only [Option.map_some, Value.ownBlock, Option.some.injEq] at hk
            simp only [Value.ownBlock, Option.some.injEq]
            rw [← hk]; unfold Addr.add; split <;> rfl
      | _ => simp [subV, Value.ownBlock] at hk, by simp⟩) (fun hs => by
      subst hu
      have := hs.sub hcap 1 (mv :: rx).length
      rw [List.take_length] at this
      exact this)
  have h3 : HSat M w0 ([RPrs c n g z, OSl 74 c.qv 1 encRow (z.qs.set (i * n + j) (u, rx)), BagA 7 encRM ((u, rx) :: z.mb), BagA 2 Ent.enc z.bag] ++ l) w := h2.perm (List.perm_middle (a := BagA 7 encRM ((u, rx) :: z.mb)) (l₁ := [RPrs c n g z, OSl 74 c.qv 1 encRow (z.qs.set (i * n + j) (u, rx))]) (l₂ := BagA 2 Ent.enc z.bag :: l)).symm
  refine rqueIn h3 hz hi hj (List.mem_cons_self ..) (fun q hq => List.mem_cons_of_mem _ hq) (fun q hq => ?_) (fun x hx => hz.sh _ hrm x (List.mem_cons_of_mem _ hx)) rfl (fun _ => rfl) (fun a b => rfl)
  rcases List.mem_cons.1 hq with rfl | hq
  · rw [hu]; exact capOK_sub hcap _ _ _
  · exact hz.cm q hq
end
def beginsB (a b : List ByteArray) : Bool := decide (∀ i, i < a.length → i < b.length → a.getD i ⟨#[]⟩ = b.getD i ⟨#[]⟩)
theorem voteSelf {n i : Nat} (hi : i < n) (k : Nat) (hk : k < n) : ((List.replicate n false).set i true).getD k false = decide (k = i) := by
  rw [List.getD_eq_getElem?_getD, List.getElem?_set]
  by_cases e : i = k
  · rw [if_pos e, if_pos (by rw [List.length_replicate]; omega)]; simp [e]
  · rw [if_neg e, List.getElem?_replicate, if_pos hk]; simp; omega
theorem gD {α : Type} {l : List α} {d : α} {k : Nat} (h : k < l.length) : l.getD k d = l[k] := by
  rw [List.getD_eq_getElem?_getD, List.getElem?_eq_getElem h]; rfl
end Go.Proofs.Ytbjknckddoegfaa
