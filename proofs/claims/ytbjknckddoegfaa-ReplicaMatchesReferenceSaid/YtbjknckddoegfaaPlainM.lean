/- Layer 48: how replicas lie in memory. No condition. -/
import Derived.Test.YtbjknckddoegfaaPlainZb
import Derived.Test.YtbjknckddoegfaaGwFam
namespace Go.Proofs.Ytbjknckddoegfaa
open Go Go.Gw
set_option linter.unusedSimpArgs false
set_option linter.unusedVariables false
/-- a message, and the slice that it carries -/
abbrev MV := Msg × Value
def msgV : Msg → Value → Value
  | .ask t l n, _ => .iface 81 (.agg [.int .i64 t, .int .i64 l, .int .i64 n].toArray)
  | .vote t b, _ => .iface 91 (.agg [.int .i64 t, .bool b].toArray)
  | .share t l d, v => .iface 93 (.agg [.int .i64 t, v, .int .i64 (d : Int)].toArray)
  | .ack t n, _ => .iface 95 (.agg [.int .i64 t, .int .i64 n].toArray)
def encM (m : MV) : List Value := [msgV m.1 m.2]
theorem fillM (m : MV) : Instr.fill (fun i => some (i * 1, 1)) [Value.nilIface].toArray ([0].zip [msgV m.1 m.2]) = some [msgV m.1 m.2].toArray := by
  obtain ⟨x, v⟩ := m
  cases x <;> rfl
abbrev kI : Int → Value := fun n => .int .i64 n
abbrev eB : Bool → Value := fun b => .bool b
abbrev eV : Value → Value := fun v => v
abbrev kQ : Int × Int → Value := fun k => .agg [.int .i64 k.1, .int .i64 k.2].toArray
/-- "follower", "candidate", "leader" -/
def roleS : Nat → ByteArray
  | 1 => ⟨#[99, 97, 110, 100, 105, 100, 97, 116, 101]⟩
  | 2 => ⟨#[108, 101, 97, 100, 101, 114]⟩
  | _ => ⟨#[102, 111, 108, 108, 111, 119, 101, 114]⟩
theorem roleS_lead (r : Nat) : decide (roleS r = ⟨#[108, 101, 97, 100, 101, 114]⟩) = decide (r = 2) := by
  match r with
  | 0 => decide
  | 1 => decide
  | 2 => decide
  | r + 3 => rw [Bool.eq_iff_iff, decide_eq_true_eq, decide_eq_true_eq]; exact ⟨fun h => by simp [roleS] at h, fun h => by omega⟩
theorem roleS_cand (r : Nat) : decide (roleS r = ⟨#[99, 97, 110, 100, 105, 100, 97, 116, 101]⟩) = decide (r = 1) := by
  match r with
  | 0 => decide
  | 1 => decide
  | 2 => decide
  | r + 3 => rw [Bool.eq_iff_iff, decide_eq_true_eq, decide_eq_true_eq]; exact ⟨fun h => by simp [roleS] at h, fun h => by omega⟩
/-- a map of the replica's, or nil -/
def OMap (b : Option Nat) {β : Type} (enc : β → Value) (m : Int → Option β) (c : Nat) : Atom := match b with
  | none => PureA (m = fun _ => none)
  | some b => MapA b kI enc m c
theorem OMap_own (b : Option Nat) {β : Type} (enc : β → Value) (m : Int → Option β) (c : Nat) : (OMap b enc m c).own = true := by cases b <;> rfl
structure PV where
  lv : Value
  vb : Option Nat
  vm : Int → Option Bool
  vc : Nat
  ab : Option Nat
  am : Int → Option Int
  ac : Nat
def PV.z : PV := ⟨.slice none 0 0, none, fun _ => none, 0, none, fun _ => none, 0⟩
structure PV.Fits (x : PV) (p : Peer) : Prop where
  v : ∀ k : Nat, (x.vm (k : Int)).getD false = p.votes k
  a : ∀ k : Nat, (x.am (k : Int)).getD 0 = p.acks k
def peerC (x : PV) (p : Peer) : List Value := [.int .i64 p.term, .int .i64 p.vote, x.lv, .bool p.down, .string (roleS p.role), .int .i64 (p.done : Int), .map x.vb, .map x.ab]
def peerL (pb : Nat) (x : PV) (p : Peer) : List Atom := [Cel pb 58 (peerC x p), OMap x.vb eB x.vm x.vc, OMap x.ab kI x.am x.ac, PureA (x.Fits p)]
def PeerA (pb : Nat) (x : PV) (p : Peer) : Atom := Bun (peerL pb x p)
def QueA (m : Option Value) (xs : List MV) : Atom := match m with
  | none => PureA (xs = [])
  | some v => QSl 73 v encM xs
theorem QueA_own (m : Option Value) (xs : List MV) : (QueA m xs).own = true := by cases m <;> rfl
def encPt (pb : Nat → Nat) (i : Nat) : List Value := [.pointer (some ⟨pb i, 0, none⟩)]
def QuesA (n : Nat) (qm : Int × Int → Option Value) (qv : Nat → Nat → List MV) : Atom := FamA (List.range n) fun a => FamA (List.range n) fun b => QueA (qm ((a : Int), (b : Int))) (qv a b)
/-- all queues but one -/
def QueR (n : Nat) (a b : Nat) (qm : Int × Int → Option Value) (qv : Nat → Nat → List MV) : Atom :=
  Bun [FamA ((List.range n).erase b) (fun b => QueA (qm ((a : Int), (b : Int))) (qv a b)), FamA ((List.range n).erase a) (fun a => FamA (List.range n) fun b => QueA (qm ((a : Int), (b : Int))) (qv a b))]
/-- where a group lies: what stays -/
structure GC where
  b : Nat
  pv : Value
  qb : Nat
  pb : Nat → Nat
abbrev GCel (c : GC) : Atom := Atom.ro (Cel c.b 52 [c.pv, .map (some c.qb)])
abbrev GPts (c : GC) (n : Nat) : Atom := Atom.ro (OSl 53 c.pv 1 (encPt c.pb) (List.range n))
structure GV where
  p : Nat → PV
  qm : Int × Int → Option Value
  qc : Nat
  qv : Nat → Nat → List MV
  bag : List (Value × List Ent)
structure GOK (n : Nat) (g : Grp) (z : GV) : Prop where
  en : g.n = n
  n7 : n ≤ 7
  lg : ∀ i, i < n → ((z.p i).lv, (g.at_ i).log) ∈ z.bag
  qe : ∀ a b, (z.qv a b).map (·.1) = g.q a b
  sh : ∀ a b, ∀ m ∈ z.qv a b, ∀ t l d, m.1 = .share t l d → (m.2, l) ∈ z.bag
  vb : ∀ i, i < n → (g.at_ i).role = 1 → (z.p i).vb ≠ none
  ab : ∀ i, i < n → (g.at_ i).role = 2 → (z.p i).ab ≠ none
  cp : ∀ p ∈ z.bag, capOK p.1
abbrev PrsA (c : GC) (n : Nat) (g : Grp) (z : GV) : Atom := FamA (List.range n) (fun i => PeerA (c.pb i) (z.p i) (g.at_ i))
def GrpL (c : GC) (n : Nat) (g : Grp) (z : GV) : List Atom := [PrsA c n g z, MapA c.qb kQ eV z.qm z.qc, QuesA n z.qm z.qv, BagA 2 Ent.enc z.bag, PureA (GOK n g z)]
def GrpA (c : GC) (n : Nat) (g : Grp) (z : GV) : Atom := Bun (GrpL c n g z)
section
variable {w w0 : World} {M : Nat → Prop} {l : List Atom}
theorem grpOut {c : GC} {n : Nat} {g : Grp} {z : GV} (H : HSat M w0 (GrpA c n g z :: l) w) : HSat M w0 (PrsA c n g z :: MapA c.qb kQ eV z.qm z.qc :: QuesA n z.qm z.qv :: BagA 2 Ent.enc z.bag :: l) w ∧ GOK n g z := by
  have h := H.unfold
  unfold GrpL at h
  refine ⟨h.sub ?_, h.ok (PureA (GOK n g z)) (by simp)⟩
  simp only [List.cons_append, List.nil_append]
  repeat apply List.Sublist.cons_cons
  exact List.sublist_cons_self _ _
theorem grpIn {c : GC} {n : Nat} {g : Grp} {z : GV} (H : HSat M w0 ([PrsA c n g z, MapA c.qb kQ eV z.qm z.qc, QuesA n z.qm z.qv, BagA 2 Ent.enc z.bag] ++ l) w) (hz : GOK n g z) : HSat M w0 (GrpA c n g z :: l) w := by
  refine HSat.fold (ls := GrpL c n g z) ((H.laid hz).perm ?_) (by simp [GrpL, PureA, Blk, OSl, FamA, Bun, MapA, QuesA, BagA])
  unfold GrpL
  exact (List.perm_middle (a := PureA (GOK n g z)) (l₁ := [PrsA c n g z, MapA c.qb kQ eV z.qm z.qc, QuesA n z.qm z.qv, BagA 2 Ent.enc z.bag]) (l₂ := l)).symm.trans (by simp)
abbrev PCel (pb : Nat) (x : PV) (p : Peer) : Atom := Cel pb 58 [.int .i64 p.term, .int .i64 p.vote, x.lv, .bool p.down, .string (roleS p.role), .int .i64 (p.done : Int), .map x.vb, .map x.ab]
/-- all peers but one -/
abbrev PRest (c : GC) (n : Nat) (g : Grp) (z : GV) (i : Nat) : Atom := FamA ((List.range n).erase i) (fun i => PeerA (c.pb i) (z.p i) (g.at_ i))
theorem peerOut {c : GC} {n : Nat} {g : Grp} {z : GV} (H : HSat M w0 (PrsA c n g z :: l) w) {i : Nat} (hi : i < n) : HSat M w0 (PCel (c.pb i) (z.p i) (g.at_ i) :: OMap (z.p i).vb eB (z.p i).vm (z.p i).vc :: OMap (z.p i).ab kI (z.p i).am (z.p i).ac :: PRest c n g z i :: l) w ∧ (z.p i).Fits (g.at_ i) := by
  have h := (H.famOut (List.mem_range.2 hi)).unfold
  unfold peerL at h
  refine ⟨h.sub ?_, h.ok (PureA ((z.p i).Fits (g.at_ i))) (by simp)⟩
  simp only [List.cons_append, List.nil_append]
  repeat apply List.Sublist.cons_cons
  exact List.sublist_cons_self _ _
theorem peerIn {c : GC} {n : Nat} {g g' : Grp} {z z' : GV} {i : Nat} (x : PV) (p : Peer) (H : HSat M w0 (PCel (c.pb i) x p :: OMap x.vb eB x.vm x.vc :: OMap x.ab kI x.am x.ac :: PRest c n g z i :: l) w) (hi : i < n) (hf : x.Fits p) (h1 : z'.p i = x) (h2 : g'.at_ i = p) (ho : ∀ j, j < n → j ≠ i → z'.p j = z.p j ∧ g'.at_ j = g.at_ j) :
    HSat M w0 (PrsA c n g' z' :: l) w := by
  have h3 : HSat M w0 (PeerA (c.pb i) x p :: PRest c n g z i :: l) w := by
    refine HSat.fold (ls := peerL (c.pb i) x p) ((H.laid hf).perm ?_) (by simp [peerL, PureA, Blk, OMap_own])
    unfold peerL
    exact (List.perm_middle (a := PureA (x.Fits p)) (l₁ := [Cel (c.pb i) 58 (peerC x p), OMap x.vb eB x.vm x.vc, OMap x.ab kI x.am x.ac]) (l₂ := PRest c n g z i :: l)).symm.trans (by simp)
  exact h3.famIn (fun i => PeerA (c.pb i) (z'.p i) (g'.at_ i)) (List.mem_range.2 hi) List.nodup_range rfl (by rw [h1, h2]) (fun j hj hne => by obtain ⟨e1, e2⟩ := ho j (List.mem_range.1 hj) hne; rw [e1, e2])
theorem queOut {n : Nat} {qm : Int × Int → Option Value} {qv : Nat → Nat → List MV} (H : HSat M w0 (QuesA n qm qv :: l) w) {a b : Nat} (ha : a < n) (hb : b < n) : HSat M w0 (QueA (qm ((a : Int), (b : Int))) (qv a b) :: QueR n a b qm qv :: l) w := by
  have h1 := H.famOut (List.mem_range.2 ha)
  have h2 := h1.famOut (f := fun b : Nat => QueA (qm ((a : Int), (b : Int))) (qv a b)) (List.mem_range.2 hb)
  have h3 : HSat M w0 ([FamA ((List.range n).erase b) (fun b => QueA (qm ((a : Int), (b : Int))) (qv a b)), FamA ((List.range n).erase a) (fun a => FamA (List.range n) fun b => QueA (qm ((a : Int), (b : Int))) (qv a b))] ++ (QueA (qm ((a : Int), (b : Int))) (qv a b) :: l)) w := h2.perm (List.perm_middle (a := QueA (qm ((a : Int), (b : Int))) (qv a b)) (l₁ := [FamA ((List.range n).erase b) (fun b => QueA (qm ((a : Int), (b : Int))) (qv a b)), FamA ((List.range n).erase a) (fun a => FamA (List.range n) fun b => QueA (qm ((a : Int), (b : Int))) (qv a b))]) (l₂ := l)).symm
  exact (h3.fold (by simp [FamA, Bun])).swap2
theorem queIn {n : Nat} {qm qm' : Int × Int → Option Value} {qv qv' : Nat → Nat → List MV} {a b : Nat} {m : Option Value} {xs : List MV} (H : HSat M w0 (QueA m xs :: QueR n a b qm qv :: l) w) (ha : a < n) (hb : b < n) (h1 : qm' ((a : Int), (b : Int)) = m) (h2 : qv' a b = xs) (ho : ∀ c d, c < n → d < n → ¬ (c = a ∧ d = b) → qm' ((c : Int), (d : Int)) = qm ((c : Int), (d : Int)) ∧ qv' c d = qv c d) : HSat M w0 (QuesA n qm' qv' :: l) w := by
  have h3 := H.swap2.unfold
  have h4 : HSat M w0 (QueA m xs :: FamA ((List.range n).erase b) (fun b => QueA (qm ((a : Int), (b : Int))) (qv a b)) :: FamA ((List.range n).erase a) (fun a => FamA (List.range n) fun b => QueA (qm ((a : Int), (b : Int))) (qv a b)) :: l) w := h3.perm (List.perm_middle (a := QueA m xs) (l₁ := [FamA ((List.range n).erase b) (fun b => QueA (qm ((a : Int), (b : Int))) (qv a b)), FamA ((List.range n).erase a) (fun a => FamA (List.range n) fun b => QueA (qm ((a : Int), (b : Int))) (qv a b))]) (l₂ := l))
  have h5 := h4.famIn (fun b : Nat => QueA (qm' ((a : Int), (b : Int))) (qv' a b)) (List.mem_range.2 hb) List.nodup_range (QueA_own m xs) (by rw [h1, h2]) (fun j hj hne => by obtain ⟨e1, e2⟩ := ho a j ha (List.mem_range.1 hj) (fun e => hne e.2); rw [e1, e2])
  exact h5.famIn (fun a : Nat => FamA (List.range n) fun b => QueA (qm' ((a : Int), (b : Int))) (qv' a b)) (List.mem_range.2 ha) List.nodup_range rfl rfl (fun j hj hne => by
    have hj := List.mem_range.1 hj
    show FamA (List.range n) _ = FamA (List.range n) _
    unfold FamA
    congr 1
    refine List.map_congr_left fun k hk => ?_
    obtain ⟨e1, e2⟩ := ho j k hj (List.mem_range.1 hk) (fun e => hne e.1)

    rw [e1, e2])
/-- an own slice of one element, not nil, as a queue -/
theorem ownQ {e : TypeId} {v : Value} {α : Type} {enc : α → List Value} {xs : List α} (H : HSat M w0 (OSl e v 1 enc xs :: l) w) (hn : v ≠ .slice none 0 0) : HSat M w0 (QSl e v enc xs :: l) w := by
  refine H.conv (fun _ => rfl) (fun k hk => hk) (fun hok => ?_)
  have hok : IsOSl w e v 1 enc xs := hok
  rcases hok.row.2 with ⟨rfl, _⟩ | ⟨g, cap, cur, rfl, _, hg, hnc, hcm, hcs, ht⟩
  · exact absurd rfl hn
  · refine ⟨hok.len, hok.sizes, g, 0, cap, cur, rfl, hg, hnc, hcm, by omega, fun j u hu => ?_⟩
    rw [← ht, List.getElem?_take] at hu
    split at hu
    · simpa using hu
    · cases hu
/-- a message has been sent -/
theorem sendIn {c : GC} {n : Nat} {g : Grp} {z : GV} {i j : Nat} {m : MV} {u : Value} {k : Nat} (H : HSat M w0 ([QSl 73 u encM (z.qv i j ++ [m]), QueR n i j z.qm z.qv, PrsA c n g z, MapA c.qb kQ eV (upd z.qm ((i : Int), (j : Int)) u) k, BagA 2 Ent.enc z.bag] ++ l) w)
    (hz : GOK n g z) (hi : i < n) (hj : j < n) (hm : ∀ t l d, m.1 = .share t l d → (m.2, l) ∈ z.bag) : ∃ z', z'.bag = z.bag ∧ HSat M w0 (GrpA c n (g.send i j m.1) z' :: l) w := by
  have h1 : HSat M w0 (QueA (some u) (z.qv i j ++ [m]) :: QueR n i j z.qm z.qv :: ([PrsA c n g z, MapA c.qb kQ eV (upd z.qm ((i : Int), (j : Int)) u) k, BagA 2 Ent.enc z.bag] ++ l)) w := H
  have h2 := queIn (qm' := upd z.qm ((i : Int), (j : Int)) u) (qv' := fun a b => if a = i ∧ b = j then z.qv i j ++ [m] else z.qv a b) h1 hi hj (upd_same _ _ _) (if_pos ⟨rfl, rfl⟩) (fun c d _ _ hne => ⟨upd_ne _ _ (fun e => hne (by simp only [Prod.mk.injEq] at e; omega)), if_neg hne⟩)
  have hz' : GOK n (g.send i j m.1) { z with qm := upd z.qm ((i : Int), (j : Int)) u, qc := k, qv := fun a b => if a = i ∧ b = j then z.qv i j ++ [m] else z.qv a b } := by
    refine ⟨hz.en, hz.n7, hz.lg, fun a b => ?_, fun a b x hx => ?_, hz.vb, hz.ab, hz.cp⟩
    · show (if a = i ∧ b = j then z.qv i j ++ [m] else z.qv a b).map (·.1) = (if a = i ∧ b = j then g.q a b ++ [m.1] else g.q a b)
      split
      · rename_i e; rw [List.map_append, hz.qe, e.1, e.2]; rfl
      · exact hz.qe a b
    · have hx : x ∈ (if a = i ∧ b = j then z.qv i j ++ [m] else z.qv a b) := hx
      split at hx
      · rcases List.mem_append.1 hx with h | h
        · exact hz.sh i j x h
        · rw [List.mem_singleton.1 h]; exact hm
      · exact hz.sh a b x hx
  have h3 := h2.perm (List.perm_middle (a := QuesA n (upd z.qm ((i : Int), (j : Int)) u) (fun a b => if a = i ∧ b = j then z.qv i j ++ [m] else z.qv a b)) (l₁ := [PrsA c n g z, MapA c.qb kQ eV (upd z.qm ((i : Int), (j : Int)) u) k]) (l₂ := BagA 2 Ent.enc z.bag :: l)).symm
  exact ⟨{ z with qm := upd z.qm ((i : Int), (j : Int)) u, qc := k, qv := fun a b => if a = i ∧ b = j then z.qv i j ++ [m] else z.qv a b }, rfl, grpIn (g := g.send i j m.1) h3 hz'⟩
/-- a changed replica is put back -/
theorem putIn {c : GC} {n : Nat} {g : Grp} {z : GV} {i : Nat} (x : PV) (p : Peer) {bag : List (Value × List Ent)} (H : HSat M w0 ([PCel (c.pb i) x p, OMap x.vb eB x.vm x.vc, OMap x.ab kI x.am x.ac, PRest c n g z i, MapA c.qb kQ eV z.qm z.qc, QuesA n z.qm z.qv, BagA 2 Ent.enc bag] ++ l) w) (hz : GOK n g z) (hi : i < n) (hf : x.Fits p)
    (hsub : ∀ q ∈ z.bag, q ∈ bag) (hcp : ∀ q ∈ bag, capOK q.1) (hl : (x.lv, p.log) ∈ bag) (hv : p.role = 1 → x.vb ≠ none) (ha : p.role = 2 → x.ab ≠ none) : HSat M w0 (GrpA c n (g.put i p) { z with p := fun v => if v = i then x else z.p v, bag := bag } :: l) w := by
  have hin : i < g.n := by rw [hz.en]; exact hi
  have hat : (g.put i p).at_ i = p := Grp.put_same p hin
  have hoth : ∀ v, v ≠ i → (g.put i p).at_ v = g.at_ v := fun v hv => Grp.put_ne p hv
  have h1 := peerIn (g' := g.put i p) (z' := { z with p := fun v => if v = i then x else z.p v, bag := bag }) x p H hi hf (if_pos rfl) hat (fun j hj hne => ⟨if_neg hne, hoth j hne⟩)
  refine grpIn h1 ⟨(Grp.put_n g i p).trans hz.en, hz.n7, fun j hj => ?_, hz.qe, fun a b m hm t l d e => hsub _ (hz.sh a b m hm t l d e), fun j hj hr => ?_, fun j hj hr => ?_, hcp⟩
  · by_cases e : j = i
    · subst e; rw [hat]; show ((if j = j then x else z.p j).lv, p.log) ∈ bag; rw [if_pos rfl]; exact hl
    · rw [hoth j e]; show ((if j = i then x else z.p j).lv, _) ∈ bag; rw [if_neg e]; exact hsub _ (hz.lg j hj)
  · by_cases e : j = i
    · subst e; rw [hat] at hr; show (if j = j then x else z.p j).vb ≠ none; rw [if_pos rfl]; exact hv hr
    · rw [hoth j e] at hr; show (if j = i then x else z.p j).vb ≠ none; rw [if_neg e]; exact hz.vb j hj hr
  · by_cases e : j = i
    · subst e; rw [hat] at hr; show (if j = j then x else z.p j).ab ≠ none; rw [if_pos rfl]; exact ha hr
    · rw [hoth j e] at hr; show (if j = i then x else z.p j).ab ≠ none; rw [if_neg e]; exact hz.ab j hj hr
theorem putSame {c : GC} {n : Nat} {g : Grp} {z : GV} {i : Nat} {bag : List (Value × List Ent)} (H : HSat M w0 ([PCel (c.pb i) (z.p i) (g.at_ i), OMap (z.p i).vb eB (z.p i).vm (z.p i).vc, OMap (z.p i).ab kI (z.p i).am (z.p i).ac, PRest c n g z i, MapA c.qb kQ eV z.qm z.qc, QuesA n z.qm z.qv, BagA 2 Ent.enc bag] ++ l) w) (hz : GOK n g z) (hi : i < n) (hf : (z.p i).Fits (g.at_ i))
    (hsub : ∀ q ∈ z.bag, q ∈ bag) (hcp : ∀ q ∈ bag, capOK q.1) : HSat M w0 (GrpA c n g { z with bag := bag } :: l) w := by
  have h1 := peerIn (g' := g) (z' := { z with bag := bag }) (z.p i) (g.at_ i) H hi hf rfl rfl (fun j hj hne => ⟨rfl, rfl⟩)
  exact grpIn h1 ⟨hz.en, hz.n7, fun j hj => hsub _ (hz.lg j hj), hz.qe, fun a b m hm t l d e => hsub _ (hz.sh a b m hm t l d e), hz.vb, hz.ab, hcp⟩
/-- a log has been cloned -/
theorem shareIn {c : GC} {n : Nat} {g : Grp} {z : GV} {i : Nat} {u : Value} {l2 : List Ent} (H : HSat M w0 ([OSl 87 u 2 Ent.enc l2, PCel (c.pb i) (z.p i) (g.at_ i), OMap (z.p i).vb eB (z.p i).vm (z.p i).vc, OMap (z.p i).ab kI (z.p i).am (z.p i).ac, PRest c n g z i, MapA c.qb kQ eV z.qm z.qc, QuesA n z.qm z.qv, BagA 2 Ent.enc z.bag] ++ l) w) (hz : GOK n g z) (hi : i < n) (hf : (z.p i).Fits (g.at_ i)) (hc : capOK u) :
    HSat M w0 (GrpA c n g { z with bag := (u, l2) :: z.bag } :: l) w := by
  have h1 : HSat M w0 (OSl 87 u 2 Ent.enc l2 :: BagA 2 Ent.enc z.bag :: ([PCel (c.pb i) (z.p i) (g.at_ i), OMap (z.p i).vb eB (z.p i).vm (z.p i).vc, OMap (z.p i).ab kI (z.p i).am (z.p i).ac, PRest c n g z i, MapA c.qb kQ eV z.qm z.qc, QuesA n z.qm z.qv] ++ l)) w := by
    refine H.perm ?_
    simp only [List.cons_append, List.nil_append]
    exact List.Perm.cons _ (List.perm_middle (a := BagA 2 Ent.enc z.bag) (l₁ := [PCel (c.pb i) (z.p i) (g.at_ i), OMap (z.p i).vb eB (z.p i).vm (z.p i).vc, OMap (z.p i).ab kI (z.p i).am (z.p i).ac, PRest c n g z i, MapA c.qb kQ eV z.qm z.qc, QuesA n z.qm z.qv]) (l₂ := l))
  have h2 := h1.bagIn
  have h3 : HSat M w0 ([PCel (c.pb i) (z.p i) (g.at_ i), OMap (z.p i).vb eB (z.p i).vm (z.p i).vc, OMap (z.p i).ab kI (z.p i).am (z.p i).ac, PRest c n g z i, MapA c.qb kQ eV z.qm z.qc, QuesA n z.qm z.qv, BagA 2 Ent.enc ((u, l2) :: z.bag)] ++ l) w := by
    refine h2.perm ?_
    simp only [List.cons_append, List.nil_append]
    exact (List.perm_middle (a := BagA 2 Ent.enc ((u, l2) :: z.bag)) (l₁ := [PCel (c.pb i) (z.p i) (g.at_ i), OMap (z.p i).vb eB (z.p i).vm (z.p i).vc, OMap (z.p i).ab kI (z.p i).am (z.p i).ac, PRest c n g z i, MapA c.qb kQ eV z.qm z.qc, QuesA n z.qm z.qv]) (l₂ := l)).symm
  exact putSame h3 hz hi hf (fun q hq => List.mem_cons_of_mem _ hq) (fun q hq => by
    rcases List.mem_cons.1 hq with rfl | hq
    · exact hc
    · exact hz.cp q hq)
/-- all but peer i and queue (a, b) -/
theorem popIn {c : GC} {n : Nat} {g : Grp} {z : GV} {a b : Nat} {v : Value} {mv : MV} {rv : List MV} {k m1 : Nat} (H : HSat M w0 ([QSl 73 v encM (mv :: rv), QueR n a b z.qm z.qv, PCel (c.pb b) (z.p b) (g.at_ b), OMap (z.p b).vb eB (z.p b).vm (z.p b).vc, OMap (z.p b).ab kI (z.p b).am (z.p b).ac, PRest c n g z b, MapA c.qb kQ eV (upd z.qm ((a : Int), (b : Int)) (subV v 1 m1 1)) k, BagA 2 Ent.enc z.bag] ++ l) w)
    (hz : GOK n g z) (ha : a < n) (hb : b < n) (hf : (z.p b).Fits (g.at_ b)) (hq : z.qv a b = mv :: rv) (hm : m1 = (mv :: rv).length) : ∃ z', z'.bag = z.bag ∧ HSat M w0 (GrpA c n (g.pop a b (rv.map (·.1))) z' :: l) w := by
  subst hm
  have h0 : HSat M w0 (QSl 73 (subV v 1 (mv :: rv).length 1) encM rv :: QueR n a b z.qm z.qv :: ([PCel (c.pb b) (z.p b) (g.at_ b), OMap (z.p b).vb eB (z.p b).vm (z.p b).vc, OMap (z.p b).ab kI (z.p b).am (z.p b).ac, PRest c n g z b, MapA c.qb kQ eV (upd z.qm ((a : Int), (b : Int)) (subV v 1 (mv :: rv).length 1)) k, BagA 2 Ent.enc z.bag] ++ l)) w := HSat.cutQ (xs := mv :: rv) H 1 (by simp)
  have h2 := queIn (m := some (subV v 1 (mv :: rv).length 1)) (xs := rv) (qm' := upd z.qm ((a : Int), (b : Int)) (subV v 1 (mv :: rv).length 1)) (qv' := fun x y => if x = a ∧ y = b then rv else z.qv x y) h0 ha hb (upd_same _ _ _) (if_pos ⟨rfl, rfl⟩) (fun c d _ _ hne => ⟨upd_ne _ _ (fun e => hne (by simp only [Prod.mk.injEq] at e; omega)), if_neg hne⟩)
  have h3 : HSat M w0 (PCel (c.pb b) (z.p b) (g.at_ b) :: OMap (z.p b).vb eB (z.p b).vm (z.p b).vc :: OMap (z.p b).ab kI (z.p b).am (z.p b).ac :: PRest c n g z b :: (MapA c.qb kQ eV (upd z.qm ((a : Int), (b : Int)) (subV v 1 (mv :: rv).length 1)) k :: QuesA n (upd z.qm ((a : Int), (b : Int)) (subV v 1 (mv :: rv).length 1)) (fun x y => if x = a ∧ y = b then rv else z.qv x y) :: BagA 2 Ent.enc z.bag :: l)) w := by
    refine h2.perm ?_
    exact (List.perm_middle (a := QuesA n (upd z.qm ((a : Int), (b : Int)) (subV v 1 (mv :: rv).length 1)) (fun x y => if x = a ∧ y = b then rv else z.qv x y)) (l₁ := [PCel (c.pb b) (z.p b) (g.at_ b), OMap (z.p b).vb eB (z.p b).vm (z.p b).vc, OMap (z.p b).ab kI (z.p b).am (z.p b).ac, PRest c n g z b, MapA c.qb kQ eV (upd z.qm ((a : Int), (b : Int)) (subV v 1 (mv :: rv).length 1)) k]) (l₂ := BagA 2 Ent.enc z.bag :: l)).symm
  have h4 := peerIn (g' := g.pop a b (rv.map (·.1))) (z' := { z with qm := upd z.qm ((a : Int), (b : Int)) (subV v 1 (mv :: rv).length 1), qc := k, qv := fun x y => if x = a ∧ y = b then rv else z.qv x y }) (z.p b) (g.at_ b) h3 hb hf rfl rfl (fun j hj hne => ⟨rfl, rfl⟩)
  refine ⟨{ z with qm := upd z.qm ((a : Int), (b : Int)) (subV v 1 (mv :: rv).length 1), qc := k, qv := fun x y => if x = a ∧ y = b then rv else z.qv x y }, rfl, grpIn h4 ⟨hz.en, hz.n7, hz.lg, fun x y => ?_, fun x y m hm => ?_, hz.vb, hz.ab, hz.cp⟩⟩
  · show (if x = a ∧ y = b then rv else z.qv x y).map (·.1) = (if x = a ∧ y = b then rv.map (·.1) else g.q x y)
    split
    · rfl
    · exact hz.qe x y
  · have hm : m ∈ (if x = a ∧ y = b then rv else z.qv x y) := hm
    split at hm
    · exact hz.sh a b m (by rw [hq]; exact List.mem_cons_of_mem _ hm)
    · exact hz.sh x y m hm
theorem queBack {c : GC} {n : Nat} {g : Grp} {z : GV} {a b : Nat} {m : Option Value} (H : HSat M w0 ([QueA m (z.qv a b), QueR n a b z.qm z.qv, PrsA c n g z, MapA c.qb kQ eV z.qm z.qc, BagA 2 Ent.enc z.bag] ++ l) w) (hz : GOK n g z) (ha : a < n) (hb : b < n) (hm : z.qm ((a : Int), (b : Int)) = m) : HSat M w0 (GrpA c n g z :: l) w := by
  have h1 : HSat M w0 (QueA m (z.qv a b) :: QueR n a b z.qm z.qv :: ([PrsA c n g z, MapA c.qb kQ eV z.qm z.qc, BagA 2 Ent.enc z.bag] ++ l)) w := H
  have h2 := queIn (qm' := z.qm) (qv' := z.qv) h1 ha hb hm rfl (fun c d _ _ _ => ⟨rfl, rfl⟩)
  have h3 := h2.perm (List.perm_middle (a := QuesA n z.qm z.qv) (l₁ := [PrsA c n g z, MapA c.qb kQ eV z.qm z.qc]) (l₂ := BagA 2 Ent.enc z.bag :: l)).symm
  exact grpIn h3 hz
/-- a replica is read where it stands -/
theorem prsCells {c : GC} {n : Nat} {g : Grp} {z : GV} {i : Nat} (hi : i < n) {w : World} (h : (PrsA c n g z).ok w) : w.heap[c.pb i]? = some (.cells [.int .i64 (g.at_ i).term, .int .i64 (g.at_ i).vote, (z.p i).lv, .bool (g.at_ i).down, .string (roleS (g.at_ i).role), .int .i64 ((g.at_ i).done : Int), .map (z.p i).vb, .map (z.p i).ab].toArray 58 (0, 0)) :=
  ((h.1 (PeerA (c.pb i) (z.p i) (g.at_ i)) (List.mem_map.2 ⟨i, List.mem_range.2 hi, rfl⟩)).2.1 (Cel (c.pb i) 58 (peerC (z.p i) (g.at_ i))) (by simp [peerL])).2
theorem prsRd {c : GC} {n : Nat} {g : Grp} {z : GV} {i : Nat} (hi : i < n) : ∀ l : List Atom, HasRd (PrsA c n g z :: l) (c.pb i) (.cells [.int .i64 (g.at_ i).term, .int .i64 (g.at_ i).vote, (z.p i).lv, .bool (g.at_ i).down, .string (roleS (g.at_ i).role), .int .i64 ((g.at_ i).done : Int), .map (z.p i).vb, .map (z.p i).ab].toArray 58 (0, 0)) := fun l => ⟨fun w hw => prsCells hi (hw (PrsA c n g z) (List.mem_cons_self ..))⟩
theorem prsRdRo {c : GC} {n : Nat} {g : Grp} {z : GV} {i : Nat} (hi : i < n) : ∀ l : List Atom, HasRd (Atom.ro (PrsA c n g z) :: l) (c.pb i) (.cells [.int .i64 (g.at_ i).term, .int .i64 (g.at_ i).vote, (z.p i).lv, .bool (g.at_ i).down, .string (roleS (g.at_ i).role), .int .i64 ((g.at_ i).done : Int), .map (z.p i).vb, .map (z.p i).ab].toArray 58 (0, 0)) := fun l => ⟨fun w hw => prsCells hi (hw (Atom.ro (PrsA c n g z)) (List.mem_cons_self ..))⟩
theorem grpReads {c : GC} {n : Nat} {g : Grp} {z : GV} (H : HSat M w0 (GrpA c n g z :: GCel c :: GPts c n :: l) w) : HSat No w [Atom.ro (PrsA c n g z), Atom.ro (BagA 2 Ent.enc z.bag), GCel c, GPts c n] w ∧ GOK n g z := by
  obtain ⟨h, hz⟩ := grpOut H
  refine ⟨?_, hz⟩
  have h1 := h.reads
  exact h1.sub (by
    simp only [List.map_cons]
    exact List.Sublist.cons_cons _ (List.Sublist.cons _ (List.Sublist.cons _ (List.Sublist.cons_cons _ (List.Sublist.cons_cons _ (List.Sublist.cons_cons _ (List.nil_sublist _)))))))
/-- an own slice goes into the bag, wherever this stands -/
theorem bag2 {u : Value} {l2 : List Ent} {bag : List (Value × List Ent)} {l1 : List Atom} (H : HSat M w0 ((OSl 87 u 2 Ent.enc l2 :: (l1 ++ [BagA 2 Ent.enc bag])) ++ l) w) : HSat M w0 ((l1 ++ [BagA 2 Ent.enc ((u, l2) :: bag)]) ++ l) w := by
  have h1 : HSat M w0 (OSl 87 u 2 Ent.enc l2 :: BagA 2 Ent.enc bag :: (l1 ++ l)) w := by
    refine H.perm ?_
    rw [List.cons_append, List.append_assoc]
    exact List.Perm.cons _ (List.perm_middle (a := BagA 2 Ent.enc bag) (l₁ := l1) (l₂ := l))
  have h2 := h1.bagIn
  refine h2.perm ?_
  rw [List.append_assoc]
  exact (List.perm_middle (a := BagA 2 Ent.enc ((u, l2) :: bag)) (l₁ := l1) (l₂ := l)).symm
/-- elements written otherwise -/
theorem oslEnc {e : TypeId} {v : Value} {sz : Nat} {α : Type} {enc : α → List Value} {xs : List α} (H : HSat M w0 (OSl e v sz enc xs :: l) w) (enc' : α → List Value) (h : ∀ x ∈ xs, enc' x = enc x) : HSat M w0 (OSl e v sz enc' xs :: l) w := by
  have hf : xs.flatMap enc' = xs.flatMap enc := by
    unfold List.flatMap
    rw [List.map_congr_left h]
  refine H.conv (fun _ => rfl) (fun k hk => hk) (fun hok => ?_)
  have hok : IsOSl w e v sz enc xs := hok
  exact ⟨by rw [hf]; exact hok.row, hok.len, fun x hx => by rw [h x hx]; exact hok.sizes x hx⟩
theorem newPeer {b : Nat} (H : HSat M w0 (Cel b 58 [.int .i64 0, .int .i64 (-1), .slice none 0 0, .bool false, .string ⟨#[102, 111, 108, 108, 111, 119, 101, 114]⟩, .int .i64 0, .map none, .map none] :: l) w) : HSat M w0 (PeerA b PV.z Peer.z :: l) w := by
  have hf : PV.z.Fits Peer.z := ⟨fun _ => rfl, fun _ => rfl⟩
  have h1 := (((H.laid hf).laid (p := PV.z.am = fun _ => none) rfl).laid (p := PV.z.vm = fun _ => none) rfl)
  refine HSat.fold (ls := peerL b PV.z Peer.z) (h1.perm ?_) (by simp [peerL, PureA, Blk, OMap_own])
  exact (List.perm_append_comm (l₁ := [PureA (PV.z.vm = fun _ => none), PureA (PV.z.am = fun _ => none), PureA (PV.z.Fits Peer.z)]) (l₂ := [Cel b 58 (peerC PV.z Peer.z)])).append_right l
theorem quesNil (H : HSat M w0 l w) (n : Nat) : HSat M w0 (QuesA n (fun _ => none) (fun _ _ => []) :: l) w := by
  have inner : ∀ {l : List Atom}, HSat M w0 l w → ∀ m : Nat, HSat M w0 (FamA (List.range m) (fun _ : Nat => QueA none []) :: l) w := fun H m => by
    induction m with
    | zero => exact H.famNil _
    | succ m ih =>
      rw [List.range_succ]
      exact (ih.laid (p := ([] : List MV) = []) rfl).famSnoc (fun _ : Nat => QueA none []) rfl rfl (fun _ _ => rfl)
  have outer : ∀ m : Nat, HSat M w0 (FamA (List.range m) (fun _ : Nat => FamA (List.range n) fun _ : Nat => QueA none []) :: l) w := fun m => by
    induction m with
    | zero => exact H.famNil _
    | succ m ih =>
      rw [List.range_succ]
      exact (inner ih n).famSnoc (fun _ : Nat => FamA (List.range n) fun _ : Nat => QueA none []) rfl rfl (fun _ _ => rfl)
  exact outer n
/-- what an operation needs to know of a group -/
structure Fit (g : Grp) : Prop where
  ri : ∃ γ, RI g γ
  lim : Lim g 100000 1000000
  q : g.qs ≤ 800000
end
theorem ldPt {pb : Nat → Nat} {n i : Nat} (h : i < n) : (encPt pb ((List.range n).getD i 0))[0]? = some (.pointer (some ⟨pb i, 0, none⟩)) := by
  rw [List.getD_eq_getElem?_getD, List.getElem?_range h]; rfl
theorem Grp.allTo_succ (g : Grp) (i : Nat) (m : Msg) (k : Nat) : (k ≠ i → (g.allTo i m k).send i k m = g.allTo i m (k + 1)) ∧ (k = i → g.allTo i m (k + 1) = g.allTo i m k) := by
  refine ⟨fun h => ?_, fun h => ?_⟩
  · unfold Grp.allTo Grp.send
    congr 1
    funext a b
    dsimp only
    by_cases e : a = i ∧ b = k
    · rw [if_pos e, if_neg (by omega), if_pos (by omega)]
    · rw [if_neg e]
      by_cases e2 : a = i ∧ b ≠ i ∧ b < k
      · rw [if_pos e2, if_pos (by omega)]
      · rw [if_neg e2, if_neg (by omega)]
  · unfold Grp.allTo
    congr 1
    funext a b
    by_cases e2 : a = i ∧ b ≠ i ∧ b < k
    · rw [if_pos e2, if_pos (by omega)]
    · rw [if_neg e2, if_neg (by omega)]
theorem Grp.allTo_zero (g : Grp) (i : Nat) (m : Msg) : g.allTo i m 0 = g := by
  unfold Grp.allTo
  have : (fun a b => if a = i ∧ b ≠ i ∧ b < 0 then g.q a b ++ [m] else g.q a b) = g.q := by
    funext a b; rw [if_neg (by omega)]
  rw [this]
theorem Grp.allTo_q (g : Grp) (i : Nat) (m : Msg) (k : Nat) : (g.allTo i m k).q i k = g.q i k := if_neg (by omega)
theorem count_succ (k : Nat) (f : Nat → Bool) : count (k + 1) f = count k f + if f k = true then 1 else 0 := by
  unfold count
  rw [List.range_succ, List.filter_append, List.length_append]
  by_cases h : f k = true <;> simp [h]
theorem count_le (k : Nat) (f : Nat → Bool) : count k f ≤ k := by
  unfold count
  have := List.length_filter_le f (List.range k)
  rwa [List.length_range] at this
theorem comK_low {ok : Nat → Bool} {d : Nat} : ∀ {k : Nat}, k ≤ d → comK ok d k = none
  | 0, _ => rfl
  | k + 1, h => by unfold comK; rw [if_neg (by omega)]
theorem comK_yes {ok : Nat → Bool} {d k : Nat} (h : d < k) (h1 : ok k = true) : comK ok d k = some k := by
  match k, h with
  | k + 1, h => unfold comK; rw [if_pos (by omega), if_pos h1]
theorem comK_no {ok : Nat → Bool} {d k : Nat} (h1 : ok (k + 1) = false) : comK ok d (k + 1) = if k + 1 > d then comK ok d k else none := by
  show (if k + 1 > d then _ else _) = _
  rw [if_neg (show ¬ ok (k + 1) = true by simp [h1])]
theorem comOk_is {g : Grp} {n i k : Nat} {B : Bool} (hn : g.n = n) (h0 : 0 < k) (hk : ((k : Int) - 1).toNat < (g.at_ i).log.length) (h : ((maj n fun f => decide (f = i) || decide ((g.at_ i).acks f ≥ (k : Int))) && (g.at_ i).log[((k : Int) - 1).toNat].term == (g.at_ i).term) = B) : comOk g i k = B := by
  rw [← h]
  unfold comOk
  rw [hn]
  congr 1
  have e : ((k : Int) - 1).toNat = k - 1 := by omega
  rw [List.getD_eq_getElem?_getD, List.getElem?_eq_getElem (show k - 1 < _ by omega)]
  simp only [e, Option.getD_some]
  rw [Bool.eq_iff_iff]; simp
theorem PV.Fits.step {x : PV} {p : Peer} (h : x.Fits p) (t : Int) : x.Fits (p.step t) := by unfold Peer.step; split; exact ⟨h.v, h.a⟩; exact h
theorem step_role {p : Peer} {t : Int} {r : Nat} (h0 : r ≠ 0) (h : (p.step t).role = r) : p.role = r := by unfold Peer.step at h; split at h; exact absurd h.symm h0; exact h
theorem step_yes {p : Peer} {t : Int} (h : p.term < t) : p.step t = { p with term := t, vote := -1, role := 0 } := by unfold Peer.step; rw [if_pos h]
theorem step_no {p : Peer} {t : Int} (h : ¬ p.term < t) : p.step t = p := by unfold Peer.step; rw [if_neg h]
theorem updI {β : Type} (m : Int → Option β) (i k : Nat) (x d : β) : (upd m (i : Int) x (k : Int)).getD d = if k = i then x else (m (k : Int)).getD d := by
  unfold upd
  by_cases h : k = i
  · subst h; simp
  · rw [if_neg (by omega), if_neg h]
def hasB (n : Nat) (i : Int) : Bool := decide (0 ≤ i) && decide (i < (n : Int))
theorem hasB_nat (n i : Nat) : hasB n (i : Int) = decide (i < n) := by unfold hasB; rw [Bool.eq_iff_iff]; simp
theorem sumN_one {f : Nat → Nat} {i : Nat} : ∀ {n : Nat}, i < n → f i ≤ sumN n f
  | 0, h => by omega
  | n + 1, h => by
    unfold sumN
    by_cases e : i = n
    · subst e; omega
    · have := sumN_one (f := f) (i := i) (n := n) (by omega); omega
theorem qw_len (l : List Msg) : l.length ≤ qw l := by
  induction l with
  | nil => simp [qw]
  | cons m r ih =>
    rw [qw_cons, List.length_cons]
    have : 0 < m.wt := by cases m <;> simp [Msg.wt]
    omega
theorem Fit.len {g : Grp} (h : Fit g) (a b : Nat) : (g.q a b).length ≤ 800000 := by
  obtain ⟨γ, R⟩ := h.ri
  cases hq : g.q a b with
  | nil => simp
  | cons m r =>
    have hm := R.msgs a b m (by rw [hq]; exact List.mem_cons_self ..)
    have h1 := sumN_one (f := fun b => qw (g.q a b)) hm.2.1
    have h2 := sumN_one (f := fun a => sumN g.n fun b => qw (g.q a b)) hm.1
    have h3 := qw_len (g.q a b)
    have h4 := h.q
    unfold Grp.qs at h4
    rw [hq] at h1 h3
    omega
theorem all_q_len (g : Grp) (i : Nat) (m : Msg) (a b : Nat) : ((g.all i m).q a b).length ≤ (g.q a b).length + 1 := by
  show (if a = i ∧ b ≠ i ∧ b < g.n then g.q a b ++ [m] else g.q a b).length ≤ _
  split <;> simp
theorem comOk_is2 {g : Grp} {n i k : Nat} {B : Bool} (hn : g.n = n) (h0 : 0 < k) (hk : ((k : Int) - 1).toNat < (g.at_ i).log.length) (h : (decide (2 * ((count n fun f => decide (f = i) || decide ((g.at_ i).acks f ≥ (k : Int)) : Nat) : Int) > (n : Int)) && (g.at_ i).log[((k : Int) - 1).toNat].term == (g.at_ i).term) = B) : comOk g i k = B := by
  refine comOk_is hn h0 hk ?_
  rw [← h]
  congr 1
  unfold maj
  rw [decide_eq_decide]; omega
def electE (g : Grp) (i : Nat) : Int := if i < g.n then (if (g.at_ i).down = true then 12 else 0) else 1
def crashE (g : Grp) (i : Nat) (b : Bool) : Int := if i < g.n then (if (g.at_ i).down = b then 12 else 0) else 1
def comR (g : Grp) (i : Nat) : List ByteArray := if i < g.n then (g.at_ i).recs else []
def encS (s : ByteArray) : List Value := [.string s]
def propX (g : Grp) (r : ByteArray) : Int × Int := if r.size > 200 then (0, 3) else match bestTo g g.n with
  | none => (0, 12)
  | some i => if (g.at_ i).log.length ≥ 100 then (0, 23) else (((g.at_ i).log.length : Int), 0)
def atZ : Option Nat → Int
  | none => -1
  | some i => (i : Int)
end Go.Proofs.Ytbjknckddoegfaa
