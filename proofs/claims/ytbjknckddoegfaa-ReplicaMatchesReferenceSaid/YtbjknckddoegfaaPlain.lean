/- Plain definitions for layer 48: replicas that agree on records. No program in sight. No condition. -/
import Derived.Test.YtbjknckddoegfaaGwIns
namespace Go.Proofs.Ytbjknckddoegfaa
open Go Go.Gw
set_option linter.unusedSimpArgs false
set_option linter.unusedVariables false
def encI (n : Int) : List Value := [.int .i64 n]
structure Ent where
  term : Int
  txt : ByteArray
  deriving DecidableEq
def Ent.enc (e : Ent) : List Value := [.int .i64 e.term, .string e.txt]
def Ent.z : Ent := ⟨0, ⟨#[]⟩⟩
inductive Msg where
  | ask (t l n : Int)
  | vote (t : Int) (g : Bool)
  | share (t : Int) (log : List Ent) (d : Nat)
  | ack (t n : Int)
def Msg.term : Msg → Int
  | .ask t _ _ => t
  | .vote t _ => t
  | .share t _ _ => t
  | .ack t _ => t
/-- role: 0 follower, 1 candidate, 2 leader -/
structure Peer where
  term : Int
  vote : Int
  log : List Ent
  down : Bool
  role : Nat
  done : Nat
  votes : Nat → Bool
  acks : Nat → Int
def Peer.z : Peer := ⟨0, -1, [], false, 0, 0, fun _ => false, fun _ => 0⟩
def lastT (l : List Ent) : Int := match l.getLast? with
  | some e => e.term
  | none => 0
structure Grp where
  ps : List Peer
  q : Nat → Nat → List Msg
def Grp.n (g : Grp) : Nat := g.ps.length
def Grp.at_ (g : Grp) (i : Nat) : Peer := g.ps.getD i Peer.z
def Grp.put (g : Grp) (i : Nat) (p : Peer) : Grp := { g with ps := g.ps.set i p }
def Grp.send (g : Grp) (i j : Nat) (m : Msg) : Grp := { g with q := fun a b => if a = i ∧ b = j then g.q a b ++ [m] else g.q a b }
/-- a message to the first k replicas, but not to the sender -/
def Grp.allTo (g : Grp) (i : Nat) (m : Msg) (k : Nat) : Grp := { g with q := fun a b => if a = i ∧ b ≠ i ∧ b < k then g.q a b ++ [m] else g.q a b }
def Grp.all (g : Grp) (i : Nat) (m : Msg) : Grp := g.allTo i m g.n
def Grp.share (g : Grp) (i : Nat) : Grp := g.all i (.share (g.at_ i).term (g.at_ i).log (g.at_ i).done)
def count (n : Nat) (f : Nat → Bool) : Nat := ((List.range n).filter f).length
def maj (n : Nat) (f : Nat → Bool) : Bool := decide (2 * count n f > n)
def Grp.lead (g : Grp) (i : Nat) : Grp := if maj g.n (g.at_ i).votes = true then (g.put i { g.at_ i with role := 2, acks := fun _ => 0 }).share i else g
/-- the greatest number above d, up to the one given, of which ok holds -/
def comK (ok : Nat → Bool) (d : Nat) : Nat → Option Nat
  | 0 => none
  | k + 1 => if k + 1 > d then (if ok (k + 1) = true then some (k + 1) else comK ok d k) else none
def comOk (g : Grp) (i k : Nat) : Bool := maj g.n (fun f => decide (f = i) || decide ((g.at_ i).acks f ≥ (k : Int))) && decide (((g.at_ i).log.getD (k - 1) Ent.z).term = (g.at_ i).term)
def Grp.commit (g : Grp) (i : Nat) : Grp := match comK (comOk g i) (g.at_ i).done (g.at_ i).log.length with
  | some k => (g.put i { g.at_ i with done := k }).share i
  | none => g
/-- who is asked for a record: the leader of the greatest term, the first one of these -/
def bestTo (g : Grp) : Nat → Option Nat
  | 0 => none
  | k + 1 => match bestTo g k with
    | some a => if (g.at_ k).role = 2 ∧ (g.at_ k).down = false ∧ (g.at_ k).term > (g.at_ a).term then some k else some a
    | none => if (g.at_ k).role = 2 ∧ (g.at_ k).down = false then some k else none
def Grp.append (g : Grp) (i : Nat) (r : ByteArray) : Grp := g.put i { g.at_ i with log := (g.at_ i).log ++ [⟨(g.at_ i).term, r⟩] }
/-- a greater term is taken over -/
def Peer.step (p : Peer) (t : Int) : Peer := if t > p.term then { p with term := t, vote := -1, role := 0 } else p
/-- a vote is granted -/
def Peer.grants (p : Peer) (i : Nat) (t l n : Int) : Bool := decide (t = p.term) && (decide (p.vote = -1) || decide (p.vote = (i : Int))) && (decide (l > lastT p.log) || decide (l = lastT p.log) && decide (n ≥ (p.log.length : Int)))
def Grp.receive (g : Grp) (i j : Nat) (m : Msg) : Grp :=
  let p := (g.at_ j).step m.term
  match m with
  | .ask t l n => (g.put j (if p.grants i t l n = true then { p with vote := i } else p)).send j i (.vote p.term (p.grants i t l n))
  | .vote t b => if p.role = 1 ∧ t = p.term ∧ b = true then (g.put j { p with votes := fun k => if k = i then true else p.votes k }).lead j else g.put j p
  | .share t l d => if t = p.term then (g.put j { p with role := 0, log := l, done := max p.done d }).send j i (.ack p.term l.length) else (g.put j p).send j i (.ack p.term 0)
  | .ack t n => if p.role = 2 ∧ t = p.term then (g.put j { p with acks := fun k => if k = i then max (p.acks i) n else p.acks k }).commit j else g.put j p
end Go.Proofs.Ytbjknckddoegfaa
