/- Plain facts of layer 42: what the statements' own functions compute; the fixed examples. No condition. -/
import Derived.Test.YtnnendajegdnhaaPlainTx
import Derived.WalkKit
namespace Go.Proofs.Ytnnendajegdnhaa
set_option linter.unusedVariables false
set_option linter.unusedSimpArgs false
open Go.Gw
def encU8 (n : Int) : List Go.Value := [.int .u8 n]
def seatT (n view : Int) : Pl := ⟨0, 0, 0, 0, n, 0, 0, view, -1⟩
def seatsK (xs : List Int) (k : Nat) : List Pl := (List.range k).map (fun i : Nat => seatT ((i : Int) + 1) (xs.getD i 0))
theorem seatsK_step {xs : List Int} {k : Nat} (h : k < xs.length) : seatsK xs (k + 1) = seatsK xs k ++ [seatT ((k : Int) + 1) xs[k]] := by
  unfold seatsK
  rw [List.range_succ, List.map_append, List.map_cons, List.map_nil, List.getD_eq_getElem?_getD, List.getElem?_eq_getElem h]; rfl
theorem seatsK_len (xs : List Int) (k : Nat) : (seatsK xs k).length = k := by simp [seatsK]
def oldT : List Pl := [seatT 1 0, seatT 2 1]
def nextT : List Pl := [seatT 1 1, seatT 2 2]
theorem errT : errP oldT nextT [] = 0 := err_0.2 ⟨by decide, by decide, by decide, fun j hj => by simp [movedL] at hj⟩
theorem newT : newE oldT nextT [] = 0 := newE_ok errT (dup_no dist_nil)
theorem twT : TwOK oldT nextT [] 0 := new_tw newT (Nat.le_refl _) (fun o ho => by cases ho)
theorem sT1 : sellE oldT nextT [] 0 6 = 15 := by kernel_rfl
theorem sT2 : sellE oldT nextT [] 1 7 = 0 := by kernel_rfl
theorem sT3 : sellE oldT nextT [newOw 7 1] 1 8 = 16 := by kernel_rfl
theorem sT4 : sellE oldT nextT [newOw 7 1] 1 7 = 9 := by kernel_rfl
theorem sT5 : sellE oldT nextT [newOw 7 1] 2 9 = 1 := by kernel_rfl
theorem sT6 : dropE [newOw 7 1] 6 = 11 := by kernel_rfl
theorem tT1 : sellT oldT nextT [] 0 6 = [] := sellT_err (by rw [sT1]; decide)
theorem tT2 : sellT oldT nextT [] 1 7 = [newOw 7 1] := by unfold sellT; rw [if_pos sT2]; rfl
theorem tT3 : sellT oldT nextT [newOw 7 1] 1 8 = [newOw 7 1] := sellT_err (by rw [sT3]; decide)
theorem tT4 : sellT oldT nextT [newOw 7 1] 1 7 = [newOw 7 1] := sellT_err (by rw [sT4]; decide)
theorem tT5 : sellT oldT nextT [newOw 7 1] 2 9 = [newOw 7 1] := sellT_err (by rw [sT5]; decide)
theorem tT6 : dropT [newOw 7 1] 6 = [newOw 7 1] := (dropT_no (fun x hx => by obtain rfl := List.mem_singleton.1 hx; rfl)).1
theorem twT2 : TwOK oldT nextT [newOw 7 1] 1 := by have := twT.sell 1 7; rwa [tT2] at this
theorem sayT : sayP oldT nextT [newOw 7 1] = [(7, 0, [])] := by unfold sayP; rw [if_pos twT2.err]; kernel_rfl
theorem finTT {ms : List Mv} (h : ms.map Mv.say = sayP oldT nextT [newOw 7 1]) : ∃ y : Ow, finT [newOw 7 1] ms true = [y] ∧ y.serial = 7 ∧ y.place = 0 := by
  rw [sayT] at h
  obtain ⟨m, rfl, hm⟩ := mv1 h
  have h1 : m.serial = 7 := congrArg (·.1) hm
  have h2 : m.to_ = 0 := congrArg (·.2.1) hm
  have e : fnM [m].reverse 7 = some m := by
    show upd (fun _ => none) m.serial m 7 = some m
    rw [h1]; unfold upd; simp
  refine ⟨setM (newOw 7 1) (some m), ?_, rfl, h2⟩
  show [fin1 [m] true (newOw 7 1)] = _
  unfold fin1
  rw [if_pos rfl, show (newOw 7 1).serial = 7 from rfl, e]
/-- the places of the titles that are moved -/
def plcs (ts : List Ow) : List Int := (movedL ts).map Ow.place
def plAt (old : List Pl) (ps : List Int) : List Pl := ps.map (fun p => old.getD p.toNat pl0)
theorem plAt_len (old : List Pl) (ps : List Int) : (plAt old ps).length = ps.length := by simp [plAt]
theorem plAt_plcs (old : List Pl) (ts : List Ow) : plAt old (plcs ts) = oldsT old ts := by
  unfold plAt plcs oldsT oldL; rw [List.map_map]; rfl
def fewT (old next : List Pl) (ts : List Ow) (n : Nat) : Bool := decide ((old.length : Int) ≤ 20) && decide ((next.length : Int) ≤ 20) && decide ((ts.length : Int) ≤ 20) && decide ((n : Int) ≤ 30)
theorem fewT_yes {old next : List Pl} {ts : List Ow} {n : Nat} (h : fewT old next ts n = true) : old.length ≤ 20 ∧ next.length ≤ 20 ∧ ts.length ≤ 20 ∧ n ≤ 30 := by
  simp only [fewT, Bool.and_eq_true, decide_eq_true_eq] at h
  omega
end Go.Proofs.Ytnnendajegdnhaa
