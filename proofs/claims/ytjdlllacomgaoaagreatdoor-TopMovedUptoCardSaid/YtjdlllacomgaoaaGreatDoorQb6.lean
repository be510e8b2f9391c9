/- Parts of the proof, joined: the program logic, the plain theory, the walks, as they are named inside. No condition. -/
import Derived.Test.YtjdlllacomgaoaaGreatDoorChecked
import Derived.Test.YtjdlllacomgaoaaGreatDoorQb1
import Derived.Test.YtjdlllacomgaoaaGreatDoorQb2
import Derived.Test.YtjdlllacomgaoaaGreatDoorQb5
import Derived.Test.YtjdlllacomgaoaaGreatDoorRows
import Derived.Test.YtjdlllacomgaoaaGreatDoorCards
import Derived.Test.YtjdlllacomgaoaaGreatDoorTie
import Derived.WalkKit
import Derived.ProofKit
import Derived.OpenShut
import Derived.LaidMore
import Derived.Lay
import Derived.SevenTiedAt
import Derived.Stop.Joined
import Derived.Deep.DeepHandedRow
set_option linter.unusedVariables false
set_option linter.unusedSimpArgs false
namespace Go.Proofs.YtjdlllacomgaoaaGreatDoor
section
open Go Go.Gw _root_.Go.Proofs.Tryz
set_option maxHeartbeats 2000000 in
theorem offers_spec (vt vo vn ve : Value) (olds next : List Pl) (i bm : Nat) (s : List Int) (c : Nat) (w0 : World) (hvo : IsSl w0 vo 9 Pl.enc olds) (hvn : IsSl w0 vn 9 Pl.enc next) (hm : IsMap w0 bm (fun n : Int => .int .i64 n) (fun b : Bool => .bool b) (memS s) c) (hi0 : i < olds.length) (hl1 : next.length ≤ 100000) :
    Ret Tryz.prog 29 #[.agg #[vt, vo, vn, ve], .int .i64 (i : Int), .map (some bm)] w0 (fun u w => HSat No w0 [OSl 3 u 1 encI (offL olds[i].kind next s)] w) := by
 refine ZAE (nt := 44) Tryz.func29 rfl rfl rfl (fl := [(0, .agg #[vt, vo, vn, ve]), (1, .int .i64 (i : Int)), (2, .map (some bm))]) rfl (fun a S => ?_)
 have H := HSat.start w0
 have H := H.ro0 (Sl vo 9 Pl.enc olds) rfl (hvo)
 have H := H.ro0 (Sl vn 9 Pl.enc next) rfl (hvn)
 have H := H.ro0 (Atom.ro (MapA bm (fun n : Int => .int .i64 n) (fun b : Bool => .bool b) (memS (s)) c)) rfl (hm)
 have hlo := hvo.len
 have hln := hvn.len
 refine gsr <| ZAF (ZAu (wn rfl) rfl rfl rfl S H rfl fun b3 a w S H => q_as S rfl fun a S => gnt ?_)
 refine gsr <| q_as S rfl fun a S => gnt <| ZAG <| gsr <| q_fa S Ffo98_2 rfl fun a S => q_ld S H Fsca30 rfl rfl fun a S => gq rfl S (ZAT rfl underlying30 S H rfl) fun a S => ?_
 refine q_mv S rfl fun a S => gnt <| ZAD ?_
 have H := H.nilO 3 1 encI
 have SU := S.sel [12, 11, 6, 3, 1, 2] rfl
 refine ZBL (X := Nat × Value) SU (fun x => [(7, x.2), (13, .int .i64 (x.1 : Int))]) (fun x w => x.1 ≤ next.length ∧ HSat No w0 [OSl 3 x.2 1 encI (offK olds[i].kind next s x.1), Cel b3 98 [vt, vo, vn, ve], Atom.ro (MapA bm (fun n : Int => .int .i64 n) (fun b : Bool => .bool b) (memS (s)) c), Sl vn 9 Pl.enc next, Sl vo 9 Pl.enc olds] w) (fun x => next.length - x.1) (0, .slice none 0 0) (S.sel [7, 13] rfl) (⟨by simp, H⟩) (fun x a w S hW => ?_)
 simp only [List.cons_append, List.nil_append] at S
 clear H
 obtain ⟨k, vq⟩ := x
 obtain ⟨hk, H⟩ := hW
 dsimp only at S H hk
 refine gsr <| q_bn S rfl fun a S => gnt <| ZAG <| c_if S rfl (fun h1 => ?_) (fun h1 => ?_)
 ·have h1p := h1; try simp only [DL] at h1p
  have hkl : k < next.length := by omega
  have hos := offK_step (kind := olds[i].kind) (taken := s) hkl
  have hol := offK_len olds[i].kind next s k
  refine ZAM <| ZAA <| ZAG <| ZAD <| gsr <| q_mv S rfl fun a S => gq rfl S (ZAI rfl underlying30 Fsiz57 S H rfl rfl (by omega)) fun a S => ?_
  refine gq rfl S (ZAk _ rfl S H rfl (by exact Fagg57) (by omega)) fun a S => ?_
  refine q_al S H rfl Fzer57 fun b9 a w S H => q_as S rfl fun a S => ZAF (ZAQ (wn rfl) rfl rfl S H rfl rfl rfl Fsiz57 rfl (cs' := [_, _, _, _, _, _, _, _, _]) rfl fun a w S H => gnt ?_)
  have S := S.sel [8, 9, 7, 13, 12, 11, 6, 3, 1, 2] rfl
  refine ZAG <| ZAZ (loud := []) (tails := []) (free := []) [0, 1, 2, 3, 4, 5, 6, 7, 8, 9, 10, 11, 12, 13, 14, 15, 16, 17, 18, 19] [] Fmo (by kernel_rfl) (by kernel_rfl) rfl H ?_
  refine m_q rfl S (fun w H => ZAL rfl S rfl) fun a S => m_q rfl S (fun w H => ZAT rfl underlying37 S H rfl) fun a S => m_q rfl S (fun w H => ZAn rfl S rfl rfl rfl) fun a S => m_q rfl S (fun w H => ZAL rfl S rfl) fun a S => ?_
  refine' m_andq [4, 5, 6, 7, 8, 9, 10, 11, 12] 21 S rfl rfl rfl rfl rfl rfl rfl rfl rfl (fun _ S => (wn rfl)) (fun h2 kk => ?yh2) (fun a S => ?_)
  case yh2 =>
   have h2p := h2; try simp only [DL] at h2p
   refine m_w rfl rfl (wg' 21 rfl rfl S rfl h2 rfl) rfl rfl S (fun w H => ZAC rfl Ffo57_0 S rfl) fun a S => m_w rfl rfl (wg' 21 rfl rfl S rfl h2 rfl) rfl rfl S (fun w H => ZAJ rfl ZAN S H rfl rfl) fun a S => m_w rfl rfl (wg' 21 rfl rfl S rfl h2 rfl) rfl rfl S (fun w H => ZAC rfl Ffo98_1 S rfl) fun a S => m_w rfl rfl (wg' 21 rfl rfl S rfl h2 rfl) rfl rfl S (fun w H => ZAJ rfl Fsca30 S H rfl rfl) fun a S => m_w rfl rfl (wg' 21 rfl rfl S rfl h2 rfl) rfl rfl S (fun w H => ZAL rfl S rfl) fun a S => m_w rfl rfl (wg' 21 rfl rfl S rfl h2 rfl) rfl rfl S (fun w H => ZAI rfl underlying30 Fsiz57 S H rfl rfl (by omega)) fun a S => ?_
   refine m_w rfl rfl (wg' 21 rfl rfl S rfl h2 rfl) rfl rfl S (fun w H => ZAq rfl Ffo57_0 S rfl) fun a S => ZA3 _ rfl rfl (wg' 21 rfl rfl S rfl h2 rfl) rfl rfl S rfl ZAN rfl (by omega) rfl fun a S => ?_
   exact m_w rfl rfl (wg' 21 rfl rfl S rfl h2 rfl) rfl rfl S (fun w H => ZAn rfl S rfl rfl rfl) fun a S => m_q rfl S (fun w H => ZBf rfl h2 S rfl rfl) fun a S => kk _ (S.join 10 31 rfl rfl)
  refine m_q rfl S (fun w H => ZAL rfl S rfl) fun a S => ?_
  refine' m_andq [15, 16, 17, 18] 32 S rfl rfl rfl rfl rfl rfl rfl rfl rfl (fun _ S => (wn rfl)) (fun h3 kk => ?yh3) (fun a S => ?_)
  case yh3 =>
   refine m_w rfl rfl (wg' 32 rfl rfl S rfl h3 rfl) rfl rfl S (fun w H => ZAL rfl S rfl) fun a S => m_w rfl rfl (wg' 32 rfl rfl S rfl h3 rfl) rfl rfl S (fun w H => ZAL rfl S rfl) fun a S => m_w rfl rfl (wg' 32 rfl rfl S rfl h3 rfl) rfl rfl S (fun w H => ZBT ((k : Int)) (false) rfl underlying60 ZBR S H rfl (ZAv underlying3) (by exact rfl) (by exact rfl) rfl) fun a S => ?_
   exact m_w rfl rfl (wg' 32 rfl rfl S rfl h3 rfl) rfl rfl S (fun w H => ZBV rfl S rfl) fun a S => m_q rfl S (fun w H => ZBf rfl h3 S rfl rfl) fun a S => kk _ (S.join 5 37 rfl rfl)
  refine ZBY (fun w H => ZAA ?_)
  have S := S.sel [37, 8, 7, 13, 12, 11, 6, 3, 1, 2] rfl
  refine c_if S rfl (fun h4 => ?_) (fun h4 => ?_)
  ·have h4p := h4; try simp only [DL] at h4p
   have hc : (offK olds[i].kind next s k).length < 5 ∧ next[k].kind = olds[i].kind ∧ (k : Int) ∉ s := by
     have hh := h4
     rw [memS_get] at hh
     simp only [Bool.and_eq_true, decide_eq_true_eq, beq_iff_eq, Bool.not_eq_true', decide_eq_false_iff_not] at hh
     exact ⟨by omega, hh.1.2, hh.2⟩
   rw [if_pos hc] at hos
   refine ZAB <| q_mv S rfl fun a S => q_mv S rfl fun a S => ZAF (ZAP (wn rfl) rfl rfl rfl underlying37 Finf3 S H (idx := [0]) rfl rfl rfl (z := [.int .i64 0]) (by kernel_rfl) (cs := [_]) rfl fun b40 a w S H => ?_)
   refine ZAF (ZAr ([(k : Int)]) (wn rfl) rfl rfl rfl underlying37 Finf3 rfl rfl S H rfl rfl rfl rfl (by simp) (by simp [encI]) (by simp [encI, Value.oneCell']) (by simp only [List.length_cons, List.length_nil]; omega) (by simp only [List.length_cons, List.length_nil]; omega) fun u41 a w hn41 S H => ?_)
   refine q_as S rfl fun a S => ZAj <| ZAK <| ZAA ?_
   have S := S.sel [7, 13, 12, 11, 6, 3, 1, 2] rfl
   refine ZAB <| q_ad S rfl (by omega) fun a S => ?_
   exact q_mv S rfl fun a S => gnt <| ⟨(k + 1, u41), S.sel [7, 13] rfl, S.sel [12, 11, 6, 3, 1, 2] rfl, ⟨by dsimp only; omega, by dsimp only; rw [hos]; exact H.take _⟩, by dsimp only; omega⟩
  have h4p := h4; try simp only [DL] at h4p
  have hc : ¬ ((offK olds[i].kind next s k).length < 5 ∧ next[k].kind = olds[i].kind ∧ (k : Int) ∉ s) := by
    intro hc
    have hh := h4
    rw [memS_get, decide_eq_true (show ((offK olds[i].kind next s k).length : Int) < 5 by omega), beq_iff_eq.2 hc.2.1, decide_eq_false hc.2.2] at hh
    cases hh
  rw [if_neg hc] at hos
  refine ZAM <| ZAK <| ZAA <| ZAB <| q_ad S rfl (by omega) fun a S => ?_
  refine q_mv S rfl fun a S => ?_
  refine gnt ?_
  exact ⟨(k + 1, vq), S.sel [7, 13] rfl, S.sel [12, 11, 6, 3, 1, 2] rfl, ⟨by dsimp only; omega, by dsimp only; rw [hos]; exact H.take [OSl 3 vq 1 encI (offK olds[i].kind next s k), Cel b3 98 [vt, vo, vn, ve], Atom.ro (MapA bm (fun n : Int => .int .i64 n) (fun b : Bool => .bool b) (memS (s)) c), Sl vn 9 Pl.enc next, Sl vo 9 Pl.enc olds]⟩, by dsimp only; omega⟩
 have h1p := h1; try simp only [DL] at h1p
 obtain rfl : k = next.length := by omega
 refine ZAf <| ZAO (ZAO (x_eq ?_))
 refine ZAA ?_
 have S := S.sel [7, 6] rfl
 refine gsr ?_
 refine q_mv S rfl fun a S => ?_
 refine q_as S rfl fun a S => ?_
 refine gnt ?_
 refine ZAe ?_
 refine ret1 rfl S rfl ?_
 exact H.take [OSl 3 vq 1 encI (offK olds[i].kind next s next.length)]
theorem plan_err (v1 v2 : Value) (old next : List Pl) (v3 : Value) (ts : List Ow) (w0 : World) (hv1 : IsSl w0 v1 9 Pl.enc old) (hv2 : IsSl w0 v2 9 Pl.enc next) (hv3 : IsSl w0 v3 11 Ow.enc ts) (hok : ∀ o ∈ ts, o.ok) (hl1 : ts.length ≤ 100000) (herr : errW old.length next.length (ZAH ts) ≠ 0) :
    Ret Tryz.prog 9 #[v1, v2, v3] w0 (fun u w => u = .tuple #[.agg #[.slice none 0 0, .slice none 0 0, .slice none 0 0], .int .i64 (errW old.length next.length (ZAH ts))] ∧ Ext w0 w) := by
 refine ZAE (nt := 79) Tryz.func9 rfl rfl rfl (fl := [(0, v1), (1, v2), (2, v3)]) rfl (fun a S => ?_)
 have H := HSat.start w0
 have H := H.ro0 (Sl v1 9 Pl.enc old) rfl (hv1)
 have H := H.ro0 (Sl v2 9 Pl.enc next) rfl (hv2)
 have H := H.ro0 (Sl v3 11 Ow.enc ts) rfl (hv3)
 have hll1 := hv1.len
 have hl2 := hv2.len
 have hl3 := hv3.len
 refine gsr <| q_al S H rfl Fzer41 fun b6 a w S H => q_as S rfl fun a S => gnt <| gsr <| q_mv S rfl fun a S => q_mv S rfl fun a S => q_mv S rfl fun a S => ?_
 refine q_cl S rfl call27 (prepare_spec v1 v2 old next v3 ts _ (H.sl v1) (H.sl v2) (H.sl v3) hok hl1) fun v w hc a S => ?_
 obtain ⟨va, vb, vc, ve, rfl, hoc, he, _⟩ := hc
 have H := H.ext he
 refine q_mv S rfl fun a S => gq rfl S (ZAa rfl S rfl rfl) fun a S => gq rfl S (ZAa rfl S rfl rfl) fun a S => q_al S H rfl Fzer98 fun b8 a w S H => ZAF (ZAQ (wn rfl) rfl rfl S H rfl rfl hoc Fsiz98 rfl (cs' := [_, _, _, _]) rfl fun a w S H => q_as S rfl fun a S => gnt ?_)
 have S := S.sel [9, 8, 7, 6] rfl
 refine ZAG <| gsr <| q_mv S rfl fun a S => q_bn S rfl fun a S => gnt <| c_if S rfl (fun h1 => ?_) (fun h1 => ?_)
 ·have h1p := h1; try simp only [DL] at h1p
  refine gsr ?_
  refine gq rfl S (ZAx rfl Fbld41 S rfl (idx := []) rfl (cs := [_, _, _]) rfl) fun a S => ?_
  refine q_mv S rfl fun a S => ?_
  refine ZAF (ZAQ (wn rfl) rfl rfl S H rfl rfl rfl Fsiz41 rfl (cs' := [_, _, _]) rfl fun a w S H => ?_)
  refine q_as S rfl fun a S => ?_
  refine gnt ?_
  have S := S.sel [7, 8, 6] rfl
  refine ZAe <| ZAX (ret2ct rfl S H rfl rfl (by exact Fagg41) ?_)
  exact ⟨rfl, H.toExt⟩
 have h1p := h1; try simp only [DL] at h1p
 all_goals (
   exact absurd h1p herr)
set_option maxHeartbeats 4000000 in
theorem plan_ok (v1 v2 : Value) (old next : List Pl) (v3 : Value) (ts : List Ow) (w0 : World) (hv1 : IsSl w0 v1 9 Pl.enc old) (hv2 : IsSl w0 v2 9 Pl.enc next) (hv3 : IsSl w0 v3 11 Ow.enc ts) (hok : ∀ o ∈ ts, o.ok) (hl1 : ts.length ≤ 100000) (herr : errW old.length next.length (ZAH ts) = 0) :
    Ret Tryz.prog 9 #[v1, v2, v3] w0 (fun u w => ∃ mv vl vr, ∃ ms : List Mv, u = .tuple #[.agg #[mv, vl, vr], .int .i64 0] ∧ ms.map Mv.say = movesL (ZAH ts) (oldL old (ZAH ts)) next (plL (oldL old (ZAH ts)) next) ∧ HSat No w0 [OSl 46 mv 3 Mv.enc ms, ZBh 3 1 encI (ZA9 ms), OSl 3 vl 1 encI (clL (oldL old (ZAH ts)) next), OSl 3 vr 1 encI (crL (oldL old (ZAH ts)) next)] w) := by
 refine ZAE (nt := 79) Tryz.func9 rfl rfl rfl (fl := [(0, v1), (1, v2), (2, v3)]) rfl (fun a S => ?_)
 have H := HSat.start w0
 have H := H.ro0 (Sl v1 9 Pl.enc old) rfl (hv1)
 have H := H.ro0 (Sl v2 9 Pl.enc next) rfl (hv2)
 have H := H.ro0 (Sl v3 11 Ow.enc ts) rfl (hv3)
 have hll1 := hv1.len
 have hl2 := hv2.len
 have hl3 := hv3.len
 refine gsr <| q_al S H rfl Fzer41 fun b6 a w S H => q_as S rfl fun a S => gnt <| gsr <| q_mv S rfl fun a S => q_mv S rfl fun a S => q_mv S rfl fun a S => ?_
 refine q_cl S rfl call27 (prepare_spec v1 v2 old next v3 ts _ (H.sl v1) (H.sl v2) (H.sl v3) hok hl1) fun v w hc a S => ?_
 obtain ⟨va, vb, vc, ve, rfl, hoc, _, hx⟩ := hc
 obtain ⟨rfl, ps, hps, H1⟩ := hx herr
 have H := H.call4 H1 rfl rfl rfl rfl
 have hpo := errW_ok herr
 have hto := (old_len old (ZAH ts)).symm
 refine q_mv S rfl fun a S => gq rfl S (ZAa rfl S rfl rfl) fun a S => gq rfl S (ZAa rfl S rfl rfl) fun a S => ?_
 rw [herr] at S
 refine q_al S H rfl Fzer98 fun b8 a w S H => ZAF (ZAQ (wn rfl) rfl rfl S H rfl rfl hoc Fsiz98 rfl (cs' := [_, _, _, _]) rfl fun a w S H => q_as S rfl fun a S => gnt ?_)
 have S := S.sel [9, 8, 7, 6] rfl
 refine ZAG <| gsr <| q_mv S rfl fun a S => q_bn S rfl fun a S => gnt <| c_if S rfl (fun h1 => ?_) (fun h1 => ?_)
 ·have h1p := h1; try simp only [DL] at h1p
  all_goals (
    exact absurd rfl h1p)
 have h1p := h1; try simp only [DL] at h1p
 refine ZAM <| ZAA <| gsr <| gq rfl S (ZAb rfl S H rfl (by exact Fagg98)) fun a S => ?_
 refine q_cl S rfl call28 (match_spec va vb v2 ve (ZAH ts) (oldL old (ZAH ts)) next ps _ (H.sl va) (H.sl vb) (H.sl v2) (H.sl ve) (H.rws 3 ps) hps hto (by omega) (by omega)) fun v w hc a S => ?_
 obtain ⟨vp, vl, vr, rfl, H1⟩ := hc
 have H := H.call3 H1 rfl rfl rfl
 have hpl : (plL (oldL old (ZAH ts)) next).length = (ZAH ts).length := by have := (pairK_inv (olds := (oldL old (ZAH ts))) (next := next) (by omega) (by omega) (oldL old (ZAH ts)).length (Nat.le_refl _)).1.wf.lg; rw [ZBO] at this; rw [hto]; exact this
 refine q_mv S rfl fun a S => ?_
 refine gq rfl S (ZAa rfl S rfl rfl) fun a S => ?_
 refine gq rfl S (ZAa rfl S rfl rfl) fun a S => ?_
 refine q_al S H rfl Fzer39 fun b11 a w S H => ?_
 refine q_as S rfl fun a S => ?_
 refine ZAF (ZAQ (wn rfl) rfl rfl S H rfl rfl (by simp only [List.all_cons, List.all_nil, H.sl1 vl, H.sl1 vr, Bool.true_and]) Fsiz39 rfl (cs' := [_, _]) rfl fun a w S H => ?_)
 refine gnt ?_
 have S := S.sel [10, 11, 8, 7, 6] rfl
 refine gsr <| ZAF (ZBK (fun n : Int => .int .i64 n) (fun b : Bool => .bool b) (wn rfl) rfl rfl rfl S H fun b35 a w S H => q_as S rfl fun a S => gnt ?_)
 refine ZAG <| gsr <| q_mv S rfl fun a S => gq rfl S (ZAT rfl underlying37 S H rfl) fun a S => ?_
 rw [hpl] at S
 refine q_mv S rfl fun a S => gnt <| ZAD ?_
 have SU := S.sel [37, 36, 12, 10, 11, 8, 7, 6] rfl
 refine ZBL (X := Nat) SU (fun k => [(38, .int .i64 (k : Int))]) (fun k w => k ≤ (ZAH ts).length ∧ ∃ c, HSat No w0 [MapA b35 (fun n : Int => .int .i64 n) (fun b : Bool => .bool b) (memS (((plL (oldL old (ZAH ts)) next).take k).reverse)) c, Cel b11 39 [vl, vr], Cel b6 41 [.slice none 0 0, .slice none 0 0, .slice none 0 0], Cel b8 98 [va, vb, v2, ve], OSl 3 vp 1 encI (plL (oldL old (ZAH ts)) next), OSl 3 vl 1 encI (clL (oldL old (ZAH ts)) next), OSl 3 vr 1 encI (crL (oldL old (ZAH ts)) next), OSl 55 va 11 Ow.enc (ZAH ts), OSl 57 vb 9 Pl.enc (oldL old (ZAH ts)), Sl v3 11 Ow.enc ts, Sl v2 9 Pl.enc next, Sl v1 9 Pl.enc old] w) (fun k => (ZAH ts).length - k) 0 (S.sel [38] rfl) (⟨by omega, 0, by exact H.take [MapA b35 (fun n : Int => .int .i64 n) (fun b : Bool => .bool b) (fun _ => none) 0, Cel b11 39 [vl, vr], Cel b6 41 [.slice none 0 0, .slice none 0 0, .slice none 0 0], Cel b8 98 [va, vb, v2, ve], OSl 3 vp 1 encI (plL (oldL old (ZAH ts)) next), OSl 3 vl 1 encI (clL (oldL old (ZAH ts)) next), OSl 3 vr 1 encI (crL (oldL old (ZAH ts)) next), OSl 55 va 11 Ow.enc (ZAH ts), OSl 57 vb 9 Pl.enc (oldL old (ZAH ts)), Sl v3 11 Ow.enc ts, Sl v2 9 Pl.enc next, Sl v1 9 Pl.enc old]⟩) (fun k a w S hW => ?_)
 simp only [List.cons_append, List.nil_append] at S
 clear H
 obtain ⟨hk, c, H⟩ := hW
 refine gsr <| q_bn S rfl fun a S => gnt <| ZAG <| c_if S rfl (fun h2 => ?_) (fun h2 => ?_)
 ·have h2p := h2; try simp only [DL] at h2p
  have hkp : k < (plL (oldL old (ZAH ts)) next).length := by omega
  refine ZAM <| ZAA <| ZAG <| ZAD <| gsr <| gq rfl S (ZAI rfl underlying37 ZA5 S H rfl rfl (by omega)) fun a S => ?_
  refine gq rfl S (ZA6 _ rfl ZAN S H rfl (by omega) rfl) fun a S => ?_
  refine q_as S rfl fun a S => gnt <| ZAB <| q_mv S rfl fun a S => q_mv S rfl fun a S => ZAF (ZBA ((plL (oldL old (ZAH ts)) next)[k]) (true) (wn rfl) rfl rfl underlying60 S H rfl (ZAv underlying3) (by exact rfl) (by exact rfl) fun a w S H => ?_)
  refine ZAj <| ZAK <| ZAA ?_
  have S := S.sel [38, 37, 36, 12, 10, 11, 8, 7, 6] rfl
  refine ZAB <| q_ad S rfl (by omega) fun a S => ?_
  refine q_mv S rfl fun a S => gnt ?_
  have e : ((plL (oldL old (ZAH ts)) next).take (k + 1)).reverse = (plL (oldL old (ZAH ts)) next)[k] :: ((plL (oldL old (ZAH ts)) next).take k).reverse := by rw [List.take_succ_eq_append_getElem hkp]; simp
  refine ⟨k + 1, S.sel [38] rfl, S.sel [37, 36, 12, 10, 11, 8, 7, 6] rfl, ⟨by omega, ?_⟩, by omega⟩
  rw [e]; exact ⟨_, H⟩
 have h2p := h2; try simp only [DL] at h2p
 obtain rfl : k = (ZAH ts).length := by omega
 rw [← hpl, List.take_length] at H
 refine ZAf <| ZAO (ZAO (x_eq ?_))
 refine ZAA ?_
 have S := S.sel [12, 10, 11, 8, 7, 6] rfl
 refine gsr <| gq rfl S (ZAb rfl S H rfl (by exact Fagg39)) fun a S => ?_
 refine gq rfl S (ZAx rfl Fbld41 S rfl (idx := [1]) rfl (cs := [.slice none 0 0, vl, vr]) (by kernel_rfl)) fun a S => ?_
 refine q_al S H rfl Fzer41 fun b15 a w S H => ZAF (ZAQ (wn rfl) rfl rfl S H rfl rfl (by simp only [List.all_cons, List.all_nil, H.sl1 vl, H.sl1 vr, Bool.true_and, Bool.and_true]; rfl) Fsiz41 rfl (cs' := [_, _, _]) rfl fun a w S H => ?_)
 refine gnt <| ZAG <| gsr <| q_fa S Ffo98_0 rfl fun a S => q_ld S H Fsca34 rfl rfl fun a S => gq rfl S (ZAT rfl underlying34 S H rfl) fun a S => q_mv S rfl fun a S => gnt ?_
 have S := S.sel [50, 49, 48, 15, 12, 10, 8, 7, 6] rfl
 refine ZAD ?_
 have H := (H.nilO 46 3 Mv.enc).rowsZ 3 1 encI
 have SU := S.sel [49, 48, 15, 12, 10, 8, 7, 6] rfl
 refine ZBL (X := Nat) SU (fun k => [(50, .int .i64 (k : Int))]) (fun k w => k ≤ (ZAH ts).length ∧ ∃ mv ms, ms.map Mv.say = movesK (ZAH ts) (oldL old (ZAH ts)) next (plL (oldL old (ZAH ts)) next) k ∧ HSat No w0 [Cel b15 41 [mv, vl, vr], OSl 46 mv 3 Mv.enc (ms), ZBh 3 1 encI (ZA9 (ms)), MapA b35 (fun n : Int => .int .i64 n) (fun b : Bool => .bool b) (memS ((plL (oldL old (ZAH ts)) next).reverse)) c, Cel b6 41 [.slice none 0 0, .slice none 0 0, .slice none 0 0], Cel b8 98 [va, vb, v2, ve], OSl 3 vp 1 encI (plL (oldL old (ZAH ts)) next), OSl 3 vl 1 encI (clL (oldL old (ZAH ts)) next), OSl 3 vr 1 encI (crL (oldL old (ZAH ts)) next), OSl 55 va 11 Ow.enc (ZAH ts), OSl 57 vb 9 Pl.enc (oldL old (ZAH ts)), Sl v3 11 Ow.enc ts, Sl v2 9 Pl.enc next, Sl v1 9 Pl.enc old] w) (fun k => (ZAH ts).length - k) 0 (S.sel [50] rfl) (⟨by omega, .slice none 0 0, [], rfl, H.take [Cel b15 41 [.slice none 0 0, vl, vr], OSl 46 (.slice none 0 0) 3 Mv.enc [], ZBh 3 1 encI [], MapA b35 (fun n : Int => .int .i64 n) (fun b : Bool => .bool b) (memS ((plL (oldL old (ZAH ts)) next).reverse)) c, Cel b6 41 [.slice none 0 0, .slice none 0 0, .slice none 0 0], Cel b8 98 [va, vb, v2, ve], OSl 3 vp 1 encI (plL (oldL old (ZAH ts)) next), OSl 3 vl 1 encI (clL (oldL old (ZAH ts)) next), OSl 3 vr 1 encI (crL (oldL old (ZAH ts)) next), OSl 55 va 11 Ow.enc (ZAH ts), OSl 57 vb 9 Pl.enc (oldL old (ZAH ts)), Sl v3 11 Ow.enc ts, Sl v2 9 Pl.enc next, Sl v1 9 Pl.enc old]⟩) (fun k a w S hW => ?_)
 simp only [List.cons_append, List.nil_append] at S
 clear H
 obtain ⟨hk, mv, ms, hms, H⟩ := hW
 refine gsr <| q_bn S rfl fun a S => gnt <| ZAG <| c_if S rfl (fun h3 => ?_) (fun h3 => ?_)
 ·have h3p := h3; try simp only [DL] at h3p
  have hkl : k < (ZAH ts).length := by omega
  have hok1 : (ZAH ts)[k].ok := hok _ (List.mem_filter.1 (List.getElem_mem hkl)).1
  have hko : k < (oldL old (ZAH ts)).length := by omega
  have hmk := movesK_succ (next := next) (place := (plL (oldL old (ZAH ts)) next)) hkl hko
  have hatk := atI_eq (show k < (plL (oldL old (ZAH ts)) next).length by omega)
  have hmsl := congrArg List.length hms
  rw [movesK_len, List.length_map] at hmsl
  refine ZAM <| ZAA <| ZAG <| ZAD <| gsr <| q_mv S rfl fun a S => gq rfl S (ZAI rfl underlying34 Fsiz55 S H rfl rfl (by omega)) fun a S => ?_
  refine gq rfl S (ZAk _ rfl S H rfl (by exact Fagg55) (by omega)) fun a S => ?_
  refine q_al S H rfl Fzer55 fun b17 a w S H => q_as S rfl fun a S => ZAF (ZAQ (wn rfl) rfl rfl S H rfl rfl (Ow.all hok1) Fsiz55 rfl (cs' := [_, _, _, _, _, _, _, _, _, _, _]) rfl fun a w S H => gnt ?_)
  have S := S.sel [16, 17, 50, 49, 48, 15, 12, 10, 8, 7, 6] rfl
  refine ZAG <| ZAZ (loud := [8, 9]) (tails := [9]) (free := []) [0, 1, 2, 3, 4, 5, 6, 7, 8, 9] [] Fmo (by kernel_rfl) (by kernel_rfl) rfl H ?_
  refine m_q rfl S (fun w H => ZAC rfl Ffo55_0 S rfl) fun a S => m_q rfl S (fun w H => ZAC rfl Ffo49_0 S rfl) fun a S => m_q rfl S (fun w H => ZAJ rfl ZAN S H rfl rfl) fun a S => m_q rfl S (fun w H => ZAL rfl S rfl) fun a S => m_q rfl S (fun w H => ZAL rfl S rfl) fun a S => m_q rfl S (fun w H => ZAI rfl underlying37 ZA5 S H rfl rfl (by omega)) fun a S => ?_
  refine m_loads _ rfl rfl (wn rfl) rfl rfl S rfl ZAN rfl (by omega) rfl fun a S => ?_
  refine m_q rfl S (fun w H => ZAx rfl Fbld46 S rfl (idx := [0, 1]) rfl (cs := [.int .i64 (ZAH ts)[k].serial, .int .i64 (plL (oldL old (ZAH ts)) next)[k], .slice none 0 0]) (by kernel_rfl)) fun a S => ?_
  refine m_l rfl rfl (fun w H => ZAh (wn rfl) rfl rfl rfl S H Fzer46 fun b18 a w S H => m_next H (List.sublist_cons_self _ _) ?_)
  refine m_l rfl rfl (fun w H => ZAQ (wn rfl) rfl rfl S H rfl rfl rfl Fsiz46 rfl (cs' := [_, _, _]) rfl fun a w S H => m_tail H rfl ?_)
  refine ZBY (fun w H => ZAA ?_)
  have S := S.sel [18, 16, 50, 49, 48, 15, 12, 10, 8, 7, 6] rfl
  refine ZAG <| gsr <| q_fa S ZBJ rfl fun a S => q_ld S H ZAN rfl rfl fun a S => q_bn S rfl fun a S => gnt <| c_if S rfl (fun h4 => ?_) (fun h4 => ?_)
  ·have h4p := h4; try simp only [DL] at h4p
   have hneg : atI (plL (oldL old (ZAH ts)) next) k < 0 := by rw [hatk]; exact h4p
   rw [if_pos hneg] at hmk
   refine ZAB <| gq rfl S (ZAb rfl S H rfl (by exact Fagg98)) fun a S => ?_
   refine q_mv S rfl fun a S => q_mv S rfl fun a S => ZAF (ZAV (wn rfl) rfl rfl S (ZAi rfl call29 S rfl) (offers_spec va vb v2 ve (oldL old (ZAH ts)) next k b35 (plL (oldL old (ZAH ts)) next).reverse c _ (H.sl vb) (H.sl v2) (H.mp b35) (by omega) (by omega)) fun urow w hc a S => ?_)
   have H1 := hc
   obtain ⟨orow, hor⟩ : ∃ o, o = offL (oldL old (ZAH ts))[k].kind next (plL (oldL old (ZAH ts)) next) := ⟨_, rfl⟩
   rw [show offL (oldL old (ZAH ts))[k].kind next (plL (oldL old (ZAH ts)) next).reverse = orow by rw [hor]; exact offK_congr (fun k _ => by simp) _ (Nat.le_refl _)] at H1
   rw [← hor] at hmk
   have H := H.call1 H1 rfl
   obtain ⟨pu, cu, hpu⟩ := (H.sl urow).shape
   have hu1 := H.sl1 urow
   refine q_fa S Ffo46_2 rfl fun a S => q_st S H rfl (H.sl1 _) Fsiz37 rfl fun a w S H => ?_
   dsimp only [List.set, Nat.zero_add, Nat.reduceAdd] at H
   refine gnt ?_
   have S := S.sel [18, 50, 49, 48, 15, 12, 10, 8, 7, 6] rfl
   refine ZAB <| q_fa S Ffo41_0 rfl fun a S => q_ld S H Fsca36 rfl rfl fun a S => gq rfl S (ZAb rfl S H rfl (by exact Fagg46)) fun a S => ?_
   refine ZAF (ZAP (wn rfl) rfl rfl rfl underlying36 Finf46 S H (idx := [0]) rfl rfl rfl (z := [.int .i64 0, .int .i64 0, .slice none 0 0]) (by kernel_rfl) (cs := [.int .i64 (ZAH ts)[k].serial, .int .i64 (plL (oldL old (ZAH ts)) next)[k], urow]) (by rw [hpu]; rfl) fun b74 a w S H => ?_)
   refine ZAF (ZAr ([(Mv.mk (ZAH ts)[k].serial (plL (oldL old (ZAH ts)) next)[k] (urow, orow))]) (wn rfl) rfl rfl rfl underlying36 Finf46 rfl rfl S H rfl rfl rfl rfl (by simp) (by simp [Mv.enc]) (by simp only [List.mem_singleton]; rintro y rfl u hu; simp only [Mv.enc, List.mem_cons, List.not_mem_nil, or_false] at hu; rcases hu with rfl | rfl | rfl; rfl; rfl; exact hu1) (by simp only [List.length_cons, List.length_nil]; omega) (by simp only [List.length_cons, List.length_nil]; omega) fun u75 a w hn75 S H => ?_)
   refine q_fa S Ffo41_0 rfl fun a S => q_st S H rfl (H.sl1 _) Fsiz36 rfl fun a w S H => ?_
   dsimp only [List.set, Nat.zero_add, Nat.reduceAdd] at H
   refine ZAj <| ZAK <| ZAA ?_
   have S := S.sel [50, 49, 48, 15, 12, 10, 8, 7, 6] rfl
   refine ZAB <| q_ad S rfl (by omega) fun a S => ?_
   exact q_mv S rfl fun a S => gnt <| ⟨k + 1, S.sel [50] rfl, S.sel [49, 48, 15, 12, 10, 8, 7, 6] rfl, ⟨by omega, u75, ms ++ [(Mv.mk (ZAH ts)[k].serial (plL (oldL old (ZAH ts)) next)[k] (urow, orow))], by rw [List.map_append, hms, hmk, hatk]; rfl, by unfold ZA9; rw [List.map_append]; exact ((H.front2 (OSl 3 urow 1 encI orow) (ZBh 3 1 encI (ZA9 ms))).rowSnoc).take [Cel b15 41 [u75, vl, vr], OSl 46 u75 3 Mv.enc (ms ++ [(Mv.mk (ZAH ts)[k].serial (plL (oldL old (ZAH ts)) next)[k] (urow, orow))]), ZBh 3 1 encI (ZA9 ms ++ [(urow, orow)]), MapA b35 (fun n : Int => .int .i64 n) (fun b : Bool => .bool b) (memS ((plL (oldL old (ZAH ts)) next).reverse)) c, Cel b6 41 [.slice none 0 0, .slice none 0 0, .slice none 0 0], Cel b8 98 [va, vb, v2, ve], OSl 3 vp 1 encI (plL (oldL old (ZAH ts)) next), OSl 3 vl 1 encI (clL (oldL old (ZAH ts)) next), OSl 3 vr 1 encI (crL (oldL old (ZAH ts)) next), OSl 55 va 11 Ow.enc (ZAH ts), OSl 57 vb 9 Pl.enc (oldL old (ZAH ts)), Sl v3 11 Ow.enc ts, Sl v2 9 Pl.enc next, Sl v1 9 Pl.enc old]⟩, by omega⟩
  have h4p := h4; try simp only [DL] at h4p
  have hneg : ¬ atI (plL (oldL old (ZAH ts)) next) k < 0 := by rw [hatk]; have := h4p; omega
  rw [if_neg hneg] at hmk
  obtain ⟨urow, hur⟩ : ∃ u : Value, u = .slice none 0 0 := ⟨_, rfl⟩
  obtain ⟨orow, hor⟩ : ∃ o : List Int, o = [] := ⟨_, rfl⟩
  have H := H.nilO 3 1 encI
  have H : HSat No w0 [OSl 3 urow 1 encI orow, Cel b18 46 [.int .i64 (ZAH ts)[k].serial, .int .i64 (plL (oldL old (ZAH ts)) next)[k], urow], Cel b15 41 [mv, vl, vr], OSl 46 mv 3 Mv.enc (ms), ZBh 3 1 encI (ZA9 (ms)), MapA b35 (fun n : Int => .int .i64 n) (fun b : Bool => .bool b) (memS ((plL (oldL old (ZAH ts)) next).reverse)) c, Cel b6 41 [.slice none 0 0, .slice none 0 0, .slice none 0 0], Cel b8 98 [va, vb, v2, ve], OSl 3 vp 1 encI (plL (oldL old (ZAH ts)) next), OSl 3 vl 1 encI (clL (oldL old (ZAH ts)) next), OSl 3 vr 1 encI (crL (oldL old (ZAH ts)) next), OSl 55 va 11 Ow.enc (ZAH ts), OSl 57 vb 9 Pl.enc (oldL old (ZAH ts)), Sl v3 11 Ow.enc ts, Sl v2 9 Pl.enc next, Sl v1 9 Pl.enc old] w := by rw [hur, hor]; exact H.take _
  rw [← hor] at hmk
  obtain ⟨pu, cu, hpu⟩ := (H.sl urow).shape
  have hu1 := H.sl1 urow
  refine ZAM <| ZAA ?_
  have S := S.sel [18, 50, 49, 48, 15, 12, 10, 8, 7, 6] rfl
  refine ZAB <| q_fa S Ffo41_0 rfl fun a S => q_ld S H Fsca36 rfl rfl fun a S => gq rfl S (ZAb rfl S H rfl (by exact Fagg46)) fun a S => ?_
  refine ZAF (ZAP (wn rfl) rfl rfl rfl underlying36 Finf46 S H (idx := [0]) rfl rfl rfl (z := [.int .i64 0, .int .i64 0, .slice none 0 0]) (by kernel_rfl) (cs := [.int .i64 (ZAH ts)[k].serial, .int .i64 (plL (oldL old (ZAH ts)) next)[k], urow]) (by rw [hpu]; rfl) fun b74 a w S H => ?_)
  refine ZAF (ZAr ([(Mv.mk (ZAH ts)[k].serial (plL (oldL old (ZAH ts)) next)[k] (urow, orow))]) (wn rfl) rfl rfl rfl underlying36 Finf46 rfl rfl S H rfl rfl rfl rfl (by simp) (by simp [Mv.enc]) (by simp only [List.mem_singleton]; rintro y rfl u hu; simp only [Mv.enc, List.mem_cons, List.not_mem_nil, or_false] at hu; rcases hu with rfl | rfl | rfl; rfl; rfl; exact hu1) (by simp only [List.length_cons, List.length_nil]; omega) (by simp only [List.length_cons, List.length_nil]; omega) fun u75 a w hn75 S H => ?_)
  refine q_fa S Ffo41_0 rfl fun a S => q_st S H rfl (H.sl1 _) Fsiz36 rfl fun a w S H => ?_
  dsimp only [List.set, Nat.zero_add, Nat.reduceAdd] at H
  refine ZAj <| ZAK <| ZAA ?_
  have S := S.sel [50, 49, 48, 15, 12, 10, 8, 7, 6] rfl
  refine ZAB <| q_ad S rfl (by omega) fun a S => ?_
  exact q_mv S rfl fun a S => gnt <| ⟨k + 1, S.sel [50] rfl, S.sel [49, 48, 15, 12, 10, 8, 7, 6] rfl, ⟨by omega, u75, ms ++ [(Mv.mk (ZAH ts)[k].serial (plL (oldL old (ZAH ts)) next)[k] (urow, orow))], by rw [List.map_append, hms, hmk, hatk]; rfl, by unfold ZA9; rw [List.map_append]; exact ((H.front2 (OSl 3 urow 1 encI orow) (ZBh 3 1 encI (ZA9 ms))).rowSnoc).take [Cel b15 41 [u75, vl, vr], OSl 46 u75 3 Mv.enc (ms ++ [(Mv.mk (ZAH ts)[k].serial (plL (oldL old (ZAH ts)) next)[k] (urow, orow))]), ZBh 3 1 encI (ZA9 ms ++ [(urow, orow)]), MapA b35 (fun n : Int => .int .i64 n) (fun b : Bool => .bool b) (memS ((plL (oldL old (ZAH ts)) next).reverse)) c, Cel b6 41 [.slice none 0 0, .slice none 0 0, .slice none 0 0], Cel b8 98 [va, vb, v2, ve], OSl 3 vp 1 encI (plL (oldL old (ZAH ts)) next), OSl 3 vl 1 encI (clL (oldL old (ZAH ts)) next), OSl 3 vr 1 encI (crL (oldL old (ZAH ts)) next), OSl 55 va 11 Ow.enc (ZAH ts), OSl 57 vb 9 Pl.enc (oldL old (ZAH ts)), Sl v3 11 Ow.enc ts, Sl v2 9 Pl.enc next, Sl v1 9 Pl.enc old]⟩, by omega⟩
 have h3p := h3; try simp only [DL] at h3p
 obtain rfl : k = (ZAH ts).length := by omega
 refine ZAf <| ZAO (ZAO (x_eq ?_))
 refine ZAA ?_
 have S := S.sel [15, 7, 6] rfl
 refine gsr <| gq rfl S (ZAb rfl S H rfl (by exact Fagg41)) fun a S => ?_
 refine ZAF (ZAQ (wn rfl) rfl rfl S H rfl rfl (by simp only [List.all_cons, List.all_nil, H.sl1 mv, H.sl1 vl, H.sl1 vr, Bool.true_and]) Fsiz41 rfl (cs' := [_, _, _]) rfl fun a w S H => ?_)
 refine q_as S rfl fun a S => gnt <| ZAe <| ret2ct rfl S H rfl rfl (by exact Fagg41) ?_
 exact ⟨mv, vl, vr, ms, rfl, hms, H.take _⟩
theorem check41_err (v1 v2 : Value) (old next : List Pl) (v3 : Value) (ts : List Ow) (w0 : World) (hv1 : IsSl w0 v1 9 Pl.enc old) (hv2 : IsSl w0 v2 9 Pl.enc next) (hv3 : IsSl w0 v3 11 Ow.enc ts) (hok : ∀ o ∈ ts, o.ok) (hl1 : ts.length ≤ 100000) (mvv vl vr : Value) (ms : List Mv) (left right : List Int) (hmv : IsSl w0 mvv 3 Mv.enc ms) (hmr : ∀ p ∈ ZA9 ms, IsSl w0 p.1 1 encI p.2) (hvl : IsSl w0 vl 1 encI left) (hvr : IsSl w0 vr 1 encI right) (hcl : capOK vl) (hll : left.length ≤ 100000) (hlr : right.length ≤ 100000) (herr : errW old.length next.length (ZAH ts) ≠ 0) :
    Ret Tryz.prog 10 #[v1, v2, v3, .agg #[mvv, vl, vr]] w0 (fun u w => u = .bool false ∧ Ext w0 w) := by
 refine ZAE (nt := 123) Tryz.func10 rfl rfl rfl (fl := [(0, v1), (1, v2), (2, v3), (3, .agg #[mvv, vl, vr])]) rfl (fun a S => ?_)
 have H := HSat.start w0
 have H := H.ro0 (Sl v1 9 Pl.enc old) rfl (hv1)
 have H := H.ro0 (Sl v2 9 Pl.enc next) rfl (hv2)
 have H := H.ro0 (Sl v3 11 Ow.enc ts) rfl (hv3)
 have H := H.ro0 (Sl vl 1 encI left) rfl (hvl)
 have H := H.ro0 (Sl vr 1 encI right) rfl (hvr)
 have H := H.ro0 (Sl mvv 3 Mv.enc ms) rfl (hmv)
 have H := H.ro0 (ZBC 1 encI (ZA9 ms)) rfl (hmr)
 have hll1 := hv1.len
 have hl2 := hv2.len
 have hl3 := hv3.len
 have hlm := hmv.len
 refine gsr <| ZAF (ZAu (wn rfl) rfl rfl rfl S H rfl fun b7 a w S H => q_as S rfl fun a S => gnt ?_)
 refine gsr <| q_mv S rfl fun a S => q_mv S rfl fun a S => q_mv S rfl fun a S => q_cl S rfl call27 (prepare_spec v1 v2 old next v3 ts _ (H.sl v1) (H.sl v2) (H.sl v3) hok hl1) fun v w hc a S => ?_
 obtain ⟨va, vb, vc, ve, rfl, hoc, he, _⟩ := hc
 have H := H.ext he
 refine q_mv S rfl fun a S => gq rfl S (ZAa rfl S rfl rfl) fun a S => gq rfl S (ZAa rfl S rfl rfl) fun a S => q_al S H rfl Fzer98 fun b9 a w S H => ZAF (ZAQ (wn rfl) rfl rfl S H rfl rfl hoc Fsiz98 rfl (cs' := [_, _, _, _]) rfl fun a w S H => q_as S rfl fun a S => gnt ?_)
 have S := S.sel [10, 9, 8, 7, 1] rfl
 refine ZAG <| gsr <| q_mv S rfl fun a S => q_bn S rfl fun a S => ?_
 rw [show ((errW old.length next.length (ZAH ts)) != 0) = true from bne_iff_ne.2 herr] at S
 refine q_mv S rfl fun a S => ?_
 refine' ZBH (B2 := false) 7 27 rfl S H rfl rfl rfl rfl rfl rfl rfl (fun _ S => (wn rfl)) (fun h1 kk => ?yh1) (fun a w S H => ?_)
 case yh1 => exact absurd h1 (by simp)
 refine gnt ?_
 have S := S.sel [35, 9, 8, 7, 1] rfl
 refine c_if S rfl (fun h2 => ?_) (fun h2 => ?_)
 ·have h2p := h2; try simp only [DL] at h2p
  refine gsr <| q_as S rfl fun a S => gnt <| ZAe <| ZAX (ret1 rfl S rfl ?_)
  exact ⟨rfl, H.toExt⟩
 all_goals (
   exact absurd h2 (by simp))
set_option maxHeartbeats 4000000 in
theorem check41_ok (v1 v2 : Value) (old next : List Pl) (v3 : Value) (ts : List Ow) (w0 : World) (hv1 : IsSl w0 v1 9 Pl.enc old) (hv2 : IsSl w0 v2 9 Pl.enc next) (hv3 : IsSl w0 v3 11 Ow.enc ts) (hok : ∀ o ∈ ts, o.ok) (hl1 : ts.length ≤ 100000) (mvv vl vr : Value) (ms : List Mv) (left right : List Int) (hmv : IsSl w0 mvv 3 Mv.enc ms) (hmr : ∀ p ∈ ZA9 ms, IsSl w0 p.1 1 encI p.2) (hvl : IsSl w0 vl 1 encI left) (hvr : IsSl w0 vr 1 encI right) (hcl : capOK vl) (hll : left.length ≤ 100000) (hlr : right.length ≤ 100000) (herr : errW old.length next.length (ZAH ts) = 0) :
    Ret Tryz.prog 10 #[v1, v2, v3, .agg #[mvv, vl, vr]] w0 (fun u w => u = .bool (chkB (ZAH ts) (oldL old (ZAH ts)) next (ms.map Mv.say) left right) ∧ Ext w0 w) := by
 refine ZAE (nt := 123) Tryz.func10 rfl rfl rfl (fl := [(0, v1), (1, v2), (2, v3), (3, .agg #[mvv, vl, vr])]) rfl (fun a S => ?_)
 have H := HSat.start w0
 have H := H.ro0 (Sl v1 9 Pl.enc old) rfl (hv1)
 have H := H.ro0 (Sl v2 9 Pl.enc next) rfl (hv2)
 have H := H.ro0 (Sl v3 11 Ow.enc ts) rfl (hv3)
 have H := H.ro0 (Sl vl 1 encI left) rfl (hvl)
 have H := H.ro0 (Sl vr 1 encI right) rfl (hvr)
 have H := H.ro0 (Sl mvv 3 Mv.enc ms) rfl (hmv)
 have H := H.ro0 (ZBC 1 encI (ZA9 ms)) rfl (hmr)
 have hll1 := hv1.len
 have hl2 := hv2.len
 have hl3 := hv3.len
 have hlm := hmv.len
 refine gsr <| ZAF (ZAu (wn rfl) rfl rfl rfl S H rfl fun b7 a w S H => q_as S rfl fun a S => gnt ?_)
 refine gsr <| q_mv S rfl fun a S => q_mv S rfl fun a S => q_mv S rfl fun a S => q_cl S rfl call27 (prepare_spec v1 v2 old next v3 ts _ (H.sl v1) (H.sl v2) (H.sl v3) hok hl1) fun v w hc a S => ?_
 obtain ⟨va, vb, vc, ve, rfl, hoc, _, hx⟩ := hc
 obtain ⟨rfl, ps, hps, H1⟩ := hx herr
 have H := H.call4 H1 rfl rfl rfl rfl
 have hpo := errW_ok herr
 have hto := old_len old (ZAH ts)
 have hps : gr ps = ZAy (oldL old (ZAH ts)) next := hps
 have hpl0 : ps.length = (oldL old (ZAH ts)).length := by have := congrArg List.length hps; rw [gr_len, ZBO] at this; exact this
 have hvg := edges_valid (olds := (oldL old (ZAH ts))) (next := next) (by omega) (by omega)
 refine q_mv S rfl fun a S => gq rfl S (ZAa rfl S rfl rfl) fun a S => gq rfl S (ZAa rfl S rfl rfl) fun a S => ?_
 rw [herr] at S
 refine q_al S H rfl Fzer98 fun b9 a w S H => ZAF (ZAQ (wn rfl) rfl rfl S H rfl rfl hoc Fsiz98 rfl (cs' := [_, _, _, _]) rfl fun a w S H => q_as S rfl fun a S => gnt ?_)
 have S := S.sel [10, 9, 8, 7, 1] rfl
 refine ZAG <| gsr <| q_mv S rfl fun a S => q_bn S rfl fun a S => q_mv S rfl fun a S => gz 27 rfl S rfl rfl rfl rfl rfl rfl (ZAC rfl Ffo41_0 S rfl) fun a S => gz 27 rfl S rfl rfl rfl rfl rfl rfl (ZAJ rfl Fsca36 S H rfl rfl) fun a S => gz 27 rfl S rfl rfl rfl rfl rfl rfl (ZAT rfl underlying36 S H rfl) fun a S => ?_
 refine gz 27 rfl S rfl rfl rfl rfl rfl rfl (ZAC rfl Ffo98_0 S rfl) fun a S => gz 27 rfl S rfl rfl rfl rfl rfl rfl (ZAJ rfl Fsca34 S H rfl rfl) fun a S => gz 27 rfl S rfl rfl rfl rfl rfl rfl (ZAT rfl underlying34 S H rfl) fun a S => gz 27 rfl S rfl rfl rfl rfl rfl rfl (ZAn rfl S rfl rfl rfl) fun a S => gq rfl S (ZAz rfl rfl S rfl rfl) fun a S => gnt ?_
 have S := S.sel [35, 9, 8, 7, 1] rfl
 refine c_if S rfl (fun h2 => ?_) (fun h2 => ?_)
 ·have h2p := h2; try simp only [DL] at h2p
  refine gsr <| q_as S rfl fun a S => gnt <| ZAe <| ZAX (ret1 rfl S rfl ?_)
  exact ⟨by rw [chk_no (fun hc => by have := hc.len; rw [List.length_map] at this; have := h2p; omega)], H.toExt⟩
 have h2p := h2; try simp only [DL] at h2p
 have hlen : ms.length = (ZAH ts).length := by have := h2p; omega
 refine ZAM <| ZAA <| gsr <| ZAF (ZBK (fun n : Int => .int .i64 n) (fun b : Bool => .bool b) (wn rfl) rfl rfl rfl S H fun b36 a w S H => q_as S rfl fun a S => gnt ?_)
 refine gsr <| q_as S rfl fun a S => gnt <| ZAG <| gsr <| q_fa S Ffo41_0 rfl fun a S => q_ld S H Fsca36 rfl rfl fun a S => gq rfl S (ZAT rfl underlying36 S H rfl) fun a S => ?_
 refine q_mv S rfl fun a S => gnt <| ZAD ?_
 have H := H.nilO 3 1 encI
 have SU := S.sel [39, 38, 11, 9, 7, 1] rfl
 refine ZBL (X := Nat × Value) SU (fun x => [(12, x.2), (40, .int .i64 (x.1 : Int))]) (fun x w => x.1 ≤ ms.length ∧ (∀ i (h : i < (ms.map Mv.say).length) (h2 : i < (ZAH ts).length), i < x.1 → (ms.map Mv.say)[i].1 = (ZAH ts)[i].serial) ∧ (∀ i, i < x.1 → goodAt (ZAy (oldL old (ZAH ts)) next) (tosS (ms.map Mv.say)) i) ∧ ∃ c, HSat No w0 [MapA b36 (fun n : Int => .int .i64 n) (fun b : Bool => .bool b) (memS (posK (tosS (ms.map Mv.say)) x.1)) c, OSl 3 x.2 1 encI ((tosS (ms.map Mv.say)).take x.1), Cel b9 98 [va, vb, v2, ve], Cel b7 41 [mvv, vl, vr], OSl 55 va 11 Ow.enc (ZAH ts), OSl 57 vb 9 Pl.enc (oldL old (ZAH ts)), OSl 37 ve 1 ZAo ps, ZBh 3 1 encI ps, ZBC 1 encI (ZA9 ms), Sl mvv 3 Mv.enc ms, Sl vr 1 encI right, Sl vl 1 encI left, Sl v3 11 Ow.enc ts, Sl v2 9 Pl.enc next, Sl v1 9 Pl.enc old] w) (fun x => ms.length - x.1) (0, .slice none 0 0) (S.sel [12, 40] rfl) (⟨by simp, fun i h h2 hi => by simp at hi, fun i hi => by simp at hi, 0, by exact H.take [MapA b36 (fun n : Int => .int .i64 n) (fun b : Bool => .bool b) (fun _ => none) 0, OSl 3 (.slice none 0 0) 1 encI [], Cel b9 98 [va, vb, v2, ve], Cel b7 41 [mvv, vl, vr], OSl 55 va 11 Ow.enc (ZAH ts), OSl 57 vb 9 Pl.enc (oldL old (ZAH ts)), OSl 37 ve 1 ZAo ps, ZBh 3 1 encI ps, ZBC 1 encI (ZA9 ms), Sl mvv 3 Mv.enc ms, Sl vr 1 encI right, Sl vl 1 encI left, Sl v3 11 Ow.enc ts, Sl v2 9 Pl.enc next, Sl v1 9 Pl.enc old]⟩) (fun x a w S hW => ?_)
 simp only [List.cons_append, List.nil_append] at S
 clear H
 obtain ⟨k, vg⟩ := x
 obtain ⟨hk, hser, hgood, c, H⟩ := hW
 dsimp only at S H hk hser hgood
 refine gsr <| q_bn S rfl fun a S => gnt <| ZAG <| c_if S rfl (fun h3 => ?_) (fun h3 => ?_)
 ·have h3p := h3; try simp only [DL] at h3p
  have hkl : k < ms.length := by omega
  have hko : k < (ZAH ts).length := by omega
  have hkp : k < ps.length := by omega
  have hmo := (hmr _ (rows_mem hkl)).one
  have hta := tos_at hkl
  have htt := tos_take hkl
  have hrw := gr_row ps hkp
  rw [hps] at hrw
  have hsg := say_get hkl (by simpa using hkl)
  refine ZAM <| ZAA <| ZAG <| ZAD <| gsr <| q_mv S rfl fun a S => gq rfl S (ZAI rfl underlying36 Fsiz46 S H rfl rfl (by omega)) fun a S => ?_
  refine gq rfl S (ZAk _ rfl S H rfl (by exact Fagg46) (by omega)) fun a S => ?_
  refine q_al S H rfl Fzer46 fun b14 a w S H => q_as S rfl fun a S => ZAF (ZAQ (wn rfl) rfl rfl S H rfl rfl (by simp only [Mv.enc, List.all_cons, List.all_nil, hmo, Bool.and_true]; rfl) Fsiz46 rfl (cs' := [_, _, _]) rfl fun a w S H => ?_)
  refine gnt ?_
  have S := S.sel [13, 14, 12, 40, 39, 38, 11, 9, 7, 1] rfl
  refine ZAG <| ZAG <| ZAZ (loud := []) (tails := []) (free := []) [0, 1, 2, 3, 4, 5, 6, 7, 8, 9, 10, 11, 12, 13, 14, 15, 16, 17, 18, 19, 20, 21, 22, 23, 24, 25, 26, 27, 28, 29, 30, 31, 32, 33, 34, 35, 36] [] Fmo (by kernel_rfl) (by kernel_rfl) rfl H ?_
  refine m_q rfl S (fun w H => ZAC rfl Ffo46_0 S rfl) fun a S => m_q rfl S (fun w H => ZAJ rfl ZAN S H rfl rfl) fun a S => m_q rfl S (fun w H => ZAC rfl Ffo98_0 S rfl) fun a S => m_q rfl S (fun w H => ZAJ rfl Fsca34 S H rfl rfl) fun a S => m_q rfl S (fun w H => ZAL rfl S rfl) fun a S => m_q rfl S (fun w H => ZAI rfl underlying34 Fsiz55 S H rfl rfl (by omega)) fun a S => ?_
  refine m_q rfl S (fun w H => ZAq rfl Ffo55_0 S rfl) fun a S => m_q rfl S (fun w H => ZAq rfl Ffo49_0 S rfl) fun a S => m_loadsff _ rfl rfl (wn rfl) rfl rfl S rfl ZAN rfl (by omega) rfl fun a S => ?_
  refine m_q rfl S (fun w H => ZAn rfl S rfl rfl rfl) fun a S => m_q rfl S (fun w H => ZAL rfl S rfl) fun a S => ?_
  refine' m_orq [11, 12, 13] 55 S rfl rfl rfl rfl rfl rfl rfl rfl rfl (fun _ S => (wn rfl)) (fun h4 kk => ?yh4) (fun a S => ?_)
  case yh4 =>
   exact m_w rfl rfl (wg' 55 rfl rfl S rfl h4 rfl) rfl rfl S (fun w H => ZAC rfl ZBJ S rfl) fun a S => m_w rfl rfl (wg' 55 rfl rfl S rfl h4 rfl) rfl rfl S (fun w H => ZAJ rfl ZAN S H rfl rfl) fun a S => m_w rfl rfl (wg' 55 rfl rfl S rfl h4 rfl) rfl rfl S (fun w H => ZAn rfl S rfl rfl rfl) fun a S => m_q rfl S (fun w H => ZAz rfl h4 S rfl rfl) fun a S => kk _ (S.join 4 59 rfl rfl)
  refine m_q rfl S (fun w H => ZAL rfl S rfl) fun a S => ?_
  refine' m_orq [16, 17, 18, 19, 20, 21, 22, 23, 24, 25, 26, 27, 28, 29, 30, 31, 32, 33, 34, 35] 60 S rfl rfl rfl rfl rfl rfl rfl rfl rfl (fun _ S => (wn rfl)) (fun h5 kk => ?yh5) (fun a S => ?_)
  case yh5 =>
   have h5p := h5; try simp only [DL] at h5p
   refine m_w rfl rfl (wg' 60 rfl rfl S rfl h5 rfl) rfl rfl S (fun w H => ZAC rfl ZBJ S rfl) fun a S => m_w rfl rfl (wg' 60 rfl rfl S rfl h5 rfl) rfl rfl S (fun w H => ZAJ rfl ZAN S H rfl rfl) fun a S => m_w rfl rfl (wg' 60 rfl rfl S rfl h5 rfl) rfl rfl S (fun w H => ZAn rfl S rfl rfl rfl) fun a S => m_w rfl rfl (wg' 60 rfl rfl S rfl h5 rfl) rfl rfl S (fun w H => ZAL rfl S rfl) fun a S => ?_
   refine' m_andq [20, 21, 22, 23, 24, 25, 26, 27, 28, 29, 30, 31, 32, 33, 34] 64 S rfl rfl rfl rfl rfl rfl rfl rfl rfl (fun _ S => (wg' 60 rfl rfl S rfl h5 rfl)) (fun h6 kk => ?yh6) (fun a S => ?_)
   case yh6 =>
    have h6p := h6; try simp only [DL] at h6p
    refine m_w rfl rfl (wg' 64 rfl rfl S rfl h6 rfl) rfl rfl S (fun w H => ZAL rfl S rfl) fun a S => m_w rfl rfl (wg' 64 rfl rfl S rfl h6 rfl) rfl rfl S (fun w H => ZAC rfl ZBJ S rfl) fun a S => m_w rfl rfl (wg' 64 rfl rfl S rfl h6 rfl) rfl rfl S (fun w H => ZAJ rfl ZAN S H rfl rfl) fun a S => m_w rfl rfl (wg' 64 rfl rfl S rfl h6 rfl) rfl rfl S (fun w H => ZBT (ms[k].to_) (false) rfl underlying60 ZBR S H rfl (ZAv underlying3) (by exact rfl) (by exact rfl) rfl) fun a S => ?_
    refine m_w rfl rfl (wg' 64 rfl rfl S rfl h6 rfl) rfl rfl S (fun w H => ZAL rfl S rfl) fun a S => ?_
    refine' m_orq [25, 26, 27, 28, 29, 30, 31, 32, 33] 69 S rfl rfl rfl rfl rfl rfl rfl rfl rfl (fun _ S => (wg' 64 rfl rfl S rfl h6 rfl)) (fun h7 kk => ?yh7) (fun a S => ?_)
    case yh7 =>
     have h7p := h7; try simp only [DL] at h7p
     refine m_w rfl rfl (wg' 69 rfl rfl S rfl h7 rfl) rfl rfl S (fun w H => ZAC rfl Ffo98_3 S rfl) fun a S => m_w rfl rfl (wg' 69 rfl rfl S rfl h7 rfl) rfl rfl S (fun w H => ZAJ rfl Fsca62 S H rfl rfl) fun a S => m_w rfl rfl (wg' 69 rfl rfl S rfl h7 rfl) rfl rfl S (fun w H => ZAL rfl S rfl) fun a S => m_w rfl rfl (wg' 69 rfl rfl S rfl h7 rfl) rfl rfl S (fun w H => ZAI rfl underlying62 Fsiz37 S H rfl rfl (by omega)) fun a S => ?_
     refine m_loads _ rfl rfl (wg' 69 rfl rfl S rfl h7 rfl) rfl rfl S rfl ZBX rfl (by omega) rfl fun a S => ?_
     refine m_w rfl rfl (wg' 69 rfl rfl S rfl h7 rfl) rfl rfl S (fun w H => ZAC rfl ZBJ S rfl) fun a S => ?_
     refine m_w rfl rfl (wg' 69 rfl rfl S rfl h7 rfl) rfl rfl S (fun w H => ZAJ rfl ZAN S H rfl rfl) fun a S => ?_
     refine m_c rfl rfl (wg' 69 rfl rfl S rfl h7 rfl) rfl rfl S (fun w => ZAi rfl call30 S rfl) (fun w H => contains_spec ps[k].1 ps[k].2 ms[k].to_ _ (H.rws 3 ps _ (List.getElem_mem (by omega)))) fun a S => ?_
     exact m_w rfl rfl (wg' 69 rfl rfl S rfl h7 rfl) rfl rfl S (fun w H => ZBV rfl S rfl) fun a S => m_w rfl rfl (wg' 64 rfl rfl S rfl h6 rfl) rfl rfl S (fun w H => ZAz rfl h7 S rfl rfl) fun a S => kk _ (S.join 10 79 rfl rfl)
    refine m_w rfl rfl (wg' 60 rfl rfl S rfl h5 rfl) rfl rfl S (fun w H => ZBf rfl h6 S rfl rfl) fun a S => ?_
    exact kk _ (S.join 7 80 rfl rfl)
   refine m_q rfl S (fun w H => ZAz rfl h5 S rfl rfl) fun a S => ?_
   exact kk _ (S.join 6 81 rfl rfl)
  refine ZBY (fun w H => ?_)
  refine ZAA ?_
  have S := S.sel [81, 14, 12, 40, 39, 38, 11, 9, 7, 1] rfl
  refine c_if S rfl (fun h8 => ?_) (fun h8 => ?_)
  ·have h8p := h8; try simp only [DL] at h8p
   have hx := h8
   rw [memS_get] at hx
   simp only [Bool.or_eq_true, Bool.and_eq_true, decide_eq_true_eq, Bool.not_eq_true', decide_eq_false_iff_not, bne_iff_ne, ne_eq, mem_posK] at hx
   refine gsr <| q_as S rfl fun a S => gnt <| ZAe <| ZAX (ZAm (ZAX (ZAX (ZAm (ZAX (ret1 rfl S rfl ?_))))))
   refine ⟨congrArg Value.bool (Eq.symm ?_), H.toExt⟩
   by_cases hs : ms[k].serial = (ZAH ts)[k].serial
   · refine chk_bad (by simpa using hkl) (fun hg => ?_)
     rcases hg with hg | ⟨hg, hg2⟩
     · rw [hta] at hg
       rcases hx with (hx | hx) | hx
       · exact hx hs
       · omega
       omega
     rw [hta, hrw] at hg
     have hv := (ZBG hvg).2.2.2 k ms[k].to_ (by rw [hrw]; exact hg)
     rcases hx with (hx | hx) | ⟨hx, ⟨_, j, hj, e⟩ | hx2⟩
     · exact hx hs
     · omega
     · exact hg2 j hj (by rw [e, hta])
     exact hx2 hg
   exact chk_no (fun hc => hs (by have := hc.ser k (by simpa using hkl) hko; rw [hsg] at this; exact this))
  have h8p := h8; try simp only [DL] at h8p
  have hx := h8
  rw [memS_get] at hx
  simp only [Bool.or_eq_false_iff, Bool.and_eq_false_iff, decide_eq_false_iff_not, Bool.not_eq_false', decide_eq_true_eq, bne_eq_false_iff_eq, mem_posK] at hx
  obtain ⟨⟨hx1, hx2⟩, hx3⟩ := hx
  have hgd : goodAt (ZAy (oldL old (ZAH ts)) next) (tosS (ms.map Mv.say)) k := by
    rcases hx3 with hx3 | ⟨hx3, hx4⟩
    · exact .inl (by rw [hta]; omega)
    refine .inr ⟨by rw [hta, hrw]; exact hx4, fun j hj e => ?_⟩
    by_cases h0 : 0 ≤ ms[k].to_
    · exact hx3 ⟨h0, j, hj, by rw [e, hta]⟩
    have hv := (ZBG hvg).2.2.2 k ms[k].to_ (by rw [hrw]; exact hx4)
    omega
  refine ZAM <| ZAA <| ZAG <| gsr <| q_fa S ZBJ rfl fun a S => q_ld S H ZAN rfl rfl fun a S => q_bn S rfl fun a S => gnt ?_
  refine c_if S rfl (fun h9 => ?_) (fun h9 => ?_)
  ·have h9p := h9; try simp only [DL] at h9p
   have hpk : posK (tosS (ms.map Mv.say)) (k + 1) = ms[k].to_ :: posK (tosS (ms.map Mv.say)) k := by rw [posK, hta, if_pos h9p]
   refine ZAB <| q_mv S rfl fun a S => q_fa S ZBJ rfl fun a S => q_ld S H ZAN rfl rfl fun a S => ZAF (ZBA (ms[k].to_) (true) (wn rfl) rfl rfl underlying60 S H rfl (ZAv underlying3) (by exact rfl) (by exact rfl) fun a w S H => ?_)
   refine gnt ?_
   have S := S.sel [14, 12, 40, 39, 38, 11, 9, 7, 1] rfl
   refine ZAB <| q_mv S rfl fun a S => q_fa S ZBJ rfl fun a S => q_ld S H ZAN rfl rfl fun a S => ZAF (ZAP (wn rfl) rfl rfl rfl underlying37 Finf3 S H (idx := [0]) rfl rfl rfl (z := [.int .i64 0]) (by kernel_rfl) (cs := [_]) rfl fun b91 a w S H => ?_)
   refine ZAF (ZAr ([ms[k].to_]) (wn rfl) rfl rfl rfl underlying37 Finf3 rfl rfl S H rfl rfl rfl rfl (by simp) (by simp [encI]) (by simp [encI, Value.oneCell']) (by simp only [List.length_cons, List.length_nil, List.length_take]; omega) (by simp only [List.length_cons, List.length_nil, List.length_take]; omega) fun u92 a w hn92 S H => ?_)
   refine q_as S rfl fun a S => ZAj <| ZAK <| ZAA ?_
   have S := S.sel [12, 40, 39, 38, 11, 9, 7, 1] rfl
   refine ZAB <| q_ad S rfl (by omega) fun a S => ?_
   refine q_mv S rfl fun a S => gnt ?_
   have hs1 : ∀ i (h : i < (ms.map Mv.say).length) (h2 : i < (ZAH ts).length), i < k + 1 → (ms.map Mv.say)[i].1 = (ZAH ts)[i].serial := fun i h h2 hi => by
     by_cases e : i < k
     · exact hser i h h2 e
     obtain rfl : i = k := by omega
     rw [hsg]; exact hx1
   have hg1 : ∀ i, i < k + 1 → goodAt (ZAy (oldL old (ZAH ts)) next) (tosS (ms.map Mv.say)) i := fun i hi => by
     by_cases e : i < k
     · exact hgood i e
     obtain rfl : i = k := by omega
     exact hgd
   exact ⟨(k + 1, u92), S.sel [12, 40] rfl, S.sel [39, 38, 11, 9, 7, 1] rfl, ⟨by dsimp only; omega, hs1, hg1, (if (memS (posK (tosS (ms.map Mv.say)) k) ms[k].to_).isSome = true then c else c + 1), by dsimp only; rw [htt, hpk]; exact H.take [MapA b36 (fun n : Int => .int .i64 n) (fun b : Bool => .bool b) (upd (memS (posK (tosS (ms.map Mv.say)) k)) ms[k].to_ true) (if (memS (posK (tosS (ms.map Mv.say)) k) ms[k].to_).isSome = true then c else c + 1), OSl 3 u92 1 encI ((tosS (ms.map Mv.say)).take k ++ [ms[k].to_]), Cel b9 98 [va, vb, v2, ve], Cel b7 41 [mvv, vl, vr], OSl 55 va 11 Ow.enc (ZAH ts), OSl 57 vb 9 Pl.enc (oldL old (ZAH ts)), OSl 37 ve 1 ZAo ps, ZBh 3 1 encI ps, ZBC 1 encI (ZA9 ms), Sl mvv 3 Mv.enc ms, Sl vr 1 encI right, Sl vl 1 encI left, Sl v3 11 Ow.enc ts, Sl v2 9 Pl.enc next, Sl v1 9 Pl.enc old]⟩, by dsimp only; omega⟩
  have h9p := h9; try simp only [DL] at h9p
  have hpk : posK (tosS (ms.map Mv.say)) (k + 1) = posK (tosS (ms.map Mv.say)) k := by rw [posK, hta, if_neg (by have := h9p; omega)]
  refine ZAM <| ZAA ?_
  have S := S.sel [14, 12, 40, 39, 38, 11, 9, 7, 1] rfl
  refine ZAB <| q_mv S rfl fun a S => q_fa S ZBJ rfl fun a S => q_ld S H ZAN rfl rfl fun a S => ZAF (ZAP (wn rfl) rfl rfl rfl underlying37 Finf3 S H (idx := [0]) rfl rfl rfl (z := [.int .i64 0]) (by kernel_rfl) (cs := [_]) rfl fun b91 a w S H => ?_)
  refine ZAF (ZAr ([ms[k].to_]) (wn rfl) rfl rfl rfl underlying37 Finf3 rfl rfl S H rfl rfl rfl rfl (by simp) (by simp [encI]) (by simp [encI, Value.oneCell']) (by simp only [List.length_cons, List.length_nil, List.length_take]; omega) (by simp only [List.length_cons, List.length_nil, List.length_take]; omega) fun u92 a w hn92 S H => ?_)
  refine q_as S rfl fun a S => ZAj <| ZAK <| ZAA ?_
  have S := S.sel [12, 40, 39, 38, 11, 9, 7, 1] rfl
  refine ZAB <| q_ad S rfl (by omega) fun a S => ?_
  refine q_mv S rfl fun a S => gnt ?_
  have hs1 : ∀ i (h : i < (ms.map Mv.say).length) (h2 : i < (ZAH ts).length), i < k + 1 → (ms.map Mv.say)[i].1 = (ZAH ts)[i].serial := fun i h h2 hi => by
    by_cases e : i < k
    · exact hser i h h2 e
    obtain rfl : i = k := by omega
    rw [hsg]; exact hx1
  have hg1 : ∀ i, i < k + 1 → goodAt (ZAy (oldL old (ZAH ts)) next) (tosS (ms.map Mv.say)) i := fun i hi => by
    by_cases e : i < k
    · exact hgood i e
    obtain rfl : i = k := by omega
    exact hgd
  exact ⟨(k + 1, u92), S.sel [12, 40] rfl, S.sel [39, 38, 11, 9, 7, 1] rfl, ⟨by dsimp only; omega, hs1, hg1, c, by dsimp only; rw [htt, hpk]; exact H.take _⟩, by dsimp only; omega⟩
 have h3p := h3; try simp only [DL] at h3p
 obtain rfl : k = ms.length := by omega
 obtain ⟨c0, hc0⟩ : ∃ c0, c0 = c := ⟨_, rfl⟩
 rw [← hc0] at H
 rw [List.take_of_length_le (by rw [tos_len]; exact Nat.le_refl _)] at H
 refine ZAf <| ZAO (ZAO (x_eq ?_))
 refine ZAA ?_
 have S := S.sel [12, 11, 9, 7, 1] rfl
 refine ZAG <| gsr <| q_fa S Ffo41_0 rfl fun a S => q_ld S H Fsca36 rfl rfl fun a S => gq rfl S (ZAT rfl underlying36 S H rfl) fun a S => q_mv S rfl fun a S => gnt <| ZAD ?_
 have SU := S.sel [96, 95, 12, 11, 9, 7, 1] rfl
 refine ZBL (X := Nat) SU (fun k => [(97, .int .i64 (k : Int))]) (fun k w => k ≤ ms.length ∧ (∀ i (h : i < (ms.map Mv.say).length) (h2 : i < (oldL old (ZAH ts)).length), i < k → (ms.map Mv.say)[i].2.2 = if (ms.map Mv.say)[i].2.1 < 0 then offL (oldL old (ZAH ts))[i].kind next (tosS (ms.map Mv.say)) else []) ∧ HSat No w0 [MapA b36 (fun n : Int => .int .i64 n) (fun b : Bool => .bool b) (memS (posK (tosS (ms.map Mv.say)) ms.length)) c0, OSl 3 vg 1 encI (tosS (ms.map Mv.say)), Cel b9 98 [va, vb, v2, ve], Cel b7 41 [mvv, vl, vr], OSl 55 va 11 Ow.enc (ZAH ts), OSl 57 vb 9 Pl.enc (oldL old (ZAH ts)), OSl 37 ve 1 ZAo ps, ZBh 3 1 encI ps, ZBC 1 encI (ZA9 ms), Sl mvv 3 Mv.enc ms, Sl vr 1 encI right, Sl vl 1 encI left, Sl v3 11 Ow.enc ts, Sl v2 9 Pl.enc next, Sl v1 9 Pl.enc old] w) (fun k => ms.length - k) 0 (S.sel [97] rfl) (⟨by omega, fun i h h2 hi => by omega, H.take [MapA b36 (fun n : Int => .int .i64 n) (fun b : Bool => .bool b) (memS (posK (tosS (ms.map Mv.say)) ms.length)) c0, OSl 3 vg 1 encI (tosS (ms.map Mv.say)), Cel b9 98 [va, vb, v2, ve], Cel b7 41 [mvv, vl, vr], OSl 55 va 11 Ow.enc (ZAH ts), OSl 57 vb 9 Pl.enc (oldL old (ZAH ts)), OSl 37 ve 1 ZAo ps, ZBh 3 1 encI ps, ZBC 1 encI (ZA9 ms), Sl mvv 3 Mv.enc ms, Sl vr 1 encI right, Sl vl 1 encI left, Sl v3 11 Ow.enc ts, Sl v2 9 Pl.enc next, Sl v1 9 Pl.enc old]⟩) (fun k a w S hW => ?_)
 simp only [List.cons_append, List.nil_append] at S
 clear H
 obtain ⟨hk, hoff, H⟩ := hW
 refine gsr <| q_bn S rfl fun a S => gnt <| ZAG <| c_if S rfl (fun h10 => ?_) (fun h10 => ?_)
 ·have h10p := h10; try simp only [DL] at h10p
  have hkl : k < ms.length := by omega
  have hko : k < (oldL old (ZAH ts)).length := by omega
  have hmo := (hmr _ (rows_mem hkl)).one
  have hsg := say_get hkl (by simpa using hkl)
  refine ZAM <| ZAA <| ZAG <| ZAD <| gsr <| q_mv S rfl fun a S => gq rfl S (ZAI rfl underlying36 Fsiz46 S H rfl rfl (by omega)) fun a S => ?_
  refine gq rfl S (ZAk _ rfl S H rfl (by exact Fagg46) (by omega)) fun a S => ?_
  refine q_al S H rfl Fzer46 fun b16 a w S H => q_as S rfl fun a S => ZAF (ZAQ (wn rfl) rfl rfl S H rfl rfl (by simp only [Mv.enc, List.all_cons, List.all_nil, hmo, Bool.and_true]; rfl) Fsiz46 rfl (cs' := [_, _, _]) rfl fun a w S H => ?_)
  refine gnt ?_
  have S := S.sel [15, 16, 97, 96, 95, 12, 11, 9, 7, 1] rfl
  refine gsr <| q_as S rfl fun a S => gnt <| ZAG <| gsr <| q_fa S ZBJ rfl fun a S => q_ld S H ZAN rfl rfl fun a S => q_bn S rfl fun a S => ?_
  refine gnt <| c_if S rfl (fun h11 => ?_) (fun h11 => ?_)
  ·have h11p := h11; try simp only [DL] at h11p
   have hneg : ms[k].to_ < 0 := h11p
   refine ZAB <| gq rfl S (ZAb rfl S H rfl (by exact Fagg98)) fun a S => ?_
   refine q_mv S rfl fun a S => q_mv S rfl fun a S => ZAF (ZAV (wn rfl) rfl rfl S (ZAi rfl call29 S rfl) (offers_spec va vb v2 ve (oldL old (ZAH ts)) next k b36 (posK (tosS (ms.map Mv.say)) ms.length) c0 _ (H.sl vb) (H.sl v2) (H.mp b36) (by omega) (by omega)) fun uw w hc a S => ?_)
   have H1 := hc
   obtain ⟨ow, how⟩ : ∃ o, o = offL (oldL old (ZAH ts))[k].kind next (tosS (ms.map Mv.say)) := ⟨_, rfl⟩
   rw [show offL (oldL old (ZAH ts))[k].kind next (posK (tosS (ms.map Mv.say)) ms.length) = ow by rw [how]; exact offK_congr (fun k _ => by rw [← tos_len ms]; exact posK_all) _ (Nat.le_refl _)] at H1
   have H := H.call1 H1 rfl
   have hwant : ow = if ms[k].to_ < 0 then offL (oldL old (ZAH ts))[k].kind next (tosS (ms.map Mv.say)) else [] := by rw [if_pos hneg]; exact how
   refine q_as S rfl fun a S => gnt ?_
   have S := S.sel [17, 16, 97, 96, 95, 12, 11, 9, 7, 1] rfl
   refine gsr ?_
   refine q_fa S Ffo46_2 rfl fun a S => ?_
   refine q_ld S H ZBX rfl rfl fun a S => ?_
   refine q_mv S rfl fun a S => ?_
   refine q_cl S rfl call31 (equal_spec ms[k].row.1 uw ms[k].row.2 ow _ (H.rwsS (ZA9 ms) _ (rows_mem (by omega))) (H.sl uw)) fun v w hc a S => ?_
   obtain ⟨rfl, he⟩ := hc
   have H := H.ext he
   refine gq rfl S (ZBV rfl S rfl) fun a S => gnt ?_
   have S := S.sel [113, 97, 96, 95, 12, 11, 9, 7, 1] rfl
   refine c_if S rfl (fun h12 => ?_) (fun h12 => ?_)
   ·have h12p := h12; try simp only [DL] at h12p
    refine gsr <| q_as S rfl fun a S => gnt <| ZAe <| ZAm (ZAX (ZAX (ZAm (ZAX (ret1 rfl S rfl ?_)))))
    have hne : ms[k].row.2 ≠ ow := h12p
    exact ⟨congrArg Value.bool (Eq.symm (chk_no (fun hc => hne (by have := hc.off k (by simpa using hkl) (by omega); rw [hsg] at this; rw [hwant]; exact this)))), H.toExt⟩
   have h12p := h12; try simp only [DL] at h12p
   have hq := h12p
   refine ZAM <| ZAK <| ZAA <| ZAB <| q_ad S rfl (by omega) fun a S => ?_
   refine q_mv S rfl fun a S => gnt <| ⟨k + 1, S.sel [97] rfl, S.sel [96, 95, 12, 11, 9, 7, 1] rfl, ⟨by omega, fun i h h2 hi => ?_, H.take [MapA b36 (fun n : Int => .int .i64 n) (fun b : Bool => .bool b) (memS (posK (tosS (ms.map Mv.say)) ms.length)) c0, OSl 3 vg 1 encI (tosS (ms.map Mv.say)), Cel b9 98 [va, vb, v2, ve], Cel b7 41 [mvv, vl, vr], OSl 55 va 11 Ow.enc (ZAH ts), OSl 57 vb 9 Pl.enc (oldL old (ZAH ts)), OSl 37 ve 1 ZAo ps, ZBh 3 1 encI ps, ZBC 1 encI (ZA9 ms), Sl mvv 3 Mv.enc ms, Sl vr 1 encI right, Sl vl 1 encI left, Sl v3 11 Ow.enc ts, Sl v2 9 Pl.enc next, Sl v1 9 Pl.enc old]⟩, by omega⟩
   by_cases e : i < k
   · exact hoff i h h2 e
   obtain rfl : i = k := by omega
   rw [hsg]; exact hq.trans hwant
  have h11p := h11; try simp only [DL] at h11p
  have hneg : ¬ ms[k].to_ < 0 := by have := h11p; omega
  obtain ⟨uw, huw⟩ : ∃ u : Value, u = .slice none 0 0 := ⟨_, rfl⟩
  obtain ⟨ow, how⟩ : ∃ o : List Int, o = [] := ⟨_, rfl⟩
  have H := H.nilO 3 1 encI
  rw [← huw, ← how] at H
  rw [← huw] at S
  have hwant : ow = if ms[k].to_ < 0 then offL (oldL old (ZAH ts))[k].kind next (tosS (ms.map Mv.say)) else [] := by rw [if_neg hneg]; exact how
  refine ZAM <| ZAA ?_
  have S := S.sel [17, 16, 97, 96, 95, 12, 11, 9, 7, 1] rfl
  refine gsr ?_
  refine q_fa S Ffo46_2 rfl fun a S => ?_
  refine q_ld S H ZBX rfl rfl fun a S => ?_
  refine q_mv S rfl fun a S => ?_
  refine q_cl S rfl call31 (equal_spec ms[k].row.1 uw ms[k].row.2 ow _ (H.rwsS (ZA9 ms) _ (rows_mem (by omega))) (H.sl uw)) fun v w hc a S => ?_
  obtain ⟨rfl, he⟩ := hc
  have H := H.ext he
  refine gq rfl S (ZBV rfl S rfl) fun a S => gnt ?_
  have S := S.sel [113, 97, 96, 95, 12, 11, 9, 7, 1] rfl
  refine c_if S rfl (fun h13 => ?_) (fun h13 => ?_)
  ·have h13p := h13; try simp only [DL] at h13p
   refine gsr <| q_as S rfl fun a S => gnt <| ZAe <| ZAm (ZAX (ZAX (ZAm (ZAX (ret1 rfl S rfl ?_)))))
   have hne : ms[k].row.2 ≠ ow := h13p
   exact ⟨congrArg Value.bool (Eq.symm (chk_no (fun hc => hne (by have := hc.off k (by simpa using hkl) (by omega); rw [hsg] at this; rw [hwant]; exact this)))), H.toExt⟩
  have h13p := h13; try simp only [DL] at h13p
  have hq := h13p
  refine ZAM <| ZAK <| ZAA <| ZAB <| q_ad S rfl (by omega) fun a S => ?_
  refine q_mv S rfl fun a S => gnt <| ⟨k + 1, S.sel [97] rfl, S.sel [96, 95, 12, 11, 9, 7, 1] rfl, ⟨by omega, fun i h h2 hi => ?_, H.take [MapA b36 (fun n : Int => .int .i64 n) (fun b : Bool => .bool b) (memS (posK (tosS (ms.map Mv.say)) ms.length)) c0, OSl 3 vg 1 encI (tosS (ms.map Mv.say)), Cel b9 98 [va, vb, v2, ve], Cel b7 41 [mvv, vl, vr], OSl 55 va 11 Ow.enc (ZAH ts), OSl 57 vb 9 Pl.enc (oldL old (ZAH ts)), OSl 37 ve 1 ZAo ps, ZBh 3 1 encI ps, ZBC 1 encI (ZA9 ms), Sl mvv 3 Mv.enc ms, Sl vr 1 encI right, Sl vl 1 encI left, Sl v3 11 Ow.enc ts, Sl v2 9 Pl.enc next, Sl v1 9 Pl.enc old]⟩, by omega⟩
  by_cases e : i < k
  · exact hoff i h h2 e
  obtain rfl : i = k := by omega
  rw [hsg]; exact hq.trans hwant
 have h10p := h10; try simp only [DL] at h10p
 obtain rfl : k = ms.length := by omega
 refine ZAf <| ZAO (ZAO (x_eq ?_))
 refine ZAA ?_
 have S := S.sel [12, 9, 7, 1] rfl
 refine gsr <| q_fa S Ffo98_3 rfl fun a S => q_ld S H Fsca62 rfl rfl fun a S => q_mv S rfl fun a S => gq rfl S (ZAT rfl underlying30 S H rfl) fun a S => q_mv S rfl fun a S => q_fa S Ffo41_1 rfl fun a S => gq rfl S (y_loadp (vs := [vl, vr]) rfl S H rfl (by exact Fagg39) rfl) fun a S => ?_
 refine q_cl S rfl call13 (check_spec ve ps next.length vg (tosS (ms.map Mv.say)) vl vr left right _ (H.sl ve) (H.rws 3 ps) (H.sl vg) (H.sl vl) (H.sl vr) hcl (by omega) (by omega)) fun v w hc a S => ?_
 obtain ⟨rfl, he⟩ := hc
 have H := H.ext he
 refine q_as S rfl fun a S => gnt ?_
 have S := S.sel [8] rfl
 refine ZAe <| ret1 rfl S rfl ?_
 rw [hps]
 exact ⟨congrArg Value.bool (chk_last (by rw [List.length_map]; exact hlen) (fun i h h2 => hser i h h2 (by simpa using h)) (fun i h h2 => hoff i h h2 (by simpa using h))), H.toExt⟩
theorem plan_any (v1 v2 : Value) (old next : List Pl) (v3 : Value) (ts : List Ow) (w0 : World) (hv1 : IsSl w0 v1 9 Pl.enc old) (hv2 : IsSl w0 v2 9 Pl.enc next) (hv3 : IsSl w0 v3 11 Ow.enc ts) (hok : ∀ o ∈ ts, o.ok) (hl1 : ts.length ≤ 100000) : Ret Tryz.prog 9 #[v1, v2, v3] w0 (fun u w => ∃ mv vl vr, ∃ ms : List Mv, u = .tuple #[.agg #[mv, vl, vr], .int .i64 (errP old next ts)] ∧ ms.map Mv.say = sayP old next ts ∧ HSat No w0 [OSl 46 mv 3 Mv.enc ms, ZBh 3 1 encI (ZA9 ms), OSl 3 vl 1 encI (clP old next ts), OSl 3 vr 1 encI (crP old next ts)] w) := by
  by_cases herr : errP old next ts = 0
  · refine Ret.mono (plan_ok v1 v2 old next v3 ts w0 hv1 hv2 hv3 hok hl1 herr) ?_
    rintro _ w ⟨mv, vl, vr, ms, rfl, hms, H⟩
    refine ⟨mv, vl, vr, ms, by rw [herr], by unfold sayP; rw [if_pos herr]; exact hms, ?_⟩
    unfold clP crP
    rw [if_pos herr, if_pos herr]; exact H
  refine Ret.mono (plan_err v1 v2 old next v3 ts w0 hv1 hv2 hv3 hok hl1 herr) ?_
  rintro _ w ⟨rfl, he⟩
  refine ⟨.slice none 0 0, .slice none 0 0, .slice none 0 0, [], rfl, by unfold sayP; rw [if_neg herr]; rfl, ?_⟩
  unfold clP crP
  rw [if_neg herr, if_neg herr]
  exact ((((HSat.start w0).ext he).nilO 3 1 encI).nilO 3 1 encI |>.rowsZ 3 1 encI).nilO 46 3 Mv.enc
theorem check_any (v1 v2 : Value) (old next : List Pl) (v3 : Value) (ts : List Ow) (w0 : World) (hv1 : IsSl w0 v1 9 Pl.enc old) (hv2 : IsSl w0 v2 9 Pl.enc next) (hv3 : IsSl w0 v3 11 Ow.enc ts) (hok : ∀ o ∈ ts, o.ok) (hl1 : ts.length ≤ 100000) (mvv vl vr : Value) (ms : List Mv) (left right : List Int) (hmv : IsSl w0 mvv 3 Mv.enc ms) (hmr : ∀ p ∈ ZA9 ms, IsSl w0 p.1 1 encI p.2) (hvl : IsSl w0 vl 1 encI left) (hvr : IsSl w0 vr 1 encI right) (hcl : capOK vl) (hll : left.length ≤ 100000) (hlr : right.length ≤ 100000) : Ret Tryz.prog 10 #[v1, v2, v3, .agg #[mvv, vl, vr]] w0 (fun u w => u = .bool (chkW old next ts (ms.map Mv.say) left right) ∧ Ext w0 w) := by
  by_cases herr : errP old next ts = 0
  · unfold chkW
    rw [if_pos herr]
    exact check41_ok v1 v2 old next v3 ts w0 hv1 hv2 hv3 hok hl1 mvv vl vr ms left right hmv hmr hvl hvr hcl hll hlr herr
  unfold chkW
  rw [if_neg herr]
  exact check41_err v1 v2 old next v3 ts w0 hv1 hv2 hv3 hok hl1 mvv vl vr ms left right hmv hmr hvl hvr hcl hll hlr herr
structure SoldI (pl : Nat) (o : List Ow) : Prop where
  z : ∀ x ∈ o, ∃ s p : Int, x = owZ s p ∧ 0 ≤ p ∧ p < pl
  nd : (o.map Ow.place).Nodup
theorem soldN_inv {pl : Nat} (hp : 0 < pl) (cs : List Nat) : ∀ k, SoldI pl (ZB2 pl cs k)
  | 0 => ⟨fun x h => by simp [ZB2] at h, by simp [ZB2]⟩
  | k + 1 => by
    have ih := soldN_inv hp cs k
    rw [soldN_s]
    split
    · split
      · exact ih
      rename_i hno
      refine ⟨fun x hx => ?_, ?_⟩
      · rcases List.mem_append.1 hx with h | h
        · exact ih.z x h
        have hm := Nat.mod_lt (cs.getD k 0) hp
        exact ⟨_, _, List.mem_singleton.1 h, by omega, by omega⟩
      rw [List.map_append, List.nodup_append]
      refine ⟨ih.nd, by simp, fun a ha b hb => ?_⟩
      rw [List.map_cons, List.map_nil, List.mem_singleton] at hb
      rintro rfl
      rw [hb] at ha
      exact hno ha
    exact ih
theorem sold_inv (pl : Nat) (cs : List Nat) : SoldI pl (soldR pl cs) := by
  unfold soldR
  split
  · exact ⟨fun x h => by simp at h, by simp⟩
  exact soldN_inv (by omega) cs _
theorem sold_len (pl : Nat) (cs : List Nat) : (soldR pl cs).length ≤ 30 := by
  unfold soldR
  split
  · simp
  exact (soldN_len pl cs _).1
theorem sold_ok (pl : Nat) (cs : List Nat) : ∀ o ∈ soldR pl cs, o.ok := fun o ho => by
  obtain ⟨s, p, rfl, _⟩ := (sold_inv pl cs).z o ho
  exact owZ_ok s p
theorem sold_moved (pl : Nat) (cs : List Nat) : ZAH (soldR pl cs) = soldR pl cs := by
  unfold ZAH
  rw [List.filter_eq_self]
  intro o ho
  obtain ⟨s, p, rfl, h1, h2⟩ := (sold_inv pl cs).z o ho
  unfold movedB
  show (decide ((0 : Int) = 0) && decide (0 ≤ p)) = true
  rw [decide_eq_true h1]; rfl
theorem sold_pl (pl : Nat) (cs : List Nat) : PlOK pl (soldR pl cs) := by
  have h := sold_inv pl cs
  intro j hj
  refine ⟨?_, fun q hq => ?_⟩
  · obtain ⟨s, p, e, h1, h2⟩ := h.z _ (List.getElem_mem hj)
    rw [e]; exact h2
  have h9 := List.pairwise_iff_getElem.1 h.nd q j (by rw [List.length_map]; omega) (by rw [List.length_map]; exact hj) hq
  rw [List.getElem_map, List.getElem_map] at h9
  exact h9
theorem sold_err {old next : List Pl} (cs : List Nat) (h1 : old.length ≤ 4000) (h2 : next.length ≤ 4000) : errP old next (soldR old.length cs) = 0 := by
  have h3 := sold_len old.length cs
  unfold errP errW
  rw [sold_moved, if_neg (by omega), if_pos (plOK_yes (sold_pl old.length cs))]
def TS3 : List Ow := [owZ 10001 0, owZ 10002 2, owZ 10003 4]
theorem sold3 : soldR 5 [0, 2, 4] = TS3 := by kernel_rfl
theorem err3 : errP PL5 PL4 TS3 = 0 := by
  rw [← sold3]
  exact sold_err (old := PL5) (next := PL4) [0, 2, 4] (by decide) (by decide)
theorem say3 : sayP PL5 PL4 TS3 = [(10001, 1, []), (10002, 0, []), (10003, 3, [])] := by unfold sayP; rw [if_pos err3]; kernel_rfl
theorem IsSl.reenc {w : World} {v : Value} {sz : Nat} {α : Type} {enc : α → List Value} {x y : α} (h : IsSl w v sz enc [x]) (e : enc x = enc y) : IsSl w v sz enc [y] := by
  refine ⟨h.len, h.shape, fun z hz => ?_, fun i hi => ?_⟩
  · rw [List.mem_singleton.1 hz, ← e]; exact h.sizes x (List.mem_singleton.2 rfl)
  have hi0 : i = 0 := by have : i < 1 := hi; omega
  subst hi0
  obtain ⟨b, off, c, h1, h2⟩ := h.cells 0 hi
  refine ⟨b, off, c, h1, fun j u hu => h2 j u ?_⟩
  show (enc x)[j]? = some u
  rw [e]; exact hu
set_option maxHeartbeats 4000000 in
theorem halls_spec (w0 : World) :
    Ret Tryz.prog 5 #[] w0 (fun u w => u = .bool true ∧ Ext w0 w) := by
 refine ZAE (nt := 99) Tryz.func5 rfl rfl rfl (fl := []) rfl (fun a S => ?_)
 have H := HSat.start w0
 refine gsr <| q_as S rfl fun a S => gnt <| gsr <| q_cl S rfl call15 (whall_spec _) fun v w hc a S => ?_
 obtain ⟨lv, bv, rv, av, iv, dv, rfl, H1⟩ := hc
 have H := HSat.call6 H H1
 rw [show HallV.enc (hallK lv bv rv av iv dv) = [.string ⟨#[104]⟩, .int .i64 0, .int .i64 0, lv] from rfl] at S
 refine q_al S H rfl Fzer26 fun b1 a w S H => ZAF (ZAQ (wn rfl) rfl rfl S H rfl rfl (by simp only [List.all_cons, List.all_nil, H.sl1 lv]; rfl) Fsiz26 rfl (cs' := [_, _, _, _]) rfl fun a w S H => ?_)
 refine gnt <| gsr <| gq rfl S (ZAb rfl S H rfl (by exact Fagg26)) fun a S => ?_
 refine q_cl S rfl call7 (build_spec (hallT 3 lv bv rv av iv dv) _ (hallT_ok (t := 3) (IsSl.reenc (H.sl lv) rfl) (IsSl.reenc (H.sl bv) rfl) (H.sl rv) (H.ok (OSl 92 av 7 AreaV.enc [areaK]) (by simp)) (H.sl iv) (H.sl dv)) hallT_B) fun v w hc a S => ?_
 obtain ⟨ov1, fv1, ps, fs, rfl, _, hps, hgd, _, H1⟩ := hc
 obtain ⟨_, rfl⟩ := hps (hgd (hallT_good (by decide)))
 rw [places3] at H1
 have H := H.call2 H1 rfl rfl
 refine q_mv S rfl fun a S => gq rfl S (ZAa rfl S rfl rfl) fun a S => gq rfl S (ZAa rfl S rfl rfl) fun a S => q_as S rfl fun a S => q_as S rfl fun a S => gnt ?_
 have S := S.sel [2, 0] rfl
 refine gsr <| q_cl S rfl call15 (whall_spec _) fun v w hc a S => ?_
 obtain ⟨lv2, bv2, rv2, av2, iv2, dv2, rfl, H1⟩ := hc
 have H := HSat.call6 H H1
 rw [show HallV.enc (hallK lv2 bv2 rv2 av2 iv2 dv2) = [.string ⟨#[104]⟩, .int .i64 0, .int .i64 0, lv2] from rfl] at S
 refine q_al S H rfl Fzer26 fun b4 a w S H => ZAF (ZAQ (wn rfl) rfl rfl S H rfl rfl (by simp only [List.all_cons, List.all_nil, H.sl1 lv2]; rfl) Fsiz26 rfl (cs' := [_, _, _, _]) rfl fun a w S H => ?_)
 refine gnt <| ZAG <| gsr <| q_mv S rfl fun a S => gq rfl S (ZAT rfl underlying30 S H rfl) fun a S => q_bn S rfl fun a S => q_mv S rfl fun a S => ?_
 refine' ZBH 4 19 rfl S H rfl rfl rfl rfl rfl rfl rfl (fun _ S => (wn rfl)) (fun h1 kk => ?yh1) (fun a w S H => ?_)
 case yh1 =>
  exact gz 19 h1 S rfl rfl rfl rfl rfl rfl (ZAC rfl ZBi S rfl) fun a S => gz 19 h1 S rfl rfl rfl rfl rfl rfl (ZAJ rfl Fsca24 S H rfl rfl) fun a S => gz 19 h1 S rfl rfl rfl rfl rfl rfl (ZAT rfl underlying24 S H rfl) fun a S => gz 19 h1 S rfl rfl rfl rfl rfl rfl (ZAn rfl S rfl rfl rfl) fun a S => gq rfl S (ZAz rfl h1 S rfl rfl) fun a S => kk _ _ (S.join 5 24 rfl rfl) H
 refine gnt ?_
 have S := S.sel [24, 4, 2, 0] rfl
 refine c_if S rfl (fun h2 => ?_) (fun h2 => ?_)
 ·have h2p := h2; try simp only [DL] at h2p
  all_goals (
    exact absurd h2 (by simp [PL5]))
 have h2p := h2; try simp only [DL] at h2p
 refine ZAM <| ZAA <| gsr <| q_fa S ZBi rfl fun a S => q_ld S H Fsca24 rfl rfl fun a S => gq rfl S (y_iaddrs rfl underlying24 Fsiz79 S H rfl rfl (by first | decide | exact of_decide_eq_true (by kernel_rfl))) fun a S => ?_
 refine gq rfl S (ZAq rfl Ffo79_2 S rfl) fun a S => gq rfl S ((y_loadsf (u := bv2) _ rfl Fsca74 S H rfl (by exact Nat.zero_lt_one) rfl)) fun a S => ?_
 refine gq rfl S (y_iaddrs rfl underlying74 Fsiz73 S H rfl rfl (by first | decide | exact of_decide_eq_true (by kernel_rfl))) fun a S => ?_
 refine gq rfl S (ZAq rfl Ffo73_1 S rfl) fun a S => gq rfl S ((y_loadsf (u := rv2) _ rfl Fsca71 S H rfl (by exact Nat.zero_lt_one) rfl)) fun a S => ?_
 refine gq rfl S (y_iaddrs rfl underlying71 Fsiz70 S H rfl rfl (by first | decide | exact of_decide_eq_true (by kernel_rfl))) fun a S => ?_
 refine gq rfl S (ZAq rfl Ffo70_4 S rfl) fun a S => ZAF (op_storeS (i := 0) (j := 4) (sz := 8) (vs := [.int .i64 2]) _ (rowT 2) (wn rfl) rfl rfl S H rfl rfl rfl rfl (by intro c hc; rw [List.mem_singleton.1 hc]; rfl) ZA5 (by decide) (by decide) (by rfl) fun a w S H => ?_)
 rw [show [rowK].set 0 (rowT 2) = [rowT 2] from rfl] at H
 refine gnt ?_
 have S := S.sel [4, 2, 0] rfl
 refine gsr <| gq rfl S (ZAb rfl S H rfl (by exact Fagg26)) fun a S => ?_
 refine q_cl S rfl call7 (build_spec (hallT 2 lv2 bv2 rv2 av2 iv2 dv2) _ (hallT_ok (t := 2) (IsSl.reenc (H.sl lv2) rfl) (IsSl.reenc (H.sl bv2) rfl) (H.sl rv2) (H.ok (OSl 92 av2 7 AreaV.enc [areaK]) (by simp)) (H.sl iv2) (H.sl dv2)) hallT_B) fun v w hc a S => ?_
 obtain ⟨ov2, fv2, ps, fs, rfl, _, hps, hgd, _, H1⟩ := hc
 obtain ⟨_, rfl⟩ := hps (hgd (hallT_good (by decide)))
 rw [places2] at H1
 have H := H.call2 H1 rfl rfl
 refine q_mv S rfl fun a S => gq rfl S (ZAa rfl S rfl rfl) fun a S => gq rfl S (ZAa rfl S rfl rfl) fun a S => q_as S rfl fun a S => q_as S rfl fun a S => gnt ?_
 have S := S.sel [5, 2, 0] rfl
 refine gsr <| q_mv S rfl fun a S => q_mv S rfl fun a S => ZAF (ZAP (wn rfl) rfl rfl rfl underlying27 Finf80 S H (idx := [0, 1, 2]) rfl rfl rfl (z := [.int .u16 0, .int .u16 0, .int .u16 0]) (by kernel_rfl) (cs := [.int .u16 0, .int .u16 2, .int .u16 4]) (by kernel_rfl) fun b43 a w S H => ?_)
 refine ZAF (ZAV (wn rfl) rfl rfl S (ZAi rfl call8 S rfl) (sold_spec 5 _ [0, 2, 4] _ (H.slb b43 [0, 2, 4] encC16 1 rfl rfl (by intro x _; rfl) (by simp)) (by decide) (by decide) (by decide)) fun sv w hc a S => ?_)
 have H1 := hc
 rw [sold3] at H1
 have H := H.call1 H1 rfl
 refine q_cl S rfl call9 (plan_any ov1 ov2 PL5 PL4 sv TS3 _ (H.sl ov1) (H.sl ov2) (H.sl sv) (by rw [← sold3]; exact sold_ok _ _) (by decide)) fun v w hc a S => ?_
 obtain ⟨mv, vl, vr, ms, rfl, hms, H1⟩ := hc
 have H := H.call4 H1 rfl rfl rfl rfl
 rw [err3] at S
 rw [say3] at hms
 obtain ⟨m1, m2, m3, rfl, hm1, hm2, hm3⟩ := mv3 hms
 have e1 : m1.to_ = 1 := congrArg (fun x : Say => x.2.1) hm1
 have e2 : m2.to_ = 0 := congrArg (fun x : Say => x.2.1) hm2
 have e3 : m3.to_ = 3 := congrArg (fun x : Say => x.2.1) hm3
 refine q_mv S rfl fun a S => ?_
 refine gq rfl S (ZAa rfl S rfl rfl) fun a S => ?_
 refine gq rfl S (ZAa rfl S rfl rfl) fun a S => ?_
 refine q_al S H rfl Fzer41 fun b7 a w S H => ?_
 refine ZAF (ZAQ (wn rfl) rfl rfl S H rfl rfl (by simp only [List.all_cons, List.all_nil, H.sl1 mv, H.sl1 vl, H.sl1 vr]; rfl) Fsiz41 rfl (cs' := [_, _, _]) rfl fun a w S H => ?_)
 refine q_as S rfl fun a S => gnt ?_
 have S := S.sel [8, 7, 5, 0] rfl
 refine ZAG <| ZAZ (loud := []) (tails := []) (free := []) [0, 1, 2, 3, 4, 5, 6, 7, 8, 9, 10, 11, 12, 13, 14, 15, 16, 17, 18, 19, 20, 21, 22, 23, 24, 25, 26, 27, 28, 29, 30, 31, 32, 33, 34, 35, 36, 37, 38, 39, 40, 41, 42, 43, 44, 45, 46, 47, 48, 49, 50, 51] [] Fmo (by kernel_rfl) (by kernel_rfl) rfl H ?_
 refine m_q rfl S (fun w H => ZAL rfl S rfl) fun a S => m_q rfl S (fun w H => ZAT rfl underlying30 S H rfl) fun a S => m_q rfl S (fun w H => ZAn rfl S rfl rfl rfl) fun a S => m_q rfl S (fun w H => ZAL rfl S rfl) fun a S => m_w rfl rfl (wg' 51 rfl rfl S rfl (by simp [PL4, e1, e2, e3]) rfl) rfl rfl S (fun w H => ZAL rfl S rfl) fun a S => ?_
 refine m_w rfl rfl (wg' 51 rfl rfl S rfl (by simp [PL4, e1, e2, e3]) rfl) rfl rfl S (fun w H => ZAn rfl S rfl rfl rfl) fun a S => ?_
 refine m_q rfl S (fun w H => ZBf rfl (by simp [PL4, e1, e2, e3]) S rfl rfl) fun a S => ?_
 refine m_q rfl S (fun w H => ZAL rfl S rfl) fun a S => m_w rfl rfl (wg' 55 rfl rfl S rfl (by simp [PL4, e1, e2, e3]) rfl) rfl rfl S (fun w H => ZAC rfl Ffo41_0 S rfl) fun a S => ?_
 refine m_w rfl rfl (wg' 55 rfl rfl S rfl (by simp [PL4, e1, e2, e3]) rfl) rfl rfl S (fun w H => ZAJ rfl Fsca36 S H rfl rfl) fun a S => ?_
 refine m_w rfl rfl (wg' 55 rfl rfl S rfl (by simp [PL4, e1, e2, e3]) rfl) rfl rfl S (fun w H => ZAT rfl underlying36 S H rfl) fun a S => ?_
 refine m_w rfl rfl (wg' 55 rfl rfl S rfl (by simp [PL4, e1, e2, e3]) rfl) rfl rfl S (fun w H => ZAn rfl S rfl rfl rfl) fun a S => ?_
 refine m_q rfl S (fun w H => ZBf rfl (by simp [PL4, e1, e2, e3]) S rfl rfl) fun a S => ?_
 refine m_q rfl S (fun w H => ZAL rfl S rfl) fun a S => m_w rfl rfl (wg' 61 rfl rfl S rfl (by simp [PL4, e1, e2, e3]) rfl) rfl rfl S (fun w H => ZAC rfl Ffo41_0 S rfl) fun a S => ?_
 refine m_w rfl rfl (wg' 61 rfl rfl S rfl (by simp [PL4, e1, e2, e3]) rfl) rfl rfl S (fun w H => ZAJ rfl Fsca36 S H rfl rfl) fun a S => ?_
 refine m_w rfl rfl (wg' 61 rfl rfl S rfl (by simp [PL4, e1, e2, e3]) rfl) rfl rfl S (fun w H => y_iaddrs rfl underlying36 Fsiz46 S H rfl rfl (by first | decide | exact of_decide_eq_true (by kernel_rfl))) fun a S => ?_
 refine m_w rfl rfl (wg' 61 rfl rfl S rfl (by simp [PL4, e1, e2, e3]) rfl) rfl rfl S (fun w H => ZAq rfl ZBJ S rfl) fun a S => ?_
 refine ZA3 _ rfl rfl (wg' 61 rfl rfl S rfl (by simp [PL4, e1, e2, e3]) rfl) rfl rfl S rfl ZAN rfl (by first | decide | exact of_decide_eq_true (by kernel_rfl)) rfl fun a S => ?_
 refine m_w rfl rfl (wg' 61 rfl rfl S rfl (by simp [PL4, e1, e2, e3]) rfl) rfl rfl S (fun w H => ZAC rfl Ffo41_0 S rfl) fun a S => ?_
 refine m_w rfl rfl (wg' 61 rfl rfl S rfl (by simp [PL4, e1, e2, e3]) rfl) rfl rfl S (fun w H => ZAJ rfl Fsca36 S H rfl rfl) fun a S => ?_
 refine m_w rfl rfl (wg' 61 rfl rfl S rfl (by simp [PL4, e1, e2, e3]) rfl) rfl rfl S (fun w H => y_iaddrs rfl underlying36 Fsiz46 S H rfl rfl (by first | decide | exact of_decide_eq_true (by kernel_rfl))) fun a S => ?_
 refine m_w rfl rfl (wg' 61 rfl rfl S rfl (by simp [PL4, e1, e2, e3]) rfl) rfl rfl S (fun w H => ZAq rfl ZBJ S rfl) fun a S => ?_
 refine ZA3 _ rfl rfl (wg' 61 rfl rfl S rfl (by simp [PL4, e1, e2, e3]) rfl) rfl rfl S rfl ZAN rfl (by first | decide | exact of_decide_eq_true (by kernel_rfl)) rfl fun a S => ?_
 refine m_w rfl rfl (wg' 61 rfl rfl S rfl (by simp [PL4, e1, e2, e3]) rfl) rfl rfl S (fun w H => (y_add rfl S rfl rfl (by show -9223372036854775808 ≤ m1.to_ + m2.to_ ∧ m1.to_ + m2.to_ ≤ 9223372036854775807; omega))) fun a S => ?_
 refine m_w rfl rfl (wg' 61 rfl rfl S rfl (by simp [PL4, e1, e2, e3]) rfl) rfl rfl S (fun w H => ZAn rfl S rfl rfl rfl) fun a S => ?_
 refine m_q rfl S (fun w H => ZBf rfl (by simp [PL4, e1, e2, e3]) S rfl rfl) fun a S => ?_
 refine m_q rfl S (fun w H => ZAL rfl S rfl) fun a S => m_w rfl rfl (wg' 75 rfl rfl S rfl (by simp [PL4, e1, e2, e3]) rfl) rfl rfl S (fun w H => ZAC rfl Ffo41_0 S rfl) fun a S => ?_
 refine m_w rfl rfl (wg' 75 rfl rfl S rfl (by simp [PL4, e1, e2, e3]) rfl) rfl rfl S (fun w H => ZAJ rfl Fsca36 S H rfl rfl) fun a S => ?_
 refine m_w rfl rfl (wg' 75 rfl rfl S rfl (by simp [PL4, e1, e2, e3]) rfl) rfl rfl S (fun w H => y_iaddrs rfl underlying36 Fsiz46 S H rfl rfl (by first | decide | exact of_decide_eq_true (by kernel_rfl))) fun a S => ?_
 refine m_w rfl rfl (wg' 75 rfl rfl S rfl (by simp [PL4, e1, e2, e3]) rfl) rfl rfl S (fun w H => ZAq rfl ZBJ S rfl) fun a S => ?_
 refine ZA3 _ rfl rfl (wg' 75 rfl rfl S rfl (by simp [PL4, e1, e2, e3]) rfl) rfl rfl S rfl ZAN rfl (by first | decide | exact of_decide_eq_true (by kernel_rfl)) rfl fun a S => ?_
 refine m_w rfl rfl (wg' 75 rfl rfl S rfl (by simp [PL4, e1, e2, e3]) rfl) rfl rfl S (fun w H => ZAn rfl S rfl rfl rfl) fun a S => ?_
 refine m_q rfl S (fun w H => ZBf rfl (by simp [PL4, e1, e2, e3]) S rfl rfl) fun a S => ?_
 refine m_q rfl S (fun w H => ZAL rfl S rfl) fun a S => m_w rfl rfl (wg' 83 rfl rfl S rfl (by simp [PL4, e1, e2, e3]) rfl) rfl rfl S (fun w H => ZAC rfl Ffo41_0 S rfl) fun a S => ?_
 refine m_w rfl rfl (wg' 83 rfl rfl S rfl (by simp [PL4, e1, e2, e3]) rfl) rfl rfl S (fun w H => ZAJ rfl Fsca36 S H rfl rfl) fun a S => ?_
 refine m_w rfl rfl (wg' 83 rfl rfl S rfl (by simp [PL4, e1, e2, e3]) rfl) rfl rfl S (fun w H => y_iaddrs rfl underlying36 Fsiz46 S H rfl rfl (by first | decide | exact of_decide_eq_true (by kernel_rfl))) fun a S => ?_
 refine m_w rfl rfl (wg' 83 rfl rfl S rfl (by simp [PL4, e1, e2, e3]) rfl) rfl rfl S (fun w H => ZAq rfl ZBJ S rfl) fun a S => ?_
 refine ZA3 _ rfl rfl (wg' 83 rfl rfl S rfl (by simp [PL4, e1, e2, e3]) rfl) rfl rfl S rfl ZAN rfl (by first | decide | exact of_decide_eq_true (by kernel_rfl)) rfl fun a S => ?_
 refine m_w rfl rfl (wg' 83 rfl rfl S rfl (by simp [PL4, e1, e2, e3]) rfl) rfl rfl S (fun w H => ZAn rfl S rfl rfl rfl) fun a S => ?_
 refine m_q rfl S (fun w H => ZBf rfl (by simp [PL4, e1, e2, e3]) S rfl rfl) fun a S => ?_
 refine m_q rfl S (fun w H => ZAL rfl S rfl) fun a S => m_w rfl rfl (wg' 91 rfl rfl S rfl (by simp [PL4, e1, e2, e3]) rfl) rfl rfl S (fun w H => ZAC rfl Ffo41_0 S rfl) fun a S => ?_
 refine m_w rfl rfl (wg' 91 rfl rfl S rfl (by simp [PL4, e1, e2, e3]) rfl) rfl rfl S (fun w H => ZAJ rfl Fsca36 S H rfl rfl) fun a S => ?_
 refine m_w rfl rfl (wg' 91 rfl rfl S rfl (by simp [PL4, e1, e2, e3]) rfl) rfl rfl S (fun w H => y_iaddrs rfl underlying36 Fsiz46 S H rfl rfl (by first | decide | exact of_decide_eq_true (by kernel_rfl))) fun a S => ?_
 refine m_w rfl rfl (wg' 91 rfl rfl S rfl (by simp [PL4, e1, e2, e3]) rfl) rfl rfl S (fun w H => ZAq rfl ZBJ S rfl) fun a S => ?_
 refine ZA3 _ rfl rfl (wg' 91 rfl rfl S rfl (by simp [PL4, e1, e2, e3]) rfl) rfl rfl S rfl ZAN rfl (by first | decide | exact of_decide_eq_true (by kernel_rfl)) rfl fun a S => ?_
 refine m_w rfl rfl (wg' 91 rfl rfl S rfl (by simp [PL4, e1, e2, e3]) rfl) rfl rfl S (fun w H => ZAn rfl S rfl rfl rfl) fun a S => ?_
 refine m_q rfl S (fun w H => ZBf rfl (by simp [PL4, e1, e2, e3]) S rfl rfl) fun a S => ?_
 refine m_q rfl S (fun w H => ZA1 rfl S rfl) fun a S => ZBY (fun w H => ZAA ?_)
 have S := S.sel [0] rfl
 refine ZAe <| ret1 rfl S rfl <| ⟨congrArg Value.bool ?_, H.toExt⟩
 simp [PL4, e1, e2, e3]
def usedP (l : List Int) : Int → Option Bool := fun n => if n ∈ l then some true else none
theorem usedP_new (l : List Int) (n : Int) : upd (usedP l) n true = usedP (n :: l) := by
  funext x
  unfold upd usedP
  by_cases h : x = n
  · rw [if_pos h, if_pos (h ▸ List.mem_cons_self ..)]
  rw [if_neg h]
  have e : (x ∈ n :: l) ↔ x ∈ l := by rw [List.mem_cons]; exact ⟨fun hx => hx.elim (fun hx => absurd hx h) id, .inr⟩
  simp only [e]
theorem usedP_get (l : List Int) (n : Int) : (usedP l n).getD false = decide (n ∈ l) := by
  unfold usedP
  by_cases h : n ∈ l
  · rw [if_pos h, decide_eq_true h]; rfl
  rw [if_neg h, decide_eq_false h]; rfl
theorem snoc_at {l : List Pl} {p : Pl} {k : Nat} (hk : l.length = k) (h : k < (l ++ [p]).length) : (l ++ [p])[k] = p := by
  subst hk
  rw [List.getElem_append_right (Nat.le_refl _)]
  simp
theorem size_best {ps qs : List Pl} {ts : List Ow} {ms : List Mv} (hM : PlanM ps qs ts ms) (hmvd : ZAH ts = ts) (got : List Int) : sizeL (ZAy (oldL ps ts) qs) got ≤ (cntG (tosS (ms.map Mv.say)) ms.length : Int) := by
  have hc := hM.cov
  have hs := hM.size
  rw [hmvd] at hc hs
  by_cases h : IsM (ZAy (oldL ps ts) qs) got
  · rw [sizeL_yes h, hs]
    have := best hc h
    omega
  rw [sizeL_no h]; omega
theorem cov_own {ps qs : List Pl} {ts : List Ow} {ms : List Mv} (hM : PlanM ps qs ts ms) (hmvd : ZAH ts = ts) : checkL (ZAy (oldL ps ts) qs) qs.length (tosS (ms.map Mv.say)) (clP ps qs ts) (crP ps qs ts) = true := by
  have hc := hM.cov
  have ht := hM.tos
  unfold clP crP
  rw [if_pos hM.err, if_pos hM.err, ht]
  rw [hmvd] at hc ⊢
  exact hc
set_option maxHeartbeats 8000000 in
theorem moved_law (h g : HallV) (cv : Value) (cs : List Nat) (gv : Value) (got : List Int) (w0 : World) (hH : (ZAU h).ok w0) (hB : HallB h) (hH2 : (ZAU g).ok w0) (hB2 : HallB g) (hv : IsSl w0 cv 1 encC16 cs) (hc : ∀ c ∈ cs, c < 65536) (hgv : IsSl w0 gv 1 encI got) :
    Ret Tryz.prog 4 #[.agg (HallV.enc h).toArray, .agg (HallV.enc g).toArray, cv, gv] w0 (fun u w => u = .bool true ∧ Ext w0 w) := by
 refine ZAE (nt := 267) Tryz.func4 rfl rfl rfl (fl := [(0, .agg (HallV.enc h).toArray), (1, .agg (HallV.enc g).toArray), (2, cv), (3, gv)]) rfl (fun a S => ?_)
 have H := HSat.start w0
 have H := H.ro0 (ZAU h) rfl (hH)
 have H := H.ro0 (ZAU g) rfl (hH2)
 have H := H.ro0 (Sl cv 1 encC16 cs) rfl (hv)
 have H := H.ro0 (Sl gv 1 encI got) rfl (hgv)
 have hlen := hv.len
 have hleng := hgv.len
 refine gsr <| ZAF (ZAu (wn rfl) rfl rfl rfl S H rfl fun b4 a w S H => ZAF (ZAu (wn rfl) rfl rfl rfl S H rfl fun b5 a w S H => q_as S rfl fun a S => gnt ?_))
 refine gsr <| q_cl S rfl call5 (halls_spec _) fun v w hc a S => ?_
 obtain ⟨rfl, he⟩ := hc
 have H := H.ext he
 refine q_as S rfl fun a S => gnt <| ZAG <| gsr <| gq rfl S (ZAb rfl S H rfl (by exact Fagg26)) fun a S => ?_
 refine q_cl S rfl call6 (small_spec h _ (H.ok (ZAU h) (by simp)) hB) fun v w hc a S => ?_
 obtain ⟨rfl, he⟩ := hc
 have H := H.ext he
 refine gq rfl S (ZBV rfl S rfl) fun a S => q_mv S rfl fun a S => ?_
 refine' ZBH 3 31 rfl S H rfl rfl rfl rfl rfl rfl rfl (fun _ S => (wn rfl)) (fun h1 kk => ?yh1) (fun a w S H => ?_)
 case yh1 =>
  refine gz 31 h1 S rfl rfl rfl rfl rfl rfl (ZAb rfl S H rfl (by exact Fagg26)) fun a S => ?_
  refine ZAF (ZAV (wg' 31 rfl rfl S rfl h1 rfl) rfl rfl S (ZAi rfl call6 S rfl) (small_spec g _ (H.ok (ZAU g) (by simp)) hB2) fun v w hc a S => ?_)
  obtain ⟨rfl, he⟩ := hc
  have H := H.ext he
  exact gz 31 h1 S rfl rfl rfl rfl rfl rfl (ZBV rfl S rfl) fun a S => gq rfl S (ZAz rfl h1 S rfl rfl) fun a S => kk _ _ (S.join 4 35 rfl rfl) H
 refine q_mv S rfl fun a S => ?_
 refine' ZBH 3 36 rfl S H rfl rfl rfl rfl rfl rfl rfl (fun _ S => (wn rfl)) (fun h2 kk => ?yh2) (fun a w S H => ?_)
 case yh2 =>
  exact gz 36 h2 S rfl rfl rfl rfl rfl rfl (ZAL rfl S rfl) fun a S => gz 36 h2 S rfl rfl rfl rfl rfl rfl (ZAT rfl underlying27 S H rfl) fun a S => gz 36 h2 S rfl rfl rfl rfl rfl rfl (ZAn rfl S rfl rfl rfl) fun a S => gq rfl S (ZAz rfl h2 S rfl rfl) fun a S => kk _ _ (S.join 4 40 rfl rfl) H
 refine q_mv S rfl fun a S => ?_
 refine' ZBH 3 41 rfl S H rfl rfl rfl rfl rfl rfl rfl (fun _ S => (wn rfl)) (fun h3 kk => ?yh3) (fun a w S H => ?_)
 case yh3 =>
  exact gz 41 h3 S rfl rfl rfl rfl rfl rfl (ZAL rfl S rfl) fun a S => gz 41 h3 S rfl rfl rfl rfl rfl rfl (ZAT rfl underlying37 S H rfl) fun a S => gz 41 h3 S rfl rfl rfl rfl rfl rfl (ZAn rfl S rfl rfl rfl) fun a S => gq rfl S (ZAz rfl h3 S rfl rfl) fun a S => kk _ _ (S.join 4 45 rfl rfl) H
 refine gnt ?_
 have S := S.sel [45, 9, 8, 5, 4, 2, 3] rfl
 refine c_if S rfl (fun h4 => ?_) (fun h4 => ?_)
 ·have h4p := h4; try simp only [DL] at h4p
  refine gsr <| q_mv S rfl fun a S => q_as S rfl fun a S => gnt <| ZAe <| ZAX (ret1 rfl S rfl ?_)
  exact ⟨rfl, H.toExt⟩
 have h4p := h4; try simp only [DL] at h4p
 have hcl : cs.length ≤ 60 := by have h9 := h4p; omega
 have hgl : got.length ≤ 60 := by have h9 := h4p; omega
 refine ZAM <| ZAA <| gsr <| gq rfl S (ZAb rfl S H rfl (by exact Fagg26)) fun a S => ?_
 refine q_cl S rfl call7 (build_spec h _ (H.ok (ZAU h) (by simp)) hB) fun v w hc a S => ?_
 obtain ⟨ov1, fv1, ps, fs, rfl, hp0, hp1, _, fv1b, H1⟩ := hc
 have H := H.call2 H1 rfl rfl
 have hlov1 := (H.sl ov1).len
 have hlfv1 := (H.sl fv1).len
 refine q_mv S rfl fun a S => gq rfl S (ZAa rfl S rfl rfl) fun a S => gq rfl S (ZAa rfl S rfl rfl) fun a S => q_as S rfl fun a S => q_as S rfl fun a S => gnt ?_
 have S := S.sel [11, 10, 9, 8, 5, 2, 3] rfl
 refine gsr <| gq rfl S (ZAb rfl S H rfl (by exact Fagg26)) fun a S => ?_
 refine q_cl S rfl call7 (build_spec g _ (H.ok (ZAU g) (by simp)) hB2) fun v w hc a S => ?_
 obtain ⟨ov2, fv2, qs, fs2, rfl, hq0, hq1, _, fv2b, H1⟩ := hc
 have H := H.call2 H1 rfl rfl
 have hlov2 := (H.sl ov2).len
 have hlfv2 := (H.sl fv2).len
 refine q_mv S rfl fun a S => gq rfl S (ZAa rfl S rfl rfl) fun a S => gq rfl S (ZAa rfl S rfl rfl) fun a S => q_as S rfl fun a S => q_as S rfl fun a S => gnt ?_
 have S := S.sel [13, 12, 11, 10, 9, 8, 2, 3] rfl
 refine ZAG <| gsr <| q_mv S rfl fun a S => gq rfl S (ZAT rfl underlying31 S H rfl) fun a S => q_mv S rfl fun a S => gq rfl S (ZAT rfl underlying31 S H rfl) fun a S => q_ad S rfl (by omega) fun a S => ?_
 refine q_bn S rfl fun a S => q_mv S rfl fun a S => ?_
 refine' ZBH 3 63 rfl S H rfl rfl rfl rfl rfl rfl rfl (fun _ S => (wn rfl)) (fun h5 kk => ?yh5) (fun a w S H => ?_)
 case yh5 =>
  exact gz 63 h5 S rfl rfl rfl rfl rfl rfl (ZAL rfl S rfl) fun a S => gz 63 h5 S rfl rfl rfl rfl rfl rfl (ZAT rfl underlying30 S H rfl) fun a S => gz 63 h5 S rfl rfl rfl rfl rfl rfl (ZAn rfl S rfl rfl rfl) fun a S => gq rfl S (ZAz rfl h5 S rfl rfl) fun a S => kk _ _ (S.join 4 67 rfl rfl) H
 refine q_mv S rfl fun a S => ?_
 refine' ZBH 3 68 rfl S H rfl rfl rfl rfl rfl rfl rfl (fun _ S => (wn rfl)) (fun h6 kk => ?yh6) (fun a w S H => ?_)
 case yh6 =>
  exact gz 68 h6 S rfl rfl rfl rfl rfl rfl (ZAL rfl S rfl) fun a S => gz 68 h6 S rfl rfl rfl rfl rfl rfl (ZAT rfl underlying30 S H rfl) fun a S => gz 68 h6 S rfl rfl rfl rfl rfl rfl (ZAn rfl S rfl rfl rfl) fun a S => gq rfl S (ZAz rfl h6 S rfl rfl) fun a S => kk _ _ (S.join 4 72 rfl rfl) H
 refine gnt ?_
 have S := S.sel [72, 12, 10, 9, 8, 2, 3] rfl
 refine c_if S rfl (fun h7 => ?_) (fun h7 => ?_)
 ·have h7p := h7; try simp only [DL] at h7p
  refine gsr <| q_mv S rfl fun a S => q_as S rfl fun a S => gnt <| ZAe <| ZAX (ret1 rfl S rfl ?_)
  exact ⟨rfl, H.toExt⟩
 have h7p := h7; try simp only [DL] at h7p
 have h29 := h7p
 obtain ⟨_, hps⟩ := hp1 (by omega)
 obtain ⟨_, hqs⟩ := hq1 (by omega)
 have hps2 : ps.length ≤ 200 := by omega
 have hqs2 : qs.length ≤ 200 := by omega
 refine ZAM <| ZAA <| gsr <| q_mv S rfl fun a S => gq rfl S (ZAT rfl underlying30 S H rfl) fun a S => q_mv S rfl fun a S => ZAF (ZAV (wn rfl) rfl rfl S (ZAi rfl call8 S rfl) (sold_spec ps.length cv cs _ (H.sl cv) hc (by omega) (by omega)) fun sv w hc a S => ?_)
 have H1 := hc
 have H := (H.call1 H1 rfl)
 obtain ⟨ts, hts⟩ : ∃ ts, ts = soldR ps.length cs := ⟨_, rfl⟩
 rw [← hts] at H
 have hok : ∀ o ∈ ts, o.ok := by rw [hts]; exact sold_ok _ _
 have htl : ts.length ≤ 30 := by rw [hts]; exact sold_len _ _
 have herr : errP ps qs ts = 0 := by rw [hts]; exact sold_err cs (by omega) (by omega)
 have hmvd : ZAH ts = ts := by rw [hts]; exact sold_moved _ _
 have hsi : SoldI ps.length ts := by rw [hts]; exact sold_inv _ _
 have H := (H.front (OSl 57 ov1 9 Pl.enc ps)).freeze
 have H := (H.front (OSl 57 ov2 9 Pl.enc qs)).freeze
 refine q_as S rfl fun a S => gnt ?_
 have S := S.sel [14, 12, 10, 9, 8, 3] rfl
 refine gsr <| q_mv S rfl fun a S => q_mv S rfl fun a S => q_mv S rfl fun a S => q_cl S rfl call9 (plan_any ov1 ov2 ps qs sv ts _ (H.sl ov1) (H.sl ov2) (H.sl sv) hok (by omega)) fun v w hc a S => ?_
 obtain ⟨mv, vl, vr, ms, rfl, hms, H1⟩ := hc
 have H := H.call4 H1 rfl rfl rfl rfl
 rw [herr] at S
 have hM := planM herr hms
 have hml : ms.length = ts.length := by rw [hM.len, hmvd]
 refine q_mv S rfl fun a S => ?_
 refine gq rfl S (ZAa rfl S rfl rfl) fun a S => ?_
 refine gq rfl S (ZAa rfl S rfl rfl) fun a S => ?_
 refine q_al S H rfl Fzer41 fun b15 a w S H => ?_
 refine ZAF (ZAQ (wn rfl) rfl rfl S H rfl rfl (by simp only [List.all_cons, List.all_nil, H.sl1 mv, H.sl1 vl, H.sl1 vr]; rfl) Fsiz41 rfl (cs' := [_, _, _]) rfl fun a w S H => ?_)
 refine q_as S rfl fun a S => gnt ?_
 have S := S.sel [16, 15, 14, 12, 10, 9, 8, 3] rfl
 refine ZAG <| gsr <| q_mv S rfl fun a S => q_bn S rfl fun a S => q_mv S rfl fun a S => ?_
 refine' ZBH 6 87 rfl S H rfl rfl rfl rfl rfl rfl rfl (fun _ S => (wn rfl)) (fun h8 kk => ?yh8) (fun a w S H => ?_)
 case yh8 =>
  exact gz 87 h8 S rfl rfl rfl rfl rfl rfl (ZAC rfl Ffo41_0 S rfl) fun a S => gz 87 h8 S rfl rfl rfl rfl rfl rfl (ZAJ rfl Fsca36 S H rfl rfl) fun a S => gz 87 h8 S rfl rfl rfl rfl rfl rfl (ZAT rfl underlying36 S H rfl) fun a S => gz 87 h8 S rfl rfl rfl rfl rfl rfl (ZAL rfl S rfl) fun a S => gz 87 h8 S rfl rfl rfl rfl rfl rfl (ZAT rfl underlying34 S H rfl) fun a S => gz 87 h8 S rfl rfl rfl rfl rfl rfl (ZAn rfl S rfl rfl rfl) fun a S => gq rfl S (ZAz rfl h8 S rfl rfl) fun a S => kk _ _ (S.join 7 94 rfl rfl) H
 refine q_mv S rfl fun a S => ?_
 refine' ZBH 6 95 rfl S H rfl rfl rfl rfl rfl rfl rfl (fun _ S => (wn rfl)) (fun h9 kk => ?yh9) (fun a w S H => ?_)
 case yh9 =>
  have h9p := h9; try simp only [DL] at h9p
  refine gz 95 h9 S rfl rfl rfl rfl rfl rfl (ZAL rfl S rfl) fun a S => gz 95 h9 S rfl rfl rfl rfl rfl rfl (ZAL rfl S rfl) fun a S => gz 95 h9 S rfl rfl rfl rfl rfl rfl (ZAL rfl S rfl) fun a S => gz 95 h9 S rfl rfl rfl rfl rfl rfl (ZAb rfl S H rfl (by exact Fagg41)) fun a S => ?_
  refine ZAF (ZAV (wg' 95 rfl rfl S rfl h9 rfl) rfl rfl S (ZAi rfl call10 S rfl) (check_any ov1 ov2 ps qs sv ts _ (H.sl ov1) (H.sl ov2) (H.sl sv) hok (by omega) mv vl vr ms (clP ps qs ts) (crP ps qs ts) (H.sl mv) (H.rws 3 (ZA9 ms)) (H.sl vl) (H.sl vr) (H.cap vl) (clP_len ps qs ts (by omega)) (crP_len ps qs ts (by omega))) fun v w hc a S => ?_)
  obtain ⟨rfl, he⟩ := hc
  have H := H.ext he
  exact gz 95 h9 S rfl rfl rfl rfl rfl rfl (ZBV rfl S rfl) fun a S => gq rfl S (ZAz rfl h9 S rfl rfl) fun a S => kk _ _ (S.join 7 102 rfl rfl) H
 refine gnt ?_
 have S := S.sel [102, 15, 14, 12, 10, 9, 8, 3] rfl
 refine c_if S rfl (fun h10 => ?_) (fun h10 => ?_)
 ·have h10p := h10; try simp only [DL] at h10p
  all_goals (
    exfalso
    have h9 := h10
    rw [hM.say, show chkW ps qs ts (sayP ps qs ts) (clP ps qs ts) (crP ps qs ts) = true by unfold chkW; rw [if_pos herr]; exact chk_yes (plan_chk herr)] at h9
    simp [hml] at h9)
 have h10p := h10; try simp only [DL] at h10p
 skip
 refine ZAM <| ZAA <| gsr <| q_as S rfl fun a S => gnt <| gsr <| q_as S rfl fun a S => gnt ?_
 refine gsr <| ZAF (ZBK (fun n : Int => .int .i64 n) (fun b : Bool => .bool b) (wn rfl) rfl rfl rfl S H fun b103 a w S H => q_as S rfl fun a S => gnt ?_)
 refine gsr <| q_as S rfl fun a S => gnt <| ZAG <| gsr <| q_as S rfl fun a S => gnt <| ZAD ?_
 have H := (H.nilO 3 1 encI).nilO 57 9 Pl.enc
 have SU := S.sel [19, 15, 14, 12, 10, 9, 3] rfl
 refine ZBL (X := Nat × Value × Value) SU (fun x => [(17, x.2.1), (18, x.2.2), (20, .int .i64 (cntG (tosS (ms.map Mv.say)) x.1 : Int)), (21, .int .i64 (x.1 : Int))]) (fun x w => x.1 ≤ ms.length ∧ ∃ c, HSat No w0 [OSl 57 x.2.1 9 Pl.enc (oldL ps (ts.take (x.1))), OSl 3 x.2.2 1 encI ((tosS (ms.map Mv.say)).take (x.1)), MapA b103 (fun n : Int => Value.int .i64 n) (fun b : Bool => Value.bool b) (usedP (posK (tosS (ms.map Mv.say)) (x.1))) c, Cel b15 41 [mv, vl, vr], OSl 46 mv 3 Mv.enc ms, ZBh 3 1 encI (ZA9 ms), OSl 3 vl 1 encI (clP ps qs ts), OSl 3 vr 1 encI (crP ps qs ts), Atom.ro (OSl 57 ov2 9 Pl.enc qs), Atom.ro (OSl 57 ov1 9 Pl.enc ps), OSl 55 sv 11 Ow.enc ts, Sl gv 1 encI got] w) (fun x => ms.length - x.1) (0, .slice none 0 0, .slice none 0 0) (S.sel [17, 18, 20, 21] rfl) (⟨Nat.zero_le _, 0, by have e : usedP (posK (tosS (ms.map Mv.say)) 0) = fun _ => none := (by funext n; simp [usedP, posK]); rw [e]; exact H.take [OSl 57 (.slice none 0 0) 9 Pl.enc [], OSl 3 (.slice none 0 0) 1 encI [], MapA b103 (fun n : Int => Value.int .i64 n) (fun b : Bool => Value.bool b) (fun _ => none) 0, Cel b15 41 [mv, vl, vr], OSl 46 mv 3 Mv.enc ms, ZBh 3 1 encI (ZA9 ms), OSl 3 vl 1 encI (clP ps qs ts), OSl 3 vr 1 encI (crP ps qs ts), Atom.ro (OSl 57 ov2 9 Pl.enc qs), Atom.ro (OSl 57 ov1 9 Pl.enc ps), OSl 55 sv 11 Ow.enc ts, Sl gv 1 encI got]⟩) (fun x a w S hW => ?_)
 simp only [List.cons_append, List.nil_append] at S
 obtain ⟨k, wv, tv⟩ := x
 obtain ⟨hk, c, H⟩ := hW
 dsimp only at S H hk
 refine ZAG <| gsr <| q_mv S rfl fun a S => q_mv S rfl fun a S => gq rfl S (ZAT rfl underlying34 S H rfl) fun a S => q_bn S rfl fun a S => gnt <| c_if S rfl (fun h11 => ?_) (fun h11 => ?_)
 ·have h11p := h11; try simp only [DL] at h11p
  have hkt : k < ts.length := by omega
  have hkm : k < ms.length := by omega
  have hta := tos_at hkm
  have htk := tos_take hkm
  obtain ⟨x, hx, hxn⟩ : ∃ x : Nat, ts[k].place = (x : Int) ∧ x < ps.length := by
    obtain ⟨s, q, e, h1, h2⟩ := hsi.z _ (List.getElem_mem hkt)
    exact ⟨q.toNat, by rw [e]; show q = _; omega, by omega⟩
  have hon := old_step hkt hx hxn
  have hol : (oldL ps (ts.take k)).length = k := by rw [old_len, List.length_take]; omega
  have htol : ((tosS (ms.map Mv.say)).take k).length = k := by rw [List.length_take, tos_len]; omega
  have hse := hM.serial hkm (by rw [hmvd]; exact hkt)
  simp only [hmvd] at hse
  have hlow := hM.low hkm
  have hhi := hM.hi hkm
  have hcgl := cntG_le (tosS (ms.map Mv.say)) k
  refine ZAM <| ZAA ?_
  have S := S.sel [17, 18, 20, 21, 19, 15, 14, 12, 10, 9, 3] rfl
  refine ZAG <| ZAD <| gsr <| q_fa S Ffo41_0 rfl fun a S => q_ld S H Fsca36 rfl rfl fun a S => q_mv S rfl fun a S => gq rfl S (ZAI rfl underlying36 Fsiz46 S H rfl rfl (by omega)) fun a S => ?_
  refine gq rfl S (ZAk _ rfl S H rfl (by exact Fagg46) (by omega)) fun a S => ?_
  refine q_al S H rfl Fzer46 fun b22 a w S H => ZAF (ZAQ (wn rfl) rfl rfl S H rfl rfl (by simp only [Mv.enc, List.all_cons, List.all_nil, H.sl1 ms[k].row.1, Bool.and_true]; rfl) Fsiz46 rfl (cs' := [_, _, _]) rfl fun a w S H => ?_)
  refine gnt ?_
  have S := S.sel [22, 17, 18, 20, 21, 19, 15, 14, 12, 10, 9, 3] rfl
  refine gsr <| q_mv S rfl fun a S => q_mv S rfl fun a S => q_mv S rfl fun a S => q_mv S rfl fun a S => gq rfl S (ZAI rfl underlying34 Fsiz55 S H rfl rfl (by omega)) fun a S => ?_
  refine gq rfl S (ZAq rfl Ffo55_0 S rfl) fun a S => gq rfl S (ZAq rfl Ffo49_2 S rfl) fun a S => gq rfl S (y_loadsff _ rfl ZAN S H rfl (by omega) rfl) fun a S => ?_
  rw [hx] at S
  refine gq rfl S (ZAI rfl underlying30 Fsiz57 S H rfl rfl (by omega)) fun a S => ?_
  refine gq rfl S (ZAk _ rfl S H rfl (by exact Fagg57) (by omega)) fun a S => ?_
  refine ZAF (ZAP (wn rfl) rfl rfl rfl underlying30 Finf57 S H (idx := [0]) rfl rfl rfl (z := [.int .i64 0, .int .i64 0, .int .i64 0, .int .i64 0, .int .i64 0, .int .i64 0, .int .i64 0, .int .i64 0, .int .i64 0]) (by kernel_rfl) (cs := [.int .i64 ps[x].kind, .int .i64 ps[x].level, .int .i64 ps[x].block, .int .i64 ps[x].row, .int .i64 ps[x].seat, .int .i64 ps[x].x, .int .i64 ps[x].y, .int .i64 ps[x].view, .int .i64 ps[x].with_]) (by kernel_rfl) fun b125 a w S H => ?_)
  refine ZAF (ZAr ([ps[x]]) (wn rfl) rfl rfl rfl underlying30 Finf57 rfl rfl S H rfl rfl rfl rfl (by simp) (by simp [Pl.enc]) (by simp [Pl.enc, Value.oneCell']) (by simp only [List.length_cons, List.length_nil]; omega) (by simp only [List.length_cons, List.length_nil]; omega) fun u126 a w hn126 S H => ?_)
  refine q_as S rfl fun a S => gnt ?_
  have S := S.sel [17, 22, 18, 20, 21, 19, 15, 14, 12, 10, 9, 3] rfl
  refine gsr <| q_mv S rfl fun a S => q_fa S ZBJ rfl fun a S => q_ld S H ZAN rfl rfl fun a S => ZAF (ZAP (wn rfl) rfl rfl rfl underlying37 Finf3 S H (idx := [0]) rfl rfl rfl (z := [.int .i64 0]) (by kernel_rfl) (cs := [.int .i64 ms[k].to_]) rfl fun b130 a w S H => ?_)
  refine ZAF (ZAr ([ms[k].to_]) (wn rfl) rfl rfl rfl underlying37 Finf3 rfl rfl S H rfl rfl rfl rfl (by simp) (by simp [encI]) (by simp [encI, Value.oneCell']) (by simp only [List.length_cons, List.length_nil]; omega) (by simp only [List.length_cons, List.length_nil]; omega) fun u131 a w hn131 S H => ?_)
  refine q_as S rfl fun a S => gnt ?_
  have S := S.sel [18, 17, 22, 20, 21, 19, 15, 14, 12, 10, 9, 3] rfl
  refine ZAG <| ZAG ?_
  by_cases h0 : 0 ≤ ms[k].to_
  ·obtain ⟨m, hm⟩ : ∃ m : Nat, ms[k].to_ = m := ⟨ms[k].to_.toNat, by omega⟩
   have hmn : m < qs.length := by have := hM.hi hkm; omega
   have hgd := hM.good (x := x) hkm hm (by rw [hmvd]; exact hkt) (by simp only [hmvd]; exact hx) hxn hmn
   have hof : ms[k].row.2 = [] := by rw [hM.offers hkm (by rw [old_len, hmvd]; exact hkt), if_neg (by omega)]
   have hnt : (m : Int) ∉ posK (tosS (ms.map Mv.say)) k := fun hmem => by
     obtain ⟨_, j, hj, e⟩ := mem_posK.1 hmem
     rw [tos_at (show j < ms.length by omega)] at e
     have := hM.inj (i := k) (j := j) hkm (by omega) h0 (by rw [hm, e])
     omega
   have husd : (usedP (posK (tosS (ms.map Mv.say)) k) (m : Int)).getD false = false := by rw [usedP_get]; exact decide_eq_false hnt
   have hbk : k < (oldL ps (ts.take k) ++ [ps[x]]).length := by rw [List.length_append, hol]; simp
   have hpk : posK (tosS (ms.map Mv.say)) (k + 1) = (m : Int) :: posK (tosS (ms.map Mv.say)) k := by rw [posK, hta, if_pos h0, hm]
   have hcg : cntG (tosS (ms.map Mv.say)) (k + 1) = cntG (tosS (ms.map Mv.say)) k + 1 := by rw [cntG, hta, if_pos h0]
   refine ZAZ (loud := []) (tails := []) (free := []) [0, 1, 2, 3, 4, 5, 6, 7, 8, 9, 10, 11, 12, 13, 14, 15, 16, 17, 18, 19, 20, 21, 22, 23, 24, 25, 26, 27, 28, 29, 30, 31, 32, 33, 34, 35, 36, 37, 38, 39, 40, 41, 42, 43, 44, 45, 46, 47, 48, 49, 50] [] Fmo (by kernel_rfl) (by kernel_rfl) rfl H ?_
   refine m_q rfl S (fun w H => ZAC rfl Ffo46_0 S rfl) fun a S => m_q rfl S (fun w H => ZAJ rfl ZAN S H rfl rfl) fun a S => m_q rfl S (fun w H => ZAL rfl S rfl) fun a S => m_q rfl S (fun w H => ZAL rfl S rfl) fun a S => m_q rfl S (fun w H => ZAI rfl underlying34 Fsiz55 S H rfl rfl (by omega)) fun a S => ?_
   refine m_q rfl S (fun w H => ZAq rfl Ffo55_0 S rfl) fun a S => m_q rfl S (fun w H => ZAq rfl Ffo49_0 S rfl) fun a S => m_loadsff _ rfl rfl (wn rfl) rfl rfl S rfl ZAN rfl (by omega) rfl fun a S => ?_
   refine m_q rfl S (fun w H => ZAn rfl S rfl rfl rfl) fun a S => m_q rfl S (fun w H => ZAL rfl S rfl) fun a S => m_w rfl rfl (wg' 141 rfl rfl S rfl (by have h9 := hM.serial hkm (by rw [hmvd]; exact hkt); simp only [hmvd] at h9; simp [h9]) rfl) rfl rfl S (fun w H => ZAC rfl ZBJ S rfl) fun a S => ?_
   refine m_w rfl rfl (wg' 141 rfl rfl S rfl (by have h9 := hM.serial hkm (by rw [hmvd]; exact hkt); simp only [hmvd] at h9; simp [h9]) rfl) rfl rfl S (fun w H => ZAJ rfl ZAN S H rfl rfl) fun a S => ?_
   refine m_w rfl rfl (wg' 141 rfl rfl S rfl (by have h9 := hM.serial hkm (by rw [hmvd]; exact hkt); simp only [hmvd] at h9; simp [h9]) rfl) rfl rfl S (fun w H => ZAn rfl S rfl rfl rfl) fun a S => ?_
   refine m_q rfl S (fun w H => ZAz rfl (by have h9 := hM.serial hkm (by rw [hmvd]; exact hkt); simp only [hmvd] at h9; simp [h9]) S rfl rfl) fun a S => ?_
   refine m_q rfl S (fun w H => ZAL rfl S rfl) fun a S => m_w rfl rfl (wg' 146 rfl rfl S rfl (by simp [hse]; omega) rfl) rfl rfl S (fun w H => ZAC rfl ZBJ S rfl) fun a S => ?_
   refine m_w rfl rfl (wg' 146 rfl rfl S rfl (by simp [hse]; omega) rfl) rfl rfl S (fun w H => ZAJ rfl ZAN S H rfl rfl) fun a S => ?_
   refine m_w rfl rfl (wg' 146 rfl rfl S rfl (by simp [hse]; omega) rfl) rfl rfl S (fun w H => ZAL rfl S rfl) fun a S => ?_
   refine m_w rfl rfl (wg' 146 rfl rfl S rfl (by simp [hse]; omega) rfl) rfl rfl S (fun w H => ZAT rfl underlying30 S H rfl) fun a S => ?_
   refine m_w rfl rfl (wg' 146 rfl rfl S rfl (by simp [hse]; omega) rfl) rfl rfl S (fun w H => ZAn rfl S rfl rfl rfl) fun a S => ?_
   refine m_q rfl S (fun w H => ZAz rfl (by simp [hse]; omega) S rfl rfl) fun a S => ?_
   refine m_q rfl S (fun w H => ZAL rfl S rfl) fun a S => m_w rfl rfl (wg' 153 rfl rfl S rfl (by simp [hse]; omega) rfl) rfl rfl S (fun w H => ZAC rfl ZBJ S rfl) fun a S => ?_
   refine m_w rfl rfl (wg' 153 rfl rfl S rfl (by simp [hse]; omega) rfl) rfl rfl S (fun w H => ZAJ rfl ZAN S H rfl rfl) fun a S => ?_
   refine m_w rfl rfl (wg' 153 rfl rfl S rfl (by simp [hse]; omega) rfl) rfl rfl S (fun w H => ZAn rfl S rfl rfl rfl) fun a S => ?_
   refine m_w rfl rfl (wg' 153 rfl rfl S rfl (by simp [hse]; omega) rfl) rfl rfl S (fun w H => ZAL rfl S rfl) fun a S => ?_
   refine m_w rfl rfl (wg' 157 rfl rfl S rfl (by first | (simp; done) | (simp; omega)) rfl) rfl rfl S (fun w H => ZAL rfl S rfl) fun a S => ?_
   refine m_w rfl rfl (wg' 157 rfl rfl S rfl (by first | (simp; done) | (simp; omega)) rfl) rfl rfl S (fun w H => ZAC rfl ZBJ S rfl) fun a S => ?_
   refine m_w rfl rfl (wg' 157 rfl rfl S rfl (by first | (simp; done) | (simp; omega)) rfl) rfl rfl S (fun w H => ZAJ rfl ZAN S H rfl rfl) fun a S => ?_
   refine m_w rfl rfl (wg' 157 rfl rfl S rfl (by first | (simp; done) | (simp; omega)) rfl) rfl rfl S (fun w H => ZBT (ms[k].to_) (false) rfl underlying60 ZBR S H rfl (ZAv underlying3) (by exact rfl) (by exact rfl) rfl) fun a S => ?_
   refine m_w rfl rfl (wg' 157 rfl rfl S rfl (by first | (simp; done) | (simp; omega)) rfl) rfl rfl S (fun w H => ZAL rfl S rfl) fun a S => ?_
   refine m_w rfl rfl (wg' 162 rfl rfl S rfl (by rw [hm, usedP_get]; exact decide_eq_false hnt) rfl) rfl rfl S (fun w H => ZAC rfl Ffo46_2 S rfl) fun a S => ?_
   refine m_w rfl rfl (wg' 162 rfl rfl S rfl (by rw [hm, usedP_get]; exact decide_eq_false hnt) rfl) rfl rfl S (fun w H => ZAJ rfl ZBX S H rfl rfl) fun a S => ?_
   refine m_w rfl rfl (wg' 162 rfl rfl S rfl (by rw [hm, usedP_get]; exact decide_eq_false hnt) rfl) rfl rfl S (fun w H => ZAT rfl underlying37 S H rfl) fun a S => ?_
   refine m_w rfl rfl (wg' 162 rfl rfl S rfl (by rw [hm, usedP_get]; exact decide_eq_false hnt) rfl) rfl rfl S (fun w H => ZAn rfl S rfl rfl rfl) fun a S => ?_
   refine m_w rfl rfl (wg' 157 rfl rfl S rfl (by first | (simp; done) | (simp; omega)) rfl) rfl rfl S (fun w H => ZAz rfl (by rw [hm, usedP_get]; exact decide_eq_false hnt) S rfl rfl) fun a S => ?_
   refine m_w rfl rfl (wg' 157 rfl rfl S rfl (by first | (simp; done) | (simp; omega)) rfl) rfl rfl S (fun w H => ZAL rfl S rfl) fun a S => ?_
   refine m_w rfl rfl (wg' 168 rfl rfl S rfl (by simp [hof, hm, husd]) rfl) rfl rfl S (fun w H => ZAL rfl S rfl) fun a S => ?_
   refine m_w rfl rfl (wg' 168 rfl rfl S rfl (by simp [hof, hm, husd]) rfl) rfl rfl S (fun w H => ZAC rfl ZBJ S rfl) fun a S => ?_
   refine m_w rfl rfl (wg' 168 rfl rfl S rfl (by simp [hof, hm, husd]) rfl) rfl rfl S (fun w H => ZAJ rfl ZAN S H rfl rfl) fun a S => ?_
   rw [hm] at S
   refine m_w rfl rfl (wg' 168 rfl rfl S rfl (by simp [hof, hm, husd]) rfl) rfl rfl S (fun w H => ZAI rfl underlying30 Fsiz57 S H rfl rfl (by omega)) fun a S => ?_
   refine m_loadsa _ rfl rfl (wg' 168 rfl rfl S rfl (by simp [hof, hm, husd]) rfl) rfl rfl S rfl rfl (by exact Fagg57) (by omega) fun a S => ?_
   refine m_w rfl rfl (wg' 168 rfl rfl S rfl (by simp [hof, hm, husd]) rfl) rfl rfl S (fun w H => ZAL rfl S rfl) fun a S => ?_
   refine m_w rfl rfl (wg' 168 rfl rfl S rfl (by simp [hof, hm, husd]) rfl) rfl rfl S (fun w H => ZAL rfl S rfl) fun a S => ?_
   refine m_w rfl rfl (wg' 168 rfl rfl S rfl (by simp [hof, hm, husd]) rfl) rfl rfl S (fun w H => ZAI rfl underlying30 Fsiz57 S H rfl rfl (by omega)) fun a S => ?_
   refine m_loadsa _ rfl rfl (wg' 168 rfl rfl S rfl (by simp [hof, hm, husd]) rfl) rfl rfl S rfl rfl (by exact Fagg57) (by omega) fun a S => ?_
   rw [snoc_at hol] at S
   refine m_c rfl rfl (wg' 168 rfl rfl S rfl (by simp [hof, hm, husd]) rfl) rfl rfl S (fun w => ZAi rfl call11 S rfl) (fun w H => atLeast_spec qs[m] ps[x] _) fun a S => ?_
   refine m_w rfl rfl (wg' 168 rfl rfl S rfl (by simp [hof, hm, husd]) rfl) rfl rfl S (fun w H => ZBV rfl S rfl) fun a S => ?_
   refine m_w rfl rfl (wg' 157 rfl rfl S rfl (by first | (simp; done) | (simp; omega)) rfl) rfl rfl S (fun w H => ZAz rfl (by simp [hof, hm, husd]) S rfl rfl) fun a S => ?_
   refine m_w rfl rfl (wg' 153 rfl rfl S rfl (by simp [hse]; omega) rfl) rfl rfl S (fun w H => ZBf rfl (by first | (simp; done) | (simp; omega)) S rfl rfl) fun a S => ?_
   refine m_q rfl S (fun w H => ZAz rfl (by simp [hse]; omega) S rfl rfl) fun a S => ?_
   refine ZBY (fun w H => ZAA ?_)
   have S := S.sel [182, 18, 17, 22, 20, 21, 19, 15, 14, 12, 10, 9, 3] rfl
   refine c_if S rfl (fun h12 => ?_) (fun h12 => ?_)
   ·have h12p := h12; try simp only [DL] at h12p
    all_goals (
      exfalso
      have h9 := h12
      first | (simp [hse, hgd, hof, husd] at h9; done) | (simp [hse, hgd, hof, husd] at h9; omega) | (simp [hse] at h9; omega))
   have h12p := h12; try simp only [DL] at h12p
   refine ZAM <| ZAA <| gsr <| q_fa S ZBJ rfl fun a S => q_ld S H ZAN rfl rfl fun a S => q_bn S rfl fun a S => gnt <| c_if S rfl (fun h13 => ?_) (fun h13 => ?_)
   ·have h13p := h13; try simp only [DL] at h13p
    refine gsr <| q_mv S rfl fun a S => q_fa S ZBJ rfl fun a S => q_ld S H ZAN rfl rfl fun a S => ?_
    rw [hm] at S
    refine ZAF (ZBA ((m : Int)) (true) (wn rfl) rfl rfl underlying60 S H rfl (ZAv underlying3) (by exact rfl) (by exact rfl) fun a w S H => ?_)
    refine gnt ?_
    have S := S.sel [18, 17, 20, 21, 19, 15, 14, 12, 10, 9, 3] rfl
    refine ZAB <| q_mv S rfl fun a S => q_ad S rfl (by omega) fun a S => ?_
    refine q_as S rfl fun a S => ZAj <| ZAK <| ZAA <| ZAB <| q_mv S rfl fun a S => q_ad S rfl (by omega) fun a S => ?_
    refine q_as S rfl fun a S => ?_
    refine gnt ?_
    exact ⟨(k + 1, u126, u131), (((S.sel [21] rfl).cons S 20 (by dsimp only; rw [hcg]; rfl)).cons S 18 rfl).cons S 17 rfl, S.sel [19, 15, 14, 12, 10, 9, 3] rfl, ⟨by dsimp only; omega, _, by dsimp only; rw [hon, htk, hpk, ← usedP_new]; exact H.take [OSl 57 u126 9 Pl.enc (oldL ps (ts.take k) ++ [ps[x]]), OSl 3 u131 1 encI ((tosS (ms.map Mv.say)).take k ++ [ms[k].to_]), MapA b103 (fun n : Int => Value.int .i64 n) (fun b : Bool => Value.bool b) (upd (usedP (posK (tosS (ms.map Mv.say)) k)) (m : Int) true) (if (usedP (posK (tosS (ms.map Mv.say)) k) (m : Int)).isSome = true then c else c + 1), Cel b15 41 [mv, vl, vr], OSl 46 mv 3 Mv.enc ms, ZBh 3 1 encI (ZA9 ms), OSl 3 vl 1 encI (clP ps qs ts), OSl 3 vr 1 encI (crP ps qs ts), Atom.ro (OSl 57 ov2 9 Pl.enc qs), Atom.ro (OSl 57 ov1 9 Pl.enc ps), OSl 55 sv 11 Ow.enc ts, Sl gv 1 encI got]⟩, by dsimp only; omega⟩
   have h13p := h13; try simp only [DL] at h13p
   all_goals (
     exfalso
     have h9 := h13p
     omega)
  have hpk : posK (tosS (ms.map Mv.say)) (k + 1) = posK (tosS (ms.map Mv.say)) k := by rw [posK, hta, if_neg h0]
  have hcg : cntG (tosS (ms.map Mv.say)) (k + 1) = cntG (tosS (ms.map Mv.say)) k := by rw [cntG, hta, if_neg h0]
  refine ZAZ (loud := []) (tails := []) (free := []) [0, 1, 2, 3, 4, 5, 6, 7, 8, 9, 10, 11, 12, 13, 14, 15, 16, 17, 18, 19, 20, 21, 22, 23, 24, 25, 26, 27, 28, 29, 30, 31, 32, 33, 34, 35, 36, 37, 38, 39, 40, 41, 42, 43, 44, 45, 46, 47, 48, 49, 50] [] Fmo (by kernel_rfl) (by kernel_rfl) rfl H ?_
  refine m_q rfl S (fun w H => ZAC rfl Ffo46_0 S rfl) fun a S => m_q rfl S (fun w H => ZAJ rfl ZAN S H rfl rfl) fun a S => m_q rfl S (fun w H => ZAL rfl S rfl) fun a S => m_q rfl S (fun w H => ZAL rfl S rfl) fun a S => m_q rfl S (fun w H => ZAI rfl underlying34 Fsiz55 S H rfl rfl (by omega)) fun a S => ?_
  refine m_q rfl S (fun w H => ZAq rfl Ffo55_0 S rfl) fun a S => m_q rfl S (fun w H => ZAq rfl Ffo49_0 S rfl) fun a S => m_loadsff _ rfl rfl (wn rfl) rfl rfl S rfl ZAN rfl (by omega) rfl fun a S => ?_
  refine m_q rfl S (fun w H => ZAn rfl S rfl rfl rfl) fun a S => m_q rfl S (fun w H => ZAL rfl S rfl) fun a S => m_w rfl rfl (wg' 141 rfl rfl S rfl (by have h9 := hM.serial hkm (by rw [hmvd]; exact hkt); simp only [hmvd] at h9; simp [h9]) rfl) rfl rfl S (fun w H => ZAC rfl ZBJ S rfl) fun a S => ?_
  refine m_w rfl rfl (wg' 141 rfl rfl S rfl (by have h9 := hM.serial hkm (by rw [hmvd]; exact hkt); simp only [hmvd] at h9; simp [h9]) rfl) rfl rfl S (fun w H => ZAJ rfl ZAN S H rfl rfl) fun a S => ?_
  refine m_w rfl rfl (wg' 141 rfl rfl S rfl (by have h9 := hM.serial hkm (by rw [hmvd]; exact hkt); simp only [hmvd] at h9; simp [h9]) rfl) rfl rfl S (fun w H => ZAn rfl S rfl rfl rfl) fun a S => ?_
  refine m_q rfl S (fun w H => ZAz rfl (by have h9 := hM.serial hkm (by rw [hmvd]; exact hkt); simp only [hmvd] at h9; simp [h9]) S rfl rfl) fun a S => ?_
  refine m_q rfl S (fun w H => ZAL rfl S rfl) fun a S => m_w rfl rfl (wg' 146 rfl rfl S rfl (by simp [hse]; omega) rfl) rfl rfl S (fun w H => ZAC rfl ZBJ S rfl) fun a S => ?_
  refine m_w rfl rfl (wg' 146 rfl rfl S rfl (by simp [hse]; omega) rfl) rfl rfl S (fun w H => ZAJ rfl ZAN S H rfl rfl) fun a S => ?_
  refine m_w rfl rfl (wg' 146 rfl rfl S rfl (by simp [hse]; omega) rfl) rfl rfl S (fun w H => ZAL rfl S rfl) fun a S => ?_
  refine m_w rfl rfl (wg' 146 rfl rfl S rfl (by simp [hse]; omega) rfl) rfl rfl S (fun w H => ZAT rfl underlying30 S H rfl) fun a S => ?_
  refine m_w rfl rfl (wg' 146 rfl rfl S rfl (by simp [hse]; omega) rfl) rfl rfl S (fun w H => ZAn rfl S rfl rfl rfl) fun a S => ?_
  refine m_q rfl S (fun w H => ZAz rfl (by simp [hse]; omega) S rfl rfl) fun a S => ?_
  refine m_q rfl S (fun w H => ZAL rfl S rfl) fun a S => m_w rfl rfl (wg' 153 rfl rfl S rfl (by simp [hse]; omega) rfl) rfl rfl S (fun w H => ZAC rfl ZBJ S rfl) fun a S => ?_
  refine m_w rfl rfl (wg' 153 rfl rfl S rfl (by simp [hse]; omega) rfl) rfl rfl S (fun w H => ZAJ rfl ZAN S H rfl rfl) fun a S => ?_
  refine m_w rfl rfl (wg' 153 rfl rfl S rfl (by simp [hse]; omega) rfl) rfl rfl S (fun w H => ZAn rfl S rfl rfl rfl) fun a S => ?_
  refine m_w rfl rfl (wg' 153 rfl rfl S rfl (by simp [hse]; omega) rfl) rfl rfl S (fun w H => ZAL rfl S rfl) fun a S => ?_
  refine' m_andq (B2 := false) [26, 27, 28, 29, 30, 31, 32, 33, 34, 35, 36, 37, 38, 39, 40, 41, 42, 43, 44, 45, 46, 47, 48] 157 S rfl rfl rfl rfl rfl rfl rfl rfl rfl (fun _ S => (wg' 153 rfl rfl S rfl (by simp [hse]; omega) rfl)) (fun h kk => absurd h (by simp; omega)) (fun a S => ?_)
  refine m_q rfl S (fun w H => ZAz rfl (by simp [hse]; omega) S rfl rfl) fun a S => ?_
  refine ZBY (fun w H => ZAA ?_)
  have S := S.sel [182, 18, 17, 22, 20, 21, 19, 15, 14, 12, 10, 9, 3] rfl
  refine c_if S rfl (fun h14 => ?_) (fun h14 => ?_)
  ·have h14p := h14; try simp only [DL] at h14p
   all_goals (
     exfalso
     have h9 := h14
     first | (simp [hse, hgd, hof, husd] at h9; done) | (simp [hse, hgd, hof, husd] at h9; omega) | (simp [hse] at h9; omega))
  have h14p := h14; try simp only [DL] at h14p
  refine ZAM <| ZAA <| gsr <| q_fa S ZBJ rfl fun a S => q_ld S H ZAN rfl rfl fun a S => q_bn S rfl fun a S => gnt <| c_if S rfl (fun h15 => ?_) (fun h15 => ?_)
  ·have h15p := h15; try simp only [DL] at h15p
   all_goals (
     exfalso
     have h9 := h15p
     omega)
  have h15p := h15; try simp only [DL] at h15p
  refine ZAM <| ZAK <| ZAA ?_
  have S := S.sel [18, 17, 20, 21, 19, 15, 14, 12, 10, 9, 3] rfl
  refine ZAB <| q_mv S rfl fun a S => q_ad S rfl (by omega) fun a S => ?_
  exact q_as S rfl fun a S => gnt <| ⟨(k + 1, u126, u131), (((S.sel [21] rfl).cons S 20 (by dsimp only; rw [hcg]; rfl)).cons S 18 rfl).cons S 17 rfl, S.sel [19, 15, 14, 12, 10, 9, 3] rfl, ⟨by dsimp only; omega, c, by dsimp only; rw [hon, htk, hpk]; exact H.take _⟩, by dsimp only; omega⟩
 have h11p := h11; try simp only [DL] at h11p
 obtain rfl : k = ms.length := by omega
 rw [List.take_of_length_le (show ts.length ≤ ms.length by omega), List.take_of_length_le (show (tosS (ms.map Mv.say)).length ≤ ms.length by rw [tos_len]; exact Nat.le_refl _)] at H
 refine ZAf <| ZAO (ZAO (x_eq ?_))
 refine ZAA ?_
 have S := S.sel [17, 18, 20, 19, 15, 14, 12, 9, 3] rfl
 refine ZAG <| gsr <| q_as S rfl fun a S => gnt <| ZAD ?_
 have SU := S.sel [17, 18, 20, 19, 15, 14, 12, 9, 3] rfl
 refine ZBL (X := Nat) SU (fun k => [(23, .int .i64 (k : Int))]) (fun k w => k ≤ ms.length ∧ HSat No w0 [OSl 57 wv 9 Pl.enc (oldL ps ts), OSl 3 tv 1 encI (tosS (ms.map Mv.say)), MapA b103 (fun n : Int => Value.int .i64 n) (fun b : Bool => Value.bool b) (usedP (posK (tosS (ms.map Mv.say)) ms.length)) c, Cel b15 41 [mv, vl, vr], OSl 46 mv 3 Mv.enc ms, ZBh 3 1 encI (ZA9 ms), OSl 3 vl 1 encI (clP ps qs ts), OSl 3 vr 1 encI (crP ps qs ts), Atom.ro (OSl 57 ov2 9 Pl.enc qs), Atom.ro (OSl 57 ov1 9 Pl.enc ps), OSl 55 sv 11 Ow.enc ts, Sl gv 1 encI got] w) (fun k => ms.length - k) 0 (S.sel [23] rfl) (⟨Nat.zero_le _, H.take [OSl 57 wv 9 Pl.enc (oldL ps ts), OSl 3 tv 1 encI (tosS (ms.map Mv.say)), MapA b103 (fun n : Int => Value.int .i64 n) (fun b : Bool => Value.bool b) (usedP (posK (tosS (ms.map Mv.say)) ms.length)) c, Cel b15 41 [mv, vl, vr], OSl 46 mv 3 Mv.enc ms, ZBh 3 1 encI (ZA9 ms), OSl 3 vl 1 encI (clP ps qs ts), OSl 3 vr 1 encI (crP ps qs ts), Atom.ro (OSl 57 ov2 9 Pl.enc qs), Atom.ro (OSl 57 ov1 9 Pl.enc ps), OSl 55 sv 11 Ow.enc ts, Sl gv 1 encI got]⟩) (fun k a w S hW => ?_)
 simp only [List.cons_append, List.nil_append] at S
 clear H
 obtain ⟨hk, H⟩ := hW
 refine ZAG <| gsr <| q_mv S rfl fun a S => q_mv S rfl fun a S => gq rfl S (ZAT rfl underlying34 S H rfl) fun a S => q_bn S rfl fun a S => gnt <| c_if S rfl (fun h16 => ?_) (fun h16 => ?_)
 ·have h16p := h16; try simp only [DL] at h16p
  have hkt : k < ts.length := by omega
  have hkm : k < ms.length := by omega
  obtain ⟨x, hx, hxn⟩ : ∃ x : Nat, ts[k].place = (x : Int) ∧ x < ps.length := by
    obtain ⟨s, q, e, h1, h2⟩ := hsi.z _ (List.getElem_mem hkt)
    exact ⟨q.toNat, by rw [e]; show q = _; omega, by omega⟩
  have hko : k < (oldL ps ts).length := by rw [old_len]; exact hkt
  have hown := oldL_at hkt hx hxn hko
  have hof := hM.offers hkm (by rw [old_len, hmvd]; exact hkt)
  simp only [hmvd, hown] at hof
  have hofl : ms[k].row.2.length ≤ 5 := by rw [hof]; split; exact offK_len _ _ _ _; simp
  refine ZAM <| ZAA ?_
  have S := S.sel [23, 17, 18, 20, 19, 15, 14, 12, 9, 3] rfl
  refine ZAG <| ZAD <| gsr <| q_as S rfl fun a S => gnt <| ZAD ?_
  have SU := S.sel [23, 17, 18, 20, 19, 15, 14, 12, 9, 3] rfl
  refine ZB4 (X := Nat) SU (fun q => [(24, .int .i64 (q : Int))]) (fun q => q ≤ ms[k].row.2.length) (fun q => ms[k].row.2.length - q) 0 (S.sel [24] rfl) H (by omega) (fun q a w S H hi => ?_)
  simp only [List.cons_append, List.nil_append] at S hi
  have hq := hi
  refine ZAG <| gsr <| q_mv S rfl fun a S => q_fa S Ffo41_0 rfl fun a S => q_ld S H Fsca36 rfl rfl fun a S => q_mv S rfl fun a S => gq rfl S (ZAI rfl underlying36 Fsiz46 S H rfl rfl (by omega)) fun a S => ?_
  refine gq rfl S (ZAq rfl Ffo46_2 S rfl) fun a S => gq rfl S (y_loadsf _ rfl ZBX S H rfl (by omega) rfl) fun a S => ?_
  refine gq rfl S (ZAT rfl underlying37 S H rfl) fun a S => q_bn S rfl fun a S => gnt ?_
  have S := S.sel [205, 24, 23, 17, 18, 20, 19, 15, 14, 12, 9, 3] rfl
  refine c_if S rfl (fun h17 => ?_) (fun h17 => ?_)
  ·have h17p := h17; try simp only [DL] at h17p
   have hql : q < ms[k].row.2.length := by omega
   have hneg : ms[k].to_ < 0 := by
     by_cases e : ms[k].to_ < 0
     · exact e
     rw [if_neg e] at hof; rw [hof] at hql; simp at hql
   rw [if_pos hneg] at hof
   have hrm : ∀ y ∈ ms[k].row.2, y ∈ offK ps[x].kind qs (plL (oldL ps ts) qs) qs.length := fun y hy => by rw [hof] at hy; exact hy
   obtain ⟨n, hnn, hn, _, hkd, hnm⟩ := offK_mem qs.length (Nat.le_refl _) ms[k].row.2[q] (hrm _ (List.getElem_mem hql))
   have hnt : (n : Int) ∉ posK (tosS (ms.map Mv.say)) ms.length := fun hmem => hnm (by have ht := hM.tos; rw [hmvd] at ht; rw [← ht]; exact posK_all.1 (by rw [tos_len]; exact hmem))
   refine ZAM <| ZAA <| ZAG <| ZAD <| gsr <| q_fa S Ffo41_0 rfl fun a S => q_ld S H Fsca36 rfl rfl fun a S => q_mv S rfl fun a S => ?_
   refine gq rfl S (ZAI rfl underlying36 Fsiz46 S H rfl rfl (by omega)) fun a S => ?_
   refine gq rfl S (ZAq rfl Ffo46_2 S rfl) fun a S => gq rfl S (y_loadsf _ rfl ZBX S H rfl (by omega) rfl) fun a S => ?_
   refine q_mv S rfl fun a S => gq rfl S (ZAI rfl underlying37 ZA5 S H rfl rfl (by omega)) fun a S => ?_
   refine gq rfl S (ZA6 _ rfl ZAN S H rfl (by omega) rfl) fun a S => ?_
   rw [hn] at S
   refine q_as S rfl fun a S => gnt ?_
   have S := S.sel [25, 24, 23, 17, 18, 20, 19, 15, 14, 12, 9, 3] rfl
   refine ZAG <| ZAZ (loud := []) (tails := []) (free := []) [0, 1, 2, 3, 4, 5, 6, 7, 8, 9, 10, 11, 12, 13, 14, 15, 16, 17, 18, 19, 20, 21, 22, 23, 24, 25, 26, 27, 28, 29] [] Fmo (by kernel_rfl) (by kernel_rfl) rfl H ?_
   refine m_q rfl S (fun w H => ZAL rfl S rfl) fun a S => m_q rfl S (fun w H => ZAn rfl S rfl rfl rfl) fun a S => m_q rfl S (fun w H => ZAL rfl S rfl) fun a S => m_w rfl rfl (wg' 219 rfl rfl S rfl (decide_eq_false (by omega)) rfl) rfl rfl S (fun w H => ZAL rfl S rfl) fun a S => ?_
   refine m_w rfl rfl (wg' 219 rfl rfl S rfl (decide_eq_false (by omega)) rfl) rfl rfl S (fun w H => ZAn rfl S rfl rfl rfl) fun a S => ?_
   refine m_q rfl S (fun w H => ZAz rfl (decide_eq_false (by omega)) S rfl rfl) fun a S => ?_
   refine m_q rfl S (fun w H => ZAL rfl S rfl) fun a S => m_w rfl rfl (wg' 223 rfl rfl S rfl (by simp; omega) rfl) rfl rfl S (fun w H => ZAL rfl S rfl) fun a S => ?_
   refine m_w rfl rfl (wg' 223 rfl rfl S rfl (by simp; omega) rfl) rfl rfl S (fun w H => ZAL rfl S rfl) fun a S => ?_
   refine m_w rfl rfl (wg' 223 rfl rfl S rfl (by simp; omega) rfl) rfl rfl S (fun w H => ZAT rfl underlying30 S H rfl) fun a S => ?_
   refine m_w rfl rfl (wg' 223 rfl rfl S rfl (by simp; omega) rfl) rfl rfl S (fun w H => ZAn rfl S rfl rfl rfl) fun a S => ?_
   refine m_q rfl S (fun w H => ZAz rfl (by simp; omega) S rfl rfl) fun a S => ?_
   refine m_q rfl S (fun w H => ZAL rfl S rfl) fun a S => m_w rfl rfl (wg' 229 rfl rfl S rfl (by simp; omega) rfl) rfl rfl S (fun w H => ZAL rfl S rfl) fun a S => ?_
   refine m_w rfl rfl (wg' 229 rfl rfl S rfl (by simp; omega) rfl) rfl rfl S (fun w H => ZAL rfl S rfl) fun a S => ?_
   refine m_w rfl rfl (wg' 229 rfl rfl S rfl (by simp; omega) rfl) rfl rfl S (fun w H => ZBT ((n : Int)) (false) rfl underlying60 ZBR S H rfl (ZAv underlying3) (by exact rfl) (by exact rfl) rfl) fun a S => ?_
   rw [usedP_get] at S
   refine m_q rfl S (fun w H => ZAz rfl (by simp; omega) S rfl rfl) fun a S => ?_
   refine m_q rfl S (fun w H => ZAL rfl S rfl) fun a S => m_w rfl rfl (wg' 234 rfl rfl S rfl (by simp [hnt]; omega) rfl) rfl rfl S (fun w H => ZAL rfl S rfl) fun a S => ?_
   refine m_w rfl rfl (wg' 234 rfl rfl S rfl (by simp [hnt]; omega) rfl) rfl rfl S (fun w H => ZAL rfl S rfl) fun a S => ?_
   refine m_w rfl rfl (wg' 234 rfl rfl S rfl (by simp [hnt]; omega) rfl) rfl rfl S (fun w H => ZAI rfl underlying30 Fsiz57 S H rfl rfl (by omega)) fun a S => ?_
   refine m_w rfl rfl (wg' 234 rfl rfl S rfl (by simp [hnt]; omega) rfl) rfl rfl S (fun w H => ZAq rfl Ffo57_0 S rfl) fun a S => ?_
   refine ZA3 _ rfl rfl (wg' 234 rfl rfl S rfl (by simp [hnt]; omega) rfl) rfl rfl S rfl ZAN rfl (by omega) rfl fun a S => ?_
   refine m_w rfl rfl (wg' 234 rfl rfl S rfl (by simp [hnt]; omega) rfl) rfl rfl S (fun w H => ZAL rfl S rfl) fun a S => ?_
   refine m_w rfl rfl (wg' 234 rfl rfl S rfl (by simp [hnt]; omega) rfl) rfl rfl S (fun w H => ZAL rfl S rfl) fun a S => ?_
   refine m_w rfl rfl (wg' 234 rfl rfl S rfl (by simp [hnt]; omega) rfl) rfl rfl S (fun w H => ZAI rfl underlying30 Fsiz57 S H rfl rfl (by omega)) fun a S => ?_
   refine m_w rfl rfl (wg' 234 rfl rfl S rfl (by simp [hnt]; omega) rfl) rfl rfl S (fun w H => ZAq rfl Ffo57_0 S rfl) fun a S => ?_
   refine ZA3 _ rfl rfl (wg' 234 rfl rfl S rfl (by simp [hnt]; omega) rfl) rfl rfl S rfl ZAN rfl (by omega) rfl fun a S => ?_
   refine m_w rfl rfl (wg' 234 rfl rfl S rfl (by simp [hnt]; omega) rfl) rfl rfl S (fun w H => ZAn rfl S rfl rfl rfl) fun a S => ?_
   refine m_q rfl S (fun w H => ZAz rfl (by simp [hnt]; omega) S rfl rfl) fun a S => ?_
   refine ZBY (fun w H => ZAA ?_)
   have S := S.sel [246, 24, 23, 17, 18, 20, 19, 15, 14, 12, 9, 3] rfl
   refine c_if S rfl (fun h18 => ?_) (fun h18 => ?_)
   ·have h18p := h18; try simp only [DL] at h18p
    all_goals (
      exfalso
      have h9 := h18
      simp [hkd, hown, hnt] at h9; omega)
   have h18p := h18; try simp only [DL] at h18p
   refine ZAM <| ZAK <| ZAA <| ZAB <| q_mv S rfl fun a S => q_ad S rfl (by omega) fun a S => ?_
   refine q_as S rfl fun a S => gnt <| ⟨q + 1, S.sel [24] rfl, S.sel [23, 17, 18, 20, 19, 15, 14, 12, 9, 3] rfl, H, ?_, ?_⟩
   · omega
   omega
  have h17p := h17; try simp only [DL] at h17p
  refine ZAf <| ZAO (ZAO (x_eq ?_))
  refine ZAK <| ZAA <| ZAB <| q_mv S rfl fun a S => q_ad S rfl (by omega) fun a S => ?_
  exact q_as S rfl fun a S => gnt <| ⟨k + 1, S.sel [23] rfl, S.sel [17, 18, 20, 19, 15, 14, 12, 9, 3] rfl, ⟨by omega, H.take _⟩, by omega⟩
 have h16p := h16; try simp only [DL] at h16p
 refine ZAf <| ZAO (ZAO (x_eq ?_))
 refine ZAA ?_
 have S := S.sel [17, 18, 20, 15, 12, 9, 3] rfl
 refine gsr <| q_mv S rfl fun a S => q_mv S rfl fun a S => ZAF (ZAV (wn rfl) rfl rfl S (ZAi rfl call12 S rfl) (edges_spec wv ov2 (oldL ps ts) qs _ (H.sl wv) (H.sl ov2) (by rw [old_len]; omega) (by omega)) fun ue w hc a S => ?_)
 obtain ⟨es, hes, H1⟩ := hc
 have H := H.call2 H1 rfl rfl
 have hge : gr es = ZAy (oldL ps ts) qs := hes
 have hck : checkL (gr es) qs.length (tosS (ms.map Mv.say)) (clP ps qs ts) (crP ps qs ts) = true := by rw [hge]; exact cov_own hM hmvd
 refine q_as S rfl fun a S => gnt ?_
 have S := S.sel [26, 18, 20, 15, 12, 9, 3] rfl
 refine gsr <| q_mv S rfl fun a S => q_mv S rfl fun a S => gz 251 rfl S rfl rfl rfl rfl rfl rfl (ZAL rfl S rfl) fun a S => gz 251 rfl S rfl rfl rfl rfl rfl rfl (ZAL rfl S rfl) fun a S => gz 251 rfl S rfl rfl rfl rfl rfl rfl (ZAT rfl underlying30 S H rfl) fun a S => gz 251 rfl S rfl rfl rfl rfl rfl rfl (ZAL rfl S rfl) fun a S => gz 251 rfl S rfl rfl rfl rfl rfl rfl (ZAC rfl Ffo41_1 S rfl) fun a S => ?_
 refine gz 251 rfl S rfl rfl rfl rfl rfl rfl ((y_loadp (off := 1) (cs := [mv, vl, vr]) (vs := [vl, vr]) rfl S H rfl (by exact Fagg39) rfl)) fun a S => ?_
 refine ZAF (ZAV (wg' 251 rfl rfl S rfl rfl rfl) rfl rfl S (ZAi rfl call13 S rfl) (check_spec ue es qs.length tv (tosS (ms.map Mv.say)) vl vr (clP ps qs ts) (crP ps qs ts) _ (H.sl ue) (H.rws 3 es) (H.sl tv) (H.sl vl) (H.sl vr) (H.cap vl) (Nat.le_trans (clP_len ps qs ts (by omega)) (by decide)) (Nat.le_trans (crP_len ps qs ts (by omega)) (by decide))) fun v w hc a S => ?_)
 obtain ⟨rfl, he⟩ := hc
 have H := H.ext he
 refine gq rfl S (ZBf rfl rfl S rfl rfl) fun a S => q_mv S rfl fun a S => ZAF (op_y (wg' 260 rfl rfl S rfl (by simp [hck]) rfl) rfl rfl S (ZAL rfl S rfl) fun a S => ?_)
 refine ZAF (op_y (wg' 260 rfl rfl S rfl (by simp [hck]) rfl) rfl rfl S (ZAL rfl S rfl) fun a S => ?_)
 refine ZAF (ZAV (wg' 260 rfl rfl S rfl (by simp [hck]) rfl) rfl rfl S (ZAi rfl call14 S rfl) (size_spec ue es gv got _ (H.sl ue) (H.rws 3 es) (H.sl gv)) fun v w hc a S => ?_)
 obtain ⟨rfl, he⟩ := hc
 have H := H.ext he
 refine ZAF (op_y (wg' 260 rfl rfl S rfl (by simp [hck]) rfl) rfl rfl S (ZAL rfl S rfl) fun a S => ?_)
 refine ZAF (op_y (wg' 260 rfl rfl S rfl (by simp [hck]) rfl) rfl rfl S (ZAn rfl S rfl rfl rfl) fun a S => ?_)
 refine gq rfl S (ZBf rfl (by simp [hck]) S rfl rfl) fun a S => ?_
 refine q_as S rfl fun a S => gnt ?_
 have S := S.sel [8] rfl
 refine ZAe <| ret1 rfl S rfl <| ⟨congrArg Value.bool ?_, H.toExt⟩
 have h1 := size_best hM hmvd got
 rw [← hge] at h1
 simp [hck]
 omega
end
end Go.Proofs.YtjdlllacomgaoaaGreatDoor
namespace Go.Proofs.YtjdlllacomgaoaaGreatDoor
section
open Go.ChangeShapes Go.WideShapes Go.ChangeAt Go.RowKit Go.Gw _root_.Go.Proofs.Tryz
section
theorem ownLaw : ownKnob Tryz.prog.godebug = none := by kernel_rfl
theorem laidOut : laidOutB Tryz.prog = true := by kernel_rfl
theorem bulk_one {H : Type} (d : DataW H) : 1 ≤ Rows.uptoBulk d := by
  cases d with
  | lit l => cases l <;> simp [Rows.uptoBulk]
  | nil => simp [Rows.uptoBulk]
  | ptr d => simp [Rows.uptoBulk]
  | slice es sp => simp [Rows.uptoBulk]
  | agg ps => simp [Rows.uptoBulk]
  | iface t d => simp [Rows.uptoBulk]
  | map es => simp [Rows.uptoBulk]
  | held h => simp [Rows.uptoBulk]
theorem bulk_app {H : Type} : ∀ (l r : List (DataW H)), Rows.uptoBulkAll (l ++ r) = Rows.uptoBulkAll l + Rows.uptoBulkAll r
  | [], r => by simp [Rows.uptoBulkAll]
  | x :: l, r => by simp only [List.cons_append, Rows.uptoBulkAll, bulk_app l r]; omega
theorem bulk_mem {H : Type} {d : DataW H} : ∀ {l : List (DataW H)}, d ∈ l → Rows.uptoBulk d ≤ Rows.uptoBulkAll l
  | x :: l, h => by
    simp only [Rows.uptoBulkAll]
    rcases List.mem_cons.1 h with rfl | h
    · omega
    have := bulk_mem h; omega
section
variable {P : Program} {W : World}
def ZBp (P : Program) (W : World) (e : TypeId) {α : Type} (cs : α → List Value) (good : α → Prop) (m : α → Nat) : Prop :=
  ∀ {H : Type} {enc : TypeId × Value → H} {base : Nat} {spare : Nat → Bool} {held : Bool} {fuel : Nat} {vs : List Value} {x : DataW H × List MemPlace}, DataW.trod enc P W base spare held fuel e vs = some x → ∃ y, vs = cs y ∧ good y ∧ m y ≤ Rows.uptoBulk x.1
theorem ReadsAt.m1 {e : TypeId} {α : Type} {cs : α → List Value} {good : α → Prop} (h : ReadsAt P W e cs good) : ZBp P W e cs good (fun _ => 1) := fun hx => by
  obtain ⟨y, h1, h2⟩ := h hx
  exact ⟨y, h1, h2, bulk_one _⟩
theorem ZBp.mono {e : TypeId} {α β : Type} {cs : α → List Value} {good : α → Prop} {m : α → Nat} {cs2 : β → List Value} {good2 : β → Prop} {m2 : β → Nat} (h : ZBp P W e cs good m) (f : α → β) (hc : ∀ y, good y → cs y = cs2 (f y)) (hg : ∀ y, good y → good2 (f y)) (hm : ∀ y, m2 (f y) ≤ m y) : ZBp P W e cs2 good2 m2 := fun hx => by
  obtain ⟨y, h1, h2, h3⟩ := h hx
  exact ⟨f y, h1.trans (hc y h2), hg y h2, Nat.le_trans (hm y) h3⟩
theorem ZBv {t e : TypeId} {sz : Nat} {α : Type} {cs : α → List Value} {good : α → Prop} {m : α → Nat} (hT : P.underlying t = some (.slice e)) (hc : P.cellsOf e = sz) (hpos : 0 < sz) (hE : ZBp P W e cs good m) :
    ZBp P W t (fun y : Value × List α => [y.1]) (fun y => IsSl W y.1 sz cs y.2 ∧ capOK y.1 ∧ ∀ x ∈ y.2, good x) (fun y => (y.2.map m).sum) := fun {H enc base spare held fuel vs x} hf => by
  rcases DataW.trod_slice hT hf with ⟨rfl, _⟩ | ⟨a, len, cap, elems, rest, n, _, rfl, hx, hb, hlc, hcm, hel, hat, _, _⟩
  · exact ⟨(.slice none 0 0, []), rfl, ⟨⟨by simp, ⟨_, _, rfl⟩, by simp, fun i hi => by simp at hi⟩, Nat.le_refl 0, by simp⟩, by simp⟩
  have hsp0 : 0 < len → a.spot = none := fun h0 => by
    have h1 := hat 0 h0
    rw [List.getElem?_eq_getElem (by omega)] at h1
    obtain ⟨c, hcells, hy⟩ := Option.bind_eq_some_iff.1 h1
    obtain ⟨_, hlen, hcell⟩ := World.cells?_some hcells
    rw [hc] at hlen hcell
    have g0 := hcell 0 hpos
    rw [List.getElem?_eq_getElem (by omega)] at g0
    have := World.cell?_spot g0
    simpa [Addr.add] using this
  have hstep : ∀ i (hi : i < len), ∃ y : α, good y ∧ m y ≤ Rows.uptoBulk (elems[i]'(by omega)).1 ∧ (cs y).length = sz ∧ ∃ b off, a = ⟨b, off, none⟩ ∧ ∀ j u, (cs y)[j]? = some u → W.cell? ⟨b, off + i * sz + j, none⟩ = some u := fun i hi => by
    have h1 := hat i hi
    rw [List.getElem?_eq_getElem (by omega)] at h1
    obtain ⟨c, hcells, hy⟩ := Option.bind_eq_some_iff.1 h1
    obtain ⟨y, rfl, hg, hm⟩ := hE hy
    obtain ⟨_, hlen, hcell⟩ := World.cells?_some hcells
    rw [hc] at hlen hcell
    obtain ⟨b, off, spot⟩ := a
    refine ⟨y, hg, hm, hlen, ?_⟩
    have hspot : spot = none := hsp0 (by omega)
    subst hspot
    refine ⟨b, off, rfl, fun j u hu => ?_⟩
    have hj : j < sz := by rw [← hlen]; exact (List.getElem?_eq_some_iff.1 hu).1
    have := hcell j hj
    rw [Gw.add_plain, Gw.add_plain] at this
    rw [this, hu]
  have : ∀ k, k ≤ len → ∃ xs : List α, xs.length = k ∧ (xs.map m).sum ≤ Rows.uptoBulkAll ((elems.take k).map fun x => x.1) ∧ (∀ x ∈ xs, good x ∧ (cs x).length = sz) ∧ ∀ i (h : i < xs.length), ∃ b off, a = ⟨b, off, none⟩ ∧ ∀ j u, (cs xs[i])[j]? = some u → W.cell? ⟨b, off + i * sz + j, none⟩ = some u := by
    intro k
    induction k with
    | zero => intro _; exact ⟨[], rfl, by simp, by simp, fun i h => by simp at h⟩
    | succ k ih =>
      intro hk
      obtain ⟨xs, hl, hm, hg, hc'⟩ := ih (by omega)
      obtain ⟨y, g, gm, gl, hy⟩ := hstep k (by omega)
      refine ⟨xs ++ [y], by simp [hl], ?_, fun x hx => ?_, fun i hi => ?_⟩
      · rw [List.take_succ_eq_append_getElem (show k < elems.length by omega)]
        simp only [List.map_append, List.sum_append, bulk_app, List.map_cons, List.map_nil, List.sum_cons, List.sum_nil, Rows.uptoBulkAll]
        omega
      · rcases List.mem_append.1 hx with h | h
        · exact hg x h
        simp at h; subst h; exact ⟨g, gl⟩
      by_cases hik : i < xs.length
      · rw [List.getElem_append_left hik]; exact hc' i hik
      obtain rfl : i = k := by simp at hi; omega
      rw [List.getElem_append_right (by omega)]
      simpa [hl] using hy
  obtain ⟨xs, hl, hsum, hg, hc'⟩ := this len (Nat.le_refl _)
  have hmx : maxLen = 9223372036854775807 := by decide
  refine ⟨(.slice (some a) len cap, xs), rfl, ?_, ?_⟩
  · show IsSl W (.slice (some a) len cap) sz cs xs ∧ capOK (.slice (some a) len cap) ∧ ∀ x ∈ xs, good x
    refine ⟨⟨by omega, ⟨_, _, by rw [hl]⟩, fun x hx => (hg x hx).2, fun i hi => ?_⟩, hlc, fun x hx => (hg x hx).1⟩
    obtain ⟨b, off, rfl, h⟩ := hc' i hi
    exact ⟨b, off, cap, by rw [hl], h⟩
  rw [hx]
  simp only [Rows.uptoBulk]
  rw [List.take_of_length_le (by omega)] at hsum
  omega
def ReadsN (P : Program) (W : World) (ts : List TypeId) {α : Type} (cs : α → List Value) (good : α → Prop) (m : α → Nat) : Prop :=
  ∀ {H : Type} {enc : TypeId × Value → H} {base : Nat} {spare : Nat → Bool} {held : Bool} {fuel : Nat} {vs : List Value} {ds : List (DataW H)}, vs.length = (ts.map P.cellsOf).sum → ds.length = ts.length →
    (∀ i t d, ts[i]? = some t → ds[i]? = some d → ∃ q, DataW.trod enc P W base spare held fuel t ((vs.drop ((ts.take i).map P.cellsOf).sum).take (P.cellsOf t)) = some (d, q)) → ∃ y, vs = cs y ∧ good y ∧ m y ≤ Rows.uptoBulkAll ds
theorem readsN_nil : ReadsN P W [] (fun _ : Unit => []) (fun _ => True) (fun _ => 0) := fun hl _ _ => ⟨(), by simpa using hl, trivial, Nat.zero_le _⟩
theorem ZAc {t : TypeId} {ts : List TypeId} {α β : Type} {cs : α → List Value} {good : α → Prop} {m : α → Nat} {cs2 : β → List Value} {good2 : β → Prop} {m2 : β → Nat} (h : ZBp P W t cs good m) (h2 : ReadsN P W ts cs2 good2 m2) :
    ReadsN P W (t :: ts) (fun y : α × β => cs y.1 ++ cs2 y.2) (fun y => good y.1 ∧ good2 y.2) (fun y => m y.1 + m2 y.2) := fun {H enc base spare held fuel vs ds} hl hd hf => by
  match ds, hd with
  | d :: ds, hd =>
    obtain ⟨q, hx⟩ := hf 0 t d rfl rfl
    simp only [List.take_zero, List.map_nil, List.sum_nil, List.drop_zero] at hx
    obtain ⟨y, h1, h3, h6⟩ := h hx
    simp only [List.map_cons, List.sum_cons] at hl
    obtain ⟨z, h4, h5, h7⟩ := h2 (vs := vs.drop (P.cellsOf t)) (H := H) (enc := enc) (base := base) (spare := spare) (held := held) (fuel := fuel) (ds := ds) (by rw [List.length_drop]; omega) (by simpa using hd) (fun i u d hu hdu => by
      obtain ⟨q, hx⟩ := hf (i + 1) u d (by simpa using hu) (by simpa using hdu)
      refine ⟨q, ?_⟩
      simp only [List.take_succ_cons, List.map_cons, List.sum_cons] at hx
      rw [List.drop_drop]; exact hx)
    refine ⟨(y, z), by show vs = cs y ++ cs2 z; rw [← h1, ← h4, List.take_append_drop], ⟨h3, h5⟩, ?_⟩
    simp only [Rows.uptoBulkAll]
    dsimp only at h6
    omega
theorem ZBj {e : TypeId} {fs : Array Field} {ts : List TypeId} {α : Type} {cs : α → List Value} {good : α → Prop} {m : α → Nat} (hT : P.underlying e = some (.struct fs)) (hb : fieldsB P fs ts (P.cellsOf e) = true) (h : ReadsN P W ts cs good m) : ZBp P W e cs good (fun y => m y + 1) := fun {H enc base spare held fuel vs x} hx => by
  simp only [fieldsB, Bool.and_eq_true, beq_iff_eq, decide_eq_true_eq, List.all_eq_true, List.mem_range] at hb
  obtain ⟨h1, h2, h3⟩ := hb
  obtain ⟨xs, n, rfl, hxe, hl, hxl, hf⟩ := DataW.trod_struct hT hx
  have hlen : ts.length = fs.size := by rw [← h1]; simp
  obtain ⟨y, hy, hg, hm⟩ := h (H := H) (enc := enc) (base := base) (spare := spare) (held := held) (fuel := n) (vs := vs) (ds := xs.map fun x => x.1) (by omega) (by rw [List.length_map, hxl, hlen]) (fun i t d ht hd => by
    have hi : i < ts.length := (List.getElem?_eq_some_iff.1 ht).1
    obtain ⟨f, hfi⟩ : ∃ f, fs[i]? = some f := ⟨fs[i]'(by omega), Array.getElem?_eq_getElem _⟩
    have h4 := h3 i hi
    rw [hfi] at h4
    have hft : f.type = t := by
      rw [← h1, List.getElem?_map, Array.getElem?_toList, hfi] at ht
      simpa using ht
    have h5 := hf i f hfi
    rw [hft, show f.offset = ((ts.take i).map P.cellsOf).sum by simpa using h4] at h5
    rw [List.getElem?_map] at hd
    obtain ⟨z, hz, rfl⟩ := Option.map_eq_some_iff.1 hd
    exact ⟨z.2, by rw [h5, hz]⟩)
  refine ⟨y, hy, hg, ?_⟩
  rw [hxe]
  simp only [Rows.uptoBulk]
  omega
theorem arg_stM {H : Type} {enc : TypeId × Value → H} {r : Reach} {b0 : Nat} {base : Nat} {sp : Nat → Bool} {held : Bool} {t : TypeId} {fs : Array Field} {α : Type} {cs : α → List Value} {good : α → Prop} {m : α → Nat} {v : Value} {d : DataW H} {ps : List MemPlace} (hT : P.underlying t = some (.struct fs)) (hE : ZBp P W t cs good m)
    (hval : Value.okWide P W r b0 t v) (hd : DataW.Trod enc P W base sp held t v d ps) : ∃ y, v = .agg (cs y).toArray ∧ good y ∧ m y ≤ Rows.uptoBulk d := by
  obtain ⟨c, rfl, _⟩ := okWide_struct hT hval
  obtain ⟨fuel, hf⟩ := hd
  obtain ⟨y, h1, h2, h3⟩ := hE hf
  exact ⟨y, by rw [← h1]; simp [Value.cells], h2, h3⟩
end
theorem sum_mem {α : Type} {m : α → Nat} {x : α} : ∀ {l : List α}, x ∈ l → m x ≤ (l.map m).sum
  | y :: l, h => by
    simp only [List.map_cons, List.sum_cons]
    rcases List.mem_cons.1 h with rfl | h
    · omega
    have := sum_mem (m := m) h; omega
theorem sum_len {α : Type} {m : α → Nat} (hm : ∀ x, 1 ≤ m x) : ∀ l : List α, l.length ≤ (l.map m).sum
  | [] => by simp
  | y :: l => by simp only [List.map_cons, List.sum_cons, List.length_cons]; have := sum_len hm l; have := hm y; omega
theorem sum_le2 {α : Type} {m m2 : α → Nat} (hm : ∀ x, m x ≤ m2 x) : ∀ l : List α, (l.map m).sum ≤ (l.map m2).sum
  | [] => by simp
  | y :: l => by simp only [List.map_cons, List.sum_cons]; have := sum_le2 hm l; have := hm y; omega
def mRow (r : RowV) : Nat := 1 + r.marks.length
def mBlk (b : BlockV) : Nat := 1 + (b.rows.map mRow).sum
def mLev (l : LevV) : Nat := 1 + (l.blocks.map mBlk).sum + l.areas.length + l.aisles.length + l.pillars.length + l.doors.length
def mHall (h : HallV) : Nat := (h.levels.map mLev).sum
theorem mRow1 (r : RowV) : 1 ≤ mRow r := by unfold mRow; omega
theorem mBlk1 (b : BlockV) : 1 ≤ mBlk b := by unfold mBlk; omega
theorem mLev1 (l : LevV) : 1 ≤ mLev l := by unfold mLev; omega
def I64 (n : Int) : Prop := (Lit.int .i64 n).wf = true
theorem I64.b {n : Int} (h : I64 n) : -9223372036854775808 ≤ n ∧ n ≤ 9223372036854775807 := by
  have h : IntKind.i64.min ≤ n ∧ n ≤ IntKind.i64.max := by simpa [I64, Lit.wf] using h
  exact h
structure GRow (W : World) (r : RowV) : Prop where
  marks : IsSl W r.mv 3 MarkV.enc r.marks
  x : I64 r.x
  step : I64 r.step
structure GBlk (W : World) (b : BlockV) : Prop where
  rv : IsSl W b.rv 8 RowV.enc b.rows
  rows : ∀ r ∈ b.rows, GRow W r
structure GLev (W : World) (l : LevV) : Prop where
  bv : IsSl W l.bv 3 BlockV.enc l.blocks
  blocks : ∀ b ∈ l.blocks, GBlk W b
  av : IsSl W l.av 7 AreaV.enc l.areas
  ac : capOK l.av
  iv : IsSl W l.iv 4 BoxV.enc l.aisles
  pv : IsSl W l.pv 4 BoxV.enc l.pillars
  dv : IsSl W l.dv 2 PtV.enc l.doors
structure GHall (W : World) (h : HallV) : Prop where
  lv : IsSl W h.lv 8 LevV.enc h.levels
  levels : ∀ l ∈ h.levels, GLev W l
theorem hall_ok {W : World} {h : HallV} (g : GHall W h) : (ZAU h).ok W := by
  intro x hx
  rcases List.mem_cons.1 hx with rfl | hx
  · exact g.lv
  obtain ⟨l, hl, hx⟩ := List.mem_flatMap.1 hx
  have gl := g.levels l hl
  unfold levA at hx
  rcases List.mem_cons.1 hx with rfl | hx
  · exact gl.bv
  rcases List.mem_cons.1 hx with rfl | hx
  · exact gl.av
  rcases List.mem_cons.1 hx with rfl | hx
  · exact gl.iv
  rcases List.mem_cons.1 hx with rfl | hx
  · exact gl.pv
  rcases List.mem_cons.1 hx with rfl | hx
  · exact gl.dv
  rcases List.mem_cons.1 hx with rfl | hx
  · exact gl.ac
  obtain ⟨b, hb, hx⟩ := List.mem_flatMap.1 hx
  have gb := gl.blocks b hb
  unfold blockA at hx
  rcases List.mem_cons.1 hx with rfl | hx
  · exact gb.rv
  obtain ⟨r, hr, hx⟩ := List.mem_flatMap.1 hx
  unfold rowA at hx
  rw [List.mem_singleton.1 hx]
  exact (gb.rows r hr).marks
theorem hall_b {W : World} {h : HallV} (g : GHall W h) (hm : mHall h ≤ 1048576) : HallB h := by
  have hl : ∀ l ∈ h.levels, mLev l ≤ 1048576 := fun l hl => Nat.le_trans (sum_mem (m := mLev) hl) hm
  have hb : ∀ l ∈ h.levels, ∀ b ∈ l.blocks, mBlk b ≤ 1048576 := fun l h1 b h2 => by
    have h3 := sum_mem (m := mBlk) h2
    have h4 := hl l h1
    unfold mLev at h4
    omega
  have hr : ∀ l ∈ h.levels, ∀ b ∈ l.blocks, ∀ r ∈ b.rows, mRow r ≤ 1048576 := fun l h1 b h2 r h3 => by
    have h4 := sum_mem (m := mRow) h3
    have h5 := hb l h1 b h2
    unfold mBlk at h5
    omega
  refine ⟨?_, fun l h1 => ?_, fun l h1 b h2 => ?_, fun l h1 b h2 r h3 => ?_, ?_, fun l h1 b h2 r h3 => ?_⟩
  · exact Nat.le_trans (sum_len mLev1 _) hm
  · have h2 := hl l h1
    have h3 := sum_len mBlk1 l.blocks
    unfold mLev at h2
    omega
  · have h3 := hb l h1 b h2
    have h4 := sum_len mRow1 b.rows
    unfold mBlk at h3
    omega
  · have h4 := hr l h1 b h2 r h3
    unfold mRow at h4
    omega
  · refine Nat.le_trans (sum_le2 (m2 := mLev) (fun l => ?_) _) hm
    have h1 : (l.blocks.map blkW).sum ≤ (l.blocks.map mBlk).sum := sum_le2 (fun b => by
      have := sum_len mRow1 b.rows
      unfold blkW mBlk
      omega) _
    unfold levW mLev
    omega
  have h4 := ((g.levels l h1).blocks b h2).rows r h3
  have h5 := h4.step.b
  have h6 := h4.x.b
  exact ⟨h5.1, h5.2, h6.1, h6.2⟩
theorem readsI : ReadsAs Tryz.prog 3 encI I64 := readsInt underlying3
theorem ZBq (W : World) : ZBp Tryz.prog W 3 encI I64 (fun _ => 1) := ReadsAt.m1 readsI.at_
theorem readsB (W : World) : ZBp Tryz.prog W 9 (fun s : ByteArray => [.string s]) (fun _ => True) (fun _ => 1) := ReadsAt.m1 fun h => by
  obtain ⟨s, h1, _⟩ := DataW.trod_string underlying9 h
  exact ⟨s, h1, trivial⟩
theorem readsPt (W : World) : ZBp Tryz.prog W 23 PtV.enc (fun _ => True) (fun _ => 1) :=
  ZBp.mono (ZBj (ts := [3, 3]) underlying23 (by kernel_rfl) (ZAc (ZBq W) (ZAc (ZBq W) readsN_nil))) (fun y => ⟨y.1, y.2.1⟩) (fun y _ => rfl) (fun _ _ => trivial) (fun _ => by omega)
theorem readsBox (W : World) : ZBp Tryz.prog W 90 BoxV.enc (fun _ => True) (fun _ => 1) :=
  ZBp.mono (ZBj (ts := [3, 3, 3, 3]) underlying90 (by kernel_rfl) (ZAc (ZBq W) (ZAc (ZBq W) (ZAc (ZBq W) (ZAc (ZBq W) readsN_nil))))) (fun y => ⟨y.1, y.2.1, y.2.2.1, y.2.2.2.1⟩) (fun y _ => rfl) (fun _ _ => trivial) (fun _ => by omega)
theorem readsMark (W : World) : ZBp Tryz.prog W 128 MarkV.enc (fun _ => True) (fun _ => 1) :=
  ZBp.mono (ZBj (ts := [3, 3, 3]) underlying128 (by kernel_rfl) (ZAc (ZBq W) (ZAc (ZBq W) (ZAc (ZBq W) readsN_nil)))) (fun y => ⟨y.1, y.2.1, y.2.2.1⟩) (fun y _ => rfl) (fun _ _ => trivial) (fun _ => by omega)
theorem readsArea (W : World) : ZBp Tryz.prog W 92 AreaV.enc (fun _ => True) (fun _ => 1) :=
  ZBp.mono (ZBj (ts := [9, 90, 3, 3]) underlying92 (by kernel_rfl) (ZAc (readsB W) (ZAc (readsBox W) (ZAc (ZBq W) (ZAc (ZBq W) readsN_nil))))) (fun y => ⟨y.1, y.2.1, y.2.2.1, y.2.2.2.1⟩) (fun y _ => rfl) (fun _ _ => trivial) (fun _ => by omega)
theorem sum_ones {α : Type} (l : List α) : (l.map fun _ => 1).sum = l.length := by
  induction l with
  | nil => rfl
  | cons x l ih => simp only [List.map_cons, List.sum_cons, List.length_cons, ih]; omega
theorem readsRw (W : World) : ZBp Tryz.prog W 70 RowV.enc (GRow W) mRow :=
  ZBp.mono (ZBj (ts := [9, 3, 3, 3, 3, 3, 68, 3]) underlying70 (by kernel_rfl) (ZAc (readsB W) (ZAc (ZBq W) (ZAc (ZBq W) (ZAc (ZBq W) (ZAc (ZBq W) (ZAc (ZBq W) (ZAc (ZBv underlying68 (by kernel_rfl) (by decide) (readsMark W)) (ZAc (ZBq W) readsN_nil)))))))))
    (fun y => ⟨y.1, y.2.1, y.2.2.1, y.2.2.2.1, y.2.2.2.2.1, y.2.2.2.2.2.1, y.2.2.2.2.2.2.1.1, y.2.2.2.2.2.2.1.2, y.2.2.2.2.2.2.2.1⟩) (fun y _ => rfl)
    (fun y h => ⟨h.2.2.2.2.2.2.1.1, h.2.1, h.2.2.2.2.2.1⟩) (fun y => by unfold mRow; dsimp only; rw [sum_ones]; omega)
theorem readsBk (W : World) : ZBp Tryz.prog W 73 BlockV.enc (GBlk W) mBlk :=
  ZBp.mono (ZBj (ts := [9, 71, 3]) underlying73 (by kernel_rfl) (ZAc (readsB W) (ZAc (ZBv underlying71 (by kernel_rfl) (by decide) (readsRw W)) (ZAc (ZBq W) readsN_nil))))
    (fun y => ⟨y.1, y.2.1.1, y.2.1.2, y.2.2.1⟩) (fun y _ => rfl) (fun y h => ⟨h.2.1.1, h.2.1.2.2⟩) (fun y => by unfold mBlk; dsimp only; omega)
theorem readsLv (W : World) : ZBp Tryz.prog W 79 LevV.enc (GLev W) mLev :=
  ZBp.mono (ZBj (ts := [9, 3, 74, 75, 76, 76, 77, 3]) underlying79 (by kernel_rfl) (ZAc (readsB W) (ZAc (ZBq W)
    (ZAc (ZBv underlying74 (by kernel_rfl) (by decide) (readsBk W)) (ZAc (ZBv underlying75 (by kernel_rfl) (by decide) (readsArea W))
    (ZAc (ZBv underlying76 (by kernel_rfl) (by decide) (readsBox W)) (ZAc (ZBv underlying76 (by kernel_rfl) (by decide) (readsBox W))
    (ZAc (ZBv underlying77 (by kernel_rfl) (by decide) (readsPt W)) (ZAc (ZBq W) readsN_nil)))))))))
    (fun y => ⟨y.1, y.2.1, y.2.2.1.1, y.2.2.1.2, y.2.2.2.1.1, y.2.2.2.1.2, y.2.2.2.2.1.1, y.2.2.2.2.1.2, y.2.2.2.2.2.1.1, y.2.2.2.2.2.1.2, y.2.2.2.2.2.2.1.1, y.2.2.2.2.2.2.1.2, y.2.2.2.2.2.2.2.1⟩) (fun y _ => rfl)
    (fun y h => ⟨h.2.2.1.1, h.2.2.1.2.2, h.2.2.2.1.1, h.2.2.2.1.2.1, h.2.2.2.2.1.1, h.2.2.2.2.2.1.1, h.2.2.2.2.2.2.1.1⟩)
    (fun y => by unfold mLev; dsimp only; rw [sum_ones, sum_ones, sum_ones, sum_ones]; omega)
theorem readsHall (W : World) : ZBp Tryz.prog W 26 HallV.enc (GHall W) mHall :=
  ZBp.mono (ZBj (ts := [9, 23, 24]) underlying26 (by kernel_rfl) (ZAc (readsB W) (ZAc (readsPt W) (ZAc (ZBv underlying24 (by kernel_rfl) (by decide) (readsLv W)) readsN_nil))))
    (fun y => ⟨y.1, y.2.1, y.2.2.1.1, y.2.2.1.2⟩) (fun y _ => rfl) (fun y h => ⟨h.2.2.1.1, h.2.2.1.2.2⟩) (fun y => by unfold mHall; dsimp only; omega)
theorem u16b {n : Int} (h : (Lit.int .u16 n).wf = true) : 0 ≤ n ∧ n ≤ 65535 := by
  have h : IntKind.u16.min ≤ n ∧ n ≤ IntKind.u16.max := by simpa [Lit.wf] using h
  exact ⟨h.1, h.2⟩
theorem readsU16 : ReadsAs Tryz.prog 80 (fun n : Int => [.int .u16 n]) (fun n => (Lit.int .u16 n).wf = true) := readsInt underlying80
theorem readsC16 (W : World) : ReadsAt Tryz.prog W 80 encC16 (fun c => c < 65536) :=
  ReadsAt.mono readsU16.at_ (fun n => n.toNat)
    (fun y h => by
      have h1 := u16b h
      show [Value.int .u16 y] = [Value.int .u16 (y.toNat : Int)]
      rw [Int.toNat_of_nonneg h1.1])
    (fun y h => by
      have h1 := u16b h
      omega)
theorem bulk_at {H : Type} {d : DataW H} {ds gs : List (DataW H)} (hk : Rows.uptoSmall H (ds ++ gs) = true) (hd : d ∈ ds) : Rows.uptoBulk d ≤ 1048576 := by
  have h := of_decide_eq_true hk
  rw [bulk_app] at h
  have := bulk_mem hd
  omega
end
end
end Go.Proofs.YtjdlllacomgaoaaGreatDoor
