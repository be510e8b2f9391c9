/- Parts of the proof, joined: the program logic, the plain theory, the walks, as they are named inside. No condition. -/
import Derived.Test.YtjdlllacomgaoaaGreatDoorChecked
import Derived.Test.YtjdlllacomgaoaaGreatDoorQb2
import Derived.Test.YtjdlllacomgaoaaGreatDoorQb4
import Derived.RecoverIn
import Derived.Test.YtjdlllacomgaoaaGreatDoorQb1
set_option linter.unusedVariables false
set_option linter.unusedSimpArgs false
namespace Go.Proofs.YtjdlllacomgaoaaGreatDoor
section
open Go Go.Gw _root_.Go.Proofs.Tryz
section
theorem opsS_v {F : Fence} {n : Nat} {P : Program} {ops : Array Oper} {Q : Exit → Act → List Frame → World → Prop} {i : Nat} {rest : List Nat} {o : Oper} {a : Act} {cs : List Frame} {w : World} {v : Value} (ho : ops[i]? = some o) (hg : o.guard = none) (hF : ∀ f, F.fn f) (hr : (execOp a.eval o).run P w = .ok (.value v) w) (h : wpOpsSIn F n P ops Q rest (a.put o.dst v) cs w) : wpOpsSIn F n P ops Q (i :: rest) a cs w := by
  unfold wpOpsSIn
  rw [ho]
  simp only
  refine ⟨fun f _ => hF f, ?_⟩
  rw [if_pos (wn hg), hr]
  exact h
theorem opsS_r {F : Fence} {n : Nat} {P : Program} {ops : Array Oper} {Q : Exit → Act → List Frame → World → Prop} {i : Nat} {rest : List Nat} {o : Oper} {a : Act} {cs : List Frame} {w : World} (ho : ops[i]? = some o) (hg : o.guard = none) (hF : ∀ f, F.fn f) (hr : (execOp a.eval o).run P w = .ok .recover w) (hc : recoverD cs = none) (h : wpOpsSIn F n P ops Q rest (a.put o.dst .nilIface) cs w) : wpOpsSIn F n P ops Q (i :: rest) a cs w := by
  unfold wpOpsSIn
  rw [ho]
  simp only
  refine ⟨fun f _ => hF f, ?_⟩
  rw [if_pos (wn hg), hr, hc]
  exact h
theorem y_nenilI {P : Program} {o : Oper} {a : Act} {w : World} {n : Sz} {fl : Slots} {T U : TypeId} {x : Operand} {ms : Array (String × TypeId)} (ho : o.op = .binOp .neq T x (.const .nilIface) U) (hT : P.underlying T = some (.interface ms)) (S : St n fl a) (hx : ev fl x = some .nilIface) : Yld P o a w (.bool false) := by
  have hh : ∀ q : Nat, (Op.equalIn (q + 1) T .nilIface .nilIface).run P w = .ok true w := fun q => by
    simp [Op.equalIn, run_underlying hT]
  have h := hh 9999
  unfold Yld execOp; rw [ho]; simp only [S.ev hx]
  simp [eqGuard, binOp, Op.equal, Act.eval]
  rw [show Op.maxDepth = 9999 + 1 from rfl, h]
  rfl
theorem recov_calm (a1 a2 a3 : Value) (w : World) : CallsDIn Fence.wide 0 Tryz.prog 86 #[a1, a2, a3] .returning w (fun e u' w' => e = .returned (.tuple #[]) ∧ u' = .returning ∧ w' = w) := by
  refine callsDIn_of_wpSIn Tryz.func86 rfl trivial (fun c0 cs hu => ?_)
  have hrc : recoverD (c0 :: cs) = none := by simp [recoverD, hu]
  have S0 : St 15 [] { tmps := #[a1, a2, a3] ++ Array.replicate (15 - 3) undef, defers := [] } := ⟨rfl, rfl, fun i v h => by cases h⟩
  refine wpSIn_seq (wpSIn_region ?_)
  refine opsS_r (i := 0) rfl rfl (fun _ => trivial) (by rfl) hrc ?_
  have S1 := S0.put (d := 5) rfl .nilIface
  refine opsS_v (i := 1) (v := .nilIface) rfl rfl (fun _ => trivial) (ZA1 rfl S1 rfl) ?_
  have S2 := S1.put (d := 3) rfl .nilIface
  refine wpSIn_seq (wpSIn_region ?_)
  refine opsS_v (i := 0) (v := .nilIface) rfl rfl (fun _ => trivial) (ZAL rfl S2 rfl) ?_
  have S3 := S2.put (d := 6) rfl .nilIface
  refine opsS_v (i := 1) (v := .bool false) rfl rfl (fun _ => trivial) (y_nenilI rfl underlying20 S3 rfl) ?_
  have S4 := S3.put (d := 7) rfl (.bool false)
  exact wpSIn_cond (t := false) (S4.ev rfl) <| wpSIn_of_wpIn rfl <| ZAM (r := none) <| ⟨S4.defers, .returning, by rw [show ({ c0 with mode := FrameMode.returning } : Frame) = c0 by rw [← hu]], .tuple #[], results_none rfl _ _ _, rfl, rfl, rfl⟩
section
variable {P : Program} {o : Oper} {n : Sz} {fl : Slots} {a : Act} {w w0 : World} {ops : Array Oper}
theorem run_defer {x : Operand} {f : FuncId} {cap : Array Value} {ts : Array TypeId} (ho : o.op = .defer { callee := .value x, args := #[], argTypes := ts }) (S : St n fl a) (hx : ev fl x = some (.func (.func f) #[] cap)) : (execOp a.eval o).run P w = .ok (.defer { target := .fn (.func f) cap, args := #[] }) w := by
  unfold execOp; rw [ho]; simp [resolve, S.ev hx, Deferred.ofValue]
theorem g_defer {id : Nat} {o1 o2 : Oper} {Q : Exit → Act → World → Prop} {f : FuncId} {cap : Array Value} {ts : Array TypeId} {m d : Nat} {ds : List Deferred} (S : St ⟨m, ds⟩ fl a)
    (hg1 : o1.guard = none) (hd1 : o1.dst = some d) (hn : Nat.blt d m = true) (hy : Yld P o1 a w (.func (.func f) #[] cap)) (hg2 : o2.guard = none) (hd2 : o2.dst = none) (ho2 : o2.op = .defer { callee := .value (.tmp d), args := #[], argTypes := ts })
    (k : ∀ a', St ⟨m, { target := .fn (.func f) cap, args := #[] } :: ds⟩ ((d, .func (.func f) #[] cap) :: fl) a' → Q .normal a' w) : gp none P (.region id #[o1, o2] false) Q a w := by
  refine wpIn_region ?_
  show wpOpsIn (FR none) 0 P #[o1, o2] Q [0, 1] a w
  unfold wpOpsIn
  show (if Region.wanted o1 (yielded #[o1, o2] a.tmps) = true then o1.wpIn (FR none) 0 P a w (wpOpsIn (FR none) 0 P #[o1, o2] Q [1]) Q else _)
  have h := opw_op (r := none) (ops := #[o1, o2]) (Q' := Q) (op_y (ops := #[o1, o2]) (K := wpOpsIn (FR none) 0 P #[o1, o2] Q [1]) (wn hg1) hd1 hn S hy (fun a' S' => ?_))
  · exact h
  unfold wpOpsIn
  show (if Region.wanted o2 (yielded #[o1, o2] a'.tmps) = true then o2.wpIn (FR none) 0 P a' w (wpOpsIn (FR none) 0 P #[o1, o2] Q []) Q else _)
  rw [if_pos (wn hg2)]
  refine ⟨fun _ _ => trivial, ?_⟩
  show o2.uponIn (FR none) 0 P a' _ Q ((o2.semAt none a'.eval).run P w)
  rw [Oper.semAt_none, run_defer (f := f) (cap := cap) ho2 S' (by simp [ev]), Oper.uponIn_defer, hd2]
  exact k _ <| ⟨S'.size, by show _ :: a'.defers = _; rw [S'.defers], S'.get⟩
theorem ret3D {fn : Func} {R : Value → World → Prop} {f : FuncId} {cap : Array Value} {m : Nat} {v2 v3 : Value} {M : Nat → Prop} {l : List Atom} {t u x T U X b b2 b3 : Nat} {cs cs2 cs3 : List Value} {T' T2' T3' : TypeId} {fz fz2 fz3 : Nat × Nat} (hr : fn.results = #[.cell t T, .cell u U, .cell x X])
    (S : St ⟨m, [{ target := .fn (.func f) cap, args := #[] }]⟩ fl a) (H : HSat M w0 l w) (he : Enters P f) (hcalm : ∀ w, CallsDIn Fence.wide 0 P f cap .returning w (fun e u' w' => e = .returned (.tuple #[]) ∧ u' = .returning ∧ w' = w))
    (hv : fl.lookup t = some (.pointer (some ⟨b, 0, none⟩))) (hu : fl.lookup u = some (.pointer (some ⟨b2, 0, none⟩))) (hx : fl.lookup x = some (.pointer (some ⟨b3, 0, none⟩)))
    [h : HasRd l b (.cells cs.toArray T' fz)] [h2 : HasRd l b2 (.cells cs2.toArray T2' fz2)] [h3 : HasRd l b3 (.cells cs3.toArray T3' fz3)] (hT : aggB P T cs.length = true) (hU : ZAl P U = true) (hX : ZAl P X = true) (hc2 : cs2[0]? = some v2) (hc3 : cs3[0]? = some v3) (hR : R (.tuple #[.agg cs.toArray, v2, v3]) w) : endP P fn R .ret a w := by
  show LeavesInM Fence.wide 0 P fn a.tmps _ a.defers .returning w
  rw [S.defers]
  refine ⟨by simp, .inr ⟨fun h => (by cases h), Fn.func f, cap, f, cap, rfl, (by simpa [invoke] using he cap w), fun _ _ => trivial, ?_⟩⟩
  refine CallsDIn.mono (hcalm w) fun e u' w' ⟨e1, e2, e3⟩ => ?_
  subst e1 e2 e3
  have hl := ZBc (P := P) (w := w') (p := ⟨b, 0, none⟩) hT (fun j u hu => by rw [add_plain, H.cell h]; simpa using hu)
  have hl2 := ZA0 (P := P) (w := w') (p := ⟨b2, 0, none⟩) hU (by rw [H.cell h2]; exact hc2)
  have hl3 := ZA0 (P := P) (w := w') (p := ⟨b3, 0, none⟩) hX (by rw [H.cell h3]; exact hc3)
  have hv' : a.tmps[t]?.getD undef = .pointer (some ⟨b, 0, none⟩) := by rw [← Array.getD_eq_getD_getElem?]; exact S.get t _ hv
  have hu' : a.tmps[u]?.getD undef = .pointer (some ⟨b2, 0, none⟩) := by rw [← Array.getD_eq_getD_getElem?]; exact S.get u _ hu
  have hx' : a.tmps[x]?.getD undef = .pointer (some ⟨b3, 0, none⟩) := by rw [← Array.getD_eq_getD_getElem?]; exact S.get x _ hx
  exact ⟨.tuple #[.agg cs.toArray, v2, v3], by simp [results, hr, hv', hu', hx', asAddr, hl, hl2, hl3], _, rfl, hR⟩
end
def hallK (lv bv rv av iv dv : Value) : HallV := ⟨⟨#[104]⟩, ⟨0, 0⟩, lv, [levK bv rv av iv dv]⟩
def phallW (w0 : World) (c b2 b3 b4 : Nat) (tv : Value) (w : World) : Nat → Prop
  | 0 => HSat No w0 [PaC c tv (6), Sl tv 4 TokV.enc TK, Cel b2 26 [.string ⟨#[104]⟩, .int .i64 0, .int .i64 0, .slice none 0 0], OSl 79 (.slice none 0 0) 8 LevV.enc [], Cel b4 3 [.int .i64 0], Cel b3 42 [.int .i64 0]] w
  | _ => ∃ lv bv rv av iv dv, HSat No w0 [PaC c tv (47), Sl tv 4 TokV.enc TK, Cel b2 26 [.string ⟨#[104]⟩, .int .i64 0, .int .i64 0, lv], OSl 79 lv 8 LevV.enc [levK bv rv av iv dv], Cel b4 3 [.int .i64 0], Cel b3 42 [.int .i64 0], OSl 73 bv 3 BlockV.enc [blkK rv], OSl 70 rv 8 RowV.enc [rowK], OSl 92 av 7 AreaV.enc [areaK], OSl 90 iv 4 BoxV.enc [boxK1], OSl 23 dv 2 PtV.enc [⟨10, 0⟩]] w
set_option maxHeartbeats 2000000 in
theorem parse_spec (w0 : World) :
    Ret Tryz.prog 39 #[.string TXT] w0 (fun u w => ∃ lv bv rv av iv dv, u = .tuple #[.agg (HallV.enc (hallK lv bv rv av iv dv)).toArray, .int .i64 0, .int .i64 0] ∧ HSat No w0 [OSl 79 lv 8 LevV.enc [levK bv rv av iv dv], OSl 73 bv 3 BlockV.enc [blkK rv], OSl 70 rv 8 RowV.enc [rowK], OSl 92 av 7 AreaV.enc [areaK], OSl 90 iv 4 BoxV.enc [boxK1], OSl 23 dv 2 PtV.enc [⟨10, 0⟩]] w) := by
 refine ZAE (nt := 64) Tryz.func39 rfl rfl rfl (fl := [(0, .string TXT)]) rfl (fun a S => ?_)
 have H := HSat.start w0
 refine gsr <| q_al S H rfl Fzer26 fun b2 a w S H => q_al S H rfl Fzer42 fun b3 a w S H => q_al S H rfl Fzer3 fun b4 a w S H => gnt <| gsr <| q_mv S rfl fun a S => q_cl S rfl call85 (lex_spec TXT _ (by rw [TXT_size]; decide) TXT_good) fun v w hc a S => ?_
 obtain ⟨tv, rfl, H1⟩ := hc
 rw [TK_eq] at H1
 have H := (H.call1 H1 rfl).giveSl
 refine q_mv S rfl fun a S => gq rfl S (ZAa rfl S rfl rfl) fun a S => gq rfl S (ZAa rfl S rfl rfl) fun a S => gq rfl S (ZAa rfl S rfl rfl) fun a S => q_as S rfl fun a S => q_st S H rfl rfl Fsiz42 rfl fun a w S H => ?_
 dsimp only [List.set, Nat.zero_add, Nat.reduceAdd] at H
 refine q_st S H rfl rfl ZA5 rfl fun a w S H => ?_
 dsimp only [List.set, Nat.zero_add, Nat.reduceAdd] at H
 refine gnt ?_
 have S := S.sel [5, 4, 3, 2, 0] rfl
 refine ZAG <| gsr <| q_ld S H Fsca42 rfl rfl fun a S => q_bn S rfl fun a S => gnt <| c_if S rfl (fun h1 => ?_) (fun h1 => ?_)
 ·have h1p := h1; try simp only [DL] at h1p
  all_goals (
    exact absurd h1 (by simp))
 have h1p := h1; try simp only [DL] at h1p
 refine ZAM <| ZAA <| ZAG <| g_defer S rfl rfl rfl (ZAd rfl S rfl rfl) rfl rfl rfl (fun a S => ZAA ?_)
 refine gsr <| q_mv S rfl fun a S => q_mv S rfl fun a S => gq rfl S (y_lenstr rfl underlying9 S rfl) fun a S => gq rfl S (ZAx rfl Fbld166 S rfl (idx := [0, 2]) rfl (cs := [tv, .int .i64 0, .int .i64 147]) (by obtain ⟨pv, cv, e⟩ := (H.sl tv (xs := TK)).shape; rw [e]; kernel_rfl)) fun a S => ?_
 refine ZAF (ZAu (wn rfl) rfl rfl rfl S H rfl fun b23 a w S H => ?_)
 obtain ⟨c, rfl⟩ : ∃ c, c = b23 := ⟨_, rfl⟩
 refine q_as S rfl fun a S => gnt ?_
 have S := S.sel [6, 4, 3, 2] rfl
 refine gsr <| q_mv S rfl fun a S => q_cl S rfl call87 (ZBN c tv 0 1 _ _ (tkl (by decide)) rfl (by kernel_rfl) (H.front2 (PaC c tv (0)) (Sl tv 4 TokV.enc TK))) fun v w hc a S => ?_
 have H := hc
 try simp only [List.cons_append, List.nil_append] at H
 refine gnt <| gsr <| q_mv S rfl fun a S => q_cl S rfl call88 (take_spec c tv 1 2 1 _ (tkl (by decide)) rfl (by kernel_rfl) (H.front2 (PaC c tv (1)) (Sl tv 4 TokV.enc TK))) fun v w hc a S => ?_
 obtain ⟨rfl, H⟩ := hc
 try simp only [List.cons_append, List.nil_append] at H
 refine gq rfl S ((y_fieldX rfl S rfl (tok_field1 _ _))) fun a S => ?_
 rw [tkT1] at S
 refine q_fa S Ffo26_0 rfl fun a S => q_st S H rfl rfl Fsiz9 rfl fun a w S H => ?_
 dsimp only [List.set, Nat.zero_add, Nat.reduceAdd] at H
 refine gnt ?_
 have S := S.sel [6, 4, 3, 2] rfl
 refine gsr <| q_mv S rfl fun a S => q_cl S rfl call87 (ZBN c tv 2 3 _ _ (tkl (by decide)) rfl (by kernel_rfl) (H.front2 (PaC c tv (2)) (Sl tv 4 TokV.enc TK))) fun v w hc a S => ?_
 have H := hc
 try simp only [List.cons_append, List.nil_append] at H
 refine gnt <| gsr <| q_mv S rfl fun a S => q_fa S Ffo26_1 rfl fun a S => q_fa S ZBx rfl fun a S => q_fa S Ffo26_1 rfl fun a S => q_fa S ZBy rfl fun a S => ZAF (ZAP (wn rfl) rfl rfl rfl underlying194 Finf172 S H (idx := [0, 1]) rfl rfl rfl (z := [.pointer none, .pointer none]) (by kernel_rfl) (cs := [_, _]) rfl fun b37 a w S H => ?_)
 have H := H.celO (ptrs b2 1 2) encPt 1 (m := 2) rfl (by simp [encPt]) (ptrs_len _ _ _) (by omega)
 have H := H.pick (tgt := [PaC c tv (3), Sl tv 4 TokV.enc TK, Cel b2 26 [.string ⟨#[104]⟩, .int .i64 0, .int .i64 0, .slice none 0 0], OSl 172 (.slice (some ⟨b37, 0, none⟩) 2 2) 1 encPt (ptrs b2 1 2)])
 simp only [List.cons_append, List.nil_append] at H
 refine q_cl S rfl call89 (pnums_spec c tv 3 5 2 b2 1 26 [.string ⟨#[104]⟩, .int .i64 0, .int .i64 0, .slice none 0 0] _ _ (by rw [TK_len]; decide) rfl (numK (by kernel_rfl)) (by decide) H) fun v w hc a S => ?_
 have H := hc
 rw [show numW [.string ⟨#[104]⟩, .int .i64 0, .int .i64 0, .slice none 0 0] 1 3 2 = [.string ⟨#[104]⟩, .int .i64 0, .int .i64 0, .slice none 0 0] from by kernel_rfl] at H
 refine gnt ?_
 have S := S.sel [6, 4, 3, 2] rfl
 refine gsr <| q_mv S rfl fun a S => q_cl S rfl call87 (ZBN c tv 5 6 _ _ (tkl (by decide)) rfl (by kernel_rfl) (H.front2 (PaC c tv (5)) (Sl tv 4 TokV.enc TK))) fun v w hc a S => ?_
 have H := hc
 try simp only [List.cons_append, List.nil_append] at H
 refine gnt <| ZAG <| ZAD ?_
 have H := H.nilO 79 8 LevV.enc
 have SU := S.sel [6, 4, 3, 2] rfl
 refine ZBL (X := Nat) SU (fun k => []) (fun k w => k ≤ 1 ∧ phallW w0 c b2 b3 b4 tv w k) (fun k => 1 - k) 0 (S.nil) (⟨by decide, (show HSat No w0 [PaC c tv (6), Sl tv 4 TokV.enc TK, Cel b2 26 [.string ⟨#[104]⟩, .int .i64 0, .int .i64 0, .slice none 0 0], OSl 79 (.slice none 0 0) 8 LevV.enc [], Cel b4 3 [.int .i64 0], Cel b3 42 [.int .i64 0]] _ from H.take [PaC c tv (6), Sl tv 4 TokV.enc TK, Cel b2 26 [.string ⟨#[104]⟩, .int .i64 0, .int .i64 0, .slice none 0 0], OSl 79 (.slice none 0 0) 8 LevV.enc [], Cel b4 3 [.int .i64 0], Cel b3 42 [.int .i64 0]])⟩) (fun k a w S hW => ?_)
 simp only [List.cons_append, List.nil_append] at S
 refine ZAG <| ZAG ?_
 obtain ⟨hk1, hW2⟩ := hW
 rcases (show k = 0 ∨ k = 1 by omega) with rfl | rfl
 ·have H : HSat No w0 [PaC c tv (6), Sl tv 4 TokV.enc TK, Cel b2 26 [.string ⟨#[104]⟩, .int .i64 0, .int .i64 0, .slice none 0 0], OSl 79 (.slice none 0 0) 8 LevV.enc [], Cel b4 3 [.int .i64 0], Cel b3 42 [.int .i64 0]] _ := hW2
  refine ZAB <| q_mv S rfl fun a S => q_cl S rfl call90 (isN_spec c tv 6 _ _ (tkl (by decide)) (by kernel_rfl) (H.front2 (PaC c tv (6)) (Sl tv 4 TokV.enc TK))) fun v w hc a S => ?_
  obtain ⟨rfl, H⟩ := hc
  refine gq rfl S (ZBV rfl S rfl) fun a S => gnt <| c_if S rfl (fun h2 => ?_) (fun h2 => ?_)
  ·have h2p := h2; try simp only [DL] at h2p
   refine ZAM <| ZAA <| ZAD <| cutQ (fun a w => ∃ lv bv rv av iv dv, St ⟨64, [{ target := .fn (.func 86) #[.pointer (some ⟨b2, 0, none⟩), .pointer (some ⟨b3, 0, none⟩), .pointer (some ⟨b4, 0, none⟩)], args := #[] }]⟩ [(2, .pointer (some ⟨b2, 0, none⟩)), (3, .pointer (some ⟨b3, 0, none⟩)), (4, .pointer (some ⟨b4, 0, none⟩)), (6, .pointer (some ⟨c, 0, none⟩))] a ∧ HSat No w0 [PaC c tv (47), Sl tv 4 TokV.enc TK, Cel b2 26 [.string ⟨#[104]⟩, .int .i64 0, .int .i64 0, lv], OSl 79 lv 8 LevV.enc [levK bv rv av iv dv], Cel b4 3 [.int .i64 0], Cel b3 42 [.int .i64 0], OSl 73 bv 3 BlockV.enc [blkK rv], OSl 70 rv 8 RowV.enc [rowK], OSl 92 av 7 AreaV.enc [areaK], OSl 90 iv 4 BoxV.enc [boxK1], OSl 23 dv 2 PtV.enc [⟨10, 0⟩]] w) ?_ ?_
   ·skip
    refine t_st (tails := [3, 5, 7]) [] Fmo H <| t_p 0 rfl (by kernel_rfl) (rem' := [1, 2, 3, 4, 5, 6, 7]) rfl rfl rfl rfl S (fun w => ZAC rfl ZBi S rfl) fun a S => ?_
    refine t_q 2 rfl (by kernel_rfl) (rem' := [1, 3, 4, 5, 6, 7]) rfl rfl rfl rfl S (fun w H => ZAL rfl S rfl) fun a S => ?_
    refine t_b [1, 3] (by kernel_rfl) rfl (fa2 ?_ ?_)
    ·refine ⟨_, rfl, fun w H => ?_⟩
     refine op_y (wn rfl) rfl rfl S (ZAJ rfl Fsca24 S H rfl rfl) fun a S => t_n H (rem' := [3, 4, 5, 6, 7]) rfl <| t_b1 3 (by kernel_rfl) rfl fun w H => ?_
     refine ZAV (wn rfl) rfl rfl S (ZAi rfl call91 S rfl) (plevel_spec c tv _ (H.front2 (PaC c tv (6)) (Sl tv 4 TokV.enc TK))) fun v w hc a S => ?_
     obtain ⟨bv, rv, av, iv, dv, rfl, H⟩ := hc
     refine ZAY H rfl (rem' := [4, 5, 6, 7]) rfl <| t_b1 4 (by kernel_rfl) rfl fun w H => ?_
     refine ZAP (wn rfl) rfl rfl rfl underlying24 Finf79 S H (idx := [0]) rfl rfl rfl (z := [.string ⟨#[]⟩, .int .i64 0, .slice none 0 0, .slice none 0 0, .slice none 0 0, .slice none 0 0, .slice none 0 0, .int .i64 0]) (by kernel_rfl) (cs := [.string ⟨#[108, 111, 119]⟩, .int .i64 0, bv, av, iv, .slice none 0 0, dv, .int .i64 19]) (by kernel_rfl) fun b48 a w S H => ?_
     refine t_n H (rem' := [5, 6, 7]) rfl <| t_b1 5 (by kernel_rfl) rfl fun w H => ?_
     refine ZAr ([levK bv rv av iv dv]) (wn rfl) rfl rfl rfl underlying24 Finf79 rfl rfl S H rfl rfl rfl rfl (by simp) (by simp [LevV.enc]) (by simp only [List.mem_singleton, forall_eq, LevV.enc, levK, List.mem_cons, List.not_mem_nil, or_false, forall_eq_or_imp]; exact ⟨rfl, rfl, H.sl1 bv, H.sl1 av, H.sl1 iv, rfl, H.sl1 dv, rfl⟩) (by simp only [List.length_cons, List.length_nil]; omega) (by simp only [List.length_cons, List.length_nil]; omega) fun u49 a w hn49 S H => ?_
     refine ZAY H rfl (rem' := [6, 7]) rfl <| t_q 6 rfl (by kernel_rfl) (rem' := [7]) rfl rfl rfl rfl S (fun w H => ZAC rfl ZBi S rfl) fun a S => ?_
     refine t_b1 7 (by kernel_rfl) rfl fun w H => ?_
     refine ZAS (wn rfl) rfl rfl S H rfl rfl (H.sl1 _) Fsiz24 rfl fun a w S H => ?_
     dsimp only [List.set, Nat.zero_add, Nat.reduceAdd] at H
     refine ZAY H rfl (rem' := []) rfl <| ZBZ (fun w H => ?_)
     rw [List.nil_append] at H
     exact ⟨u49, bv, rv, av, iv, dv, S.sel [2, 3, 4, 6] rfl, H.take _⟩
    refine ⟨_, rfl, fun w H => ?_⟩
    refine ZAV (wn rfl) rfl rfl S (ZAi rfl call91 S rfl) (plevel_spec c tv _ (H.front2 (PaC c tv (6)) (Sl tv 4 TokV.enc TK))) fun v w hc a S => ?_
    obtain ⟨bv, rv, av, iv, dv, rfl, H⟩ := hc
    refine ZAY H rfl (rem' := [1, 4, 5, 6, 7]) rfl <| t_q 1 rfl (by kernel_rfl) (rem' := [4, 5, 6, 7]) rfl rfl rfl rfl S (fun w H => ZAJ rfl Fsca24 S H rfl rfl) fun a S => ?_
    refine t_b1 4 (by kernel_rfl) rfl fun w H => ?_
    refine ZAP (wn rfl) rfl rfl rfl underlying24 Finf79 S H (idx := [0]) rfl rfl rfl (z := [.string ⟨#[]⟩, .int .i64 0, .slice none 0 0, .slice none 0 0, .slice none 0 0, .slice none 0 0, .slice none 0 0, .int .i64 0]) (by kernel_rfl) (cs := [.string ⟨#[108, 111, 119]⟩, .int .i64 0, bv, av, iv, .slice none 0 0, dv, .int .i64 19]) (by kernel_rfl) fun b48 a w S H => ?_
    refine t_n H (rem' := [5, 6, 7]) rfl <| t_b1 5 (by kernel_rfl) rfl fun w H => ?_
    refine ZAr ([levK bv rv av iv dv]) (wn rfl) rfl rfl rfl underlying24 Finf79 rfl rfl S H rfl rfl rfl rfl (by simp) (by simp [LevV.enc]) (by simp only [List.mem_singleton, forall_eq, LevV.enc, levK, List.mem_cons, List.not_mem_nil, or_false, forall_eq_or_imp]; exact ⟨rfl, rfl, H.sl1 bv, H.sl1 av, H.sl1 iv, rfl, H.sl1 dv, rfl⟩) (by simp only [List.length_cons, List.length_nil]; omega) (by simp only [List.length_cons, List.length_nil]; omega) fun u49 a w hn49 S H => ?_
    refine ZAY H rfl (rem' := [6, 7]) rfl <| t_q 6 rfl (by kernel_rfl) (rem' := [7]) rfl rfl rfl rfl S (fun w H => ZAC rfl ZBi S rfl) fun a S => ?_
    refine t_b1 7 (by kernel_rfl) rfl fun w H => ?_
    refine ZAS (wn rfl) rfl rfl S H rfl rfl (H.sl1 _) Fsiz24 rfl fun a w S H => ?_
    dsimp only [List.set, Nat.zero_add, Nat.reduceAdd] at H
    refine ZAY H rfl (rem' := []) rfl <| ZBZ (fun w H => ?_)
    rw [List.nil_append] at H
    exact ⟨u49, bv, rv, av, iv, dv, S.sel [2, 3, 4, 6] rfl, H.take _⟩
   rintro a w ⟨lv, bv, rv, av, iv, dv, S, H⟩
   exact ZAK <| ZAA <| ⟨1, S.nil, S.sel [6, 4, 3, 2] rfl, ⟨by decide, (show ∃ lv bv rv av iv dv, HSat No w0 [PaC c tv (47), Sl tv 4 TokV.enc TK, Cel b2 26 [.string ⟨#[104]⟩, .int .i64 0, .int .i64 0, lv], OSl 79 lv 8 LevV.enc [levK bv rv av iv dv], Cel b4 3 [.int .i64 0], Cel b3 42 [.int .i64 0], OSl 73 bv 3 BlockV.enc [blkK rv], OSl 70 rv 8 RowV.enc [rowK], OSl 92 av 7 AreaV.enc [areaK], OSl 90 iv 4 BoxV.enc [boxK1], OSl 23 dv 2 PtV.enc [⟨10, 0⟩]] _ from ⟨lv, bv, rv, av, iv, dv, H⟩)⟩, by decide⟩
  all_goals (
    exact absurd h2 (by simp))
 have hW2 : ∃ lv bv rv av iv dv, HSat No w0 [PaC c tv (47), Sl tv 4 TokV.enc TK, Cel b2 26 [.string ⟨#[104]⟩, .int .i64 0, .int .i64 0, lv], OSl 79 lv 8 LevV.enc [levK bv rv av iv dv], Cel b4 3 [.int .i64 0], Cel b3 42 [.int .i64 0], OSl 73 bv 3 BlockV.enc [blkK rv], OSl 70 rv 8 RowV.enc [rowK], OSl 92 av 7 AreaV.enc [areaK], OSl 90 iv 4 BoxV.enc [boxK1], OSl 23 dv 2 PtV.enc [⟨10, 0⟩]] _ := hW2
 obtain ⟨lv, bv, rv, av, iv, dv, H⟩ := hW2
 refine ZAB <| q_mv S rfl fun a S => q_cl S rfl call90 (isY_spec c tv 47 48 _ _ (tkl (by decide)) rfl (by kernel_rfl) (H.front2 (PaC c tv (47)) (Sl tv 4 TokV.enc TK))) fun v w hc a S => ?_
 obtain ⟨rfl, H⟩ := hc
 refine gq rfl S (ZBV rfl S rfl) fun a S => gnt <| c_if S rfl (fun h3 => ?_) (fun h3 => ?_)
 ·have h3p := h3; try simp only [DL] at h3p
  all_goals (
    exact absurd h3 (by simp))
 refine ZAf <| ZAO (ZAO (x_eq ?_))
 refine ZAA <| ZAG <| ZAG <| ZAZ (loud := []) (tails := []) (free := []) [0, 1, 2, 3, 4, 5, 6, 7, 8, 9] [] Fmo (by kernel_rfl) (by kernel_rfl) rfl H ?_
 refine m_q rfl S (fun w H => ZAL rfl S rfl) fun a S => m_q rfl S (fun w H => ZAR rfl S rfl) fun a S => m_q rfl S (fun w H => ZAC rfl ZA4 S rfl) fun a S => m_q rfl S (fun w H => ZAJ rfl ZAN S H rfl rfl) fun a S => m_q rfl S (fun w H => ZAL rfl S rfl) fun a S => m_q rfl S (fun w H => ZAR rfl S rfl) fun a S => m_q rfl S (fun w H => ZAC rfl ZBz S rfl) fun a S => m_q rfl S (fun w H => ZAJ rfl ZBw S H rfl rfl) fun a S => ?_
 refine m_q rfl S (fun w H => ZAT rfl underlying159 S H rfl) fun a S => m_q rfl S (fun w H => ZAn rfl S rfl rfl rfl) fun a S => ZBY (fun w H => ZAA ?_)
 have S := S.sel [60, 6, 4, 3, 2] rfl
 refine c_if S rfl (fun h4 => ?_) (fun h4 => ?_)
 ·have h4p := h4; try simp only [DL] at h4p
  all_goals (
    exact absurd h4 (by simp [TK_len]))
 refine ZAM <| ZAA <| gsr <| gq rfl S (ZAb rfl S H rfl (by exact Fagg26)) fun a S => ?_
 refine ZAF (ZAQ (wn rfl) rfl rfl S H rfl rfl (by simp only [List.all_cons, List.all_nil, H.sl1 lv]; rfl) Fsiz26 rfl (cs' := [_, _, _, _]) rfl fun a w S H => ?_)
 refine q_st S H rfl rfl Fsiz42 rfl fun a w S H => ?_
 dsimp only [List.set, Nat.zero_add, Nat.reduceAdd] at H
 refine q_st S H rfl rfl ZA5 rfl fun a w S H => ?_
 dsimp only [List.set, Nat.zero_add, Nat.reduceAdd] at H
 refine gnt <| ZAe <| ret3D rfl S H call86 (fun w => recov_calm _ _ _ w) rfl rfl rfl (by exact Fagg26) Fsca42 ZAN rfl rfl ?_
 exact ⟨lv, bv, rv, av, iv, dv, rfl, H.take _⟩
end
section
theorem HSat.call6 {M : Nat → Prop} {w0 w w' : World} {l : List Atom} {x1 x2 x3 x4 x5 x6 : Atom} (H : HSat M w0 l w) (H' : HSat No w [x1, x2, x3, x4, x5, x6] w') (h1 : x1.own = true := by rfl) (h2 : x2.own = true := by rfl) (h3 : x3.own = true := by rfl) (h4 : x4.own = true := by rfl) (h5 : x5.own = true := by rfl) (h6 : x6.own = true := by rfl) : HSat M w0 (x1 :: x2 :: x3 :: x4 :: x5 :: x6 :: l) w' :=
  H.call H' (by intro q hq; simp only [List.mem_cons, List.not_mem_nil, or_false] at hq; rcases hq with rfl | rfl | rfl | rfl | rfl | rfl <;> assumption)
def rowT (t : Int) : RowV := ⟨⟨#[114]⟩, 20, 5, 1, t, 2, .slice none 0 0, [], 79⟩
def blkT (t : Int) (rv : Value) : BlockV := ⟨⟨#[98]⟩, rv, [rowT t], 69⟩
def levT (t : Int) (bv rv av iv dv : Value) : LevV := ⟨⟨#[108, 111, 119]⟩, 0, bv, [blkT t rv], av, [areaK], iv, [boxK1], .slice none 0 0, [], dv, [⟨10, 0⟩], 19⟩
def hallT (t : Int) (lv bv rv av iv dv : Value) : HallV := ⟨⟨#[104]⟩, ⟨0, 0⟩, lv, [levT t bv rv av iv dv]⟩
section
variable {t : Int} {lv bv rv av iv dv : Value}
theorem hallT_B : HallB (hallT t lv bv rv av iv dv) := by
  refine ⟨by (first | decide | exact of_decide_eq_true (by kernel_rfl) | kernel_rfl), ?_, ?_, ?_, by show (1 + (1 + 1 + 0) + 1 + 0 : Nat) ≤ 1048576; decide, ?_⟩
  all_goals intro l hl; obtain rfl := List.mem_singleton.1 hl
  · exact ⟨by (first | decide | exact of_decide_eq_true (by kernel_rfl) | kernel_rfl), by (first | decide | exact of_decide_eq_true (by kernel_rfl) | kernel_rfl), by (first | decide | exact of_decide_eq_true (by kernel_rfl) | kernel_rfl), by (first | decide | exact of_decide_eq_true (by kernel_rfl) | kernel_rfl), by (first | decide | exact of_decide_eq_true (by kernel_rfl) | kernel_rfl)⟩
  · intro b hb; obtain rfl := List.mem_singleton.1 hb; (first | decide | exact of_decide_eq_true (by kernel_rfl) | kernel_rfl)
  · intro b hb r hr; obtain rfl := List.mem_singleton.1 hb; obtain rfl := List.mem_singleton.1 hr; (first | decide | exact of_decide_eq_true (by kernel_rfl) | kernel_rfl)
  intro b hb r hr; obtain rfl := List.mem_singleton.1 hb; obtain rfl := List.mem_singleton.1 hr; show (-9223372036854775808 : Int) ≤ 2 ∧ (2 : Int) ≤ 9223372036854775807 ∧ (-9223372036854775808 : Int) ≤ 20 ∧ (20 : Int) ≤ 9223372036854775807; (first | decide | exact of_decide_eq_true (by kernel_rfl) | kernel_rfl)
theorem rowT_rng (ht : t = 2 ∨ t = 3) : RangeR (rowT t) := by
  refine ⟨?_, ?_, fun _ => ?_, ?_, ?_⟩ <;> simp only [rowT] <;> first | omega | (rcases ht with rfl | rfl <;> simp)
theorem door_open {rs : List Bool} {L : LevV} (h : DoorOK L rs) (h1 : L.aisles = [boxK1]) (h2 : L.doors = [⟨10, 0⟩]) {p : BoxV → Bool} (hp : p boxK1 = true) : openB rs L.aisles p L.aisles.length = true := by
  obtain ⟨e1, e2⟩ := h
  have hk : 0 < L.aisles.length := by rw [h1]; exact Nat.zero_lt_one
  have hb : L.aisles[0] = boxK1 := by simp only [h1]; rfl
  have e3 := e2 0 hk (by rw [h2, hb]; decide)
  exact openB_yes hk e3 (by rw [hb]; exact hp)
theorem hallT_good (ht : t = 2 ∨ t = 3) : GoodH (hallT t lv bv rv av iv dv) := by
  refine ⟨fun n hn => ?_, by (first | decide | exact of_decide_eq_true (by kernel_rfl) | kernel_rfl), ?_, fun L hL => ?_⟩
  · have hn0 : n = 0 := by have : n < 1 := hn; omega
    subst hn0
    refine ⟨⟨fun j hj h => by omega, ?_, by (first | decide | exact of_decide_eq_true (by kernel_rfl) | kernel_rfl), by (first | decide | exact of_decide_eq_true (by kernel_rfl) | kernel_rfl), by (first | decide | exact of_decide_eq_true (by kernel_rfl) | kernel_rfl)⟩, fun i hi => ?_, fun i hi => ?_⟩
    · exact ⟨by (first | decide | exact of_decide_eq_true (by kernel_rfl) | kernel_rfl), by (first | decide | exact of_decide_eq_true (by kernel_rfl) | kernel_rfl), by (first | decide | exact of_decide_eq_true (by kernel_rfl) | kernel_rfl), by (first | decide | exact of_decide_eq_true (by kernel_rfl) | kernel_rfl), by (first | decide | exact of_decide_eq_true (by kernel_rfl) | kernel_rfl)⟩
    · have hi0 : i = 0 := by have : i < 1 := hi; omega
      subst hi0
      refine ⟨⟨fun j hj h => by omega, by (first | decide | exact of_decide_eq_true (by kernel_rfl) | kernel_rfl)⟩, fun k hk => ?_⟩
      have hk0 : k = 0 := by have : k < 1 := hk; omega
      subst hk0
      exact ⟨fun j hj h => by omega, rowT_rng ht, rfl⟩
    have hi0 : i = 0 := by have : i < 1 := hi; omega
    subst hi0
    refine ⟨fun b hb => ?_, fun j hj h => by omega, by (first | decide | exact of_decide_eq_true (by kernel_rfl) | kernel_rfl), by (first | decide | exact of_decide_eq_true (by kernel_rfl) | kernel_rfl)⟩
    obtain rfl := List.mem_singleton.1 hb
    (first | decide | exact of_decide_eq_true (by kernel_rfl) | kernel_rfl)
  · rcases ht with rfl | rfl <;> exact of_decide_eq_true (by kernel_rfl)
  obtain rfl := List.mem_singleton.1 hL
  refine ⟨by (first | decide | exact of_decide_eq_true (by kernel_rfl) | kernel_rfl), ?_, ?_, by (first | decide | exact of_decide_eq_true (by kernel_rfl) | kernel_rfl), ?_, ?_⟩
  · intro B hB r hr
    obtain rfl := List.mem_singleton.1 hB; obtain rfl := List.mem_singleton.1 hr
    rcases ht with rfl | rfl <;> kernel_rfl
  · intro B hB r hr rs hd
    obtain rfl := List.mem_singleton.1 hB; obtain rfl := List.mem_singleton.1 hr
    exact door_open hd rfl rfl (by rcases ht with rfl | rfl <;> kernel_rfl)
  · intro A hA B hB r hr
    obtain rfl := List.mem_singleton.1 hA; obtain rfl := List.mem_singleton.1 hB; obtain rfl := List.mem_singleton.1 hr
    rcases ht with rfl | rfl <;> kernel_rfl
  intro A hA rs hd
  obtain rfl := List.mem_singleton.1 hA
  exact door_open hd rfl rfl (by kernel_rfl)
def PL5 : List Pl := [⟨0, 0, 0, 0, 1, 20, 5, 0, -1⟩, ⟨0, 0, 0, 0, 2, 22, 5, 0, -1⟩, ⟨0, 0, 0, 0, 3, 24, 5, 0, -1⟩, ⟨3, 0, 1, -1, 1, 23, 22, 0, -1⟩, ⟨3, 0, 1, -1, 2, 23, 22, 0, -1⟩]
def PL4 : List Pl := [⟨0, 0, 0, 0, 1, 20, 5, 0, -1⟩, ⟨0, 0, 0, 0, 2, 22, 5, 0, -1⟩, ⟨3, 0, 1, -1, 1, 23, 22, 0, -1⟩, ⟨3, 0, 1, -1, 2, 23, 22, 0, -1⟩]
theorem places3 : placesR (hallT 3 lv bv rv av iv dv) = PL5 := by kernel_rfl
theorem places2 : placesR (hallT 2 lv bv rv av iv dv) = PL4 := by kernel_rfl
theorem hallT_ok {w : World} (h1 : IsSl w lv 8 LevV.enc [levT t bv rv av iv dv]) (h2 : IsSl w bv 3 BlockV.enc [blkT t rv]) (h3 : IsSl w rv 8 RowV.enc [rowT t]) (h4 : IsOSl w 92 av 7 AreaV.enc [areaK]) (h5 : IsSl w iv 4 BoxV.enc [boxK1]) (h6 : IsSl w dv 2 PtV.enc [⟨10, 0⟩]) : (ZAU (hallT t lv bv rv av iv dv)).ok w := by
  intro x hx
  simp only [ZBI, hallT, levA, levT, blockA, blkT, rowA, rowT, List.flatMap_cons, List.flatMap_nil, List.append_nil, List.mem_cons, List.mem_append, List.not_mem_nil, or_false] at hx
  rcases hx with rfl | rfl | rfl | rfl | rfl | rfl | rfl | rfl | rfl
  · exact h1
  · exact h2
  · exact h4.sl
  · exact h5
  · exact IsSl.nil _ _ _
  · exact h6
  · exact h4.cap
  · exact h3
  exact IsSl.nil _ _ _
end
theorem whall_spec (w0 : World) :
    Ret Tryz.prog 15 #[] w0 (fun u w => ∃ lv bv rv av iv dv, u = .agg (HallV.enc (hallK lv bv rv av iv dv)).toArray ∧ HSat No w0 [OSl 79 lv 8 LevV.enc [levK bv rv av iv dv], OSl 73 bv 3 BlockV.enc [blkK rv], OSl 70 rv 8 RowV.enc [rowK], OSl 92 av 7 AreaV.enc [areaK], OSl 90 iv 4 BoxV.enc [boxK1], OSl 23 dv 2 PtV.enc [⟨10, 0⟩]] w) := by
 refine ZAE (nt := 10) Tryz.func15 rfl rfl rfl (fl := []) rfl (fun a S => ?_)
 have H := HSat.start w0
 refine gsr <| q_al S H rfl Fzer26 fun b0 a w S H => gnt <| gsr <| q_cl S rfl call39 (parse_spec _) fun v w hc a S => ?_
 obtain ⟨lv, bv, rv, av, iv, dv, rfl, H1⟩ := hc
 have H := HSat.call6 H H1
 rw [show HallV.enc (hallK lv bv rv av iv dv) = [.string ⟨#[104]⟩, .int .i64 0, .int .i64 0, lv] from rfl] at S
 refine q_mv S rfl fun a S => ?_
 refine gq rfl S (ZAa rfl S rfl rfl) fun a S => ?_
 refine gq rfl S (ZAa rfl S rfl rfl) fun a S => ?_
 refine gq rfl S (ZAa rfl S rfl rfl) fun a S => ?_
 refine q_al S H rfl Fzer26 fun b1 a w S H => ?_
 refine ZAF (ZAQ (wn rfl) rfl rfl S H rfl rfl (by simp only [List.all_cons, List.all_nil, H.sl1 lv]; rfl) Fsiz26 rfl (cs' := [_, _, _, _]) rfl fun a w S H => ?_)
 refine q_as S rfl fun a S => q_as S rfl fun a S => gnt ?_
 have S := S.sel [1, 0] rfl
 refine gsr <| gq rfl S (ZAb rfl S H rfl (by exact Fagg26)) fun a S => ?_
 refine ZAF (ZAQ (wn rfl) rfl rfl S H rfl rfl (by simp only [List.all_cons, List.all_nil, H.sl1 lv]; rfl) Fsiz26 rfl (cs' := [_, _, _, _]) rfl fun a w S H => ?_)
 refine gnt <| ZAe <| retc rfl S H rfl (by exact Fagg26) ?_
 exact ⟨lv, bv, rv, av, iv, dv, rfl, H.take _⟩
end
def smallB (h : HallV) : Bool := decide (h.levels.length ≤ 3) && h.levels.all fun l => decide (l.blocks.length + l.areas.length ≤ 6)
def encC16 (c : Nat) : List Value := [.int .u16 (c : Int)]
def owZ (s p : Int) : Ow := ⟨s, 0, p, .string ⟨#[]⟩, .slice none 0 0, .string ⟨#[]⟩, .slice none 0 0, 0, .slice none 0 0, 0, .slice none 0 0⟩
theorem owZ_ok (s p : Int) : (owZ s p).ok := ⟨rfl, rfl, rfl, rfl, rfl, rfl⟩
def ZB2 (pl : Nat) (cs : List Nat) : Nat → List Ow
  | 0 => []
  | k + 1 => if (ZB2 pl cs k).length < 30 then (if ((cs.getD k 0 % pl : Nat) : Int) ∈ (ZB2 pl cs k).map Ow.place then ZB2 pl cs k else ZB2 pl cs k ++ [owZ (10001 + (k : Int)) ((cs.getD k 0 % pl : Nat) : Int)]) else ZB2 pl cs k
def soldR (pl : Nat) (cs : List Nat) : List Ow := if pl = 0 then [] else ZB2 pl cs cs.length
theorem soldN_len (pl : Nat) (cs : List Nat) : ∀ k, (ZB2 pl cs k).length ≤ 30 ∧ (ZB2 pl cs k).length ≤ k
  | 0 => by simp [ZB2]
  | k + 1 => by
    have ih := soldN_len pl cs k
    unfold ZB2
    split
    · split
      · omega
      rw [List.length_append, List.length_cons, List.length_nil]; omega
    omega
theorem soldN_s (pl : Nat) (cs : List Nat) (k : Nat) : ZB2 pl cs (k + 1) = if (ZB2 pl cs k).length < 30 then (if ((cs.getD k 0 % pl : Nat) : Int) ∈ (ZB2 pl cs k).map Ow.place then ZB2 pl cs k else ZB2 pl cs k ++ [owZ (10001 + (k : Int)) ((cs.getD k 0 % pl : Nat) : Int)]) else ZB2 pl cs k := rfl
theorem soldN_full (pl : Nat) (cs : List Nat) {k : Nat} (h : ¬ (ZB2 pl cs k).length < 30) : ∀ d, ZB2 pl cs (k + d) = ZB2 pl cs k
  | 0 => rfl
  | d + 1 => by
    show ZB2 pl cs (k + d + 1) = _
    rw [soldN_s, soldN_full pl cs h d, if_neg h]
def usedM (o : List Ow) : Int → Option Bool := fun n => if n ∈ o.map Ow.place then some true else none
theorem usedM_new (o : List Ow) (s n : Int) : upd (usedM o) n true = usedM (o ++ [owZ s n]) := by
  funext x
  unfold upd usedM
  rw [List.map_append, List.map_cons, List.map_nil]
  by_cases h : x = n
  · subst h
    rw [if_pos rfl, if_pos (List.mem_append_right _ (List.mem_singleton.2 (show x = (owZ s x).place from rfl)))]
  rw [if_neg h]
  have e : (x ∈ o.map Ow.place ++ [(owZ s n).place]) ↔ x ∈ o.map Ow.place := by
    rw [List.mem_append, List.mem_singleton]
    exact ⟨fun hx => hx.elim id fun hx => absurd hx h, .inl⟩
  simp only [e]
theorem usedM_get (o : List Ow) (n : Int) : (usedM o n).getD false = decide (n ∈ o.map Ow.place) := by
  unfold usedM
  by_cases h : n ∈ o.map Ow.place
  · rw [if_pos h, decide_eq_true h]; rfl
  rw [if_neg h, decide_eq_false h]; rfl
theorem small_spec (h : HallV) (w0 : World) (hH : (ZAU h).ok w0) (hB : HallB h) :
    Ret Tryz.prog 6 #[.agg (HallV.enc h).toArray] w0 (fun u w => u = .bool (smallB h) ∧ Ext w0 w) := by
 refine ZAE (nt := 37) Tryz.func6 rfl rfl rfl (fl := [(0, .agg (HallV.enc h).toArray)]) rfl (fun a S => ?_)
 have H := HSat.start w0
 have H := H.ro0 (ZAU h) rfl (hH)
 have H := H.ro0 (Sl h.lv 8 LevV.enc h.levels) rfl (ZBE hH)
 have hlen := (ZBE hH).len
 refine gsr <| ZAF (ZAu (wn rfl) rfl rfl rfl S H rfl fun b1 a w S H => q_as S rfl fun a S => gnt ?_)
 refine ZAG <| gsr <| q_as S rfl fun a S => gnt <| ZAD ?_
 have SU := S.sel [1] rfl
 refine ZB4 (X := Nat) SU (fun k => [(3, .int .i64 (k : Int))]) (fun k => k ≤ h.levels.length ∧ ∀ j (hj : j < h.levels.length), j < k → h.levels[j].blocks.length + h.levels[j].areas.length ≤ 6) (fun k => h.levels.length - k) 0 (S.sel [3] rfl) H (⟨Nat.zero_le _, fun j hj h => by omega⟩) (fun k a w S H hi => ?_)
 simp only [List.cons_append, List.nil_append] at S hi
 obtain ⟨hk, hall⟩ := hi
 refine ZAG <| gsr <| q_mv S rfl fun a S => q_fa S ZBi rfl fun a S => q_ld S H Fsca24 rfl rfl fun a S => gq rfl S (ZAT rfl underlying24 S H rfl) fun a S => q_bn S rfl fun a S => q_mv S rfl fun a S => ?_
 refine' wl_and 4 9 rfl S H rfl rfl rfl rfl rfl rfl rfl (fun _ S => (wn rfl)) (fun h1 kk => ?yh1) (fun a w S H => ?_)
 case yh1 =>
  exact gz 9 h1 S rfl rfl rfl rfl rfl rfl (ZAC rfl ZBi S rfl) fun a S => gz 9 h1 S rfl rfl rfl rfl rfl rfl (ZAJ rfl Fsca24 S H rfl rfl) fun a S => gz 9 h1 S rfl rfl rfl rfl rfl rfl (ZAT rfl underlying24 S H rfl) fun a S => gz 9 h1 S rfl rfl rfl rfl rfl rfl (ZAn rfl S rfl rfl rfl) fun a S => gq rfl S (ZBf rfl h1 S rfl rfl) fun a S => kk _ _ (S.join 5 14 rfl rfl) H
 refine gnt ?_
 have S := S.sel [14, 3, 1] rfl
 refine c_if S rfl (fun h2 => ?_) (fun h2 => ?_)
 ·have h2p := h2; try simp only [DL] at h2p
  have hk2 : k < h.levels.length := by omega
  obtain ⟨L, hL⟩ : ∃ L, L = h.levels[k] := ⟨_, rfl⟩
  have hLm : L ∈ h.levels := hL ▸ List.getElem_mem hk2
  have hLk : h.levels[k] = L := hL.symm
  have hLa := hall_lev hH hLm
  have hbb := hB.blocks L hLm
  have H := ZBP (ls := ZBI h) H (Sl L.bv 3 BlockV.enc L.blocks) (ZAs hLm (by simp [levA])) rfl
  have H := ZBP (ls := ZBI h) H (Sl L.av 7 AreaV.enc L.areas) (ZAs hLm (by simp [levA])) rfl
  refine ZAM <| ZAA <| ZAG <| ZAD <| ZAG <| ZAZ (loud := []) (tails := []) (free := []) [0, 1, 2, 3, 4, 5, 6, 7, 8, 9, 10, 11, 12, 13, 14, 15] [] Fmo (by kernel_rfl) (by kernel_rfl) rfl H ?_
  refine m_q rfl S (fun w H => ZAC rfl ZBi S rfl) fun a S => m_q rfl S (fun w H => ZAJ rfl Fsca24 S H rfl rfl) fun a S => m_q rfl S (fun w H => ZAL rfl S rfl) fun a S => m_q rfl S (fun w H => ZAI rfl underlying24 Fsiz79 S H rfl rfl (by omega)) fun a S => ?_
  refine m_q rfl S (fun w H => ZAq rfl Ffo79_2 S rfl) fun a S => ZA3 _ rfl rfl (wn rfl) rfl rfl S rfl Fsca74 rfl (by omega) rfl fun a S => ?_
  rw [hLk] at S
  refine m_q rfl S (fun w H => ZAT rfl underlying74 S H rfl) fun a S => m_q rfl S (fun w H => ZAC rfl ZBi S rfl) fun a S => m_q rfl S (fun w H => ZAJ rfl Fsca24 S H rfl rfl) fun a S => m_q rfl S (fun w H => ZAL rfl S rfl) fun a S => m_q rfl S (fun w H => ZAI rfl underlying24 Fsiz79 S H rfl rfl (by omega)) fun a S => ?_
  refine m_q rfl S (fun w H => ZAq rfl Ffo79_3 S rfl) fun a S => ZA3 _ rfl rfl (wn rfl) rfl rfl S rfl Fsca75 rfl (by omega) rfl fun a S => ?_
  rw [hLk] at S
  refine m_q rfl S (fun w H => ZAT rfl underlying75 S H rfl) fun a S => m_q rfl S (fun w H => y_add rfl S rfl rfl (by omega)) fun a S => ?_
  refine m_q rfl S (fun w H => ZAn rfl S rfl rfl rfl) fun a S => ZBY (fun w H => ZAA ?_)
  have S := S.sel [32, 3, 1] rfl
  refine c_if S rfl (fun h3 => ?_) (fun h3 => ?_)
  ·have h3p := h3; try simp only [DL] at h3p
   refine gsr <| q_as S rfl fun a S => gnt <| ZAe <| ZAm (ZAX (ZAX (ZAm (ZAX (ret1 rfl S rfl ?_)))))
   refine ⟨congrArg Value.bool ?_, H.toExt⟩
   symm
   unfold smallB
   rw [Bool.and_eq_false_iff]
   right
   rw [List.all_eq_false]
   exact ⟨_, List.getElem_mem hk2, by rw [hLk]; simp; omega⟩
  have h3p := h3; try simp only [DL] at h3p
  refine ZAM <| ZAK <| ZAA <| ZAB <| q_mv S rfl fun a S => q_ad S rfl (by omega) fun a S => ?_
  refine q_as S rfl fun a S => gnt <| ⟨k + 1, S.sel [3] rfl, S.sel [1] rfl, H.tail.tail, ?_, ?_⟩
  · exact ⟨by omega, fun j hj hjk => by by_cases h9 : j < k; exact hall j hj h9; (obtain rfl : j = k := by omega); rw [hLk]; omega⟩
  omega
 have h2p := h2; try simp only [DL] at h2p
 refine ZAf <| ZAO (ZAO (x_eq ?_))
 refine ZAA <| gsr <| q_fa S ZBi rfl fun a S => q_ld S H Fsca24 rfl rfl fun a S => gq rfl S (ZAT rfl underlying24 S H rfl) fun a S => q_bn S rfl fun a S => q_as S rfl fun a S => gnt ?_
 have S := S.sel [2] rfl
 refine ZAe <| ret1 rfl S rfl <| ⟨congrArg Value.bool ?_, H.toExt⟩
 unfold smallB
 by_cases h3 : h.levels.length ≤ 3
 · have hkl : k = h.levels.length := by omega
   rw [decide_eq_true h3, show (h.levels.all fun l => decide (l.blocks.length + l.areas.length ≤ 6)) = true from List.all_eq_true.2 fun l hl => by obtain ⟨j, hj, rfl⟩ := List.getElem_of_mem hl; exact decide_eq_true (hall j hj (by omega))]
   exact decide_eq_true (by omega)
 rw [decide_eq_false h3, Bool.false_and]; exact decide_eq_false (by omega)
theorem sold_spec (pl : Nat) (cv : Value) (cs : List Nat) (w0 : World) (hv : IsSl w0 cv 1 encC16 cs) (hc : ∀ c ∈ cs, c < 65536) (hpl : pl ≤ 1000000) (hcl : cs.length ≤ 1000000) :
    Ret Tryz.prog 8 #[.int .i64 (pl : Int), cv] w0 (fun u w => HSat No w0 [OSl 55 u 11 Ow.enc (soldR pl cs)] w) := by
 refine ZAE (nt := 47) Tryz.func8 rfl rfl rfl (fl := [(0, .int .i64 (pl : Int)), (1, cv)]) rfl (fun a S => ?_)
 have H := HSat.start w0
 have H := H.ro0 (Sl cv 1 encC16 cs) rfl (hv)
 have hlen := hv.len
 refine gsr <| q_as S rfl fun a S => gnt <| gsr <| q_as S rfl fun a S => gnt <| gsr <| ZAF (ZBK (fun n : Int => .int .i64 n) (fun b : Bool => .bool b) (wn rfl) rfl rfl rfl S H fun b9 a w S H => ?_)
 refine q_as S rfl fun a S => gnt <| ZAG <| gsr <| q_as S rfl fun a S => gnt <| ZAD ?_
 have H := H.nilO 55 11 Ow.enc
 have SU := S.sel [6, 4, 0, 1] rfl
 refine ZBL (X := Nat × Value) SU (fun x => [(5, x.2), (7, .int .i64 (x.1 : Int))]) (fun x w => x.1 ≤ cs.length ∧ (pl = 0 → x.1 = 0) ∧ ∃ c, HSat No w0 [OSl 55 x.2 11 Ow.enc (ZB2 pl cs x.1), MapA b9 (fun n : Int => Value.int .i64 n) (fun b : Bool => Value.bool b) (usedM (ZB2 pl cs x.1)) c, Sl cv 1 encC16 cs] w) (fun x => cs.length - x.1) (0, .slice none 0 0) (S.sel [5, 7] rfl) (⟨Nat.zero_le _, fun _ => rfl, 0, by have e : usedM (ZB2 pl cs 0) = fun _ => none := (by funext n; simp [usedM, ZB2]); rw [e]; exact H.take [OSl 55 (.slice none 0 0) 11 Ow.enc [], MapA b9 (fun n : Int => Value.int .i64 n) (fun b : Bool => Value.bool b) (fun _ => none) 0, Sl cv 1 encC16 cs]⟩) (fun x a w S hW => ?_)
 simp only [List.cons_append, List.nil_append] at S
 obtain ⟨k, v⟩ := x
 obtain ⟨hk, hp0, c, H⟩ := hW
 dsimp only at S H hk hp0
 have hsl := soldN_len pl cs k
 refine ZAG <| gsr <| q_mv S rfl fun a S => q_mv S rfl fun a S => gq rfl S (ZAT rfl underlying27 S H rfl) fun a S => q_bn S rfl fun a S => q_mv S rfl fun a S => ?_
 refine' wl_and 3 14 rfl S H rfl rfl rfl rfl rfl rfl rfl (fun _ S => (wn rfl)) (fun h1 kk => ?yh1) (fun a w S H => ?_)
 case yh1 =>
  exact gz 14 h1 S rfl rfl rfl rfl rfl rfl (ZAL rfl S rfl) fun a S => gz 14 h1 S rfl rfl rfl rfl rfl rfl (ZAT rfl underlying34 S H rfl) fun a S => gz 14 h1 S rfl rfl rfl rfl rfl rfl (ZAn rfl S rfl rfl rfl) fun a S => gq rfl S (ZBf rfl h1 S rfl rfl) fun a S => kk _ _ (S.join 4 18 rfl rfl) H
 refine q_mv S rfl fun a S => ?_
 refine' wl_and 2 19 rfl S H rfl rfl rfl rfl rfl rfl rfl (fun _ S => (wn rfl)) (fun h2 kk => ?yh2) (fun a w S H => ?_)
 case yh2 =>
  exact gz 19 h2 S rfl rfl rfl rfl rfl rfl (ZAL rfl S rfl) fun a S => gz 19 h2 S rfl rfl rfl rfl rfl rfl (ZAn rfl S rfl rfl rfl) fun a S => gq rfl S (ZBf rfl h2 S rfl rfl) fun a S => kk _ _ (S.join 3 22 rfl rfl) H
 refine gnt ?_
 have S := S.sel [22, 5, 7, 6, 4, 0, 1] rfl
 refine c_if S rfl (fun h3 => ?_) (fun h3 => ?_)
 ·have h3p := h3; try simp only [DL] at h3p
  have hkc : k < cs.length := by omega
  have hck := hc _ (List.getElem_mem hkc)
  have hgd : cs.getD k 0 = cs[k] := by rw [List.getD_eq_getElem?_getD, List.getElem?_eq_getElem hkc]; rfl
  have hl30 : (ZB2 pl cs k).length < 30 := by omega
  refine ZAM <| ZAA <| ZAG <| ZAD <| gsr <| q_mv S rfl fun a S => q_mv S rfl fun a S => gq rfl S (ZAI rfl underlying27 Fsiz80 S H rfl rfl (by omega)) fun a S => ?_
  refine gq rfl S (ZA6 _ rfl Fsca80 S H rfl (by omega) rfl) fun a S => ?_
  refine gq rfl S (y_convg (r := (cs[k] : Int)) rfl underlying80 underlying3 S rfl (by exact wrap_in (by omega) (by omega))) fun a S => ?_
  refine q_mv S rfl fun a S => gq rfl S (y_remn rfl S rfl rfl (by omega) (by omega)) fun a S => ?_
  refine q_as S rfl fun a S => gnt ?_
  have S := S.sel [8, 5, 7, 6, 4, 0, 1] rfl
  refine gsr <| q_mv S rfl fun a S => q_mv S rfl fun a S => gq rfl S (ZBT (((cs[k] % pl : Nat) : Int)) (false) rfl underlying60 ZBR S H rfl (ZAv underlying3) (by exact rfl) (by exact rfl) rfl) fun a S => ?_
  rw [usedM_get] at S
  refine gq rfl S (ZBV rfl S rfl) fun a S => gnt <| c_if S rfl (fun h4 => ?_) (fun h4 => ?_)
  ·have h4p := h4; try simp only [DL] at h4p
   have hnx : ZB2 pl cs (k + 1) = ZB2 pl cs k ++ [owZ (10001 + (k : Int)) ((cs[k] % pl : Nat) : Int)] := by
     have hno := h4
     rw [Bool.not_eq_true', decide_eq_false_iff_not] at hno
     show (if _ then _ else _) = _
     rw [if_pos hl30, hgd, if_neg hno]
   refine gsr <| q_mv S rfl fun a S => q_mv S rfl fun a S => ZAF (ZBA (((cs[k] % pl : Nat) : Int)) (true) (wn rfl) rfl rfl underlying60 S H rfl (ZAv underlying3) (by exact rfl) (by exact rfl) fun a w S H => ?_)
   refine gnt ?_
   have S := S.sel [8, 5, 7, 6, 4, 0, 1] rfl
   refine ZAB <| q_mv S rfl fun a S => q_mv S rfl fun a S => q_ad S rfl (by omega) fun a S => ?_
   refine q_mv S rfl fun a S => gq rfl S (ZAx rfl Fbld49 S rfl (idx := [0, 2]) rfl (cs := [.int .i64 (10001 + (k : Int)), .int .i64 0, .int .i64 ((cs[k] % pl : Nat) : Int), .string ⟨#[]⟩, .slice none 0 0]) (by kernel_rfl)) fun a S => ?_
   refine gq rfl S (ZAx rfl Fbld55 S rfl (idx := [0]) rfl (cs := [.int .i64 (10001 + (k : Int)), .int .i64 0, .int .i64 ((cs[k] % pl : Nat) : Int), .string ⟨#[]⟩, .slice none 0 0, .string ⟨#[]⟩, .slice none 0 0, .int .i64 0, .slice none 0 0, .int .i64 0, .slice none 0 0]) (by kernel_rfl)) fun a S => ?_
   refine ZAF (ZAP (wn rfl) rfl rfl rfl underlying34 Finf55 S H (idx := [0]) rfl rfl rfl (z := [.int .i64 0, .int .i64 0, .int .i64 0, .string ⟨#[]⟩, .slice none 0 0, .string ⟨#[]⟩, .slice none 0 0, .int .i64 0, .slice none 0 0, .int .i64 0, .slice none 0 0]) (by kernel_rfl) (cs := [.int .i64 (10001 + (k : Int)), .int .i64 0, .int .i64 ((cs[k] % pl : Nat) : Int), .string ⟨#[]⟩, .slice none 0 0, .string ⟨#[]⟩, .slice none 0 0, .int .i64 0, .slice none 0 0, .int .i64 0, .slice none 0 0]) (by kernel_rfl) fun b44 a w S H => ?_)
   refine ZAF (ZAr ([owZ (10001 + (k : Int)) ((cs[k] % pl : Nat) : Int)]) (wn rfl) rfl rfl rfl underlying34 Finf55 rfl rfl S H rfl rfl rfl rfl (by simp) (by simp [Ow.enc]) (by simp [Ow.enc, owZ, Value.oneCell']) (by simp only [List.length_cons, List.length_nil]; omega) (by simp only [List.length_cons, List.length_nil]; omega) fun u45 a w hn45 S H => ?_)
   refine q_as S rfl fun a S => ZAj <| ZAK <| ZAA ?_
   have S := S.sel [5, 7, 6, 4, 0, 1] rfl
   refine ZAB <| q_mv S rfl fun a S => q_ad S rfl (by omega) fun a S => ?_
   refine q_as S rfl fun a S => ?_
   refine gnt ?_
   exact ⟨(k + 1, u45), S.sel [5, 7] rfl, S.sel [6, 4, 0, 1] rfl, ⟨by dsimp only; omega, fun h => by omega, _, by dsimp only; rw [hnx, ← usedM_new]; exact H.take [OSl 55 u45 11 Ow.enc (ZB2 pl cs k ++ [owZ (10001 + (k : Int)) ((cs[k] % pl : Nat) : Int)]), MapA b9 (fun n : Int => Value.int .i64 n) (fun b : Bool => Value.bool b) (upd (usedM (ZB2 pl cs k)) ((cs[k] % pl : Nat) : Int) true) (if (usedM (ZB2 pl cs k) ((cs[k] % pl : Nat) : Int)).isSome = true then c else c + 1), Sl cv 1 encC16 cs]⟩, by dsimp only; omega⟩
  have h4p := h4; try simp only [DL] at h4p
  have hnx : ZB2 pl cs (k + 1) = ZB2 pl cs k := by
    have hno := h4
    rw [Bool.not_eq_false', decide_eq_true_eq] at hno
    show (if _ then _ else _) = _
    rw [if_pos hl30, hgd, if_pos hno]
  refine ZAM <| ZAK <| ZAA ?_
  have S := S.sel [5, 7, 6, 4, 0, 1] rfl
  refine ZAB <| q_mv S rfl fun a S => q_ad S rfl (by omega) fun a S => ?_
  exact q_as S rfl fun a S => gnt <| ⟨(k + 1, v), S.sel [5, 7] rfl, S.sel [6, 4, 0, 1] rfl, ⟨by dsimp only; omega, fun h => by omega, c, by dsimp only; rw [hnx]; exact H⟩, by dsimp only; omega⟩
 have h3p := h3; try simp only [DL] at h3p
 refine ZAf <| ZAO (ZAO (x_eq ?_))
 refine ZAA ?_
 have S := S.sel [5, 4] rfl
 refine gsr <| q_mv S rfl fun a S => q_as S rfl fun a S => gnt <| ZAe <| ret1 rfl S rfl ?_
 have e : soldR pl cs = ZB2 pl cs k := by
   unfold soldR
   by_cases h0 : pl = 0
   · rw [if_pos h0, hp0 h0]; rfl
   rw [if_neg h0]
   by_cases hkc : k = cs.length
   · rw [hkc]
   have hf : ¬ (ZB2 pl cs k).length < 30 := by omega
   obtain ⟨d, hd⟩ : ∃ d, cs.length = k + d := ⟨cs.length - k, by omega⟩
   rw [hd]; exact soldN_full pl cs hf d
 rw [e]
 exact H.take _
theorem worth_spec (p : Pl) (w0 : World) :
    Ret Tryz.prog 32 #[.agg (Pl.enc p).toArray] w0 (fun v w => v = .agg (worthL p).toArray ∧ Ext w0 w) := by
 refine ZAE (nt := 13) Tryz.func32 rfl rfl rfl (fl := [(0, .agg (Pl.enc p).toArray)]) rfl (fun a S => ?_)
 have H := HSat.start w0
 refine gsr <| ZAF (ZAu (wn rfl) rfl rfl rfl S H rfl fun b1 a w S H => q_al S H rfl Fzer106 fun b2 a w S H => gnt ?_)
 refine gsr <| q_as S rfl fun a S => gnt <| ZAG <| gsr <| q_fa S Ffo57_8 rfl fun a S => q_ld S H ZAN rfl rfl fun a S => q_bn S rfl fun a S => ?_
 refine gnt <| cut (fun a w => ∃ b1 b2, St 13 [(1, .pointer (some ⟨b1, 0, none⟩)), (2, .pointer (some ⟨b2, 0, none⟩)), (3, .int .i64 (if p.with_ < 0 then 1 else 0))] a ∧ HSat No w0 [Cel b2 106 [.int .i64 0, .int .i64 0, .int .i64 0], Cel b1 57 (Pl.enc p)] w) ?_ ?_
 ·skip
  refine c_if S rfl (fun h1 => ?_) (fun h1 => ?_)
  ·have h1p := h1; try simp only [DL] at h1p
   refine ZAB <| q_as S rfl fun a S => gnt ?_
   exact ⟨_, _, ((S.nil.cons S 3 (by simp [List.lookup, h1p])).cons S 2 rfl).cons S 1 rfl, H⟩
  have h1p := h1; try simp only [DL] at h1p
  refine ZAM <| ZAA ?_
  exact ⟨_, _, ((S.nil.cons S 3 (by simp [List.lookup, h1p])).cons S 2 rfl).cons S 1 rfl, H⟩
 rintro a w ⟨b1, b2, S, H⟩
 refine gsr ?_
 refine q_fa S Ffo57_7 rfl fun a S => ?_
 refine q_ld S H ZAN rfl rfl fun a S => ?_
 refine q_fa S Ffo57_1 rfl fun a S => ?_
 refine q_ld S H ZAN rfl rfl fun a S => ?_
 refine q_mv S rfl fun a S => ?_
 refine gq rfl S (ZAx rfl Fbld106 S rfl (idx := [0, 1, 2]) rfl (cs := [_, _, _]) rfl) fun a S => ?_
 refine ZAF (ZAQ (wn rfl) rfl rfl S H rfl rfl rfl Fsiz106 rfl (cs' := [_, _, _]) rfl fun a w S H => gnt ?_)
 have S := S.sel [2] rfl
 refine ZAe <| retc rfl S H rfl (by exact Fagg106) ?_
 exact ⟨rfl, H.toExt⟩
theorem atLeast_spec (p q : Pl) (w0 : World) :
    Ret Tryz.prog 11 #[.agg (Pl.enc p).toArray, .agg (Pl.enc q).toArray] w0 (fun v w => v = .bool (ZBQ p q) ∧ Ext w0 w) := by
 refine ZAE (nt := 28) Tryz.func11 rfl rfl rfl (fl := [(0, .agg (Pl.enc p).toArray), (1, .agg (Pl.enc q).toArray)]) rfl (fun a S => ?_)
 have H := HSat.start w0
 refine gsr <| ZAF (ZAu (wn rfl) rfl rfl rfl S H rfl fun b2 a w S H => ZAF (ZAu (wn rfl) rfl rfl rfl S H rfl fun b3 a w S H => q_as S rfl fun a S => gnt ?_))
 refine ZAG <| cut (fun a w => ∃ b5 b6, St 28 [(2, .pointer (some ⟨b2, 0, none⟩)), (3, .pointer (some ⟨b3, 0, none⟩)), (5, .pointer (some ⟨b5, 0, none⟩)), (6, .pointer (some ⟨b6, 0, none⟩))] a ∧ HSat No w0 [Cel b6 106 (worthL q), Cel b5 106 (worthL p), Cel b3 57 (Pl.enc q), Cel b2 57 (Pl.enc p)] w) ?_ ?_
 ·skip
  refine t_st (tails := [6, 7]) [] Fmo H <| t_q 0 rfl (by kernel_rfl) (rem' := [1, 2, 3, 4, 5, 6, 7]) rfl rfl rfl rfl S (fun w H => ZAb rfl S H rfl (by exact Fagg57)) fun a S => ?_
  refine t_c 1 rfl (by kernel_rfl) (rem' := [2, 3, 4, 5, 6, 7]) rfl rfl rfl rfl S (fun w => ZAi rfl call32 S rfl) (fun w H => worth_spec _ _) fun a S => ?_
  refine t_q 2 rfl (by kernel_rfl) (rem' := [3, 4, 5, 6, 7]) rfl rfl rfl rfl S (fun w H => ZAb rfl S H rfl (by exact Fagg57)) fun a S => ?_
  refine t_c 3 rfl (by kernel_rfl) (rem' := [4, 5, 6, 7]) rfl rfl rfl rfl S (fun w => ZAi rfl call32 S rfl) (fun w H => worth_spec _ _) fun a S => ?_
  refine t_b [4, 5] (by kernel_rfl) rfl (fa2 ?_ ?_)
  ·refine ⟨_, rfl, fun w H => ?_⟩
   refine ZAh (wn rfl) rfl rfl rfl S H Fzer106 fun b5 a w S H => t_n H (rem' := [5, 6, 7]) rfl <| t_b1 5 (by kernel_rfl) rfl fun w H => ?_
   refine ZAh (wn rfl) rfl rfl rfl S H Fzer106 fun b6 a w S H => t_n H (rem' := [6, 7]) rfl <| t_b1 6 (by kernel_rfl) rfl fun w H => ?_
   refine ZAQ (wn rfl) rfl rfl S H rfl rfl rfl Fsiz106 rfl (cs' := [_, _, _]) rfl fun a w S H => ZAY H rfl (rem' := [7]) rfl <| t_b1 7 (by kernel_rfl) rfl fun w H => ?_
   refine ZAQ (wn rfl) rfl rfl S H rfl rfl rfl Fsiz106 rfl (cs' := [_, _, _]) rfl fun a w S H => ZAY H rfl (rem' := []) rfl <| ZBZ (fun w H => ?_)
   exact ⟨_, _, S.sel [2, 3, 5, 6] rfl, by first | exact H | exact H.perm (List.Perm.swap _ _ _)⟩
  refine ⟨_, rfl, fun w H => ?_⟩
  refine ZAh (wn rfl) rfl rfl rfl S H Fzer106 fun b6 a w S H => t_n H (rem' := [4, 6, 7]) rfl <| t_b1 4 (by kernel_rfl) rfl fun w H => ?_
  refine ZAh (wn rfl) rfl rfl rfl S H Fzer106 fun b5 a w S H => t_n H (rem' := [6, 7]) rfl <| t_b1 6 (by kernel_rfl) rfl fun w H => ?_
  refine ZAQ (wn rfl) rfl rfl S H rfl rfl rfl Fsiz106 rfl (cs' := [_, _, _]) rfl fun a w S H => ZAY H rfl (rem' := [7]) rfl <| t_b1 7 (by kernel_rfl) rfl fun w H => ?_
  refine ZAQ (wn rfl) rfl rfl S H rfl rfl rfl Fsiz106 rfl (cs' := [_, _, _]) rfl fun a w S H => ZAY H rfl (rem' := []) rfl <| ZBZ (fun w H => ?_)
  exact ⟨_, _, S.sel [2, 3, 5, 6] rfl, by first | exact H | exact H.perm (List.Perm.swap _ _ _)⟩
 rintro a w ⟨b5, b6, S, H⟩
 refine ZAG <| gsr <| q_mv S rfl fun a S => gnt <| ZAD ?_
 have SU := S.sel [2, 3, 5, 6] rfl
 refine ZB4 (X := Nat) SU (fun k => [(12, .int .i64 (k : Int))]) (fun k => k ≤ 3 ∧ ∀ j, j < k → (worthI p).getD j 0 ≤ (worthI q).getD j 0) (fun k => 3 - k) 0 (S.sel [12] rfl) H (⟨by omega, fun j hj => by omega⟩) (fun k a w S H hi => ?_)
 simp only [List.cons_append, List.nil_append] at S hi
 refine gsr <| q_bn S rfl fun a S => gnt <| ZAG <| c_if S rfl (fun h1 => ?_) (fun h1 => ?_)
 ·have h1p := h1; try simp only [DL] at h1p
  refine ZAM <| ZAA <| ZAG <| ZAD <| gsr <| q_mv S rfl fun a S => q_as S rfl fun a S => gnt ?_
  refine ZAG <| ZAZ (loud := []) (tails := []) (free := []) [0, 1, 2, 3, 4, 5, 6] [] Fmo (by kernel_rfl) (by kernel_rfl) rfl H ?_
  refine m_q rfl S (fun w H => ZAL rfl S rfl) fun a S => m_q rfl S (fun w H => y_iaddra rfl underlying106 ZA5 S rfl rfl (by omega)) fun a S => ?_
  refine m_q rfl S (fun w H => ZAJ rfl ZAN S H rfl (getI _ _ (by omega))) fun a S => ?_
  refine m_q rfl S (fun w H => ZAL rfl S rfl) fun a S => m_q rfl S (fun w H => y_iaddra rfl underlying106 ZA5 S rfl rfl (by omega)) fun a S => ?_
  refine m_q rfl S (fun w H => ZAJ rfl ZAN S H rfl (getI _ _ (by omega))) fun a S => ?_
  refine m_q rfl S (fun w H => ZAn rfl S rfl rfl rfl) fun a S => ZBY (fun w H => ZAA ?_)
  have S := S.sel [21, 12, 2, 3, 5, 6] rfl
  refine c_if S rfl (fun h2 => ?_) (fun h2 => ?_)
  ·have h2p := h2; try simp only [DL] at h2p
   refine gsr <| q_as S rfl fun a S => gnt <| ZAe <| ZAm (ZAX (ZAX (ZAm (ZAX (ret1 rfl S rfl ?_)))))
   exact ⟨congrArg _ (atLeast_no p q k (by omega) h2p), H.toExt⟩
  have h2p := h2; try simp only [DL] at h2p
  refine ZAM <| ZAK <| ZAA <| ZAB <| q_ad S rfl (by omega) fun a S => ?_
  refine q_mv S rfl fun a S => gnt <| ⟨k + 1, S.sel [12] rfl, S.sel [2, 3, 5, 6] rfl, H, ?_, ?_⟩
  · exact ⟨by omega, fun j hj => by by_cases hjk : j < k; exact hi.2 j hjk; (obtain rfl : j = k := by omega); exact h2p⟩
  omega
 have h1p := h1; try simp only [DL] at h1p
 refine ZAf <| ZAO (ZAO (x_eq ?_))
 refine ZAA ?_
 have S := S.sel [2, 3] rfl
 refine gsr <| q_fa S Ffo57_0 rfl fun a S => q_ld S H ZAN rfl rfl fun a S => q_fa S Ffo57_0 rfl fun a S => q_ld S H ZAN rfl rfl fun a S => q_bn S rfl fun a S => q_as S rfl fun a S => gnt ?_
 have S := S.sel [4] rfl
 exact ZAe <| ret1 rfl S rfl <| ⟨congrArg _ (atLeast_yes p q (fun j hj => hi.2 j (by omega))), H.toExt⟩
theorem fitting_spec (p : Pl) (v : Value) (next : List Pl) (w0 : World) (hv : IsSl w0 v 9 Pl.enc next) :
    Ret Tryz.prog 33 #[.agg (Pl.enc p).toArray, v] w0 (fun u w => ∃ b3 b2, u = .func (.func 80) #[] #[.pointer (some ⟨b3, 0, none⟩), .pointer (some ⟨b2, 0, none⟩)] ∧ HSat No w0 [Cel b3 30 [v], Cel b2 57 (Pl.enc p)] w) := by
 refine ZAE (nt := 6) Tryz.func33 rfl rfl rfl (fl := [(0, .agg (Pl.enc p).toArray), (1, v)]) rfl (fun a S => ?_)
 have H := HSat.start w0
 have H := H.ro0 (Sl v 9 Pl.enc next) rfl (hv)
 refine gsr <| ZAF (ZAu (wn rfl) rfl rfl rfl S H rfl fun b2 a w S H => ZAF (op_box1 (wn rfl) rfl rfl rfl S H rfl (H.slc _) fun b3 a w S H => q_as S rfl fun a S => gnt ?_))
 refine gsr <| gq rfl S (ZAd rfl S rfl rfl) fun a S => q_as S rfl fun a S => gnt ?_
 have S := S.sel [4] rfl
 refine ZAe <| ret1 rfl S rfl ?_
 exact ⟨_, _, rfl, H.take _⟩
theorem fits_iter (lb b3 b2 : Nat) (p : Pl) (v : Value) (next : List Pl) (w0 : World) (J : Nat → World → Prop) (hl : next.length ≤ 1000000)
    (hJ : ∀ k w, J k w → HSat No w [Atom.ro (Cel b3 30 [v]), Atom.ro (Cel b2 57 (Pl.enc p)), Atom.ro (Sl v 9 Pl.enc next)] w) (hst : ∀ k w w', J k w → Ext w w' → J k w')
    (hround : ∀ k (h : k < next.length) w, J k w → ZBQ next[k] p = true → YieldRet Tryz.prog lb #[.int .i64 (k : Int)] w (fun u w' => u = .bool true ∧ J (k + 1) w'))
    (hskip : ∀ k (h : k < next.length) w, J k w → ZBQ next[k] p = false → J (k + 1) w) (h0 : J 0 w0) :
    Ret Tryz.prog 80 #[.func (.yield lb) #[] #[], .pointer (some ⟨b3, 0, none⟩), .pointer (some ⟨b2, 0, none⟩)] w0 (fun u w => J next.length w) := by
 refine ZAE (nt := 23) Tryz.func80 rfl rfl rfl (fl := [(0, .func (.yield lb) #[] #[]), (1, .pointer (some ⟨b3, 0, none⟩)), (2, .pointer (some ⟨b2, 0, none⟩))]) rfl (fun a S => ?_)
 have H := hJ 0 w0 h0
 refine gsr <| q_ld S H Fsca30 rfl rfl fun a S => gq rfl S (ZAT rfl underlying30 S H rfl) fun a S => q_mv S rfl fun a S => gnt <| ZAD ?_
 have SU := S.sel [7, 6, 0, 2] rfl
 refine ZBL (X := Nat) SU (fun k => [(8, .int .i64 (k : Int))]) (fun k w => k ≤ next.length ∧ J k w) (fun k => next.length - k) 0 (S.sel [8] rfl) (⟨by omega, hst _ _ _ h0 H.toExt⟩) (fun k a w S hW => ?_)
 simp only [List.cons_append, List.nil_append] at S
 obtain ⟨hk, hW⟩ := hW
 have H := hJ k w hW
 refine gsr <| q_bn S rfl fun a S => gnt <| ZAG <| c_if S rfl (fun h1 => ?_) (fun h1 => ?_)
 ·have h1p := h1; try simp only [DL] at h1p
  refine ZAM <| ZAA <| ZAG <| ZAD <| gsr <| q_mv S rfl fun a S => gq rfl S (ZAI rfl underlying30 Fsiz57 S H rfl rfl (by omega)) fun a S => ?_
  refine gq rfl S (ZAk _ rfl S H rfl (by exact Fagg57) (by omega)) fun a S => ?_
  refine q_al S H rfl Fzer57 fun b5 a w S H => q_as S rfl fun a S => ZAF (ZAQ (wn rfl) rfl rfl S H rfl rfl rfl Fsiz57 rfl (cs' := [_, _, _, _, _, _, _, _, _]) rfl fun a w S H => gnt ?_)
  have S := S.sel [4, 5, 8, 7, 6, 0, 2] rfl
  refine gsr <| gq rfl S (ZAb rfl S H rfl (by exact Fagg57)) fun a S => ?_
  refine gq rfl S (ZAb rfl S H rfl (by exact Fagg57)) fun a S => ?_
  refine q_cl S rfl call11 (atLeast_spec _ _ _) fun v w hc a S => ?_
  obtain ⟨rfl, he⟩ := hc
  have H := H.ext he
  refine q_mv S rfl fun a S => ?_
  refine' wl_andW (W := fun w => if ZBQ next[k] p = true then J (k + 1) w else J k w) 4 16 rfl S (fun h2 => by rw [if_neg (by rw [h2]; simp)]; exact hst _ _ _ hW H.toExt) rfl rfl rfl rfl rfl rfl rfl (fun _ S => (wn rfl)) (fun h2 kk => ?yh2) (fun a w S hW => ?_)
  case yh2 =>
   have h2p := h2; try simp only [DL] at h2p
   refine gz 16 h2 S rfl rfl rfl rfl rfl rfl (ZAL rfl S rfl) fun a S => gz 16 h2 S rfl rfl rfl rfl rfl rfl (ZAL rfl S rfl) fun a S => ZAF (op_yield (wg' 16 rfl rfl S rfl h2 rfl) rfl rfl rfl S rfl rfl (hround k (by omega) _ (hst _ _ _ hW H.toExt) h2) fun u w hc a S => ?_)
   obtain ⟨rfl, hJ1⟩ := hc
   exact gz 16 h2 S rfl rfl rfl rfl rfl rfl (ZBV rfl S rfl) fun a S => gq rfl S (ZBf rfl h2 S rfl rfl) fun a S => kk _ _ (S.join 5 21 rfl rfl) (by rw [if_pos h2]; exact hJ1)
  have hJ2 := hW
  refine gnt ?_
  have S := S.sel [21, 8, 7, 6, 0, 2] rfl
  refine c_if S rfl (fun h3 => ?_) (fun h3 => ?_)
  ·have h3p := h3; try simp only [DL] at h3p
   all_goals (
     exact absurd h3 (by simp))
  have h3p := h3; try simp only [DL] at h3p
  refine ZAM <| ZAK <| ZAA <| ZAB <| q_ad S rfl (by omega) fun a S => ?_
  refine q_mv S rfl fun a S => gnt <| ⟨k + 1, S.sel [8] rfl, S.sel [7, 6, 0, 2] rfl, ⟨by omega, ?_⟩, by omega⟩
  by_cases hal : ZBQ next[k] p = true
  · rw [if_pos hal] at hJ2; exact hJ2
  rw [if_neg hal] at hJ2; exact hskip k (by omega) _ hJ2 (by simpa using hal)
 have h1p := h1; try simp only [DL] at h1p
 obtain rfl : k = next.length := by omega
 refine ZAf <| ZAO (ZAO (x_eq ?_))
 exact ZB1 rfl S <| hst _ _ _ hW H.toExt
set_option maxHeartbeats 1000000 in
theorem edges_spec (v1 v2 : Value) (old next : List Pl) (w0 : World) (hv1 : IsSl w0 v1 9 Pl.enc old) (hv2 : IsSl w0 v2 9 Pl.enc next) (hl1 : old.length ≤ 100000) (hl2 : next.length ≤ 100000) :
    Ret Tryz.prog 12 #[v1, v2] w0 (fun u w => ∃ ps : List (Value × List Int), ps.map (·.2) = ZAy old next ∧ HSat No w0 [OSl 37 u 1 ZAo ps, ZBh 3 1 encI ps] w) := by
 refine ZAE (nt := 35) Tryz.func12 rfl rfl rfl (fl := [(0, v1), (1, v2)]) rfl (fun a S => ?_)
 have H := HSat.start w0
 have H := H.ro0 (Sl v1 9 Pl.enc old) rfl (hv1)
 have H := H.ro0 (Sl v2 9 Pl.enc next) rfl (hv2)
 refine gsr <| q_as S rfl fun a S => gnt <| gsr <| q_mv S rfl fun a S => gq rfl S (ZAT rfl underlying30 S H rfl) fun a S => ZAF (ZAw (ZAo (α := Int)) ((Value.slice none 0 0, [])) (wn rfl) rfl rfl rfl underlying62 Finf37 rfl rfl S H rfl rfl rfl (by omega) (by omega) fun b11 a w S H => ?_)
 refine q_al S H rfl Fzer62 fun b5 a w S H => q_st S H rfl (H.sl1 _) Fsiz62 rfl fun a w S H => ?_
 dsimp only [List.set, Nat.zero_add, Nat.reduceAdd] at H
 refine gnt <| ZAG <| gsr <| q_mv S rfl fun a S => gq rfl S (ZAT rfl underlying30 S H rfl) fun a S => ?_
 have H := ((H.freeze.rowsNil 3 1 encI old.length).defs0).take [ZBe [], Atom.ro (Cel b5 62 [(.slice (some ⟨b11, 0, none⟩) old.length old.length)]), OSl 37 (.slice (some ⟨b11, 0, none⟩) old.length old.length) 1 ZAo (List.replicate old.length (Value.slice none 0 0, ([] : List Int))), ZBh 3 1 encI (List.replicate old.length (Value.slice none 0 0, ([] : List Int))), Sl v2 9 Pl.enc next, Sl v1 9 Pl.enc old]
 refine q_mv S rfl fun a S => gnt ?_
 have S := S.sel [14, 13, 12, 5, 4, 1] rfl
 refine ZAD ?_
 have SU := S.sel [13, 12, 5, 4, 1] rfl
 refine loopD (X := Nat × List Nat) (fun x => x.2) (fun x => [(14, .int .i64 (x.1 : Int))]) (fun x w => x.1 ≤ old.length ∧ ∃ ps : List (Value × List Int), (x.1 < old.length → ps.map (·.2) = rowsAt old next x.1 []) ∧ (x.1 = old.length → ps.map (·.2) = ZAy old next) ∧ ps.length = old.length ∧ HSat No w0 [ZBe x.2, Atom.ro (Cel b5 62 [(.slice (some ⟨b11, 0, none⟩) old.length old.length)]), OSl 37 (.slice (some ⟨b11, 0, none⟩) old.length old.length) 1 ZAo ps, ZBh 3 1 encI ps, Sl v2 9 Pl.enc next, Sl v1 9 Pl.enc old] w) (fun x => old.length - x.1) (0, []) SU (S.sel [14] rfl) (⟨by simp, (List.replicate old.length (Value.slice none 0 0, ([] : List Int))), fun h => by rw [List.map_replicate, rowsAt_start _ _ (List.length_pos_iff.1 h)], fun h => by rw [← h, List.length_eq_zero_iff.1 h.symm]; rfl, by simp, H⟩) (fun x a w S hW => ?_)
 simp only [List.cons_append, List.nil_append] at S
 obtain ⟨i, ds⟩ := x
 obtain ⟨hi, ps, hp1, hp2, hpl, H⟩ := hW
 dsimp only at S H hi hp1 hp2
 refine gsr <| q_bn S rfl fun a S => gnt <| ZAG <| c_if S rfl (fun h1 => ?_) (fun h1 => ?_)
 ·have h1p := h1; try simp only [DL] at h1p
  have hps0 := hp1 (by omega)
  refine ZAM <| ZAA <| ZAG <| ZAD <| gsr <| q_mv S rfl fun a S => gq rfl S (ZAI rfl underlying30 Fsiz57 S H rfl rfl (by omega)) fun a S => ?_
  refine gq rfl S (ZAk _ rfl S H rfl (by exact Fagg57) (by omega)) fun a S => ?_
  refine q_al S H rfl Fzer3 fun b6 a w S H => q_al S H rfl Fzer57 fun b7 a w S H => q_st S H rfl rfl ZA5 rfl fun a w S H => ?_
  dsimp only [List.set, Nat.zero_add, Nat.reduceAdd] at H
  refine ZAF (ZAQ (wn rfl) rfl rfl S H rfl rfl rfl Fsiz57 rfl (cs' := [_, _, _, _, _, _, _, _, _]) rfl fun a w S H => gnt ?_)
  have S := S.sel [7, 6, 14, 13, 12, 5, 4, 1] rfl
  refine gsr <| gq rfl S (ZAb rfl S H rfl (by exact Fagg57)) fun a S => ?_
  refine q_mv S rfl fun a S => q_cl S rfl call33 (fitting_spec old[i] v2 next _ (H.sl v2)) fun v w hc a S => ?_
  obtain ⟨b3, b2, rfl, H1⟩ := hc
  have H := H.call2 H1 rfl rfl
  refine gnt <| ZAD ?_
  have H := (H.take [Cel b6 3 [.int .i64 (i : Int)], Cel b3 30 [v2], Cel b2 57 (Pl.enc old[i]), ZBe ds, Atom.ro (Cel b5 62 [(.slice (some ⟨b11, 0, none⟩) old.length old.length)]), OSl 37 (.slice (some ⟨b11, 0, none⟩) old.length old.length) 1 ZAo ps, ZBh 3 1 encI ps, Sl v2 9 Pl.enc next, Sl v1 9 Pl.enc old]).freeze
  refine g_range (Φ := fun p l2 => p = none ∧ ∃ ps : List (Value × List Int), ps.map (·.2) = rowsAt old next i (fits old[i] (next.take next.length) 0) ∧ ps.length = old.length ∧ l2 = [Atom.ro (Cel b6 3 [.int .i64 (i : Int)]), Cel b3 30 [v2], Cel b2 57 (Pl.enc old[i]), Atom.ro (Cel b5 62 [(.slice (some ⟨b11, 0, none⟩) old.length old.length)]), OSl 37 (.slice (some ⟨b11, 0, none⟩) old.length old.length) 1 ZAo ps, ZBh 3 1 encI ps, Sl v2 9 Pl.enc next, Sl v1 9 Pl.enc old]) S (H.front (ZBe ds)) rfl call80 (fun R lb w1 hrec H1 => ?_) ?_
  ·have SR := S.recd
   refine Ret.mono (fits_iter lb b3 b2 old[i] v2 next w1 (fun k w => ∃ ps : List (Value × List Int), ps.map (·.2) = rowsAt old next i (fits old[i] (next.take (k)) 0) ∧ ps.length = old.length ∧ HSat No w0 [Blk lb (.loop R), ZBe (R.defers :: ds), Atom.ro (Cel b6 3 [.int .i64 (i : Int)]), Cel b3 30 [v2], Cel b2 57 (Pl.enc old[i]), Atom.ro (Cel b5 62 [(.slice (some ⟨b11, 0, none⟩) old.length old.length)]), OSl 37 (.slice (some ⟨b11, 0, none⟩) old.length old.length) 1 ZAo ps, ZBh 3 1 encI ps, Sl v2 9 Pl.enc next, Sl v1 9 Pl.enc old] w) (by omega) (fun k w ⟨ps, _, _, H⟩ => by have h := H.reads; simp only [List.map_cons, List.map_nil] at h; exact h.take [Atom.ro (Cel b3 30 [v2]), Atom.ro (Cel b2 57 (Pl.enc old[i])), Atom.ro (Sl v2 9 Pl.enc next)]) (fun k w w' ⟨ps, h1, h2, H⟩ e => ⟨ps, h1, h2, H.ext e⟩) (fun k hk w hJ hal => ?_) (fun k hk w ⟨ps, h1, h2, H⟩ hn => ⟨ps, by rw [h1, fits_step _ _ _ hk, if_neg (by rw [hn]; simp), List.append_nil], h2, H⟩) ⟨ps, hps0, hpl, H1⟩) ?_
   ·obtain ⟨ps, hps, hpl, H⟩ := hJ
    have hrl : ps[i].2 = fits old[i] (next.take k) 0 := by
      have e := rowsAt_get old next i (fits old[i] (next.take k) 0) (by omega)
      rw [← e]; simp only [← hps, List.getElem_map]
    have hfl := fits_len old[i] (next.take k) 0
    have htl : (next.take k).length ≤ k := List.length_take_le _ _
    have hrl2 := congrArg List.length hrl
    refine yield1 hrec SR H rfl (fun a S => ZAB ?_)
    refine q_as S rfl fun a S => ?_
    have hir : i < ps.length := by omega
    have H := (H.front (ZBh 3 1 encI ps)).rowOut i hir
    refine gnt <| r_begin hrec H (fun w H => ZAD ?_)
    refine ZAZ (loud := [7, 8, 10]) (tails := [8, 10]) (free := [0, 1]) [0, 1, 2, 3, 4, 5, 6, 7, 8, 9, 10] [Atom.ro (Cel b5 62 [(.slice (some ⟨b11, 0, none⟩) old.length old.length)]), Atom.ro (Cel b6 3 [.int .i64 (i : Int)])] Fmo (by kernel_rfl) (by kernel_rfl) rfl H ?_
    refine m_f rfl rfl (wn rfl) rfl rfl S (fun w H => ZAJ rfl Fsca62 S H rfl rfl) fun a S => m_f rfl rfl (wn rfl) rfl rfl S (fun w H => ZAJ rfl ZAN S H rfl rfl) fun a S => m_q rfl S (fun w H => ZAJ rfl Fsca62 S H rfl rfl) fun a S => m_q rfl S (fun w H => ZAJ rfl ZAN S H rfl rfl) fun a S => m_q rfl S (fun w H => ZAI rfl underlying62 Fsiz37 S H rfl rfl (by omega)) fun a S => ?_
    refine m_loads _ rfl rfl (wn rfl) rfl rfl S rfl ZBX rfl (by omega) rfl fun a S => ?_
    refine m_q rfl S (fun w H => ZAL rfl S rfl) fun a S => m_l rfl rfl (fun w H => ZAP (wn rfl) rfl rfl rfl underlying37 Finf3 S H (idx := [0]) rfl rfl rfl (z := [.int .i64 0]) (by kernel_rfl) (cs := [_]) rfl fun b30 a w S H => m_next H (List.sublist_cons_self _ _) ?_)
    refine m_l rfl rfl (fun w H => ZAr ([(k : Int)]) (wn rfl) rfl rfl rfl underlying37 Finf3 rfl rfl S H rfl rfl rfl rfl (by simp) (by simp [encI]) (by simp [encI, Value.oneCell']) (by simp only [List.length_cons, List.length_nil]; omega) (by simp only [List.length_cons, List.length_nil]; omega) fun u31 a w hn31 S H => m_tail H rfl ?_)
    refine m_q rfl S (fun w H => ZAI rfl underlying62 Fsiz37 S H rfl rfl (by omega)) fun a S => ?_
    refine m_l rfl rfl (fun w H => op_store1 _ ((u31, ps[i].2 ++ [(k : Int)])) (wn rfl) rfl rfl S H rfl rfl (H.slc _) (H.sl1 _) Fsiz37 (by omega) (by exact rfl) fun a w S H => m_tail H rfl ?_)
    refine ZBY (fun w H => ZAK ?_)
    refine r_end hrec H (fun w H => ⟨rfl, ps.set i (u31, ps[i].2 ++ [(k : Int)]), ?_, by simp [hpl], ?_⟩)
    · rw [List.map_set, hps, hrl, rowsAt_set _ _ _ _ _ (by omega), fits_step _ _ _ hk, if_pos hal]
    exact ((H.front2 (OSl 3 u31 1 encI (ps[i].2 ++ [(k : Int)])) (ZBh 3 1 encI (ps.eraseIdx i))).rowIn hir).take [Blk lb (.loop R), ZBe (R.defers :: ds), Atom.ro (Cel b6 3 [.int .i64 (i : Int)]), Cel b3 30 [v2], Cel b2 57 (Pl.enc old[i]), Atom.ro (Cel b5 62 [(.slice (some ⟨b11, 0, none⟩) old.length old.length)]), OSl 37 (.slice (some ⟨b11, 0, none⟩) old.length old.length) 1 ZAo (ps.set i (u31, ps[i].2 ++ [(k : Int)])), ZBh 3 1 encI (ps.set i (u31, ps[i].2 ++ [(k : Int)])), Sl v2 9 Pl.enc next, Sl v1 9 Pl.enc old]
   rintro _ w2 ⟨ps, hps, hpl, H2⟩
   exact ⟨.ready, none, _, by simp, ⟨rfl, ps, hps, hpl, rfl⟩, by rw [hrec.same]; exact H2⟩
  intro bd a w pend l2 S H hΦ
  obtain ⟨rfl, ps, hps, hpl, rfl⟩ := hΦ
  rw [List.take_length] at hps
  refine ZAK <| ZAK <| ZAA ?_
  have S := S.sel [14, 13, 12, 5, 4, 1] rfl
  refine ZAB <| q_ad S rfl (by omega) fun a S => ?_
  exact q_mv S rfl fun a S => gnt <| ⟨(i + 1, bd :: ds), S.sel [14] rfl, S.sel [13, 12, 5, 4, 1] rfl, ⟨by dsimp only; omega, ps, fun h => by rw [hps, rowsAt_next _ _ _ h], fun h => by rw [hps, rowsAt_end _ _ _ h], hpl, H.take _⟩, by dsimp only; omega⟩
 have h1p := h1; try simp only [DL] at h1p
 obtain rfl : i = old.length := by omega
 have hps := hp2 rfl
 refine ZAf <| ZAO (ZAO (x_eq ?_))
 refine ZAA ?_
 have S := S.sel [5, 4] rfl
 exact gsr <| q_ld S H Fsca62 rfl rfl fun a S => q_as S rfl fun a S => gnt <| ZAe <| ret1M rfl S H rfl (fun w H => ⟨ps, hps, H.take _⟩)
theorem valid11_spec (n : Int) (b : Nat) (right : Int) (w0 : World) (hb : w0.heap[b]? = some (.cells [Value.int .i64 right].toArray 3 (0, 0))) :
    Ret Tryz.prog 83 #[.int .i64 n, .pointer (some ⟨b, 0, none⟩)] w0 (fun u w => u = .bool (!okN right n) ∧ Ext w0 w) := by
 refine ZAE (nt := 11) Tryz.func83 rfl rfl rfl (fl := [(0, .int .i64 n), (1, .pointer (some ⟨b, 0, none⟩))]) rfl (fun a S => ?_)
 have H := HSat.start w0
 have H := H.ro0 (Atom.ro (Cel b 3 [.int .i64 right])) rfl (hb)
 refine gsr <| q_as S rfl fun a S => gnt <| gsr <| q_mv S rfl fun a S => q_bn S rfl fun a S => q_mv S rfl fun a S => ?_
 refine' ZBH 3 6 rfl S H rfl rfl rfl rfl rfl rfl rfl (fun _ S => (wn rfl)) (fun h1 kk => ?yh1) (fun a w S H => ?_)
 case yh1 =>
  exact gz 6 h1 S rfl rfl rfl rfl rfl rfl (ZAL rfl S rfl) fun a S => gz 6 h1 S rfl rfl rfl rfl rfl rfl (ZAJ rfl ZAN S H rfl rfl) fun a S => gz 6 h1 S rfl rfl rfl rfl rfl rfl (ZAn rfl S rfl rfl rfl) fun a S => gq rfl S (ZAz rfl h1 S rfl rfl) fun a S => kk _ _ (S.join 4 10 rfl rfl) H
 refine q_as S rfl fun a S => gnt ?_
 have S := S.sel [3] rfl
 exact ZAe <| ret1 rfl S rfl <| ⟨congrArg Value.bool (by rw [Bool.eq_iff_iff]; simp only [okN, Bool.or_eq_true, Bool.not_eq_true', Bool.and_eq_false_iff, decide_eq_true_eq, decide_eq_false_iff_not]; omega), H.toExt⟩
theorem valid1_spec (v : Value) (xs : List Int) (b : Nat) (right : Int) (w0 : World) (hv : IsSl w0 v 1 encI xs) (hb : w0.heap[b]? = some (.cells [Value.int .i64 right].toArray 3 (0, 0))) :
    Ret Tryz.prog 82 #[v, .pointer (some ⟨b, 0, none⟩)] w0 (fun u w => u = .bool (xs.any (fun n => !okN right n)) ∧ Ext w0 w) := by
 refine ZAE (nt := 7) Tryz.func82 rfl rfl rfl (fl := [(0, v), (1, .pointer (some ⟨b, 0, none⟩))]) rfl (fun a S => ?_)
 have H := HSat.start w0
 have H := H.ro0 (Sl v 1 encI xs) rfl (hv)
 have H := H.ro0 (Atom.ro (Cel b 3 [.int .i64 right])) rfl (hb)
 refine gsr <| q_as S rfl fun a S => gnt <| gsr <| q_mv S rfl fun a S => gq rfl S (ZAd rfl S rfl rfl) fun a S => q_cl S rfl call36 (containsFunc_spec v xs 83 [.pointer (some ⟨b, 0, none⟩)] call83 (fun n => !okN right n) _ (H.sl v) (fun x hx w hw => valid11_spec x b right w ((H.ext hw).rd b))) fun v w hc a S => ?_
 obtain ⟨rfl, he⟩ := hc
 have H := H.ext he
 refine q_as S rfl fun a S => gnt ?_
 have S := S.sel [3] rfl
 exact ZAe <| ret1 rfl S rfl <| ⟨rfl, H.toExt⟩
theorem valid_spec (v : Value) (ps : List (Value × List Int)) (right : Int) (w0 : World) (hv : IsSl w0 v 1 ZAo ps) (hr : ∀ p ∈ ps, IsSl w0 p.1 1 encI p.2) :
    Ret Tryz.prog 34 #[v, .int .i64 right] w0 (fun u w => u = .bool (ZBm (gr ps) right) ∧ Ext w0 w) := by
 refine ZAE (nt := 20) Tryz.func34 rfl rfl rfl (fl := [(0, v), (1, .int .i64 right)]) rfl (fun a S => ?_)
 have H := HSat.start w0
 have H := H.ro0 (Sl v 1 ZAo ps) rfl (hv)
 have H := H.ro0 (ZBC 1 encI ps) rfl (hr)
 have hl := hv.len
 refine gsr <| ZAF (op_box1 (wn rfl) rfl rfl rfl S H rfl rfl fun b3 a w S H => q_as S rfl fun a S => gnt ?_)
 refine ZAG <| gsr <| q_mv S rfl fun a S => gq rfl S (ZAT rfl underlying62 S H rfl) fun a S => q_bn S rfl fun a S => q_mv S rfl fun a S => ?_
 refine' ZBH 2 8 rfl S H rfl rfl rfl rfl rfl rfl rfl (fun _ S => (wn rfl)) (fun h1 kk => ?yh1) (fun a w S H => ?_)
 case yh1 =>
  exact gz 8 h1 S rfl rfl rfl rfl rfl rfl (ZAJ rfl ZAN S H rfl rfl) fun a S => gz 8 h1 S rfl rfl rfl rfl rfl rfl (ZAn rfl S rfl rfl rfl) fun a S => gq rfl S (ZAz rfl h1 S rfl rfl) fun a S => kk _ _ (S.join 3 11 rfl rfl) H
 refine q_mv S rfl fun a S => ?_
 refine' ZBH 2 12 rfl S H rfl rfl rfl rfl rfl rfl rfl (fun _ S => (wn rfl)) (fun h2 kk => ?yh2) (fun a w S H => ?_)
 case yh2 =>
  exact gz 12 h2 S rfl rfl rfl rfl rfl rfl (ZAJ rfl ZAN S H rfl rfl) fun a S => gz 12 h2 S rfl rfl rfl rfl rfl rfl (ZAn rfl S rfl rfl rfl) fun a S => gq rfl S (ZAz rfl h2 S rfl rfl) fun a S => kk _ _ (S.join 3 15 rfl rfl) H
 refine gnt ?_
 have S := S.sel [15, 4, 3, 0] rfl
 refine c_if S rfl (fun h3 => ?_) (fun h3 => ?_)
 ·have h3p := h3; try simp only [DL] at h3p
  refine gsr <| q_as S rfl fun a S => gnt <| ZAe <| ZAX (ret1 rfl S rfl ?_)
  exact ⟨congrArg Value.bool (valid_no1 (by rw [gr_len]; omega)).symm, H.toExt⟩
 have h3p := h3; try simp only [DL] at h3p
 refine ZAM <| ZAA <| gsr <| q_mv S rfl fun a S => gq rfl S (ZAd rfl S rfl rfl) fun a S => q_cl S rfl call81 (containsFuncR_spec v ps 82 [.pointer (some ⟨b3, 0, none⟩)] call82 (fun p => p.2.any (fun n => !okN right n)) _ (H.sl v) (fun x hx w hw => valid1_spec x.1 x.2 b3 right w ((H.ext hw).rwsS ps x hx) ((H.ext hw).rd b3))) fun v w hc a S => ?_
 obtain ⟨rfl, he⟩ := hc
 have H := H.ext he
 refine gq rfl S (ZBV rfl S rfl) fun a S => q_as S rfl fun a S => gnt ?_
 have S := S.sel [4] rfl
 exact ZAe <| ret1 rfl S rfl <| ⟨congrArg Value.bool (valid_any (by omega) (by omega) (by omega)).symm, H.toExt⟩
theorem size_spec (v : Value) (ps : List (Value × List Int)) (v2 : Value) (got : List Int) (w0 : World) (hv : IsSl w0 v 1 ZAo ps) (hr : ∀ p ∈ ps, IsSl w0 p.1 1 encI p.2) (hg : IsSl w0 v2 1 encI got) :
    Ret Tryz.prog 14 #[v, v2] w0 (fun u w => u = .int .i64 (sizeL (gr ps) got) ∧ Ext w0 w) := by
 refine ZAE (nt := 51) Tryz.func14 rfl rfl rfl (fl := [(0, v), (1, v2)]) rfl (fun a S => ?_)
 have H := HSat.start w0
 have H := H.ro0 (Sl v 1 ZAo ps) rfl (hv)
 have H := H.ro0 (ZBC 1 encI ps) rfl (hr)
 have H := H.ro0 (Sl v2 1 encI got) rfl (hg)
 have hl := hv.len
 have hl2 := hg.len
 refine gsr <| q_as S rfl fun a S => gnt <| ZAG <| gsr <| q_mv S rfl fun a S => gq rfl S (ZAT rfl underlying37 S H rfl) fun a S => q_mv S rfl fun a S => ?_
 refine gq rfl S (ZAT rfl underlying62 S H rfl) fun a S => q_bn S rfl fun a S => gnt ?_
 have S := S.sel [12, 4, 0, 1] rfl
 refine c_if S rfl (fun h1 => ?_) (fun h1 => ?_)
 ·have h1p := h1; try simp only [DL] at h1p
  refine gsr <| q_as S rfl fun a S => gnt <| ZAe <| ZAX (ret1 rfl S rfl ?_)
  exact ⟨by rw [size_len (by rw [gr_len]; omega)], H.toExt⟩
 have h1p := h1; try simp only [DL] at h1p
 have hlen : got.length = (gr ps).length := by rw [gr_len]; omega
 have hlen2 := gr_len ps
 refine ZAM <| ZAA <| gsr <| q_as S rfl fun a S => gnt <| ZAG <| gsr <| q_as S rfl fun a S => ?_
 refine gnt <| ZAD ?_
 have SU := S.sel [0, 1] rfl
 refine ZB4 (X := Nat) SU (fun k => [(5, .int .i64 (cntM got k : Int)), (6, .int .i64 (k : Int))]) (fun k => k ≤ got.length ∧ ∀ i, i < k → goodAt (gr ps) got i) (fun k => got.length - k) 0 (S.sel [5, 6] rfl) H (⟨by omega, fun i hi => by omega⟩) (fun k a w S H hi => ?_)
 simp only [List.cons_append, List.nil_append] at S hi
 obtain ⟨hk, hno⟩ := hi
 refine ZAG <| gsr <| q_mv S rfl fun a S => q_mv S rfl fun a S => gq rfl S (ZAT rfl underlying37 S H rfl) fun a S => q_bn S rfl fun a S => gnt <| c_if S rfl (fun h2 => ?_) (fun h2 => ?_)
 ·have h2p := h2; try simp only [DL] at h2p
  have hkl : k < got.length := by omega
  have hkp : k < ps.length := by omega
  have hat := atI_eq hkl
  have hrw := gr_row ps hkp
  have hcs := cntM_succ got k
  have hcl := cntM_le got k
  refine ZAM <| ZAA ?_
  have S := S.sel [5, 6, 0, 1] rfl
  refine ZAG <| ZAD <| ZAG <| gsr <| q_mv S rfl fun a S => q_mv S rfl fun a S => gq rfl S (ZAI rfl underlying37 ZA5 S H rfl rfl (by omega)) fun a S => ?_
  refine gq rfl S (ZA6 _ rfl ZAN S H rfl (by omega) rfl) fun a S => ?_
  refine q_bn S rfl fun a S => gnt ?_
  have S := S.sel [23, 5, 6, 0, 1] rfl
  refine c_if S rfl (fun h3 => ?_) (fun h3 => ?_)
  ·have h3p := h3; try simp only [DL] at h3p
   refine ZAf <| ZAO (x_eq ?_)
   refine ZAA <| ZAB <| q_mv S rfl fun a S => q_ad S rfl (by omega) fun a S => ?_
   refine q_as S rfl fun a S => gnt ?_
   first
   | (have hgd : goodAt (gr ps) got k := .inl (by rw [hat]; exact h3p)
      rw [hat, if_pos h3p] at hcs
      exact ⟨k + 1, (S.sel [6] rfl).cons S 5 (by rw [hcs]; rfl), S.sel [0, 1] rfl, H, ⟨by omega, fun j hj => by by_cases hjk : j < k; exact hno j hjk; (obtain rfl : j = k := by omega); exact hgd⟩, by omega⟩)
   | (have hgd : goodAt (gr ps) got k := .inr ⟨by rw [hat, hrw]; exact @c4p, fun j hj => hq2 j (by omega)⟩
      rw [hat, if_neg h3p] at hcs
      exact ⟨k + 1, (S.sel [6] rfl).cons S 5 (by rw [hcs]; rfl), S.sel [0, 1] rfl, H, ⟨by omega, fun j hj => by by_cases hjk : j < k; exact hno j hjk; (obtain rfl : j = k := by omega); exact hgd⟩, by omega⟩)
  have h3p := h3; try simp only [DL] at h3p
  refine ZAM <| ZAA <| ZAG <| ZAG <| ZAZ (loud := []) (tails := []) (free := []) [0, 1, 2, 3, 4, 5, 6, 7, 8, 9] [] Fmo (by kernel_rfl) (by kernel_rfl) rfl H ?_
  refine m_q rfl S (fun w H => ZAL rfl S rfl) fun a S => m_q rfl S (fun w H => ZAL rfl S rfl) fun a S => m_q rfl S (fun w H => ZAI rfl underlying62 Fsiz37 S H rfl rfl (by omega)) fun a S => ?_
  refine m_loads _ rfl rfl (wn rfl) rfl rfl S rfl ZBX rfl (by omega) rfl fun a S => ?_
  refine m_q rfl S (fun w H => ZAL rfl S rfl) fun a S => m_q rfl S (fun w H => ZAL rfl S rfl) fun a S => m_q rfl S (fun w H => ZAI rfl underlying37 ZA5 S H rfl rfl (by omega)) fun a S => ?_
  refine m_loads _ rfl rfl (wn rfl) rfl rfl S rfl ZAN rfl (by omega) rfl fun a S => ?_
  refine m_c rfl rfl (wn rfl) rfl rfl S (fun w => ZAi rfl call38 S rfl) (fun w H => in_spec ps[k].1 ps[k].2 got[k] _ (H.sl _)) fun a S => m_q rfl S (fun w H => ZBV rfl S rfl) fun a S => ZBY (fun w H => ZAA ?_)
  have S := S.sel [33, 5, 6, 0, 1] rfl
  refine c_if S rfl (fun h4 => ?_) (fun h4 => ?_)
  ·have h4p := h4; try simp only [DL] at h4p
   refine gsr <| q_as S rfl fun a S => gnt <| ZAe <| ZAX (ZAm (ZAX (ZAX (ZAm (ZAX (ret1 rfl S rfl ?_))))))
   exact ⟨by rw [size_no k hkl (fun h => h.elim (fun h => h3p (by rw [← hat]; exact h)) (fun h => h4p (by rw [← hat, ← hrw]; exact h.1)))], H.toExt⟩
  have h4p := h4; try simp only [DL] at h4p
  refine ZAM <| ZAA <| ZAG <| gsr <| q_as S rfl fun a S => gnt <| ZAD ?_
  have SU := S.sel [5, 6, 0, 1] rfl
  refine ZB4 (X := Nat) SU (fun q => [(7, .int .i64 (q : Int))]) (fun q => q ≤ k ∧ ∀ j, j < q → atI got j ≠ atI got k) (fun q => k - q) 0 (S.sel [7] rfl) H (⟨by omega, fun j hj => by omega⟩) (fun q a w S H hi => ?_)
  simp only [List.cons_append, List.nil_append] at S hi
  obtain ⟨hq, hq2⟩ := hi
  refine ZAG <| gsr <| q_mv S rfl fun a S => q_mv S rfl fun a S => q_bn S rfl fun a S => gnt <| c_if S rfl (fun h5 => ?_) (fun h5 => ?_)
  ·have h5p := h5; try simp only [DL] at h5p
   have hql : q < got.length := by omega
   have hatq := atI_eq hql
   refine ZAM <| ZAA <| ZAG <| ZAD <| ZAG <| ZAZ (loud := []) (tails := []) (free := []) [0, 1, 2, 3, 4, 5, 6, 7, 8] [] Fmo (by kernel_rfl) (by kernel_rfl) rfl H ?_
   refine m_q rfl S (fun w H => ZAL rfl S rfl) fun a S => m_q rfl S (fun w H => ZAL rfl S rfl) fun a S => m_q rfl S (fun w H => ZAI rfl underlying37 ZA5 S H rfl rfl (by omega)) fun a S => ?_
   refine m_loads _ rfl rfl (wn rfl) rfl rfl S rfl ZAN rfl (by omega) rfl fun a S => ?_
   refine m_q rfl S (fun w H => ZAL rfl S rfl) fun a S => m_q rfl S (fun w H => ZAL rfl S rfl) fun a S => m_q rfl S (fun w H => ZAI rfl underlying37 ZA5 S H rfl rfl (by omega)) fun a S => ?_
   refine m_loads _ rfl rfl (wn rfl) rfl rfl S rfl ZAN rfl (by omega) rfl fun a S => ?_
   refine m_q rfl S (fun w H => ZAn rfl S rfl rfl rfl) fun a S => ZBY (fun w H => ZAA ?_)
   have S := S.sel [47, 7, 5, 6, 0, 1] rfl
   refine c_if S rfl (fun h6 => ?_) (fun h6 => ?_)
   ·have h6p := h6; try simp only [DL] at h6p
    refine gsr <| q_as S rfl fun a S => gnt <| ZAe <| ZAm (ZAX (ZAX (ZAm (ZAX (ZAm (ZAX (ZAX (ZAm (ZAX (ret1 rfl S rfl ?_))))))))))
    exact ⟨by rw [size_no k hkl (fun h => h.elim (fun h => h3p (by rw [← hat]; exact h)) (fun h => h.2 q (by omega) (by rw [hatq, hat]; exact h6p)))], H.toExt⟩
   have h6p := h6; try simp only [DL] at h6p
   refine ZAM <| ZAK <| ZAA <| ZAB <| q_mv S rfl fun a S => q_ad S rfl (by omega) fun a S => ?_
   refine q_as S rfl fun a S => gnt <| ⟨q + 1, S.sel [7] rfl, S.sel [5, 6, 0, 1] rfl, H, ?_, ?_⟩
   · exact ⟨by omega, fun j hj => by by_cases hj2 : j < q; exact hq2 j hj2; (obtain rfl : j = q := by omega); rw [hatq, hat]; exact h6p⟩
   omega
  have h5p := h5; try simp only [DL] at h5p
  refine ZAf <| ZAO (ZAO (x_eq ?_))
  refine ZAA ?_
  have S := S.sel [5, 6, 0, 1] rfl
  refine ZAB <| q_mv S rfl fun a S => q_ad S rfl (by omega) fun a S => ?_
  refine q_as S rfl fun a S => ZAj <| ZAK <| ZAA <| ZAB <| q_mv S rfl fun a S => q_ad S rfl (by omega) fun a S => ?_
  refine q_as S rfl fun a S => gnt ?_
  first
  | (have hgd : goodAt (gr ps) got k := .inl (by rw [hat]; exact h3p)
     rw [hat, if_pos h3p] at hcs
     exact ⟨k + 1, (S.sel [6] rfl).cons S 5 (by rw [hcs]; rfl), S.sel [0, 1] rfl, H, ⟨by omega, fun j hj => by by_cases hjk : j < k; exact hno j hjk; (obtain rfl : j = k := by omega); exact hgd⟩, by omega⟩)
  | (have hgd : goodAt (gr ps) got k := .inr ⟨by rw [hat, hrw]; exact h4p, fun j hj => hq2 j (by omega)⟩
     rw [hat, if_neg h3p] at hcs
     exact ⟨k + 1, (S.sel [6] rfl).cons S 5 (by rw [hcs]; rfl), S.sel [0, 1] rfl, H, ⟨by omega, fun j hj => by by_cases hjk : j < k; exact hno j hjk; (obtain rfl : j = k := by omega); exact hgd⟩, by omega⟩)
 have h2p := h2; try simp only [DL] at h2p
 refine ZAf <| ZAO (ZAO (x_eq ?_))
 refine ZAA ?_
 have S := S.sel [5] rfl
 refine gsr <| q_mv S rfl fun a S => q_as S rfl fun a S => gnt <| ZAe <| ret1 rfl S rfl ?_
 obtain rfl : k = got.length := by omega
 exact ⟨by rw [size_yes hlen hno], H.toExt⟩
theorem check1_spec (n : Int) (b m : Nat) (s : List Int) (c : Nat) (w0 : World) (hb : w0.heap[b]? = some (.cells [Value.map (some m)].toArray 60 (0, 0))) (hm : IsMap w0 m (fun n : Int => .int .i64 n) (fun b : Bool => .bool b) (memS s) c) :
    Ret Tryz.prog 37 #[.int .i64 n, .pointer (some ⟨b, 0, none⟩)] w0 (fun u w => u = .bool (!decide (n ∈ s)) ∧ Ext w0 w) := by
 refine ZAE (nt := 8) Tryz.func37 rfl rfl rfl (fl := [(0, .int .i64 n), (1, .pointer (some ⟨b, 0, none⟩))]) rfl (fun a S => ?_)
 have H := HSat.start w0
 have H := H.ro0 (Atom.ro (Cel b 60 [.map (some m)])) rfl (hb)
 have H := H.ro0 (Atom.ro (MapA m (fun n : Int => .int .i64 n) (fun b : Bool => .bool b) (memS (s)) c)) rfl (hm)
 refine gsr <| q_as S rfl fun a S => gnt <| gsr <| q_ld S H Fsca60 rfl rfl fun a S => q_mv S rfl fun a S => gq rfl S (y_lookup (_) (false) rfl underlying60 ZBR S H rfl (ZAv underlying3) (by exact rfl) (by exact rfl)) fun a S => ?_
 refine gq rfl S (ZBV rfl S rfl) fun a S => q_as S rfl fun a S => gnt ?_
 have S := S.sel [3] rfl
 exact ZAe <| ret1 rfl S rfl <| ⟨by rw [memS_get], H.toExt⟩
set_option maxHeartbeats 2000000 in
theorem check_spec (v : Value) (ps : List (Value × List Int)) (right : Int) (v2 : Value) (got : List Int) (vl vr : Value) (left cover : List Int) (w0 : World) (hv : IsSl w0 v 1 ZAo ps) (hr : ∀ p ∈ ps, IsSl w0 p.1 1 encI p.2) (hg : IsSl w0 v2 1 encI got) (hvl : IsSl w0 vl 1 encI left) (hvr : IsSl w0 vr 1 encI cover) (hcl : capOK vl) (hl1 : left.length ≤ 1000000) (hl2 : cover.length ≤ 1000000) :
    Ret Tryz.prog 13 #[v, .int .i64 right, v2, .agg #[vl, vr]] w0 (fun u w => u = .bool (checkL (gr ps) right got left cover) ∧ Ext w0 w) := by
 refine ZAE (nt := 107) Tryz.func13 rfl rfl rfl (fl := [(0, v), (1, .int .i64 right), (2, v2), (3, .agg #[vl, vr])]) rfl (fun a S => ?_)
 have H := HSat.start w0
 have H := H.ro0 (Sl v 1 ZAo ps) rfl (hv)
 have H := H.ro0 (ZBC 1 encI ps) rfl (hr)
 have H := H.ro0 (Sl vl 1 encI left) rfl (hvl)
 have H := H.ro0 (Sl vr 1 encI cover) rfl (hvr)
 have H := H.ro0 (Sl v2 1 encI got) rfl (hg)
 have hl := hv.len
 have hlen := gr_len ps
 have hlg := hg.len
 refine gsr <| ZAF (ZAu (wn rfl) rfl rfl rfl S H rfl fun b7 a w S H => q_as S rfl fun a S => gnt ?_)
 refine ZAG <| gsr <| q_mv S rfl fun a S => q_mv S rfl fun a S => q_cl S rfl call34 (valid_spec v ps right _ (H.sl v) (H.rwsS ps)) fun v w hc a S => ?_
 obtain ⟨rfl, he⟩ := hc
 have H := H.ext he
 refine gq rfl S (ZBV rfl S rfl) fun a S => q_mv S rfl fun a S => ?_
 refine' ZBH 5 21 rfl S H rfl rfl rfl rfl rfl rfl rfl (fun _ S => (wn rfl)) (fun h1 kk => ?yh1) (fun a w S H => ?_)
 case yh1 =>
  exact gz 21 h1 S rfl rfl rfl rfl rfl rfl (ZAL rfl S rfl) fun a S => gz 21 h1 S rfl rfl rfl rfl rfl rfl (ZAT rfl underlying37 S H rfl) fun a S => gz 21 h1 S rfl rfl rfl rfl rfl rfl (ZAL rfl S rfl) fun a S => gz 21 h1 S rfl rfl rfl rfl rfl rfl (ZAT rfl underlying62 S H rfl) fun a S => gz 21 h1 S rfl rfl rfl rfl rfl rfl (ZAn rfl S rfl rfl rfl) fun a S => gq rfl S (ZAz rfl h1 S rfl rfl) fun a S => kk _ _ (S.join 6 27 rfl rfl) H
 refine q_mv S rfl fun a S => ?_
 refine' ZBH 6 28 rfl S H rfl rfl rfl rfl rfl rfl rfl (fun _ S => (wn rfl)) (fun h2 kk => ?yh2) (fun a w S H => ?_)
 case yh2 =>
  refine gz 28 h2 S rfl rfl rfl rfl rfl rfl (ZAC rfl Ffo39_0 S rfl) fun a S => gz 28 h2 S rfl rfl rfl rfl rfl rfl (ZAJ rfl ZBX S H rfl rfl) fun a S => gz 28 h2 S rfl rfl rfl rfl rfl rfl (ZAL rfl S rfl) fun a S => gz 28 h2 S rfl rfl rfl rfl rfl rfl (ZAT rfl underlying62 S H rfl) fun a S => ZAF (ZAV (wg' 28 rfl rfl S rfl h2 rfl) rfl rfl S (ZAi rfl call35 S rfl) (increasing_spec vl left _ _ (H.sl _)) fun v w hc a S => ?_)
  obtain ⟨rfl, he⟩ := hc
  have H := H.ext he
  exact gz 28 h2 S rfl rfl rfl rfl rfl rfl (ZBV rfl S rfl) fun a S => gq rfl S (ZAz rfl h2 S rfl rfl) fun a S => kk _ _ (S.join 7 35 rfl rfl) H
 refine q_mv S rfl fun a S => ?_
 refine' ZBH 5 36 rfl S H rfl rfl rfl rfl rfl rfl rfl (fun _ S => (wn rfl)) (fun h3 kk => ?yh3) (fun a w S H => ?_)
 case yh3 =>
  refine gz 36 h3 S rfl rfl rfl rfl rfl rfl (ZAC rfl Ffo39_1 S rfl) fun a S => gz 36 h3 S rfl rfl rfl rfl rfl rfl (ZAJ rfl ZBX S H rfl rfl) fun a S => gz 36 h3 S rfl rfl rfl rfl rfl rfl (ZAL rfl S rfl) fun a S => ZAF (ZAV (wg' 36 rfl rfl S rfl h3 rfl) rfl rfl S (ZAi rfl call35 S rfl) (increasing_spec vr cover _ _ (H.sl _)) fun v w hc a S => ?_)
  obtain ⟨rfl, he⟩ := hc
  have H := H.ext he
  exact gz 36 h3 S rfl rfl rfl rfl rfl rfl (ZBV rfl S rfl) fun a S => gq rfl S (ZAz rfl h3 S rfl rfl) fun a S => kk _ _ (S.join 6 42 rfl rfl) H
 refine gnt ?_
 have S := S.sel [42, 8, 7, 0, 2] rfl
 refine c_if S rfl (fun h4 => ?_) (fun h4 => ?_)
 ·have h4p := h4; try simp only [DL] at h4p
  refine gsr <| q_as S rfl fun a S => gnt <| ZAe <| ZAX (ret1 rfl S rfl ?_)
  refine ⟨congrArg Value.bool (check_no_pre ?_).symm, H.toExt⟩
  rw [hlen]
  rcases h4p with ((h | h) | h) | h
  · exact .inl h
  · exact .inr (.inl (by omega))
  · exact .inr (.inr (.inl h))
  exact .inr (.inr (.inr h))
 have h4p := h4; try simp only [DL] at h4p
 have hvg : ZBm (gr ps) right = true := h4p.1.1.1
 have hgl : got.length = (gr ps).length := by have := h4p.1.1.2; omega
 have hf1 : formedB left (gr ps).length = true := by rw [hlen]; exact h4p.1.2
 have hf2 : formedB cover right = true := h4p.2
 refine ZAM <| ZAA <| gsr <| ZAF (ZBK (fun n : Int => .int .i64 n) (fun b : Bool => .bool b) (wn rfl) rfl rfl rfl S H fun b43 a w S H => ZAF (ZBK (fun n : Int => .int .i64 n) (fun b : Bool => .bool b) (wn rfl) rfl rfl rfl S H fun b44 a w S H => q_al S H rfl Fzer60 fun b10 a w S H => q_as S rfl fun a S => q_st S H rfl rfl Fsiz60 rfl fun a w S H => ?_))
 dsimp only [List.set, Nat.zero_add, Nat.reduceAdd] at H
 refine gnt <| ZAG <| gsr <| q_fa S Ffo39_1 rfl fun a S => q_ld S H ZBX rfl rfl fun a S => gq rfl S (ZAT rfl underlying37 S H rfl) fun a S => q_mv S rfl fun a S => gnt ?_
 have S := S.sel [48, 47, 46, 9, 10, 8, 7, 0, 2] rfl
 refine ZAD ?_
 have H : HSat No w0 [Cel b10 60 [.map (some b44)], MapA b44 (fun n : Int => .int .i64 n) (fun b : Bool => .bool b) (memS ((cover.take 0).reverse)) 0, MapA b43 (fun n : Int => .int .i64 n) (fun b : Bool => .bool b) (memS ([])) 0, Cel b7 39 [vl, vr], Sl v2 1 encI got, Sl vr 1 encI cover, Sl vl 1 encI left, ZBC 1 encI ps, Sl v 1 ZAo ps] _ := H
 have SU := S.sel [47, 46, 9, 10, 8, 7, 0, 2] rfl
 refine ZBL (X := Nat) SU (fun k => [(48, .int .i64 (k : Int))]) (fun k w => k ≤ cover.length ∧ ∃ c, HSat No w0 [MapA b44 (fun n : Int => .int .i64 n) (fun b : Bool => .bool b) (memS ((cover.take k).reverse)) c, MapA b43 (fun n : Int => .int .i64 n) (fun b : Bool => .bool b) (memS ([])) 0, Cel b10 60 [.map (some b44)], Cel b7 39 [vl, vr], Sl v2 1 encI got, Sl vr 1 encI cover, Sl vl 1 encI left, ZBC 1 encI ps, Sl v 1 ZAo ps] w) (fun k => cover.length - k) 0 (S.sel [48] rfl) (⟨by omega, 0, H.take [MapA b44 (fun n : Int => .int .i64 n) (fun b : Bool => .bool b) (memS ((cover.take 0).reverse)) 0, MapA b43 (fun n : Int => .int .i64 n) (fun b : Bool => .bool b) (memS ([])) 0, Cel b10 60 [.map (some b44)], Cel b7 39 [vl, vr], Sl v2 1 encI got, Sl vr 1 encI cover, Sl vl 1 encI left, ZBC 1 encI ps, Sl v 1 ZAo ps]⟩) (fun k a w S hW => ?_)
 simp only [List.cons_append, List.nil_append] at S
 obtain ⟨hk, c, H⟩ := hW
 refine gsr <| q_bn S rfl fun a S => gnt <| ZAG <| c_if S rfl (fun h5 => ?_) (fun h5 => ?_)
 ·have h5p := h5; try simp only [DL] at h5p
  refine ZAM <| ZAA <| ZAG <| ZAD <| gsr <| gq rfl S (ZAI rfl underlying37 ZA5 S H rfl rfl (by omega)) fun a S => ?_
  refine gq rfl S (ZA6 _ rfl ZAN S H rfl (by omega) rfl) fun a S => ?_
  refine q_as S rfl fun a S => gnt <| ZAB <| q_ld S H Fsca60 rfl rfl fun a S => q_mv S rfl fun a S => ZAF (ZBA (_) (_) (wn rfl) rfl rfl underlying60 S H rfl (ZAv underlying3) (by exact rfl) (by exact rfl) fun a w S H => ?_)
  refine ZAj <| ZAK <| ZAA ?_
  have S := S.sel [48, 47, 46, 9, 10, 8, 7, 0, 2] rfl
  refine ZAB <| q_ad S rfl (by omega) fun a S => ?_
  refine q_mv S rfl fun a S => gnt ?_
  have e : (cover.take (k + 1)).reverse = cover[k] :: (cover.take k).reverse := by rw [List.take_succ_eq_append_getElem (by omega)]; simp
  refine ⟨k + 1, S.sel [48] rfl, S.sel [47, 46, 9, 10, 8, 7, 0, 2] rfl, ⟨by omega, ?_⟩, by omega⟩
  rw [e]; exact ⟨_, H⟩
 have h5p := h5; try simp only [DL] at h5p
 obtain rfl : k = cover.length := by omega
 rw [List.take_length] at H
 obtain ⟨c0, hc0⟩ : ∃ c0, c0 = c := ⟨_, rfl⟩
 rw [← hc0] at H
 refine ZAf <| ZAO (ZAO (x_eq ?_))
 refine ZAA ?_
 have S := S.sel [9, 10, 8, 7, 0, 2] rfl
 refine gsr <| q_fa S Ffo39_0 rfl fun a S => q_ld S H ZBX rfl rfl fun a S => q_as S rfl fun a S => gnt <| ZAG <| gsr <| q_mv S rfl fun a S => ?_
 refine gq rfl S (ZAT rfl underlying62 S H rfl) fun a S => q_mv S rfl fun a S => gnt <| ZAD ?_
 have H : HSat No w0 [MapA b44 (fun n : Int => .int .i64 n) (fun b : Bool => .bool b) (memS (cover.reverse)) c0, MapA b43 (fun n : Int => .int .i64 n) (fun b : Bool => .bool b) (memS (usedR got 0)) (cntM got 0), Cel b10 60 [.map (some b44)], Cel b7 39 [vl, vr], Sl v2 1 encI got, Sl vr 1 encI cover, Sl vl 1 encI left, ZBC 1 encI ps, Sl v 1 ZAo ps] _ := H
 have SU := S.sel [58, 57, 9, 10, 7, 2] rfl
 refine ZBL (X := Nat × Value) SU (fun x => [(13, x.2), (59, .int .i64 (x.1 : Int))]) (fun x w => x.1 ≤ ps.length ∧ (∀ i, i < x.1 → goodAt (gr ps) got i) ∧ (∀ i, i < x.1 → covAt (gr ps) left cover i) ∧ (∃ q, RestAt left x.1 q ∧ IsSl w0 x.2 1 encI (left.drop q) ∧ capOK x.2) ∧ HSat No w0 [MapA b43 (fun n : Int => .int .i64 n) (fun b : Bool => .bool b) (memS (usedR got x.1)) (cntM got x.1), MapA b44 (fun n : Int => .int .i64 n) (fun b : Bool => .bool b) (memS (cover.reverse)) c0, Cel b10 60 [.map (some b44)], Cel b7 39 [vl, vr], Sl v2 1 encI got, Sl vr 1 encI cover, Sl vl 1 encI left, ZBC 1 encI ps, Sl v 1 ZAo ps] w) (fun x => ps.length - x.1) (0, vl) (S.sel [13, 59] rfl) (⟨by simp, fun i h => by simp at h, fun i h => by simp at h, ⟨0, rest_start (ZBD.1 hf1), by simpa using hvl, hcl⟩, H.take [MapA b43 (fun n : Int => .int .i64 n) (fun b : Bool => .bool b) (memS (usedR got 0)) (cntM got 0), MapA b44 (fun n : Int => .int .i64 n) (fun b : Bool => .bool b) (memS (cover.reverse)) c0, Cel b10 60 [.map (some b44)], Cel b7 39 [vl, vr], Sl v2 1 encI got, Sl vr 1 encI cover, Sl vl 1 encI left, ZBC 1 encI ps, Sl v 1 ZAo ps]⟩) (fun x a w S hW => ?_)
 simp only [List.cons_append, List.nil_append] at S
 obtain ⟨i, vrest⟩ := x
 obtain ⟨hi, hgood, hcov, ⟨q, hq, hrs, hrc⟩, H⟩ := hW
 dsimp only at S H hi hgood hcov hq hrs hrc
 have H := (H.ro0 (Sl vrest 1 encI (left.drop q)) rfl hrs).ro0 (CapA vrest) rfl hrc
 refine gsr <| q_bn S rfl fun a S => gnt <| ZAG <| c_if S rfl (fun h6 => ?_) (fun h6 => ?_)
 ·have h6p := h6; try simp only [DL] at h6p
  have hkp : i < ps.length := by omega
  have hkg : i < got.length := by omega
  have hat := atI_eq hkg
  have hrw := gr_row ps hkp
  have hcs := cntM_succ got i
  have hcml := cntM_le got i
  have hrm := rest_mem hq (ZBD.1 hf1)
  have hdl : (left.drop q).length = left.length - q := List.length_drop
  refine ZAM <| ZAA <| ZAG <| ZAD <| gsr <| q_mv S rfl fun a S => gq rfl S (ZAI rfl underlying62 Fsiz37 S H rfl rfl (by omega)) fun a S => ?_
  refine gq rfl S (ZA6 _ rfl ZBX S H rfl (by omega) rfl) fun a S => ?_
  refine q_as S rfl fun a S => q_as S rfl fun a S => gnt ?_
  have S := S.sel [15, 14, 13, 59, 58, 57, 9, 10, 7, 2] rfl
  refine ZAG <| gsr <| q_mv S rfl fun a S => q_mv S rfl fun a S => gq rfl S (ZAI rfl underlying37 ZA5 S H rfl rfl (by omega)) fun a S => ?_
  refine gq rfl S (ZA6 _ rfl ZAN S H rfl (by omega) rfl) fun a S => ?_
  refine q_as S rfl fun a S => gnt ?_
  have S := S.sel [16, 15, 14, 13, 59, 58, 57, 9, 10, 7, 2] rfl
  refine gsr <| q_mv S rfl fun a S => q_bn S rfl fun a S => gnt <| cut (fun a w => St 107 [(2, v2), (7, .pointer (some ⟨b7, 0, none⟩)), (9, .map (some b43)), (10, .pointer (some ⟨b10, 0, none⟩)), (13, vrest), (14, .int .i64 (i : Int)), (15, ps[i].1), (57, v), (58, .int .i64 (ps.length : Int)), (59, .int .i64 (i : Int))] a ∧ goodAt (gr ps) got i ∧ HSat No w0 [MapA b43 (fun n : Int => .int .i64 n) (fun b : Bool => .bool b) (memS (usedR got (i + 1))) (cntM got (i + 1)), MapA b44 (fun n : Int => .int .i64 n) (fun b : Bool => .bool b) (memS (cover.reverse)) c0, Cel b10 60 [.map (some b44)], Cel b7 39 [vl, vr], Sl v2 1 encI got, Sl vr 1 encI cover, Sl vl 1 encI left, ZBC 1 encI ps, Sl v 1 ZAo ps] w) ?_ ?_
  ·skip
   refine c_if S rfl (fun h7 => ?_) (fun h7 => ?_)
   ·have h7p := h7; try simp only [DL] at h7p
    refine ZAG <| gsr <| q_mv S rfl fun a S => q_mv S rfl fun a S => gq rfl S (y_lookup (_) (false) rfl underlying60 ZBR S H rfl (ZAv underlying3) (by exact rfl) (by exact rfl)) fun a S => ?_
    refine q_mv S rfl fun a S => ?_
    refine' ZBH 4 73 rfl S H rfl rfl rfl rfl rfl rfl rfl (fun _ S => (wn rfl)) (fun h8 kk => ?yh8) (fun a w S H => ?_)
    case yh8 =>
     refine gz 73 h8 S rfl rfl rfl rfl rfl rfl (ZAL rfl S rfl) fun a S => gz 73 h8 S rfl rfl rfl rfl rfl rfl (ZAL rfl S rfl) fun a S => ZAF (ZAV (wg' 73 rfl rfl S rfl h8 rfl) rfl rfl S (ZAi rfl call30 S rfl) (contains_spec ps[i].1 ps[i].2 got[i] _ (H.sl _)) fun v w hc a S => ?_)
     obtain ⟨rfl, he⟩ := hc
     have H := H.ext he
     exact gz 73 h8 S rfl rfl rfl rfl rfl rfl (ZBV rfl S rfl) fun a S => gq rfl S (ZAz rfl h8 S rfl rfl) fun a S => kk _ _ (S.join 5 78 rfl rfl) H
    refine gnt <| c_if S rfl (fun h9 => ?_) (fun h9 => ?_)
    ·have h9p := h9; try simp only [DL] at h9p
     have hx := h9
     rw [memS_get] at hx
     simp only [Bool.or_eq_true, decide_eq_true_eq, Bool.not_eq_true', decide_eq_false_iff_not] at hx
     refine gsr <| q_as S rfl fun a S => gnt <| ZAe <| ZAX (ZAX (ZAm (ZAX (ZAX (ZAm (ZAX (ret1 rfl S rfl ?_)))))))
     exact ⟨congrArg Value.bool (check_no_size i hkg (fun h => h.elim (fun h => h7p (by rw [← hat]; exact h)) (fun h => hx.elim (fun hu => by obtain ⟨j, h1, h2, _⟩ := (usedR_mem got _ i).1 hu; exact h.2 j h1 (by rw [h2, hat])) (fun hu => hu (by rw [← hat, ← hrw]; exact h.1))))).symm, H.toExt⟩
    have h9p := h9; try simp only [DL] at h9p
    have hx := h9
    rw [memS_get] at hx
    simp only [Bool.or_eq_false_iff, decide_eq_false_iff_not, Bool.not_eq_false', decide_eq_true_eq] at hx
    refine ZAM <| ZAA <| ZAB <| q_mv S rfl fun a S => q_mv S rfl fun a S => ZAF (ZBA (_) (_) (wn rfl) rfl rfl underlying60 S H rfl (ZAv underlying3) (by exact rfl) (by exact rfl) fun a w S H => ?_)
    refine gnt ?_
    first
    | (have hc4 : got[i] = -1 := by simpa using h7p
       have hu : usedR got (i + 1) = usedR got i := by rw [usedR, if_pos (by rw [hat]; exact hc4)]
       rw [hat, if_pos hc4, Nat.add_zero] at hcs
       rw [hu, hcs]
       exact ⟨(S.sel [2, 7, 9, 10, 13, 14, 15, 57, 58, 59] rfl), .inl (by rw [hat]; exact hc4), H.take _⟩)
    | (have hu : usedR got (i + 1) = got[i] :: usedR got i := by rw [usedR, if_neg (by rw [hat]; exact h7p), hat]
       rw [hat, if_neg h7p] at hcs
       rw [hu, hcs]
       have hs : (memS (usedR got i) got[i]).isSome = false := by rw [memS_is]; exact decide_eq_false hx.1
       rw [if_neg (by rw [hs]; simp)] at H
       exact ⟨(S.sel [2, 7, 9, 10, 13, 14, 15, 57, 58, 59] rfl), .inr ⟨by rw [hat, hrw]; exact hx.2, fun j hj e => hx.1 ((usedR_mem got _ i).2 ⟨j, hj, by rw [e, hat], h7p⟩)⟩, H.take [MapA b43 (fun n : Int => .int .i64 n) (fun b : Bool => .bool b) (upd (memS (usedR got i)) got[i] true) (cntM got i + 1), MapA b44 (fun n : Int => .int .i64 n) (fun b : Bool => .bool b) (memS (cover.reverse)) c0, Cel b10 60 [.map (some b44)], Cel b7 39 [vl, vr], Sl v2 1 encI got, Sl vr 1 encI cover, Sl vl 1 encI left, ZBC 1 encI ps, Sl v 1 ZAo ps]⟩)
   have h7p := h7; try simp only [DL] at h7p
   refine ZAM <| ZAA ?_
   first
   | (have hc4 : got[i] = -1 := by simpa using h7p
      have hu : usedR got (i + 1) = usedR got i := by rw [usedR, if_pos (by rw [hat]; exact hc4)]
      rw [hat, if_pos hc4, Nat.add_zero] at hcs
      rw [hu, hcs]
      exact ⟨(S.sel [2, 7, 9, 10, 13, 14, 15, 57, 58, 59] rfl), .inl (by rw [hat]; exact hc4), H.take _⟩)
   | (have hu : usedR got (i + 1) = got[i] :: usedR got i := by rw [usedR, if_neg (by rw [hat]; exact h7p), hat]
      rw [hat, if_neg h7p] at hcs
      rw [hu, hcs]
      have hs : (memS (usedR got i) got[i]).isSome = false := by rw [memS_is]; exact decide_eq_false hx.1
      rw [if_neg (by rw [hs]; simp)] at H
      exact ⟨(S.sel [2, 7, 9, 10, 13, 14, 15, 57, 58, 59] rfl), .inr ⟨by rw [hat, hrw]; exact hx.2, fun j hj e => hx.1 ((usedR_mem got _ i).2 ⟨j, hj, by rw [e, hat], h7p⟩)⟩, H.take _⟩)
  rintro a w ⟨S, hgd, H⟩
  have H := (H.ro0 (Sl vrest 1 encI (left.drop q)) rfl hrs).ro0 (CapA vrest) rfl hrc
  refine ZAG <| gsr <| q_mv S rfl fun a S => gq rfl S (ZAT rfl underlying37 S H rfl) fun a S => q_bn S rfl fun a S => q_mv S rfl fun a S => ?_
  refine' wl_and 5 84 rfl S H rfl rfl rfl rfl rfl rfl rfl (fun _ S => (wn rfl)) (fun h10 kk => ?yh10) (fun a w S H => ?_)
  case yh10 =>
   have h10p := h10; try simp only [DL] at h10p
   refine gz 84 h10 S rfl rfl rfl rfl rfl rfl (ZAL rfl S rfl) fun a S => gz 84 h10 S rfl rfl rfl rfl rfl rfl (y_iaddrs rfl underlying37 ZA5 S H rfl rfl (by omega)) fun a S => ?_
   refine gz 84 h10 S rfl rfl rfl rfl rfl rfl (y_loadsD _ (-1) rfl ZAN S H rfl (by first | omega | assumption) rfl) fun a S => ?_
   exact gz 84 h10 S rfl rfl rfl rfl rfl rfl (ZAL rfl S rfl) fun a S => gz 84 h10 S rfl rfl rfl rfl rfl rfl (ZAn rfl S rfl rfl rfl) fun a S => gq rfl S (ZBf rfl h10 S rfl rfl) fun a S => kk _ _ (S.join 6 90 rfl rfl) H
  refine gnt ?_
  have S := S.sel [90, 2, 7, 9, 10, 13, 15, 57, 58, 59] rfl
  refine c_if S rfl (fun h11 => ?_) (fun h11 => ?_)
  ·have h11p := h11; try simp only [DL] at h11p
   have hx6 := h11p
   rw [drop_at, hdl] at hx6
   have hq0 : q < left.length := by have := hx6.1; omega
   have hhit : atI left q = i := hx6.2
   refine gsr ?_
   refine q_mv S rfl fun a S => ?_
   refine gq rfl S (y_sliceL rfl underlying37 ZA5 S H rfl rfl (by first | assumption | omega | (simp only [LL]; omega))) fun a S => ?_
   refine q_as S rfl fun a S => gnt ?_
   have S := S.sel [13, 2, 7, 9, 10, 15, 57, 58, 59] rfl
   refine ZAf <| ZAO (x_eq ?_)
   refine ZAA <| ZAB <| q_ad S rfl (by omega) fun a S => ?_
   refine q_mv S rfl fun a S => gnt ?_
   first
   | (refine ⟨(i + 1, _), S.sel [13, 59] rfl, S.sel [58, 57, 9, 10, 7, 2] rfl, ⟨by dsimp only; omega, fun j hj => ?_, fun j hj => ?_, ⟨q + 1, rest_hit (ZBD.1 hf1) hq hq0 hhit, by have h := hrs.sub hrc 1 (left.drop q).length; rw [List.take_length, List.drop_drop] at h; exact h, capOK_sub hrc _ _ _⟩, H.take _⟩, by dsimp only; omega⟩
      · by_cases hji : j < i
        · exact hgood j hji
        obtain rfl : j = i := by dsimp only at hj; omega
        exact hgd
      by_cases hji : j < i
      · exact hcov j hji
      obtain rfl : j = i := by dsimp only at hj; omega
      exact .inl (hrm.2 ⟨hq0, hhit⟩))
   | (refine ⟨(i + 1, vrest), S.sel [13, 59] rfl, S.sel [58, 57, 9, 10, 7, 2] rfl, ⟨by dsimp only; omega, fun j hj => ?_, fun j hj => ?_, ⟨q, rest_miss (ZBD.1 hf1) hq hmiss, hrs, hrc⟩, H.take [_, _, Cel b10 60 [.map (some b44)], Cel b7 39 [vl, vr], Sl v2 1 encI got, Sl vr 1 encI cover, Sl vl 1 encI left, ZBC 1 encI ps, Sl v 1 ZAo ps]⟩, by dsimp only; omega⟩
      · by_cases hji : j < i
        · exact hgood j hji
        obtain rfl : j = i := by dsimp only at hj; omega
        exact hgd
      by_cases hji : j < i
      · exact hcov j hji
      obtain rfl : j = i := by dsimp only at hj; omega
      exact .inr (by rw [hrw]; exact hall))
  have h11p := h11; try simp only [DL] at h11p
  have hmiss : ¬ (q < left.length ∧ atI left q = i) := fun h => by
    have hx6 := h11p
    rw [drop_at, hdl] at hx6
    rcases hx6 with hx6 | hx6
    · omega
    exact hx6 h.2
  refine ZAM <| ZAA <| gsr <| q_mv S rfl fun a S => gq rfl S (ZAd rfl S rfl rfl) fun a S => q_cl S rfl call36 (containsFunc_spec ps[i].1 ps[i].2 37 [.pointer (some ⟨b10, 0, none⟩)] call37 (fun n => !decide (n ∈ cover.reverse)) _ (H.sl _) (fun x hx w hw => check1_spec x b10 b44 _ _ w ((H.ext hw).rd b10) ((H.ext hw).mp b44))) fun v w hc a S => ?_
  obtain ⟨rfl, he⟩ := hc
  have H := H.ext he
  refine gnt ?_
  have S := S.sel [95, 2, 7, 9, 10, 13, 57, 58, 59] rfl
  refine c_if S rfl (fun h12 => ?_) (fun h12 => ?_)
  ·have h12p := h12; try simp only [DL] at h12p
   obtain ⟨n, hn, hnc⟩ := List.any_eq_true.1 h12
   simp only [List.mem_reverse, Bool.not_eq_true', decide_eq_false_iff_not] at hnc
   refine gsr <| q_as S rfl fun a S => gnt <| ZAe <| ZAm (ZAX (ZAX (ZAm (ZAX (ret1 rfl S rfl ?_)))))
   exact ⟨congrArg Value.bool (check_no_cov i (by omega) (fun h => h.elim (fun h => hmiss (hrm.1 h)) (fun h => hnc (h n (by rw [hrw]; exact hn))))).symm, H.toExt⟩
  have h12p := h12; try simp only [DL] at h12p
  have hall : ∀ n ∈ ps[i].2, n ∈ cover := fun n hn => by
    have := List.any_eq_false.1 h12 n hn
    simpa using this
  refine ZAM <| ZAK <| ZAA <| ZAB <| q_ad S rfl (by omega) fun a S => ?_
  refine q_mv S rfl fun a S => gnt ?_
  first
  | (refine ⟨(i + 1, _), S.sel [13, 59] rfl, S.sel [58, 57, 9, 10, 7, 2] rfl, ⟨by dsimp only; omega, fun j hj => ?_, fun j hj => ?_, ⟨q + 1, rest_hit (ZBD.1 hf1) hq hq0 hhit, by have h := hrs.sub hrc 1 (left.drop q).length; rw [List.take_length, List.drop_drop] at h; exact h, capOK_sub hrc _ _ _⟩, H.take _⟩, by dsimp only; omega⟩
     · by_cases hji : j < i
       · exact hgood j hji
       obtain rfl : j = i := by dsimp only at hj; omega
       exact hgd
     by_cases hji : j < i
     · exact hcov j hji
     obtain rfl : j = i := by dsimp only at hj; omega
     exact .inl (hrm.2 ⟨hq0, hhit⟩))
  | (refine ⟨(i + 1, vrest), S.sel [13, 59] rfl, S.sel [58, 57, 9, 10, 7, 2] rfl, ⟨by dsimp only; omega, fun j hj => ?_, fun j hj => ?_, ⟨q, rest_miss (ZBD.1 hf1) hq hmiss, hrs, hrc⟩, H.take [_, _, Cel b10 60 [.map (some b44)], Cel b7 39 [vl, vr], Sl v2 1 encI got, Sl vr 1 encI cover, Sl vl 1 encI left, ZBC 1 encI ps, Sl v 1 ZAo ps]⟩, by dsimp only; omega⟩
     · by_cases hji : j < i
       · exact hgood j hji
       obtain rfl : j = i := by dsimp only at hj; omega
       exact hgd
     by_cases hji : j < i
     · exact hcov j hji
     obtain rfl : j = i := by dsimp only at hj; omega
     exact .inr (by rw [hrw]; exact hall))
 have h6p := h6; try simp only [DL] at h6p
 refine ZAf <| ZAO (ZAO (x_eq ?_))
 refine ZAA ?_
 have S := S.sel [9, 7] rfl
 refine gsr <| q_mv S rfl fun a S => gq rfl S (y_lenm rfl underlying60 S H rfl) fun a S => q_fa S Ffo39_0 rfl fun a S => q_ld S H ZBX rfl rfl fun a S => gq rfl S (ZAT rfl underlying37 S H rfl) fun a S => q_fa S Ffo39_1 rfl fun a S => q_ld S H ZBX rfl rfl fun a S => ?_
 refine gq rfl S (ZAT rfl underlying37 S H rfl) fun a S => q_ad S rfl (by omega) fun a S => ?_
 refine q_bn S rfl fun a S => q_as S rfl fun a S => gnt ?_
 have S := S.sel [8] rfl
 refine ZAe <| ret1 rfl S rfl ?_
 obtain rfl : i = ps.length := by omega
 have e : got.length = ps.length := by omega
 refine ⟨?_, H.toExt⟩
 rw [check_yes hvg hgl hf1 hf2 (fun j hj => hgood j (by omega)) (fun j hj => hcov j (by omega)), e]
 rfl
theorem numbers_spec (p : Pl) (w0 : World) :
    Ret Tryz.prog 76 #[.agg (Pl.enc p).toArray] w0 (fun v w => v = .agg (spotL p).toArray ∧ Ext w0 w) := by
 refine ZAE (nt := 12) Tryz.func76 rfl rfl rfl (fl := [(0, .agg (Pl.enc p).toArray)]) rfl (fun a S => ?_)
 have H := HSat.start w0
 refine gsr <| ZAF (ZAu (wn rfl) rfl rfl rfl S H rfl fun b1 a w S H => q_al S H rfl Fzer152 fun b2 a w S H => gnt ?_)
 refine gsr <| q_fa S Ffo57_1 rfl fun a S => q_ld S H ZAN rfl rfl fun a S => q_fa S Ffo57_2 rfl fun a S => q_ld S H ZAN rfl rfl fun a S => q_fa S Ffo57_3 rfl fun a S => q_ld S H ZAN rfl rfl fun a S => q_fa S Ffo57_4 rfl fun a S => ?_
 refine q_ld S H ZAN rfl rfl fun a S => ?_
 refine gq rfl S (ZAx rfl Fbld152 S rfl (idx := [0, 1, 2, 3]) rfl (cs := [_, _, _, _]) rfl) fun a S => ?_
 refine ZAF (ZAQ (wn rfl) rfl rfl S H rfl rfl rfl Fsiz152 rfl (cs' := [_, _, _, _]) rfl fun a w S H => ?_)
 refine gnt ?_
 have S := S.sel [2] rfl
 refine ZAe <| retc rfl S H rfl (by exact Fagg152) ?_
 exact ⟨rfl, H.toExt⟩
theorem equal_spec (v1 v2 : Value) (xs ys : List Int) (w0 : World) (hv1 : IsSl w0 v1 1 encI xs) (hv2 : IsSl w0 v2 1 encI ys) :
    Ret Tryz.prog 31 #[v1, v2] w0 (fun u w => u = .bool (decide (xs = ys)) ∧ Ext w0 w) := by
 refine ZAE (nt := 26) Tryz.func31 rfl rfl rfl (fl := [(0, v1), (1, v2)]) rfl (fun a S => ?_)
 have H := HSat.start w0
 have H := H.ro0 (Sl v1 1 encI xs) rfl (hv1)
 have H := H.ro0 (Sl v2 1 encI ys) rfl (hv2)
 have hl1 := hv1.len
 have hl2 := hv2.len
 refine gsr <| q_as S rfl fun a S => gnt <| ZAG <| gsr <| q_mv S rfl fun a S => gq rfl S (ZAT rfl underlying37 S H rfl) fun a S => q_mv S rfl fun a S => ?_
 refine gq rfl S (ZAT rfl underlying37 S H rfl) fun a S => q_bn S rfl fun a S => gnt ?_
 have S := S.sel [10, 4, 0, 1] rfl
 refine c_if S rfl (fun h1 => ?_) (fun h1 => ?_)
 ·have h1p := h1; try simp only [DL] at h1p
  refine gsr <| q_as S rfl fun a S => gnt <| ZAe <| ZAX (ret1 rfl S rfl ?_)
  exact ⟨congrArg Value.bool (decide_eq_false (fun e => by have := h1p; subst e; omega)).symm, H.toExt⟩
 have h1p := h1; try simp only [DL] at h1p
 have hll : xs.length = ys.length := by have := h1p; omega
 refine ZAM <| ZAA <| ZAG <| gsr <| q_mv S rfl fun a S => gq rfl S (ZAT rfl underlying37 S H rfl) fun a S => q_mv S rfl fun a S => gnt ?_
 refine ZAD ?_
 have SU := S.sel [12, 0, 1] rfl
 refine ZB4 (X := Nat) SU (fun k => [(13, .int .i64 (k : Int))]) (fun k => k ≤ xs.length ∧ ∀ j (h : j < xs.length) (h2 : j < ys.length), j < k → xs[j] = ys[j]) (fun k => xs.length - k) 0 (S.sel [13] rfl) H (⟨by omega, fun j h h2 hj => by omega⟩) (fun k a w S H hi => ?_)
 simp only [List.cons_append, List.nil_append] at S hi
 obtain ⟨hk, hno⟩ := hi
 refine gsr <| q_bn S rfl fun a S => gnt <| ZAG <| c_if S rfl (fun h2 => ?_) (fun h2 => ?_)
 ·have h2p := h2; try simp only [DL] at h2p
  refine ZAM <| ZAA <| ZAG <| ZAD <| gsr <| q_mv S rfl fun a S => q_as S rfl fun a S => gnt ?_
  refine ZAG <| ZAZ (loud := []) (tails := []) (free := []) [0, 1, 2, 3, 4, 5, 6, 7, 8] [] Fmo (by kernel_rfl) (by kernel_rfl) rfl H ?_
  refine m_q rfl S (fun w H => ZAL rfl S rfl) fun a S => m_q rfl S (fun w H => ZAL rfl S rfl) fun a S => m_q rfl S (fun w H => ZAI rfl underlying37 ZA5 S H rfl rfl (by omega)) fun a S => ?_
  refine m_loads _ rfl rfl (wn rfl) rfl rfl S rfl ZAN rfl (by omega) rfl fun a S => ?_
  refine m_q rfl S (fun w H => ZAL rfl S rfl) fun a S => m_q rfl S (fun w H => ZAL rfl S rfl) fun a S => m_q rfl S (fun w H => ZAI rfl underlying37 ZA5 S H rfl rfl (by omega)) fun a S => ?_
  refine m_loads _ rfl rfl (wn rfl) rfl rfl S rfl ZAN rfl (by omega) rfl fun a S => ?_
  refine m_q rfl S (fun w H => ZAn rfl S rfl rfl rfl) fun a S => ZBY (fun w H => ZAA ?_)
  have S := S.sel [24, 13, 12, 0, 1] rfl
  refine c_if S rfl (fun h3 => ?_) (fun h3 => ?_)
  ·have h3p := h3; try simp only [DL] at h3p
   refine gsr <| q_as S rfl fun a S => gnt <| ZAe <| ZAm (ZAX (ZAX (ZAm (ZAX (ret1 rfl S rfl ?_)))))
   exact ⟨congrArg Value.bool (decide_eq_false (fun e => h3p (by subst e; rfl))).symm, H.toExt⟩
  have h3p := h3; try simp only [DL] at h3p
  refine ZAM <| ZAK <| ZAA <| ZAB <| q_ad S rfl (by omega) fun a S => ?_
  refine q_mv S rfl fun a S => gnt <| ⟨k + 1, S.sel [13] rfl, S.sel [12, 0, 1] rfl, H, ?_, ?_⟩
  · exact ⟨by omega, fun j h h2 hj => by by_cases hjk : j < k; exact hno j h h2 hjk; (obtain rfl : j = k := by omega); exact h3p⟩
  omega
 have h2p := h2; try simp only [DL] at h2p
 refine ZAf <| ZAO (ZAO (x_eq ?_))
 refine ZAA ?_
 have S := S.nil
 exact gsr <| q_as S rfl fun a S => gnt <| ZAe <| ret1 rfl S rfl <| ⟨congrArg Value.bool (decide_eq_true (List.ext_getElem hll (fun j h h2 => hno j h h2 (by omega)))).symm, H.toExt⟩
theorem mul64_spec (n : Nat) (w0 : World) (hn : n < 4294967296) :
    Ret Tryz.prog 124 #[.int .u64 (1 : Int), .int .u64 (n : Int)] w0 (fun u w => u = .tuple #[.int .u64 0, .int .u64 (n : Int)] ∧ Ext w0 w) := by
 refine ZAE (nt := 51) Tryz.func124 rfl rfl rfl (fl := [(0, .int .u64 (1 : Int)), (1, .int .u64 (n : Int))]) rfl (fun a S => ?_)
 have H := HSat.start w0
 refine gsr <| q_as S rfl fun a S => q_as S rfl fun a S => gnt <| gsr <| q_mv S rfl fun a S => gq rfl S ((y_andu (m := 1) (q := 4294967295) (r := 1) rfl S rfl rfl (by omega) (by omega) rfl)) fun a S => ?_
 refine q_as S rfl fun a S => gnt <| gsr <| q_mv S rfl fun a S => gq rfl S ((y_shr (r := 0) rfl S rfl rfl (by omega) rfl)) fun a S => ?_
 refine q_as S rfl fun a S => gnt ?_
 have S := S.sel [7, 6, 5, 4, 0, 1] rfl
 refine gsr <| q_mv S rfl fun a S => gq rfl S ((y_andu (m := n) (q := 4294967295) (r := n) rfl S rfl rfl (by omega) (by omega) (by have := Nat.and_two_pow_sub_one_eq_mod n 32; rw [show (4294967295 : Nat) = 2 ^ 32 - 1 by rfl, this]; omega))) fun a S => ?_
 refine q_as S rfl fun a S => gnt <| gsr <| q_mv S rfl fun a S => gq rfl S ((y_shr (r := 0) rfl S rfl rfl (by omega) (by show Int.fdiv n 4294967296 = 0; rw [Int.fdiv_eq_ediv_of_nonneg _ (by omega)]; omega))) fun a S => ?_
 refine q_as S rfl fun a S => gnt ?_
 have S := S.sel [9, 8, 7, 6, 5, 4, 0, 1] rfl
 refine gsr <| q_mv S rfl fun a S => q_mv S rfl fun a S => gq rfl S ((ZAn (v := .int .u64 ((n : Nat) : Int)) rfl S rfl rfl (by simp only [intOp]; congr 2; rw [IntKind.wrap_u64]; omega))) fun a S => ?_
 refine q_as S rfl fun a S => gnt <| gsr <| q_mv S rfl fun a S => q_mv S rfl fun a S => gq rfl S ((ZAn (v := .int .u64 (0 : Int)) rfl S rfl rfl (by simp only [intOp]; simp; rfl))) fun a S => ?_
 refine q_mv S rfl fun a S => gq rfl S ((y_shr (r := 0) rfl S rfl rfl (by omega) (by show Int.fdiv n 4294967296 = 0; rw [Int.fdiv_eq_ediv_of_nonneg _ (by omega)]; omega))) fun a S => ?_
 refine gq rfl S ((ZAn (v := .int .u64 (0 : Int)) rfl S rfl rfl (by simp only [intOp]; rfl))) fun a S => ?_
 refine q_as S rfl fun a S => gnt ?_
 have S := S.sel [11, 9, 7, 6, 5, 4, 0, 1] rfl
 refine gsr <| q_mv S rfl fun a S => gq rfl S ((y_andu (m := 0) (q := 4294967295) (r := 0) rfl S rfl rfl (by omega) (by omega) rfl)) fun a S => ?_
 refine q_as S rfl fun a S => gnt <| gsr <| q_mv S rfl fun a S => gq rfl S ((y_shr (r := 0) rfl S rfl rfl (by omega) rfl)) fun a S => ?_
 refine q_as S rfl fun a S => gnt ?_
 have S := S.sel [13, 12, 9, 7, 6, 5, 4, 0, 1] rfl
 refine gsr <| q_mv S rfl fun a S => q_mv S rfl fun a S => q_mv S rfl fun a S => gq rfl S ((ZAn (v := .int .u64 (0 : Int)) rfl S rfl rfl (by simp only [intOp]; rfl))) fun a S => ?_
 refine gq rfl S ((ZAn (v := .int .u64 (0 : Int)) rfl S rfl rfl (by simp only [intOp]; rfl))) fun a S => ?_
 refine q_as S rfl fun a S => gnt ?_
 have S := S.sel [12, 13, 9, 7, 5, 4, 0, 1] rfl
 refine gsr <| q_mv S rfl fun a S => q_mv S rfl fun a S => gq rfl S ((ZAn (v := .int .u64 (0 : Int)) rfl S rfl rfl (by simp only [intOp]; rfl))) fun a S => ?_
 refine q_mv S rfl fun a S => gq rfl S ((ZAn (v := .int .u64 (0 : Int)) rfl S rfl rfl (by simp only [intOp]; rfl))) fun a S => ?_
 refine q_mv S rfl fun a S => gq rfl S ((y_shr (r := 0) rfl S rfl rfl (by omega) rfl)) fun a S => ?_
 refine gq rfl S ((ZAn (v := .int .u64 (0 : Int)) rfl S rfl rfl (by simp only [intOp]; rfl))) fun a S => ?_
 refine q_as S rfl fun a S => gnt ?_
 have S := S.sel [4, 5, 0, 1] rfl
 refine gsr <| q_mv S rfl fun a S => q_mv S rfl fun a S => gq rfl S ((ZAn (v := .int .u64 ((n : Nat) : Int)) rfl S rfl rfl (by simp only [intOp]; congr 2; rw [IntKind.wrap_u64]; omega))) fun a S => ?_
 refine q_as S rfl fun a S => gnt ?_
 have S := S.sel [5, 4] rfl
 exact ZAe <| ret2 rfl S rfl rfl <| ⟨rfl, H.toExt⟩
theorem mul_spec (n : Nat) (w0 : World) (hn : n < 4294967296) :
    Ret Tryz.prog 105 #[.int .u64 (1 : Int), .int .u64 (n : Int)] w0 (fun u w => u = .tuple #[.int .u64 0, .int .u64 (n : Int)] ∧ Ext w0 w) := by
 refine ZAE (nt := 30) Tryz.func105 rfl rfl rfl (fl := [(0, .int .u64 (1 : Int)), (1, .int .u64 (n : Int))]) rfl (fun a S => ?_)
 have H := HSat.start w0
 refine gsr <| q_as S rfl fun a S => q_as S rfl fun a S => gnt <| ZAG <| c_if S rfl (fun h1 => ?_) (fun h1 => ?_)
 ·have h1p := h1; try simp only [DL] at h1p
  all_goals (
    exact absurd h1 (by simp))
 refine ZAM <| ZAA <| gsr <| q_mv S rfl fun a S => q_mv S rfl fun a S => q_cl S rfl call124 (mul64_spec n _ hn) fun v w hc a S => ?_
 obtain ⟨rfl, he⟩ := hc
 have H := H.ext he
 refine q_mv S rfl fun a S => gq rfl S (ZAa rfl S rfl rfl) fun a S => gq rfl S (ZAa rfl S rfl rfl) fun a S => q_as S rfl fun a S => q_as S rfl fun a S => gnt ?_
 have S := S.sel [9, 8, 5, 4] rfl
 refine gsr <| q_mv S rfl fun a S => q_mv S rfl fun a S => q_as S rfl fun a S => q_as S rfl fun a S => gnt ?_
 have S := S.sel [5, 4] rfl
 exact ZAe <| ret2 rfl S rfl rfl <| ⟨rfl, H.toExt⟩
theorem repeat_spec (v : Value) (n : Nat) (w0 : World) (hv : IsSl w0 v 1 encI [-1]) (hn : n ≤ 1000000) :
    Ret Tryz.prog 73 #[v, .int .i64 (n : Int)] w0 (fun u w => HSat No w0 [OSl 3 u 1 encI (List.replicate n (-1))] w) := by
 refine ZAE (nt := 48) Tryz.func73 rfl rfl rfl (fl := [(0, v), (1, .int .i64 (n : Int))]) rfl (fun a S => ?_)
 have H := HSat.start w0
 have H := H.ro0 (Sl v 1 encI [-1]) rfl (hv)
 skip
 refine gsr <| q_as S rfl fun a S => gnt <| ZAG <| gsr <| q_mv S rfl fun a S => q_bn S rfl fun a S => gnt ?_
 refine c_if S rfl (fun h1 => ?_) (fun h1 => ?_)
 ·have h1p := h1; try simp only [DL] at h1p
  all_goals (
    have := h1p; omega)
 have h1p := h1; try simp only [DL] at h1p
 refine ZAM <| ZAA <| gsr <| q_mv S rfl fun a S => gq rfl S (ZAT rfl underlying37 S H rfl) fun a S => gq rfl S (y_convg (r := (1 : Int)) rfl underlying3 underlying182 S rfl (by rfl)) fun a S => ?_
 refine q_mv S rfl fun a S => gq rfl S (y_convg (r := (n : Int)) rfl underlying3 underlying182 S rfl (by rw [IntKind.wrap_u64]; omega)) fun a S => ?_
 refine q_cl S rfl call105 (mul_spec n _ (by omega)) fun v w hc a S => ?_
 obtain ⟨rfl, he⟩ := hc
 have H := H.ext he
 refine q_mv S rfl fun a S => gq rfl S (ZAa rfl S rfl rfl) fun a S => gq rfl S (ZAa rfl S rfl rfl) fun a S => q_as S rfl fun a S => q_as S rfl fun a S => gnt ?_
 have S := S.sel [6, 5, 4, 0] rfl
 refine ZAG <| gsr <| q_mv S rfl fun a S => q_bn S rfl fun a S => q_mv S rfl fun a S => ?_
 refine' ZBH 2 23 rfl S H rfl rfl rfl rfl rfl rfl rfl (fun _ S => (wn rfl)) (fun h2 kk => ?yh2) (fun a w S H => ?_)
 case yh2 =>
  exact gz 23 h2 S rfl rfl rfl rfl rfl rfl (ZAL rfl S rfl) fun a S => gz 23 h2 S rfl rfl rfl rfl rfl rfl (ZAn rfl S rfl rfl rfl) fun a S => gq rfl S (ZAz rfl h2 S rfl rfl) fun a S => kk _ _ (S.join 3 26 rfl rfl) H
 refine gnt ?_
 have S := S.sel [26, 6, 4, 0] rfl
 refine c_if S rfl (fun h3 => ?_) (fun h3 => ?_)
 ·have h3p := h3; try simp only [DL] at h3p
  all_goals (
    have := h3p; omega)
 have h3p := h3; try simp only [DL] at h3p
 refine ZAM <| ZAA <| gsr <| q_mv S rfl fun a S => gq rfl S (y_convg (r := (n : Int)) rfl underlying182 underlying3 S rfl (by exact wrap_in (by omega) (by omega))) fun a S => ?_
 refine ZAF (ZAw (encI) (0) (wn rfl) rfl rfl rfl underlying37 Finf3 rfl rfl S H rfl rfl rfl (by omega) (by omega) fun b30 a w S H => ?_)
 refine q_as S rfl fun a S => gnt ?_
 have S := S.sel [7, 4, 0] rfl
 refine gsr <| q_mv S rfl fun a S => q_mv S rfl fun a S => ZAF (op_copy (i := 0) ((.slice (some ⟨b30, 0, none⟩) n n)) (wn rfl) rfl rfl rfl underlying37 ZA5 S H rfl rfl (.inl ⟨rfl, rfl⟩) (by simp [encI, Value.oneCell']) (by omega) rfl fun a w S H => ?_)
 rw [fill_first (by simp)] at H
 have hm1 : min [(-1 : Int)].length ((List.replicate n (0 : Int)).length - 0) = min 1 n := by simp
 rw [hm1] at S H
 obtain ⟨m, hm⟩ : ∃ m, m = min 1 n := ⟨_, rfl⟩
 rw [← hm] at S H
 refine q_as S rfl fun a S => gnt ?_
 have S := S.sel [8, 7, 4] rfl
 refine ZAG <| ZAD ?_
 have SU := S.sel [7, 4] rfl
 refine ZBL (X := Nat) SU (fun k => [(8, .int .i64 (k : Int))]) (fun k w => k ≤ n ∧ (0 < n → 0 < k) ∧ HSat No w0 [OSl 3 (.slice (some ⟨b30, 0, none⟩) n n) 1 encI (fillL n k)] w) (fun k => n - k) m (S.sel [8] rfl) (⟨by omega, by omega, H.take [OSl 3 (.slice (some ⟨b30, 0, none⟩) n n) 1 encI (fillL n m)]⟩) (fun k a w S hW => ?_)
 simp only [List.cons_append, List.nil_append] at S
 clear H
 obtain ⟨hk, hkp, H⟩ := hW
 have hfl := fill_len hk
 refine ZAG <| gsr <| q_mv S rfl fun a S => q_mv S rfl fun a S => gq rfl S (ZAT rfl underlying37 S H rfl) fun a S => q_bn S rfl fun a S => gnt <| c_if S rfl (fun h4 => ?_) (fun h4 => ?_)
 ·have h4p := h4; try simp only [DL] at h4p
  have hkn : k < n := by have := h4p; omega
  refine ZAM <| ZAA ?_
  have S := S.sel [8, 7, 4] rfl
  refine ZAD <| ZAZ (loud := [7]) (tails := [7]) (free := [0]) [0, 1, 2, 3, 4, 5, 6, 7, 8, 9] [] Fmo (by kernel_rfl) (by kernel_rfl) rfl H ?_
  refine m_f rfl rfl (wn rfl) rfl rfl S (fun w H => ZAL rfl S rfl) fun a S => m_q rfl S (fun w H => ZAL rfl S rfl) fun a S => m_q rfl S (fun w H => ZAL rfl S rfl) fun a S => m_q rfl S (fun w H => y_sliceL rfl underlying37 ZA5 S H rfl rfl (by omega)) fun a S => ?_
  refine m_q rfl S (fun w H => ZAL rfl S rfl) fun a S => m_q rfl S (fun w H => ZAL rfl S rfl) fun a S => m_q rfl S (fun w H => y_sliceH rfl underlying37 ZA5 S H rfl rfl (by omega)) fun a S => ?_
  refine m_l rfl rfl (fun w H => op_copy (i := k) ((.slice (some ⟨b30, 0, none⟩) n n)) (wn rfl) rfl rfl rfl underlying37 ZA5 S H rfl rfl (.inr (by rw [hfl])) (by simp [encI, Value.oneCell']) (by rw [hfl]; omega) rfl fun a w S H => ?_)
  skip
  refine m_tail H rfl <| m_q rfl S (fun w H => y_add rfl S rfl rfl (by omega)) fun a S => ?_
  refine m_q rfl S (fun w H => ZA1 rfl S rfl) fun a S => ZBY (fun w H => ZAK ?_)
  refine ZAA ?_
  have hme : min (((fillL n k).take k).drop 0).length ((fillL n k).length - k) = min k (n - k) := by simp only [List.length_drop, List.length_take, hfl]; omega
  rw [hme, fill_copy hk rfl] at H
  rw [hme] at S
  exact ⟨k + min k (n - k), (S.sel [8] rfl), S.sel [7, 4] rfl, ⟨by omega, by omega, H⟩, by omega⟩
 have h4p := h4; try simp only [DL] at h4p
 obtain rfl : k = n := by have := h4p; omega
 rw [fill_end] at H
 refine ZAf <| ZAO (ZAO (x_eq ?_))
 refine ZAA ?_
 have S := S.sel [7, 4] rfl
 exact gsr <| q_mv S rfl fun a S => q_as S rfl fun a S => gnt <| ZAe <| ret1 rfl S rfl <| H
theorem backward_spec (v : Value) (xs : List Int) (w0 : World) (hv : IsSl w0 v 1 encI xs) :
    Ret Tryz.prog 75 #[v] w0 (fun u w => ∃ b, u = .func (.func 106) #[] #[.pointer (some ⟨b, 0, none⟩)] ∧ HSat No w0 [Cel b 37 [v]] w) := by
 refine ZAE (nt := 4) Tryz.func75 rfl rfl rfl (fl := [(0, v)]) rfl (fun a S => ?_)
 have H := HSat.start w0
 have H := H.ro0 (Sl v 1 encI xs) rfl (hv)
 refine gsr <| ZAF (op_box1 (wn rfl) rfl rfl rfl S H rfl (H.slc _) fun b1 a w S H => q_as S rfl fun a S => gnt ?_)
 refine gsr <| gq rfl S (ZAd rfl S rfl rfl) fun a S => q_as S rfl fun a S => gnt ?_
 have S := S.sel [2] rfl
 refine ZAe <| ret1 rfl S rfl ?_
 exact ⟨_, rfl, H.take _⟩
theorem backward_iter (lb b : Nat) (v : Value) (xs : List Int) (w0 : World) (J : Nat → World → Prop) (hJ : ∀ k w, J k w → w.heap[b]? = some (.cells [v].toArray 37 (0, 0)) ∧ IsSl w v 1 encI xs) (hst : ∀ k w w', J k w → Ext w w' → J k w')
    (hround : ∀ k (h : k < xs.length) w, J (k + 1) w → YieldRet Tryz.prog lb #[.int .i64 (k : Int), .int .i64 xs[k]] w (fun u w' => u = .bool true ∧ J k w')) (h0 : J xs.length w0) :
    Ret Tryz.prog 106 #[.func (.yield lb) #[] #[], .pointer (some ⟨b, 0, none⟩)] w0 (fun u w => J 0 w) := by
 refine ZAE (nt := 19) Tryz.func106 rfl rfl rfl (fl := [(0, .func (.yield lb) #[] #[]), (1, .pointer (some ⟨b, 0, none⟩))]) rfl (fun a S => ?_)
 have H := ((HSat.start w0).ro0 (Sl v 1 encI xs) rfl (hJ _ _ h0).2).ro0 (Atom.ro (Cel b 37 [v])) rfl (hJ _ _ h0).1
 have hlx := (H.sl v).len
 refine gsr <| q_ld S H ZBX rfl rfl fun a S => gq rfl S (ZAT rfl underlying37 S H rfl) fun a S => gq rfl S (y_sub rfl S rfl rfl (by omega)) fun a S => ?_
 refine q_as S rfl fun a S => gnt <| ZAD ?_
 have SU := S.sel [0, 1] rfl
 refine ZBL (X := Nat) SU (fun r => [(3, .int .i64 ((r : Int) - 1))]) (fun r w => r ≤ xs.length ∧ J r w) (fun r => r) xs.length (S.sel [3] rfl) (⟨by omega, hst _ _ _ h0 H.toExt⟩) (fun r a w S hW => ?_)
 simp only [List.cons_append, List.nil_append] at S
 obtain ⟨hk, hW⟩ := hW
 have H := ((HSat.start w).ro0 (Sl v 1 encI xs) rfl (hJ _ _ hW).2).ro0 (Atom.ro (Cel b 37 [v])) rfl (hJ _ _ hW).1
 refine ZAG <| gsr <| q_mv S rfl fun a S => q_bn S rfl fun a S => gnt <| c_if S rfl (fun h1 => ?_) (fun h1 => ?_)
 ·have h1p := h1; try simp only [DL] at h1p
  obtain ⟨k, rfl⟩ : ∃ k, r = k + 1 := ⟨r - 1, by omega⟩
  rw [show (((k + 1 : Nat) : Int) - 1) = (k : Int) by omega] at S
  refine ZAM <| ZAA <| ZAG <| ZAD <| gsr <| q_mv S rfl fun a S => q_mv S rfl fun a S => q_ld S H ZBX rfl rfl fun a S => ?_
  refine q_mv S rfl fun a S => gq rfl S (ZAI rfl underlying37 ZA5 S H rfl rfl (by omega)) fun a S => ?_
  refine gq rfl S (ZA6 _ rfl ZAN S H rfl (by omega) rfl) fun a S => ?_
  refine ZAF (op_yield (wn rfl) rfl rfl rfl S rfl rfl (hround k (by omega) _ (hst _ _ _ hW H.toExt)) fun u w hc a S => ?_)
  obtain ⟨rfl, hJ1⟩ := hc
  refine gq rfl S (ZBV rfl S rfl) fun a S => gnt ?_
  have S := S.sel [18, 3, 0, 1] rfl
  refine c_if S rfl (fun h2 => ?_) (fun h2 => ?_)
  ·have h2p := h2; try simp only [DL] at h2p
   all_goals (
     exact absurd h2 (by simp))
  have h2p := h2; try simp only [DL] at h2p
  refine ZAM <| ZAK <| ZAA <| ZAB <| q_mv S rfl fun a S => gq rfl S (y_sub rfl S rfl rfl (by omega)) fun a S => ?_
  exact q_as S rfl fun a S => gnt <| ⟨k, S.sel [3] rfl, S.sel [0, 1] rfl, ⟨by omega, hJ1⟩, by omega⟩
 have h1p := h1; try simp only [DL] at h1p
 obtain rfl : r = 0 := by omega
 refine ZAf <| ZAO (ZAO (x_eq ?_))
 exact ZB1 rfl S <| hst _ _ _ hW H.toExt
theorem give_spec {M : Nat → Prop} {u0 : World} {l : List Atom} (i k bt bp bm c : Nat) (vp : Value) (owner got : List Int) (w0 : World) (hi : i < got.length) (hk : k < owner.length) (h0 : HSat M u0 (MapA bm (fun n : Int => .int .i64 n) (fun n : Int => .int .i64 n) (ownM (owner)) c :: OSl 3 vp 1 encI (got) :: Atom.ro (Cel bt 144 [.map (some bm)]) :: Atom.ro (Cel bp 37 [vp]) :: l) w0) :
    Ret Tryz.prog 74 #[.int .i64 (i : Int), .int .i64 (k : Int), .pointer (some ⟨bt, 0, none⟩), .pointer (some ⟨bp, 0, none⟩)] w0 (fun u w => u = .tuple #[] ∧ ∃ c2, HSat M u0 (MapA bm (fun n : Int => .int .i64 n) (fun n : Int => .int .i64 n) (ownM (owner.set k (i : Int))) c2 :: OSl 3 vp 1 encI (got.set i (k : Int)) :: Atom.ro (Cel bt 144 [.map (some bm)]) :: Atom.ro (Cel bp 37 [vp]) :: l) w) := by
 refine ZAE (nt := 13) Tryz.func74 rfl rfl rfl (fl := [(0, .int .i64 (i : Int)), (1, .int .i64 (k : Int)), (2, .pointer (some ⟨bt, 0, none⟩)), (3, .pointer (some ⟨bp, 0, none⟩))]) rfl (fun a S => ?_)
 have H := h0
 refine ZAZ (loud := [6, 8]) (tails := [6, 8]) (free := [2, 3, 5]) [0, 1, 2, 3, 4, 5, 6, 7, 8] [Atom.ro (Cel bt 144 [.map (some bm)]), Atom.ro (Cel bp 37 [vp])] Fmo (by kernel_rfl) (by kernel_rfl) rfl H ?_
 refine m_q rfl S (fun w H => ZAJ rfl Fsca144 S H rfl rfl) fun a S => m_q rfl S (fun w H => ZAL rfl S rfl) fun a S => m_f rfl rfl (wn rfl) rfl rfl S (fun w H => ZAJ rfl ZBX S H rfl rfl) fun a S => m_f rfl rfl (wn rfl) rfl rfl S (fun w H => ZAL rfl S rfl) fun a S => m_q rfl S (fun w H => ZAL rfl S rfl) fun a S => m_f rfl rfl (wn rfl) rfl rfl S (fun w H => ZAL rfl S rfl) fun a S => m_l rfl rfl (fun w H => ZBA (_) (_) (wn rfl) rfl rfl underlying144 S H rfl (ZAv underlying3) (by exact rfl) (by exact rfl) fun a w S H => m_tail H rfl ?_)
 refine m_q rfl S (fun w H => ZAI rfl underlying37 ZA5 S H rfl rfl (by omega)) fun a S => ?_
 refine m_l rfl rfl (fun w H => op_store1 _ (_) (wn rfl) rfl rfl S H rfl rfl rfl rfl ZA5 (by omega) (by exact rfl) fun a w S H => m_tail H rfl ?_)
 refine ZBY (fun w H => ZB1 rfl S ?_)
 rw [ownM_set hk (by omega)] at H
 exact ⟨rfl, _, H⟩
def LookSpec (f : Nat) (r : Nat) (vs vp vt vo vn ve : Value) (ps : List (Value × List Int)) (bw bs bt bl bg bp bm : Nat) : Prop := ∀ {M : Nat → Prop} {u0 : World} {l : List Atom} (i : Nat) (s0 : AS) (c0 : Nat) (w0 : World), i < ps.length → AWF (gr ps) r s0 → r < f + s0.seen.length →
    HSat M u0 (OSl 4 vs 1 encB (ZBS r (s0.seen)) :: MapA bm (fun n : Int => .int .i64 n) (fun n : Int => .int .i64 n) (ownM (s0.owner)) c0 :: OSl 3 vp 1 encI (s0.got) :: Cel bs 136 [vs] :: Atom.ro (Cel bt 144 [.map (some bm)]) :: Atom.ro (Cel bp 37 [vp]) :: Atom.ro (Cel bw 98 [vt, vo, vn, ve]) :: Atom.ro (Cel bl 113 [.func (.func 77) #[] #[.pointer (some ⟨bw, 0, none⟩), .pointer (some ⟨bs, 0, none⟩), .pointer (some ⟨bt, 0, none⟩), .pointer (some ⟨bl, 0, none⟩), .pointer (some ⟨bg, 0, none⟩)]]) :: Atom.ro (Cel bg 86 [.func (.func 74) #[] #[.pointer (some ⟨bt, 0, none⟩), .pointer (some ⟨bp, 0, none⟩)]]) :: ZBC 1 encI ps :: Sl ve 1 ZAo ps :: l) w0 → Ret Tryz.prog 77 #[.int .i64 (i : Int), .pointer (some ⟨bw, 0, none⟩), .pointer (some ⟨bs, 0, none⟩), .pointer (some ⟨bt, 0, none⟩), .pointer (some ⟨bl, 0, none⟩), .pointer (some ⟨bg, 0, none⟩)] w0 (fun u w => u = .bool (aug (gr ps) f (i : Int) s0).1 ∧ ∃ c, HSat M u0 (OSl 4 vs 1 encB (ZBS r ((aug (gr ps) f (i : Int) s0).2.seen)) :: MapA bm (fun n : Int => .int .i64 n) (fun n : Int => .int .i64 n) (ownM ((aug (gr ps) f (i : Int) s0).2.owner)) c :: OSl 3 vp 1 encI ((aug (gr ps) f (i : Int) s0).2.got) :: Cel bs 136 [vs] :: Atom.ro (Cel bt 144 [.map (some bm)]) :: Atom.ro (Cel bp 37 [vp]) :: Atom.ro (Cel bw 98 [vt, vo, vn, ve]) :: Atom.ro (Cel bl 113 [.func (.func 77) #[] #[.pointer (some ⟨bw, 0, none⟩), .pointer (some ⟨bs, 0, none⟩), .pointer (some ⟨bt, 0, none⟩), .pointer (some ⟨bl, 0, none⟩), .pointer (some ⟨bg, 0, none⟩)]]) :: Atom.ro (Cel bg 86 [.func (.func 74) #[] #[.pointer (some ⟨bt, 0, none⟩), .pointer (some ⟨bp, 0, none⟩)]]) :: ZBC 1 encI ps :: Sl ve 1 ZAo ps :: l) w)
set_option maxHeartbeats 2000000 in
theorem look_step {M : Nat → Prop} {u0 : World} {l : List Atom} (f : Nat) (r : Nat) (vs vp vt vo vn ve : Value) (ps : List (Value × List Int)) (bw bs bt bl bg bp bm : Nat) (hvg : ZBm (gr ps) r = true) (ih : LookSpec f r vs vp vt vo vn ve ps bw bs bt bl bg bp bm) (i : Nat) (s0 : AS) (c0 : Nat) (w0 : World) (hi0 : i < ps.length) (hwf0 : AWF (gr ps) r s0) (hf0 : r < f + 1 + s0.seen.length) (h0 : HSat M u0 (OSl 4 vs 1 encB (ZBS r (s0.seen)) :: MapA bm (fun n : Int => .int .i64 n) (fun n : Int => .int .i64 n) (ownM (s0.owner)) c0 :: OSl 3 vp 1 encI (s0.got) :: Cel bs 136 [vs] :: Atom.ro (Cel bt 144 [.map (some bm)]) :: Atom.ro (Cel bp 37 [vp]) :: Atom.ro (Cel bw 98 [vt, vo, vn, ve]) :: Atom.ro (Cel bl 113 [.func (.func 77) #[] #[.pointer (some ⟨bw, 0, none⟩), .pointer (some ⟨bs, 0, none⟩), .pointer (some ⟨bt, 0, none⟩), .pointer (some ⟨bl, 0, none⟩), .pointer (some ⟨bg, 0, none⟩)]]) :: Atom.ro (Cel bg 86 [.func (.func 74) #[] #[.pointer (some ⟨bt, 0, none⟩), .pointer (some ⟨bp, 0, none⟩)]]) :: ZBC 1 encI ps :: Sl ve 1 ZAo ps :: l) w0) :
    Ret Tryz.prog 77 #[.int .i64 (i : Int), .pointer (some ⟨bw, 0, none⟩), .pointer (some ⟨bs, 0, none⟩), .pointer (some ⟨bt, 0, none⟩), .pointer (some ⟨bl, 0, none⟩), .pointer (some ⟨bg, 0, none⟩)] w0 (fun u w => u = .bool (aug (gr ps) (f + 1) (i : Int) s0).1 ∧ ∃ c, HSat M u0 (OSl 4 vs 1 encB (ZBS r ((aug (gr ps) (f + 1) (i : Int) s0).2.seen)) :: MapA bm (fun n : Int => .int .i64 n) (fun n : Int => .int .i64 n) (ownM ((aug (gr ps) (f + 1) (i : Int) s0).2.owner)) c :: OSl 3 vp 1 encI ((aug (gr ps) (f + 1) (i : Int) s0).2.got) :: Cel bs 136 [vs] :: Atom.ro (Cel bt 144 [.map (some bm)]) :: Atom.ro (Cel bp 37 [vp]) :: Atom.ro (Cel bw 98 [vt, vo, vn, ve]) :: Atom.ro (Cel bl 113 [.func (.func 77) #[] #[.pointer (some ⟨bw, 0, none⟩), .pointer (some ⟨bs, 0, none⟩), .pointer (some ⟨bt, 0, none⟩), .pointer (some ⟨bl, 0, none⟩), .pointer (some ⟨bg, 0, none⟩)]]) :: Atom.ro (Cel bg 86 [.func (.func 74) #[] #[.pointer (some ⟨bt, 0, none⟩), .pointer (some ⟨bp, 0, none⟩)]]) :: ZBC 1 encI ps :: Sl ve 1 ZAo ps :: l) w) := by
 refine ZAE (nt := 47) Tryz.func77 rfl rfl rfl (fl := [(0, .int .i64 (i : Int)), (1, .pointer (some ⟨bw, 0, none⟩)), (2, .pointer (some ⟨bs, 0, none⟩)), (3, .pointer (some ⟨bt, 0, none⟩)), (4, .pointer (some ⟨bl, 0, none⟩)), (5, .pointer (some ⟨bg, 0, none⟩))]) rfl (fun a S => ?_)
 have H := h0
 have hgl := gr_len ps
 have hrw := gr_row ps hi0
 have hvp := ZBG hvg
 have hlv := (H.sl ve).len
 have hrl := (H.rwsS (sz := 1) (enc := encI) ps _ (List.getElem_mem hi0)).len
 refine gsr <| q_as S rfl fun a S => gnt <| ZAG <| gsr <| q_fa S Ffo98_3 rfl fun a S => q_ld S H Fsca62 rfl rfl fun a S => q_mv S rfl fun a S => ?_
 refine gq rfl S (ZAI rfl underlying62 Fsiz37 S H rfl rfl (by omega)) fun a S => ?_
 refine gq rfl S (ZA6 _ rfl ZBX S H rfl (by omega) rfl) fun a S => ?_
 refine gq rfl S (ZAT rfl underlying37 S H rfl) fun a S => q_mv S rfl fun a S => gnt ?_
 have S := S.sel [18, 17, 16, 7, 0, 2, 3, 4, 5] rfl
 refine ZAD ?_
 have SU := S.sel [17, 16, 0, 2, 3, 4, 5] rfl
 refine ZBL (X := Nat) SU (fun k => [(18, .int .i64 (k : Int))]) (fun k w => k ≤ ps[i].2.length ∧ ∃ s c, ZB5 (aug (gr ps) f) i ps[i].2 s0 = ZB5 (aug (gr ps) f) i (ps[i].2.drop k) s ∧ AWF (gr ps) r s ∧ r < f + 1 + s.seen.length ∧ HSat M u0 (OSl 4 vs 1 encB (ZBS r (s.seen)) :: MapA bm (fun n : Int => .int .i64 n) (fun n : Int => .int .i64 n) (ownM (s.owner)) c :: OSl 3 vp 1 encI (s.got) :: Cel bs 136 [vs] :: Atom.ro (Cel bt 144 [.map (some bm)]) :: Atom.ro (Cel bp 37 [vp]) :: Atom.ro (Cel bw 98 [vt, vo, vn, ve]) :: Atom.ro (Cel bl 113 [.func (.func 77) #[] #[.pointer (some ⟨bw, 0, none⟩), .pointer (some ⟨bs, 0, none⟩), .pointer (some ⟨bt, 0, none⟩), .pointer (some ⟨bl, 0, none⟩), .pointer (some ⟨bg, 0, none⟩)]]) :: Atom.ro (Cel bg 86 [.func (.func 74) #[] #[.pointer (some ⟨bt, 0, none⟩), .pointer (some ⟨bp, 0, none⟩)]]) :: ZBC 1 encI ps :: Sl ve 1 ZAo ps :: l) w) (fun k => ps[i].2.length - k) 0 (S.sel [18] rfl) (⟨by omega, s0, c0, rfl, hwf0, hf0, H⟩) (fun k a w S hW => ?_)
 simp only [List.cons_append, List.nil_append] at S
 obtain ⟨hk, s, c, hau, hwf, hfu, H⟩ := hW
 have hlo := hwf.lo
 have hlg := hwf.lg
 refine gsr <| q_bn S rfl fun a S => gnt <| ZAG <| c_if S rfl (fun h1 => ?_) (fun h1 => ?_)
 ·have h1p := h1; try simp only [DL] at h1p
  have hkl : k < ps[i].2.length := by omega
  obtain ⟨n, hn⟩ : ∃ n : Nat, ps[i].2[k] = n := ⟨ps[i].2[k].toNat, by have := hvp.2.2.2 i ps[i].2[k] (by rw [hrw]; exact List.getElem_mem _); omega⟩
  have hnr : (0 : Int) ≤ n ∧ (n : Int) < r := hvp.2.2.2 i n (by rw [hrw, ← hn]; exact List.getElem_mem _)
  have hrd : ps[i].2.drop k = (n : Int) :: ps[i].2.drop (k + 1) := by rw [← hn]; exact List.drop_eq_getElem_cons hkl
  have hnrr : n < r := by omega
  refine ZAM <| ZAA <| ZAG <| ZAD <| gsr <| gq rfl S (ZAI rfl underlying37 ZA5 S H rfl rfl (by omega)) fun a S => ?_
  refine gq rfl S (ZA6 _ rfl ZAN S H rfl (by omega) rfl) fun a S => ?_
  rw [hn] at S
  refine q_as S rfl fun a S => ?_
  refine gnt ?_
  refine ZAG ?_
  refine gsr ?_
  refine q_ld S H Fsca136 rfl rfl fun a S => ?_
  refine q_mv S rfl fun a S => ?_
  refine gq rfl S (ZAI rfl underlying136 Fsiz4 S H rfl rfl (by first | assumption | omega | (rw [ZBU]; omega))) fun a S => ?_
  refine gq rfl S (ZA6 _ rfl Fsca4 S H rfl (by first | assumption | omega | (rw [ZBU]; omega)) rfl) fun a S => ?_
  refine gnt ?_
  have S := S.sel [25, 9, 18, 17, 16, 0, 2, 3, 4, 5] rfl
  refine c_if S rfl (fun h2 => ?_) (fun h2 => ?_)
  ·have h2p := h2; try simp only [DL] at h2p
   have hx : (n : Int) ∈ s.seen := by have := h2; rw [seenB_get] at this; simpa using this
   refine ZAf <| ZAO (x_eq ?_)
   refine ZAA <| ZAB <| q_ad S rfl (by omega) fun a S => ?_
   refine q_mv S rfl fun a S => gnt ?_
   first
   | exact ⟨k + 1, S.sel [18] rfl, S.sel [17, 16, 0, 2, 3, 4, 5] rfl, ⟨by omega, s, c, by rw [hau, hrd, ZB5, if_pos hx], hwf, hfu, H⟩, by omega⟩
   | (have hbf : b = false := by simpa using @c3
      subst hbf
      exact ⟨k + 1, S.sel [18] rfl, S.sel [17, 16, 0, 2, 3, 4, 5] rfl, ⟨by omega, s2, c2, by rw [hau, hrd, ZB5, if_neg hx, Int.toNat_natCast, if_neg hb, ho, hq], hout.wf, by omega, H⟩, by omega⟩)
  have h2p := h2; try simp only [DL] at h2p
  have hx : (n : Int) ∉ s.seen := by have := h2; rw [seenB_get] at this; simpa using this
  have hwf1 := hwf.see hnr hx
  have hon := hwf.own n
  refine ZAM ?_
  refine ZAA ?_
  refine gsr ?_
  refine q_ld S H Fsca136 rfl rfl fun a S => ?_
  refine q_mv S rfl fun a S => ?_
  refine gq rfl S (ZAI rfl underlying136 Fsiz4 S H rfl rfl (by first | assumption | omega | (rw [ZBU]; omega))) fun a S => ?_
  refine ZAF (op_store1 _ (true) (wn rfl) rfl rfl S H rfl rfl rfl rfl Fsiz4 (by first | assumption | omega | (rw [ZBU]; omega)) (by exact rfl) fun a w S H => ?_)
  refine gnt ?_
  have S := S.sel [9, 18, 17, 16, 0, 2, 3, 4, 5] rfl
  refine ZAG ?_
  rw [seenB_set] at H
  have H : ∃ c1, HSat M u0 (OSl 4 vs 1 encB (ZBS r ((s.see n).seen)) :: MapA bm (fun n : Int => .int .i64 n) (fun n : Int => .int .i64 n) (ownM (s.owner)) c1 :: OSl 3 vp 1 encI (s.got) :: Cel bs 136 [vs] :: Atom.ro (Cel bt 144 [.map (some bm)]) :: Atom.ro (Cel bp 37 [vp]) :: Atom.ro (Cel bw 98 [vt, vo, vn, ve]) :: Atom.ro (Cel bl 113 [.func (.func 77) #[] #[.pointer (some ⟨bw, 0, none⟩), .pointer (some ⟨bs, 0, none⟩), .pointer (some ⟨bt, 0, none⟩), .pointer (some ⟨bl, 0, none⟩), .pointer (some ⟨bg, 0, none⟩)]]) :: Atom.ro (Cel bg 86 [.func (.func 74) #[] #[.pointer (some ⟨bt, 0, none⟩), .pointer (some ⟨bp, 0, none⟩)]]) :: ZBC 1 encI ps :: Sl ve 1 ZAo ps :: l) _ := ⟨_, H⟩
  obtain ⟨c1, H⟩ := H
  by_cases hb : atI s.owner n < 0
  ·skip
   refine ZAB <| q_ld S H Fsca144 rfl rfl fun a S => q_mv S rfl fun a S => gq rfl S (y_lookupok (_) ((0 : Int)) rfl underlying144 Finf3 S H rfl (ZAv underlying3) (by exact rfl) (by exact rfl)) fun a S => ?_
   rw [ownM_get, if_neg (by omega)] at S
   refine q_mv S rfl fun a S => gq rfl S (ZAa rfl S rfl rfl) fun a S => gq rfl S (ZAa rfl S rfl rfl) fun a S => q_as S rfl fun a S => q_as S rfl fun a S => gnt ?_
   have S := S.sel [11, 10, 9, 18, 17, 16, 0, 2, 3, 4, 5] rfl
   refine gsr <| q_mv S rfl fun a S => gq rfl S (ZBV rfl S rfl) fun a S => q_mv S rfl fun a S => ?_
   refine' ZBH (B2 := false) 3 37 rfl S H rfl rfl rfl rfl rfl rfl rfl (fun _ S => (wn rfl)) (fun h3 kk => ?yh3) (fun a w S H => ?_)
   case yh3 => exact absurd h3 (by simp)
   refine gnt ?_
   have S := S.sel [41, 9, 18, 17, 16, 0, 2, 3, 4, 5] rfl
   refine c_if S rfl (fun h4 => ?_) (fun h4 => ?_)
   ·have h4p := h4; try simp only [DL] at h4p
    refine gsr ?_
    refine q_ld S H Fsca86 rfl rfl fun a S => ?_
    refine q_mv S rfl fun a S => ?_
    refine q_mv S rfl fun a S => ?_
    refine ZAF (ZAV (wn rfl) rfl rfl S (ZAp rfl call74 S rfl rfl) (give_spec i n bt bp bm c1 vp s.owner s.got _ (by omega) (by omega) (H.pick [MapA bm (fun n : Int => .int .i64 n) (fun n : Int => .int .i64 n) (ownM (s.owner)) c1, OSl 3 vp 1 encI (s.got), Atom.ro (Cel bt 144 [.map (some bm)]), Atom.ro (Cel bp 37 [vp])])) fun v w hc a S => ?_)
    obtain ⟨rfl, c2, H⟩ := hc
    simp only [List.append_eq, List.nil_append] at H
    have H := H.pick [OSl 4 vs 1 encB (ZBS r ((s.see n).seen)), MapA bm (fun n : Int => .int .i64 n) (fun n : Int => .int .i64 n) (ownM (s.owner.set n (i : Int))) c2, OSl 3 vp 1 encI (s.got.set i (n : Int)), Cel bs 136 [vs], Atom.ro (Cel bt 144 [.map (some bm)]), Atom.ro (Cel bp 37 [vp]), Atom.ro (Cel bw 98 [vt, vo, vn, ve]), Atom.ro (Cel bl 113 [.func (.func 77) #[] #[.pointer (some ⟨bw, 0, none⟩), .pointer (some ⟨bs, 0, none⟩), .pointer (some ⟨bt, 0, none⟩), .pointer (some ⟨bl, 0, none⟩), .pointer (some ⟨bg, 0, none⟩)]]), Atom.ro (Cel bg 86 [.func (.func 74) #[] #[.pointer (some ⟨bt, 0, none⟩), .pointer (some ⟨bp, 0, none⟩)]]), ZBC 1 encI ps, Sl ve 1 ZAo ps]
    refine gnt ?_
    have S := S.sel [18, 17, 16, 0, 2, 3, 4, 5] rfl
    refine gsr <| q_as S rfl fun a S => gnt <| ZAe <| ZAm (ZAX (ZAX (ZAm (ZAX (ret1 rfl S rfl ?_)))))
    first
    | (have e : aug (gr ps) (f + 1) i s0 = (true, (s.see n).pair n i) := by rw [aug_succ ps f i s0 hi0, hau, hrd, ZB5, if_neg hx, Int.toNat_natCast, if_pos hb]
       rw [e]; exact ⟨rfl, _, H⟩)
    | (have hbt : b = true := by simpa using h4
       subst hbt
       have e : aug (gr ps) (f + 1) i s0 = (true, s2.pair n i) := by rw [aug_succ ps f i s0 hi0, hau, hrd, ZB5, if_neg hx, Int.toNat_natCast, if_neg hb, ho, hq]
       rw [e]; exact ⟨rfl, _, H⟩)
   all_goals (
     exact absurd h4 (by simp))
  obtain ⟨o, ho⟩ : ∃ o : Nat, atI s.owner n = o := ⟨(atI s.owner n).toNat, by omega⟩
  refine ZAB <| q_ld S H Fsca144 rfl rfl fun a S => q_mv S rfl fun a S => gq rfl S (y_lookupok (_) ((0 : Int)) rfl underlying144 Finf3 S H rfl (ZAv underlying3) (by exact rfl) (by exact rfl)) fun a S => ?_
  rw [ownM_get, if_pos (by omega), ho] at S
  simp only [Option.getD_some, Option.isSome_some] at S
  refine q_mv S rfl fun a S => gq rfl S (ZAa rfl S rfl rfl) fun a S => gq rfl S (ZAa rfl S rfl rfl) fun a S => q_as S rfl fun a S => q_as S rfl fun a S => gnt ?_
  have S := S.sel [11, 10, 9, 18, 17, 16, 0, 2, 3, 4, 5] rfl
  refine gsr ?_
  refine q_mv S rfl fun a S => ?_
  refine gq rfl S (ZBV rfl S rfl) fun a S => ?_
  refine q_mv S rfl fun a S => ?_
  refine gz 37 rfl S rfl rfl rfl rfl rfl rfl (ZAJ rfl Fsca113 S H rfl rfl) fun a S => ?_
  refine gz 37 rfl S rfl rfl rfl rfl rfl rfl (ZAL rfl S rfl) fun a S => ?_
  refine ZAF (ZAV (wg' 37 rfl rfl S rfl rfl rfl) rfl rfl S (ZAp rfl call77 S rfl rfl) (ih o (s.see n) c1 _ (by omega) hwf1 (by simp [AS.see]; omega) H) fun v w hc a S => ?_)
  obtain ⟨rfl, c2, H⟩ := hc
  have hout := aug_out hvg f o (s.see n) (by omega) hwf1
  obtain ⟨b, s2, hq⟩ : ∃ b s2, aug (gr ps) f o (s.see n) = (b, s2) := ⟨_, _, rfl⟩
  rw [hq] at S H hout
  dsimp only at S H hout
  have hlo2 := hout.wf.lo
  have hlg2 := hout.wf.lg
  have hln2 := hout.len
  simp only [AS.see, List.length_cons] at hln2
  refine gq rfl S (ZAz rfl rfl S rfl rfl) fun a S => gnt ?_
  have S := S.sel [41, 9, 18, 17, 16, 0, 2, 3, 4, 5] rfl
  refine c_if S rfl (fun h6 => ?_) (fun h6 => ?_)
  ·have h6p := h6; try simp only [DL] at h6p
   refine gsr ?_
   refine q_ld S H Fsca86 rfl rfl fun a S => ?_
   refine q_mv S rfl fun a S => ?_
   refine q_mv S rfl fun a S => ?_
   refine ZAF (ZAV (wn rfl) rfl rfl S (ZAp rfl call74 S rfl rfl) (give_spec i n bt bp bm c2 vp s2.owner s2.got _ (by omega) (by omega) (H.pick [MapA bm (fun n : Int => .int .i64 n) (fun n : Int => .int .i64 n) (ownM (s2.owner)) c2, OSl 3 vp 1 encI (s2.got), Atom.ro (Cel bt 144 [.map (some bm)]), Atom.ro (Cel bp 37 [vp])])) fun v w hc a S => ?_)
   obtain ⟨rfl, c3, H⟩ := hc
   simp only [List.append_eq, List.nil_append] at H
   have H := H.pick [OSl 4 vs 1 encB (ZBS r (s2.seen)), MapA bm (fun n : Int => .int .i64 n) (fun n : Int => .int .i64 n) (ownM (s2.owner.set n (i : Int))) c3, OSl 3 vp 1 encI (s2.got.set i (n : Int)), Cel bs 136 [vs], Atom.ro (Cel bt 144 [.map (some bm)]), Atom.ro (Cel bp 37 [vp]), Atom.ro (Cel bw 98 [vt, vo, vn, ve]), Atom.ro (Cel bl 113 [.func (.func 77) #[] #[.pointer (some ⟨bw, 0, none⟩), .pointer (some ⟨bs, 0, none⟩), .pointer (some ⟨bt, 0, none⟩), .pointer (some ⟨bl, 0, none⟩), .pointer (some ⟨bg, 0, none⟩)]]), Atom.ro (Cel bg 86 [.func (.func 74) #[] #[.pointer (some ⟨bt, 0, none⟩), .pointer (some ⟨bp, 0, none⟩)]]), ZBC 1 encI ps, Sl ve 1 ZAo ps]
   refine gnt ?_
   have S := S.sel [18, 17, 16, 0, 2, 3, 4, 5] rfl
   refine gsr <| q_as S rfl fun a S => gnt <| ZAe <| ZAm (ZAX (ZAX (ZAm (ZAX (ret1 rfl S rfl ?_)))))
   first
   | (have e : aug (gr ps) (f + 1) i s0 = (true, (s.see n).pair n i) := by rw [aug_succ ps f i s0 hi0, hau, hrd, ZB5, if_neg hx, Int.toNat_natCast, if_pos hb]
      rw [e]; exact ⟨rfl, _, H⟩)
   | (have hbt : b = true := by simpa using h6
      subst hbt
      have e : aug (gr ps) (f + 1) i s0 = (true, s2.pair n i) := by rw [aug_succ ps f i s0 hi0, hau, hrd, ZB5, if_neg hx, Int.toNat_natCast, if_neg hb, ho, hq]
      rw [e]; exact ⟨rfl, _, H⟩)
  have h6p := h6; try simp only [DL] at h6p
  refine ZAM <| ZAK <| ZAA <| ZAB <| q_ad S rfl (by omega) fun a S => ?_
  refine q_mv S rfl fun a S => gnt ?_
  first
  | exact ⟨k + 1, S.sel [18] rfl, S.sel [17, 16, 0, 2, 3, 4, 5] rfl, ⟨by omega, s, c, by rw [hau, hrd, ZB5, if_pos hx], hwf, hfu, H⟩, by omega⟩
  | (have hbf : b = false := by simpa using h6
     subst hbf
     exact ⟨k + 1, S.sel [18] rfl, S.sel [17, 16, 0, 2, 3, 4, 5] rfl, ⟨by omega, s2, c2, by rw [hau, hrd, ZB5, if_neg hx, Int.toNat_natCast, if_neg hb, ho, hq], hout.wf, by omega, H⟩, by omega⟩)
 have h1p := h1; try simp only [DL] at h1p
 refine ZAf <| ZAO (ZAO (x_eq ?_))
 refine ZAA ?_
 have S := S.nil
 refine gsr <| q_as S rfl fun a S => gnt <| ZAe <| ret1 rfl S rfl ?_
 have e : aug (gr ps) (f + 1) i s0 = (false, s) := by rw [aug_succ ps f i s0 hi0, hau, List.drop_of_length_le (by omega)]; rfl
 rw [e]; exact ⟨rfl, _, H⟩
theorem look_spec (r : Nat) (vs vp vt vo vn ve : Value) (ps : List (Value × List Int)) (bw bs bt bl bg bp bm : Nat) (hvg : ZBm (gr ps) r = true) : ∀ f, LookSpec f r vs vp vt vo vn ve ps bw bs bt bl bg bp bm
  | 0 => fun i s0 c0 w0 hi hwf hf h => by have := hwf.few; omega
  | f + 1 => fun i s0 c0 w0 hi hwf hf h => look_step f r vs vp vt vo vn ve ps bw bs bt bl bg bp bm hvg (look_spec r vs vp vt vo vn ve ps bw bs bt bl bg bp bm hvg f) i s0 c0 w0 hi hwf hf h
def Reach2Spec (f : Nat) (r : Nat) (vq vx vt vo vn ve : Value) (ps : List (Value × List Int)) (owner : List Int) (bq bw bx bt br bm c : Nat) : Prop := ∀ {M : Nat → Prop} {u0 : World} {l : List Atom} (i : Nat) (s0 : RS) (w0 : World), i < ps.length → R2WF (gr ps) s0 → (gr ps).length < f + s0.left.length →
    HSat M u0 (OSl 4 vq 1 encB (ZBS ps.length (s0.left)) :: OSl 4 vx 1 encB (ZBS r (s0.reached)) :: Atom.ro (Cel bq 136 [vq]) :: Atom.ro (Cel bx 136 [vx]) :: Atom.ro (MapA bm (fun n : Int => .int .i64 n) (fun n : Int => .int .i64 n) (ownM (owner)) c) :: Atom.ro (Cel bt 144 [.map (some bm)]) :: Atom.ro (Cel bw 98 [vt, vo, vn, ve]) :: Atom.ro (Cel br 85 [.func (.func 78) #[] #[.pointer (some ⟨bq, 0, none⟩), .pointer (some ⟨bw, 0, none⟩), .pointer (some ⟨bx, 0, none⟩), .pointer (some ⟨bt, 0, none⟩), .pointer (some ⟨br, 0, none⟩)]]) :: ZBC 1 encI ps :: Sl ve 1 ZAo ps :: l) w0 → Ret Tryz.prog 78 #[.int .i64 (i : Int), .pointer (some ⟨bq, 0, none⟩), .pointer (some ⟨bw, 0, none⟩), .pointer (some ⟨bx, 0, none⟩), .pointer (some ⟨bt, 0, none⟩), .pointer (some ⟨br, 0, none⟩)] w0 (fun u w => u = .tuple #[] ∧ HSat M u0 (OSl 4 vq 1 encB (ZBS ps.length ((reach2 (gr ps) owner f (i : Int) s0).left)) :: OSl 4 vx 1 encB (ZBS r ((reach2 (gr ps) owner f (i : Int) s0).reached)) :: Atom.ro (Cel bq 136 [vq]) :: Atom.ro (Cel bx 136 [vx]) :: Atom.ro (MapA bm (fun n : Int => .int .i64 n) (fun n : Int => .int .i64 n) (ownM (owner)) c) :: Atom.ro (Cel bt 144 [.map (some bm)]) :: Atom.ro (Cel bw 98 [vt, vo, vn, ve]) :: Atom.ro (Cel br 85 [.func (.func 78) #[] #[.pointer (some ⟨bq, 0, none⟩), .pointer (some ⟨bw, 0, none⟩), .pointer (some ⟨bx, 0, none⟩), .pointer (some ⟨bt, 0, none⟩), .pointer (some ⟨br, 0, none⟩)]]) :: ZBC 1 encI ps :: Sl ve 1 ZAo ps :: l) w)
set_option maxHeartbeats 2000000 in
theorem reach2_step {M : Nat → Prop} {u0 : World} {l : List Atom} (f : Nat) (r : Nat) (vq vx vt vo vn ve : Value) (ps : List (Value × List Int)) (owner : List Int) (bq bw bx bt br bm c : Nat) (hvg : ZBm (gr ps) r = true) (hol : owner.length = r) (hown : ∀ n : Nat, atI owner n < (gr ps).length) (ih : Reach2Spec f r vq vx vt vo vn ve ps owner bq bw bx bt br bm c) (i : Nat) (s0 : RS) (w0 : World) (hi0 : i < ps.length) (hwf0 : R2WF (gr ps) s0) (hf0 : (gr ps).length < f + 1 + s0.left.length) (h0 : HSat M u0 (OSl 4 vq 1 encB (ZBS ps.length (s0.left)) :: OSl 4 vx 1 encB (ZBS r (s0.reached)) :: Atom.ro (Cel bq 136 [vq]) :: Atom.ro (Cel bx 136 [vx]) :: Atom.ro (MapA bm (fun n : Int => .int .i64 n) (fun n : Int => .int .i64 n) (ownM (owner)) c) :: Atom.ro (Cel bt 144 [.map (some bm)]) :: Atom.ro (Cel bw 98 [vt, vo, vn, ve]) :: Atom.ro (Cel br 85 [.func (.func 78) #[] #[.pointer (some ⟨bq, 0, none⟩), .pointer (some ⟨bw, 0, none⟩), .pointer (some ⟨bx, 0, none⟩), .pointer (some ⟨bt, 0, none⟩), .pointer (some ⟨br, 0, none⟩)]]) :: ZBC 1 encI ps :: Sl ve 1 ZAo ps :: l) w0) :
    Ret Tryz.prog 78 #[.int .i64 (i : Int), .pointer (some ⟨bq, 0, none⟩), .pointer (some ⟨bw, 0, none⟩), .pointer (some ⟨bx, 0, none⟩), .pointer (some ⟨bt, 0, none⟩), .pointer (some ⟨br, 0, none⟩)] w0 (fun u w => u = .tuple #[] ∧ HSat M u0 (OSl 4 vq 1 encB (ZBS ps.length ((reach2 (gr ps) owner (f + 1) (i : Int) s0).left)) :: OSl 4 vx 1 encB (ZBS r ((reach2 (gr ps) owner (f + 1) (i : Int) s0).reached)) :: Atom.ro (Cel bq 136 [vq]) :: Atom.ro (Cel bx 136 [vx]) :: Atom.ro (MapA bm (fun n : Int => .int .i64 n) (fun n : Int => .int .i64 n) (ownM (owner)) c) :: Atom.ro (Cel bt 144 [.map (some bm)]) :: Atom.ro (Cel bw 98 [vt, vo, vn, ve]) :: Atom.ro (Cel br 85 [.func (.func 78) #[] #[.pointer (some ⟨bq, 0, none⟩), .pointer (some ⟨bw, 0, none⟩), .pointer (some ⟨bx, 0, none⟩), .pointer (some ⟨bt, 0, none⟩), .pointer (some ⟨br, 0, none⟩)]]) :: ZBC 1 encI ps :: Sl ve 1 ZAo ps :: l) w) := by
 refine ZAE (nt := 42) Tryz.func78 rfl rfl rfl (fl := [(0, .int .i64 (i : Int)), (1, .pointer (some ⟨bq, 0, none⟩)), (2, .pointer (some ⟨bw, 0, none⟩)), (3, .pointer (some ⟨bx, 0, none⟩)), (4, .pointer (some ⟨bt, 0, none⟩)), (5, .pointer (some ⟨br, 0, none⟩))]) rfl (fun a S => ?_)
 have H := h0
 have hgl := gr_len ps
 have hrw := gr_row ps hi0
 have hvp := ZBG hvg
 have hlv := (H.sl ve).len
 have hrl := (H.rwsS (sz := 1) (enc := encI) ps _ (List.getElem_mem hi0)).len
 refine ZAG ?_
 refine gsr ?_
 refine q_ld S H Fsca136 rfl rfl fun a S => ?_
 refine q_mv S rfl fun a S => ?_
 refine gq rfl S (ZAI rfl underlying136 Fsiz4 S H rfl rfl (by first | assumption | omega | (rw [ZBU]; omega))) fun a S => ?_
 refine gq rfl S (ZA6 _ rfl Fsca4 S H rfl (by first | assumption | omega | (rw [ZBU]; omega)) rfl) fun a S => ?_
 refine gnt <| c_if S rfl (fun h1 => ?_) (fun h1 => ?_)
 ·have h1p := h1; try simp only [DL] at h1p
  have hx0 : (i : Int) ∈ s0.left := by have := h1; rw [seenB_get] at this; simpa using this
  refine ZAe <| ZAX (ret0 rfl S ?_)
  rw [reach2_in _ _ _ _ _ hx0]; exact ⟨rfl, H⟩
 have h1p := h1; try simp only [DL] at h1p
 have hx0 : (i : Int) ∉ s0.left := by have := h1; rw [seenB_get] at this; simpa using this
 have hwf1 : R2WF (gr ps) { s0 with left := (i : Int) :: s0.left } := ⟨fun j hj => by rcases List.mem_cons.1 hj with rfl | hj; omega; exact hwf0.lft j hj, List.nodup_cons.2 ⟨hx0, hwf0.lnd⟩⟩
 refine ZAM <| ZAA ?_
 have S := S.sel [0, 1, 2, 3, 4, 5] rfl
 refine gsr ?_
 refine q_ld S H Fsca136 rfl rfl fun a S => ?_
 refine q_mv S rfl fun a S => ?_
 refine gq rfl S (ZAI rfl underlying136 Fsiz4 S H rfl rfl (by first | assumption | omega | (rw [ZBU]; omega))) fun a S => ?_
 refine ZAF (op_store1 _ (true) (wn rfl) rfl rfl S H rfl rfl rfl rfl Fsiz4 (by first | assumption | omega | (rw [ZBU]; omega)) (by exact rfl) fun a w S H => ?_)
 refine gnt ?_
 have S := S.sel [0, 2, 3, 4, 5] rfl
 refine gsr <| q_fa S Ffo98_3 rfl fun a S => q_ld S H Fsca62 rfl rfl fun a S => q_mv S rfl fun a S => gq rfl S (ZAI rfl underlying62 Fsiz37 S H rfl rfl (by omega)) fun a S => ?_
 refine gq rfl S (ZA6 _ rfl ZBX S H rfl (by omega) rfl) fun a S => ?_
 refine gq rfl S (ZAT rfl underlying37 S H rfl) fun a S => q_mv S rfl fun a S => gnt ?_
 have S := S.sel [24, 23, 22, 3, 4, 5] rfl
 refine ZAD ?_
 rw [seenB_set] at H
 have SU := S.sel [23, 22, 3, 4, 5] rfl
 refine ZBL (X := Nat) SU (fun k => [(24, .int .i64 (k : Int))]) (fun k w => k ≤ ps[i].2.length ∧ ∃ s, ZBa (reach2 (gr ps) owner f) owner ps[i].2 { s0 with left := (i : Int) :: s0.left } = ZBa (reach2 (gr ps) owner f) owner (ps[i].2.drop k) s ∧ R2WF (gr ps) s ∧ (gr ps).length < f + s.left.length ∧ HSat M u0 (OSl 4 vq 1 encB (ZBS ps.length (s.left)) :: OSl 4 vx 1 encB (ZBS r (s.reached)) :: Atom.ro (Cel bq 136 [vq]) :: Atom.ro (Cel bx 136 [vx]) :: Atom.ro (MapA bm (fun n : Int => .int .i64 n) (fun n : Int => .int .i64 n) (ownM (owner)) c) :: Atom.ro (Cel bt 144 [.map (some bm)]) :: Atom.ro (Cel bw 98 [vt, vo, vn, ve]) :: Atom.ro (Cel br 85 [.func (.func 78) #[] #[.pointer (some ⟨bq, 0, none⟩), .pointer (some ⟨bw, 0, none⟩), .pointer (some ⟨bx, 0, none⟩), .pointer (some ⟨bt, 0, none⟩), .pointer (some ⟨br, 0, none⟩)]]) :: ZBC 1 encI ps :: Sl ve 1 ZAo ps :: l) w) (fun k => ps[i].2.length - k) 0 (S.sel [24] rfl) (⟨by omega, { s0 with left := (i : Int) :: s0.left }, rfl, hwf1, by simp only [List.length_cons]; omega, H⟩) (fun k a w S hW => ?_)
 simp only [List.cons_append, List.nil_append] at S
 obtain ⟨hk, s, hau, hwf, hfu, H⟩ := hW
 refine gsr <| q_bn S rfl fun a S => gnt <| ZAG <| c_if S rfl (fun h2 => ?_) (fun h2 => ?_)
 ·have h2p := h2; try simp only [DL] at h2p
  have hkl : k < ps[i].2.length := by omega
  obtain ⟨n, hn⟩ : ∃ n : Nat, ps[i].2[k] = n := ⟨ps[i].2[k].toNat, by have := hvp.2.2.2 i ps[i].2[k] (by rw [hrw]; exact List.getElem_mem _); omega⟩
  have hnr : (0 : Int) ≤ n ∧ (n : Int) < r := hvp.2.2.2 i n (by rw [hrw, ← hn]; exact List.getElem_mem _)
  have hrd : ps[i].2.drop k = (n : Int) :: ps[i].2.drop (k + 1) := by rw [← hn]; exact List.drop_eq_getElem_cons hkl
  have hnrr : n < r := by omega
  have hon := hown n
  have hwf2 : R2WF (gr ps) { s with reached := (n : Int) :: s.reached } := ⟨hwf.lft, hwf.lnd⟩
  refine ZAM <| ZAA <| ZAG <| ZAD <| gsr <| gq rfl S (ZAI rfl underlying37 ZA5 S H rfl rfl (by omega)) fun a S => ?_
  refine gq rfl S (ZA6 _ rfl ZAN S H rfl (by omega) rfl) fun a S => ?_
  rw [hn] at S
  refine q_as S rfl fun a S => ?_
  refine gnt ?_
  refine gsr ?_
  refine q_ld S H Fsca136 rfl rfl fun a S => ?_
  refine q_mv S rfl fun a S => ?_
  refine gq rfl S (ZAI rfl underlying136 Fsiz4 S H rfl rfl (by first | assumption | omega | (rw [ZBU]; omega))) fun a S => ?_
  refine ZAF (op_store1 _ (true) (wn rfl) rfl rfl S H rfl rfl rfl rfl Fsiz4 (by first | assumption | omega | (rw [ZBU]; omega)) (by exact rfl) fun a w S H => ?_)
  refine gnt ?_
  have S := S.sel [8, 24, 23, 22, 3, 4, 5] rfl
  refine gsr <| q_ld S H Fsca144 rfl rfl fun a S => q_mv S rfl fun a S => gq rfl S (y_lookupok (_) ((0 : Int)) rfl underlying144 Finf3 S H rfl (ZAv underlying3) (by exact rfl) (by exact rfl)) fun a S => ?_
  refine q_mv S rfl fun a S => gq rfl S (ZAa rfl S rfl rfl) fun a S => gq rfl S (ZAa rfl S rfl rfl) fun a S => q_as S rfl fun a S => q_as S rfl fun a S => gnt ?_
  have S := S.sel [10, 9, 24, 23, 22, 3, 4, 5] rfl
  refine gsr <| q_mv S rfl fun a S => gnt <| c_if S rfl (fun h3 => ?_) (fun h3 => ?_)
  ·have h3p := h3; try simp only [DL] at h3p
   have hb : 0 ≤ atI owner n := by have hh := h3; rw [ownM_get] at hh; by_cases h0 : 0 ≤ atI owner n; exact h0; rw [if_neg h0] at hh; cases hh
   obtain ⟨o, ho⟩ : ∃ o : Nat, atI owner n = o := ⟨(atI owner n).toNat, by omega⟩
   rw [show (ownM owner (n : Int)).getD 0 = (o : Int) by rw [ownM_get, if_pos hb, ho]; rfl] at S
   refine ZAB ?_
   refine q_ld S H Fsca85 rfl rfl fun a S => ?_
   refine q_mv S rfl fun a S => ?_
   refine ZAF (ZAV (wn rfl) rfl rfl S (ZAp rfl call78 S rfl rfl) (ih o { s with reached := (n : Int) :: s.reached } _ (by omega) hwf2 (by dsimp only; omega) (by rw [seenB_set] at H; exact H)) fun v w hc a S => ?_)
   obtain ⟨rfl, H⟩ := hc
   have ho1 := (reach2_law hown f o { s with reached := (n : Int) :: s.reached } (by omega) hwf2 (by dsimp only; omega)).out
   have hln2 := ho1.len
   dsimp only at hln2
   refine ZAj <| ZAK <| ZAA ?_
   have S := S.sel [24, 23, 22, 3, 4, 5] rfl
   refine ZAB <| q_ad S rfl (by omega) fun a S => ?_
   refine q_mv S rfl fun a S => gnt ?_
   first
   | exact ⟨k + 1, S.sel [24] rfl, S.sel [23, 22, 3, 4, 5] rfl, ⟨by omega, _, by rw [hau, hrd, ZBa, Int.toNat_natCast, if_pos hb, ho], ho1.wf, by omega, H⟩, by omega⟩
   | (rw [seenB_set] at H
      exact ⟨k + 1, S.sel [24] rfl, S.sel [23, 22, 3, 4, 5] rfl, ⟨by omega, { s with reached := (n : Int) :: s.reached }, by rw [hau, hrd, ZBa, Int.toNat_natCast, if_neg hb], hwf2, hfu, H⟩, by omega⟩)
  have h3p := h3; try simp only [DL] at h3p
  have hb : ¬ 0 ≤ atI owner n := by intro h0; have hh := h3; rw [ownM_get, if_pos h0] at hh; cases hh
  refine ZAM <| ZAK <| ZAA <| ZAB <| q_ad S rfl (by omega) fun a S => ?_
  refine q_mv S rfl fun a S => gnt ?_
  first
  | exact ⟨k + 1, S.sel [24] rfl, S.sel [23, 22, 3, 4, 5] rfl, ⟨by omega, _, by rw [hau, hrd, ZBa, Int.toNat_natCast, if_pos hb, ho], ho1.wf, by omega, H⟩, by omega⟩
  | (rw [seenB_set] at H
     exact ⟨k + 1, S.sel [24] rfl, S.sel [23, 22, 3, 4, 5] rfl, ⟨by omega, { s with reached := (n : Int) :: s.reached }, by rw [hau, hrd, ZBa, Int.toNat_natCast, if_neg hb], hwf2, hfu, H⟩, by omega⟩)
 have h2p := h2; try simp only [DL] at h2p
 refine ZAf <| ZAO (ZAO (x_eq ?_))
 refine ZB1 rfl S ?_
 rw [reach2_succ ps owner f i s0 hi0 hx0, hau, List.drop_of_length_le (by omega)]; exact ⟨rfl, H⟩
theorem reach2_spec (r : Nat) (vq vx vt vo vn ve : Value) (ps : List (Value × List Int)) (owner : List Int) (bq bw bx bt br bm c : Nat) (hvg : ZBm (gr ps) r = true) (hol : owner.length = r) (hown : ∀ n : Nat, atI owner n < (gr ps).length) : ∀ f, Reach2Spec f r vq vx vt vo vn ve ps owner bq bw bx bt br bm c
  | 0 => fun i s0 w0 hi hwf hf h => by have := hwf.few; omega
  | f + 1 => fun i s0 w0 hi hwf hf h => reach2_step f r vq vx vt vo vn ve ps owner bq bw bx bt br bm c hvg hol hown (reach2_spec r vq vx vt vo vn ve ps owner bq bw bx bt br bm c hvg hol hown f) i s0 w0 hi hwf hf h
set_option maxHeartbeats 8000000 in
theorem match_spec (vt vo vn ve : Value) (ts : List Ow) (olds next : List Pl) (ps : List (Value × List Int)) (w0 : World) (hvt : IsSl w0 vt 11 Ow.enc ts) (hvo : IsSl w0 vo 9 Pl.enc olds) (hvn : IsSl w0 vn 9 Pl.enc next) (hv : IsSl w0 ve 1 ZAo ps) (hr : ∀ p ∈ ps, IsSl w0 p.1 1 encI p.2) (hps : gr ps = ZAy olds next) (hto : ts.length = olds.length) (hm1 : olds.length ≤ 4000) (hm2 : next.length ≤ 4000) :
    Ret Tryz.prog 28 #[.agg #[vt, vo, vn, ve]] w0 (fun u w => ∃ vp vl vr, u = .tuple #[vp, .agg #[vl, vr]] ∧ HSat No w0 [OSl 3 vp 1 encI (plL olds next), OSl 3 vl 1 encI (clL olds next), OSl 3 vr 1 encI (crL olds next)] w) := by
 refine ZAE (nt := 155) Tryz.func28 rfl rfl rfl (fl := [(0, .agg #[vt, vo, vn, ve])]) rfl (fun a S => ?_)
 have H := HSat.start w0
 have H := H.ro0 (Sl vt 11 Ow.enc ts) rfl (hvt)
 have H := H.ro0 (Sl vo 9 Pl.enc olds) rfl (hvo)
 have H := H.ro0 (Sl vn 9 Pl.enc next) rfl (hvn)
 have H := H.ro0 (Sl ve 1 ZAo ps) rfl (hv)
 have H := H.ro0 (ZBC 1 encI ps) rfl (hr)
 have hpl0 : ps.length = olds.length := by have := congrArg List.length hps; rw [gr_len, ZBO] at this; exact this
 have hvg0 := edges_valid hm1 hm2
 have hvg : ZBm (gr ps) next.length = true := by rw [hps]; exact hvg0
 have hvp := ZBG hvg
 refine gsr <| ZAF (ZAu (wn rfl) rfl rfl rfl S H rfl fun b1 a w S H => q_as S rfl fun a S => q_al S H rfl Fzer39 fun b3 a w S H => gnt ?_)
 refine gsr <| ZAF (ZBK (fun n : Int => .int .i64 n) (fun n : Int => .int .i64 n) (wn rfl) rfl rfl rfl S H fun b29 a w S H => ?_)
 rw [show MapA b29 (fun n : Int => .int .i64 n) (fun n : Int => .int .i64 n) (fun _ => none) 0 = MapA b29 (fun n : Int => .int .i64 n) (fun n : Int => .int .i64 n) (ownM (ZBB olds next 0).1) 0 from congrArg (fun m => MapA b29 (fun n : Int => .int .i64 n) (fun n : Int => .int .i64 n) m 0) (ownM_none next.length).symm] at H
 refine q_al S H rfl Fzer144 fun b4 a w S H => q_st S H rfl rfl Fsiz144 rfl fun a w S H => ?_
 dsimp only [List.set, Nat.zero_add, Nat.reduceAdd] at H
 refine gnt <| gsr <| ZAF (ZAP (wn rfl) rfl rfl rfl underlying37 Finf3 S H (idx := [0]) rfl rfl rfl (z := [.int .i64 0]) (by kernel_rfl) (cs := [_]) rfl fun b30 a w S H => ?_)
 refine q_fa S Ffo98_0 rfl fun a S => q_ld S H Fsca34 rfl rfl fun a S => gq rfl S (ZAT rfl underlying34 S H rfl) fun a S => ZAF (ZAV (wn rfl) rfl rfl S (ZAi rfl call73 S rfl) (repeat_spec (.slice (some ⟨b30, 0, none⟩) 1 1) ts.length _ (H.slb b30 [-1] encI 1 rfl rfl (by simp [encI]) (by omega)) (by omega)) fun u34 w hc a S => ?_)
 have H1 := hc
 have H := H.call1 H1 rfl
 refine q_al S H rfl Fzer37 fun b5 a w S H => q_st S H rfl (H.sl1 _) Fsiz37 rfl fun a w S H => ?_
 dsimp only [List.set, Nat.zero_add, Nat.reduceAdd] at H
 refine gnt ?_
 have S := S.sel [5, 4, 3, 2, 1] rfl
 refine gsr <| gq rfl S (ZAd rfl S rfl rfl) fun a S => q_al S H rfl Fzer86 fun b6 a w S H => q_st S H rfl rfl Fsiz86 rfl fun a w S H => ?_
 dsimp only [List.set, Nat.zero_add, Nat.reduceAdd] at H
 refine gnt <| ZAG <| gsr <| q_fa S Ffo98_3 rfl fun a S => q_ld S H Fsca62 rfl rfl fun a S => gq rfl S (ZAT rfl underlying62 S H rfl) fun a S => q_mv S rfl fun a S => gnt ?_
 refine ZAD ?_
 have H := H.defs0
 rw [show List.replicate ts.length (-1) = (ZBB olds next 0).2 by rw [hto]; rfl] at H
 have H := (H.front (Cel b6 86 [.func (.func 74) #[] #[.pointer (some ⟨b4, 0, none⟩), .pointer (some ⟨b5, 0, none⟩)]])).freeze
 have H := (H.front (Cel b5 37 [u34])).freeze
 have H := (H.front (Cel b4 144 [.map (some b29)])).freeze
 have H := (H.front (Cel b1 98 [vt, vo, vn, ve])).freeze
 have SU := S.sel [38, 37, 6, 5, 4, 3, 2, 1] rfl
 refine loopD (X := Nat × List Nat) (fun x => x.2) (fun x => [(39, .int .i64 (x.1 : Int))]) (fun x w => x.1 ≤ olds.length ∧ ∃ c, HSat No w0 [ZBe x.2, MapA b29 (fun n : Int => .int .i64 n) (fun n : Int => .int .i64 n) (ownM ((ZBB olds next x.1).1)) c, OSl 3 u34 1 encI (ZBB olds next x.1).2, Cel b3 39 [.slice none 0 0, .slice none 0 0], Atom.ro (Cel b6 86 [.func (.func 74) #[] #[.pointer (some ⟨b4, 0, none⟩), .pointer (some ⟨b5, 0, none⟩)]]), Atom.ro (Cel b5 37 [u34]), Atom.ro (Cel b4 144 [.map (some b29)]), Atom.ro (Cel b1 98 [vt, vo, vn, ve]), ZBC 1 encI ps, Sl ve 1 ZAo ps, Sl vn 9 Pl.enc next, Sl vo 9 Pl.enc olds, Sl vt 11 Ow.enc ts] w) (fun x => olds.length - x.1) (0, []) SU (S.sel [39] rfl) (⟨by simp, 0, H.take [ZBe [], MapA b29 (fun n : Int => .int .i64 n) (fun n : Int => .int .i64 n) (ownM ((ZBB olds next 0).1)) 0, OSl 3 u34 1 encI (ZBB olds next 0).2, Cel b3 39 [.slice none 0 0, .slice none 0 0], Atom.ro (Cel b6 86 [.func (.func 74) #[] #[.pointer (some ⟨b4, 0, none⟩), .pointer (some ⟨b5, 0, none⟩)]]), Atom.ro (Cel b5 37 [u34]), Atom.ro (Cel b4 144 [.map (some b29)]), Atom.ro (Cel b1 98 [vt, vo, vn, ve]), ZBC 1 encI ps, Sl ve 1 ZAo ps, Sl vn 9 Pl.enc next, Sl vo 9 Pl.enc olds, Sl vt 11 Ow.enc ts]⟩) (fun x a w S hW => ?_)
 simp only [List.cons_append, List.nil_append] at S
 obtain ⟨i, ds⟩ := x
 obtain ⟨hi, c, H⟩ := hW
 dsimp only at S H hi
 refine gsr <| q_bn S rfl fun a S => gnt <| ZAG <| c_if S rfl (fun h1 => ?_) (fun h1 => ?_)
 ·have h1p := h1; try simp only [DL] at h1p
  have hip : i < ps.length := by omega
  have hio : i < olds.length := by omega
  have hrw := gr_row ps hip
  have hrl := (hr _ (List.getElem_mem hip)).len
  have hrng : ∀ x ∈ ps[i].2, 0 ≤ x ∧ x < next.length := fun x hx => hvp.2.2.2 i x (by rw [hrw]; exact hx)
  have hI := startK_inv hm1 hm2 i (by omega)
  have hlo : (ZBB olds next i).1.length = next.length := by have := hI.wf.lo; simpa using this
  have hlg : (ZBB olds next i).2.length = olds.length := by have := hI.wf.lg; rw [ZBO] at this; exact this
  have hch : findS next ps[i].2 (spot4 olds[i]) = chF olds next i := by
    rw [findS_first (fun x hx => by have := hrng x hx; omega), ← hrw, hps]
    unfold chF
    rw [List.getD_eq_getElem?_getD, List.getElem?_eq_getElem hio]; rfl
  refine ZAM <| ZAA <| ZAG <| ZAD <| gsr <| q_mv S rfl fun a S => gq rfl S (ZAI rfl underlying62 Fsiz37 S H rfl rfl (by omega)) fun a S => ?_
  refine gq rfl S (ZA6 _ rfl ZBX S H rfl (by omega) rfl) fun a S => ?_
  refine q_as S rfl fun a S => q_as S rfl fun a S => gnt ?_
  have S := S.sel [8, 7, 39, 38, 37, 6, 5, 4, 3, 2, 1] rfl
  refine gsr <| ZAF (ZBK (encI4) (fun n : Int => .int .i64 n) (wn rfl) rfl rfl rfl S H fun b44 a w S H => q_al S H rfl Fzer147 fun b9 a w S H => q_st S H rfl rfl Fsiz147 rfl fun a w S H => ?_)
  dsimp only [List.set, Nat.zero_add, Nat.reduceAdd] at H
  refine gnt <| ZAG <| gsr <| q_mv S rfl fun a S => q_cl S rfl call75 (backward_spec ps[i].1 ps[i].2 _ (H.rwsS ps _ (List.getElem_mem hip))) fun v w hc a S => ?_
  obtain ⟨bi, rfl, H1⟩ := hc
  have H := H.call1 H1 rfl
  refine gnt <| ZAD ?_
  rw [show MapA b44 (encI4) (fun n : Int => .int .i64 n) (fun _ => none) 0 = MapA b44 (encI4) (fun n : Int => .int .i64 n) (findS next (ps[i].2.drop ps[i].2.length)) 0 by rw [List.drop_length]; rfl] at H
  have H := (H.front (Cel b9 147 [.map (some b44)])).freeze
  have H := (H.front (Cel bi 37 [ps[i].1])).freeze
  have H := H.take [ZBe ds, MapA b44 (encI4) (fun n : Int => .int .i64 n) (findS next (ps[i].2.drop ps[i].2.length)) 0, Atom.ro (Cel b9 147 [.map (some b44)]), Atom.ro (Cel bi 37 [ps[i].1]), MapA b29 (fun n : Int => .int .i64 n) (fun n : Int => .int .i64 n) (ownM ((ZBB olds next i).1)) c, OSl 3 u34 1 encI (ZBB olds next i).2, Cel b3 39 [.slice none 0 0, .slice none 0 0], Atom.ro (Cel b6 86 [.func (.func 74) #[] #[.pointer (some ⟨b4, 0, none⟩), .pointer (some ⟨b5, 0, none⟩)]]), Atom.ro (Cel b5 37 [u34]), Atom.ro (Cel b4 144 [.map (some b29)]), Atom.ro (Cel b1 98 [vt, vo, vn, ve]), ZBC 1 encI ps, Sl ve 1 ZAo ps, Sl vn 9 Pl.enc next, Sl vo 9 Pl.enc olds, Sl vt 11 Ow.enc ts]
  refine g_range (Φ := fun p l2 => p = none ∧ ∃ c2, l2 = [MapA b44 (encI4) (fun n : Int => .int .i64 n) (findS next (ps[i].2.drop 0)) c2, Atom.ro (Cel b9 147 [.map (some b44)]), Atom.ro (Cel bi 37 [ps[i].1]), MapA b29 (fun n : Int => .int .i64 n) (fun n : Int => .int .i64 n) (ownM ((ZBB olds next i).1)) c, OSl 3 u34 1 encI (ZBB olds next i).2, Cel b3 39 [.slice none 0 0, .slice none 0 0], Atom.ro (Cel b6 86 [.func (.func 74) #[] #[.pointer (some ⟨b4, 0, none⟩), .pointer (some ⟨b5, 0, none⟩)]]), Atom.ro (Cel b5 37 [u34]), Atom.ro (Cel b4 144 [.map (some b29)]), Atom.ro (Cel b1 98 [vt, vo, vn, ve]), ZBC 1 encI ps, Sl ve 1 ZAo ps, Sl vn 9 Pl.enc next, Sl vo 9 Pl.enc olds, Sl vt 11 Ow.enc ts]) S (H) rfl call106 (fun R lb w1 hrec H1 => ?_) ?_
  ·have SR := S.recd
   refine Ret.mono (backward_iter lb bi ps[i].1 ps[i].2 w1 (fun k w => ∃ c2, HSat No w0 [Blk lb (.loop R), ZBe (R.defers :: ds), MapA b44 (encI4) (fun n : Int => .int .i64 n) (findS next (ps[i].2.drop k)) c2, Atom.ro (Cel b9 147 [.map (some b44)]), Atom.ro (Cel bi 37 [ps[i].1]), MapA b29 (fun n : Int => .int .i64 n) (fun n : Int => .int .i64 n) (ownM ((ZBB olds next i).1)) c, OSl 3 u34 1 encI (ZBB olds next i).2, Cel b3 39 [.slice none 0 0, .slice none 0 0], Atom.ro (Cel b6 86 [.func (.func 74) #[] #[.pointer (some ⟨b4, 0, none⟩), .pointer (some ⟨b5, 0, none⟩)]]), Atom.ro (Cel b5 37 [u34]), Atom.ro (Cel b4 144 [.map (some b29)]), Atom.ro (Cel b1 98 [vt, vo, vn, ve]), ZBC 1 encI ps, Sl ve 1 ZAo ps, Sl vn 9 Pl.enc next, Sl vo 9 Pl.enc olds, Sl vt 11 Ow.enc ts] w) (fun k w ⟨c2, H⟩ => ⟨H.rd bi, H.rwsS ps _ (List.getElem_mem hip)⟩) (fun k w w' ⟨c2, H⟩ e => ⟨c2, H.ext e⟩) (fun k hk w hJ => ?_) ⟨0, H1⟩) ?_
   ·obtain ⟨c2, H⟩ := hJ
    obtain ⟨n, hn⟩ : ∃ n : Nat, ps[i].2[k] = n := ⟨ps[i].2[k].toNat, by have := hrng _ (List.getElem_mem hk); omega⟩
    have hnn : n < next.length := by have := hrng _ (List.getElem_mem hk); omega
    refine yield2 hrec SR H rfl rfl (fun a S => ZAB ?_)
    refine q_as S rfl fun a S => ?_
    rw [hn] at S
    refine gnt <| r_begin hrec H (fun w H => ZAD ?_)
    refine ZAZ (loud := [8]) (tails := [8]) (free := []) [0, 1, 2, 3, 4, 5, 6, 7, 8] [] Fmo (by kernel_rfl) (by kernel_rfl) rfl H ?_
    refine m_q rfl S (fun w H => ZAJ rfl Fsca147 S H rfl rfl) fun a S => m_q rfl S (fun w H => ZAC rfl Ffo98_2 S rfl) fun a S => m_q rfl S (fun w H => ZAJ rfl Fsca30 S H rfl rfl) fun a S => m_q rfl S (fun w H => ZAL rfl S rfl) fun a S => m_q rfl S (fun w H => ZAI rfl underlying30 Fsiz57 S H rfl rfl (by omega)) fun a S => ?_
    refine m_loadsa _ rfl rfl (wn rfl) rfl rfl S rfl rfl (by exact Fagg57) (by omega) fun a S => ?_
    refine m_c rfl rfl (wn rfl) rfl rfl S (fun w => ZAi rfl call76 S rfl) (fun w H => numbers_spec next[n] _) fun a S => m_q rfl S (fun w H => ZAL rfl S rfl) fun a S => m_l rfl rfl (fun w H => ZBA (spot4 next[n]) ((n : Int)) (wn rfl) rfl rfl underlying147 S H rfl (keyOK_i4 underlying152 (by kernel_rfl) (by kernel_rfl)) (by exact rfl) (by exact rfl) fun a w S H => m_tail H rfl ?_)
    refine ZBY (fun w H => ZAK ?_)
    refine r_end hrec H (fun w H => ?_)
    rw [findS_step hk hn hnn] at H
    exact ⟨rfl, _, H⟩
   rintro _ w2 ⟨c2, H2⟩
   exact ⟨.ready, none, _, by simp, ⟨rfl, c2, rfl⟩, by rw [hrec.same]; exact H2⟩
  intro bd a w pend l2 S H hΦ
  obtain ⟨rfl, c2, rfl⟩ := hΦ
  rw [List.drop_zero] at H
  refine ZAK <| ZAA ?_
  have S := S.sel [9, 7, 39, 38, 37, 6, 5, 4, 3, 2, 1] rfl
  refine ZAG <| ZAZ (loud := []) (tails := []) (free := []) [0, 1, 2, 3, 4, 5, 6, 7, 8, 9, 10, 11, 12] [] Fmo (by kernel_rfl) (by kernel_rfl) rfl H ?_
  refine m_q rfl S (fun w H => ZAJ rfl Fsca147 S H rfl rfl) fun a S => m_q rfl S (fun w H => ZAC rfl Ffo98_1 S rfl) fun a S => m_q rfl S (fun w H => ZAJ rfl Fsca30 S H rfl rfl) fun a S => m_q rfl S (fun w H => ZAL rfl S rfl) fun a S => m_q rfl S (fun w H => ZAI rfl underlying30 Fsiz57 S H rfl rfl (by omega)) fun a S => ?_
  refine m_loadsa _ rfl rfl (wn rfl) rfl rfl S rfl rfl (by exact Fagg57) (by omega) fun a S => ?_
  refine m_c rfl rfl (wn rfl) rfl rfl S (fun w => ZAi rfl call76 S rfl) (fun w H => numbers_spec olds[i] _) fun a S => m_q rfl S (fun w H => y_lookupokE (spot4 olds[i]) ((0 : Int)) rfl underlying147 Finf3 S H rfl (keyOK_i4 underlying152 (by kernel_rfl) (by kernel_rfl)) (by exact rfl) (by exact rfl) rfl) fun a S => ?_
  rw [hch] at S
  refine m_q rfl S (fun w H => ZAL rfl S rfl) fun a S => m_q rfl S (fun w H => ZAa rfl S rfl rfl) fun a S => m_q rfl S (fun w H => ZAa rfl S rfl rfl) fun a S => m_q rfl S (fun w H => ZA1 rfl S rfl) fun a S => m_q rfl S (fun w H => ZA1 rfl S rfl) fun a S => ZBY (fun w H => ZAA ?_)
  have S := S.sel [13, 12, 7, 39, 38, 37, 6, 5, 4, 3, 2, 1] rfl
  refine gsr <| q_mv S rfl fun a S => gnt <| c_if S rfl (fun h2 => ?_) (fun h2 => ?_)
  ·have h2p := h2; try simp only [DL] at h2p
   obtain ⟨m, hm⟩ := Option.isSome_iff_exists.1 h2
   have hmr : m ∈ ps[i].2 := by rw [← hrw, hps]; exact firstS_mem hm
   obtain ⟨n, rfl⟩ : ∃ n : Nat, m = n := ⟨m.toNat, by have := hrng m hmr; omega⟩
   have hnn := hrng _ hmr
   rw [hm] at S
   simp only [Option.getD_some, Option.isSome_some] at S
   refine gsr <| q_ld S H Fsca144 rfl rfl fun a S => q_mv S rfl fun a S => gq rfl S (y_lookupok (_) ((0 : Int)) rfl underlying144 Finf3 S H rfl (ZAv underlying3) (by exact rfl) (by exact rfl)) fun a S => ?_
   refine q_mv S rfl fun a S => gq rfl S (ZAa rfl S rfl rfl) fun a S => gq rfl S (ZAa rfl S rfl rfl) fun a S => q_as S rfl fun a S => q_as S rfl fun a S => gnt ?_
   have S := S.sel [15, 12, 7, 39, 38, 37, 6, 5, 4, 3, 2, 1] rfl
   refine gsr <| q_mv S rfl fun a S => gq rfl S (ZBV rfl S rfl) fun a S => gnt <| c_if S rfl (fun h3 => ?_) (fun h3 => ?_)
   ·have h3p := h3; try simp only [DL] at h3p
    have hfr : atI (ZBB olds next i).1 n < 0 := by have hh := h3; rw [ownM_get] at hh; by_cases h0 : 0 ≤ atI (ZBB olds next i).1 n; rw [if_pos h0] at hh; cases hh; omega
    have stp := startK_give hm hfr
    refine ZAB ?_
    refine q_ld S H Fsca86 rfl rfl fun a S => ?_
    refine q_mv S rfl fun a S => ?_
    refine q_mv S rfl fun a S => ?_
    refine ZAF (ZAV (wn rfl) rfl rfl S (ZAp rfl call74 S rfl rfl) (give_spec i n b4 b5 b29 c u34 (ZBB olds next i).1 (ZBB olds next i).2 _ (by omega) (by omega) (H.pick [MapA b29 (fun n : Int => .int .i64 n) (fun n : Int => .int .i64 n) (ownM ((ZBB olds next i).1)) c, OSl 3 u34 1 encI ((ZBB olds next i).2), Atom.ro (Cel b4 144 [.map (some b29)]), Atom.ro (Cel b5 37 [u34])])) fun v w hc a S => ?_)
    obtain ⟨rfl, c3, H⟩ := hc
    simp only [List.append_eq, List.nil_append] at H
    refine ZAj <| ZAK <| ZAA ?_
    have S := S.sel [39, 38, 37, 6, 5, 4, 3, 2, 1] rfl
    refine ZAB <| q_ad S rfl (by omega) fun a S => ?_
    refine q_mv S rfl fun a S => ?_
    refine gnt ?_
    exact ⟨(i + 1, bd :: ds), S.sel [39] rfl, S.sel [38, 37, 6, 5, 4, 3, 2, 1] rfl, ⟨by dsimp only; omega, c3, by dsimp only; rw [stp]; exact H.take _⟩, by dsimp only; omega⟩
   have h3p := h3; try simp only [DL] at h3p
   have hfr : ¬ atI (ZBB olds next i).1 n < 0 := by intro h0; have hh := h3; rw [ownM_get, if_neg (by omega)] at hh; cases hh
   have stp := startK_taken hm hfr
   refine ZAM <| ZAK <| ZAA ?_
   have S := S.sel [39, 38, 37, 6, 5, 4, 3, 2, 1] rfl
   refine ZAB <| q_ad S rfl (by omega) fun a S => ?_
   exact q_mv S rfl fun a S => gnt <| ⟨(i + 1, bd :: ds), S.sel [39] rfl, S.sel [38, 37, 6, 5, 4, 3, 2, 1] rfl, ⟨by dsimp only; omega, c, by dsimp only; rw [stp]; exact H.take _⟩, by dsimp only; omega⟩
  have h2p := h2; try simp only [DL] at h2p
  have stp := startK_none (by cases e : chF olds next i; rfl; rw [e] at h2; cases h2)
  refine ZAM <| ZAK <| ZAA ?_
  have S := S.sel [39, 38, 37, 6, 5, 4, 3, 2, 1] rfl
  refine ZAB <| q_ad S rfl (by omega) fun a S => ?_
  exact q_mv S rfl fun a S => gnt <| ⟨(i + 1, bd :: ds), S.sel [39] rfl, S.sel [38, 37, 6, 5, 4, 3, 2, 1] rfl, ⟨by dsimp only; omega, c, by dsimp only; rw [stp]; exact H.take _⟩, by dsimp only; omega⟩
 have h1p := h1; try simp only [DL] at h1p
 obtain rfl : i = olds.length := by omega
 have hpl1 : (ZBB olds next olds.length).2.length = olds.length := by have := (startK_inv hm1 hm2 olds.length (Nat.le_refl _)).wf.lg; rw [ZBO] at this; exact this
 refine ZAf <| ZAO (ZAO (x_eq ?_))
 refine ZAA ?_
 have S := S.sel [6, 5, 4, 3, 2, 1] rfl
 refine gsr <| q_al S H rfl ZA2 fun b16 a w S H => gnt <| gsr <| q_al S H rfl Fzer113 fun b17 a w S H => gnt <| gsr <| gq rfl S (ZAd rfl S rfl rfl) fun a S => ?_
 refine q_st S H rfl rfl Fsiz113 rfl fun a w S H => ?_
 dsimp only [List.set, Nat.zero_add, Nat.reduceAdd] at H
 refine gnt <| ZAG <| gsr <| q_ld S H ZBX rfl rfl fun a S => gq rfl S (ZAT rfl underlying37 S H rfl) fun a S => ?_
 rw [hpl1] at S
 refine q_mv S rfl fun a S => gnt <| ZAD ?_
 have H := (H.front (Cel b17 113 [.func (.func 77) #[] #[.pointer (some ⟨b1, 0, none⟩), .pointer (some ⟨b16, 0, none⟩), .pointer (some ⟨b4, 0, none⟩), .pointer (some ⟨b17, 0, none⟩), .pointer (some ⟨b6, 0, none⟩)]])).freeze
 rw [show ZBB olds next olds.length = pairK olds next 0 from rfl] at H
 have SU := S.sel [84, 17, 16, 5, 4, 3, 2, 1] rfl
 refine ZBL (X := Nat) SU (fun k => [(85, .int .i64 (k : Int))]) (fun k w => k ≤ olds.length ∧ ∃ c vs, HSat No w0 [ZBe ds, Cel b16 136 [vs], MapA b29 (fun n : Int => .int .i64 n) (fun n : Int => .int .i64 n) (ownM ((pairK olds next k).1)) c, OSl 3 u34 1 encI (pairK olds next k).2, Cel b3 39 [.slice none 0 0, .slice none 0 0], Atom.ro (Cel b17 113 [.func (.func 77) #[] #[.pointer (some ⟨b1, 0, none⟩), .pointer (some ⟨b16, 0, none⟩), .pointer (some ⟨b4, 0, none⟩), .pointer (some ⟨b17, 0, none⟩), .pointer (some ⟨b6, 0, none⟩)]]), Atom.ro (Cel b6 86 [.func (.func 74) #[] #[.pointer (some ⟨b4, 0, none⟩), .pointer (some ⟨b5, 0, none⟩)]]), Atom.ro (Cel b5 37 [u34]), Atom.ro (Cel b4 144 [.map (some b29)]), Atom.ro (Cel b1 98 [vt, vo, vn, ve]), ZBC 1 encI ps, Sl ve 1 ZAo ps, Sl vn 9 Pl.enc next, Sl vo 9 Pl.enc olds, Sl vt 11 Ow.enc ts] w) (fun k => olds.length - k) 0 (S.sel [85] rfl) (⟨by omega, c, .slice none 0 0, H.take [ZBe ds, Cel b16 136 [.slice none 0 0], MapA b29 (fun n : Int => .int .i64 n) (fun n : Int => .int .i64 n) (ownM ((pairK olds next 0).1)) c, OSl 3 u34 1 encI (pairK olds next 0).2, Cel b3 39 [.slice none 0 0, .slice none 0 0], Atom.ro (Cel b17 113 [.func (.func 77) #[] #[.pointer (some ⟨b1, 0, none⟩), .pointer (some ⟨b16, 0, none⟩), .pointer (some ⟨b4, 0, none⟩), .pointer (some ⟨b17, 0, none⟩), .pointer (some ⟨b6, 0, none⟩)]]), Atom.ro (Cel b6 86 [.func (.func 74) #[] #[.pointer (some ⟨b4, 0, none⟩), .pointer (some ⟨b5, 0, none⟩)]]), Atom.ro (Cel b5 37 [u34]), Atom.ro (Cel b4 144 [.map (some b29)]), Atom.ro (Cel b1 98 [vt, vo, vn, ve]), ZBC 1 encI ps, Sl ve 1 ZAo ps, Sl vn 9 Pl.enc next, Sl vo 9 Pl.enc olds, Sl vt 11 Ow.enc ts]⟩) (fun k a w S hW => ?_)
 simp only [List.cons_append, List.nil_append] at S
 clear H
 obtain ⟨hk, c, vs0, H⟩ := hW
 have hpk : (pairK olds next k).2.length = olds.length := by have := (pairK_inv hm1 hm2 k hk).1.wf.lg; rw [ZBO] at this; exact this
 refine gsr <| q_bn S rfl fun a S => gnt <| ZAG <| c_if S rfl (fun h4 => ?_) (fun h4 => ?_)
 ·have h4p := h4; try simp only [DL] at h4p
  have hI := (pairK_inv hm1 hm2 k (by omega)).1
  have hatk := atI_eq (show k < (pairK olds next k).2.length by omega)
  refine ZAM <| ZAA <| ZAG <| ZAD <| gsr <| q_mv S rfl fun a S => q_as S rfl fun a S => gnt ?_
  refine gsr <| q_ld S H ZBX rfl rfl fun a S => q_mv S rfl fun a S => gq rfl S (ZAI rfl underlying37 ZA5 S H rfl rfl (by omega)) fun a S => ?_
  refine gq rfl S (ZA6 _ rfl ZAN S H rfl (by omega) rfl) fun a S => ?_
  refine q_bn S rfl fun a S => gnt ?_
  have S := S.sel [92, 18, 85, 84, 17, 16, 5, 4, 3, 2, 1] rfl
  refine c_if S rfl (fun h5 => ?_) (fun h5 => ?_)
  ·have h5p := h5; try simp only [DL] at h5p
   have hneg : atI (pairK olds next k).2 k < 0 := by rw [hatk]; exact h5p
   have stp := pairK_yes hneg
   refine gsr <| q_fa S Ffo98_2 rfl fun a S => q_ld S H Fsca30 rfl rfl fun a S => gq rfl S (ZAT rfl underlying30 S H rfl) fun a S => ZAF (ZAw (encB) (false) (wn rfl) rfl rfl rfl underlying136 ZBR rfl rfl S H rfl rfl rfl (by omega) (by omega) fun b96 a w S H => ?_)
   rw [← seenB_nil] at H
   refine q_st S H rfl (H.sl1 _) ZAg rfl fun a w S H => ?_
   dsimp only [List.set, Nat.zero_add, Nat.reduceAdd] at H
   refine gnt ?_
   have S := S.sel [18, 85, 84, 17, 16, 5, 4, 3, 2, 1] rfl
   refine ZAB ?_
   refine q_ld S H Fsca113 rfl rfl fun a S => ?_
   refine q_mv S rfl fun a S => ?_
   refine ZAF (ZAV (wn rfl) rfl rfl S (ZAp rfl call77 S rfl rfl) (look_spec next.length (.slice (some ⟨b96, 0, none⟩) next.length next.length) u34 vt vo vn ve ps b1 b16 b4 b17 b6 b5 b29 hvg (fuelG next.length) k ⟨[], (pairK olds next k).1, (pairK olds next k).2⟩ c _ (by omega) (by rw [hps]; exact hI.wf) (by simp [fuelG]) (H.pick [OSl 4 (.slice (some ⟨b96, 0, none⟩) next.length next.length) 1 encB (ZBS next.length ([])), MapA b29 (fun n : Int => .int .i64 n) (fun n : Int => .int .i64 n) (ownM ((pairK olds next k).1)) c, OSl 3 u34 1 encI ((pairK olds next k).2), Cel b16 136 [(.slice (some ⟨b96, 0, none⟩) next.length next.length)], Atom.ro (Cel b4 144 [.map (some b29)]), Atom.ro (Cel b5 37 [u34]), Atom.ro (Cel b1 98 [vt, vo, vn, ve]), Atom.ro (Cel b17 113 [.func (.func 77) #[] #[.pointer (some ⟨b1, 0, none⟩), .pointer (some ⟨b16, 0, none⟩), .pointer (some ⟨b4, 0, none⟩), .pointer (some ⟨b17, 0, none⟩), .pointer (some ⟨b6, 0, none⟩)]]), Atom.ro (Cel b6 86 [.func (.func 74) #[] #[.pointer (some ⟨b4, 0, none⟩), .pointer (some ⟨b5, 0, none⟩)]]), ZBC 1 encI ps, Sl ve 1 ZAo ps])) fun v w hc a S => ?_)
   obtain ⟨rfl, c2, H⟩ := hc
   simp only [List.append_eq, List.nil_append] at H
   rw [hps] at H
   refine ZAj <| ZAK <| ZAA ?_
   have S := S.sel [85, 84, 17, 16, 5, 4, 3, 2, 1] rfl
   refine ZAB <| q_ad S rfl (by omega) fun a S => ?_
   refine q_mv S rfl fun a S => ?_
   refine gnt ?_
   exact ⟨k + 1, S.sel [85] rfl, S.sel [84, 17, 16, 5, 4, 3, 2, 1] rfl, ⟨by omega, c2, (.slice (some ⟨b96, 0, none⟩) next.length next.length), by rw [stp]; exact H.take _⟩, by omega⟩
  have h5p := h5; try simp only [DL] at h5p
  have hneg : ¬ atI (pairK olds next k).2 k < 0 := by rw [hatk]; have := h5p; omega
  have stp := pairK_no hneg
  refine ZAM <| ZAK <| ZAA <| ZAB <| q_ad S rfl (by omega) fun a S => ?_
  exact q_mv S rfl fun a S => gnt <| ⟨k + 1, S.sel [85] rfl, S.sel [84, 17, 16, 5, 4, 3, 2, 1] rfl, ⟨by omega, c, vs0, by rw [stp]; exact H⟩, by omega⟩
 have h4p := h4; try simp only [DL] at h4p
 obtain rfl : k = olds.length := by omega
 have hI := (pairK_inv hm1 hm2 olds.length (Nat.le_refl _)).1
 have hpl : (ZBu olds next).2.length = olds.length := hpk
 have hol : (ZBu olds next).1.length = next.length := hI.wf.lo
 have hown : ∀ n : Nat, atI (ZBu olds next).1 n < (ZAy olds next).length := fun n => (hI.wf.own n).2
 rw [show pairK olds next olds.length = ZBu olds next from rfl] at H
 refine ZAf <| ZAO (ZAO (x_eq ?_))
 refine ZAA ?_
 have S := S.sel [5, 4, 3, 2, 1] rfl
 refine ZAG <| cut (fun a w => ∃ b103 b107 b19 b20, St ⟨155, ds.map ZB0⟩ [(1, .pointer (some ⟨b1, 0, none⟩)), (3, .pointer (some ⟨b3, 0, none⟩)), (4, .pointer (some ⟨b4, 0, none⟩)), (5, .pointer (some ⟨b5, 0, none⟩)), (19, .pointer (some ⟨b19, 0, none⟩)), (20, .pointer (some ⟨b20, 0, none⟩))] a ∧ HSat No w0 [Cel b20 136 [(.slice (some ⟨b107, 0, none⟩) next.length next.length)], Cel b19 136 [.slice (some ⟨b103, 0, none⟩) (ZBu olds next).2.length (ZBu olds next).2.length], OSl 4 (.slice (some ⟨b103, 0, none⟩) (ZBu olds next).2.length (ZBu olds next).2.length) 1 encB (List.replicate (ZBu olds next).2.length false), OSl 4 (.slice (some ⟨b107, 0, none⟩) next.length next.length) 1 encB (List.replicate next.length false), ZBe ds, Cel b16 136 [vs0], MapA b29 (fun n : Int => .int .i64 n) (fun n : Int => .int .i64 n) (ownM ((ZBu olds next).1)) c, OSl 3 u34 1 encI (ZBu olds next).2, Cel b3 39 [.slice none 0 0, .slice none 0 0], Atom.ro (Cel b17 113 [.func (.func 77) #[] #[.pointer (some ⟨b1, 0, none⟩), .pointer (some ⟨b16, 0, none⟩), .pointer (some ⟨b4, 0, none⟩), .pointer (some ⟨b17, 0, none⟩), .pointer (some ⟨b6, 0, none⟩)]]), Atom.ro (Cel b6 86 [.func (.func 74) #[] #[.pointer (some ⟨b4, 0, none⟩), .pointer (some ⟨b5, 0, none⟩)]]), Atom.ro (Cel b5 37 [u34]), Atom.ro (Cel b4 144 [.map (some b29)]), Atom.ro (Cel b1 98 [vt, vo, vn, ve]), ZBC 1 encI ps, Sl ve 1 ZAo ps, Sl vn 9 Pl.enc next, Sl vo 9 Pl.enc olds, Sl vt 11 Ow.enc ts] w) ?_ ?_
 ·skip
  refine t_st (tails := [9, 10]) [Atom.ro (Cel b5 37 [u34]), Atom.ro (Cel b1 98 [vt, vo, vn, ve]), Sl vn 9 Pl.enc next] Fmo H <| t_q 0 rfl (by kernel_rfl) (rem' := [1, 2, 3, 4, 5, 6, 7, 8, 9, 10]) rfl rfl rfl rfl S (fun w H => ZAJ rfl ZBX S H rfl rfl) fun a S => ?_
  refine t_q 1 rfl (by kernel_rfl) (rem' := [2, 3, 4, 5, 6, 7, 8, 9, 10]) rfl rfl rfl rfl S (fun w H => ZAT rfl underlying37 S H rfl) fun a S => ?_
  refine t_p 3 rfl (by kernel_rfl) (rem' := [2, 4, 5, 6, 7, 8, 9, 10]) rfl rfl rfl rfl S (fun w => ZAC rfl Ffo98_2 S rfl) fun a S => ?_
  refine t_f 4 rfl (by kernel_rfl) (rem' := [2, 5, 6, 7, 8, 9, 10]) rfl rfl rfl rfl S (fun w H => ZAJ rfl Fsca30 S H rfl rfl) fun a S => ?_
  refine t_f 5 rfl (by kernel_rfl) (rem' := [2, 6, 7, 8, 9, 10]) rfl rfl rfl rfl S (fun w H => ZAT rfl underlying30 S H rfl) fun a S => ?_
  refine t_b [2, 6, 7, 8] (by kernel_rfl) rfl (fa4 ?_ ?_ ?_ ?_)
  ·refine ⟨_, rfl, fun w H => ?_⟩
   refine ZAw (encB) (false) (wn rfl) rfl rfl rfl underlying136 ZBR rfl rfl S H rfl rfl rfl (by rw [hpl]; omega) (by rw [hpl]; omega) fun b103 a w S H => ?_
   refine t_n H (rem' := [6, 7, 8, 9, 10]) rfl <| t_b [6, 7, 8] (by kernel_rfl) rfl (fa3 ?_ ?_ ?_)
   ·refine ⟨_, rfl, fun w H => ?_⟩
    refine ZAw (encB) (false) (wn rfl) rfl rfl rfl underlying136 ZBR rfl rfl S H rfl rfl rfl (by omega) (by omega) fun b107 a w S H => ?_
    refine t_n H (rem' := [7, 8, 9, 10]) rfl <| t_b [7, 8] (by kernel_rfl) rfl (fa2 ?_ ?_)
    ·refine ⟨_, rfl, fun w H => ?_⟩
     refine ZAh (wn rfl) rfl rfl rfl S H ZA2 fun b19 a w S H => t_n H (rem' := [8, 9, 10]) rfl <| t_b1 8 (by kernel_rfl) rfl fun w H => ?_
     refine ZAh (wn rfl) rfl rfl rfl S H ZA2 fun b20 a w S H => t_n H (rem' := [9, 10]) rfl <| t_b1 9 (by kernel_rfl) rfl fun w H => ?_
     refine ZAS (wn rfl) rfl rfl S H rfl rfl (H.sl1 _) ZAg rfl fun a w S H => ?_
     dsimp only [List.set, Nat.zero_add, Nat.reduceAdd] at H
     refine ZAY H rfl (rem' := [10]) rfl <| t_b1 10 (by kernel_rfl) rfl fun w H => ?_
     refine ZAS (wn rfl) rfl rfl S H rfl rfl (H.sl1 _) ZAg rfl fun a w S H => ?_
     dsimp only [List.set, Nat.zero_add, Nat.reduceAdd] at H
     exact ZAY H rfl (rem' := []) rfl <| ZBZ (fun w H => ⟨b103, b107, b19, b20, S.sel [1, 3, 4, 5, 19, 20] rfl, H.take _⟩)
    refine ⟨_, rfl, fun w H => ?_⟩
    refine ZAh (wn rfl) rfl rfl rfl S H ZA2 fun b20 a w S H => t_n H (rem' := [7, 9, 10]) rfl <| t_b1 7 (by kernel_rfl) rfl fun w H => ?_
    refine ZAh (wn rfl) rfl rfl rfl S H ZA2 fun b19 a w S H => t_n H (rem' := [9, 10]) rfl <| t_b1 9 (by kernel_rfl) rfl fun w H => ?_
    refine ZAS (wn rfl) rfl rfl S H rfl rfl (H.sl1 _) ZAg rfl fun a w S H => ?_
    dsimp only [List.set, Nat.zero_add, Nat.reduceAdd] at H
    refine ZAY H rfl (rem' := [10]) rfl <| t_b1 10 (by kernel_rfl) rfl fun w H => ?_
    refine ZAS (wn rfl) rfl rfl S H rfl rfl (H.sl1 _) ZAg rfl fun a w S H => ?_
    dsimp only [List.set, Nat.zero_add, Nat.reduceAdd] at H
    exact ZAY H rfl (rem' := []) rfl <| ZBZ (fun w H => ⟨b103, b107, b19, b20, S.sel [1, 3, 4, 5, 19, 20] rfl, H.take _⟩)
   ·refine ⟨_, rfl, fun w H => ?_⟩
    refine ZAh (wn rfl) rfl rfl rfl S H ZA2 fun b19 a w S H => t_n H (rem' := [6, 8, 9, 10]) rfl <| t_b [6, 8] (by kernel_rfl) rfl (fa2 ?_ ?_)
    ·refine ⟨_, rfl, fun w H => ?_⟩
     refine ZAw (encB) (false) (wn rfl) rfl rfl rfl underlying136 ZBR rfl rfl S H rfl rfl rfl (by omega) (by omega) fun b107 a w S H => ?_
     refine t_n H (rem' := [8, 9, 10]) rfl <| t_b1 8 (by kernel_rfl) rfl fun w H => ?_
     refine ZAh (wn rfl) rfl rfl rfl S H ZA2 fun b20 a w S H => t_n H (rem' := [9, 10]) rfl <| t_b1 9 (by kernel_rfl) rfl fun w H => ?_
     refine ZAS (wn rfl) rfl rfl S H rfl rfl (H.sl1 _) ZAg rfl fun a w S H => ?_
     dsimp only [List.set, Nat.zero_add, Nat.reduceAdd] at H
     refine ZAY H rfl (rem' := [10]) rfl <| t_b1 10 (by kernel_rfl) rfl fun w H => ?_
     refine ZAS (wn rfl) rfl rfl S H rfl rfl (H.sl1 _) ZAg rfl fun a w S H => ?_
     dsimp only [List.set, Nat.zero_add, Nat.reduceAdd] at H
     exact ZAY H rfl (rem' := []) rfl <| ZBZ (fun w H => ⟨b103, b107, b19, b20, S.sel [1, 3, 4, 5, 19, 20] rfl, H.take _⟩)
    refine ⟨_, rfl, fun w H => ?_⟩
    refine ZAh (wn rfl) rfl rfl rfl S H ZA2 fun b20 a w S H => t_n H (rem' := [6, 9, 10]) rfl <| t_b [6, 9] (by kernel_rfl) rfl (fa2 ?_ ?_)
    ·refine ⟨_, rfl, fun w H => ?_⟩
     refine ZAw (encB) (false) (wn rfl) rfl rfl rfl underlying136 ZBR rfl rfl S H rfl rfl rfl (by omega) (by omega) fun b107 a w S H => ?_
     refine t_n H (rem' := [9, 10]) rfl <| t_b1 9 (by kernel_rfl) rfl fun w H => ?_
     refine ZAS (wn rfl) rfl rfl S H rfl rfl (H.sl1 _) ZAg rfl fun a w S H => ?_
     dsimp only [List.set, Nat.zero_add, Nat.reduceAdd] at H
     refine ZAY H rfl (rem' := [10]) rfl <| t_b1 10 (by kernel_rfl) rfl fun w H => ?_
     refine ZAS (wn rfl) rfl rfl S H rfl rfl (H.sl1 _) ZAg rfl fun a w S H => ?_
     dsimp only [List.set, Nat.zero_add, Nat.reduceAdd] at H
     exact ZAY H rfl (rem' := []) rfl <| ZBZ (fun w H => ⟨b103, b107, b19, b20, S.sel [1, 3, 4, 5, 19, 20] rfl, H.take _⟩)
    refine ⟨_, rfl, fun w H => ?_⟩
    refine ZAS (wn rfl) rfl rfl S H rfl rfl (H.sl1 _) ZAg rfl fun a w S H => ?_
    dsimp only [List.set, Nat.zero_add, Nat.reduceAdd] at H
    refine ZAY H rfl (rem' := [6, 10]) rfl <| t_b1 6 (by kernel_rfl) rfl fun w H => ?_
    refine ZAw (encB) (false) (wn rfl) rfl rfl rfl underlying136 ZBR rfl rfl S H rfl rfl rfl (by omega) (by omega) fun b107 a w S H => ?_
    refine t_n H (rem' := [10]) rfl <| t_b1 10 (by kernel_rfl) rfl fun w H => ?_
    refine ZAS (wn rfl) rfl rfl S H rfl rfl (H.sl1 _) ZAg rfl fun a w S H => ?_
    dsimp only [List.set, Nat.zero_add, Nat.reduceAdd] at H
    exact ZAY H rfl (rem' := []) rfl <| ZBZ (fun w H => ⟨b103, b107, b19, b20, S.sel [1, 3, 4, 5, 19, 20] rfl, H.take _⟩)
   refine ⟨_, rfl, fun w H => ?_⟩
   refine ZAh (wn rfl) rfl rfl rfl S H ZA2 fun b20 a w S H => t_n H (rem' := [6, 7, 9, 10]) rfl <| t_b [6, 7] (by kernel_rfl) rfl (fa2 ?_ ?_)
   ·refine ⟨_, rfl, fun w H => ?_⟩
    refine ZAw (encB) (false) (wn rfl) rfl rfl rfl underlying136 ZBR rfl rfl S H rfl rfl rfl (by omega) (by omega) fun b107 a w S H => ?_
    refine t_n H (rem' := [7, 9, 10]) rfl <| t_b1 7 (by kernel_rfl) rfl fun w H => ?_
    refine ZAh (wn rfl) rfl rfl rfl S H ZA2 fun b19 a w S H => t_n H (rem' := [9, 10]) rfl <| t_b1 9 (by kernel_rfl) rfl fun w H => ?_
    refine ZAS (wn rfl) rfl rfl S H rfl rfl (H.sl1 _) ZAg rfl fun a w S H => ?_
    dsimp only [List.set, Nat.zero_add, Nat.reduceAdd] at H
    refine ZAY H rfl (rem' := [10]) rfl <| t_b1 10 (by kernel_rfl) rfl fun w H => ?_
    refine ZAS (wn rfl) rfl rfl S H rfl rfl (H.sl1 _) ZAg rfl fun a w S H => ?_
    dsimp only [List.set, Nat.zero_add, Nat.reduceAdd] at H
    exact ZAY H rfl (rem' := []) rfl <| ZBZ (fun w H => ⟨b103, b107, b19, b20, S.sel [1, 3, 4, 5, 19, 20] rfl, H.take _⟩)
   refine ⟨_, rfl, fun w H => ?_⟩
   refine ZAh (wn rfl) rfl rfl rfl S H ZA2 fun b19 a w S H => t_n H (rem' := [6, 9, 10]) rfl <| t_b [6, 9] (by kernel_rfl) rfl (fa2 ?_ ?_)
   ·refine ⟨_, rfl, fun w H => ?_⟩
    refine ZAw (encB) (false) (wn rfl) rfl rfl rfl underlying136 ZBR rfl rfl S H rfl rfl rfl (by omega) (by omega) fun b107 a w S H => ?_
    refine t_n H (rem' := [9, 10]) rfl <| t_b1 9 (by kernel_rfl) rfl fun w H => ?_
    refine ZAS (wn rfl) rfl rfl S H rfl rfl (H.sl1 _) ZAg rfl fun a w S H => ?_
    dsimp only [List.set, Nat.zero_add, Nat.reduceAdd] at H
    refine ZAY H rfl (rem' := [10]) rfl <| t_b1 10 (by kernel_rfl) rfl fun w H => ?_
    refine ZAS (wn rfl) rfl rfl S H rfl rfl (H.sl1 _) ZAg rfl fun a w S H => ?_
    dsimp only [List.set, Nat.zero_add, Nat.reduceAdd] at H
    exact ZAY H rfl (rem' := []) rfl <| ZBZ (fun w H => ⟨b103, b107, b19, b20, S.sel [1, 3, 4, 5, 19, 20] rfl, H.take _⟩)
   refine ⟨_, rfl, fun w H => ?_⟩
   refine ZAS (wn rfl) rfl rfl S H rfl rfl (H.sl1 _) ZAg rfl fun a w S H => ?_
   dsimp only [List.set, Nat.zero_add, Nat.reduceAdd] at H
   refine ZAY H rfl (rem' := [6, 10]) rfl <| t_b1 6 (by kernel_rfl) rfl fun w H => ?_
   refine ZAw (encB) (false) (wn rfl) rfl rfl rfl underlying136 ZBR rfl rfl S H rfl rfl rfl (by omega) (by omega) fun b107 a w S H => ?_
   refine t_n H (rem' := [10]) rfl <| t_b1 10 (by kernel_rfl) rfl fun w H => ?_
   refine ZAS (wn rfl) rfl rfl S H rfl rfl (H.sl1 _) ZAg rfl fun a w S H => ?_
   dsimp only [List.set, Nat.zero_add, Nat.reduceAdd] at H
   exact ZAY H rfl (rem' := []) rfl <| ZBZ (fun w H => ⟨b103, b107, b19, b20, S.sel [1, 3, 4, 5, 19, 20] rfl, H.take _⟩)
  ·refine ⟨_, rfl, fun w H => ?_⟩
   refine ZAw (encB) (false) (wn rfl) rfl rfl rfl underlying136 ZBR rfl rfl S H rfl rfl rfl (by omega) (by omega) fun b107 a w S H => ?_
   refine t_n H (rem' := [2, 7, 8, 9, 10]) rfl <| t_b [2, 7, 8] (by kernel_rfl) rfl (fa3 ?_ ?_ ?_)
   ·refine ⟨_, rfl, fun w H => ?_⟩
    refine ZAw (encB) (false) (wn rfl) rfl rfl rfl underlying136 ZBR rfl rfl S H rfl rfl rfl (by rw [hpl]; omega) (by rw [hpl]; omega) fun b103 a w S H => ?_
    refine t_n H (rem' := [7, 8, 9, 10]) rfl <| t_b [7, 8] (by kernel_rfl) rfl (fa2 ?_ ?_)
    ·refine ⟨_, rfl, fun w H => ?_⟩
     refine ZAh (wn rfl) rfl rfl rfl S H ZA2 fun b19 a w S H => t_n H (rem' := [8, 9, 10]) rfl <| t_b1 8 (by kernel_rfl) rfl fun w H => ?_
     refine ZAh (wn rfl) rfl rfl rfl S H ZA2 fun b20 a w S H => t_n H (rem' := [9, 10]) rfl <| t_b1 9 (by kernel_rfl) rfl fun w H => ?_
     refine ZAS (wn rfl) rfl rfl S H rfl rfl (H.sl1 _) ZAg rfl fun a w S H => ?_
     dsimp only [List.set, Nat.zero_add, Nat.reduceAdd] at H
     refine ZAY H rfl (rem' := [10]) rfl <| t_b1 10 (by kernel_rfl) rfl fun w H => ?_
     refine ZAS (wn rfl) rfl rfl S H rfl rfl (H.sl1 _) ZAg rfl fun a w S H => ?_
     dsimp only [List.set, Nat.zero_add, Nat.reduceAdd] at H
     exact ZAY H rfl (rem' := []) rfl <| ZBZ (fun w H => ⟨b103, b107, b19, b20, S.sel [1, 3, 4, 5, 19, 20] rfl, H.take _⟩)
    refine ⟨_, rfl, fun w H => ?_⟩
    refine ZAh (wn rfl) rfl rfl rfl S H ZA2 fun b20 a w S H => t_n H (rem' := [7, 9, 10]) rfl <| t_b1 7 (by kernel_rfl) rfl fun w H => ?_
    refine ZAh (wn rfl) rfl rfl rfl S H ZA2 fun b19 a w S H => t_n H (rem' := [9, 10]) rfl <| t_b1 9 (by kernel_rfl) rfl fun w H => ?_
    refine ZAS (wn rfl) rfl rfl S H rfl rfl (H.sl1 _) ZAg rfl fun a w S H => ?_
    dsimp only [List.set, Nat.zero_add, Nat.reduceAdd] at H
    refine ZAY H rfl (rem' := [10]) rfl <| t_b1 10 (by kernel_rfl) rfl fun w H => ?_
    refine ZAS (wn rfl) rfl rfl S H rfl rfl (H.sl1 _) ZAg rfl fun a w S H => ?_
    dsimp only [List.set, Nat.zero_add, Nat.reduceAdd] at H
    exact ZAY H rfl (rem' := []) rfl <| ZBZ (fun w H => ⟨b103, b107, b19, b20, S.sel [1, 3, 4, 5, 19, 20] rfl, H.take _⟩)
   ·refine ⟨_, rfl, fun w H => ?_⟩
    refine ZAh (wn rfl) rfl rfl rfl S H ZA2 fun b19 a w S H => t_n H (rem' := [2, 8, 9, 10]) rfl <| t_b [2, 8] (by kernel_rfl) rfl (fa2 ?_ ?_)
    ·refine ⟨_, rfl, fun w H => ?_⟩
     refine ZAw (encB) (false) (wn rfl) rfl rfl rfl underlying136 ZBR rfl rfl S H rfl rfl rfl (by rw [hpl]; omega) (by rw [hpl]; omega) fun b103 a w S H => ?_
     refine t_n H (rem' := [8, 9, 10]) rfl <| t_b1 8 (by kernel_rfl) rfl fun w H => ?_
     refine ZAh (wn rfl) rfl rfl rfl S H ZA2 fun b20 a w S H => t_n H (rem' := [9, 10]) rfl <| t_b1 9 (by kernel_rfl) rfl fun w H => ?_
     refine ZAS (wn rfl) rfl rfl S H rfl rfl (H.sl1 _) ZAg rfl fun a w S H => ?_
     dsimp only [List.set, Nat.zero_add, Nat.reduceAdd] at H
     refine ZAY H rfl (rem' := [10]) rfl <| t_b1 10 (by kernel_rfl) rfl fun w H => ?_
     refine ZAS (wn rfl) rfl rfl S H rfl rfl (H.sl1 _) ZAg rfl fun a w S H => ?_
     dsimp only [List.set, Nat.zero_add, Nat.reduceAdd] at H
     exact ZAY H rfl (rem' := []) rfl <| ZBZ (fun w H => ⟨b103, b107, b19, b20, S.sel [1, 3, 4, 5, 19, 20] rfl, H.take _⟩)
    refine ⟨_, rfl, fun w H => ?_⟩
    refine ZAh (wn rfl) rfl rfl rfl S H ZA2 fun b20 a w S H => t_n H (rem' := [2, 9, 10]) rfl <| t_b1 2 (by kernel_rfl) rfl fun w H => ?_
    refine ZAw (encB) (false) (wn rfl) rfl rfl rfl underlying136 ZBR rfl rfl S H rfl rfl rfl (by rw [hpl]; omega) (by rw [hpl]; omega) fun b103 a w S H => ?_
    refine t_n H (rem' := [9, 10]) rfl <| t_b1 9 (by kernel_rfl) rfl fun w H => ?_
    refine ZAS (wn rfl) rfl rfl S H rfl rfl (H.sl1 _) ZAg rfl fun a w S H => ?_
    dsimp only [List.set, Nat.zero_add, Nat.reduceAdd] at H
    refine ZAY H rfl (rem' := [10]) rfl <| t_b1 10 (by kernel_rfl) rfl fun w H => ?_
    refine ZAS (wn rfl) rfl rfl S H rfl rfl (H.sl1 _) ZAg rfl fun a w S H => ?_
    dsimp only [List.set, Nat.zero_add, Nat.reduceAdd] at H
    exact ZAY H rfl (rem' := []) rfl <| ZBZ (fun w H => ⟨b103, b107, b19, b20, S.sel [1, 3, 4, 5, 19, 20] rfl, H.take _⟩)
   refine ⟨_, rfl, fun w H => ?_⟩
   refine ZAh (wn rfl) rfl rfl rfl S H ZA2 fun b20 a w S H => t_n H (rem' := [2, 7, 9, 10]) rfl <| t_b [2, 7] (by kernel_rfl) rfl (fa2 ?_ ?_)
   ·refine ⟨_, rfl, fun w H => ?_⟩
    refine ZAw (encB) (false) (wn rfl) rfl rfl rfl underlying136 ZBR rfl rfl S H rfl rfl rfl (by rw [hpl]; omega) (by rw [hpl]; omega) fun b103 a w S H => ?_
    refine t_n H (rem' := [7, 9, 10]) rfl <| t_b1 7 (by kernel_rfl) rfl fun w H => ?_
    refine ZAh (wn rfl) rfl rfl rfl S H ZA2 fun b19 a w S H => t_n H (rem' := [9, 10]) rfl <| t_b1 9 (by kernel_rfl) rfl fun w H => ?_
    refine ZAS (wn rfl) rfl rfl S H rfl rfl (H.sl1 _) ZAg rfl fun a w S H => ?_
    dsimp only [List.set, Nat.zero_add, Nat.reduceAdd] at H
    refine ZAY H rfl (rem' := [10]) rfl <| t_b1 10 (by kernel_rfl) rfl fun w H => ?_
    refine ZAS (wn rfl) rfl rfl S H rfl rfl (H.sl1 _) ZAg rfl fun a w S H => ?_
    dsimp only [List.set, Nat.zero_add, Nat.reduceAdd] at H
    exact ZAY H rfl (rem' := []) rfl <| ZBZ (fun w H => ⟨b103, b107, b19, b20, S.sel [1, 3, 4, 5, 19, 20] rfl, H.take _⟩)
   refine ⟨_, rfl, fun w H => ?_⟩
   refine ZAh (wn rfl) rfl rfl rfl S H ZA2 fun b19 a w S H => t_n H (rem' := [2, 9, 10]) rfl <| t_b1 2 (by kernel_rfl) rfl fun w H => ?_
   refine ZAw (encB) (false) (wn rfl) rfl rfl rfl underlying136 ZBR rfl rfl S H rfl rfl rfl (by rw [hpl]; omega) (by rw [hpl]; omega) fun b103 a w S H => ?_
   refine t_n H (rem' := [9, 10]) rfl <| t_b1 9 (by kernel_rfl) rfl fun w H => ?_
   refine ZAS (wn rfl) rfl rfl S H rfl rfl (H.sl1 _) ZAg rfl fun a w S H => ?_
   dsimp only [List.set, Nat.zero_add, Nat.reduceAdd] at H
   refine ZAY H rfl (rem' := [10]) rfl <| t_b1 10 (by kernel_rfl) rfl fun w H => ?_
   refine ZAS (wn rfl) rfl rfl S H rfl rfl (H.sl1 _) ZAg rfl fun a w S H => ?_
   dsimp only [List.set, Nat.zero_add, Nat.reduceAdd] at H
   exact ZAY H rfl (rem' := []) rfl <| ZBZ (fun w H => ⟨b103, b107, b19, b20, S.sel [1, 3, 4, 5, 19, 20] rfl, H.take _⟩)
  ·refine ⟨_, rfl, fun w H => ?_⟩
   refine ZAh (wn rfl) rfl rfl rfl S H ZA2 fun b19 a w S H => t_n H (rem' := [2, 6, 8, 9, 10]) rfl <| t_b [2, 6, 8] (by kernel_rfl) rfl (fa3 ?_ ?_ ?_)
   ·refine ⟨_, rfl, fun w H => ?_⟩
    refine ZAw (encB) (false) (wn rfl) rfl rfl rfl underlying136 ZBR rfl rfl S H rfl rfl rfl (by rw [hpl]; omega) (by rw [hpl]; omega) fun b103 a w S H => ?_
    refine t_n H (rem' := [6, 8, 9, 10]) rfl <| t_b [6, 8] (by kernel_rfl) rfl (fa2 ?_ ?_)
    ·refine ⟨_, rfl, fun w H => ?_⟩
     refine ZAw (encB) (false) (wn rfl) rfl rfl rfl underlying136 ZBR rfl rfl S H rfl rfl rfl (by omega) (by omega) fun b107 a w S H => ?_
     refine t_n H (rem' := [8, 9, 10]) rfl <| t_b1 8 (by kernel_rfl) rfl fun w H => ?_
     refine ZAh (wn rfl) rfl rfl rfl S H ZA2 fun b20 a w S H => t_n H (rem' := [9, 10]) rfl <| t_b1 9 (by kernel_rfl) rfl fun w H => ?_
     refine ZAS (wn rfl) rfl rfl S H rfl rfl (H.sl1 _) ZAg rfl fun a w S H => ?_
     dsimp only [List.set, Nat.zero_add, Nat.reduceAdd] at H
     refine ZAY H rfl (rem' := [10]) rfl <| t_b1 10 (by kernel_rfl) rfl fun w H => ?_
     refine ZAS (wn rfl) rfl rfl S H rfl rfl (H.sl1 _) ZAg rfl fun a w S H => ?_
     dsimp only [List.set, Nat.zero_add, Nat.reduceAdd] at H
     exact ZAY H rfl (rem' := []) rfl <| ZBZ (fun w H => ⟨b103, b107, b19, b20, S.sel [1, 3, 4, 5, 19, 20] rfl, H.take _⟩)
    refine ⟨_, rfl, fun w H => ?_⟩
    refine ZAh (wn rfl) rfl rfl rfl S H ZA2 fun b20 a w S H => t_n H (rem' := [6, 9, 10]) rfl <| t_b [6, 9] (by kernel_rfl) rfl (fa2 ?_ ?_)
    ·refine ⟨_, rfl, fun w H => ?_⟩
     refine ZAw (encB) (false) (wn rfl) rfl rfl rfl underlying136 ZBR rfl rfl S H rfl rfl rfl (by omega) (by omega) fun b107 a w S H => ?_
     refine t_n H (rem' := [9, 10]) rfl <| t_b1 9 (by kernel_rfl) rfl fun w H => ?_
     refine ZAS (wn rfl) rfl rfl S H rfl rfl (H.sl1 _) ZAg rfl fun a w S H => ?_
     dsimp only [List.set, Nat.zero_add, Nat.reduceAdd] at H
     refine ZAY H rfl (rem' := [10]) rfl <| t_b1 10 (by kernel_rfl) rfl fun w H => ?_
     refine ZAS (wn rfl) rfl rfl S H rfl rfl (H.sl1 _) ZAg rfl fun a w S H => ?_
     dsimp only [List.set, Nat.zero_add, Nat.reduceAdd] at H
     exact ZAY H rfl (rem' := []) rfl <| ZBZ (fun w H => ⟨b103, b107, b19, b20, S.sel [1, 3, 4, 5, 19, 20] rfl, H.take _⟩)
    refine ⟨_, rfl, fun w H => ?_⟩
    refine ZAS (wn rfl) rfl rfl S H rfl rfl (H.sl1 _) ZAg rfl fun a w S H => ?_
    dsimp only [List.set, Nat.zero_add, Nat.reduceAdd] at H
    refine ZAY H rfl (rem' := [6, 10]) rfl <| t_b1 6 (by kernel_rfl) rfl fun w H => ?_
    refine ZAw (encB) (false) (wn rfl) rfl rfl rfl underlying136 ZBR rfl rfl S H rfl rfl rfl (by omega) (by omega) fun b107 a w S H => ?_
    refine t_n H (rem' := [10]) rfl <| t_b1 10 (by kernel_rfl) rfl fun w H => ?_
    refine ZAS (wn rfl) rfl rfl S H rfl rfl (H.sl1 _) ZAg rfl fun a w S H => ?_
    dsimp only [List.set, Nat.zero_add, Nat.reduceAdd] at H
    exact ZAY H rfl (rem' := []) rfl <| ZBZ (fun w H => ⟨b103, b107, b19, b20, S.sel [1, 3, 4, 5, 19, 20] rfl, H.take _⟩)
   ·refine ⟨_, rfl, fun w H => ?_⟩
    refine ZAw (encB) (false) (wn rfl) rfl rfl rfl underlying136 ZBR rfl rfl S H rfl rfl rfl (by omega) (by omega) fun b107 a w S H => ?_
    refine t_n H (rem' := [2, 8, 9, 10]) rfl <| t_b [2, 8] (by kernel_rfl) rfl (fa2 ?_ ?_)
    ·refine ⟨_, rfl, fun w H => ?_⟩
     refine ZAw (encB) (false) (wn rfl) rfl rfl rfl underlying136 ZBR rfl rfl S H rfl rfl rfl (by rw [hpl]; omega) (by rw [hpl]; omega) fun b103 a w S H => ?_
     refine t_n H (rem' := [8, 9, 10]) rfl <| t_b1 8 (by kernel_rfl) rfl fun w H => ?_
     refine ZAh (wn rfl) rfl rfl rfl S H ZA2 fun b20 a w S H => t_n H (rem' := [9, 10]) rfl <| t_b1 9 (by kernel_rfl) rfl fun w H => ?_
     refine ZAS (wn rfl) rfl rfl S H rfl rfl (H.sl1 _) ZAg rfl fun a w S H => ?_
     dsimp only [List.set, Nat.zero_add, Nat.reduceAdd] at H
     refine ZAY H rfl (rem' := [10]) rfl <| t_b1 10 (by kernel_rfl) rfl fun w H => ?_
     refine ZAS (wn rfl) rfl rfl S H rfl rfl (H.sl1 _) ZAg rfl fun a w S H => ?_
     dsimp only [List.set, Nat.zero_add, Nat.reduceAdd] at H
     exact ZAY H rfl (rem' := []) rfl <| ZBZ (fun w H => ⟨b103, b107, b19, b20, S.sel [1, 3, 4, 5, 19, 20] rfl, H.take _⟩)
    refine ⟨_, rfl, fun w H => ?_⟩
    refine ZAh (wn rfl) rfl rfl rfl S H ZA2 fun b20 a w S H => t_n H (rem' := [2, 9, 10]) rfl <| t_b1 2 (by kernel_rfl) rfl fun w H => ?_
    refine ZAw (encB) (false) (wn rfl) rfl rfl rfl underlying136 ZBR rfl rfl S H rfl rfl rfl (by rw [hpl]; omega) (by rw [hpl]; omega) fun b103 a w S H => ?_
    refine t_n H (rem' := [9, 10]) rfl <| t_b1 9 (by kernel_rfl) rfl fun w H => ?_
    refine ZAS (wn rfl) rfl rfl S H rfl rfl (H.sl1 _) ZAg rfl fun a w S H => ?_
    dsimp only [List.set, Nat.zero_add, Nat.reduceAdd] at H
    refine ZAY H rfl (rem' := [10]) rfl <| t_b1 10 (by kernel_rfl) rfl fun w H => ?_
    refine ZAS (wn rfl) rfl rfl S H rfl rfl (H.sl1 _) ZAg rfl fun a w S H => ?_
    dsimp only [List.set, Nat.zero_add, Nat.reduceAdd] at H
    exact ZAY H rfl (rem' := []) rfl <| ZBZ (fun w H => ⟨b103, b107, b19, b20, S.sel [1, 3, 4, 5, 19, 20] rfl, H.take _⟩)
   refine ⟨_, rfl, fun w H => ?_⟩
   refine ZAh (wn rfl) rfl rfl rfl S H ZA2 fun b20 a w S H => t_n H (rem' := [2, 6, 9, 10]) rfl <| t_b [2, 6] (by kernel_rfl) rfl (fa2 ?_ ?_)
   ·refine ⟨_, rfl, fun w H => ?_⟩
    refine ZAw (encB) (false) (wn rfl) rfl rfl rfl underlying136 ZBR rfl rfl S H rfl rfl rfl (by rw [hpl]; omega) (by rw [hpl]; omega) fun b103 a w S H => ?_
    refine t_n H (rem' := [6, 9, 10]) rfl <| t_b [6, 9] (by kernel_rfl) rfl (fa2 ?_ ?_)
    ·refine ⟨_, rfl, fun w H => ?_⟩
     refine ZAw (encB) (false) (wn rfl) rfl rfl rfl underlying136 ZBR rfl rfl S H rfl rfl rfl (by omega) (by omega) fun b107 a w S H => ?_
     refine t_n H (rem' := [9, 10]) rfl <| t_b1 9 (by kernel_rfl) rfl fun w H => ?_
     refine ZAS (wn rfl) rfl rfl S H rfl rfl (H.sl1 _) ZAg rfl fun a w S H => ?_
     dsimp only [List.set, Nat.zero_add, Nat.reduceAdd] at H
     refine ZAY H rfl (rem' := [10]) rfl <| t_b1 10 (by kernel_rfl) rfl fun w H => ?_
     refine ZAS (wn rfl) rfl rfl S H rfl rfl (H.sl1 _) ZAg rfl fun a w S H => ?_
     dsimp only [List.set, Nat.zero_add, Nat.reduceAdd] at H
     exact ZAY H rfl (rem' := []) rfl <| ZBZ (fun w H => ⟨b103, b107, b19, b20, S.sel [1, 3, 4, 5, 19, 20] rfl, H.take _⟩)
    refine ⟨_, rfl, fun w H => ?_⟩
    refine ZAS (wn rfl) rfl rfl S H rfl rfl (H.sl1 _) ZAg rfl fun a w S H => ?_
    dsimp only [List.set, Nat.zero_add, Nat.reduceAdd] at H
    refine ZAY H rfl (rem' := [6, 10]) rfl <| t_b1 6 (by kernel_rfl) rfl fun w H => ?_
    refine ZAw (encB) (false) (wn rfl) rfl rfl rfl underlying136 ZBR rfl rfl S H rfl rfl rfl (by omega) (by omega) fun b107 a w S H => ?_
    refine t_n H (rem' := [10]) rfl <| t_b1 10 (by kernel_rfl) rfl fun w H => ?_
    refine ZAS (wn rfl) rfl rfl S H rfl rfl (H.sl1 _) ZAg rfl fun a w S H => ?_
    dsimp only [List.set, Nat.zero_add, Nat.reduceAdd] at H
    exact ZAY H rfl (rem' := []) rfl <| ZBZ (fun w H => ⟨b103, b107, b19, b20, S.sel [1, 3, 4, 5, 19, 20] rfl, H.take _⟩)
   refine ⟨_, rfl, fun w H => ?_⟩
   refine ZAw (encB) (false) (wn rfl) rfl rfl rfl underlying136 ZBR rfl rfl S H rfl rfl rfl (by omega) (by omega) fun b107 a w S H => ?_
   refine t_n H (rem' := [2, 9, 10]) rfl <| t_b1 2 (by kernel_rfl) rfl fun w H => ?_
   refine ZAw (encB) (false) (wn rfl) rfl rfl rfl underlying136 ZBR rfl rfl S H rfl rfl rfl (by rw [hpl]; omega) (by rw [hpl]; omega) fun b103 a w S H => ?_
   refine t_n H (rem' := [9, 10]) rfl <| t_b1 9 (by kernel_rfl) rfl fun w H => ?_
   refine ZAS (wn rfl) rfl rfl S H rfl rfl (H.sl1 _) ZAg rfl fun a w S H => ?_
   dsimp only [List.set, Nat.zero_add, Nat.reduceAdd] at H
   refine ZAY H rfl (rem' := [10]) rfl <| t_b1 10 (by kernel_rfl) rfl fun w H => ?_
   refine ZAS (wn rfl) rfl rfl S H rfl rfl (H.sl1 _) ZAg rfl fun a w S H => ?_
   dsimp only [List.set, Nat.zero_add, Nat.reduceAdd] at H
   exact ZAY H rfl (rem' := []) rfl <| ZBZ (fun w H => ⟨b103, b107, b19, b20, S.sel [1, 3, 4, 5, 19, 20] rfl, H.take _⟩)
  refine ⟨_, rfl, fun w H => ?_⟩
  refine ZAh (wn rfl) rfl rfl rfl S H ZA2 fun b20 a w S H => t_n H (rem' := [2, 6, 7, 9, 10]) rfl <| t_b [2, 6, 7] (by kernel_rfl) rfl (fa3 ?_ ?_ ?_)
  ·refine ⟨_, rfl, fun w H => ?_⟩
   refine ZAw (encB) (false) (wn rfl) rfl rfl rfl underlying136 ZBR rfl rfl S H rfl rfl rfl (by rw [hpl]; omega) (by rw [hpl]; omega) fun b103 a w S H => ?_
   refine t_n H (rem' := [6, 7, 9, 10]) rfl <| t_b [6, 7] (by kernel_rfl) rfl (fa2 ?_ ?_)
   ·refine ⟨_, rfl, fun w H => ?_⟩
    refine ZAw (encB) (false) (wn rfl) rfl rfl rfl underlying136 ZBR rfl rfl S H rfl rfl rfl (by omega) (by omega) fun b107 a w S H => ?_
    refine t_n H (rem' := [7, 9, 10]) rfl <| t_b1 7 (by kernel_rfl) rfl fun w H => ?_
    refine ZAh (wn rfl) rfl rfl rfl S H ZA2 fun b19 a w S H => t_n H (rem' := [9, 10]) rfl <| t_b1 9 (by kernel_rfl) rfl fun w H => ?_
    refine ZAS (wn rfl) rfl rfl S H rfl rfl (H.sl1 _) ZAg rfl fun a w S H => ?_
    dsimp only [List.set, Nat.zero_add, Nat.reduceAdd] at H
    refine ZAY H rfl (rem' := [10]) rfl <| t_b1 10 (by kernel_rfl) rfl fun w H => ?_
    refine ZAS (wn rfl) rfl rfl S H rfl rfl (H.sl1 _) ZAg rfl fun a w S H => ?_
    dsimp only [List.set, Nat.zero_add, Nat.reduceAdd] at H
    exact ZAY H rfl (rem' := []) rfl <| ZBZ (fun w H => ⟨b103, b107, b19, b20, S.sel [1, 3, 4, 5, 19, 20] rfl, H.take _⟩)
   refine ⟨_, rfl, fun w H => ?_⟩
   refine ZAh (wn rfl) rfl rfl rfl S H ZA2 fun b19 a w S H => t_n H (rem' := [6, 9, 10]) rfl <| t_b [6, 9] (by kernel_rfl) rfl (fa2 ?_ ?_)
   ·refine ⟨_, rfl, fun w H => ?_⟩
    refine ZAw (encB) (false) (wn rfl) rfl rfl rfl underlying136 ZBR rfl rfl S H rfl rfl rfl (by omega) (by omega) fun b107 a w S H => ?_
    refine t_n H (rem' := [9, 10]) rfl <| t_b1 9 (by kernel_rfl) rfl fun w H => ?_
    refine ZAS (wn rfl) rfl rfl S H rfl rfl (H.sl1 _) ZAg rfl fun a w S H => ?_
    dsimp only [List.set, Nat.zero_add, Nat.reduceAdd] at H
    refine ZAY H rfl (rem' := [10]) rfl <| t_b1 10 (by kernel_rfl) rfl fun w H => ?_
    refine ZAS (wn rfl) rfl rfl S H rfl rfl (H.sl1 _) ZAg rfl fun a w S H => ?_
    dsimp only [List.set, Nat.zero_add, Nat.reduceAdd] at H
    exact ZAY H rfl (rem' := []) rfl <| ZBZ (fun w H => ⟨b103, b107, b19, b20, S.sel [1, 3, 4, 5, 19, 20] rfl, H.take _⟩)
   refine ⟨_, rfl, fun w H => ?_⟩
   refine ZAS (wn rfl) rfl rfl S H rfl rfl (H.sl1 _) ZAg rfl fun a w S H => ?_
   dsimp only [List.set, Nat.zero_add, Nat.reduceAdd] at H
   refine ZAY H rfl (rem' := [6, 10]) rfl <| t_b1 6 (by kernel_rfl) rfl fun w H => ?_
   refine ZAw (encB) (false) (wn rfl) rfl rfl rfl underlying136 ZBR rfl rfl S H rfl rfl rfl (by omega) (by omega) fun b107 a w S H => ?_
   refine t_n H (rem' := [10]) rfl <| t_b1 10 (by kernel_rfl) rfl fun w H => ?_
   refine ZAS (wn rfl) rfl rfl S H rfl rfl (H.sl1 _) ZAg rfl fun a w S H => ?_
   dsimp only [List.set, Nat.zero_add, Nat.reduceAdd] at H
   exact ZAY H rfl (rem' := []) rfl <| ZBZ (fun w H => ⟨b103, b107, b19, b20, S.sel [1, 3, 4, 5, 19, 20] rfl, H.take _⟩)
  ·refine ⟨_, rfl, fun w H => ?_⟩
   refine ZAw (encB) (false) (wn rfl) rfl rfl rfl underlying136 ZBR rfl rfl S H rfl rfl rfl (by omega) (by omega) fun b107 a w S H => ?_
   refine t_n H (rem' := [2, 7, 9, 10]) rfl <| t_b [2, 7] (by kernel_rfl) rfl (fa2 ?_ ?_)
   ·refine ⟨_, rfl, fun w H => ?_⟩
    refine ZAw (encB) (false) (wn rfl) rfl rfl rfl underlying136 ZBR rfl rfl S H rfl rfl rfl (by rw [hpl]; omega) (by rw [hpl]; omega) fun b103 a w S H => ?_
    refine t_n H (rem' := [7, 9, 10]) rfl <| t_b1 7 (by kernel_rfl) rfl fun w H => ?_
    refine ZAh (wn rfl) rfl rfl rfl S H ZA2 fun b19 a w S H => t_n H (rem' := [9, 10]) rfl <| t_b1 9 (by kernel_rfl) rfl fun w H => ?_
    refine ZAS (wn rfl) rfl rfl S H rfl rfl (H.sl1 _) ZAg rfl fun a w S H => ?_
    dsimp only [List.set, Nat.zero_add, Nat.reduceAdd] at H
    refine ZAY H rfl (rem' := [10]) rfl <| t_b1 10 (by kernel_rfl) rfl fun w H => ?_
    refine ZAS (wn rfl) rfl rfl S H rfl rfl (H.sl1 _) ZAg rfl fun a w S H => ?_
    dsimp only [List.set, Nat.zero_add, Nat.reduceAdd] at H
    exact ZAY H rfl (rem' := []) rfl <| ZBZ (fun w H => ⟨b103, b107, b19, b20, S.sel [1, 3, 4, 5, 19, 20] rfl, H.take _⟩)
   refine ⟨_, rfl, fun w H => ?_⟩
   refine ZAh (wn rfl) rfl rfl rfl S H ZA2 fun b19 a w S H => t_n H (rem' := [2, 9, 10]) rfl <| t_b1 2 (by kernel_rfl) rfl fun w H => ?_
   refine ZAw (encB) (false) (wn rfl) rfl rfl rfl underlying136 ZBR rfl rfl S H rfl rfl rfl (by rw [hpl]; omega) (by rw [hpl]; omega) fun b103 a w S H => ?_
   refine t_n H (rem' := [9, 10]) rfl <| t_b1 9 (by kernel_rfl) rfl fun w H => ?_
   refine ZAS (wn rfl) rfl rfl S H rfl rfl (H.sl1 _) ZAg rfl fun a w S H => ?_
   dsimp only [List.set, Nat.zero_add, Nat.reduceAdd] at H
   refine ZAY H rfl (rem' := [10]) rfl <| t_b1 10 (by kernel_rfl) rfl fun w H => ?_
   refine ZAS (wn rfl) rfl rfl S H rfl rfl (H.sl1 _) ZAg rfl fun a w S H => ?_
   dsimp only [List.set, Nat.zero_add, Nat.reduceAdd] at H
   exact ZAY H rfl (rem' := []) rfl <| ZBZ (fun w H => ⟨b103, b107, b19, b20, S.sel [1, 3, 4, 5, 19, 20] rfl, H.take _⟩)
  refine ⟨_, rfl, fun w H => ?_⟩
  refine ZAh (wn rfl) rfl rfl rfl S H ZA2 fun b19 a w S H => t_n H (rem' := [2, 6, 9, 10]) rfl <| t_b [2, 6] (by kernel_rfl) rfl (fa2 ?_ ?_)
  ·refine ⟨_, rfl, fun w H => ?_⟩
   refine ZAw (encB) (false) (wn rfl) rfl rfl rfl underlying136 ZBR rfl rfl S H rfl rfl rfl (by rw [hpl]; omega) (by rw [hpl]; omega) fun b103 a w S H => ?_
   refine t_n H (rem' := [6, 9, 10]) rfl <| t_b [6, 9] (by kernel_rfl) rfl (fa2 ?_ ?_)
   ·refine ⟨_, rfl, fun w H => ?_⟩
    refine ZAw (encB) (false) (wn rfl) rfl rfl rfl underlying136 ZBR rfl rfl S H rfl rfl rfl (by omega) (by omega) fun b107 a w S H => ?_
    refine t_n H (rem' := [9, 10]) rfl <| t_b1 9 (by kernel_rfl) rfl fun w H => ?_
    refine ZAS (wn rfl) rfl rfl S H rfl rfl (H.sl1 _) ZAg rfl fun a w S H => ?_
    dsimp only [List.set, Nat.zero_add, Nat.reduceAdd] at H
    refine ZAY H rfl (rem' := [10]) rfl <| t_b1 10 (by kernel_rfl) rfl fun w H => ?_
    refine ZAS (wn rfl) rfl rfl S H rfl rfl (H.sl1 _) ZAg rfl fun a w S H => ?_
    dsimp only [List.set, Nat.zero_add, Nat.reduceAdd] at H
    exact ZAY H rfl (rem' := []) rfl <| ZBZ (fun w H => ⟨b103, b107, b19, b20, S.sel [1, 3, 4, 5, 19, 20] rfl, H.take _⟩)
   refine ⟨_, rfl, fun w H => ?_⟩
   refine ZAS (wn rfl) rfl rfl S H rfl rfl (H.sl1 _) ZAg rfl fun a w S H => ?_
   dsimp only [List.set, Nat.zero_add, Nat.reduceAdd] at H
   refine ZAY H rfl (rem' := [6, 10]) rfl <| t_b1 6 (by kernel_rfl) rfl fun w H => ?_
   refine ZAw (encB) (false) (wn rfl) rfl rfl rfl underlying136 ZBR rfl rfl S H rfl rfl rfl (by omega) (by omega) fun b107 a w S H => ?_
   refine t_n H (rem' := [10]) rfl <| t_b1 10 (by kernel_rfl) rfl fun w H => ?_
   refine ZAS (wn rfl) rfl rfl S H rfl rfl (H.sl1 _) ZAg rfl fun a w S H => ?_
   dsimp only [List.set, Nat.zero_add, Nat.reduceAdd] at H
   exact ZAY H rfl (rem' := []) rfl <| ZBZ (fun w H => ⟨b103, b107, b19, b20, S.sel [1, 3, 4, 5, 19, 20] rfl, H.take _⟩)
  refine ⟨_, rfl, fun w H => ?_⟩
  refine ZAw (encB) (false) (wn rfl) rfl rfl rfl underlying136 ZBR rfl rfl S H rfl rfl rfl (by omega) (by omega) fun b107 a w S H => ?_
  refine t_n H (rem' := [2, 9, 10]) rfl <| t_b1 2 (by kernel_rfl) rfl fun w H => ?_
  refine ZAw (encB) (false) (wn rfl) rfl rfl rfl underlying136 ZBR rfl rfl S H rfl rfl rfl (by rw [hpl]; omega) (by rw [hpl]; omega) fun b103 a w S H => ?_
  refine t_n H (rem' := [9, 10]) rfl <| t_b1 9 (by kernel_rfl) rfl fun w H => ?_
  refine ZAS (wn rfl) rfl rfl S H rfl rfl (H.sl1 _) ZAg rfl fun a w S H => ?_
  dsimp only [List.set, Nat.zero_add, Nat.reduceAdd] at H
  refine ZAY H rfl (rem' := [10]) rfl <| t_b1 10 (by kernel_rfl) rfl fun w H => ?_
  refine ZAS (wn rfl) rfl rfl S H rfl rfl (H.sl1 _) ZAg rfl fun a w S H => ?_
  dsimp only [List.set, Nat.zero_add, Nat.reduceAdd] at H
  exact ZAY H rfl (rem' := []) rfl <| ZBZ (fun w H => ⟨b103, b107, b19, b20, S.sel [1, 3, 4, 5, 19, 20] rfl, H.take _⟩)
 rintro a w ⟨b103, b107, b19, b20, S, H⟩
 rw [hpl] at H
 refine gsr <| q_al S H rfl Fzer85 fun b21 a w S H => gnt <| gsr <| gq rfl S (ZAd rfl S rfl rfl) fun a S => q_st S H rfl rfl Fsiz85 rfl fun a w S H => ?_
 dsimp only [List.set, Nat.zero_add, Nat.reduceAdd] at H
 refine gnt <| ZAG <| gsr <| q_ld S H ZBX rfl rfl fun a S => gq rfl S (ZAT rfl underlying37 S H rfl) fun a S => ?_
 rw [hpl] at S
 refine q_mv S rfl fun a S => gnt <| ZAD ?_
 have H := (H.front (Cel b19 136 [(.slice (some ⟨b103, 0, none⟩) olds.length olds.length)])).freeze
 have H := (H.front (Cel b20 136 [(.slice (some ⟨b107, 0, none⟩) next.length next.length)])).freeze
 have H := (H.front (Cel b21 85 [.func (.func 78) #[] #[.pointer (some ⟨b19, 0, none⟩), .pointer (some ⟨b1, 0, none⟩), .pointer (some ⟨b20, 0, none⟩), .pointer (some ⟨b4, 0, none⟩), .pointer (some ⟨b21, 0, none⟩)]])).freeze
 have H := (H.front (MapA b29 (fun n : Int => .int .i64 n) (fun n : Int => .int .i64 n) (ownM ((ZBu olds next).1)) c)).freeze
 rw [← seenB_nil, ← seenB_nil, show ZBS olds.length [] = ZBS ps.length (rsK olds next 0).left by rw [hpl0]; rfl, show ZBS next.length [] = ZBS next.length (rsK olds next 0).reached from rfl] at H
 have SU := S.sel [110, 109, 21, 3, 5, 19, 20] rfl
 refine ZBL (X := Nat) SU (fun k => [(111, .int .i64 (k : Int))]) (fun k w => k ≤ olds.length ∧ HSat No w0 [ZBe ds, OSl 4 (.slice (some ⟨b103, 0, none⟩) olds.length olds.length) 1 encB (ZBS ps.length ((rsK olds next k).left)), OSl 4 (.slice (some ⟨b107, 0, none⟩) next.length next.length) 1 encB (ZBS next.length ((rsK olds next k).reached)), Atom.ro (Cel b19 136 [(.slice (some ⟨b103, 0, none⟩) olds.length olds.length)]), Atom.ro (Cel b20 136 [(.slice (some ⟨b107, 0, none⟩) next.length next.length)]), Atom.ro (MapA b29 (fun n : Int => .int .i64 n) (fun n : Int => .int .i64 n) (ownM ((ZBu olds next).1)) c), Atom.ro (Cel b4 144 [.map (some b29)]), Atom.ro (Cel b1 98 [vt, vo, vn, ve]), Atom.ro (Cel b21 85 [.func (.func 78) #[] #[.pointer (some ⟨b19, 0, none⟩), .pointer (some ⟨b1, 0, none⟩), .pointer (some ⟨b20, 0, none⟩), .pointer (some ⟨b4, 0, none⟩), .pointer (some ⟨b21, 0, none⟩)]]), ZBC 1 encI ps, Sl ve 1 ZAo ps, OSl 3 u34 1 encI (ZBu olds next).2, Cel b3 39 [.slice none 0 0, .slice none 0 0], Atom.ro (Cel b5 37 [u34]), Sl vn 9 Pl.enc next, Sl vo 9 Pl.enc olds, Sl vt 11 Ow.enc ts] w) (fun k => olds.length - k) 0 (S.sel [111] rfl) (⟨by omega, H.take [ZBe ds, OSl 4 (.slice (some ⟨b103, 0, none⟩) olds.length olds.length) 1 encB (ZBS ps.length ((rsK olds next 0).left)), OSl 4 (.slice (some ⟨b107, 0, none⟩) next.length next.length) 1 encB (ZBS next.length ((rsK olds next 0).reached)), Atom.ro (Cel b19 136 [(.slice (some ⟨b103, 0, none⟩) olds.length olds.length)]), Atom.ro (Cel b20 136 [(.slice (some ⟨b107, 0, none⟩) next.length next.length)]), Atom.ro (MapA b29 (fun n : Int => .int .i64 n) (fun n : Int => .int .i64 n) (ownM ((ZBu olds next).1)) c), Atom.ro (Cel b4 144 [.map (some b29)]), Atom.ro (Cel b1 98 [vt, vo, vn, ve]), Atom.ro (Cel b21 85 [.func (.func 78) #[] #[.pointer (some ⟨b19, 0, none⟩), .pointer (some ⟨b1, 0, none⟩), .pointer (some ⟨b20, 0, none⟩), .pointer (some ⟨b4, 0, none⟩), .pointer (some ⟨b21, 0, none⟩)]]), ZBC 1 encI ps, Sl ve 1 ZAo ps, OSl 3 u34 1 encI (ZBu olds next).2, Cel b3 39 [.slice none 0 0, .slice none 0 0], Atom.ro (Cel b5 37 [u34]), Sl vn 9 Pl.enc next, Sl vo 9 Pl.enc olds, Sl vt 11 Ow.enc ts]⟩) (fun k a w S hW => ?_)
 simp only [List.cons_append, List.nil_append] at S
 clear H
 obtain ⟨hk, H⟩ := hW
 refine gsr <| q_bn S rfl fun a S => gnt <| ZAG <| c_if S rfl (fun h6 => ?_) (fun h6 => ?_)
 ·have h6p := h6; try simp only [DL] at h6p
  have hatk := atI_eq (show k < (ZBu olds next).2.length by omega)
  have hR := reach2All_inv hvg0 hown (got := (ZBu olds next).2) k (by rw [ZBO]; omega)
  refine ZAM <| ZAA <| ZAG <| ZAD <| gsr <| q_mv S rfl fun a S => gq rfl S (ZAI rfl underlying37 ZA5 S H rfl rfl (by omega)) fun a S => ?_
  refine gq rfl S (ZA6 _ rfl ZAN S H rfl (by omega) rfl) fun a S => ?_
  refine q_as S rfl fun a S => q_as S rfl fun a S => gnt ?_
  have S := S.sel [23, 22, 111, 110, 109, 21, 3, 5, 19, 20] rfl
  refine gsr <| q_mv S rfl fun a S => q_bn S rfl fun a S => gnt <| c_if S rfl (fun h7 => ?_) (fun h7 => ?_)
  ·have h7p := h7; try simp only [DL] at h7p
   have hneg : atI (ZBu olds next).2 k < 0 := by rw [hatk]; exact h7p
   have stp := rsK_yes hneg
   refine ZAB ?_
   refine q_ld S H Fsca85 rfl rfl fun a S => ?_
   refine q_mv S rfl fun a S => ?_
   refine ZAF (ZAV (wn rfl) rfl rfl S (ZAp rfl call78 S rfl rfl) (reach2_spec next.length (.slice (some ⟨b103, 0, none⟩) olds.length olds.length) (.slice (some ⟨b107, 0, none⟩) next.length next.length) vt vo vn ve ps (ZBu olds next).1 b19 b1 b20 b4 b21 b29 c hvg hol (by rw [hps]; exact hown) ((ZAy olds next).length + 1) k (rsK olds next k) _ (by omega) (by rw [hps]; exact hR.wf) (by rw [hps]; omega) (H.pick [OSl 4 (.slice (some ⟨b103, 0, none⟩) olds.length olds.length) 1 encB (ZBS ps.length ((rsK olds next k).left)), OSl 4 (.slice (some ⟨b107, 0, none⟩) next.length next.length) 1 encB (ZBS next.length ((rsK olds next k).reached)), Atom.ro (Cel b19 136 [(.slice (some ⟨b103, 0, none⟩) olds.length olds.length)]), Atom.ro (Cel b20 136 [(.slice (some ⟨b107, 0, none⟩) next.length next.length)]), Atom.ro (MapA b29 (fun n : Int => .int .i64 n) (fun n : Int => .int .i64 n) (ownM ((ZBu olds next).1)) c), Atom.ro (Cel b4 144 [.map (some b29)]), Atom.ro (Cel b1 98 [vt, vo, vn, ve]), Atom.ro (Cel b21 85 [.func (.func 78) #[] #[.pointer (some ⟨b19, 0, none⟩), .pointer (some ⟨b1, 0, none⟩), .pointer (some ⟨b20, 0, none⟩), .pointer (some ⟨b4, 0, none⟩), .pointer (some ⟨b21, 0, none⟩)]]), ZBC 1 encI ps, Sl ve 1 ZAo ps])) fun v w hc a S => ?_)
   obtain ⟨rfl, H⟩ := hc
   simp only [List.append_eq, List.nil_append] at H
   rw [hps] at H
   refine ZAj <| ZAK <| ZAA ?_
   have S := S.sel [111, 110, 109, 21, 3, 5, 19, 20] rfl
   refine ZAB <| q_ad S rfl (by omega) fun a S => ?_
   refine q_mv S rfl fun a S => ?_
   refine gnt ?_
   exact ⟨k + 1, S.sel [111] rfl, S.sel [110, 109, 21, 3, 5, 19, 20] rfl, ⟨by omega, by rw [stp]; exact H.take _⟩, by omega⟩
  have h7p := h7; try simp only [DL] at h7p
  have hneg : ¬ atI (ZBu olds next).2 k < 0 := by rw [hatk]; have := h7p; omega
  have stp := rsK_no hneg
  refine ZAM <| ZAK <| ZAA ?_
  have S := S.sel [111, 110, 109, 21, 3, 5, 19, 20] rfl
  refine ZAB <| q_ad S rfl (by omega) fun a S => ?_
  exact q_mv S rfl fun a S => gnt <| ⟨k + 1, S.sel [111] rfl, S.sel [110, 109, 21, 3, 5, 19, 20] rfl, ⟨by omega, by rw [stp]; exact H⟩, by omega⟩
 have h6p := h6; try simp only [DL] at h6p
 obtain rfl : k = olds.length := by omega
 rw [show rsK olds next olds.length = rsP olds next from rfl] at H
 refine ZAf <| ZAO (ZAO (x_eq ?_))
 refine ZAA ?_
 have S := S.sel [3, 5, 19, 20] rfl
 refine gsr <| q_al S H rfl Fzer39 fun b24 a w S H => gnt <| ZAG <| gsr <| q_ld S H Fsca136 rfl rfl fun a S => gq rfl S (ZAT rfl underlying136 S H rfl) fun a S => ?_
 rw [ZBU, hpl0] at S
 refine q_mv S rfl fun a S => gnt <| ZAD ?_
 have H := H.nilO 3 1 encI
 have SU := S.sel [123, 122, 24, 3, 5, 20] rfl
 refine ZBL (X := Nat) SU (fun k => [(124, .int .i64 (k : Int))]) (fun k w => k ≤ olds.length ∧ ∃ vl, HSat No w0 [ZBe ds, Cel b24 39 [vl, .slice none 0 0], OSl 3 (vl) 1 encI (ZBb (ZAy olds next) (rsP olds next) k), OSl 4 (.slice (some ⟨b103, 0, none⟩) olds.length olds.length) 1 encB (ZBS ps.length (rsP olds next).left), OSl 4 (.slice (some ⟨b107, 0, none⟩) next.length next.length) 1 encB (ZBS next.length (rsP olds next).reached), Atom.ro (Cel b19 136 [(.slice (some ⟨b103, 0, none⟩) olds.length olds.length)]), Atom.ro (Cel b20 136 [(.slice (some ⟨b107, 0, none⟩) next.length next.length)]), OSl 3 u34 1 encI (ZBu olds next).2, Cel b3 39 [.slice none 0 0, .slice none 0 0], Atom.ro (Cel b5 37 [u34]), ZBC 1 encI ps, Sl ve 1 ZAo ps, Sl vn 9 Pl.enc next, Sl vo 9 Pl.enc olds, Sl vt 11 Ow.enc ts] w) (fun k => olds.length - k) 0 (S.sel [124] rfl) (⟨by omega, .slice none 0 0, H.take [ZBe ds, Cel b24 39 [.slice none 0 0, .slice none 0 0], OSl 3 (.slice none 0 0) 1 encI ([]), OSl 4 (.slice (some ⟨b103, 0, none⟩) olds.length olds.length) 1 encB (ZBS ps.length (rsP olds next).left), OSl 4 (.slice (some ⟨b107, 0, none⟩) next.length next.length) 1 encB (ZBS next.length (rsP olds next).reached), Atom.ro (Cel b19 136 [(.slice (some ⟨b103, 0, none⟩) olds.length olds.length)]), Atom.ro (Cel b20 136 [(.slice (some ⟨b107, 0, none⟩) next.length next.length)]), OSl 3 u34 1 encI (ZBu olds next).2, Cel b3 39 [.slice none 0 0, .slice none 0 0], Atom.ro (Cel b5 37 [u34]), ZBC 1 encI ps, Sl ve 1 ZAo ps, Sl vn 9 Pl.enc next, Sl vo 9 Pl.enc olds, Sl vt 11 Ow.enc ts]⟩) (fun k a w S hW => ?_)
 simp only [List.cons_append, List.nil_append] at S
 clear H
 obtain ⟨hk, vl, H⟩ := hW
 have hcl := coverLeft_len (ZAy olds next) (rsP olds next) k
 refine gsr <| q_bn S rfl fun a S => gnt <| ZAG <| c_if S rfl (fun h8 => ?_) (fun h8 => ?_)
 ·have h8p := h8; try simp only [DL] at h8p
  refine ZAM ?_
  refine ZAA ?_
  refine ZAG ?_
  refine ZAD ?_
  refine gsr ?_
  refine q_mv S rfl fun a S => ?_
  refine gq rfl S (ZAI rfl underlying136 Fsiz4 S H rfl rfl (by first | assumption | omega | (rw [hpk]; omega) | (rw [hpl]; omega) | (rw [ZBU]; omega))) fun a S => ?_
  refine gq rfl S (ZA6 _ rfl Fsca4 S H rfl (by first | assumption | omega | (rw [hpk]; omega) | (rw [hpl]; omega) | (rw [ZBU]; omega)) rfl) fun a S => ?_
  refine q_as S rfl fun a S => q_as S rfl fun a S => gnt ?_
  have S := S.sel [26, 25, 124, 123, 122, 24, 3, 5, 20] rfl
  refine gsr <| q_mv S rfl fun a S => gq rfl S (ZBV rfl S rfl) fun a S => gnt <| c_if S rfl (fun h9 => ?_) (fun h9 => ?_)
  ·have h9p := h9; try simp only [DL] at h9p
   have hx : (k : Int) ∉ (rsP olds next).left := by have := h9; rw [seenB_get] at this; simpa using this
   refine ZAB <| q_fa S Ffo39_0 rfl fun a S => q_ld S H ZBX rfl rfl fun a S => q_mv S rfl fun a S => ZAF (ZAP (wn rfl) rfl rfl rfl underlying37 Finf3 S H (idx := [0]) rfl rfl rfl (z := [.int .i64 0]) (by kernel_rfl) (cs := [_]) rfl fun b134 a w S H => ?_)
   refine ZAF (ZAr ([(k : Int)]) (wn rfl) rfl rfl rfl underlying37 Finf3 rfl rfl S H rfl rfl rfl rfl (by simp) (by simp [encI]) (by simp [encI, Value.oneCell']) (by simp only [List.length_cons, List.length_nil]; omega) (by simp only [List.length_cons, List.length_nil]; omega) fun u135 a w hn135 S H => ?_)
   refine q_fa S Ffo39_0 rfl fun a S => q_st S H rfl (H.sl1 _) Fsiz37 rfl fun a w S H => ?_
   dsimp only [List.set, Nat.zero_add, Nat.reduceAdd] at H
   refine ZAj <| ZAK <| ZAA ?_
   have S := S.sel [124, 123, 122, 24, 3, 5, 20] rfl
   refine ZAB <| q_ad S rfl (by omega) fun a S => ?_
   refine q_mv S rfl fun a S => ?_
   refine gnt ?_
   exact ⟨k + 1, S.sel [124] rfl, S.sel [123, 122, 24, 3, 5, 20] rfl, ⟨by omega, u135, by rw [ZBb, if_neg hx]; exact H.take _⟩, by omega⟩
  have h9p := h9; try simp only [DL] at h9p
  have hx : (k : Int) ∈ (rsP olds next).left := by have := h9; rw [seenB_get] at this; simpa using this
  refine ZAM <| ZAK <| ZAA ?_
  have S := S.sel [124, 123, 122, 24, 3, 5, 20] rfl
  refine ZAB <| q_ad S rfl (by omega) fun a S => ?_
  exact q_mv S rfl fun a S => gnt <| ⟨k + 1, S.sel [124] rfl, S.sel [123, 122, 24, 3, 5, 20] rfl, ⟨by omega, vl, by rw [ZBb, if_pos hx]; exact H⟩, by omega⟩
 have h8p := h8; try simp only [DL] at h8p
 obtain rfl : k = olds.length := by omega
 rw [show ZBb (ZAy olds next) (rsP olds next) olds.length = clL olds next from rfl] at H
 refine ZAf <| ZAO (ZAO (x_eq ?_))
 refine ZAA ?_
 have S := S.sel [24, 3, 5, 20] rfl
 refine ZAG <| gsr <| q_ld S H Fsca136 rfl rfl fun a S => gq rfl S (ZAT rfl underlying136 S H rfl) fun a S => ?_
 rw [ZBU] at S
 refine q_mv S rfl fun a S => gnt <| ZAD ?_
 have H := H.nilO 3 1 encI
 have SU := S.sel [139, 138, 24, 3, 5] rfl
 refine ZBL (X := Nat) SU (fun k => [(140, .int .i64 (k : Int))]) (fun k w => k ≤ next.length ∧ ∃ vr, HSat No w0 [ZBe ds, Cel b24 39 [vl, vr], OSl 3 (vr) 1 encI (ZBF (rsP olds next) k), OSl 3 vl 1 encI (clL olds next), OSl 4 (.slice (some ⟨b103, 0, none⟩) olds.length olds.length) 1 encB (ZBS ps.length (rsP olds next).left), OSl 4 (.slice (some ⟨b107, 0, none⟩) next.length next.length) 1 encB (ZBS next.length (rsP olds next).reached), Atom.ro (Cel b19 136 [(.slice (some ⟨b103, 0, none⟩) olds.length olds.length)]), Atom.ro (Cel b20 136 [(.slice (some ⟨b107, 0, none⟩) next.length next.length)]), OSl 3 u34 1 encI (ZBu olds next).2, Cel b3 39 [.slice none 0 0, .slice none 0 0], Atom.ro (Cel b5 37 [u34]), ZBC 1 encI ps, Sl ve 1 ZAo ps, Sl vn 9 Pl.enc next, Sl vo 9 Pl.enc olds, Sl vt 11 Ow.enc ts] w) (fun k => next.length - k) 0 (S.sel [140] rfl) (⟨by omega, .slice none 0 0, H.take [ZBe ds, Cel b24 39 [vl, .slice none 0 0], OSl 3 (.slice none 0 0) 1 encI ([]), OSl 3 vl 1 encI (clL olds next), OSl 4 (.slice (some ⟨b103, 0, none⟩) olds.length olds.length) 1 encB (ZBS ps.length (rsP olds next).left), OSl 4 (.slice (some ⟨b107, 0, none⟩) next.length next.length) 1 encB (ZBS next.length (rsP olds next).reached), Atom.ro (Cel b19 136 [(.slice (some ⟨b103, 0, none⟩) olds.length olds.length)]), Atom.ro (Cel b20 136 [(.slice (some ⟨b107, 0, none⟩) next.length next.length)]), OSl 3 u34 1 encI (ZBu olds next).2, Cel b3 39 [.slice none 0 0, .slice none 0 0], Atom.ro (Cel b5 37 [u34]), ZBC 1 encI ps, Sl ve 1 ZAo ps, Sl vn 9 Pl.enc next, Sl vo 9 Pl.enc olds, Sl vt 11 Ow.enc ts]⟩) (fun k a w S hW => ?_)
 simp only [List.cons_append, List.nil_append] at S
 clear H
 obtain ⟨hk, vr, H⟩ := hW
 have hcr := coverRight_len (rsP olds next) k
 refine gsr <| q_bn S rfl fun a S => gnt <| ZAG <| c_if S rfl (fun h10 => ?_) (fun h10 => ?_)
 ·have h10p := h10; try simp only [DL] at h10p
  refine ZAM ?_
  refine ZAA ?_
  refine ZAG ?_
  refine ZAD ?_
  refine gsr ?_
  refine q_mv S rfl fun a S => ?_
  refine gq rfl S (ZAI rfl underlying136 Fsiz4 S H rfl rfl (by first | assumption | omega | (rw [hpk]; omega) | (rw [hpl]; omega) | (rw [ZBU]; omega))) fun a S => ?_
  refine gq rfl S (ZA6 _ rfl Fsca4 S H rfl (by first | assumption | omega | (rw [hpk]; omega) | (rw [hpl]; omega) | (rw [ZBU]; omega)) rfl) fun a S => ?_
  refine q_as S rfl fun a S => q_as S rfl fun a S => gnt ?_
  have S := S.sel [28, 27, 140, 139, 138, 24, 3, 5] rfl
  refine gsr <| q_mv S rfl fun a S => gnt <| c_if S rfl (fun h11 => ?_) (fun h11 => ?_)
  ·have h11p := h11; try simp only [DL] at h11p
   have hx : (k : Int) ∈ (rsP olds next).reached := by have := h11; rw [seenB_get] at this; simpa using this
   refine ZAB <| q_fa S Ffo39_1 rfl fun a S => q_ld S H ZBX rfl rfl fun a S => q_mv S rfl fun a S => ZAF (ZAP (wn rfl) rfl rfl rfl underlying37 Finf3 S H (idx := [0]) rfl rfl rfl (z := [.int .i64 0]) (by kernel_rfl) (cs := [_]) rfl fun b149 a w S H => ?_)
   refine ZAF (ZAr ([(k : Int)]) (wn rfl) rfl rfl rfl underlying37 Finf3 rfl rfl S H rfl rfl rfl rfl (by simp) (by simp [encI]) (by simp [encI, Value.oneCell']) (by simp only [List.length_cons, List.length_nil]; omega) (by simp only [List.length_cons, List.length_nil]; omega) fun u150 a w hn150 S H => ?_)
   refine q_fa S Ffo39_1 rfl fun a S => q_st S H rfl (H.sl1 _) Fsiz37 rfl fun a w S H => ?_
   dsimp only [List.set, Nat.zero_add, Nat.reduceAdd] at H
   refine ZAj <| ZAK <| ZAA ?_
   have S := S.sel [140, 139, 138, 24, 3, 5] rfl
   refine ZAB <| q_ad S rfl (by omega) fun a S => ?_
   refine q_mv S rfl fun a S => ?_
   refine gnt ?_
   exact ⟨k + 1, S.sel [140] rfl, S.sel [139, 138, 24, 3, 5] rfl, ⟨by omega, u150, by rw [ZBF, if_pos hx]; exact H.take [ZBe ds, Cel b24 39 [vl, u150], OSl 3 u150 1 encI (ZBF (rsP olds next) k ++ [(k : Int)]), OSl 3 vl 1 encI (clL olds next), OSl 4 (.slice (some ⟨b103, 0, none⟩) olds.length olds.length) 1 encB (ZBS ps.length (rsP olds next).left), OSl 4 (.slice (some ⟨b107, 0, none⟩) next.length next.length) 1 encB (ZBS next.length (rsP olds next).reached), Atom.ro (Cel b19 136 [(.slice (some ⟨b103, 0, none⟩) olds.length olds.length)]), Atom.ro (Cel b20 136 [(.slice (some ⟨b107, 0, none⟩) next.length next.length)]), OSl 3 u34 1 encI (ZBu olds next).2, Cel b3 39 [.slice none 0 0, .slice none 0 0], Atom.ro (Cel b5 37 [u34]), ZBC 1 encI ps, Sl ve 1 ZAo ps, Sl vn 9 Pl.enc next, Sl vo 9 Pl.enc olds, Sl vt 11 Ow.enc ts]⟩, by omega⟩
  have h11p := h11; try simp only [DL] at h11p
  have hx : (k : Int) ∉ (rsP olds next).reached := by have := h11; rw [seenB_get] at this; simpa using this
  refine ZAM <| ZAK <| ZAA <| ZAB <| q_ad S rfl (by omega) fun a S => ?_
  exact q_mv S rfl fun a S => gnt <| ⟨k + 1, S.sel [140] rfl, S.sel [139, 138, 24, 3, 5] rfl, ⟨by omega, vr, by rw [ZBF, if_neg hx]; exact H⟩, by omega⟩
 have h10p := h10; try simp only [DL] at h10p
 obtain rfl : k = next.length := by omega
 rw [show ZBF (rsP olds next) next.length = crL olds next from rfl] at H
 refine ZAf <| ZAO (ZAO (x_eq ?_))
 refine ZAA ?_
 have S := S.sel [24, 3, 5] rfl
 refine ZAG <| ZAZ (loud := [3]) (tails := [3]) (free := []) [0, 1, 2, 3] [] Fmo (by kernel_rfl) (by kernel_rfl) rfl H ?_
 refine m_q rfl S (fun w H => ZAJ rfl ZBX S H rfl rfl) fun a S => m_q rfl S (fun w H => ZAb rfl S H rfl (by exact Fagg39)) fun a S => ?_
 refine m_q rfl S (fun w H => ZA1 rfl S rfl) fun a S => ?_
 refine m_l rfl rfl (fun w H => ZAQ (wn rfl) rfl rfl S H rfl rfl (by rw [List.all_cons, List.all_cons, H.sl1 vl, H.sl1 vr]; rfl) Fsiz39 rfl (cs' := [_, _]) rfl fun a w S H => m_tail H rfl ?_)
 refine ZBY (fun w H => ZAA ?_)
 have S := S.sel [2, 3] rfl
 refine ZAe <| ret2tcM rfl S H rfl rfl (by exact Fagg39) (fun w H => ?_)
 exact ⟨u34, vl, vr, rfl, H.take [OSl 3 u34 1 encI (ZBu olds next).2, OSl 3 vl 1 encI (clL olds next), OSl 3 vr 1 encI (crL olds next)]⟩
set_option maxHeartbeats 4000000 in
theorem prepare_spec (v1 v2 : Value) (old next : List Pl) (v3 : Value) (ts : List Ow) (w0 : World) (hv1 : IsSl w0 v1 9 Pl.enc old) (hv2 : IsSl w0 v2 9 Pl.enc next) (hv3 : IsSl w0 v3 11 Ow.enc ts) (hok : ∀ o ∈ ts, o.ok) (hl1 : ts.length ≤ 100000) :
    Ret Tryz.prog 27 #[v1, v2, v3] w0 (fun u w => ∃ va vb vc ve, u = .tuple #[.agg #[va, vb, vc, ve], .int .i64 (errW old.length next.length (ZAH ts))] ∧ [va, vb, vc, ve].all (·.oneCell') = true ∧ Ext w0 w ∧ (errW old.length next.length (ZAH ts) = 0 → v2 = vc ∧ ∃ ps : List (Value × List Int), ps.map (·.2) = ZAy (oldL old (ZAH ts)) next ∧ HSat No w0 [OSl 55 va 11 Ow.enc (ZAH ts), OSl 57 vb 9 Pl.enc (oldL old (ZAH ts)), OSl 37 ve 1 ZAo ps, ZBh 3 1 encI ps] w)) := by
 refine ZAE (nt := 84) Tryz.func27 rfl rfl rfl (fl := [(0, v1), (1, v2), (2, v3)]) rfl (fun a S => ?_)
 have H := HSat.start w0
 have H := H.ro0 (Sl v1 9 Pl.enc old) rfl (hv1)
 have H := H.ro0 (Sl v2 9 Pl.enc next) rfl (hv2)
 have H := H.ro0 (Sl v3 11 Ow.enc ts) rfl (hv3)
 have hll1 := hv1.len
 have hl2 := hv2.len
 have hl3 := hv3.len
 obtain ⟨pv2, cv2, hpv2⟩ := hv2.shape
 refine gsr <| q_al S H rfl Fzer98 fun b6 a w S H => q_as S rfl fun a S => gnt <| gsr <| q_mv S rfl fun a S => gq rfl S (ZAx rfl Fbld98 S rfl (idx := [2]) rfl (cs := [.slice none 0 0, .slice none 0 0, v2, .slice none 0 0]) (by rw [hpv2]; rfl)) fun a S => ?_
 refine q_al S H rfl Fzer98 fun b8 a w S H => ZAF (ZAQ (wn rfl) rfl rfl S H rfl rfl (by simp only [List.all_cons, List.all_nil, H.sl1 v2]; rfl) Fsiz98 rfl (cs' := [_, _, _, _]) rfl fun a w S H => ?_)
 refine gnt <| gsr <| ZAF (ZBK (fun n : Int => .int .i64 n) (fun b : Bool => .bool b) (wn rfl) rfl rfl rfl S H fun b16 a w S H => q_as S rfl fun a S => gnt ?_)
 refine gsr <| q_as S rfl fun a S => gnt <| ZAG <| gsr <| q_mv S rfl fun a S => gq rfl S (ZAT rfl underlying34 S H rfl) fun a S => q_mv S rfl fun a S => ?_
 refine gnt ?_
 have S := S.sel [19, 18, 17, 10, 9, 8, 7, 6, 0, 1] rfl
 refine ZAD ?_
 have H := (H.nilO 55 11 Ow.enc).nilO 57 9 Pl.enc
 have SU := S.sel [18, 17, 9, 8, 7, 6, 0, 1] rfl
 refine ZBL (X := Nat × Int) SU (fun x => [(10, .int .i64 x.2), (19, .int .i64 (x.1 : Int))]) (fun x w => x.1 ≤ ts.length ∧ ∃ s xs va vb c, PrepI old ts x.1 x.2 s xs ∧ HSat No w0 [OSl 55 va 11 Ow.enc (ZAH (ts.take x.1)), OSl 57 vb 9 Pl.enc (xs), MapA b16 (fun n : Int => .int .i64 n) (fun b : Bool => .bool b) (memS (s)) c, Cel b8 98 [va, vb, v2, .slice none 0 0], Cel b6 98 [.slice none 0 0, .slice none 0 0, .slice none 0 0, .slice none 0 0], Sl v3 11 Ow.enc ts, Sl v2 9 Pl.enc next, Sl v1 9 Pl.enc old] w) (fun x => ts.length - x.1) (0, 0) (S.sel [10, 19] rfl) (⟨by simp, [], [], .slice none 0 0, .slice none 0 0, 0, prep_start _ _, by exact H.take [OSl 55 (.slice none 0 0) 11 Ow.enc [], OSl 57 (.slice none 0 0) 9 Pl.enc [], MapA b16 (fun n : Int => .int .i64 n) (fun b : Bool => .bool b) (fun _ => none) 0, Cel b8 98 [.slice none 0 0, .slice none 0 0, v2, .slice none 0 0], Cel b6 98 [.slice none 0 0, .slice none 0 0, .slice none 0 0, .slice none 0 0], Sl v3 11 Ow.enc ts, Sl v2 9 Pl.enc next, Sl v1 9 Pl.enc old]⟩) (fun x a w S hW => ?_)
 simp only [List.cons_append, List.nil_append] at S
 clear H
 obtain ⟨k, e⟩ := x
 obtain ⟨hk, s, xs, va, vb, c, hI, H⟩ := hW
 dsimp only at S H hk hI
 refine gsr <| q_bn S rfl fun a S => gnt <| ZAG <| c_if S rfl (fun h1 => ?_) (fun h1 => ?_)
 ·have h1p := h1; try simp only [DL] at h1p
  have hkl : k < ts.length := by omega
  have hok1 := hok _ (List.getElem_mem hkl)
  have hms := moved_step hkl
  have hml := moved_le ts k
  refine ZAM <| ZAA <| ZAG <| ZAD <| gsr <| gq rfl S (ZAI rfl underlying34 Fsiz55 S H rfl rfl (by omega)) fun a S => ?_
  refine gq rfl S (ZAk _ rfl S H rfl (by exact Fagg55) (by omega)) fun a S => ?_
  refine q_al S H rfl Fzer55 fun b12 a w S H => ZAF (ZAQ (wn rfl) rfl rfl S H rfl rfl (Ow.all hok1) Fsiz55 rfl (cs' := [_, _, _, _, _, _, _, _, _, _, _]) rfl fun a w S H => gnt ?_)
  refine gsr <| q_fa S Ffo55_0 rfl fun a S => q_fa S Ffo49_2 rfl fun a S => q_ld S H ZAN rfl rfl fun a S => q_as S rfl fun a S => gnt ?_
  have S := S.sel [13, 12, 10, 19, 18, 17, 9, 8, 7, 6, 0, 1] rfl
  refine ZAG <| gsr <| q_fa S Ffo55_4 rfl fun a S => q_ld S H ZAN rfl rfl fun a S => q_bn S rfl fun a S => q_mv S rfl fun a S => ?_
  refine' ZBH 2 29 rfl S H rfl rfl rfl rfl rfl rfl rfl (fun _ S => (wn rfl)) (fun h2 kk => ?yh2) (fun a w S H => ?_)
  case yh2 =>
   exact gz 29 h2 S rfl rfl rfl rfl rfl rfl (ZAL rfl S rfl) fun a S => gz 29 h2 S rfl rfl rfl rfl rfl rfl (ZAn rfl S rfl rfl rfl) fun a S => gq rfl S (ZAz rfl h2 S rfl rfl) fun a S => kk _ _ (S.join 3 32 rfl rfl) H
  refine gnt ?_
  have S := S.sel [32, 13, 12, 10, 19, 18, 17, 9, 8, 7, 6, 0, 1] rfl
  refine c_if S rfl (fun h3 => ?_) (fun h3 => ?_)
  ·have h3p := h3; try simp only [DL] at h3p
   have hnm : ¬ movedB ts[k] = true := by unfold movedB; have := h3p; simp only [Bool.and_eq_true, decide_eq_true_eq]; omega
   refine ZAf <| ZAO (x_eq ?_)
   refine ZAA <| ZAB <| q_ad S rfl (by omega) fun a S => ?_
   refine q_mv S rfl fun a S => gnt ?_
   first
   | exact ⟨(k + 1, e), S.sel [10, 19] rfl, S.sel [18, 17, 9, 8, 7, 6, 0, 1] rfl, ⟨by dsimp only; omega, s, xs, va, vb, c, prep_skip hI hkl hnm, by dsimp only; rw [hms, if_neg hnm, List.append_nil]; exact H.take _⟩, by dsimp only; omega⟩
   | exact ⟨(k + 1, 1), S.sel [10, 19] rfl, S.sel [18, 17, 9, 8, 7, 6, 0, 1] rfl, ⟨by dsimp only; omega, s, xs, u37, vb, c, prep_bad hI hkl hmv hbd, by dsimp only; rw [hms]; exact H.take _⟩, by dsimp only; omega⟩
   | (dsimp only [List.set, Nat.zero_add, Nat.reduceAdd] at H
      exact ⟨(k + 1, e), S.sel [10, 19] rfl, S.sel [18, 17, 9, 8, 7, 6, 0, 1] rfl, ⟨by dsimp only; omega, (p : Int) :: s, xs ++ [old[p]], u37, u57, (if (memS s (p : Int)).isSome = true then c else c + 1), prep_good hI hkl hmv hpp hpl hgd.2, by dsimp only; rw [hms]; exact H.take _⟩, by dsimp only; omega⟩)
  have h3p := h3; try simp only [DL] at h3p
  have hmv : movedB ts[k] = true := by unfold movedB; have := h3p; simp only [Bool.and_eq_true, decide_eq_true_eq]; omega
  rw [if_pos hmv] at hms
  obtain ⟨p, hpp⟩ : ∃ p : Nat, ts[k].place = p := ⟨ts[k].place.toNat, by have := h3p; omega⟩
  rw [hpp] at S
  refine ZAM <| ZAA <| gsr <| q_fa S Ffo98_0 rfl fun a S => q_ld S H Fsca34 rfl rfl fun a S => gq rfl S (ZAb rfl S H rfl (by exact Fagg55)) fun a S => ?_
  refine ZAF (ZAP (wn rfl) rfl rfl rfl underlying34 Finf55 S H (idx := [0]) rfl rfl rfl (z := [.int .i64 0, .int .i64 0, .int .i64 0, .string ⟨#[]⟩, .slice none 0 0, .string ⟨#[]⟩, .slice none 0 0, .int .i64 0, .slice none 0 0, .int .i64 0, .slice none 0 0]) (by kernel_rfl) (cs := [.int .i64 ts[k].serial, .int .i64 ts[k].show_, .int .i64 ts[k].place, ts[k].first, ts[k].chain, ts[k].person, ts[k].lines, .int .i64 ts[k].total, ts[k].means, .int .i64 ts[k].gone, ts[k].offers]) (by kernel_rfl) fun b36 a w S H => ?_)
  refine ZAF (ZAr ([ts[k]]) (wn rfl) rfl rfl rfl underlying34 Finf55 rfl rfl S H rfl rfl rfl rfl (by simp) (by simp [Ow.enc]) (by simp only [List.mem_singleton]; rintro y rfl u hu; obtain ⟨h1, h2, h3, h4, h5, h6⟩ := hok1; simp only [Ow.enc, List.mem_cons, List.not_mem_nil, or_false] at hu; rcases hu with rfl | rfl | rfl | rfl | rfl | rfl | rfl | rfl | rfl | rfl | rfl <;> first | rfl | assumption) (by simp only [List.length_cons, List.length_nil]; omega) (by simp only [List.length_cons, List.length_nil]; omega) fun u37 a w hn37 S H => ?_)
  skip
  refine q_fa S Ffo98_0 rfl fun a S => q_st S H rfl (H.sl1 _) Fsiz34 rfl fun a w S H => ?_
  dsimp only [List.set, Nat.zero_add, Nat.reduceAdd] at H
  refine gnt ?_
  have S := S.sel [13, 10, 19, 18, 17, 9, 8, 7, 6, 0, 1] rfl
  refine ZAG <| gsr <| q_mv S rfl fun a S => q_mv S rfl fun a S => gq rfl S (ZAT rfl underlying30 S H rfl) fun a S => q_bn S rfl fun a S => q_mv S rfl fun a S => ?_
  refine' ZBH 3 43 rfl S H rfl rfl rfl rfl rfl rfl rfl (fun _ S => (wn rfl)) (fun h4 kk => ?yh4) (fun a w S H => ?_)
  case yh4 =>
   refine gz 43 h4 S rfl rfl rfl rfl rfl rfl (ZAL rfl S rfl) fun a S => gz 43 h4 S rfl rfl rfl rfl rfl rfl (ZAL rfl S rfl) fun a S => gz 43 h4 S rfl rfl rfl rfl rfl rfl (ZBT ((p : Int)) (false) rfl underlying60 ZBR S H rfl (ZAv underlying3) (by exact rfl) (by exact rfl) rfl) fun a S => ?_
   exact gq rfl S (ZAz rfl h4 S rfl rfl) fun a S => kk _ _ (S.join 4 47 rfl rfl) H
  refine gnt ?_
  have S := S.sel [47, 13, 10, 19, 18, 17, 9, 8, 7, 6, 0, 1] rfl
  refine c_if S rfl (fun h5 => ?_) (fun h5 => ?_)
  ·have h5p := h5; try simp only [DL] at h5p
   have hbd : ts[k].place ≥ old.length ∨ ts[k].place ∈ s := by
     have hh := h5
     rw [memS_get] at hh
     simp only [Bool.or_eq_true, decide_eq_true_eq] at hh
     rw [hpp]; exact hh
   refine gsr <| q_as S rfl fun a S => gnt <| ZAf <| ZAO (x_eq ?_)
   refine ZAA <| ZAB <| q_ad S rfl (by omega) fun a S => ?_
   refine q_mv S rfl fun a S => gnt ?_
   first
   | exact ⟨(k + 1, e), S.sel [10, 19] rfl, S.sel [18, 17, 9, 8, 7, 6, 0, 1] rfl, ⟨by dsimp only; omega, s, xs, va, vb, c, prep_skip hI hkl hnm, by dsimp only; rw [hms, if_neg hnm, List.append_nil]; exact H.take _⟩, by dsimp only; omega⟩
   | exact ⟨(k + 1, 1), S.sel [10, 19] rfl, S.sel [18, 17, 9, 8, 7, 6, 0, 1] rfl, ⟨by dsimp only; omega, s, xs, u37, vb, c, prep_bad hI hkl hmv hbd, by dsimp only; rw [hms]; exact H.take _⟩, by dsimp only; omega⟩
   | (dsimp only [List.set, Nat.zero_add, Nat.reduceAdd] at H
      exact ⟨(k + 1, e), S.sel [10, 19] rfl, S.sel [18, 17, 9, 8, 7, 6, 0, 1] rfl, ⟨by dsimp only; omega, (p : Int) :: s, xs ++ [old[p]], u37, u57, (if (memS s (p : Int)).isSome = true then c else c + 1), prep_good hI hkl hmv hpp hpl hgd.2, by dsimp only; rw [hms]; exact H.take _⟩, by dsimp only; omega⟩)
  have h5p := h5; try simp only [DL] at h5p
  have hgd : p < old.length ∧ (p : Int) ∉ s := by
    have hh := h5
    rw [memS_get] at hh
    simp only [Bool.or_eq_false_iff, decide_eq_false_iff_not] at hh
    exact ⟨by omega, hh.2⟩
  have hpl : p < old.length := hgd.1
  refine ZAM <| ZAA <| gsr <| q_mv S rfl fun a S => q_mv S rfl fun a S => ZAF (ZBA ((p : Int)) (true) (wn rfl) rfl rfl underlying60 S H rfl (ZAv underlying3) (by exact rfl) (by exact rfl) fun a w S H => ?_)
  refine gnt <| ZAZ (loud := [6, 7, 9]) (tails := [7, 9]) (free := []) [0, 1, 2, 3, 4, 5, 6, 7, 8, 9] [] Fmo (by kernel_rfl) (by kernel_rfl) rfl H ?_
  refine m_q rfl S (fun w H => ZAC rfl Ffo98_1 S rfl) fun a S => m_q rfl S (fun w H => ZAJ rfl Fsca30 S H rfl rfl) fun a S => m_q rfl S (fun w H => ZAL rfl S rfl) fun a S => m_q rfl S (fun w H => ZAL rfl S rfl) fun a S => m_q rfl S (fun w H => ZAI rfl underlying30 Fsiz57 S H rfl rfl (by omega)) fun a S => ?_
  refine m_loadsa _ rfl rfl (wn rfl) rfl rfl S rfl rfl (by exact Fagg57) (by omega) fun a S => ?_
  refine m_l rfl rfl (fun w H => ZAP (wn rfl) rfl rfl rfl underlying30 Finf57 S H (idx := [0]) rfl rfl rfl (z := [.int .i64 0, .int .i64 0, .int .i64 0, .int .i64 0, .int .i64 0, .int .i64 0, .int .i64 0, .int .i64 0, .int .i64 0]) (by kernel_rfl) (cs := [.int .i64 old[p].kind, .int .i64 old[p].level, .int .i64 old[p].block, .int .i64 old[p].row, .int .i64 old[p].seat, .int .i64 old[p].x, .int .i64 old[p].y, .int .i64 old[p].view, .int .i64 old[p].with_]) (by kernel_rfl) fun b56 a w S H => m_next H (List.sublist_cons_self _ _) ?_)
  refine m_l rfl rfl (fun w H => ZAr ([old[p]]) (wn rfl) rfl rfl rfl underlying30 Finf57 rfl rfl S H rfl rfl rfl rfl (by simp) (by simp [Pl.enc]) (by simp [Pl.enc, Value.oneCell']) (by have := hI.len; simp only [List.length_cons, List.length_nil]; omega) (by have := hI.len; simp only [List.length_cons, List.length_nil]; omega) fun u57 a w hn57 S H => m_tail H rfl ?_)
  refine m_q rfl S (fun w H => ZAC rfl Ffo98_1 S rfl) fun a S => m_l rfl rfl (fun w H => ZAS (wn rfl) rfl rfl S H rfl rfl (H.sl1 _) Fsiz30 rfl fun a w S H => m_tail H rfl ?_)
  dsimp only [List.set, Nat.zero_add, Nat.reduceAdd] at H
  refine ZBY (fun w H => ZAK ?_)
  refine ZAA ?_
  have S := S.sel [10, 19, 18, 17, 9, 8, 7, 6, 0, 1] rfl
  refine ZAB <| q_ad S rfl (by omega) fun a S => ?_
  refine q_mv S rfl fun a S => gnt ?_
  first
  | exact ⟨(k + 1, e), S.sel [10, 19] rfl, S.sel [18, 17, 9, 8, 7, 6, 0, 1] rfl, ⟨by dsimp only; omega, s, xs, va, vb, c, prep_skip hI hkl hnm, by dsimp only; rw [hms, if_neg hnm, List.append_nil]; exact H.take _⟩, by dsimp only; omega⟩
  | exact ⟨(k + 1, 1), S.sel [10, 19] rfl, S.sel [18, 17, 9, 8, 7, 6, 0, 1] rfl, ⟨by dsimp only; omega, s, xs, u37, vb, c, prep_bad hI hkl hmv hbd, by dsimp only; rw [hms]; exact H.take _⟩, by dsimp only; omega⟩
  | (dsimp only [List.set, Nat.zero_add, Nat.reduceAdd] at H
     exact ⟨(k + 1, e), S.sel [10, 19] rfl, S.sel [18, 17, 9, 8, 7, 6, 0, 1] rfl, ⟨by dsimp only; omega, (p : Int) :: s, xs ++ [old[p]], u37, u57, (if (memS s (p : Int)).isSome = true then c else c + 1), prep_good hI hkl hmv hpp hpl hgd.2, by dsimp only; rw [hms]; exact H.take [OSl 55 u37 11 Ow.enc (ZAH (ts.take k) ++ [ts[k]]), OSl 57 u57 9 Pl.enc (xs ++ [old[p]]), MapA b16 (fun n : Int => .int .i64 n) (fun b : Bool => .bool b) (upd (memS s) (p : Int) true) (if (memS s (p : Int)).isSome = true then c else c + 1), Cel b8 98 [u37, u57, v2, .slice none 0 0], Cel b6 98 [.slice none 0 0, .slice none 0 0, .slice none 0 0, .slice none 0 0], Sl v3 11 Ow.enc ts, Sl v2 9 Pl.enc next, Sl v1 9 Pl.enc old]⟩, by dsimp only; omega⟩)
 have h1p := h1; try simp only [DL] at h1p
 obtain rfl : k = ts.length := by omega
 have hml := moved_le ts ts.length
 rw [List.take_length] at H hml
 have hIt := hI.ok
 have hIb := hI.bad
 rw [List.take_length] at hIt hIb
 refine ZAf <| ZAO (ZAO (x_eq ?_))
 refine ZAA ?_
 have S := S.sel [10, 8, 7, 6, 0, 1] rfl
 refine ZAG <| gsr <| q_mv S rfl fun a S => gq rfl S (ZAT rfl underlying30 S H rfl) fun a S => q_bn S rfl fun a S => q_mv S rfl fun a S => ?_
 refine' ZBH 3 63 rfl S H rfl rfl rfl rfl rfl rfl rfl (fun _ S => (wn rfl)) (fun h6 kk => ?yh6) (fun a w S H => ?_)
 case yh6 =>
  exact gz 63 h6 S rfl rfl rfl rfl rfl rfl (ZAL rfl S rfl) fun a S => gz 63 h6 S rfl rfl rfl rfl rfl rfl (ZAT rfl underlying30 S H rfl) fun a S => gz 63 h6 S rfl rfl rfl rfl rfl rfl (ZAn rfl S rfl rfl rfl) fun a S => gq rfl S (ZAz rfl h6 S rfl rfl) fun a S => kk _ _ (S.join 4 67 rfl rfl) H
 refine q_mv S rfl fun a S => ?_
 refine' ZBH 4 68 rfl S H rfl rfl rfl rfl rfl rfl rfl (fun _ S => (wn rfl)) (fun h7 kk => ?yh7) (fun a w S H => ?_)
 case yh7 =>
  exact gz 68 h7 S rfl rfl rfl rfl rfl rfl (ZAC rfl Ffo98_0 S rfl) fun a S => gz 68 h7 S rfl rfl rfl rfl rfl rfl (ZAJ rfl Fsca34 S H rfl rfl) fun a S => gz 68 h7 S rfl rfl rfl rfl rfl rfl (ZAT rfl underlying34 S H rfl) fun a S => gz 68 h7 S rfl rfl rfl rfl rfl rfl (ZAn rfl S rfl rfl rfl) fun a S => gq rfl S (ZAz rfl h7 S rfl rfl) fun a S => kk _ _ (S.join 5 73 rfl rfl) H
 refine gnt ?_
 have S := S.sel [73, 10, 8, 7, 6, 1] rfl
 refine c_if S rfl (fun h8 => ?_) (fun h8 => ?_)
 ·have h8p := h8; try simp only [DL] at h8p
  have hbig : old.length > 4000 ∨ next.length > 4000 ∨ (ZAH ts).length > 4000 := by have := h8p; omega
  refine gsr ?_
  refine gq rfl S (ZAx rfl Fbld98 S rfl (idx := []) rfl (cs := [_, _, _, _]) rfl) fun a S => ?_
  refine ZAF (ZAQ (wn rfl) rfl rfl S H rfl rfl (by simp only [List.all_cons, List.all_nil, H.sl1 va, H.sl1 vb, H.sl1 v2, Bool.true_and, Bool.and_true]; first | rfl | exact H.sl1 u80) Fsiz98 rfl (cs' := [_, _, _, _]) rfl fun a w S H => ?_)
  refine q_as S rfl fun a S => gnt <| ZAe <| ZAX (ret2ct rfl S H rfl rfl (by exact Fagg98) ?_)
  exact ⟨_, _, _, _, by rw [errW_3 hbig], rfl, H.toExt, fun h => by rw [errW_3 hbig] at h; cases h⟩
 have h8p := h8; try simp only [DL] at h8p
 have hsm : ¬ (old.length > 4000 ∨ next.length > 4000 ∨ (ZAH ts).length > 4000) := by have := h8p; omega
 refine ZAM <| ZAA <| ZAG <| gsr <| q_mv S rfl fun a S => q_bn S rfl fun a S => gnt <| c_if S rfl (fun h9 => ?_) (fun h9 => ?_)
 ·have h9p := h9; try simp only [DL] at h9p
  have he0 : e = 0 := h9p
  obtain ⟨hk1, hk2, _⟩ := hIt he0
  have hxl : xs.length ≤ 4000 := by rw [hk2, old_len]; omega
  refine ZAB <| q_fa S Ffo98_1 rfl fun a S => q_ld S H Fsca30 rfl rfl fun a S => q_mv S rfl fun a S => ZAF (ZAV (wn rfl) rfl rfl S (ZAi rfl call12 S rfl) (edges_spec vb v2 xs next _ (H.sl vb) (H.sl v2) (by omega) (by omega)) fun u80 w hc a S => ?_)
  obtain ⟨ps, hps, H1⟩ := hc
  have H := H.call2 H1 rfl rfl
  refine q_fa S Ffo98_3 rfl fun a S => q_st S H rfl (H.sl1 _) Fsiz62 rfl fun a w S H => ?_
  dsimp only [List.set, Nat.zero_add, Nat.reduceAdd] at H
  refine gnt ?_
  have S := S.sel [10, 8, 7, 6] rfl
  refine gsr <| gq rfl S (ZAb rfl S H rfl (by exact Fagg98)) fun a S => ?_
  refine q_mv S rfl fun a S => ZAF (ZAQ (wn rfl) rfl rfl S H rfl rfl (by simp only [List.all_cons, List.all_nil, H.sl1 va, H.sl1 vb, H.sl1 v2, Bool.true_and, Bool.and_true]; first | rfl | exact H.sl1 u80) Fsiz98 rfl (cs' := [_, _, _, _]) rfl fun a w S H => ?_)
  refine q_as S rfl fun a S => gnt ?_
  have S := S.sel [7, 6] rfl
  refine ZAe <| ret2ct rfl S H rfl rfl (by exact Fagg98) ?_
  subst hk2
  exact ⟨va, vb, v2, u80, by rw [errW_0 hsm hk1, he0], (by simp only [List.all_cons, List.all_nil, H.sl1 va, H.sl1 vb, H.sl1 v2, H.sl1 u80, Bool.true_and]), H.toExt, fun _ => ⟨rfl, ps, hps, H.take _⟩⟩
 have h9p := h9; try simp only [DL] at h9p
 have he1 : e = 1 := by rcases hI.e01 with h | h; exact absurd h h9p; exact h
 refine ZAM <| ZAA ?_
 have S := S.sel [10, 8, 7, 6] rfl
 refine gsr <| gq rfl S (ZAb rfl S H rfl (by exact Fagg98)) fun a S => ?_
 refine q_mv S rfl fun a S => ZAF (ZAQ (wn rfl) rfl rfl S H rfl rfl (by simp only [List.all_cons, List.all_nil, H.sl1 va, H.sl1 vb, H.sl1 v2, Bool.true_and, Bool.and_true]; first | rfl | exact H.sl1 u80) Fsiz98 rfl (cs' := [_, _, _, _]) rfl fun a w S H => ?_)
 refine q_as S rfl fun a S => gnt ?_
 have S := S.sel [7, 6] rfl
 refine ZAe <| ret2ct rfl S H rfl rfl (by exact Fagg98) ?_
 exact ⟨va, vb, v2, _, by rw [errW_1 hsm (hIb he1), he1], (by simp only [List.all_cons, List.all_nil, H.sl1 va, H.sl1 vb, H.sl1 v2, Bool.true_and, Bool.and_true]; rfl), H.toExt, fun h => by rw [errW_1 hsm (hIb he1)] at h; cases h⟩
end
end Go.Proofs.YtjdlllacomgaoaaGreatDoor
