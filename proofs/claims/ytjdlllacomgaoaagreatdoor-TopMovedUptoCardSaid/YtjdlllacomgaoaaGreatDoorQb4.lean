/- Parts of the proof, joined: the program logic, the plain theory, the walks, as they are named inside. No condition. -/
import Derived.Test.YtjdlllacomgaoaaGreatDoorChecked
import Derived.Test.YtjdlllacomgaoaaGreatDoorQb2
import Derived.Test.YtjdlllacomgaoaaGreatDoorQb3
set_option linter.unusedVariables false
set_option linter.unusedSimpArgs false
namespace Go.Proofs.YtjdlllacomgaoaaGreatDoor
section
open Go Go.Gw _root_.Go.Proofs.Tryz
theorem end_mul {r : RowV} (h : RangeR r) (h2 : r.step ≤ 9223372036854775807) : 0 ≤ (r.to_ - r.from_ + 1) * r.step ∧ (r.to_ - r.from_ + 1) * r.step ≤ 9223372036854775807 := by
  have h1 := h.f
  have h3 := h.n
  by_cases e : r.to_ = r.from_
  · rw [e, show r.from_ - r.from_ + 1 = 1 by omega, Int.one_mul]; omega
  have hs := h.s (by omega)
  have h4 : (r.to_ - r.from_ + 1) * r.step ≤ 60 * 10000 := Int.mul_le_mul (by omega) hs.1 (by omega) (by decide)
  have h5 : 0 ≤ (r.to_ - r.from_ + 1) * r.step := Int.mul_nonneg (by omega) (by omega)
  omega
def insA (A : AreaV) (r : RowV) (q : Nat) : Bool := ((ZAt r).take q).any fun p => ZBg A.box p.2 r.y
theorem insA_s {A : AreaV} {r : RowV} {q : Nat} {s x : Int} (h : (ZAt r)[q]? = some (s, x)) : (insA A r q || ZBg A.box x r.y) = insA A r (q + 1) := by
  obtain ⟨hq, he⟩ := List.getElem?_eq_some_iff.1 h
  unfold insA
  rw [List.take_succ_eq_append_getElem hq, he, List.any_append]; simp
theorem insA_all (A : AreaV) (r : RowV) : insA A r (ZAt r).length = withinB A r := by unfold insA withinB; rw [List.take_length]
theorem lv_row {h : HallV} {n : Nat} {L : LevV} (hv : Lv1 h n L) {B : BlockV} {r : RowV} (hB : B ∈ L.blocks) (hr : r ∈ B.rows) : RangeR r := by
  obtain ⟨q, hq, rfl⟩ := List.getElem_of_mem hB
  exact (hv.blocks q hq).rows r hr
structure TkZ where
  ov : Value
  oth : List Int
  ks : List PtV
  val : PtV → Value
  c : Nat
  T : PtV → List Int
set_option maxHeartbeats 16000000 in
theorem several_spec {M : Nat → Prop} {u0 : World} {l : List Atom} (b : Nat) (h : HallV) (z : CkZ) (L : LevV) (n : Nat) (w0 : World) (hLm : L ∈ h.levels) (hv1 : Lv1 h n L) (hints : ∀ B ∈ L.blocks, ∀ r ∈ B.rows, r.step ≤ 9223372036854775807) (hl : z.2.length ≤ 100000000000) (h0 : HSat M u0 (ChkA b h z :: ZAU h :: l) w0) :
    Ret Tryz.prog 25 #[.pointer (some ⟨b, 0, none⟩), .agg (LevV.enc L).toArray] w0 (fun _ w => ∃ z2 : CkZ, z2.2.length ≤ z.2.length + 1000000000 ∧ (SevGd L → z.2.length = 0 → z2.2.length = 0) ∧ HSat M u0 (ChkA b h z2 :: ZAU h :: l) w) := by
 refine ZAE (nt := 156) Tryz.func25 rfl rfl rfl (fl := [(0, .pointer (some ⟨b, 0, none⟩)), (1, .agg (LevV.enc L).toArray)]) rfl (fun a S => ?_)
 have H := h0
 have hOK := H.ok (ZAU h) (by simp)
 have hLa := hall_lev hOK hLm
 have hlim := hv1.ok.lim
 have hrw60 : ∀ B ∈ L.blocks, B.rows.length ≤ 60 := fun B hB => by obtain ⟨q, hq, rfl⟩ := List.getElem_of_mem hB; exact (hv1.blocks q hq).ok.lim
 have H := ZBP (ls := ZBI h) H (Sl L.bv 3 BlockV.enc L.blocks) (ZAs hLm (by simp [levA])) rfl
 have H := ZBP (ls := ZBI h) H (Sl L.av 7 AreaV.enc L.areas) (ZAs hLm (by simp [levA])) rfl
 have H := ZBP (ls := ZBI h) H (Sl L.iv 4 BoxV.enc L.aisles) (ZAs hLm (by simp [levA])) rfl
 have H := ZBP (ls := ZBI h) H (Sl L.pv 4 BoxV.enc L.pillars) (ZAs hLm (by simp [levA])) rfl
 have H := ZBP (ls := ZBI h) H (CapA L.av) (ZAs hLm (by simp [levA])) rfl
 have hl0 := (lev_blocks hLa).len
 have hl1 := (lev_areas hLa).len
 have hl2 := (lev_aisles hLa).len
 have hl3 := (lev_pillars hLa).len
 have hl4 := (lev_doors hLa).len
 obtain ⟨zb, hzb⟩ : ∃ q, q = z.2.length := ⟨_, rfl⟩
 refine gsr <| ZAF (ZAu (wn rfl) rfl rfl rfl S H rfl fun b3 a w S H => gnt ?_)
 refine gsr <| gq rfl S (ZAb rfl S H rfl (by exact Fagg79)) fun a S => ?_
 refine ZAF (ZAV (wn rfl) rfl rfl S (ZAi rfl call59 S rfl) (reached_spec L _ (hall_lev (H.ok (ZAU h) (by simp)) hLm) (by omega)) fun vo w hc a S => ?_)
 obtain ⟨rs, hrs1, hrs2, H1⟩ := hc
 have hrs : DoorOK L rs := ⟨hrs1, hrs2⟩
 have H := H.call1 H1 rfl
 refine q_al S H rfl ZA2 fun b4 a w S H => q_st S H rfl (H.sl1 _) ZAg rfl fun a w S H => ?_
 dsimp only [List.set, Nat.zero_add, Nat.reduceAdd] at H
 refine gnt <| gsr <| gq rfl S (ZAd rfl S rfl rfl) fun a S => q_as S rfl fun a S => gnt ?_
 have S := S.sel [5, 3, 0] rfl
 refine gsr <| q_al S H rfl Fzer71 fun b6 a w S H => gnt <| gsr <| ZAF (ZBK (kpt) (fun v : Value => v) (wn rfl) rfl rfl rfl S H fun b28 a w S H => q_al S H rfl Fzer139 fun b7 a w S H => q_st S H rfl rfl Fsiz139 rfl fun a w S H => ?_)
 dsimp only [List.set, Nat.zero_add, Nat.reduceAdd] at H
 refine gnt <| ZAG <| gsr <| q_fa S Ffo79_2 rfl fun a S => q_ld S H Fsca74 rfl rfl fun a S => gq rfl S (ZAT rfl underlying74 S H rfl) fun a S => q_mv S rfl fun a S => gnt ?_
 refine ZAD ?_
 have H := (H.nilO 70 8 RowV.enc).famNil (fun p : PtV => OSl 3 ((fun _ => Value.slice none 0 0) p) 1 encI ((fun _ => ([] : List Int)) p))
 have SU := S.sel [31, 30, 7, 6, 5, 3, 0] rfl
 refine ZBL (X := Nat × SvS) SU (fun x => [(32, .int .i64 (x.1 : Int))]) (fun x w => x.1 ≤ L.blocks.length ∧ SvI L zb (rowsN L x.1) x.2 ∧ HSat M u0 (ChkA b h x.2.z :: Cel b6 71 [x.2.rv] :: OSl 70 x.2.rv 8 RowV.enc x.2.rows :: Cel b7 139 [.map (some b28)] :: MapA b28 kpt (fun v : Value => v) (mvP (x.2.ks) (x.2.val)) x.2.c :: FamA (x.2.ks) (fun p => OSl 3 ((x.2.val) p) 1 encI ((x.2.T) p)) :: Cel b3 79 (LevV.enc L) :: Sl L.pv 4 BoxV.enc L.pillars :: Sl L.iv 4 BoxV.enc L.aisles :: ZAU h :: Sl L.bv 3 BlockV.enc L.blocks :: Sl L.av 7 AreaV.enc L.areas :: Cel b4 136 [vo] :: OSl 4 vo 1 encQ rs :: CapA L.av :: l) w) (fun x => L.blocks.length - x.1) (0, ⟨z, .slice none 0 0, [], [], fun _ => .slice none 0 0, 0, fun _ => []⟩) (S.sel [32] rfl) (⟨Nat.zero_le _, ⟨⟨by simp, fun _ _ => rfl, fun p i hi => by simp at hi, fun p => ⟨Nat.zero_le _, fun _ => Nat.zero_le _⟩⟩, fun r hr => by simp at hr, rfl, by dsimp only; omega, fun _ e => by dsimp only; omega⟩, by have h9 := H.takeT [ChkA b h z, Cel b6 71 [.slice none 0 0], OSl 70 (.slice none 0 0) 8 RowV.enc [], Cel b7 139 [.map (some b28)], MapA b28 kpt (fun v : Value => v) (fun _ => none) 0, FamA [] (fun p : PtV => OSl 3 ((fun _ => Value.slice none 0 0) p) 1 encI ((fun _ => ([] : List Int)) p)), Cel b3 79 (LevV.enc L), Sl L.pv 4 BoxV.enc L.pillars, Sl L.iv 4 BoxV.enc L.aisles, ZAU h, Sl L.bv 3 BlockV.enc L.blocks, Sl L.av 7 AreaV.enc L.areas, Cel b4 136 [vo], OSl 4 vo 1 encQ rs, CapA L.av] l; exact h9⟩) (fun x a w S hW => ?_)
 simp only [List.cons_append, List.nil_append] at S
 obtain ⟨i, s⟩ := x
 obtain ⟨hkk, hI, H⟩ := hW
 dsimp only at S H hkk hI
 refine gsr <| q_bn S rfl fun a S => gnt <| ZAG <| c_if S rfl (fun h1 => ?_) (fun h1 => ?_)
 ·have h1p := h1; try simp only [DL] at h1p
  have hil : i < L.blocks.length := by omega
  obtain ⟨B, hB2⟩ : ∃ B, B = L.blocks[i] := ⟨_, rfl⟩
  have hLB : L.blocks[i] = B := hB2.symm
  have hBm : B ∈ L.blocks := hB2 ▸ List.getElem_mem hil
  have hBa := lev_block hLa hBm
  have hBall := block_all hBa
  have hlB := (block_rows hBa).len
  have hv2 := hv1.blocks i hil
  rw [hLB] at hv2
  have hB60 := hrw60 B hBm
  have H := ZBP (ls := ZBI h) H (Sl B.rv 8 RowV.enc B.rows) (ZAs hLm (ZBl hBm (List.mem_cons_self ..))) rfl
  refine ZAM <| ZAA <| ZAG <| ZAD <| gsr <| gq rfl S (ZAI rfl underlying74 Fsiz73 S H rfl rfl (by omega)) fun a S => ?_
  refine gq rfl S (ZAk _ rfl S H rfl (by exact Fagg73) (by omega)) fun a S => ?_
  rw [hLB] at S
  refine q_al S H rfl Fzer73 fun b9 a w S H => ZAF (ZAQ (wn rfl) rfl rfl S H rfl rfl hBall Fsiz73 rfl (cs' := [_, _, _]) rfl fun a w S H => gnt ?_)
  refine gsr <| q_fa S Ffo73_1 rfl fun a S => q_ld S H Fsca71 rfl rfl fun a S => gq rfl S (ZAT rfl underlying71 S H rfl) fun a S => q_mv S rfl fun a S => gnt ?_
  have S := S.sel [39, 38, 37, 32, 31, 30, 7, 6, 5, 3, 0] rfl
  refine ZAD ?_
  have SU := S.sel [38, 37, 32, 31, 30, 7, 6, 5, 3, 0] rfl
  refine ZBL (X := Nat × SvS) SU (fun x => [(39, .int .i64 (x.1 : Int))]) (fun x w => x.1 ≤ B.rows.length ∧ SvI L zb (rowsN L i + x.1) x.2 ∧ HSat M u0 (ChkA b h x.2.z :: Cel b6 71 [x.2.rv] :: OSl 70 x.2.rv 8 RowV.enc x.2.rows :: Cel b7 139 [.map (some b28)] :: MapA b28 kpt (fun v : Value => v) (mvP (x.2.ks) (x.2.val)) x.2.c :: FamA (x.2.ks) (fun p => OSl 3 ((x.2.val) p) 1 encI ((x.2.T) p)) :: Cel b3 79 (LevV.enc L) :: Sl L.pv 4 BoxV.enc L.pillars :: Sl L.iv 4 BoxV.enc L.aisles :: ZAU h :: Sl L.bv 3 BlockV.enc L.blocks :: Sl L.av 7 AreaV.enc L.areas :: Cel b4 136 [vo] :: OSl 4 vo 1 encQ rs :: CapA L.av :: Cel b9 73 [.string B.name, B.rv, .int .i64 B.at_] :: Sl B.rv 8 RowV.enc B.rows :: l) w) (fun x => B.rows.length - x.1) (0, s) (S.sel [39] rfl) (⟨Nat.zero_le _, hI, H.takeT [ChkA b h s.z, Cel b6 71 [s.rv], OSl 70 s.rv 8 RowV.enc s.rows, Cel b7 139 [.map (some b28)], MapA b28 kpt (fun v : Value => v) (mvP (s.ks) (s.val)) s.c, FamA (s.ks) (fun p => OSl 3 ((s.val) p) 1 encI ((s.T) p)), Cel b3 79 (LevV.enc L), Sl L.pv 4 BoxV.enc L.pillars, Sl L.iv 4 BoxV.enc L.aisles, ZAU h, Sl L.bv 3 BlockV.enc L.blocks, Sl L.av 7 AreaV.enc L.areas, Cel b4 136 [vo], OSl 4 vo 1 encQ rs, CapA L.av, Cel b9 73 [.string B.name, B.rv, .int .i64 B.at_], Sl B.rv 8 RowV.enc B.rows] l⟩) (fun x a w S hW => ?_)
  simp only [List.cons_append, List.nil_append] at S
  clear hI
  obtain ⟨m, s⟩ := x
  obtain ⟨hmm, hI, H⟩ := hW
  dsimp only at S H hmm hI
  obtain ⟨z, rv, rows, ks, val, c, T⟩ := s
  dsimp only at H
  refine gsr <| q_bn S rfl fun a S => gnt <| ZAG <| c_if S rfl (fun h2 => ?_) (fun h2 => ?_)
  ·have h2p := h2; try simp only [DL] at h2p
   have hkl : m < B.rows.length := by omega
   obtain ⟨r, hr2⟩ : ∃ r, r = B.rows[m] := ⟨_, rfl⟩
   have hBr : B.rows[m] = r := hr2.symm
   have hrm : r ∈ B.rows := hr2 ▸ List.getElem_mem hkl
   have hRall := row_all (row_one hBa hrm)
   have hr := hv2.rows r hrm
   have hrf := hr.f
   have hrp := hr.p
   have hrn := hr.n
   have hmv := row_marks hBa hrm
   obtain ⟨pmv, cmv, hpmv⟩ := hmv.shape
   have hri := hints B hBm r hrm
   have hem := end_mul hr hri
   have hrle := rowsN_le hrw60 i (by omega)
   have hIl := hI.len
   have hIc := hI.cnt
   have hrl : rows.length ≤ 2400 := by dsimp only at hIl; omega
   have H := ZBP (ls := ZBI h) H (Sl r.mv 3 MarkV.enc r.marks) (ZAs hLm (ZBl hBm (mem_row hrm))) rfl
   have H := ZBP (ls := ZBI h) H (Sl r.mv 3 MarkV.enc r.marks) (ZAs hLm (ZBl hBm (mem_row hrm))) rfl
   have H := H.nilO 3 1 encI
   refine ZAM <| ZAA <| ZAG <| ZAD <| gsr <| gq rfl S (ZAI rfl underlying71 Fsiz70 S H rfl rfl (by omega)) fun a S => ?_
   refine gq rfl S (ZAk _ rfl S H rfl (by exact Fagg70) (by omega)) fun a S => ?_
   rw [hBr] at S
   refine q_al S H rfl Fzer70 fun b11 a w S H => ZAF (ZAQ (wn rfl) rfl rfl S H rfl rfl hRall Fsiz70 rfl (cs' := [_, _, _, _, _, _, _, _]) rfl fun a w S H => gnt ?_)
   refine gsr <| q_al S H rfl Fzer37 fun b12 a w S H => gnt <| gsr <| q_al S H rfl Fzer4 fun b13 a w S H => q_st S H rfl rfl Fsiz4 rfl fun a w S H => ?_
   dsimp only [List.set, Nat.zero_add, Nat.reduceAdd] at H
   refine gnt <| gsr <| gq rfl S (ZAb rfl S H rfl (by exact Fagg70)) fun a S => ?_
   refine gq rfl S (ZAd rfl S rfl rfl) fun a S => ZAF (ZAV (wn rfl) rfl rfl S (ZAi rfl call21 S rfl) (seats_iter (l := ChkA b h z :: ZAU h :: Sl L.bv 3 BlockV.enc L.blocks :: Sl L.av 7 AreaV.enc L.areas :: Cel b4 136 [vo] :: OSl 4 vo 1 encQ rs :: CapA L.av :: Cel b9 73 [.string B.name, B.rv, .int .i64 B.at_] :: Sl B.rv 8 RowV.enc B.rows :: l) (fun (q : Nat) (z : TkZ) => [PureA (TkInv rows.length (visR r (q)) z.ks z.T ∧ OthInv rows.length (q) z.oth), Cel b11 70 [.string r.name, .int .i64 r.x, .int .i64 r.y, .int .i64 r.from_, .int .i64 r.to_, .int .i64 r.step, r.mv, .int .i64 r.at_], Cel b12 37 [z.ov], OSl 3 z.ov 1 encI (z.oth), MapA b28 kpt (fun v : Value => v) (mvP (z.ks) (z.val)) z.c, FamA (z.ks) (fun p => OSl 3 ((z.val) p) 1 encI ((z.T) p)), Cel b7 139 [.map (some b28)], Cel b6 71 [rv], OSl 70 rv 8 RowV.enc rows, Cel b13 4 [.bool (hitsB L r (q))], Cel b3 79 (LevV.enc L), Sl L.pv 4 BoxV.enc L.pillars, Sl L.iv 4 BoxV.enc L.aisles]) r hr 61 [] [.pointer (some ⟨b11, 0, none⟩), .pointer (some ⟨b12, 0, none⟩), .pointer (some ⟨b7, 0, none⟩), .pointer (some ⟨b6, 0, none⟩), .pointer (some ⟨b13, 0, none⟩), .pointer (some ⟨b3, 0, none⟩)] call61 _ (by
     intro q s x hq z t w H
     have H1 : HSat M u0 (PureA (TkInv rows.length (visR r (q)) z.ks z.T ∧ OthInv rows.length (q) z.oth) :: Cel b11 70 [.string r.name, .int .i64 r.x, .int .i64 r.y, .int .i64 r.from_, .int .i64 r.to_, .int .i64 r.step, r.mv, .int .i64 r.at_] :: Cel b12 37 [z.ov] :: OSl 3 z.ov 1 encI (z.oth) :: MapA b28 kpt (fun v : Value => v) (mvP (z.ks) (z.val)) z.c :: FamA (z.ks) (fun p => OSl 3 ((z.val) p) 1 encI ((z.T) p)) :: Cel b7 139 [.map (some b28)] :: Cel b6 71 [rv] :: OSl 70 rv 8 RowV.enc rows :: Cel b13 4 [.bool (hitsB L r (q))] :: Cel b3 79 (LevV.enc L) :: Sl L.pv 4 BoxV.enc L.pillars :: Sl L.iv 4 BoxV.enc L.aisles :: t) w := H
     obtain ⟨hk, ho⟩ := H1.fact
     have H2 := H1.tail
     have hno := visR_no hr.f.2.2.2 hq
     have hql := (List.getElem?_eq_some_iff.1 hq).1
     have hsl := seatsR_len hr
     have hm1 : q * rows.length ≤ 60 * 2400 := Nat.mul_le_mul (by omega) hrl
     have ho2 := ho.len
     have ht2 := (hk.len ⟨x, r.y⟩).1
     refine Ret.mono (taken_spec L r rows rv z.ov z.oth z.ks z.val z.c z.T _ (.int .i64 s) x b3 b6 b7 b11 b12 b13 b28 w hk.nd hk.out (by omega) (by omega) H2) ?_
     rintro u w' ⟨ov2, u2, c2, H3⟩
     rw [hitsB_s hq] at H3
     exact ⟨⟨ov2, _, _, _, c2, _⟩, HSat.laid H3 ⟨hk.step hno (visR_s hq), ho.step hk hno⟩⟩) ⟨.slice none 0 0, [], ks, val, c, T⟩ (by
     have h9 := HSat.laid (H.takeT [Cel b11 70 [.string r.name, .int .i64 r.x, .int .i64 r.y, .int .i64 r.from_, .int .i64 r.to_, .int .i64 r.step, r.mv, .int .i64 r.at_], Cel b12 37 [.slice none 0 0], OSl 3 (.slice none 0 0) 1 encI ([] : List Int), MapA b28 kpt (fun v : Value => v) (mvP (ks) (val)) c, FamA (ks) (fun p => OSl 3 ((val) p) 1 encI ((T) p)), Cel b7 139 [.map (some b28)], Cel b6 71 [rv], OSl 70 rv 8 RowV.enc rows, Cel b13 4 [.bool false], Cel b3 79 (LevV.enc L), Sl L.pv 4 BoxV.enc L.pillars, Sl L.iv 4 BoxV.enc L.aisles, Sl r.mv 3 MarkV.enc r.marks, ChkA b h z, ZAU h, Sl L.bv 3 BlockV.enc L.blocks, Sl L.av 7 AreaV.enc L.areas, Cel b4 136 [vo], OSl 4 vo 1 encQ rs, CapA L.av, Cel b9 73 [.string B.name, B.rv, .int .i64 B.at_], Sl B.rv 8 RowV.enc B.rows] l) (p := TkInv rows.length (visR r 0) ks T ∧ OthInv rows.length 0 []) ⟨by rw [visR_0]; exact hI.tk, ⟨fun i hi => by simp at hi, Nat.zero_le _⟩⟩
     exact h9)) fun v w hc a S => ?_)
   obtain ⟨⟨ov, oth, ks2, val2, c2, T2⟩, H⟩ := hc
   have H : HSat M u0 (PureA (TkInv rows.length (visR r (ZAt r).length) ks2 T2 ∧ OthInv rows.length (ZAt r).length oth) :: Cel b11 70 [.string r.name, .int .i64 r.x, .int .i64 r.y, .int .i64 r.from_, .int .i64 r.to_, .int .i64 r.step, r.mv, .int .i64 r.at_] :: Cel b12 37 [ov] :: OSl 3 ov 1 encI (oth) :: MapA b28 kpt (fun v : Value => v) (mvP (ks2) (val2)) c2 :: FamA (ks2) (fun p => OSl 3 ((val2) p) 1 encI ((T2) p)) :: Cel b7 139 [.map (some b28)] :: Cel b6 71 [rv] :: OSl 70 rv 8 RowV.enc rows :: Cel b13 4 [.bool (hitsB L r (ZAt r).length)] :: Cel b3 79 (LevV.enc L) :: Sl L.pv 4 BoxV.enc L.pillars :: Sl L.iv 4 BoxV.enc L.aisles :: Sl r.mv 3 MarkV.enc r.marks :: ChkA b h z :: ZAU h :: Sl L.bv 3 BlockV.enc L.blocks :: Sl L.av 7 AreaV.enc L.areas :: Cel b4 136 [vo] :: OSl 4 vo 1 encQ rs :: CapA L.av :: Cel b9 73 [.string B.name, B.rv, .int .i64 B.at_] :: Sl B.rv 8 RowV.enc B.rows :: l) _ := H
   obtain ⟨htk, hoi⟩ := H.fact
   have H := H.tail
   have hsl := seatsR_len hr
   have hm9 : (ZAt r).length * rows.length ≤ 60 * 2400 := Nat.mul_le_mul hsl hrl
   have hol := hoi.len
   refine gnt ?_
   have S := S.sel [13, 12, 11, 39, 38, 37, 32, 31, 30, 7, 6, 5, 3, 0] rfl
   refine gsr <| q_ld S H ZBX rfl rfl fun a S => q_cl S rfl call64 (sortI_spec ov oth _ (by omega) (H.front (OSl 3 ov 1 encI oth))) fun v w hc a S => ?_
   obtain ⟨ot2, hpm, H⟩ := hc
   have hpl := hpm.length_eq
   refine gnt <| ZAG <| gsr <| q_ld S H ZBX rfl rfl fun a S => ZAF (ZAV (wn rfl) rfl rfl S (ZAi rfl call65 S rfl) (compactI_spec ov ot2 _ (H.front (OSl 3 ov 1 encI ot2))) fun cv w hc a S => ?_)
   obtain ⟨oc, hom, hocl, H⟩ := hc
   have hocr : ∀ y ∈ oc, 0 ≤ y ∧ y < (rows.length : Int) := fun y hy => hoi.rng y (hpm.mem_iff.1 (hom y hy))
   have hnil : SevGd L → oc.length = 0 := fun g => by
     have h1 := g.rows1
     have h2 := sum_le (fun q : BlockV => q.rows.length) L.blocks (i + 1)
     have h3 := rowsN_s (L := L) hil
     rw [hLB] at h3
     unfold rowsN at h3
     have h4 : rowsN L i = ((L.blocks.take i).map fun q => q.rows.length).sum := rfl
     dsimp only at hIl
     match oc, hocr with
     | [], _ => rfl
     | y :: t, hh => have := hh y (by simp); omega
   refine gq rfl S (ZAT rfl underlying37 S H rfl) fun a S => q_mv S rfl fun a S => gnt ?_
   have S := S.sel [51, 50, 49, 13, 11, 39, 38, 37, 32, 31, 30, 7, 6, 5, 3, 0] rfl
   refine ZAD ?_
   have SU := S.sel [50, 49, 13, 11, 39, 38, 37, 32, 31, 30, 7, 6, 5, 3, 0] rfl
   refine ZBL (X := Nat × CkZ) SU (fun x => [(51, .int .i64 (x.1 : Int))]) (fun x w => x.1 ≤ oc.length ∧ x.2.2.length = z.2.length + x.1 ∧ HSat M u0 (ChkA b h x.2 :: OSl 3 cv 1 encI oc :: Cel b11 70 [.string r.name, .int .i64 r.x, .int .i64 r.y, .int .i64 r.from_, .int .i64 r.to_, .int .i64 r.step, r.mv, .int .i64 r.at_] :: Cel b12 37 [ov] :: Cel b13 4 [.bool (hitsB L r (ZAt r).length)] :: Cel b7 139 [.map (some b28)] :: MapA b28 kpt (fun v : Value => v) (mvP ks2 val2) c2 :: FamA (ks2) (fun p => OSl 3 ((val2) p) 1 encI ((T2) p)) :: Cel b6 71 [rv] :: OSl 70 rv 8 RowV.enc rows :: Cel b3 79 (LevV.enc L) :: Sl L.pv 4 BoxV.enc L.pillars :: Sl L.iv 4 BoxV.enc L.aisles :: Sl r.mv 3 MarkV.enc r.marks :: ZAU h :: Sl L.bv 3 BlockV.enc L.blocks :: Sl L.av 7 AreaV.enc L.areas :: Cel b4 136 [vo] :: OSl 4 vo 1 encQ rs :: CapA L.av :: Cel b9 73 [.string B.name, B.rv, .int .i64 B.at_] :: Sl B.rv 8 RowV.enc B.rows :: l) w) (fun x => oc.length - x.1) (0, z) (S.sel [51] rfl) (⟨Nat.zero_le _, rfl, H.takeT [ChkA b h z, OSl 3 cv 1 encI oc, Cel b11 70 [.string r.name, .int .i64 r.x, .int .i64 r.y, .int .i64 r.from_, .int .i64 r.to_, .int .i64 r.step, r.mv, .int .i64 r.at_], Cel b12 37 [ov], Cel b13 4 [.bool (hitsB L r (ZAt r).length)], Cel b7 139 [.map (some b28)], MapA b28 kpt (fun v : Value => v) (mvP ks2 val2) c2, FamA (ks2) (fun p => OSl 3 ((val2) p) 1 encI ((T2) p)), Cel b6 71 [rv], OSl 70 rv 8 RowV.enc rows, Cel b3 79 (LevV.enc L), Sl L.pv 4 BoxV.enc L.pillars, Sl L.iv 4 BoxV.enc L.aisles, Sl r.mv 3 MarkV.enc r.marks, ZAU h, Sl L.bv 3 BlockV.enc L.blocks, Sl L.av 7 AreaV.enc L.areas, Cel b4 136 [vo], OSl 4 vo 1 encQ rs, CapA L.av, Cel b9 73 [.string B.name, B.rv, .int .i64 B.at_], Sl B.rv 8 RowV.enc B.rows] l⟩) (fun x a w S hW => ?_)
   simp only [List.cons_append, List.nil_append] at S
   obtain ⟨q, z4⟩ := x
   obtain ⟨hqq, hz4, H⟩ := hW
   dsimp only at S H hqq hz4
   have hIc2 := hI.cnt
   dsimp only at hIc2
   refine gsr <| q_bn S rfl fun a S => gnt <| ZAG <| c_if S rfl (fun h3 => ?_) (fun h3 => ?_)
   ·have h3p := h3; try simp only [DL] at h3p
    have hql : q < oc.length := by omega
    have hyy := hocr _ (List.getElem_mem hql)
    obtain ⟨ix, hix⟩ : ∃ n : Nat, oc[q] = (n : Int) := ⟨oc[q].toNat, by omega⟩
    have hixl : ix < rows.length := by omega
    refine ZAM <| ZAA <| ZAG <| ZAD <| gsr <| gq rfl S (ZAI rfl underlying37 ZA5 S H rfl rfl (by omega)) fun a S => ?_
    refine gq rfl S (ZA6 _ rfl ZAN S H rfl (by omega) rfl) fun a S => ?_
    rw [hix] at S
    refine q_as S rfl fun a S => gnt <| ZAZ (loud := [8]) (tails := [8]) (free := []) [0, 1, 2, 3, 4, 5, 6, 7, 8] [] Fmo (by kernel_rfl) (by kernel_rfl) rfl H ?_
    refine m_q rfl S (fun w H => ZAL rfl S rfl) fun a S => m_q rfl S (fun w H => ZAC rfl Ffo70_7 S rfl) fun a S => m_q rfl S (fun w H => ZAJ rfl ZAN S H rfl rfl) fun a S => m_q rfl S (fun w H => ZAJ rfl Fsca71 S H rfl rfl) fun a S => m_q rfl S (fun w H => ZAL rfl S rfl) fun a S => m_q rfl S (fun w H => ZAI rfl underlying71 Fsiz70 S H rfl rfl (by omega)) fun a S => ?_
    refine m_q rfl S (fun w H => ZAq rfl Ffo70_7 S rfl) fun a S => ZA3 _ rfl rfl (wn rfl) rfl rfl S rfl ZAN rfl (by omega) rfl fun a S => ?_
    refine m_l rfl rfl (fun w H => ZAV (wn rfl) rfl rfl S (ZAi rfl call24 S rfl) (ZBd b h z4 (13) (r.at_) (rows[ix].at_) _ (H.front (ChkA b h z4)) (by omega)) fun v w hc a S => ?_)
    obtain ⟨z5, hz5, H⟩ := hc
    refine m_tail H rfl <| ZBY (fun w H => ZAK ?_)
    refine ZAA ?_
    have S := S.sel [51, 50, 49, 13, 11, 39, 38, 37, 32, 31, 30, 7, 6, 5, 3, 0] rfl
    refine ZAB <| q_ad S rfl (by omega) fun a S => ?_
    refine q_mv S rfl fun a S => ?_
    refine gnt ?_
    exact ⟨(q + 1, z5), S.sel [51] rfl, S.sel [50, 49, 13, 11, 39, 38, 37, 32, 31, 30, 7, 6, 5, 3, 0] rfl, ⟨by dsimp only; omega, by dsimp only; omega, H.takeT [ChkA b h z5, OSl 3 cv 1 encI oc, Cel b11 70 [.string r.name, .int .i64 r.x, .int .i64 r.y, .int .i64 r.from_, .int .i64 r.to_, .int .i64 r.step, r.mv, .int .i64 r.at_], Cel b12 37 [ov], Cel b13 4 [.bool (hitsB L r (ZAt r).length)], Cel b7 139 [.map (some b28)], MapA b28 kpt (fun v : Value => v) (mvP ks2 val2) c2, FamA (ks2) (fun p => OSl 3 ((val2) p) 1 encI ((T2) p)), Cel b6 71 [rv], OSl 70 rv 8 RowV.enc rows, Cel b3 79 (LevV.enc L), Sl L.pv 4 BoxV.enc L.pillars, Sl L.iv 4 BoxV.enc L.aisles, Sl r.mv 3 MarkV.enc r.marks, ZAU h, Sl L.bv 3 BlockV.enc L.blocks, Sl L.av 7 AreaV.enc L.areas, Cel b4 136 [vo], OSl 4 vo 1 encQ rs, CapA L.av, Cel b9 73 [.string B.name, B.rv, .int .i64 B.at_], Sl B.rv 8 RowV.enc B.rows] l⟩, by dsimp only; omega⟩
   have h3p := h3; try simp only [DL] at h3p
   obtain rfl : q = oc.length := by omega
   refine ZAf <| ZAO (ZAO (x_eq ?_))
   refine ZAA ?_
   have S := S.sel [13, 11, 39, 38, 37, 32, 31, 30, 7, 6, 5, 3, 0] rfl
   refine ZAG <| gsr <| q_ld S H Fsca4 rfl rfl fun a S => gnt <| c_if S rfl (fun h4 => ?_) (fun h4 => ?_)
   ·have h4p := h4; try simp only [DL] at h4p
    have hc4 : hitsB L r (ZAt r).length = true := h4
    refine ZAB <| q_mv S rfl fun a S => q_fa S Ffo70_7 rfl fun a S => q_ld S H ZAN rfl rfl fun a S => q_cl S rfl call24 (ZBd b h z4 (13) (r.at_) (-1) _ (H.front (ChkA b h z4)) (by omega)) fun v w hc a S => ?_
    obtain ⟨z5, hz5, H⟩ := hc
    have hz5g : SevGd L → z5.2.length = z4.2.length := fun g => absurd (g.hit B hBm r hrm) (by rw [hc4]; simp)
    have H := (H.front (Cel b11 70 [.string r.name, .int .i64 r.x, .int .i64 r.y, .int .i64 r.from_, .int .i64 r.to_, .int .i64 r.step, r.mv, .int .i64 r.at_])).freeze
    refine gnt ?_
    have S := S.sel [11, 39, 38, 37, 32, 31, 30, 7, 6, 5, 3, 0] rfl
    refine ZAG <| cut (fun a w => ∃ c16 c17, St 156 [(0, .pointer (some ⟨b, 0, none⟩)), (3, .pointer (some ⟨b3, 0, none⟩)), (5, .func (.func 60) #[] #[.pointer (some ⟨b3, 0, none⟩), .pointer (some ⟨b4, 0, none⟩)]), (6, .pointer (some ⟨b6, 0, none⟩)), (7, .pointer (some ⟨b7, 0, none⟩)), (11, .pointer (some ⟨b11, 0, none⟩)), (16, .pointer (some ⟨c16, 0, none⟩)), (17, .pointer (some ⟨c17, 0, none⟩)), (30, L.bv), (31, .int .i64 (L.blocks.length : Int)), (32, .int .i64 (i : Int)), (37, B.rv), (38, .int .i64 (B.rows.length : Int)), (39, .int .i64 (m : Int))] a ∧ HSat M u0 (Cel c16 3 [.int .i64 (leftR r)] :: Cel c17 3 [.int .i64 (rightR r)] :: ChkA b h z5 :: Atom.ro (Cel b11 70 [.string r.name, .int .i64 r.x, .int .i64 r.y, .int .i64 r.from_, .int .i64 r.to_, .int .i64 r.step, r.mv, .int .i64 r.at_]) :: Cel b7 139 [.map (some b28)] :: MapA b28 kpt (fun v : Value => v) (mvP ks2 val2) c2 :: FamA (ks2) (fun p => OSl 3 ((val2) p) 1 encI ((T2) p)) :: Cel b6 71 [rv] :: OSl 70 rv 8 RowV.enc rows :: Cel b3 79 (LevV.enc L) :: Sl L.pv 4 BoxV.enc L.pillars :: Sl L.iv 4 BoxV.enc L.aisles :: Sl r.mv 3 MarkV.enc r.marks :: ZAU h :: Sl L.bv 3 BlockV.enc L.blocks :: Sl L.av 7 AreaV.enc L.areas :: Cel b4 136 [vo] :: OSl 4 vo 1 encQ rs :: CapA L.av :: Cel b9 73 [.string B.name, B.rv, .int .i64 B.at_] :: Sl B.rv 8 RowV.enc B.rows :: l) w) ?_ ?_
    ·skip
     refine t_st (tails := [19, 20]) [Atom.ro (Cel b11 70 [.string r.name, .int .i64 r.x, .int .i64 r.y, .int .i64 r.from_, .int .i64 r.to_, .int .i64 r.step, r.mv, .int .i64 r.at_])] Fmo H <| t_q 0 rfl (by kernel_rfl) (rem' := [1, 2, 3, 4, 5, 6, 7, 8, 9, 10, 11, 12, 13, 14, 15, 16, 17, 18, 19, 20]) rfl rfl rfl rfl S (fun w H => ZAC rfl Ffo70_1 S rfl) fun a S => ?_
     refine t_q 1 rfl (by kernel_rfl) (rem' := [2, 3, 4, 5, 6, 7, 8, 9, 10, 11, 12, 13, 14, 15, 16, 17, 18, 19, 20]) rfl rfl rfl rfl S (fun w H => ZAJ rfl ZAN S H rfl rfl) fun a S => ?_
     refine t_q 2 rfl (by kernel_rfl) (rem' := [3, 4, 5, 6, 7, 8, 9, 10, 11, 12, 13, 14, 15, 16, 17, 18, 19, 20]) rfl rfl rfl rfl S (fun w H => ZAC rfl Ffo70_5 S rfl) fun a S => ?_
     refine t_q 3 rfl (by kernel_rfl) (rem' := [4, 5, 6, 7, 8, 9, 10, 11, 12, 13, 14, 15, 16, 17, 18, 19, 20]) rfl rfl rfl rfl S (fun w H => ZAJ rfl ZAN S H rfl rfl) fun a S => ?_
     refine t_q 4 rfl (by kernel_rfl) (rem' := [5, 6, 7, 8, 9, 10, 11, 12, 13, 14, 15, 16, 17, 18, 19, 20]) rfl rfl rfl rfl S (fun w H => (y_sub rfl S rfl rfl (by omega))) fun a S => ?_
     refine t_p 5 rfl (by kernel_rfl) (rem' := [6, 7, 8, 9, 10, 11, 12, 13, 14, 15, 16, 17, 18, 19, 20]) rfl rfl rfl rfl S (fun w => ZAC rfl Ffo70_1 S rfl) fun a S => ?_
     refine t_f 6 rfl (by kernel_rfl) (rem' := [7, 8, 9, 10, 11, 12, 13, 14, 15, 16, 17, 18, 19, 20]) rfl rfl rfl rfl S (fun w H => ZAJ rfl ZAN S H rfl rfl) fun a S => ?_
     refine t_p 7 rfl (by kernel_rfl) (rem' := [8, 9, 10, 11, 12, 13, 14, 15, 16, 17, 18, 19, 20]) rfl rfl rfl rfl S (fun w => ZAC rfl Ffo70_4 S rfl) fun a S => ?_
     refine t_f 8 rfl (by kernel_rfl) (rem' := [9, 10, 11, 12, 13, 14, 15, 16, 17, 18, 19, 20]) rfl rfl rfl rfl S (fun w H => ZAJ rfl ZAN S H rfl rfl) fun a S => ?_
     refine t_p 9 rfl (by kernel_rfl) (rem' := [10, 11, 12, 13, 14, 15, 16, 17, 18, 19, 20]) rfl rfl rfl rfl S (fun w => ZAC rfl Ffo70_3 S rfl) fun a S => ?_
     refine t_f 10 rfl (by kernel_rfl) (rem' := [11, 12, 13, 14, 15, 16, 17, 18, 19, 20]) rfl rfl rfl rfl S (fun w H => ZAJ rfl ZAN S H rfl rfl) fun a S => ?_
     refine t_p 11 rfl (by kernel_rfl) (rem' := [12, 13, 14, 15, 16, 17, 18, 19, 20]) rfl rfl rfl rfl S (fun w => y_sub rfl S rfl rfl (by omega)) fun a S => ?_
     refine t_p 12 rfl (by kernel_rfl) (rem' := [13, 14, 15, 16, 17, 18, 19, 20]) rfl rfl rfl rfl S (fun w => y_add rfl S rfl rfl (by omega)) fun a S => ?_
     refine t_p 13 rfl (by kernel_rfl) (rem' := [14, 15, 16, 17, 18, 19, 20]) rfl rfl rfl rfl S (fun w => ZAC rfl Ffo70_5 S rfl) fun a S => ?_
     refine t_f 14 rfl (by kernel_rfl) (rem' := [15, 16, 17, 18, 19, 20]) rfl rfl rfl rfl S (fun w H => ZAJ rfl ZAN S H rfl rfl) fun a S => ?_
     refine t_p 15 rfl (by kernel_rfl) (rem' := [16, 17, 18, 19, 20]) rfl rfl rfl rfl S (fun w => (y_mul rfl S rfl rfl (by omega))) fun a S => ?_
     refine t_p 16 rfl (by kernel_rfl) (rem' := [17, 18, 19, 20]) rfl rfl rfl rfl S (fun w => (y_addW rfl S rfl rfl)) fun a S => ?_
     refine t_b [17, 18] (by kernel_rfl) rfl (fa2 ?_ ?_)
     ·refine ⟨_, rfl, fun w H => ?_⟩
      refine ZAh (wn rfl) rfl rfl rfl S H Fzer3 fun b16 a w S H => t_n H (rem' := [18, 19, 20]) rfl <| t_b1 18 (by kernel_rfl) rfl fun w H => ?_
      refine ZAh (wn rfl) rfl rfl rfl S H Fzer3 fun b17 a w S H => t_n H (rem' := [19, 20]) rfl <| t_b1 19 (by kernel_rfl) rfl fun w H => ?_
      refine ZAS (wn rfl) rfl rfl S H rfl rfl rfl ZA5 rfl fun a w S H => ?_
      dsimp only [List.set, Nat.zero_add, Nat.reduceAdd] at H
      refine ZAY H rfl (rem' := [20]) rfl <| t_b1 20 (by kernel_rfl) rfl fun w H => ?_
      refine ZAS (wn rfl) rfl rfl S H rfl rfl rfl ZA5 rfl fun a w S H => ?_
      dsimp only [List.set, Nat.zero_add, Nat.reduceAdd] at H
      refine ZAY H rfl (rem' := []) rfl <| ZBZ (fun w H => ?_)
      have H := H.takeT [Cel b16 3 [.int .i64 (r.x - r.step)], Cel b17 3 [.int .i64 (IntKind.i64.wrap (r.x + (r.to_ - r.from_ + 1) * r.step))], ChkA b h z5, Atom.ro (Cel b11 70 [.string r.name, .int .i64 r.x, .int .i64 r.y, .int .i64 r.from_, .int .i64 r.to_, .int .i64 r.step, r.mv, .int .i64 r.at_]), Cel b7 139 [.map (some b28)], MapA b28 kpt (fun v : Value => v) (mvP ks2 val2) c2, FamA (ks2) (fun p => OSl 3 ((val2) p) 1 encI ((T2) p)), Cel b6 71 [rv], OSl 70 rv 8 RowV.enc rows, Cel b3 79 (LevV.enc L), Sl L.pv 4 BoxV.enc L.pillars, Sl L.iv 4 BoxV.enc L.aisles, Sl r.mv 3 MarkV.enc r.marks, ZAU h, Sl L.bv 3 BlockV.enc L.blocks, Sl L.av 7 AreaV.enc L.areas, Cel b4 136 [vo], OSl 4 vo 1 encQ rs, CapA L.av, Cel b9 73 [.string B.name, B.rv, .int .i64 B.at_], Sl B.rv 8 RowV.enc B.rows] l
      exact ⟨b16, b17, (S.sel [0, 3, 5, 6, 7, 11, 16, 17, 30, 31, 32, 37, 38, 39] rfl), H⟩
     refine ⟨_, rfl, fun w H => ?_⟩
     refine ZAh (wn rfl) rfl rfl rfl S H Fzer3 fun b17 a w S H => t_n H (rem' := [17, 19, 20]) rfl <| t_b1 17 (by kernel_rfl) rfl fun w H => ?_
     refine ZAh (wn rfl) rfl rfl rfl S H Fzer3 fun b16 a w S H => t_n H (rem' := [19, 20]) rfl <| t_b1 19 (by kernel_rfl) rfl fun w H => ?_
     refine ZAS (wn rfl) rfl rfl S H rfl rfl rfl ZA5 rfl fun a w S H => ?_
     dsimp only [List.set, Nat.zero_add, Nat.reduceAdd] at H
     refine ZAY H rfl (rem' := [20]) rfl <| t_b1 20 (by kernel_rfl) rfl fun w H => ?_
     refine ZAS (wn rfl) rfl rfl S H rfl rfl rfl ZA5 rfl fun a w S H => ?_
     dsimp only [List.set, Nat.zero_add, Nat.reduceAdd] at H
     refine ZAY H rfl (rem' := []) rfl <| ZBZ (fun w H => ?_)
     have H := H.takeT [Cel b16 3 [.int .i64 (r.x - r.step)], Cel b17 3 [.int .i64 (IntKind.i64.wrap (r.x + (r.to_ - r.from_ + 1) * r.step))], ChkA b h z5, Atom.ro (Cel b11 70 [.string r.name, .int .i64 r.x, .int .i64 r.y, .int .i64 r.from_, .int .i64 r.to_, .int .i64 r.step, r.mv, .int .i64 r.at_]), Cel b7 139 [.map (some b28)], MapA b28 kpt (fun v : Value => v) (mvP ks2 val2) c2, FamA (ks2) (fun p => OSl 3 ((val2) p) 1 encI ((T2) p)), Cel b6 71 [rv], OSl 70 rv 8 RowV.enc rows, Cel b3 79 (LevV.enc L), Sl L.pv 4 BoxV.enc L.pillars, Sl L.iv 4 BoxV.enc L.aisles, Sl r.mv 3 MarkV.enc r.marks, ZAU h, Sl L.bv 3 BlockV.enc L.blocks, Sl L.av 7 AreaV.enc L.areas, Cel b4 136 [vo], OSl 4 vo 1 encQ rs, CapA L.av, Cel b9 73 [.string B.name, B.rv, .int .i64 B.at_], Sl B.rv 8 RowV.enc B.rows] l
     exact ⟨b16, b17, (S.sel [0, 3, 5, 6, 7, 11, 16, 17, 30, 31, 32, 37, 38, 39] rfl), H⟩
    rintro a w ⟨c16, c17, S, H⟩
    refine ZAG ?_
    refine gsr ?_
    refine q_mv S rfl fun a S => ?_
    refine gq rfl S (ZAd rfl S rfl rfl) fun a S => ?_
    refine ZAF (ZAV (wn rfl) rfl rfl S (ZAp rfl call60 S rfl rfl) (open_spec L 66 [.pointer (some ⟨c16, 0, none⟩), .pointer (some ⟨b11, 0, none⟩), .pointer (some ⟨c17, 0, none⟩)] call66 (endsB r) rs vo b3 b4 _ (H.rd b3) (H.rd b4) (H.sl vo) (H.sl L.iv) hrs.1 (fun x hx w hw => ends_spec x r (leftR r) (rightR r) c16 b11 c17 w ((H.ext hw).rd c16) ((H.ext hw).rd b11) ((H.ext hw).rd c17))) fun v w hc a S => ?_)
    obtain ⟨rfl, he⟩ := hc
    have H := H.ext he
    refine gq rfl S (ZBV rfl S rfl) fun a S => gnt ?_
    have S := S.sel [90, 0, 3, 5, 6, 7, 11, 30, 31, 32, 37, 38, 39] rfl
    refine c_if S rfl (fun h5 => ?_) (fun h5 => ?_)
    ·have h5p := h5; try simp only [DL] at h5p
     have hc5 : (!openB rs L.aisles (endsB r) L.aisles.length) = true := h5
     refine ZAB <| q_mv S rfl fun a S => q_fa S Ffo70_7 rfl fun a S => q_ld S H ZAN rfl rfl fun a S => q_cl S rfl call24 (ZBd b h z5 (14) (r.at_) (-1) _ (H.front (ChkA b h z5)) (by omega)) fun v w hc a S => ?_
     obtain ⟨z6, hz6, H⟩ := hc
     have hz6g : SevGd L → z6.2.length = z5.2.length := fun g => absurd (g.ends B hBm r hrm rs hrs) (by intro h9; rw [h9] at hc5; simp at hc5)
     refine gnt ?_
     have S := S.sel [0, 3, 5, 6, 7, 11, 30, 31, 32, 37, 38, 39] rfl
     refine ZAB <| q_ld S H Fsca71 rfl rfl fun a S => gq rfl S (ZAb rfl S H rfl (by exact Fagg70)) fun a S => ?_
     refine ZAF (ZAP (wn rfl) rfl rfl rfl underlying71 Finf70 S H (idx := [0]) rfl rfl rfl (z := [.string ⟨#[]⟩, .int .i64 0, .int .i64 0, .int .i64 0, .int .i64 0, .int .i64 0, .slice none 0 0, .int .i64 0]) (by kernel_rfl) (cs := [.string r.name, .int .i64 r.x, .int .i64 r.y, .int .i64 r.from_, .int .i64 r.to_, .int .i64 r.step, r.mv, .int .i64 r.at_]) (by rw [hpmv]; kernel_rfl) fun b97 a w S H => ?_)
     refine ZAF (ZAr ([r]) (wn rfl) rfl rfl rfl underlying71 Finf70 rfl rfl S H rfl rfl rfl rfl (by simp) (by simp [RowV.enc]) (by simp [RowV.enc, Value.oneCell', hpmv]) (by simp only [List.length_cons, List.length_nil]; omega) (by simp only [List.length_cons, List.length_nil]; omega) fun u98 a w hn98 S H => ?_)
     refine q_st S H rfl (H.sl1 _) Fsiz71 rfl fun a w S H => ?_
     dsimp only [List.set, Nat.zero_add, Nat.reduceAdd] at H
     refine ZAj <| ZAK <| ZAA ?_
     have S := S.sel [0, 3, 5, 6, 7, 30, 31, 32, 37, 38, 39] rfl
     refine ZAB <| q_ad S rfl (by omega) fun a S => ?_
     refine q_mv S rfl fun a S => ?_
     refine gnt ?_
     exact ⟨(m + 1, ⟨z6, u98, rows ++ [r], ks2, val2, c2, T2⟩), S.sel [39] rfl, S.sel [38, 37, 32, 31, 30, 7, 6, 5, 3, 0] rfl, ⟨by dsimp only; omega, ⟨by dsimp only; rw [show (rows ++ [r]).length = rows.length + 1 by simp]; exact htk.next, fun r9 h9 => (List.mem_append.1 h9).elim (hI.src r9) (fun h8 => ⟨B, hBm, by rw [List.mem_singleton.1 h8]; exact hrm⟩), by dsimp only; rw [show (rows ++ [r]).length = rows.length + 1 by simp]; dsimp only at hIl; omega, by dsimp only; dsimp only at hIc; omega, fun g e => by have h1 := hI.gd g e; have h2 := hnil g; have h3 := hz5g g; have h4 := hz6g g; dsimp only at h1 ⊢; omega⟩, H.takeT [ChkA b h z6, Cel b6 71 [u98], OSl 70 u98 8 RowV.enc (rows ++ [r]), Cel b7 139 [.map (some b28)], MapA b28 kpt (fun v : Value => v) (mvP ks2 val2) c2, FamA (ks2) (fun p => OSl 3 ((val2) p) 1 encI ((T2) p)), Cel b3 79 (LevV.enc L), Sl L.pv 4 BoxV.enc L.pillars, Sl L.iv 4 BoxV.enc L.aisles, ZAU h, Sl L.bv 3 BlockV.enc L.blocks, Sl L.av 7 AreaV.enc L.areas, Cel b4 136 [vo], OSl 4 vo 1 encQ rs, CapA L.av, Cel b9 73 [.string B.name, B.rv, .int .i64 B.at_], Sl B.rv 8 RowV.enc B.rows] l⟩, by dsimp only; omega⟩
    have h5p := h5; try simp only [DL] at h5p
    obtain ⟨z6, hz6⟩ : ∃ z9, z9 = z5 := ⟨_, rfl⟩
    rw [← hz6] at H
    have hz6 : z6.2.length = z5.2.length + 0 := by rw [hz6]; rfl
    have hz6g : SevGd L → z6.2.length = z5.2.length := fun _ => by omega
    refine ZAM <| ZAA <| ZAB <| q_ld S H Fsca71 rfl rfl fun a S => gq rfl S (ZAb rfl S H rfl (by exact Fagg70)) fun a S => ?_
    refine ZAF (ZAP (wn rfl) rfl rfl rfl underlying71 Finf70 S H (idx := [0]) rfl rfl rfl (z := [.string ⟨#[]⟩, .int .i64 0, .int .i64 0, .int .i64 0, .int .i64 0, .int .i64 0, .slice none 0 0, .int .i64 0]) (by kernel_rfl) (cs := [.string r.name, .int .i64 r.x, .int .i64 r.y, .int .i64 r.from_, .int .i64 r.to_, .int .i64 r.step, r.mv, .int .i64 r.at_]) (by rw [hpmv]; kernel_rfl) fun b97 a w S H => ?_)
    refine ZAF (ZAr ([r]) (wn rfl) rfl rfl rfl underlying71 Finf70 rfl rfl S H rfl rfl rfl rfl (by simp) (by simp [RowV.enc]) (by simp [RowV.enc, Value.oneCell', hpmv]) (by simp only [List.length_cons, List.length_nil]; omega) (by simp only [List.length_cons, List.length_nil]; omega) fun u98 a w hn98 S H => ?_)
    refine q_st S H rfl (H.sl1 _) Fsiz71 rfl fun a w S H => ?_
    dsimp only [List.set, Nat.zero_add, Nat.reduceAdd] at H
    refine ZAj <| ZAK <| ZAA ?_
    have S := S.sel [0, 3, 5, 6, 7, 30, 31, 32, 37, 38, 39] rfl
    refine ZAB <| q_ad S rfl (by omega) fun a S => ?_
    refine q_mv S rfl fun a S => ?_
    refine gnt ?_
    exact ⟨(m + 1, ⟨z6, u98, rows ++ [r], ks2, val2, c2, T2⟩), S.sel [39] rfl, S.sel [38, 37, 32, 31, 30, 7, 6, 5, 3, 0] rfl, ⟨by dsimp only; omega, ⟨by dsimp only; rw [show (rows ++ [r]).length = rows.length + 1 by simp]; exact htk.next, fun r9 h9 => (List.mem_append.1 h9).elim (hI.src r9) (fun h8 => ⟨B, hBm, by rw [List.mem_singleton.1 h8]; exact hrm⟩), by dsimp only; rw [show (rows ++ [r]).length = rows.length + 1 by simp]; dsimp only at hIl; omega, by dsimp only; dsimp only at hIc; omega, fun g e => by have h1 := hI.gd g e; have h2 := hnil g; have h3 := hz5g g; have h4 := hz6g g; dsimp only at h1 ⊢; omega⟩, H.takeT [ChkA b h z6, Cel b6 71 [u98], OSl 70 u98 8 RowV.enc (rows ++ [r]), Cel b7 139 [.map (some b28)], MapA b28 kpt (fun v : Value => v) (mvP ks2 val2) c2, FamA (ks2) (fun p => OSl 3 ((val2) p) 1 encI ((T2) p)), Cel b3 79 (LevV.enc L), Sl L.pv 4 BoxV.enc L.pillars, Sl L.iv 4 BoxV.enc L.aisles, ZAU h, Sl L.bv 3 BlockV.enc L.blocks, Sl L.av 7 AreaV.enc L.areas, Cel b4 136 [vo], OSl 4 vo 1 encQ rs, CapA L.av, Cel b9 73 [.string B.name, B.rv, .int .i64 B.at_], Sl B.rv 8 RowV.enc B.rows] l⟩, by dsimp only; omega⟩
   have h4p := h4; try simp only [DL] at h4p
   obtain ⟨z5, hz5⟩ : ∃ z9, z9 = z4 := ⟨_, rfl⟩
   rw [← hz5] at H
   have hz5 : z5.2.length = z4.2.length + 0 := by rw [hz5]; rfl
   have hz5g : SevGd L → z5.2.length = z4.2.length := fun _ => by omega
   have H := (H.front (Cel b11 70 [.string r.name, .int .i64 r.x, .int .i64 r.y, .int .i64 r.from_, .int .i64 r.to_, .int .i64 r.step, r.mv, .int .i64 r.at_])).freeze
   refine ZAM <| ZAA <| ZAG <| cut (fun a w => ∃ c16 c17, St 156 [(0, .pointer (some ⟨b, 0, none⟩)), (3, .pointer (some ⟨b3, 0, none⟩)), (5, .func (.func 60) #[] #[.pointer (some ⟨b3, 0, none⟩), .pointer (some ⟨b4, 0, none⟩)]), (6, .pointer (some ⟨b6, 0, none⟩)), (7, .pointer (some ⟨b7, 0, none⟩)), (11, .pointer (some ⟨b11, 0, none⟩)), (16, .pointer (some ⟨c16, 0, none⟩)), (17, .pointer (some ⟨c17, 0, none⟩)), (30, L.bv), (31, .int .i64 (L.blocks.length : Int)), (32, .int .i64 (i : Int)), (37, B.rv), (38, .int .i64 (B.rows.length : Int)), (39, .int .i64 (m : Int))] a ∧ HSat M u0 (Cel c16 3 [.int .i64 (leftR r)] :: Cel c17 3 [.int .i64 (rightR r)] :: ChkA b h z5 :: Atom.ro (Cel b11 70 [.string r.name, .int .i64 r.x, .int .i64 r.y, .int .i64 r.from_, .int .i64 r.to_, .int .i64 r.step, r.mv, .int .i64 r.at_]) :: Cel b7 139 [.map (some b28)] :: MapA b28 kpt (fun v : Value => v) (mvP ks2 val2) c2 :: FamA (ks2) (fun p => OSl 3 ((val2) p) 1 encI ((T2) p)) :: Cel b6 71 [rv] :: OSl 70 rv 8 RowV.enc rows :: Cel b3 79 (LevV.enc L) :: Sl L.pv 4 BoxV.enc L.pillars :: Sl L.iv 4 BoxV.enc L.aisles :: Sl r.mv 3 MarkV.enc r.marks :: ZAU h :: Sl L.bv 3 BlockV.enc L.blocks :: Sl L.av 7 AreaV.enc L.areas :: Cel b4 136 [vo] :: OSl 4 vo 1 encQ rs :: CapA L.av :: Cel b9 73 [.string B.name, B.rv, .int .i64 B.at_] :: Sl B.rv 8 RowV.enc B.rows :: l) w) ?_ ?_
   ·skip
    refine t_st (tails := [19, 20]) [Atom.ro (Cel b11 70 [.string r.name, .int .i64 r.x, .int .i64 r.y, .int .i64 r.from_, .int .i64 r.to_, .int .i64 r.step, r.mv, .int .i64 r.at_])] Fmo H <| t_q 0 rfl (by kernel_rfl) (rem' := [1, 2, 3, 4, 5, 6, 7, 8, 9, 10, 11, 12, 13, 14, 15, 16, 17, 18, 19, 20]) rfl rfl rfl rfl S (fun w H => ZAC rfl Ffo70_1 S rfl) fun a S => ?_
    refine t_q 1 rfl (by kernel_rfl) (rem' := [2, 3, 4, 5, 6, 7, 8, 9, 10, 11, 12, 13, 14, 15, 16, 17, 18, 19, 20]) rfl rfl rfl rfl S (fun w H => ZAJ rfl ZAN S H rfl rfl) fun a S => ?_
    refine t_q 2 rfl (by kernel_rfl) (rem' := [3, 4, 5, 6, 7, 8, 9, 10, 11, 12, 13, 14, 15, 16, 17, 18, 19, 20]) rfl rfl rfl rfl S (fun w H => ZAC rfl Ffo70_5 S rfl) fun a S => ?_
    refine t_q 3 rfl (by kernel_rfl) (rem' := [4, 5, 6, 7, 8, 9, 10, 11, 12, 13, 14, 15, 16, 17, 18, 19, 20]) rfl rfl rfl rfl S (fun w H => ZAJ rfl ZAN S H rfl rfl) fun a S => ?_
    refine t_q 4 rfl (by kernel_rfl) (rem' := [5, 6, 7, 8, 9, 10, 11, 12, 13, 14, 15, 16, 17, 18, 19, 20]) rfl rfl rfl rfl S (fun w H => (y_sub rfl S rfl rfl (by omega))) fun a S => ?_
    refine t_p 5 rfl (by kernel_rfl) (rem' := [6, 7, 8, 9, 10, 11, 12, 13, 14, 15, 16, 17, 18, 19, 20]) rfl rfl rfl rfl S (fun w => ZAC rfl Ffo70_1 S rfl) fun a S => ?_
    refine t_f 6 rfl (by kernel_rfl) (rem' := [7, 8, 9, 10, 11, 12, 13, 14, 15, 16, 17, 18, 19, 20]) rfl rfl rfl rfl S (fun w H => ZAJ rfl ZAN S H rfl rfl) fun a S => ?_
    refine t_p 7 rfl (by kernel_rfl) (rem' := [8, 9, 10, 11, 12, 13, 14, 15, 16, 17, 18, 19, 20]) rfl rfl rfl rfl S (fun w => ZAC rfl Ffo70_4 S rfl) fun a S => ?_
    refine t_f 8 rfl (by kernel_rfl) (rem' := [9, 10, 11, 12, 13, 14, 15, 16, 17, 18, 19, 20]) rfl rfl rfl rfl S (fun w H => ZAJ rfl ZAN S H rfl rfl) fun a S => ?_
    refine t_p 9 rfl (by kernel_rfl) (rem' := [10, 11, 12, 13, 14, 15, 16, 17, 18, 19, 20]) rfl rfl rfl rfl S (fun w => ZAC rfl Ffo70_3 S rfl) fun a S => ?_
    refine t_f 10 rfl (by kernel_rfl) (rem' := [11, 12, 13, 14, 15, 16, 17, 18, 19, 20]) rfl rfl rfl rfl S (fun w H => ZAJ rfl ZAN S H rfl rfl) fun a S => ?_
    refine t_p 11 rfl (by kernel_rfl) (rem' := [12, 13, 14, 15, 16, 17, 18, 19, 20]) rfl rfl rfl rfl S (fun w => y_sub rfl S rfl rfl (by omega)) fun a S => ?_
    refine t_p 12 rfl (by kernel_rfl) (rem' := [13, 14, 15, 16, 17, 18, 19, 20]) rfl rfl rfl rfl S (fun w => y_add rfl S rfl rfl (by omega)) fun a S => ?_
    refine t_p 13 rfl (by kernel_rfl) (rem' := [14, 15, 16, 17, 18, 19, 20]) rfl rfl rfl rfl S (fun w => ZAC rfl Ffo70_5 S rfl) fun a S => ?_
    refine t_f 14 rfl (by kernel_rfl) (rem' := [15, 16, 17, 18, 19, 20]) rfl rfl rfl rfl S (fun w H => ZAJ rfl ZAN S H rfl rfl) fun a S => ?_
    refine t_p 15 rfl (by kernel_rfl) (rem' := [16, 17, 18, 19, 20]) rfl rfl rfl rfl S (fun w => (y_mul rfl S rfl rfl (by omega))) fun a S => ?_
    refine t_p 16 rfl (by kernel_rfl) (rem' := [17, 18, 19, 20]) rfl rfl rfl rfl S (fun w => (y_addW rfl S rfl rfl)) fun a S => ?_
    refine t_b [17, 18] (by kernel_rfl) rfl (fa2 ?_ ?_)
    ·refine ⟨_, rfl, fun w H => ?_⟩
     refine ZAh (wn rfl) rfl rfl rfl S H Fzer3 fun b16 a w S H => t_n H (rem' := [18, 19, 20]) rfl <| t_b1 18 (by kernel_rfl) rfl fun w H => ?_
     refine ZAh (wn rfl) rfl rfl rfl S H Fzer3 fun b17 a w S H => t_n H (rem' := [19, 20]) rfl <| t_b1 19 (by kernel_rfl) rfl fun w H => ?_
     refine ZAS (wn rfl) rfl rfl S H rfl rfl rfl ZA5 rfl fun a w S H => ?_
     dsimp only [List.set, Nat.zero_add, Nat.reduceAdd] at H
     refine ZAY H rfl (rem' := [20]) rfl <| t_b1 20 (by kernel_rfl) rfl fun w H => ?_
     refine ZAS (wn rfl) rfl rfl S H rfl rfl rfl ZA5 rfl fun a w S H => ?_
     dsimp only [List.set, Nat.zero_add, Nat.reduceAdd] at H
     refine ZAY H rfl (rem' := []) rfl <| ZBZ (fun w H => ?_)
     have H := H.takeT [Cel b16 3 [.int .i64 (r.x - r.step)], Cel b17 3 [.int .i64 (IntKind.i64.wrap (r.x + (r.to_ - r.from_ + 1) * r.step))], ChkA b h z5, Atom.ro (Cel b11 70 [.string r.name, .int .i64 r.x, .int .i64 r.y, .int .i64 r.from_, .int .i64 r.to_, .int .i64 r.step, r.mv, .int .i64 r.at_]), Cel b7 139 [.map (some b28)], MapA b28 kpt (fun v : Value => v) (mvP ks2 val2) c2, FamA (ks2) (fun p => OSl 3 ((val2) p) 1 encI ((T2) p)), Cel b6 71 [rv], OSl 70 rv 8 RowV.enc rows, Cel b3 79 (LevV.enc L), Sl L.pv 4 BoxV.enc L.pillars, Sl L.iv 4 BoxV.enc L.aisles, Sl r.mv 3 MarkV.enc r.marks, ZAU h, Sl L.bv 3 BlockV.enc L.blocks, Sl L.av 7 AreaV.enc L.areas, Cel b4 136 [vo], OSl 4 vo 1 encQ rs, CapA L.av, Cel b9 73 [.string B.name, B.rv, .int .i64 B.at_], Sl B.rv 8 RowV.enc B.rows] l
     exact ⟨b16, b17, (S.sel [0, 3, 5, 6, 7, 11, 16, 17, 30, 31, 32, 37, 38, 39] rfl), H⟩
    refine ⟨_, rfl, fun w H => ?_⟩
    refine ZAh (wn rfl) rfl rfl rfl S H Fzer3 fun b17 a w S H => t_n H (rem' := [17, 19, 20]) rfl <| t_b1 17 (by kernel_rfl) rfl fun w H => ?_
    refine ZAh (wn rfl) rfl rfl rfl S H Fzer3 fun b16 a w S H => t_n H (rem' := [19, 20]) rfl <| t_b1 19 (by kernel_rfl) rfl fun w H => ?_
    refine ZAS (wn rfl) rfl rfl S H rfl rfl rfl ZA5 rfl fun a w S H => ?_
    dsimp only [List.set, Nat.zero_add, Nat.reduceAdd] at H
    refine ZAY H rfl (rem' := [20]) rfl <| t_b1 20 (by kernel_rfl) rfl fun w H => ?_
    refine ZAS (wn rfl) rfl rfl S H rfl rfl rfl ZA5 rfl fun a w S H => ?_
    dsimp only [List.set, Nat.zero_add, Nat.reduceAdd] at H
    refine ZAY H rfl (rem' := []) rfl <| ZBZ (fun w H => ?_)
    have H := H.takeT [Cel b16 3 [.int .i64 (r.x - r.step)], Cel b17 3 [.int .i64 (IntKind.i64.wrap (r.x + (r.to_ - r.from_ + 1) * r.step))], ChkA b h z5, Atom.ro (Cel b11 70 [.string r.name, .int .i64 r.x, .int .i64 r.y, .int .i64 r.from_, .int .i64 r.to_, .int .i64 r.step, r.mv, .int .i64 r.at_]), Cel b7 139 [.map (some b28)], MapA b28 kpt (fun v : Value => v) (mvP ks2 val2) c2, FamA (ks2) (fun p => OSl 3 ((val2) p) 1 encI ((T2) p)), Cel b6 71 [rv], OSl 70 rv 8 RowV.enc rows, Cel b3 79 (LevV.enc L), Sl L.pv 4 BoxV.enc L.pillars, Sl L.iv 4 BoxV.enc L.aisles, Sl r.mv 3 MarkV.enc r.marks, ZAU h, Sl L.bv 3 BlockV.enc L.blocks, Sl L.av 7 AreaV.enc L.areas, Cel b4 136 [vo], OSl 4 vo 1 encQ rs, CapA L.av, Cel b9 73 [.string B.name, B.rv, .int .i64 B.at_], Sl B.rv 8 RowV.enc B.rows] l
    exact ⟨b16, b17, (S.sel [0, 3, 5, 6, 7, 11, 16, 17, 30, 31, 32, 37, 38, 39] rfl), H⟩
   rintro a w ⟨c16, c17, S, H⟩
   refine ZAG ?_
   refine gsr ?_
   refine q_mv S rfl fun a S => ?_
   refine gq rfl S (ZAd rfl S rfl rfl) fun a S => ?_
   refine ZAF (ZAV (wn rfl) rfl rfl S (ZAp rfl call60 S rfl rfl) (open_spec L 66 [.pointer (some ⟨c16, 0, none⟩), .pointer (some ⟨b11, 0, none⟩), .pointer (some ⟨c17, 0, none⟩)] call66 (endsB r) rs vo b3 b4 _ (H.rd b3) (H.rd b4) (H.sl vo) (H.sl L.iv) hrs.1 (fun x hx w hw => ends_spec x r (leftR r) (rightR r) c16 b11 c17 w ((H.ext hw).rd c16) ((H.ext hw).rd b11) ((H.ext hw).rd c17))) fun v w hc a S => ?_)
   obtain ⟨rfl, he⟩ := hc
   have H := H.ext he
   refine gq rfl S (ZBV rfl S rfl) fun a S => gnt ?_
   have S := S.sel [90, 0, 3, 5, 6, 7, 11, 30, 31, 32, 37, 38, 39] rfl
   refine c_if S rfl (fun h6 => ?_) (fun h6 => ?_)
   ·have h6p := h6; try simp only [DL] at h6p
    have hc5 : (!openB rs L.aisles (endsB r) L.aisles.length) = true := h6
    refine ZAB <| q_mv S rfl fun a S => q_fa S Ffo70_7 rfl fun a S => q_ld S H ZAN rfl rfl fun a S => q_cl S rfl call24 (ZBd b h z5 (14) (r.at_) (-1) _ (H.front (ChkA b h z5)) (by omega)) fun v w hc a S => ?_
    obtain ⟨z6, hz6, H⟩ := hc
    have hz6g : SevGd L → z6.2.length = z5.2.length := fun g => absurd (g.ends B hBm r hrm rs hrs) (by intro h9; rw [h9] at hc5; simp at hc5)
    refine gnt ?_
    have S := S.sel [0, 3, 5, 6, 7, 11, 30, 31, 32, 37, 38, 39] rfl
    refine ZAB <| q_ld S H Fsca71 rfl rfl fun a S => gq rfl S (ZAb rfl S H rfl (by exact Fagg70)) fun a S => ?_
    refine ZAF (ZAP (wn rfl) rfl rfl rfl underlying71 Finf70 S H (idx := [0]) rfl rfl rfl (z := [.string ⟨#[]⟩, .int .i64 0, .int .i64 0, .int .i64 0, .int .i64 0, .int .i64 0, .slice none 0 0, .int .i64 0]) (by kernel_rfl) (cs := [.string r.name, .int .i64 r.x, .int .i64 r.y, .int .i64 r.from_, .int .i64 r.to_, .int .i64 r.step, r.mv, .int .i64 r.at_]) (by rw [hpmv]; kernel_rfl) fun b97 a w S H => ?_)
    refine ZAF (ZAr ([r]) (wn rfl) rfl rfl rfl underlying71 Finf70 rfl rfl S H rfl rfl rfl rfl (by simp) (by simp [RowV.enc]) (by simp [RowV.enc, Value.oneCell', hpmv]) (by simp only [List.length_cons, List.length_nil]; omega) (by simp only [List.length_cons, List.length_nil]; omega) fun u98 a w hn98 S H => ?_)
    refine q_st S H rfl (H.sl1 _) Fsiz71 rfl fun a w S H => ?_
    dsimp only [List.set, Nat.zero_add, Nat.reduceAdd] at H
    refine ZAj <| ZAK <| ZAA ?_
    have S := S.sel [0, 3, 5, 6, 7, 30, 31, 32, 37, 38, 39] rfl
    refine ZAB <| q_ad S rfl (by omega) fun a S => ?_
    refine q_mv S rfl fun a S => ?_
    refine gnt ?_
    exact ⟨(m + 1, ⟨z6, u98, rows ++ [r], ks2, val2, c2, T2⟩), S.sel [39] rfl, S.sel [38, 37, 32, 31, 30, 7, 6, 5, 3, 0] rfl, ⟨by dsimp only; omega, ⟨by dsimp only; rw [show (rows ++ [r]).length = rows.length + 1 by simp]; exact htk.next, fun r9 h9 => (List.mem_append.1 h9).elim (hI.src r9) (fun h8 => ⟨B, hBm, by rw [List.mem_singleton.1 h8]; exact hrm⟩), by dsimp only; rw [show (rows ++ [r]).length = rows.length + 1 by simp]; dsimp only at hIl; omega, by dsimp only; dsimp only at hIc; omega, fun g e => by have h1 := hI.gd g e; have h2 := hnil g; have h3 := hz5g g; have h4 := hz6g g; dsimp only at h1 ⊢; omega⟩, H.takeT [ChkA b h z6, Cel b6 71 [u98], OSl 70 u98 8 RowV.enc (rows ++ [r]), Cel b7 139 [.map (some b28)], MapA b28 kpt (fun v : Value => v) (mvP ks2 val2) c2, FamA (ks2) (fun p => OSl 3 ((val2) p) 1 encI ((T2) p)), Cel b3 79 (LevV.enc L), Sl L.pv 4 BoxV.enc L.pillars, Sl L.iv 4 BoxV.enc L.aisles, ZAU h, Sl L.bv 3 BlockV.enc L.blocks, Sl L.av 7 AreaV.enc L.areas, Cel b4 136 [vo], OSl 4 vo 1 encQ rs, CapA L.av, Cel b9 73 [.string B.name, B.rv, .int .i64 B.at_], Sl B.rv 8 RowV.enc B.rows] l⟩, by dsimp only; omega⟩
   have h6p := h6; try simp only [DL] at h6p
   obtain ⟨z6, hz6⟩ : ∃ z9, z9 = z5 := ⟨_, rfl⟩
   rw [← hz6] at H
   have hz6 : z6.2.length = z5.2.length + 0 := by rw [hz6]; rfl
   have hz6g : SevGd L → z6.2.length = z5.2.length := fun _ => by omega
   refine ZAM <| ZAA <| ZAB <| q_ld S H Fsca71 rfl rfl fun a S => gq rfl S (ZAb rfl S H rfl (by exact Fagg70)) fun a S => ?_
   refine ZAF (ZAP (wn rfl) rfl rfl rfl underlying71 Finf70 S H (idx := [0]) rfl rfl rfl (z := [.string ⟨#[]⟩, .int .i64 0, .int .i64 0, .int .i64 0, .int .i64 0, .int .i64 0, .slice none 0 0, .int .i64 0]) (by kernel_rfl) (cs := [.string r.name, .int .i64 r.x, .int .i64 r.y, .int .i64 r.from_, .int .i64 r.to_, .int .i64 r.step, r.mv, .int .i64 r.at_]) (by rw [hpmv]; kernel_rfl) fun b97 a w S H => ?_)
   refine ZAF (ZAr ([r]) (wn rfl) rfl rfl rfl underlying71 Finf70 rfl rfl S H rfl rfl rfl rfl (by simp) (by simp [RowV.enc]) (by simp [RowV.enc, Value.oneCell', hpmv]) (by simp only [List.length_cons, List.length_nil]; omega) (by simp only [List.length_cons, List.length_nil]; omega) fun u98 a w hn98 S H => ?_)
   refine q_st S H rfl (H.sl1 _) Fsiz71 rfl fun a w S H => ?_
   dsimp only [List.set, Nat.zero_add, Nat.reduceAdd] at H
   refine ZAj <| ZAK <| ZAA ?_
   have S := S.sel [0, 3, 5, 6, 7, 30, 31, 32, 37, 38, 39] rfl
   refine ZAB <| q_ad S rfl (by omega) fun a S => ?_
   refine q_mv S rfl fun a S => ?_
   refine gnt ?_
   exact ⟨(m + 1, ⟨z6, u98, rows ++ [r], ks2, val2, c2, T2⟩), S.sel [39] rfl, S.sel [38, 37, 32, 31, 30, 7, 6, 5, 3, 0] rfl, ⟨by dsimp only; omega, ⟨by dsimp only; rw [show (rows ++ [r]).length = rows.length + 1 by simp]; exact htk.next, fun r9 h9 => (List.mem_append.1 h9).elim (hI.src r9) (fun h8 => ⟨B, hBm, by rw [List.mem_singleton.1 h8]; exact hrm⟩), by dsimp only; rw [show (rows ++ [r]).length = rows.length + 1 by simp]; dsimp only at hIl; omega, by dsimp only; dsimp only at hIc; omega, fun g e => by have h1 := hI.gd g e; have h2 := hnil g; have h3 := hz5g g; have h4 := hz6g g; dsimp only at h1 ⊢; omega⟩, H.takeT [ChkA b h z6, Cel b6 71 [u98], OSl 70 u98 8 RowV.enc (rows ++ [r]), Cel b7 139 [.map (some b28)], MapA b28 kpt (fun v : Value => v) (mvP ks2 val2) c2, FamA (ks2) (fun p => OSl 3 ((val2) p) 1 encI ((T2) p)), Cel b3 79 (LevV.enc L), Sl L.pv 4 BoxV.enc L.pillars, Sl L.iv 4 BoxV.enc L.aisles, ZAU h, Sl L.bv 3 BlockV.enc L.blocks, Sl L.av 7 AreaV.enc L.areas, Cel b4 136 [vo], OSl 4 vo 1 encQ rs, CapA L.av, Cel b9 73 [.string B.name, B.rv, .int .i64 B.at_], Sl B.rv 8 RowV.enc B.rows] l⟩, by dsimp only; omega⟩
  have h2p := h2; try simp only [DL] at h2p
  obtain rfl : m = B.rows.length := by omega
  refine ZAf <| ZAO (ZAO (x_eq ?_))
  refine ZAK <| ZAA ?_
  have S := S.sel [32, 31, 30, 7, 6, 5, 3, 0] rfl
  refine ZAB <| q_ad S rfl (by omega) fun a S => ?_
  refine q_mv S rfl fun a S => gnt ?_
  rw [← hLB, ← rowsN_s hil] at hI
  exact ⟨(i + 1, ⟨z, rv, rows, ks, val, c, T⟩), S.sel [32] rfl, S.sel [31, 30, 7, 6, 5, 3, 0] rfl, ⟨by dsimp only; omega, hI, H.takeT [ChkA b h z, Cel b6 71 [rv], OSl 70 rv 8 RowV.enc rows, Cel b7 139 [.map (some b28)], MapA b28 kpt (fun v : Value => v) (mvP (ks) (val)) c, FamA (ks) (fun p => OSl 3 ((val) p) 1 encI ((T) p)), Cel b3 79 (LevV.enc L), Sl L.pv 4 BoxV.enc L.pillars, Sl L.iv 4 BoxV.enc L.aisles, ZAU h, Sl L.bv 3 BlockV.enc L.blocks, Sl L.av 7 AreaV.enc L.areas, Cel b4 136 [vo], OSl 4 vo 1 encQ rs, CapA L.av] l⟩, by dsimp only; omega⟩
 have h1p := h1; try simp only [DL] at h1p
 obtain rfl : i = L.blocks.length := by omega
 obtain ⟨z, rv, rows, ks, val, c, T⟩ := s
 dsimp only at H
 have hIl := hI.len
 have hIc := hI.cnt
 have hIg := hI.gd
 have hsrc := hI.src
 dsimp only at hIl hIc hIg hsrc
 have hrle := rowsN_le hrw60 L.blocks.length (Nat.le_refl _)
 obtain ⟨zc, hzc⟩ : ∃ q, q = z.2.length := ⟨_, rfl⟩
 have hrl : rows.length ≤ 2400 := by omega
 refine ZAf <| ZAO (ZAO (x_eq ?_))
 refine ZAA ?_
 have S := S.sel [6, 5, 3, 0] rfl
 refine gsr <| q_fa S Ffo79_3 rfl fun a S => q_ld S H Fsca75 rfl rfl fun a S => gq rfl S (ZAT rfl underlying75 S H rfl) fun a S => q_mv S rfl fun a S => gnt <| ZAD ?_
 have SU := S.sel [103, 102, 6, 5, 3, 0] rfl
 refine ZBL (X := Nat × CkZ) SU (fun x => [(104, .int .i64 (x.1 : Int))]) (fun x w => x.1 ≤ L.areas.length ∧ x.2.2.length ≤ zc + 2441 * x.1 ∧ (SevGd L → zb = 0 → x.2.2.length = 0) ∧ HSat M u0 (ChkA b h x.2 :: Cel b6 71 [rv] :: OSl 70 rv 8 RowV.enc rows :: Cel b3 79 (LevV.enc L) :: Sl L.pv 4 BoxV.enc L.pillars :: Sl L.iv 4 BoxV.enc L.aisles :: ZAU h :: Sl L.bv 3 BlockV.enc L.blocks :: Sl L.av 7 AreaV.enc L.areas :: Cel b4 136 [vo] :: OSl 4 vo 1 encQ rs :: CapA L.av :: l) w) (fun x => L.areas.length - x.1) (0, z) (S.sel [104] rfl) (⟨Nat.zero_le _, by dsimp only; omega, hIg, H.takeT [ChkA b h z, Cel b6 71 [rv], OSl 70 rv 8 RowV.enc rows, Cel b3 79 (LevV.enc L), Sl L.pv 4 BoxV.enc L.pillars, Sl L.iv 4 BoxV.enc L.aisles, ZAU h, Sl L.bv 3 BlockV.enc L.blocks, Sl L.av 7 AreaV.enc L.areas, Cel b4 136 [vo], OSl 4 vo 1 encQ rs, CapA L.av] l⟩) (fun x a w S hW => ?_)
 simp only [List.cons_append, List.nil_append] at S
 obtain ⟨i, z8⟩ := x
 obtain ⟨hkk, hcz, hgz, H⟩ := hW
 dsimp only at S H hkk hcz hgz
 refine gsr <| q_bn S rfl fun a S => gnt <| ZAG <| c_if S rfl (fun h7 => ?_) (fun h7 => ?_)
 ·have h7p := h7; try simp only [DL] at h7p
  have hil : i < L.areas.length := by omega
  obtain ⟨A, hA⟩ : ∃ A, A = L.areas[i] := ⟨_, rfl⟩
  have hLA : L.areas[i] = A := hA.symm
  have hAm : A ∈ L.areas := hA ▸ List.getElem_mem hil
  have hti : ((L.areas.take i).drop 0).length = i := by rw [List.drop_zero, List.length_take]; omega
  refine ZAM <| ZAA <| ZAG <| ZAD <| gsr <| q_mv S rfl fun a S => gq rfl S (ZAI rfl underlying75 Fsiz92 S H rfl rfl (by omega)) fun a S => ?_
  refine gq rfl S (ZAk _ rfl S H rfl (by exact Fagg92) (by omega)) fun a S => ?_
  rw [hLA] at S
  refine q_al S H rfl Fzer92 fun b19 a w S H => q_as S rfl fun a S => ZAF (ZAQ (wn rfl) rfl rfl S H rfl rfl rfl Fsiz92 rfl (cs' := [_, _, _, _, _, _, _]) rfl fun a w S H => gnt ?_)
  have S := S.sel [18, 19, 104, 103, 102, 6, 5, 3, 0] rfl
  refine ZAG <| gsr <| q_ld S H Fsca71 rfl rfl fun a S => gq rfl S (ZAT rfl underlying71 S H rfl) fun a S => q_mv S rfl fun a S => gnt <| ZAD ?_
  obtain ⟨zl, hzl⟩ : ∃ q, q = z8.2.length := ⟨_, rfl⟩
  have SU := S.sel [110, 109, 18, 19, 104, 103, 102, 6, 5, 3, 0] rfl
  refine ZBL (X := Nat × CkZ) SU (fun x => [(111, .int .i64 (x.1 : Int))]) (fun x w => x.1 ≤ rows.length ∧ x.2.2.length ≤ zl + x.1 ∧ (SevGd L → x.2.2.length = zl) ∧ HSat M u0 (ChkA b h x.2 :: Cel b19 92 [.string A.name, .int .i64 A.box.x, .int .i64 A.box.y, .int .i64 A.box.x2, .int .i64 A.box.y2, .int .i64 A.holds, .int .i64 A.at_] :: Cel b6 71 [rv] :: OSl 70 rv 8 RowV.enc rows :: Cel b3 79 (LevV.enc L) :: Sl L.pv 4 BoxV.enc L.pillars :: Sl L.iv 4 BoxV.enc L.aisles :: ZAU h :: Sl L.bv 3 BlockV.enc L.blocks :: Sl L.av 7 AreaV.enc L.areas :: Cel b4 136 [vo] :: OSl 4 vo 1 encQ rs :: CapA L.av :: l) w) (fun x => rows.length - x.1) (0, z8) (S.sel [111] rfl) (⟨Nat.zero_le _, by dsimp only; omega, fun _ => hzl.symm, H.takeT [ChkA b h z8, Cel b19 92 [.string A.name, .int .i64 A.box.x, .int .i64 A.box.y, .int .i64 A.box.x2, .int .i64 A.box.y2, .int .i64 A.holds, .int .i64 A.at_], Cel b6 71 [rv], OSl 70 rv 8 RowV.enc rows, Cel b3 79 (LevV.enc L), Sl L.pv 4 BoxV.enc L.pillars, Sl L.iv 4 BoxV.enc L.aisles, ZAU h, Sl L.bv 3 BlockV.enc L.blocks, Sl L.av 7 AreaV.enc L.areas, Cel b4 136 [vo], OSl 4 vo 1 encQ rs, CapA L.av] l⟩) (fun x a w S hW => ?_)
  simp only [List.cons_append, List.nil_append] at S
  obtain ⟨m, z8⟩ := x
  obtain ⟨hmm, hcm, hg1, H⟩ := hW
  dsimp only at S H hmm hcm hg1
  refine gsr <| q_bn S rfl fun a S => gnt <| ZAG <| c_if S rfl (fun h8 => ?_) (fun h8 => ?_)
  ·have h8p := h8; try simp only [DL] at h8p
   have hkl : m < rows.length := by omega
   obtain ⟨r, hr2⟩ : ∃ r, r = rows[m] := ⟨_, rfl⟩
   have hRr : rows[m] = r := hr2.symm
   obtain ⟨B, hBm, hrm⟩ := hsrc r (hr2 ▸ List.getElem_mem hkl)
   have hBa := lev_block hLa hBm
   have hRall := row_all (row_one hBa hrm)
   have hr := lv_row hv1 hBm hrm
   have H := ZBP (ls := ZBI h) H (Sl r.mv 3 MarkV.enc r.marks) (ZAs hLm (ZBl hBm (mem_row hrm))) rfl
   have H := ZBP (ls := ZBI h) H (Sl r.mv 3 MarkV.enc r.marks) (ZAs hLm (ZBl hBm (mem_row hrm))) rfl
   refine ZAM <| ZAA <| ZAG <| ZAD <| gsr <| gq rfl S (ZAI rfl underlying71 Fsiz70 S H rfl rfl (by omega)) fun a S => ?_
   refine gq rfl S (ZAk _ rfl S H rfl (by exact Fagg70) (by omega)) fun a S => ?_
   rw [hRr] at S
   refine q_al S H rfl Fzer70 fun b21 a w S H => ZAF (ZAQ (wn rfl) rfl rfl S H rfl rfl hRall Fsiz70 rfl (cs' := [_, _, _, _, _, _, _, _]) rfl fun a w S H => gnt ?_)
   refine gsr <| q_al S H rfl Fzer4 fun b22 a w S H => q_st S H rfl rfl Fsiz4 rfl fun a w S H => ?_
   dsimp only [List.set, Nat.zero_add, Nat.reduceAdd] at H
   refine gnt <| gsr <| gq rfl S (ZAb rfl S H rfl (by exact Fagg70)) fun a S => ?_
   refine gq rfl S (ZAd rfl S rfl rfl) fun a S => ZAF (ZAV (wn rfl) rfl rfl S (ZAi rfl call21 S rfl) (seats_iter (l := ChkA b h z8 :: Cel b6 71 [rv] :: OSl 70 rv 8 RowV.enc rows :: Cel b3 79 (LevV.enc L) :: Sl L.pv 4 BoxV.enc L.pillars :: Sl L.iv 4 BoxV.enc L.aisles :: ZAU h :: Sl L.bv 3 BlockV.enc L.blocks :: Sl L.av 7 AreaV.enc L.areas :: Cel b4 136 [vo] :: OSl 4 vo 1 encQ rs :: CapA L.av :: l) (fun (q : Nat) (_ : Unit) => [Cel b22 4 [.bool (insA A r (q))], Cel b19 92 [.string A.name, .int .i64 A.box.x, .int .i64 A.box.y, .int .i64 A.box.x2, .int .i64 A.box.y2, .int .i64 A.holds, .int .i64 A.at_], Cel b21 70 [.string r.name, .int .i64 r.x, .int .i64 r.y, .int .i64 r.from_, .int .i64 r.to_, .int .i64 r.step, r.mv, .int .i64 r.at_]]) r hr 67 [] [.pointer (some ⟨b22, 0, none⟩), .pointer (some ⟨b19, 0, none⟩), .pointer (some ⟨b21, 0, none⟩)] call67 _ (by
     intro q s x hq z t w H
     have H2 : HSat M u0 (Cel b22 4 [.bool (insA A r (q))] :: Cel b19 92 [.string A.name, .int .i64 A.box.x, .int .i64 A.box.y, .int .i64 A.box.x2, .int .i64 A.box.y2, .int .i64 A.holds, .int .i64 A.at_] :: Cel b21 70 [.string r.name, .int .i64 r.x, .int .i64 r.y, .int .i64 r.from_, .int .i64 r.to_, .int .i64 r.step, r.mv, .int .i64 r.at_] :: t) w := H
     refine Ret.mono (within_spec A r (insA A r q) (.int .i64 s) x b22 b19 b21 w H2) ?_
     intro u w' H3
     rw [insA_s hq] at H3
     exact ⟨(), H3⟩) () (by
     have h9 := H.takeT [Cel b22 4 [.bool false], Cel b19 92 [.string A.name, .int .i64 A.box.x, .int .i64 A.box.y, .int .i64 A.box.x2, .int .i64 A.box.y2, .int .i64 A.holds, .int .i64 A.at_], Cel b21 70 [.string r.name, .int .i64 r.x, .int .i64 r.y, .int .i64 r.from_, .int .i64 r.to_, .int .i64 r.step, r.mv, .int .i64 r.at_], Sl r.mv 3 MarkV.enc r.marks, ChkA b h z8, Cel b6 71 [rv], OSl 70 rv 8 RowV.enc rows, Cel b3 79 (LevV.enc L), Sl L.pv 4 BoxV.enc L.pillars, Sl L.iv 4 BoxV.enc L.aisles, ZAU h, Sl L.bv 3 BlockV.enc L.blocks, Sl L.av 7 AreaV.enc L.areas, Cel b4 136 [vo], OSl 4 vo 1 encQ rs, CapA L.av] l
     exact h9)) fun v w hc a S => ?_)
   obtain ⟨_, H⟩ := hc
   have H : HSat M u0 (Cel b22 4 [.bool (insA A r ((ZAt r).length))] :: Cel b19 92 [.string A.name, .int .i64 A.box.x, .int .i64 A.box.y, .int .i64 A.box.x2, .int .i64 A.box.y2, .int .i64 A.holds, .int .i64 A.at_] :: Cel b21 70 [.string r.name, .int .i64 r.x, .int .i64 r.y, .int .i64 r.from_, .int .i64 r.to_, .int .i64 r.step, r.mv, .int .i64 r.at_] :: Sl r.mv 3 MarkV.enc r.marks :: ChkA b h z8 :: Cel b6 71 [rv] :: OSl 70 rv 8 RowV.enc rows :: Cel b3 79 (LevV.enc L) :: Sl L.pv 4 BoxV.enc L.pillars :: Sl L.iv 4 BoxV.enc L.aisles :: ZAU h :: Sl L.bv 3 BlockV.enc L.blocks :: Sl L.av 7 AreaV.enc L.areas :: Cel b4 136 [vo] :: OSl 4 vo 1 encQ rs :: CapA L.av :: l) _ := H
   refine gnt ?_
   have S := S.sel [22, 21, 111, 110, 109, 18, 19, 104, 103, 102, 6, 5, 3, 0] rfl
   refine gsr <| q_ld S H Fsca4 rfl rfl fun a S => gnt <| c_if S rfl (fun h9 => ?_) (fun h9 => ?_)
   ·have h9p := h9; try simp only [DL] at h9p
    have hc9 : insA A r (ZAt r).length = true := h9
    refine ZAB <| q_mv S rfl fun a S => q_fa S Ffo92_3 rfl fun a S => q_ld S H ZAN rfl rfl fun a S => q_fa S Ffo70_7 rfl fun a S => q_ld S H ZAN rfl rfl fun a S => q_cl S rfl call24 (ZBd b h z8 (13) (A.at_) (r.at_) _ (H.front (ChkA b h z8)) (by omega)) fun v w hc a S => ?_
    obtain ⟨z9, hz9, H⟩ := hc
    have hz9g : SevGd L → z9.2.length = z8.2.length := fun g => absurd (g.within A hAm B hBm r hrm) (by rw [← insA_all, hc9]; simp)
    refine ZAj <| ZAK <| ZAA ?_
    have S := S.sel [111, 110, 109, 18, 19, 104, 103, 102, 6, 5, 3, 0] rfl
    refine ZAB <| q_ad S rfl (by omega) fun a S => ?_
    refine q_mv S rfl fun a S => ?_
    refine gnt ?_
    exact ⟨(m + 1, z9), S.sel [111] rfl, S.sel [110, 109, 18, 19, 104, 103, 102, 6, 5, 3, 0] rfl, ⟨by dsimp only; omega, by dsimp only; omega, fun g => by have h1 := hg1 g; have h2 := hz9g g; dsimp only; omega, H.takeT [ChkA b h z9, Cel b19 92 [.string A.name, .int .i64 A.box.x, .int .i64 A.box.y, .int .i64 A.box.x2, .int .i64 A.box.y2, .int .i64 A.holds, .int .i64 A.at_], Cel b6 71 [rv], OSl 70 rv 8 RowV.enc rows, Cel b3 79 (LevV.enc L), Sl L.pv 4 BoxV.enc L.pillars, Sl L.iv 4 BoxV.enc L.aisles, ZAU h, Sl L.bv 3 BlockV.enc L.blocks, Sl L.av 7 AreaV.enc L.areas, Cel b4 136 [vo], OSl 4 vo 1 encQ rs, CapA L.av] l⟩, by dsimp only; omega⟩
   have h9p := h9; try simp only [DL] at h9p
   obtain ⟨z9, hz9⟩ : ∃ z9, z9 = z8 := ⟨_, rfl⟩
   rw [← hz9] at H
   have hz9 : z9.2.length = z8.2.length + 0 := by rw [hz9]; rfl
   have hz9g : SevGd L → z9.2.length = z8.2.length := fun _ => by omega
   refine ZAM <| ZAK <| ZAA <| ZAB <| q_ad S rfl (by omega) fun a S => ?_
   refine q_mv S rfl fun a S => ?_
   refine gnt ?_
   exact ⟨(m + 1, z9), S.sel [111] rfl, S.sel [110, 109, 18, 19, 104, 103, 102, 6, 5, 3, 0] rfl, ⟨by dsimp only; omega, by dsimp only; omega, fun g => by have h1 := hg1 g; have h2 := hz9g g; dsimp only; omega, H.takeT [ChkA b h z9, Cel b19 92 [.string A.name, .int .i64 A.box.x, .int .i64 A.box.y, .int .i64 A.box.x2, .int .i64 A.box.y2, .int .i64 A.holds, .int .i64 A.at_], Cel b6 71 [rv], OSl 70 rv 8 RowV.enc rows, Cel b3 79 (LevV.enc L), Sl L.pv 4 BoxV.enc L.pillars, Sl L.iv 4 BoxV.enc L.aisles, ZAU h, Sl L.bv 3 BlockV.enc L.blocks, Sl L.av 7 AreaV.enc L.areas, Cel b4 136 [vo], OSl 4 vo 1 encQ rs, CapA L.av] l⟩, by dsimp only; omega⟩
  have h8p := h8; try simp only [DL] at h8p
  obtain rfl : m = rows.length := by omega
  refine ZAf <| ZAO (ZAO (x_eq ?_))
  refine ZAA ?_
  have S := S.sel [18, 19, 104, 103, 102, 6, 5, 3, 0] rfl
  refine ZAG <| gsr <| q_fa S Ffo79_3 rfl fun a S => q_ld S H Fsca75 rfl rfl fun a S => q_mv S rfl fun a S => gq rfl S (y_sliceH rfl underlying75 Fsiz92 S H rfl rfl (by omega)) fun a S => ?_
  refine gq rfl S (ZAT rfl underlying75 S H rfl) fun a S => ?_
  rw [hti] at S
  refine q_mv S rfl fun a S => gnt ?_
  have S := S.sel [131, 130, 129, 19, 104, 103, 102, 6, 5, 3, 0] rfl
  refine ZAD ?_
  obtain ⟨zk, hzk⟩ : ∃ q, q = z8.2.length := ⟨_, rfl⟩
  have SU := S.sel [130, 129, 19, 104, 103, 102, 6, 5, 3, 0] rfl
  refine ZBL (X := Nat × CkZ) SU (fun x => [(131, .int .i64 (x.1 : Int))]) (fun x w => x.1 ≤ i ∧ x.2.2.length ≤ zk + x.1 ∧ (SevGd L → x.2.2.length = zk) ∧ HSat M u0 (ChkA b h x.2 :: Cel b19 92 [.string A.name, .int .i64 A.box.x, .int .i64 A.box.y, .int .i64 A.box.x2, .int .i64 A.box.y2, .int .i64 A.holds, .int .i64 A.at_] :: Cel b6 71 [rv] :: OSl 70 rv 8 RowV.enc rows :: Cel b3 79 (LevV.enc L) :: Sl L.pv 4 BoxV.enc L.pillars :: Sl L.iv 4 BoxV.enc L.aisles :: ZAU h :: Sl L.bv 3 BlockV.enc L.blocks :: Sl L.av 7 AreaV.enc L.areas :: Cel b4 136 [vo] :: OSl 4 vo 1 encQ rs :: CapA L.av :: l) w) (fun x => i - x.1) (0, z8) (S.sel [131] rfl) (⟨Nat.zero_le _, by dsimp only; omega, fun _ => hzk.symm, H⟩) (fun x a w S hW => ?_)
  simp only [List.cons_append, List.nil_append] at S
  obtain ⟨m, z8⟩ := x
  obtain ⟨hmm, hck, hg2, H⟩ := hW
  dsimp only at S H hmm hck hg2
  refine gsr <| q_bn S rfl fun a S => gnt <| ZAG <| c_if S rfl (fun h10 => ?_) (fun h10 => ?_)
  ·have h10p := h10; try simp only [DL] at h10p
   have hml : m < i := by omega
   obtain ⟨A2, hA2⟩ : ∃ q, q = ((L.areas.take i).drop 0)[m]'(by rw [hti]; exact hml) := ⟨_, rfl⟩
   refine ZAM <| ZAA <| ZAG <| ZAD <| gsr <| gq rfl S (ZAI rfl underlying75 Fsiz92 S H rfl rfl (by omega)) fun a S => ?_
   refine gq rfl S (ZAk _ rfl S H rfl (by exact Fagg92) (by omega)) fun a S => ?_
   rw [← hA2] at S
   refine q_al S H rfl Fzer92 fun b24 a w S H => ZAF (ZAQ (wn rfl) rfl rfl S H rfl rfl rfl Fsiz92 rfl (cs' := [_, _, _, _, _, _, _]) rfl fun a w S H => gnt ?_)
   refine gsr <| q_fa S Ffo92_1 rfl fun a S => gq rfl S ((y_loadp (vs := BoxV.enc A.box) rfl S H rfl (by exact Fagg90) rfl)) fun a S => ?_
   refine q_fa S Ffo92_1 rfl fun a S => gq rfl S ((y_loadp (vs := BoxV.enc A2.box) rfl S H rfl (by exact Fagg90) rfl)) fun a S => ?_
   refine q_cl S rfl call68 (meet_spec A.box A2.box _) fun v w hc a S => ?_
   obtain ⟨rfl, he⟩ := hc
   have H := H.ext he
   refine gnt ?_
   have S := S.sel [139, 24, 131, 130, 129, 19, 104, 103, 102, 6, 5, 3, 0] rfl
   refine c_if S rfl (fun h11 => ?_) (fun h11 => ?_)
   ·have h11p := h11; try simp only [DL] at h11p
    refine ZAB <| q_mv S rfl fun a S => q_fa S Ffo92_3 rfl fun a S => q_ld S H ZAN rfl rfl fun a S => q_fa S Ffo92_3 rfl fun a S => q_ld S H ZAN rfl rfl fun a S => q_cl S rfl call24 (ZBd b h z8 (13) (A.at_) (A2.at_) _ (H.front (ChkA b h z8)) (by omega)) fun v w hc a S => ?_
    obtain ⟨z9, hz9, H⟩ := hc
    have hz9g : SevGd L → z9.2.length = z8.2.length := fun g => by have := g.areas1; omega
    refine ZAj <| ZAK <| ZAA ?_
    have S := S.sel [131, 130, 129, 19, 104, 103, 102, 6, 5, 3, 0] rfl
    refine ZAB <| q_ad S rfl (by omega) fun a S => ?_
    refine q_mv S rfl fun a S => ?_
    refine gnt ?_
    exact ⟨(m + 1, z9), S.sel [131] rfl, S.sel [130, 129, 19, 104, 103, 102, 6, 5, 3, 0] rfl, ⟨by dsimp only; omega, by dsimp only; omega, fun g => by have h1 := hg2 g; have h2 := hz9g g; dsimp only; omega, H.takeT [ChkA b h z9, Cel b19 92 [.string A.name, .int .i64 A.box.x, .int .i64 A.box.y, .int .i64 A.box.x2, .int .i64 A.box.y2, .int .i64 A.holds, .int .i64 A.at_], Cel b6 71 [rv], OSl 70 rv 8 RowV.enc rows, Cel b3 79 (LevV.enc L), Sl L.pv 4 BoxV.enc L.pillars, Sl L.iv 4 BoxV.enc L.aisles, ZAU h, Sl L.bv 3 BlockV.enc L.blocks, Sl L.av 7 AreaV.enc L.areas, Cel b4 136 [vo], OSl 4 vo 1 encQ rs, CapA L.av] l⟩, by dsimp only; omega⟩
   have h11p := h11; try simp only [DL] at h11p
   obtain ⟨z9, hz9⟩ : ∃ z9, z9 = z8 := ⟨_, rfl⟩
   rw [← hz9] at H
   have hz9 : z9.2.length = z8.2.length + 0 := by rw [hz9]; rfl
   have hz9g : SevGd L → z9.2.length = z8.2.length := fun _ => by omega
   refine ZAM <| ZAK <| ZAA <| ZAB <| q_ad S rfl (by omega) fun a S => ?_
   refine q_mv S rfl fun a S => ?_
   refine gnt ?_
   exact ⟨(m + 1, z9), S.sel [131] rfl, S.sel [130, 129, 19, 104, 103, 102, 6, 5, 3, 0] rfl, ⟨by dsimp only; omega, by dsimp only; omega, fun g => by have h1 := hg2 g; have h2 := hz9g g; dsimp only; omega, H.takeT [ChkA b h z9, Cel b19 92 [.string A.name, .int .i64 A.box.x, .int .i64 A.box.y, .int .i64 A.box.x2, .int .i64 A.box.y2, .int .i64 A.holds, .int .i64 A.at_], Cel b6 71 [rv], OSl 70 rv 8 RowV.enc rows, Cel b3 79 (LevV.enc L), Sl L.pv 4 BoxV.enc L.pillars, Sl L.iv 4 BoxV.enc L.aisles, ZAU h, Sl L.bv 3 BlockV.enc L.blocks, Sl L.av 7 AreaV.enc L.areas, Cel b4 136 [vo], OSl 4 vo 1 encQ rs, CapA L.av] l⟩, by dsimp only; omega⟩
  have h10p := h10; try simp only [DL] at h10p
  obtain rfl : i = m := by omega
  refine ZAf <| ZAO (ZAO (x_eq ?_))
  refine ZAA ?_
  have S := S.sel [19, 104, 103, 102, 6, 5, 3, 0] rfl
  refine gsr ?_
  refine q_mv S rfl fun a S => ?_
  refine gq rfl S (ZAd rfl S rfl rfl) fun a S => ?_
  refine ZAF (ZAV (wn rfl) rfl rfl S (ZAp rfl call60 S rfl rfl) (open_spec L 69 [.pointer (some ⟨b19, 0, none⟩)] call69 (meetB A.box) rs vo b3 b4 _ (H.rd b3) (H.rd b4) (H.sl vo) (H.sl L.iv) hrs.1 (fun x hx w hw => meets_spec x A b19 w ((H.ext hw).rd b19))) fun v w hc a S => ?_)
  obtain ⟨rfl, he⟩ := hc
  have H := H.ext he
  refine gq rfl S (ZBV rfl S rfl) fun a S => gnt <| c_if S rfl (fun h12 => ?_) (fun h12 => ?_)
  ·have h12p := h12; try simp only [DL] at h12p
   have hc12 : (!openB rs L.aisles (meetB A.box) L.aisles.length) = true := h12
   refine ZAB <| q_mv S rfl fun a S => q_fa S Ffo92_3 rfl fun a S => q_ld S H ZAN rfl rfl fun a S => q_cl S rfl call24 (ZBd b h z8 (14) (A.at_) (-1) _ (H.front (ChkA b h z8)) (by omega)) fun v w hc a S => ?_
   obtain ⟨z9, hz9, H⟩ := hc
   have hz9g : SevGd L → z9.2.length = z8.2.length := fun g => absurd (g.meet A hAm rs hrs) (by intro h9; rw [h9] at hc12; simp at hc12)
   refine ZAj <| ZAK <| ZAA ?_
   have S := S.sel [104, 103, 102, 6, 5, 3, 0] rfl
   refine ZAB <| q_ad S rfl (by omega) fun a S => ?_
   refine q_mv S rfl fun a S => ?_
   refine gnt ?_
   exact ⟨(i + 1, z9), S.sel [104] rfl, S.sel [103, 102, 6, 5, 3, 0] rfl, ⟨by dsimp only; omega, by dsimp only; omega, fun g e => by have h1 := hgz g e; have h2 := hg1 g; have h3 := hg2 g; have h4 := hz9g g; dsimp only; omega, H.takeT [ChkA b h z9, Cel b6 71 [rv], OSl 70 rv 8 RowV.enc rows, Cel b3 79 (LevV.enc L), Sl L.pv 4 BoxV.enc L.pillars, Sl L.iv 4 BoxV.enc L.aisles, ZAU h, Sl L.bv 3 BlockV.enc L.blocks, Sl L.av 7 AreaV.enc L.areas, Cel b4 136 [vo], OSl 4 vo 1 encQ rs, CapA L.av] l⟩, by dsimp only; omega⟩
  have h12p := h12; try simp only [DL] at h12p
  obtain ⟨z9, hz9⟩ : ∃ z9, z9 = z8 := ⟨_, rfl⟩
  rw [← hz9] at H
  have hz9 : z9.2.length = z8.2.length + 0 := by rw [hz9]; rfl
  have hz9g : SevGd L → z9.2.length = z8.2.length := fun _ => by omega
  refine ZAM <| ZAK <| ZAA ?_
  have S := S.sel [104, 103, 102, 6, 5, 3, 0] rfl
  refine ZAB <| q_ad S rfl (by omega) fun a S => ?_
  refine q_mv S rfl fun a S => ?_
  refine gnt ?_
  exact ⟨(i + 1, z9), S.sel [104] rfl, S.sel [103, 102, 6, 5, 3, 0] rfl, ⟨by dsimp only; omega, by dsimp only; omega, fun g e => by have h1 := hgz g e; have h2 := hg1 g; have h3 := hg2 g; have h4 := hz9g g; dsimp only; omega, H.takeT [ChkA b h z9, Cel b6 71 [rv], OSl 70 rv 8 RowV.enc rows, Cel b3 79 (LevV.enc L), Sl L.pv 4 BoxV.enc L.pillars, Sl L.iv 4 BoxV.enc L.aisles, ZAU h, Sl L.bv 3 BlockV.enc L.blocks, Sl L.av 7 AreaV.enc L.areas, Cel b4 136 [vo], OSl 4 vo 1 encQ rs, CapA L.av] l⟩, by dsimp only; omega⟩
 have h7p := h7; try simp only [DL] at h7p
 obtain rfl : i = L.areas.length := by omega
 refine ZAf <| ZAO (ZAO (x_eq ?_))
 refine ZB1 rfl S ?_
 exact ⟨z8, by omega, fun g e => hgz g (by omega), H.takeT [ChkA b h z8, ZAU h] l⟩
def cntR (r : RowV) : Nat := (ZAt r).length
def cntB (B : BlockV) : Nat := (B.rows.map cntR).sum
def cntA (A : AreaV) : Nat := A.holds.toNat
def cntL (L : LevV) : Nat := (L.blocks.map cntB).sum + (L.areas.map cntA).sum
def cntH (h : HallV) : Nat := (h.levels.map cntL).sum
structure GoodH (h : HallV) : Prop where
  one : Good1 h
  stage : crdL [h.stage.x, h.stage.y] = true
  cnt : cntH h ≤ 4000
  sev : ∀ L ∈ h.levels, SevGd L
theorem sum_bd {α : Type} {f : α → Nat} {c : Nat} : ∀ {l : List α}, (∀ x ∈ l, f x ≤ c) → (l.map f).sum ≤ c * l.length
  | [], _ => by simp
  | x :: l, h => by
    have h1 := h x (by simp)
    have h2 := sum_bd (l := l) fun y hy => h y (List.mem_cons_of_mem _ hy)
    rw [List.map_cons, List.sum_cons, List.length_cons, Nat.mul_succ]; omega
theorem cntB_bd {B : BlockV} (h1 : B.rows.length ≤ 60) (h2 : ∀ r ∈ B.rows, RangeR r) : cntB B ≤ 3600 := by
  have h3 := sum_bd (f := cntR) (c := 60) (l := B.rows) fun r hr => seatsR_len (h2 r hr)
  unfold cntB; omega
theorem cntL_bd {h : HallV} {n : Nat} {L : LevV} (h1 : Lv1 h n L) : cntL L ≤ 304000 := by
  have h2 := sum_bd (f := cntB) (c := 3600) (l := L.blocks) fun B hB => by
    obtain ⟨q, hq, rfl⟩ := List.getElem_of_mem hB
    exact cntB_bd (h1.blocks q hq).ok.lim (h1.blocks q hq).rows
  have h3 := sum_bd (f := cntA) (c := 4000) (l := L.areas) fun A hA => by
    obtain ⟨q, hq, rfl⟩ := List.getElem_of_mem hA
    have := (h1.areas q hq).holds
    unfold cntA; omega
  have h4 := h1.ok.lim
  unfold cntL; omega
theorem lv_of {h : HallV} (hR : Range1 h) {L : LevV} (hL : L ∈ h.levels) : ∃ n, Lv1 h n L := by
  obtain ⟨q, hq, rfl⟩ := List.getElem_of_mem hL
  exact ⟨q, hR q hq⟩
theorem cntL_take {h : HallV} (hR : Range1 h) (k : Nat) : ((h.levels.take k).map cntL).sum ≤ 304000 * k := by
  have h1 := sum_bd (f := cntL) (c := 304000) (l := h.levels.take k) fun L hL => by
    obtain ⟨n, hn⟩ := lv_of hR (List.mem_of_mem_take hL)
    exact cntL_bd hn
  have h2 : (h.levels.take k).length ≤ k := by rw [List.length_take]; omega
  have h3 := Nat.mul_le_mul_left 304000 h2
  omega
theorem cntB_take {h : HallV} {n : Nat} {L : LevV} (h0 : Lv1 h n L) (k : Nat) : ((L.blocks.take k).map cntB).sum ≤ 3600 * k := by
  have h1 := sum_bd (f := cntB) (c := 3600) (l := L.blocks.take k) fun B hB => by
    obtain ⟨q, hq, rfl⟩ := List.getElem_of_mem (List.mem_of_mem_take hB)
    exact cntB_bd (h0.blocks q hq).ok.lim (h0.blocks q hq).rows
  have h2 : (L.blocks.take k).length ≤ k := by rw [List.length_take]; omega
  have h3 := Nat.mul_le_mul_left 3600 h2
  omega
theorem cntR_take {B : BlockV} (h0 : ∀ r ∈ B.rows, RangeR r) (k : Nat) : ((B.rows.take k).map cntR).sum ≤ 60 * k := by
  have h1 := sum_bd (f := cntR) (c := 60) (l := B.rows.take k) fun r hr => seatsR_len (h0 r (List.mem_of_mem_take hr))
  have h2 : (B.rows.take k).length ≤ k := by rw [List.length_take]; omega
  have h3 := Nat.mul_le_mul_left 60 h2
  omega
theorem cntA_take {h : HallV} {n : Nat} {L : LevV} (h0 : Lv1 h n L) (k : Nat) : ((L.areas.take k).map cntA).sum ≤ 4000 * k := by
  have h1 := sum_bd (f := cntA) (c := 4000) (l := L.areas.take k) fun A hA => by
    obtain ⟨q, hq, rfl⟩ := List.getElem_of_mem (List.mem_of_mem_take hA)
    have := (h0.areas q hq).holds
    unfold cntA; omega
  have h2 : (L.areas.take k).length ≤ k := by rw [List.length_take]; omega
  have h3 := Nat.mul_le_mul_left 4000 h2
  omega
set_option maxHeartbeats 8000000 in
theorem build_spec (h : HallV) (w0 : World) (hH : (ZAU h).ok w0) (hB : HallB h) :
    Ret Tryz.prog 7 #[.agg (HallV.enc h).toArray] w0 (fun u w => ∃ ov fv ps fs, u = .tuple #[ov, fv] ∧ (0 < fs.length → ps = []) ∧ (fs.length = 0 → Range1 h ∧ ps = placesR h) ∧ (GoodH h → fs.length = 0) ∧ fs.length ≤ 4000000000000000 ∧ HSat No w0 [OSl 57 ov 9 Pl.enc ps, OSl 135 fv 3 encFt fs] w) := by
 refine ZAE (nt := 118) Tryz.func7 rfl rfl rfl (fl := [(0, .agg (HallV.enc h).toArray)]) rfl (fun a S => ?_)
 have H := HSat.start w0
 have H := H.ro0 (ZAU h) rfl (hH)
 have H := H.ro0 (Sl h.lv 8 LevV.enc h.levels) rfl (ZBE hH)
 have hl5 := (ZBE hH).len
 obtain ⟨plv, clv, hplv⟩ := (ZBE hH).shape
 refine gsr <| ZAF (ZAu (wn rfl) rfl rfl rfl S H rfl fun b1 a w S H => q_as S rfl fun a S => q_as S rfl fun a S => gnt ?_)
 refine gsr <| gq rfl S (ZAb rfl S H rfl (by exact Fagg26)) fun a S => ?_
 refine gq rfl S (ZAx rfl Fbld83 S rfl (idx := [0]) rfl (cs := [.string h.name, .int .i64 h.stage.x, .int .i64 h.stage.y, h.lv, .slice none 0 0]) (by kernel_rfl)) fun a S => ?_
 refine ZAF (ZAu (wn rfl) rfl rfl rfl S H rfl fun b18 a w S H => ?_)
 have H : HSat No w0 (Cel b18 83 [.string h.name, .int .i64 h.stage.x, .int .i64 h.stage.y, h.lv, .slice none 0 0] :: _) _ := H
 have H := (H.nilO 135 3 encFt).swap2
 have H : HSat No w0 (ChkA b18 h (.slice none 0 0, []) :: _) _ := HSat.fold (ls := ckL b18 h (.slice none 0 0, [])) H (ckL_own _ _ _)
 refine q_as S rfl fun a S => gnt ?_
 have S := S.sel [4, 3, 2, 1] rfl
 refine gsr <| q_mv S rfl fun a S => q_mv S rfl fun a S => gq rfl S (ZAd rfl S rfl rfl) fun a S => q_mv S rfl fun a S => gq rfl S (ZAd rfl S rfl rfl) fun a S => q_mv S rfl fun a S => gq rfl S (ZAd rfl S rfl rfl) fun a S => ?_
 refine q_mv S rfl fun a S => gq rfl S (ZAd rfl S rfl rfl) fun a S => q_cl S rfl call16 (walk_spec b18 h (.slice none 0 0, []) _ hB rfl (H.front2 (ChkA b18 h (.slice none 0 0, [])) (ZAU h))) fun v w hc a S => ?_
 obtain ⟨z1, hzr, hzg, hzl, H⟩ := hc
 refine gnt ?_
 have S := S.sel [4, 3, 2, 1] rfl
 refine ZAG <| gsr <| q_mv S rfl fun a S => gq rfl S (ZAR rfl S rfl) fun a S => q_fa S Ffo83_1 rfl fun a S => q_ld S H Fsca31 rfl rfl fun a S => gq rfl S (ZAT rfl underlying31 S H rfl) fun a S => q_bn S rfl fun a S => ?_
 refine gnt ?_
 have S := S.sel [34, 4, 3, 2, 1] rfl
 refine c_if S rfl (fun h1 => ?_) (fun h1 => ?_)
 ·have h1p := h1; try simp only [DL] at h1p
  refine ZAG <| ZAZ (loud := []) (tails := []) (free := []) [0, 1, 2, 3, 4, 5] [] Fmo (by kernel_rfl) (by kernel_rfl) rfl H ?_
  refine m_q rfl S (fun w H => ZAL rfl S rfl) fun a S => m_q rfl S (fun w H => ZAR rfl S rfl) fun a S => m_q rfl S (fun w H => ZAC rfl Ffo83_1 S rfl) fun a S => m_q rfl S (fun w H => ZAJ rfl Fsca31 S H rfl rfl) fun a S => m_q rfl S (fun w H => ZA1 rfl S rfl) fun a S => m_q rfl S (fun w H => ZA1 rfl S rfl) fun a S => ZBY (fun w H => ZAA ?_)
  have S := S.sel [3, 2, 4, 1] rfl
  refine ZAe <| ZAX (ret2 rfl S rfl rfl ?_)
  have H9 : HSat No w0 (Cel b18 83 [.string h.name, .int .i64 h.stage.x, .int .i64 h.stage.y, h.lv, z1.1] :: OSl 135 z1.1 3 encFt z1.2 :: _) _ := HSat.unfold (ls := ckL b18 h z1) (H.front (ChkA b18 h z1))
  have H9 := (H9.nilO 57 9 Pl.enc).take [OSl 57 (.slice none 0 0) 9 Pl.enc [], OSl 135 z1.1 3 encFt z1.2]
  exact ⟨.slice none 0 0, z1.1, [], z1.2, rfl, fun _ => rfl, fun h9 => by have := h1p; omega, fun g => hzg g.one, by have := hB.levels; omega, H9⟩
 have h1p := h1; try simp only [DL] at h1p
 have hz0 : z1.2.length = 0 := by omega
 have hR1 := hzr hz0
 refine ZAM <| ZAA <| gsr <| q_al S H rfl Fzer3 fun b5 a w S H => q_st S H rfl rfl ZA5 rfl fun a w S H => ?_
 dsimp only [List.set, Nat.zero_add, Nat.reduceAdd] at H
 refine gnt <| ZAG <| gsr <| q_fa S ZBi rfl fun a S => q_ld S H Fsca24 rfl rfl fun a S => gq rfl S (ZAT rfl underlying24 S H rfl) fun a S => q_mv S rfl fun a S => gnt ?_
 refine ZAD ?_
 have SU := S.sel [41, 40, 5, 4, 3, 2, 1] rfl
 refine ZBL (X := Nat) SU (fun k => [(42, .int .i64 (k : Int))]) (fun k w => k ≤ h.levels.length ∧ HSat No w0 [ChkA b18 h z1, Cel b5 3 [.int .i64 (((((h.levels.take (k)).map cntL).sum : Nat) : Int))], ZAU h, Sl h.lv 8 LevV.enc h.levels, Cel b1 26 (HallV.enc h)] w) (fun k => h.levels.length - k) 0 (S.sel [42] rfl) (⟨Nat.zero_le _, (by have h9 := H.take [ChkA b18 h z1, Cel b5 3 [.int .i64 (0)], ZAU h, Sl h.lv 8 LevV.enc h.levels, Cel b1 26 (HallV.enc h)]; exact h9)⟩) (fun k a w S hW => ?_)
 simp only [List.cons_append, List.nil_append] at S
 obtain ⟨hk, H⟩ := hW
 refine gsr <| q_bn S rfl fun a S => gnt <| ZAG <| c_if S rfl (fun h2 => ?_) (fun h2 => ?_)
 ·have h2p := h2; try simp only [DL] at h2p
  have hkl : k < h.levels.length := by omega
  obtain ⟨L, hL⟩ : ∃ L, L = h.levels[k] := ⟨_, rfl⟩
  have hLn : h.levels[k] = L := hL.symm
  have hLm : L ∈ h.levels := hL ▸ List.getElem_mem hkl
  have hLa := hall_lev hH hLm
  have hLall := lev_all hLa
  have hlL0 := (lev_blocks hLa).len
  have hlL1 := (lev_areas hLa).len
  have hv1 := hR1 k hkl
  rw [hLn] at hv1
  have hlim := hv1.ok.lim
  have hSk := cntL_take hR1 k
  have H := ZBP (ls := ZBI h) H (Sl L.bv 3 BlockV.enc L.blocks) (ZAs hLm (by simp [levA])) rfl
  have H := ZBP (ls := ZBI h) H (Sl L.av 7 AreaV.enc L.areas) (ZAs hLm (by simp [levA])) rfl
  refine ZAM <| ZAA <| ZAG <| ZAD <| gsr <| gq rfl S (ZAI rfl underlying24 Fsiz79 S H rfl rfl (by omega)) fun a S => ?_
  refine gq rfl S (ZAk _ rfl S H rfl (by exact Fagg79) (by omega)) fun a S => ?_
  rw [hLn] at S
  refine q_al S H rfl Fzer79 fun b7 a w S H => ZAF (ZAQ (wn rfl) rfl rfl S H rfl rfl hLall Fsiz79 rfl (cs' := [_, _, _, _, _, _, _, _]) rfl fun a w S H => gnt ?_)
  refine ZAG <| gsr <| q_fa S Ffo79_2 rfl fun a S => q_ld S H Fsca74 rfl rfl fun a S => gq rfl S (ZAT rfl underlying74 S H rfl) fun a S => q_mv S rfl fun a S => gnt ?_
  have S := S.sel [49, 48, 47, 7, 42, 41, 40, 5, 4, 3, 2, 1] rfl
  refine ZAD ?_
  have SU := S.sel [48, 47, 7, 42, 41, 40, 5, 4, 3, 2, 1] rfl
  refine ZBL (X := Nat) SU (fun i => [(49, .int .i64 (i : Int))]) (fun i w => i ≤ L.blocks.length ∧ HSat No w0 [ChkA b18 h z1, Cel b5 3 [.int .i64 ((((((h.levels.take k).map cntL).sum + ((L.blocks.take (i)).map cntB).sum : Nat)) : Int))], ZAU h, Sl h.lv 8 LevV.enc h.levels, Cel b1 26 (HallV.enc h), Cel b7 79 [.string L.name, .int .i64 L.height, L.bv, L.av, L.iv, L.pv, L.dv, .int .i64 L.at_], Sl L.bv 3 BlockV.enc L.blocks, Sl L.av 7 AreaV.enc L.areas] w) (fun i => L.blocks.length - i) 0 (S.sel [49] rfl) (⟨Nat.zero_le _, (by have h9 := H.take [ChkA b18 h z1, Cel b5 3 [.int .i64 (((((h.levels.take (k)).map cntL).sum : Nat) : Int))], ZAU h, Sl h.lv 8 LevV.enc h.levels, Cel b1 26 (HallV.enc h), Cel b7 79 [.string L.name, .int .i64 L.height, L.bv, L.av, L.iv, L.pv, L.dv, .int .i64 L.at_], Sl L.bv 3 BlockV.enc L.blocks, Sl L.av 7 AreaV.enc L.areas]; exact h9)⟩) (fun i a w S hW => ?_)
  simp only [List.cons_append, List.nil_append] at S
  obtain ⟨hi, H⟩ := hW
  refine gsr <| q_bn S rfl fun a S => gnt <| ZAG <| c_if S rfl (fun h3 => ?_) (fun h3 => ?_)
  ·have h3p := h3; try simp only [DL] at h3p
   have hil : i < L.blocks.length := by omega
   obtain ⟨B, hB2⟩ : ∃ B, B = L.blocks[i] := ⟨_, rfl⟩
   have hLB : L.blocks[i] = B := hB2.symm
   have hBm : B ∈ L.blocks := hB2 ▸ List.getElem_mem hil
   have hBa := lev_block hLa hBm
   have hBall := block_all hBa
   have hlB := (block_rows hBa).len
   have hv2 := hv1.blocks i hil
   rw [hLB] at hv2
   have hlim2 := hv2.ok.lim
   have hSi := cntB_take hv1 i
   have H := ZBP (ls := ZBI h) H (Sl B.rv 8 RowV.enc B.rows) (ZAs hLm (ZBl hBm (List.mem_cons_self ..))) rfl
   refine ZAM <| ZAA <| ZAG <| ZAD <| gsr <| gq rfl S (ZAI rfl underlying74 Fsiz73 S H rfl rfl (by omega)) fun a S => ?_
   refine gq rfl S (ZAk _ rfl S H rfl (by exact Fagg73) (by omega)) fun a S => ?_
   rw [hLB] at S
   refine q_al S H rfl Fzer73 fun b9 a w S H => ZAF (ZAQ (wn rfl) rfl rfl S H rfl rfl hBall Fsiz73 rfl (cs' := [_, _, _]) rfl fun a w S H => gnt ?_)
   refine gsr <| q_fa S Ffo73_1 rfl fun a S => q_ld S H Fsca71 rfl rfl fun a S => gq rfl S (ZAT rfl underlying71 S H rfl) fun a S => q_mv S rfl fun a S => gnt ?_
   have S := S.sel [56, 55, 54, 49, 48, 47, 7, 42, 41, 40, 5, 4, 3, 2, 1] rfl
   refine ZAD ?_
   have SU := S.sel [55, 54, 49, 48, 47, 7, 42, 41, 40, 5, 4, 3, 2, 1] rfl
   refine ZBL (X := Nat) SU (fun m => [(56, .int .i64 (m : Int))]) (fun m w => m ≤ B.rows.length ∧ HSat No w0 [ChkA b18 h z1, Cel b5 3 [.int .i64 ((((((h.levels.take k).map cntL).sum + ((L.blocks.take i).map cntB).sum + ((B.rows.take (m)).map cntR).sum : Nat)) : Int))], ZAU h, Sl h.lv 8 LevV.enc h.levels, Cel b1 26 (HallV.enc h), Cel b9 73 [.string B.name, B.rv, .int .i64 B.at_], Sl B.rv 8 RowV.enc B.rows, Cel b7 79 [.string L.name, .int .i64 L.height, L.bv, L.av, L.iv, L.pv, L.dv, .int .i64 L.at_], Sl L.bv 3 BlockV.enc L.blocks, Sl L.av 7 AreaV.enc L.areas] w) (fun m => B.rows.length - m) 0 (S.sel [56] rfl) (⟨Nat.zero_le _, (by have h9 := H.take [ChkA b18 h z1, Cel b5 3 [.int .i64 ((((((h.levels.take k).map cntL).sum + ((L.blocks.take (i)).map cntB).sum : Nat)) : Int))], ZAU h, Sl h.lv 8 LevV.enc h.levels, Cel b1 26 (HallV.enc h), Cel b9 73 [.string B.name, B.rv, .int .i64 B.at_], Sl B.rv 8 RowV.enc B.rows, Cel b7 79 [.string L.name, .int .i64 L.height, L.bv, L.av, L.iv, L.pv, L.dv, .int .i64 L.at_], Sl L.bv 3 BlockV.enc L.blocks, Sl L.av 7 AreaV.enc L.areas]; exact h9)⟩) (fun m a w S hW => ?_)
   simp only [List.cons_append, List.nil_append] at S
   obtain ⟨hm, H⟩ := hW
   refine gsr <| q_bn S rfl fun a S => gnt <| ZAG <| c_if S rfl (fun h4 => ?_) (fun h4 => ?_)
   ·have h4p := h4; try simp only [DL] at h4p
    have hml : m < B.rows.length := by omega
    obtain ⟨r, hr2⟩ : ∃ r, r = B.rows[m] := ⟨_, rfl⟩
    have hBr : B.rows[m] = r := hr2.symm
    have hrm : r ∈ B.rows := hr2 ▸ List.getElem_mem hml
    have hRall := row_all (row_one hBa hrm)
    have hr := hv2.rows r hrm
    have hsl := seatsR_len hr
    have hSm := cntR_take hv2.rows m
    have H := ZBP (ls := ZBI h) H (Sl r.mv 3 MarkV.enc r.marks) (ZAs hLm (ZBl hBm (mem_row hrm))) rfl
    refine ZAM <| ZAA <| ZAG <| ZAD <| gsr <| gq rfl S (ZAI rfl underlying71 Fsiz70 S H rfl rfl (by omega)) fun a S => ?_
    refine gq rfl S (ZAk _ rfl S H rfl (by exact Fagg70) (by omega)) fun a S => ?_
    rw [hBr] at S
    refine q_al S H rfl Fzer70 fun b11 a w S H => ZAF (ZAQ (wn rfl) rfl rfl S H rfl rfl hRall Fsiz70 rfl (cs' := [_, _, _, _, _, _, _, _]) rfl fun a w S H => gnt ?_)
    refine ZAB <| gq rfl S (ZAb rfl S H rfl (by exact Fagg70)) fun a S => ?_
    refine gq rfl S (ZAd rfl S rfl rfl) fun a S => ZAF (ZAV (wn rfl) rfl rfl S (ZAi rfl call21 S rfl) ((by
      obtain ⟨N9, hN9⟩ : ∃ q : Nat, q = ((h.levels.take k).map cntL).sum + ((L.blocks.take i).map cntB).sum + ((B.rows.take m).map cntR).sum := ⟨_, rfl⟩
      have hN8 : N9 ≤ 10000000 := by omega
      rw [← hN9] at H
      have hit := seats_iter (l := [ChkA b18 h z1, ZAU h, Sl h.lv 8 LevV.enc h.levels, Cel b1 26 (HallV.enc h), Cel b9 73 [.string B.name, B.rv, .int .i64 B.at_], Sl B.rv 8 RowV.enc B.rows, Cel b7 79 [.string L.name, .int .i64 L.height, L.bv, L.av, L.iv, L.pv, L.dv, .int .i64 L.at_], Sl L.bv 3 BlockV.enc L.blocks, Sl L.av 7 AreaV.enc L.areas, Cel b11 70 [.string r.name, .int .i64 r.x, .int .i64 r.y, .int .i64 r.from_, .int .i64 r.to_, .int .i64 r.step, r.mv, .int .i64 r.at_]]) (fun (q : Nat) (_ : Unit) => [Cel b5 3 [.int .i64 (((N9 + (q) : Nat)) : Int)]]) r hr 22 [] [.pointer (some ⟨b5, 0, none⟩)] call22 _ (by
        intro q s x hq z t w H
        have hql := (List.getElem?_eq_some_iff.1 hq).1
        exact Ret.mono (count_spec b5 ((N9 + q : Nat) : Int) w (by omega) (.int .i64 s) (.int .i64 x) H) fun u w' H3 => ⟨(), H3⟩) () (by
        have h9 := H.take [Cel b5 3 [.int .i64 ((N9 : Nat) : Int)], Sl r.mv 3 MarkV.enc r.marks, ChkA b18 h z1, ZAU h, Sl h.lv 8 LevV.enc h.levels, Cel b1 26 (HallV.enc h), Cel b9 73 [.string B.name, B.rv, .int .i64 B.at_], Sl B.rv 8 RowV.enc B.rows, Cel b7 79 [.string L.name, .int .i64 L.height, L.bv, L.av, L.iv, L.pv, L.dv, .int .i64 L.at_], Sl L.bv 3 BlockV.enc L.blocks, Sl L.av 7 AreaV.enc L.areas, Cel b11 70 [.string r.name, .int .i64 r.x, .int .i64 r.y, .int .i64 r.from_, .int .i64 r.to_, .int .i64 r.step, r.mv, .int .i64 r.at_]]
        exact h9)
      rw [hN9] at hit
      exact hit)) fun v w hc a S => ?_)
    obtain ⟨_, H⟩ := hc
    have H : HSat No w0 [Cel b5 3 [.int .i64 (((((h.levels.take k).map cntL).sum + ((L.blocks.take i).map cntB).sum + ((B.rows.take m).map cntR).sum + (ZAt r).length : Nat)) : Int)], Sl r.mv 3 MarkV.enc r.marks, ChkA b18 h z1, ZAU h, Sl h.lv 8 LevV.enc h.levels, Cel b1 26 (HallV.enc h), Cel b9 73 [.string B.name, B.rv, .int .i64 B.at_], Sl B.rv 8 RowV.enc B.rows, Cel b7 79 [.string L.name, .int .i64 L.height, L.bv, L.av, L.iv, L.pv, L.dv, .int .i64 L.at_], Sl L.bv 3 BlockV.enc L.blocks, Sl L.av 7 AreaV.enc L.areas, Cel b11 70 [.string r.name, .int .i64 r.x, .int .i64 r.y, .int .i64 r.from_, .int .i64 r.to_, .int .i64 r.step, r.mv, .int .i64 r.at_]] _ := H
    refine ZAj <| ZAK <| ZAA ?_
    have S := S.sel [56, 55, 54, 49, 48, 47, 7, 42, 41, 40, 5, 4, 3, 2, 1] rfl
    refine ZAB <| q_ad S rfl (by omega) fun a S => ?_
    refine q_mv S rfl fun a S => gnt ?_
    have e9 : ((h.levels.take k).map cntL).sum + ((L.blocks.take i).map cntB).sum + ((B.rows.take (m + 1)).map cntR).sum = ((h.levels.take k).map cntL).sum + ((L.blocks.take i).map cntB).sum + ((B.rows.take m).map cntR).sum + (ZAt r).length := by rw [sum_take cntR hml, hBr]; unfold cntR; omega
    exact ⟨m + 1, S.sel [56] rfl, S.sel [55, 54, 49, 48, 47, 7, 42, 41, 40, 5, 4, 3, 2, 1] rfl, ⟨by omega, by rw [e9]; exact H.take _⟩, by omega⟩
   have h4p := h4; try simp only [DL] at h4p
   obtain rfl : m = B.rows.length := by omega
   refine ZAf <| ZAO (ZAO (x_eq ?_))
   refine ZAK <| ZAA ?_
   have S := S.sel [49, 48, 47, 7, 42, 41, 40, 5, 4, 3, 2, 1] rfl
   refine ZAB <| q_ad S rfl (by omega) fun a S => ?_
   refine q_mv S rfl fun a S => gnt ?_
   have e9 : ((h.levels.take k).map cntL).sum + ((L.blocks.take (i + 1)).map cntB).sum = ((h.levels.take k).map cntL).sum + ((L.blocks.take i).map cntB).sum + ((B.rows.take B.rows.length).map cntR).sum := by rw [sum_take cntB hil, hLB, List.take_length]; unfold cntB; omega
   exact ⟨i + 1, S.sel [49] rfl, S.sel [48, 47, 7, 42, 41, 40, 5, 4, 3, 2, 1] rfl, ⟨by omega, by rw [e9]; exact H.take _⟩, by omega⟩
  have h3p := h3; try simp only [DL] at h3p
  obtain rfl : i = L.blocks.length := by omega
  refine ZAf <| ZAO (ZAO (x_eq ?_))
  refine ZAA ?_
  have S := S.sel [7, 42, 41, 40, 5, 4, 3, 2, 1] rfl
  refine gsr <| q_fa S Ffo79_3 rfl fun a S => q_ld S H Fsca75 rfl rfl fun a S => gq rfl S (ZAT rfl underlying75 S H rfl) fun a S => q_mv S rfl fun a S => gnt <| ZAD ?_
  have SU := S.sel [67, 66, 42, 41, 40, 5, 4, 3, 2, 1] rfl
  refine ZBL (X := Nat) SU (fun i => [(68, .int .i64 (i : Int))]) (fun i w => i ≤ L.areas.length ∧ HSat No w0 [ChkA b18 h z1, Cel b5 3 [.int .i64 ((((((h.levels.take k).map cntL).sum + (L.blocks.map cntB).sum + ((L.areas.take (i)).map cntA).sum : Nat)) : Int))], ZAU h, Sl h.lv 8 LevV.enc h.levels, Cel b1 26 (HallV.enc h), Cel b7 79 [.string L.name, .int .i64 L.height, L.bv, L.av, L.iv, L.pv, L.dv, .int .i64 L.at_], Sl L.bv 3 BlockV.enc L.blocks, Sl L.av 7 AreaV.enc L.areas] w) (fun i => L.areas.length - i) 0 (S.sel [68] rfl) (⟨Nat.zero_le _, (by have h9 := H.take [ChkA b18 h z1, Cel b5 3 [.int .i64 ((((((h.levels.take k).map cntL).sum + ((L.blocks.take (L.blocks.length)).map cntB).sum : Nat)) : Int))], ZAU h, Sl h.lv 8 LevV.enc h.levels, Cel b1 26 (HallV.enc h), Cel b7 79 [.string L.name, .int .i64 L.height, L.bv, L.av, L.iv, L.pv, L.dv, .int .i64 L.at_], Sl L.bv 3 BlockV.enc L.blocks, Sl L.av 7 AreaV.enc L.areas]; rw [List.take_length] at h9; exact h9)⟩) (fun i a w S hW => ?_)
  simp only [List.cons_append, List.nil_append] at S
  obtain ⟨hi, H⟩ := hW
  refine gsr <| q_bn S rfl fun a S => gnt <| ZAG <| c_if S rfl (fun h5 => ?_) (fun h5 => ?_)
  ·have h5p := h5; try simp only [DL] at h5p
   have hil : i < L.areas.length := by omega
   obtain ⟨A, hA⟩ : ∃ A, A = L.areas[i] := ⟨_, rfl⟩
   have hLA : L.areas[i] = A := hA.symm
   have hho := (hv1.areas i hil).holds
   rw [hLA] at hho
   have hSi := cntA_take hv1 i
   have hSj := cntB_take hv1 L.blocks.length
   rw [List.take_length] at hSj
   refine ZAM <| ZAA <| ZAG <| ZAD <| gsr <| gq rfl S (ZAI rfl underlying75 Fsiz92 S H rfl rfl (by omega)) fun a S => ?_
   refine gq rfl S (ZAk _ rfl S H rfl (by exact Fagg92) (by omega)) fun a S => ?_
   rw [hLA] at S
   refine q_al S H rfl Fzer92 fun b13 a w S H => ZAF (ZAQ (wn rfl) rfl rfl S H rfl rfl rfl Fsiz92 rfl (cs' := [_, _, _, _, _, _, _]) rfl fun a w S H => gnt ?_)
   refine ZAB <| q_ld S H ZAN rfl rfl fun a S => q_fa S Ffo92_2 rfl fun a S => q_ld S H ZAN rfl rfl fun a S => q_ad S rfl (by omega) fun a S => ?_
   refine q_st S H rfl rfl ZA5 rfl fun a w S H => ?_
   dsimp only [List.set, Nat.zero_add, Nat.reduceAdd] at H
   refine ZAj <| ZAK <| ZAA ?_
   have S := S.sel [68, 67, 66, 42, 41, 40, 5, 4, 3, 2, 1] rfl
   refine ZAB <| q_ad S rfl (by omega) fun a S => ?_
   refine q_mv S rfl fun a S => gnt ?_
   have e9 : (((((h.levels.take k).map cntL).sum + (L.blocks.map cntB).sum + ((L.areas.take (i + 1)).map cntA).sum : Nat)) : Int) = (((((h.levels.take k).map cntL).sum + (L.blocks.map cntB).sum + ((L.areas.take (i)).map cntA).sum : Nat)) : Int) + A.holds := by
     rw [sum_take cntA hil, hLA]
     have h8 : (cntA A : Int) = A.holds := by unfold cntA; omega
     omega
   exact ⟨i + 1, S.sel [68] rfl, S.sel [67, 66, 42, 41, 40, 5, 4, 3, 2, 1] rfl, ⟨by omega, by rw [e9]; exact H.take _⟩, by omega⟩
  have h5p := h5; try simp only [DL] at h5p
  obtain rfl : i = L.areas.length := by omega
  refine ZAf <| ZAO (ZAO (x_eq ?_))
  refine ZAK <| ZAA ?_
  have S := S.sel [42, 41, 40, 5, 4, 3, 2, 1] rfl
  refine ZAB <| q_ad S rfl (by omega) fun a S => ?_
  refine q_mv S rfl fun a S => gnt ?_
  have e9 : ((h.levels.take (k + 1)).map cntL).sum = ((h.levels.take k).map cntL).sum + (L.blocks.map cntB).sum + ((L.areas.take L.areas.length).map cntA).sum := by rw [sum_take cntL hkl, hLn, List.take_length]; unfold cntL; omega
  exact ⟨k + 1, S.sel [42] rfl, S.sel [41, 40, 5, 4, 3, 2, 1] rfl, ⟨by omega, by rw [e9]; exact H.take _⟩, by omega⟩
 have h2p := h2; try simp only [DL] at h2p
 obtain rfl : k = h.levels.length := by omega
 refine ZAf <| ZAO (ZAO (x_eq ?_))
 refine ZAA ?_
 have S := S.sel [5, 4, 3, 2, 1] rfl
 refine ZAG <| ZAD <| gsr <| q_fa S Ffo26_1 rfl fun a S => q_fa S ZBx rfl fun a S => q_ld S H ZAN rfl rfl fun a S => q_fa S Ffo26_1 rfl fun a S => q_fa S ZBy rfl fun a S => ?_
 refine q_ld S H ZAN rfl rfl fun a S => ZAF (ZAP (wn rfl) rfl rfl rfl underlying37 Finf3 S H (idx := [0, 1]) rfl rfl rfl (z := [.int .i64 0, .int .i64 0]) (by kernel_rfl) (cs := [.int .i64 h.stage.x, .int .i64 h.stage.y]) rfl fun b96 a w S H => ?_)
 refine q_cl S rfl call23 (crd_spec _ [h.stage.x, h.stage.y] _ (H.slb b96 [h.stage.x, h.stage.y] encI 1 rfl rfl (by intro x _; rfl) (by simp))) fun v w hc a S => ?_
 obtain ⟨rfl, he⟩ := hc
 have H := H.ext he
 refine gq rfl S (ZBV rfl S rfl) fun a S => q_as S rfl fun a S => gnt ?_
 have S := S.sel [89, 5, 4, 3, 2, 1] rfl
 refine c_if S rfl (fun h6 => ?_) (fun h6 => ?_)
 ·have h6p := h6; try simp only [DL] at h6p
  have hst : ¬ crdL [h.stage.x, h.stage.y] = true := by have := h6p; simp [this]
  refine ZAB <| q_mv S rfl fun a S => q_cl S rfl call24 (ZBd b18 h z1 2 (-1) (-1) _ (H.front (ChkA b18 h z1)) (by omega)) fun v w hc a S => ?_
  obtain ⟨z2, hz2, H⟩ := hc
  refine ZAj <| ZAK <| ZAA ?_
  have S := S.sel [4, 3, 2, 1] rfl
  refine ZAG <| gsr <| q_mv S rfl fun a S => gq rfl S (ZAR rfl S rfl) fun a S => q_fa S Ffo83_1 rfl fun a S => q_ld S H Fsca31 rfl rfl fun a S => gq rfl S (ZAT rfl underlying31 S H rfl) fun a S => q_bn S rfl fun a S => ?_
  refine gnt ?_
  have S := S.sel [111, 4, 3, 2, 1] rfl
  refine c_if S rfl (fun h7 => ?_) (fun h7 => ?_)
  ·have h7p := h7; try simp only [DL] at h7p
   refine ZAG <| ZAZ (loud := []) (tails := []) (free := []) [0, 1, 2, 3, 4, 5] [] Fmo (by kernel_rfl) (by kernel_rfl) rfl H ?_
   refine m_q rfl S (fun w H => ZAL rfl S rfl) fun a S => m_q rfl S (fun w H => ZAR rfl S rfl) fun a S => m_q rfl S (fun w H => ZAC rfl Ffo83_1 S rfl) fun a S => m_q rfl S (fun w H => ZAJ rfl Fsca31 S H rfl rfl) fun a S => m_q rfl S (fun w H => ZA1 rfl S rfl) fun a S => m_q rfl S (fun w H => ZA1 rfl S rfl) fun a S => ZBY (fun w H => ZAA ?_)
   have S := S.sel [3, 2, 1] rfl
   refine ZAe <| ZAX (ret2 rfl S rfl rfl ?_)
   have H9 : HSat No w0 (Cel b18 83 [.string h.name, .int .i64 h.stage.x, .int .i64 h.stage.y, h.lv, z2.1] :: OSl 135 z2.1 3 encFt z2.2 :: _) _ := HSat.unfold (ls := ckL b18 h z2) (H.front (ChkA b18 h z2))
   have H9 := (H9.nilO 57 9 Pl.enc).take [OSl 57 (.slice none 0 0) 9 Pl.enc [], OSl 135 z2.1 3 encFt z2.2]
   exact ⟨.slice none 0 0, z2.1, [], z2.2, rfl, fun _ => rfl, fun h9 => by omega, fun g => absurd g.stage hst, by omega, H9⟩
  have h7p := h7; try simp only [DL] at h7p
  all_goals (
    exfalso
    have h9 := h7p
    omega)
 have h6p := h6; try simp only [DL] at h6p
 refine gsr <| q_ld S H ZAN rfl rfl fun a S => q_bn S rfl fun a S => q_as S rfl fun a S => gnt ?_
 have S := S.sel [101, 4, 3, 2, 1] rfl
 refine c_if S rfl (fun h8 => ?_) (fun h8 => ?_)
 ·have h8p := h8; try simp only [DL] at h8p
  have hbig : ¬ cntH h ≤ 4000 := by have := h8p; rw [List.take_length] at this; unfold cntH; omega
  refine ZAB <| q_mv S rfl fun a S => q_cl S rfl call24 (ZBd b18 h z1 3 (-1) (-1) _ (H.front (ChkA b18 h z1)) (by omega)) fun v w hc a S => ?_
  obtain ⟨z2, hz2, H⟩ := hc
  refine ZAj <| ZAK <| ZAA <| ZAG <| gsr <| q_mv S rfl fun a S => gq rfl S (ZAR rfl S rfl) fun a S => q_fa S Ffo83_1 rfl fun a S => ?_
  refine q_ld S H Fsca31 rfl rfl fun a S => gq rfl S (ZAT rfl underlying31 S H rfl) fun a S => q_bn S rfl fun a S => gnt ?_
  have S := S.sel [111, 4, 3, 2, 1] rfl
  refine c_if S rfl (fun h9 => ?_) (fun h9 => ?_)
  ·have h9p := h9; try simp only [DL] at h9p
   refine ZAG <| ZAZ (loud := []) (tails := []) (free := []) [0, 1, 2, 3, 4, 5] [] Fmo (by kernel_rfl) (by kernel_rfl) rfl H ?_
   refine m_q rfl S (fun w H => ZAL rfl S rfl) fun a S => m_q rfl S (fun w H => ZAR rfl S rfl) fun a S => m_q rfl S (fun w H => ZAC rfl Ffo83_1 S rfl) fun a S => m_q rfl S (fun w H => ZAJ rfl Fsca31 S H rfl rfl) fun a S => m_q rfl S (fun w H => ZA1 rfl S rfl) fun a S => m_q rfl S (fun w H => ZA1 rfl S rfl) fun a S => ZBY (fun w H => ZAA ?_)
   have S := S.sel [3, 2, 1] rfl
   refine ZAe <| ZAX (ret2 rfl S rfl rfl ?_)
   have H9 : HSat No w0 (Cel b18 83 [.string h.name, .int .i64 h.stage.x, .int .i64 h.stage.y, h.lv, z2.1] :: OSl 135 z2.1 3 encFt z2.2 :: _) _ := HSat.unfold (ls := ckL b18 h z2) (H.front (ChkA b18 h z2))
   have H9 := (H9.nilO 57 9 Pl.enc).take [OSl 57 (.slice none 0 0) 9 Pl.enc [], OSl 135 z2.1 3 encFt z2.2]
   exact ⟨.slice none 0 0, z2.1, [], z2.2, rfl, fun _ => rfl, fun h9 => by omega, fun g => absurd g.cnt hbig, by omega, H9⟩
  have h9p := h9; try simp only [DL] at h9p
  all_goals (
    exfalso
    have h9 := h9p
    omega)
 have h8p := h8; try simp only [DL] at h8p
 refine gsr <| q_fa S ZBi rfl fun a S => q_ld S H Fsca24 rfl rfl fun a S => gq rfl S (ZAT rfl underlying24 S H rfl) fun a S => q_mv S rfl fun a S => gnt <| ZAD ?_
 have SU := S.sel [80, 79, 4, 3, 2, 1] rfl
 refine ZBL (X := Nat × CkZ) SU (fun x => [(81, .int .i64 (x.1 : Int))]) (fun x w => x.1 ≤ h.levels.length ∧ x.2.2.length ≤ 1000000000 * x.1 ∧ (GoodH h → x.2.2.length = 0) ∧ HSat No w0 [ChkA b18 h x.2, ZAU h, Sl h.lv 8 LevV.enc h.levels, Cel b1 26 (HallV.enc h)] w) (fun x => h.levels.length - x.1) (0, z1) (S.sel [81] rfl) (⟨Nat.zero_le _, by dsimp only; omega, fun _ => by dsimp only; omega, H.take [ChkA b18 h z1, ZAU h, Sl h.lv 8 LevV.enc h.levels, Cel b1 26 (HallV.enc h)]⟩) (fun x a w S hW => ?_)
 simp only [List.cons_append, List.nil_append] at S
 obtain ⟨n, z⟩ := x
 obtain ⟨hnn, hzn, hzgn, H⟩ := hW
 dsimp only at S H hnn hzn hzgn
 refine gsr <| q_bn S rfl fun a S => gnt <| ZAG <| c_if S rfl (fun h10 => ?_) (fun h10 => ?_)
 ·have h10p := h10; try simp only [DL] at h10p
  have hnl : n < h.levels.length := by omega
  obtain ⟨L, hL⟩ : ∃ L, L = h.levels[n] := ⟨_, rfl⟩
  have hLn : h.levels[n] = L := hL.symm
  have hLm : L ∈ h.levels := hL ▸ List.getElem_mem hnl
  have hLa := hall_lev hH hLm
  have hLall := lev_all hLa
  have hv1 := hR1 n hnl
  rw [hLn] at hv1
  have hlim := hv1.ok.lim
  refine ZAM <| ZAA <| ZAG <| ZAD <| gsr <| gq rfl S (ZAI rfl underlying24 Fsiz79 S H rfl rfl (by omega)) fun a S => ?_
  refine gq rfl S (ZAk _ rfl S H rfl (by exact Fagg79) (by omega)) fun a S => ?_
  rw [hLn] at S
  refine q_al S H rfl Fzer79 fun b15 a w S H => ZAF (ZAQ (wn rfl) rfl rfl S H rfl rfl hLall Fsiz79 rfl (cs' := [_, _, _, _, _, _, _, _]) rfl fun a w S H => gnt ?_)
  refine ZAB <| q_mv S rfl fun a S => gq rfl S (ZAb rfl S H rfl (by exact Fagg79)) fun a S => ?_
  rw [show Value.agg #[.string L.name, .int .i64 L.height, L.bv, L.av, L.iv, L.pv, L.dv, .int .i64 L.at_] = Value.agg (LevV.enc L).toArray from rfl] at S
  refine q_cl S rfl call25 (several_spec b18 h z L n _ hLm hv1 (fun B hBm r hrm => (hB.ints L hLm B hBm r hrm).2.1) (by omega) (H.front2 (ChkA b18 h z) (ZAU h))) fun v w hc a S => ?_
  obtain ⟨z2, hz2, hzs, H⟩ := hc
  refine ZAj <| ZAK <| ZAA ?_
  have S := S.sel [81, 80, 79, 4, 3, 2, 1] rfl
  refine ZAB <| q_ad S rfl (by omega) fun a S => ?_
  exact q_mv S rfl fun a S => gnt <| ⟨(n + 1, z2), S.sel [81] rfl, S.sel [80, 79, 4, 3, 2, 1] rfl, ⟨by dsimp only; omega, by dsimp only; omega, fun g => hzs (g.sev L hLm) (hzgn g), H.take _⟩, by dsimp only; omega⟩
 have h10p := h10; try simp only [DL] at h10p
 obtain rfl : n = h.levels.length := by omega
 refine ZAf <| ZAO (ZAO (x_eq ?_))
 refine ZAK <| ZAA ?_
 have S := S.sel [4, 3, 2, 1] rfl
 refine ZAG <| gsr <| q_mv S rfl fun a S => gq rfl S (ZAR rfl S rfl) fun a S => q_fa S Ffo83_1 rfl fun a S => q_ld S H Fsca31 rfl rfl fun a S => gq rfl S (ZAT rfl underlying31 S H rfl) fun a S => q_bn S rfl fun a S => ?_
 refine gnt ?_
 have S := S.sel [111, 4, 3, 2, 1] rfl
 refine c_if S rfl (fun h11 => ?_) (fun h11 => ?_)
 ·have h11p := h11; try simp only [DL] at h11p
  refine ZAG <| ZAZ (loud := []) (tails := []) (free := []) [0, 1, 2, 3, 4, 5] [] Fmo (by kernel_rfl) (by kernel_rfl) rfl H ?_
  refine m_q rfl S (fun w H => ZAL rfl S rfl) fun a S => m_q rfl S (fun w H => ZAR rfl S rfl) fun a S => m_q rfl S (fun w H => ZAC rfl Ffo83_1 S rfl) fun a S => m_q rfl S (fun w H => ZAJ rfl Fsca31 S H rfl rfl) fun a S => m_q rfl S (fun w H => ZA1 rfl S rfl) fun a S => m_q rfl S (fun w H => ZA1 rfl S rfl) fun a S => ZBY (fun w H => ZAA ?_)
  have S := S.sel [3, 2, 1] rfl
  refine ZAe <| ZAX (ret2 rfl S rfl rfl ?_)
  have H9 : HSat No w0 (Cel b18 83 [.string h.name, .int .i64 h.stage.x, .int .i64 h.stage.y, h.lv, z.1] :: OSl 135 z.1 3 encFt z.2 :: _) _ := HSat.unfold (ls := ckL b18 h z) (H.front (ChkA b18 h z))
  have H9 := (H9.nilO 57 9 Pl.enc).take [OSl 57 (.slice none 0 0) 9 Pl.enc [], OSl 135 z.1 3 encFt z.2]
  exact ⟨.slice none 0 0, z.1, [], z.2, rfl, fun _ => rfl, fun h9 => by have := h11p; omega, hzgn, by have := hB.levels; omega, H9⟩
 refine ZAM <| ZAA <| gsr <| gq rfl S (ZAb rfl S H rfl (by exact Fagg26)) fun a S => ?_
 refine ZAF (ZAV (wn rfl) rfl rfl S (ZAi rfl call26 S rfl) (places_spec h _ (H.ok (ZAU h) (by simp)) hR1) fun pv w hc a S => ?_)
 have H1 := hc
 have H := H.call1 H1 rfl
 refine q_as S rfl fun a S => q_as S rfl fun a S => gnt ?_
 have S := S.sel [3, 2] rfl
 exact ZAe <| ret2 rfl S rfl rfl <| ⟨pv, .slice none 0 0, placesR h, [], rfl, fun h9 => by simp at h9, fun _ => ⟨hR1, rfl⟩, fun _ => rfl, by simp, (H.nilO 135 3 encFt).take [OSl 57 pv 9 Pl.enc (placesR h), OSl 135 (.slice none 0 0) 3 encFt []]⟩
theorem ixb_spec (s : ByteArray) (k : Nat) (w0 : World) : Ret Tryz.prog 142 #[.string s, .int .u8 (k : Int)] w0 (fun u w => u = .int .i64 (Lib.indexByte s.data.toList k.toUInt8) ∧ Ext w0 w) :=
  Calls.mono (Tryz.strings_IndexByte s k w0) fun e w ⟨he, hw⟩ => ⟨_, he, by simp, hw ▸ Ext.refl _⟩
theorem y_iaddraL {n : Sz} {fl : Slots} {a : Act} {P : Program} {o : Oper} {w : World} {T E : TypeId} {x ix : Operand} {i : Nat} {k : IntKind} {b N : Nat} (ho : o.op = .indexAddr T x ix) (hT : P.underlying T = some (.array N E)) (hE : ZA8 P E 1 = true) (S : St n fl a)
    (hx : ev fl x = some (.pointer (some ⟨b, 0, none⟩))) (hi : ev fl ix = some (.int k (i : Int))) (hb : i < N) : Yld P o a w (.pointer (some ⟨b, i, none⟩)) := by
  have h := y_iaddra (w := w) ho hT hE S hx hi (by omega)
  simpa using h
theorem lxS {M : Nat → Prop} {w0 w : World} {l : List Atom} {b T k : Nat} {v : Int} (hv : lxA k = v) (H : HSat M w0 (Cel b T ((lxL k).set k (.int .u8 v)) :: l) w) : HSat M w0 (Cel b T (lxL (k + 1)) :: l) w := by rw [lxL_set hv] at H; exact H
theorem lxN {M : Nat → Prop} {w0 w : World} {l : List Atom} {b T k : Nat} (hv : lxA k = 0) (H : HSat M w0 (Cel b T (lxL k) :: l) w) : HSat M w0 (Cel b T (lxL (k + 1)) :: l) w := by rw [lxL_skip hv] at H; exact H
theorem lxe5 (k : Nat) : (if (decide (97 ≤ (k : Int)) && decide ((k : Int) ≤ 122)) = true then decide (97 ≤ (k : Int)) && decide ((k : Int) ≤ 122) else decide (65 ≤ (k : Int)) && decide ((k : Int) ≤ 90)) = decide ((97 ≤ k ∧ k ≤ 122) ∨ (65 ≤ k ∧ k ≤ 90)) := by
  rw [Bool.eq_iff_iff]
  by_cases h1 : (decide (97 ≤ (k : Int)) && decide ((k : Int) ≤ 122)) = true
  · rw [if_pos h1]; simp only [Bool.and_eq_true, decide_eq_true_eq] at h1 ⊢; omega
  rw [if_neg h1]; simp only [Bool.and_eq_true, decide_eq_true_eq] at h1 ⊢; omega
theorem LXC_cells : (LXC.all fun x => x.oneCell') = true := by
  rw [List.all_eq_true]
  intro x hx
  obtain ⟨i, hi, rfl⟩ := List.getElem_of_mem hx
  have h := LXC_get i (by rw [LXC_len] at hi; exact hi)
  rw [List.getElem?_eq_getElem hi, Option.some.injEq] at h
  rw [h]; rfl
theorem LXC_put : (lxL 0).take 0 ++ LXC ++ (lxL 0).drop (0 + LXC.length) = LXC := by
  rw [LXC_len, List.drop_eq_nil_of_le (by rw [lxL_len]; omega)]; simp
theorem LXC_put2 (cs : List Value) (h : cs.length = 256) : cs.take 0 ++ LXC ++ cs.drop (0 + LXC.length) = LXC := by
  rw [LXC_len, List.drop_eq_nil_of_le (by rw [h]; omega)]; simp
set_option maxHeartbeats 4000000 in
set_option maxRecDepth 100000 in
theorem classes_spec (w0 : World) :
    Ret Tryz.prog 125 #[] w0 (fun u w => u = .agg LXC.toArray ∧ Ext w0 w) := by
 refine ZAE (nt := 57) Tryz.func125 rfl rfl rfl (fl := []) rfl (fun a S => ?_)
 have H := HSat.start w0
 refine gsr <| q_al S H rfl Fzer216 fun b0 a w S H => gnt <| gsr <| q_al S H rfl Fzer216 fun b1 a w S H => gnt <| ZAG <| gsr ?_
 refine q_mv S rfl fun a S => gnt <| ZAD ?_
 have SU := S.sel [1, 0] rfl
 refine loop (X := Nat) SU (fun k => [(4, .int .i64 (k : Int))]) (fun k => [Cel b1 216 (lxL k), Cel b0 216 (lxL 0)]) (fun k => k ≤ 256) (fun k => 256 - k) 0 (S.sel [4] rfl) (by rw [lxL_zero]; exact H) (by omega) (fun k a w S H hi => ?_)
 simp only [List.cons_append, List.nil_append] at S hi
 refine gsr <| q_bn S rfl fun a S => gnt <| ZAG <| c_if S rfl (fun h1 => ?_) (fun h1 => ?_)
 ·have h1p := h1; try simp only [DL] at h1p
  refine ZAM <| ZAA <| ZAG <| ZAD <| gsr <| q_mv S rfl fun a S => q_as S rfl fun a S => gnt ?_
  refine gsr <| q_mv S rfl fun a S => gq rfl S (y_convg (r := (k : Int)) rfl underlying3 underlying5 S rfl (by rw [IntKind.wrap_u8]; omega)) fun a S => ?_
  refine q_as S rfl fun a S => gnt ?_
  have S := S.sel [3, 2, 4, 1, 0] rfl
  refine ZAD <| ZAG <| gsr <| q_mv S rfl fun a S => q_bn S rfl fun a S => q_mv S rfl fun a S => ?_
  refine' wl_and 2 12 rfl S H rfl rfl rfl rfl rfl rfl rfl (fun _ S => (wn rfl)) (fun h2 kk => ?yh2) (fun a w S H => ?_)
  case yh2 =>
   exact gz 12 h2 S rfl rfl rfl rfl rfl rfl (ZAL rfl S rfl) fun a S => gz 12 h2 S rfl rfl rfl rfl rfl rfl (ZAn rfl S rfl rfl rfl) fun a S => gq rfl S (ZBf rfl h2 S rfl rfl) fun a S => kk _ _ (S.join 3 15 rfl rfl) H
  refine q_as S rfl fun a S => gnt ?_
  have S := S.sel [9, 3, 2, 4, 1, 0] rfl
  refine' c_jb (s := 9) S rfl (fun h3 => ?th3) (fun h3 => ?fh3) (fun a w S H => ?_)
  case th3 =>
   exact ZAM <| ZAA <| ⟨S.sel [9] rfl, S.sel [3, 2, 4, 1, 0] rfl, H⟩
  case fh3 =>
   refine ZAB <| q_mv S rfl fun a S => q_bn S rfl fun a S => q_mv S rfl fun a S => ?_
   refine' wl_and 2 18 rfl S H rfl rfl rfl rfl rfl rfl rfl (fun _ S => (wn rfl)) (fun h4 kk => ?yh4) (fun a w S H => ?_)
   case yh4 =>
    exact gz 18 h4 S rfl rfl rfl rfl rfl rfl (ZAL rfl S rfl) fun a S => gz 18 h4 S rfl rfl rfl rfl rfl rfl (ZAn rfl S rfl rfl rfl) fun a S => gq rfl S (ZBf rfl h4 S rfl rfl) fun a S => kk _ _ (S.join 3 21 rfl rfl) H
   exact q_as S rfl fun a S => gnt <| ⟨S.sel [9] rfl, S.sel [3, 2, 4, 1, 0] rfl, H⟩
  refine c_if S rfl (fun h5 => ?_) (fun h5 => ?_)
  ·have h5p := h5; try simp only [DL] at h5p
   refine ZAB <| q_mv S rfl fun a S => gq rfl S ((y_iaddraL rfl underlying216 Fsiz5 S rfl rfl (by omega))) fun a S => ?_
   refine ZAF (ZAS (wn rfl) rfl rfl S H rfl rfl rfl Fsiz5 (by rw [lxL_len, Nat.blt_eq]; omega) fun a w S H => ?_)
   refine ZAj <| ZAK <| ZAK <| ZAA ?_
   have S := S.sel [4, 1, 0] rfl
   refine ZAB <| q_ad S rfl (by omega) fun a S => ?_
   refine q_mv S rfl fun a S => gnt ?_
   rw [lxe5] at h5
   simp only [decide_eq_true_eq, decide_eq_false_iff_not] at h5
   have hk1 : k < 256 := by omega
   exact ⟨k + 1, S.sel [4] rfl, S.sel [1, 0] rfl, lxS (by unfold lxA; first | (exfalso; omega) | (rw [if_pos h5]; done) | (rw [if_neg h5, if_pos (by omega)]) | (rw [if_neg h5, if_neg (by omega), if_pos (by omega)]) | (rw [if_neg h5, if_neg (by omega), if_neg (by omega), if_pos (by omega)]) | (rw [if_neg h5, if_neg (by omega), if_neg (by omega), if_neg (by omega), if_pos (by omega)]) | (rw [if_neg h5, if_neg (by omega), if_neg (by omega), if_neg (by omega), if_neg (by omega)]) | (exfalso; omega)) H, by omega, by omega⟩
  have h5p := h5; try simp only [DL] at h5p
  refine gsr <| q_mv S rfl fun a S => q_bn S rfl fun a S => q_mv S rfl fun a S => ?_
  refine' wl_and 2 27 rfl S H rfl rfl rfl rfl rfl rfl rfl (fun _ S => (wn rfl)) (fun h6 kk => ?yh6) (fun a w S H => ?_)
  case yh6 =>
   exact gz 27 h6 S rfl rfl rfl rfl rfl rfl (ZAL rfl S rfl) fun a S => gz 27 h6 S rfl rfl rfl rfl rfl rfl (ZAn rfl S rfl rfl rfl) fun a S => gq rfl S (ZBf rfl h6 S rfl rfl) fun a S => kk _ _ (S.join 3 30 rfl rfl) H
  refine q_as S rfl fun a S => gnt ?_
  have S := S.sel [24, 3, 2, 4, 1, 0] rfl
  refine c_if S rfl (fun h7 => ?_) (fun h7 => ?_)
  ·have h7p := h7; try simp only [DL] at h7p
   refine ZAB <| q_mv S rfl fun a S => gq rfl S ((y_iaddraL rfl underlying216 Fsiz5 S rfl rfl (by omega))) fun a S => ?_
   refine ZAF (ZAS (wn rfl) rfl rfl S H rfl rfl rfl Fsiz5 (by rw [lxL_len, Nat.blt_eq]; omega) fun a w S H => ?_)
   refine ZAj <| ZAK <| ZAK <| ZAA ?_
   have S := S.sel [4, 1, 0] rfl
   refine ZAB <| q_ad S rfl (by omega) fun a S => ?_
   refine q_mv S rfl fun a S => gnt ?_
   rw [lxe5] at h5
   simp only [decide_eq_true_eq, decide_eq_false_iff_not] at h5
   have hk1 : k < 256 := by omega
   exact ⟨k + 1, S.sel [4] rfl, S.sel [1, 0] rfl, lxS (by unfold lxA; first | (exfalso; omega) | (rw [if_pos h5]; done) | (rw [if_neg h5, if_pos (by omega)]) | (rw [if_neg h5, if_neg (by omega), if_pos (by omega)]) | (rw [if_neg h5, if_neg (by omega), if_neg (by omega), if_pos (by omega)]) | (rw [if_neg h5, if_neg (by omega), if_neg (by omega), if_neg (by omega), if_pos (by omega)]) | (rw [if_neg h5, if_neg (by omega), if_neg (by omega), if_neg (by omega), if_neg (by omega)]) | (exfalso; omega)) H, by omega, by omega⟩
  have h7p := h7; try simp only [DL] at h7p
  refine gsr <| q_mv S rfl fun a S => q_cl S rfl call142 (ixb_spec _ k _) fun v w hc a S => ?_
  obtain ⟨rfl, he⟩ := hc
  have H := H.ext he
  refine q_bn S rfl fun a S => q_as S rfl fun a S => gnt ?_
  have S := S.sel [33, 3, 2, 4, 1, 0] rfl
  refine c_if S rfl (fun h8 => ?_) (fun h8 => ?_)
  ·have h8p := h8; try simp only [DL] at h8p
   refine ZAB <| q_mv S rfl fun a S => gq rfl S ((y_iaddraL rfl underlying216 Fsiz5 S rfl rfl (by omega))) fun a S => ?_
   refine ZAF (ZAS (wn rfl) rfl rfl S H rfl rfl rfl Fsiz5 (by rw [lxL_len, Nat.blt_eq]; omega) fun a w S H => ?_)
   refine ZAj <| ZAK <| ZAK <| ZAA ?_
   have S := S.sel [4, 1, 0] rfl
   refine ZAB <| q_ad S rfl (by omega) fun a S => ?_
   refine q_mv S rfl fun a S => gnt ?_
   rw [lxe5] at h5
   simp only [decide_eq_true_eq, decide_eq_false_iff_not] at h5
   have hk1 : k < 256 := by omega
   exact ⟨k + 1, S.sel [4] rfl, S.sel [1, 0] rfl, lxS (by unfold lxA; first | (exfalso; omega) | (rw [if_pos h5]; done) | (rw [if_neg h5, if_pos (by omega)]) | (rw [if_neg h5, if_neg (by omega), if_pos (by omega)]) | (rw [if_neg h5, if_neg (by omega), if_neg (by omega), if_pos (by omega)]) | (rw [if_neg h5, if_neg (by omega), if_neg (by omega), if_neg (by omega), if_pos (by omega)]) | (rw [if_neg h5, if_neg (by omega), if_neg (by omega), if_neg (by omega), if_neg (by omega)]) | (exfalso; omega)) H, by omega, by omega⟩
  have h8p := h8; try simp only [DL] at h8p
  refine gsr <| q_mv S rfl fun a S => q_cl S rfl call142 (ixb_spec _ k _) fun v w hc a S => ?_
  obtain ⟨rfl, he⟩ := hc
  have H := H.ext he
  refine q_bn S rfl fun a S => q_as S rfl fun a S => gnt ?_
  have S := S.sel [39, 3, 2, 4, 1, 0] rfl
  refine c_if S rfl (fun h9 => ?_) (fun h9 => ?_)
  ·have h9p := h9; try simp only [DL] at h9p
   refine ZAB <| q_mv S rfl fun a S => gq rfl S ((y_iaddraL rfl underlying216 Fsiz5 S rfl rfl (by omega))) fun a S => ?_
   refine ZAF (ZAS (wn rfl) rfl rfl S H rfl rfl rfl Fsiz5 (by rw [lxL_len, Nat.blt_eq]; omega) fun a w S H => ?_)
   refine ZAj <| ZAK <| ZAK <| ZAA ?_
   have S := S.sel [4, 1, 0] rfl
   refine ZAB <| q_ad S rfl (by omega) fun a S => ?_
   refine q_mv S rfl fun a S => gnt ?_
   rw [lxe5] at h5
   simp only [decide_eq_true_eq, decide_eq_false_iff_not] at h5
   have hk1 : k < 256 := by omega
   exact ⟨k + 1, S.sel [4] rfl, S.sel [1, 0] rfl, lxS (by unfold lxA; first | (exfalso; omega) | (rw [if_pos h5]; done) | (rw [if_neg h5, if_pos (by omega)]) | (rw [if_neg h5, if_neg (by omega), if_pos (by omega)]) | (rw [if_neg h5, if_neg (by omega), if_neg (by omega), if_pos (by omega)]) | (rw [if_neg h5, if_neg (by omega), if_neg (by omega), if_neg (by omega), if_pos (by omega)]) | (rw [if_neg h5, if_neg (by omega), if_neg (by omega), if_neg (by omega), if_neg (by omega)]) | (exfalso; omega)) H, by omega, by omega⟩
  have h9p := h9; try simp only [DL] at h9p
  refine ZAG <| gsr <| q_mv S rfl fun a S => q_bn S rfl fun a S => q_as S rfl fun a S => gnt <| c_if S rfl (fun h10 => ?_) (fun h10 => ?_)
  ·have h10p := h10; try simp only [DL] at h10p
   refine ZAM <| ZAA ?_
   have S := S.sel [45, 2, 4, 1, 0] rfl
   refine c_if S rfl (fun h11 => ?_) (fun h11 => ?_)
   ·have h11p := h11; try simp only [DL] at h11p
    refine ZAB <| q_mv S rfl fun a S => gq rfl S ((y_iaddraL rfl underlying216 Fsiz5 S rfl rfl (by omega))) fun a S => ?_
    refine ZAF (ZAS (wn rfl) rfl rfl S H rfl rfl rfl Fsiz5 (by rw [lxL_len, Nat.blt_eq]; omega) fun a w S H => ?_)
    refine ZAj <| ZAK <| ZAK <| ZAA ?_
    have S := S.sel [4, 1, 0] rfl
    refine ZAB <| q_ad S rfl (by omega) fun a S => ?_
    refine q_mv S rfl fun a S => gnt ?_
    rw [lxe5] at h5
    simp only [decide_eq_true_eq, decide_eq_false_iff_not] at h5
    have hk1 : k < 256 := by omega
    exact ⟨k + 1, S.sel [4] rfl, S.sel [1, 0] rfl, lxS (by unfold lxA; first | (exfalso; omega) | (rw [if_pos h5]; done) | (rw [if_neg h5, if_pos (by omega)]) | (rw [if_neg h5, if_neg (by omega), if_pos (by omega)]) | (rw [if_neg h5, if_neg (by omega), if_neg (by omega), if_pos (by omega)]) | (rw [if_neg h5, if_neg (by omega), if_neg (by omega), if_neg (by omega), if_pos (by omega)]) | (rw [if_neg h5, if_neg (by omega), if_neg (by omega), if_neg (by omega), if_neg (by omega)]) | (exfalso; omega)) H, by omega, by omega⟩
   have h11p := h11; try simp only [DL] at h11p
   refine ZAM <| ZAK <| ZAK <| ZAA <| ZAB <| q_ad S rfl (by omega) fun a S => ?_
   refine q_mv S rfl fun a S => gnt ?_
   rw [lxe5] at h5
   simp only [decide_eq_true_eq, decide_eq_false_iff_not] at h5
   have hk1 : k < 256 := by omega
   exact ⟨k + 1, S.sel [4] rfl, S.sel [1, 0] rfl, lxN (by unfold lxA; first | (exfalso; omega) | (rw [if_pos h5]; done) | (rw [if_neg h5, if_pos (by omega)]) | (rw [if_neg h5, if_neg (by omega), if_pos (by omega)]) | (rw [if_neg h5, if_neg (by omega), if_neg (by omega), if_pos (by omega)]) | (rw [if_neg h5, if_neg (by omega), if_neg (by omega), if_neg (by omega), if_pos (by omega)]) | (rw [if_neg h5, if_neg (by omega), if_neg (by omega), if_neg (by omega), if_neg (by omega)]) | (exfalso; omega)) H, by omega, by omega⟩
  have h10p := h10; try simp only [DL] at h10p
  refine ZAB <| q_mv S rfl fun a S => q_bn S rfl fun a S => q_as S rfl fun a S => gnt ?_
  have S := S.sel [45, 2, 4, 1, 0] rfl
  refine c_if S rfl (fun h12 => ?_) (fun h12 => ?_)
  ·have h12p := h12; try simp only [DL] at h12p
   refine ZAB <| q_mv S rfl fun a S => gq rfl S ((y_iaddraL rfl underlying216 Fsiz5 S rfl rfl (by omega))) fun a S => ?_
   refine ZAF (ZAS (wn rfl) rfl rfl S H rfl rfl rfl Fsiz5 (by rw [lxL_len, Nat.blt_eq]; omega) fun a w S H => ?_)
   refine ZAj <| ZAK <| ZAK <| ZAA ?_
   have S := S.sel [4, 1, 0] rfl
   refine ZAB <| q_ad S rfl (by omega) fun a S => ?_
   refine q_mv S rfl fun a S => gnt ?_
   rw [lxe5] at h5
   simp only [decide_eq_true_eq, decide_eq_false_iff_not] at h5
   have hk1 : k < 256 := by omega
   exact ⟨k + 1, S.sel [4] rfl, S.sel [1, 0] rfl, lxS (by unfold lxA; first | (exfalso; omega) | (rw [if_pos h5]; done) | (rw [if_neg h5, if_pos (by omega)]) | (rw [if_neg h5, if_neg (by omega), if_pos (by omega)]) | (rw [if_neg h5, if_neg (by omega), if_neg (by omega), if_pos (by omega)]) | (rw [if_neg h5, if_neg (by omega), if_neg (by omega), if_neg (by omega), if_pos (by omega)]) | (rw [if_neg h5, if_neg (by omega), if_neg (by omega), if_neg (by omega), if_neg (by omega)]) | (exfalso; omega)) H, by omega, by omega⟩
  have h12p := h12; try simp only [DL] at h12p
  refine ZAM <| ZAK <| ZAK <| ZAA <| ZAB <| q_ad S rfl (by omega) fun a S => ?_
  refine q_mv S rfl fun a S => gnt ?_
  rw [lxe5] at h5
  simp only [decide_eq_true_eq, decide_eq_false_iff_not] at h5
  have hk1 : k < 256 := by omega
  exact ⟨k + 1, S.sel [4] rfl, S.sel [1, 0] rfl, lxN (by unfold lxA; first | (exfalso; omega) | (rw [if_pos h5]; done) | (rw [if_neg h5, if_pos (by omega)]) | (rw [if_neg h5, if_neg (by omega), if_pos (by omega)]) | (rw [if_neg h5, if_neg (by omega), if_neg (by omega), if_pos (by omega)]) | (rw [if_neg h5, if_neg (by omega), if_neg (by omega), if_neg (by omega), if_pos (by omega)]) | (rw [if_neg h5, if_neg (by omega), if_neg (by omega), if_neg (by omega), if_neg (by omega)]) | (exfalso; omega)) H, by omega, by omega⟩
 have h1p := h1; try simp only [DL] at h1p
 obtain rfl : k = 256 := by omega
 refine ZAf <| ZAO (ZAO (x_eq ?_))
 refine ZAA <| gsr <| gq rfl S (y_iaddra rfl underlying216 Fsiz5 S rfl rfl (by omega)) fun a S => ?_
 refine ZAF (ZAS (wn rfl) rfl rfl S H rfl rfl rfl Fsiz5 (by simp only [List.length_set, lxL_len]; rfl) fun a w S H => ?_)
 refine gq rfl S (y_iaddra rfl underlying216 Fsiz5 S rfl rfl (by omega)) fun a S => ?_
 refine ZAF (ZAS (wn rfl) rfl rfl S H rfl rfl rfl Fsiz5 (by simp only [List.length_set, lxL_len]; rfl) fun a w S H => ?_)
 refine gq rfl S (y_iaddra rfl underlying216 Fsiz5 S rfl rfl (by omega)) fun a S => ?_
 refine ZAF (ZAS (wn rfl) rfl rfl S H rfl rfl rfl Fsiz5 (by simp only [List.length_set, lxL_len]; rfl) fun a w S H => ?_)
 have H : HSat No w0 [Cel b1 216 LXC, Cel b0 216 (lxL 0)] w := H
 refine gnt ?_
 have S := S.sel [1, 0] rfl
 refine gsr <| gq rfl S ((ZAb rfl S H rfl (by rw [LXC_len]; exact Fagg216))) fun a S => ?_
 refine ZAF (ZAQ (wn rfl) rfl rfl S H rfl rfl LXC_cells (by rw [LXC_len]; exact Fsiz216) (by rw [LXC_len, lxL_len]; rfl) (cs' := LXC) LXC_put fun a w S H => ?_)
 refine gnt <| ZAe <| retc rfl S H rfl (by exact Fagg216) ?_
 exact ⟨rfl, H.toExt⟩
theorem lxat_spec (s : ByteArray) (b c i : Nat) (w0 : World) (hb : w0.heap[b]? = some (.cells #[.string s] 9 (0, 0))) (hc : w0.heap[c]? = some (.cells LXC.toArray 216 (0, 0))) :
    Ret Tryz.prog 126 #[.int .i64 (i : Int), .pointer (some ⟨b, 0, none⟩), .pointer (some ⟨c, 0, none⟩)] w0 (fun u w => u = .int .u8 (lxT s i) ∧ Ext w0 w) := by
 refine ZAE (nt := 14) Tryz.func126 rfl rfl rfl (fl := [(0, .int .i64 (i : Int)), (1, .pointer (some ⟨b, 0, none⟩)), (2, .pointer (some ⟨c, 0, none⟩))]) rfl (fun a S => ?_)
 have H := HSat.start w0
 have H := H.ro0 (Atom.ro (Cel b 9 [.string s])) rfl (hb)
 have H := H.ro0 (Atom.ro (Cel c 216 LXC)) rfl (hc)
 refine gsr <| q_as S rfl fun a S => gnt <| ZAG <| gsr <| q_mv S rfl fun a S => q_ld S H Fsca9 rfl rfl fun a S => gq rfl S (y_lenstr rfl underlying9 S rfl) fun a S => ?_
 refine q_bn S rfl fun a S => gnt <| c_if S rfl (fun h1 => ?_) (fun h1 => ?_)
 ·have h1p := h1; try simp only [DL] at h1p
  refine gsr <| q_as S rfl fun a S => gnt ?_
  have S := S.sel [4, 0, 1, 2] rfl
  refine ZAe <| ZAX (ret1 rfl S rfl ?_)
  exact ⟨by rw [lxT_ge (by omega)], H.toExt⟩
 have h1p := h1; try simp only [DL] at h1p
 refine ZAM <| ZAA ?_
 have S := S.sel [4, 0, 1, 2] rfl
 refine gsr <| q_ld S H Fsca9 rfl rfl fun a S => q_mv S rfl fun a S => gq rfl S (y_idxstr rfl underlying9 S rfl rfl (by omega)) fun a S => ?_
 refine gq rfl S ((y_iaddraL rfl underlying216 Fsiz5 S rfl rfl (UInt8.toNat_lt _))) fun a S => gq rfl S ((ZAJ rfl Fsca5 S H rfl (LXC_get _ (UInt8.toNat_lt _)))) fun a S => q_as S rfl fun a S => gnt ?_
 have S := S.sel [4] rfl
 exact ZAe <| ret1 rfl S rfl <| ⟨by unfold lxT; rw [dif_pos (by omega)], H.toExt⟩
set_option maxRecDepth 100000 in
theorem tokens_spec (s : ByteArray) (w0 : World) :
    Ret Tryz.prog 108 #[.string s] w0 (fun u w => ∃ b1 b4 b3, u = .func (.func 127) #[] #[.pointer (some ⟨b1, 0, none⟩), .pointer (some ⟨b4, 0, none⟩)] ∧ HSat No w0 [Cel b4 218 [.func (.func 126) #[] #[.pointer (some ⟨b1, 0, none⟩), .pointer (some ⟨b3, 0, none⟩)]], Cel b3 216 LXC, Cel b1 9 [.string s]] w) := by
 refine ZAE (nt := 8) Tryz.func108 rfl rfl rfl (fl := [(0, .string s)]) rfl (fun a S => ?_)
 have H := HSat.start w0
 refine gsr <| ZAF (op_box1 (wn rfl) rfl rfl rfl S H rfl rfl fun b1 a w S H => q_as S rfl fun a S => gnt ?_)
 refine gsr <| q_cl S rfl call125 (classes_spec _) fun v w hc a S => ?_
 obtain ⟨rfl, he⟩ := hc
 have H := H.ext he
 refine q_al S H rfl Fzer216 fun b3 a w S H => ZAF (ZAQ (wn rfl) rfl rfl S H rfl rfl LXC_cells (by rw [LXC_len]; exact Fsiz216) (by rw [LXC_len]; rfl) (cs' := LXC) (LXC_put2 _ (by kernel_rfl)) fun a w S H => ?_)
 refine gnt <| gsr <| gq rfl S (ZAd rfl S rfl rfl) fun a S => q_al S H rfl Fzer218 fun b4 a w S H => q_st S H rfl rfl Fsiz218 rfl fun a w S H => ?_
 dsimp only [List.set, Nat.zero_add, Nat.reduceAdd] at H
 refine gnt ?_
 have S := S.sel [4, 2, 1] rfl
 refine gsr <| gq rfl S (ZAd rfl S rfl rfl) fun a S => q_as S rfl fun a S => gnt ?_
 have S := S.sel [2] rfl
 exact ZAe <| ret1 rfl S rfl <| ⟨b1, b4, b3, rfl, H.take _⟩
theorem bytesWorld_ext (w : World) (s : ByteArray) : Ext w (Lib.bytesWorld w 5 s) :=
  ⟨rfl, rfl, rfl, by rw [Lib.bytesWorld_size]; omega, fun k hk _ => Lib.bytesWorld_at_old w 5 s k hk, fun k hk ht => by rw [Lib.bytesWorld_at_old w 5 s k hk]; exact ht⟩
theorem atoi_spec (s : ByteArray) (n : Int) (w0 : World) (hl : s.size ≤ 18) (h : Lib.atoi s.data.toList = some n) : Ret Tryz.prog 128 #[.string s] w0 (fun u w => u = .tuple #[.int .i64 n, .nilIface] ∧ Ext w0 w) :=
  Calls.mono (Tryz.strconv_Atoi s n hl h w0) fun e w ⟨he, t, hw⟩ => ⟨_, he, rfl, hw ▸ bytesWorld_ext w0 t⟩
set_option maxHeartbeats 4000000 in
theorem lex_iter {M : Nat → Prop} {u0 : World} {Z : Type} (L : List TokV → Z → List Atom) (lb b1 b4 b3 : Nat) (s : ByteArray) (w0 : World) (hl : s.size ≤ 4000) (hg : ∀ i, i < s.size → lxGood s i = true)
    (hround : ∀ z t x tl w, z.length < s.size → HSat M u0 (L z x ++ tl) w → YieldRet Tryz.prog lb #[(fun t : TokV => Value.agg (TokV.enc t ++ [Value.int .i64 0]).toArray) t] w (fun u w' => u = .bool true ∧ ∃ x', HSat M u0 (L (z ++ [t]) x' ++ tl) w')) (x0 : Z) (h0 : HSat M u0 (L [] x0 ++ [Atom.ro (Cel b4 218 [.func (.func 126) #[] #[.pointer (some ⟨b1, 0, none⟩), .pointer (some ⟨b3, 0, none⟩)]]), Atom.ro (Cel b3 216 LXC), Atom.ro (Cel b1 9 [.string s])]) w0) :
    Ret Tryz.prog 127 #[.func (.yield lb) #[] #[], .pointer (some ⟨b1, 0, none⟩), .pointer (some ⟨b4, 0, none⟩)] w0 (fun u w => ∃ x, HSat M u0 (L (lexN s s.size).1 x ++ [Atom.ro (Cel b4 218 [.func (.func 126) #[] #[.pointer (some ⟨b1, 0, none⟩), .pointer (some ⟨b3, 0, none⟩)]]), Atom.ro (Cel b3 216 LXC), Atom.ro (Cel b1 9 [.string s])]) w) := by
 refine ZAE (nt := 148) Tryz.func127 rfl rfl rfl (fl := [(0, .func (.yield lb) #[] #[]), (1, .pointer (some ⟨b1, 0, none⟩)), (2, .pointer (some ⟨b4, 0, none⟩))]) rfl (fun a S => ?_)
 have H := h0
 refine g_scope <| gsr <| q_as S rfl fun a S => gnt <| ZAG <| g_label <| ZAA <| ZAD ?_
 have SU := S.sel [0, 1, 2] rfl
 refine ZBL (X := Nat) SU (fun q => [(4, .int .i64 ((lexN s q).2 : Int))]) (fun q w => q ≤ (lexN s q).2 ∧ (lexN s q).2 ≤ s.size ∧ (lexN s q).1.length ≤ (lexN s q).2 ∧ ∃ x, HSat M u0 (L (lexN s q).1 x ++ [Atom.ro (Cel b4 218 [.func (.func 126) #[] #[.pointer (some ⟨b1, 0, none⟩), .pointer (some ⟨b3, 0, none⟩)]]), Atom.ro (Cel b3 216 LXC), Atom.ro (Cel b1 9 [.string s])]) w) (fun q => s.size - (lexN s q).2) 0 (S.sel [4] rfl) (⟨Nat.zero_le _, Nat.zero_le _, Nat.zero_le _, x0, H⟩) (fun q a w S hW => ?_)
 simp only [List.cons_append, List.nil_append] at S
 obtain ⟨hq, hqs, hzl, x, H⟩ := hW
 have hstep := lexN_s s q
 have hdone := lexN_all (s := s) (q := q)
 generalize hz : lexN s q = zi at *
 obtain ⟨z, i⟩ := zi
 dsimp only at S hq hqs hzl H hstep hdone
 refine ZAG <| gsr <| q_mv S rfl fun a S => q_ld S H Fsca9 rfl rfl fun a S => gq rfl S (y_lenstr rfl underlying9 S rfl) fun a S => q_bn S rfl fun a S => gnt <| c_if S rfl (fun h1 => ?_) (fun h1 => ?_)
 ·have h1p := h1; try simp only [DL] at h1p
  have hgi := hg i (by omega)
  have hstep := hstep (by omega)
  refine ZAM <| ZAA ?_
  have S := S.sel [4, 0, 1, 2] rfl
  refine ZAD <| gsr <| q_mv S rfl fun a S => q_as S rfl fun a S => gnt <| gsr <| q_mv S rfl fun a S => gq rfl S (ZAx rfl Fbld169 S rfl (idx := [3]) rfl (cs := [.int .i64 0, .string ⟨#[]⟩, .int .i64 0, .int .i64 (i : Int)]) (by kernel_rfl)) fun a S => ?_
  refine gq rfl S (ZAx rfl Fbld193 S rfl (idx := [0]) rfl (cs := [.int .i64 0, .string ⟨#[]⟩, .int .i64 0, .int .i64 (i : Int), .int .i64 0]) (by kernel_rfl)) fun a S => ?_
  refine q_al S H rfl Fzer193 fun b6 a w S H => ZAF (ZAQ (wn rfl) rfl rfl S H rfl rfl rfl Fsiz193 rfl (cs' := [_, _, _, _, _]) rfl fun a w S H => gnt ?_)
  have S := S.sel [6, 5, 4, 0, 1, 2] rfl
  refine ZAG ?_
  refine gsr ?_
  refine q_ld S H Fsca218 rfl rfl fun a S => ?_
  refine q_mv S rfl fun a S => ?_
  refine ZAF (ZAV (wn rfl) rfl rfl S (ZAp rfl call126 S rfl rfl) (lxat_spec s b1 b3 (i) _ (H.rd b1) (H.rd b3)) fun v w hc a S => ?_)
  obtain ⟨rfl, he⟩ := hc
  have H := H.ext he
  refine gnt <| ZAD <| gsr <| q_bn S rfl fun a S => q_as S rfl fun a S => gnt <| c_if S rfl (fun h2 => ?_) (fun h2 => ?_)
  ·have h2p := h2; try simp only [DL] at h2p
   have hls : lexStep s i = (none, i + 1) := by unfold lexStep; rw [if_pos h2p]
   refine gsr <| q_mv S rfl fun a S => q_ad S rfl (by omega) fun a S => ?_
   refine q_as S rfl fun a S => gnt ?_
   have S := S.sel [4, 6, 5, 0, 1, 2] rfl
   refine ZAf <| x_ne rfl (ZAO (x_eq ?_))
   refine ZAA ?_
   rw [hls] at hstep
   simp only [Option.toList, List.append_nil] at hstep
   refine ⟨q + 1, S.nil.cons S 4 (by rw [hstep]; rfl), S.sel [0, 1, 2] rfl, ?_, ?_⟩
   · rw [hstep]; exact ⟨by dsimp only; omega, by dsimp only; omega, by dsimp only; (try simp only [List.length_append, List.length_cons, List.length_nil]); omega, by first | exact ⟨x2, HSat.unmid H⟩ | exact ⟨x, H.tail⟩⟩
   rw [hstep]; dsimp only; omega
  have h2p := h2; try simp only [DL] at h2p
  refine gsr <| q_bn S rfl fun a S => q_as S rfl fun a S => gnt ?_
  have S := S.sel [26, 20, 6, 5, 4, 0, 1, 2] rfl
  refine c_if S rfl (fun h3 => ?_) (fun h3 => ?_)
  ·have h3p := h3; try simp only [DL] at h3p
   all_goals (
     exfalso
     have := lxGoodC hgi; omega)
  have h3p := h3; try simp only [DL] at h3p
  refine gsr <| q_bn S rfl fun a S => q_as S rfl fun a S => gnt <| c_if S rfl (fun h4 => ?_) (fun h4 => ?_)
  ·have h4p := h4; try simp only [DL] at h4p
   have hc3 : lxT s i = 3 := h4p
   refine ZAG ?_
   refine gsr ?_
   refine q_ld S H Fsca218 rfl rfl fun a S => ?_
   refine q_mv S rfl fun a S => ?_
   refine ZAF (ZAV (wn rfl) rfl rfl S (ZAp rfl call126 S rfl rfl) (lxat_spec s b1 b3 (i) _ (H.rd b1) (H.rd b3)) fun v w hc a S => ?_)
   obtain ⟨rfl, he⟩ := hc
   have H := H.ext he
   refine q_as S rfl fun a S => gnt ?_
   have S := S.sel [7, 6, 5, 4, 0, 1, 2] rfl
   refine ZAD ?_
   have SU := S.sel [6, 5, 0, 1, 2] rfl
   refine ZB4 (X := Nat) SU (fun e => [(4, .int .i64 (e : Int)), (7, .int .u8 (lxT s e))]) (fun e => i ≤ e ∧ e ≤ s.size ∧ ∀ j, i ≤ j → j < e → idB (lxT s j) = true) (fun e => s.size - e) i (S.sel [4, 7] rfl) H (⟨by omega, by omega, fun j hj hj2 => by omega⟩) (fun e a w S H hi => ?_)
   simp only [List.cons_append, List.nil_append] at S hi
   obtain ⟨hie, hes, hej⟩ := hi
   refine ZAG <| gsr <| q_mv S rfl fun a S => q_bn S rfl fun a S => q_mv S rfl fun a S => ?_
   refine' ZBH 2 47 rfl S H rfl rfl rfl rfl rfl rfl rfl (fun _ S => (wn rfl)) (fun h5 kk => ?yh5) (fun a w S H => ?_)
   case yh5 =>
    exact gz 47 h5 S rfl rfl rfl rfl rfl rfl (ZAL rfl S rfl) fun a S => gz 47 h5 S rfl rfl rfl rfl rfl rfl (ZAn rfl S rfl rfl rfl) fun a S => gq rfl S (ZAz rfl h5 S rfl rfl) fun a S => kk _ _ (S.join 3 50 rfl rfl) H
   refine q_mv S rfl fun a S => ?_
   refine' ZBH 2 51 rfl S H rfl rfl rfl rfl rfl rfl rfl (fun _ S => (wn rfl)) (fun h6 kk => ?yh6) (fun a w S H => ?_)
   case yh6 =>
    exact gz 51 h6 S rfl rfl rfl rfl rfl rfl (ZAL rfl S rfl) fun a S => gz 51 h6 S rfl rfl rfl rfl rfl rfl (ZAn rfl S rfl rfl rfl) fun a S => gq rfl S (ZAz rfl h6 S rfl rfl) fun a S => kk _ _ (S.join 3 54 rfl rfl) H
   refine gnt ?_
   have S := S.sel [54, 4, 7, 6, 5, 0, 1, 2] rfl
   refine c_if S rfl (fun h7 => ?_) (fun h7 => ?_)
   ·have h7p := h7; try simp only [DL] at h7p
    have hid : idB (lxT s e) = true := by simpa [idB] using h7
    have hlt := lxT_lt (i := e) (fun h0 => by rw [h0] at hid; simp [idB] at hid)
    refine ZAM <| ZAA <| ZAG <| ZAD <| ZAB <| q_mv S rfl fun a S => q_ad S rfl (by omega) fun a S => ?_
    refine q_as S rfl fun a S => ZAj <| ZAK <| ZAA ?_
    have S := S.sel [4, 7, 6, 5, 0, 1, 2] rfl
    refine ZAB ?_
    refine q_ld S H Fsca218 rfl rfl fun a S => ?_
    refine q_mv S rfl fun a S => ?_
    refine ZAF (ZAV (wn rfl) rfl rfl S (ZAp rfl call126 S rfl rfl) (lxat_spec s b1 b3 (e + 1) _ (H.rd b1) (H.rd b3)) fun v w hc a S => ?_)
    obtain ⟨rfl, he⟩ := hc
    have H := H.ext he
    refine q_as S rfl fun a S => gnt <| ⟨e + 1, S.sel [4, 7] rfl, S.sel [6, 5, 0, 1, 2] rfl, H, ?_, ?_⟩
    · exact ⟨by omega, by omega, fun j hj hj2 => by by_cases hje : j < e; exact hej j hj hje; (obtain rfl : j = e := by omega); exact hid⟩
    omega
   have h7p := h7; try simp only [DL] at h7p
   have hnid : idB (lxT s e) = false := by simpa [idB] using h7
   have hsc := scanE_eq hnid (s.size + 1) i hie (by omega) hej
   have hsi : i < e := by
     by_cases hx : i = e
     · subst hx; rw [hc3] at hnid; simp [idB] at hnid
     omega
   have hg3 := lxGood3 hgi hc3
   rw [hsc] at hg3
   have hls : lexStep s i = (some ⟨1, s.extract i e, 0, i⟩, e) := by unfold lexStep; rw [hsc, hc3]; rfl
   refine ZAf <| ZAO (ZAO (x_eq ?_))
   refine ZAA <| gsr <| q_fa S Ffo193_0 rfl fun a S => q_fa S Ffo169_0 rfl fun a S => q_st S H rfl rfl ZA5 rfl fun a w S H => ?_
   dsimp only [List.set, Nat.zero_add, Nat.reduceAdd] at H
   refine gnt ?_
   have S := S.sel [4, 6, 5, 0, 1, 2] rfl
   refine gsr <| q_mv S rfl fun a S => q_mv S rfl fun a S => gq rfl S (y_sub rfl S rfl rfl (by omega)) fun a S => ?_
   refine q_bn S rfl fun a S => gnt <| c_if S rfl (fun h8 => ?_) (fun h8 => ?_)
   ·have h8p := h8; try simp only [DL] at h8p
    all_goals (
      exfalso; omega)
   have h8p := h8; try simp only [DL] at h8p
   refine ZAM <| ZAK <| ZAA ?_
   have S := S.sel [4, 6, 5, 0, 1, 2] rfl
   refine gsr <| q_ld S H Fsca9 rfl rfl fun a S => q_mv S rfl fun a S => q_mv S rfl fun a S => gq rfl S ((y_slicestr rfl underlying9 S rfl rfl rfl (by omega) (by omega) rfl)) fun a S => ?_
   refine q_fa S Ffo193_0 rfl fun a S => q_fa S Ffo169_1 rfl fun a S => q_st S H rfl rfl Fsiz9 rfl fun a w S H => ?_
   dsimp only [List.set, Nat.zero_add, Nat.reduceAdd] at H
   refine gnt ?_
   have S := S.sel [4, 6, 0, 1, 2] rfl
   refine gsr <| q_mv S rfl fun a S => gq rfl S (ZAb rfl S H rfl (by exact Fagg193)) fun a S => ?_
   refine ZAF (op_yield (wn rfl) rfl rfl rfl S rfl rfl (hround z (⟨_, _, _, _⟩) x _ _ (by omega) (HSat.mid1 H)) fun u w hc a S => ?_)
   obtain ⟨rfl, x2, H⟩ := hc
   refine gq rfl S (ZBV rfl S rfl) fun a S => q_mv S rfl fun a S => ?_
   refine' ZBH 3 143 rfl S H rfl rfl rfl rfl rfl rfl rfl (fun _ S => (wn rfl)) (fun h9 kk => ?yh9) (fun a w S H => ?_)
   case yh9 =>
    exact gz 143 h9 S rfl rfl rfl rfl rfl rfl (ZAC rfl Ffo193_1 S rfl) fun a S => gz 143 h9 S rfl rfl rfl rfl rfl rfl (ZAJ rfl Fsca42 S H rfl rfl) fun a S => gz 143 h9 S rfl rfl rfl rfl rfl rfl (ZAn rfl S rfl rfl rfl) fun a S => gq rfl S (ZAz rfl h9 S rfl rfl) fun a S => kk _ _ (S.join 4 147 rfl rfl) H
   refine gnt ?_
   have S := S.sel [147, 4, 0, 1, 2] rfl
   refine c_if S rfl (fun h10 => ?_) (fun h10 => ?_)
   ·have h10p := h10; try simp only [DL] at h10p
    all_goals (
      exact absurd h10 (by simp))
   have h10p := h10; try simp only [DL] at h10p
   refine ZAM <| ZAK <| ZAA ?_
   rw [hls] at hstep
   simp only [Option.toList, List.append_nil] at hstep
   refine ⟨q + 1, S.nil.cons S 4 (by rw [hstep]; rfl), S.sel [0, 1, 2] rfl, ?_, ?_⟩
   · rw [hstep]; exact ⟨by dsimp only; omega, by dsimp only; omega, by dsimp only; (try simp only [List.length_append, List.length_cons, List.length_nil]); omega, by first | exact ⟨x2, HSat.unmid H⟩ | exact ⟨x, H.tail⟩⟩
   rw [hstep]; dsimp only; omega
  have h4p := h4; try simp only [DL] at h4p
  refine gsr <| q_bn S rfl fun a S => q_as S rfl fun a S => gnt ?_
  have S := S.sel [67, 20, 6, 5, 4, 0, 1, 2] rfl
  refine c_if S rfl (fun h11 => ?_) (fun h11 => ?_)
  ·have h11p := h11; try simp only [DL] at h11p
   have hc4 : lxT s i = 4 := h11p
   refine ZAG <| ZAD ?_
   have SU := S.sel [6, 5, 0, 1, 2] rfl
   refine ZB4 (X := Nat) SU (fun e => [(4, .int .i64 (e : Int))]) (fun e => i ≤ e ∧ e ≤ s.size ∧ ∀ j, i ≤ j → j < e → dgB (lxT s j) = true) (fun e => s.size - e) i (S.sel [4] rfl) H (⟨by omega, by omega, fun j hj hj2 => by omega⟩) (fun e a w S H hi => ?_)
   simp only [List.cons_append, List.nil_append] at S hi
   obtain ⟨hie, hes, hej⟩ := hi
   refine ZAG ?_
   refine gsr ?_
   refine q_ld S H Fsca218 rfl rfl fun a S => ?_
   refine q_mv S rfl fun a S => ?_
   refine ZAF (ZAV (wn rfl) rfl rfl S (ZAp rfl call126 S rfl rfl) (lxat_spec s b1 b3 (e) _ (H.rd b1) (H.rd b3)) fun v w hc a S => ?_)
   obtain ⟨rfl, he⟩ := hc
   have H := H.ext he
   refine q_bn S rfl fun a S => gnt <| c_if S rfl (fun h12 => ?_) (fun h12 => ?_)
   ·have h12p := h12; try simp only [DL] at h12p
    have hid : dgB (lxT s e) = true := by simpa [dgB] using h12
    have hlt := lxT_lt (i := e) (fun h0 => by rw [h0] at hid; simp [dgB] at hid)
    refine ZAM <| ZAA ?_
    have S := S.sel [4, 6, 5, 0, 1, 2] rfl
    refine ZAD <| ZAB <| q_mv S rfl fun a S => q_ad S rfl (by omega) fun a S => ?_
    refine q_as S rfl fun a S => ZAj <| ZAK <| ZAA <| ⟨e + 1, S.sel [4] rfl, S.sel [6, 5, 0, 1, 2] rfl, H, ?_, ?_⟩
    · exact ⟨by omega, by omega, fun j hj hj2 => by by_cases hje : j < e; exact hej j hj hje; (obtain rfl : j = e := by omega); exact hid⟩
    omega
   have h12p := h12; try simp only [DL] at h12p
   have hnid : dgB (lxT s e) = false := by simpa [dgB] using h12
   have hsc := scanE_eq hnid (s.size + 1) i hie (by omega) hej
   have hsi : i < e := by
     by_cases hx : i = e
     · subst hx; rw [hc4] at hnid; simp [dgB] at hnid
     omega
   have hg4 := lxGood4 hgi hc4
   rw [hsc] at hg4
   obtain ⟨hg1, hg2, hg3, nn, hat⟩ := hg4
   have hls : lexStep s i = (some ⟨2, s.extract i e, nn, i⟩, e) := by unfold lexStep; rw [hsc, hc4, hat]; rfl
   refine ZAf <| ZAO (ZAO (x_eq ?_))
   refine ZAA ?_
   have S := S.sel [4, 6, 5, 0, 1, 2] rfl
   refine gsr <| q_fa S Ffo193_0 rfl fun a S => q_fa S Ffo169_0 rfl fun a S => q_st S H rfl rfl ZA5 rfl fun a w S H => ?_
   dsimp only [List.set, Nat.zero_add, Nat.reduceAdd] at H
   refine gnt ?_
   refine gsr ?_
   refine q_ld S H Fsca218 rfl rfl fun a S => ?_
   refine q_mv S rfl fun a S => ?_
   refine ZAF (ZAV (wn rfl) rfl rfl S (ZAp rfl call126 S rfl rfl) (lxat_spec s b1 b3 (e) _ (H.rd b1) (H.rd b3)) fun v w hc a S => ?_)
   obtain ⟨rfl, he⟩ := hc
   have H := H.ext he
   refine q_as S rfl fun a S => gnt ?_
   have S := S.sel [8, 4, 6, 5, 0, 1, 2] rfl
   refine gsr <| q_mv S rfl fun a S => q_mv S rfl fun a S => gq rfl S (y_sub rfl S rfl rfl (by omega)) fun a S => ?_
   refine q_bn S rfl fun a S => q_mv S rfl fun a S => ?_
   refine' ZBH 2 84 rfl S H rfl rfl rfl rfl rfl rfl rfl (fun _ S => (wn rfl)) (fun h13 kk => ?yh13) (fun a w S H => ?_)
   case yh13 =>
    exact gz 84 h13 S rfl rfl rfl rfl rfl rfl (ZAL rfl S rfl) fun a S => gz 84 h13 S rfl rfl rfl rfl rfl rfl (ZAn rfl S rfl rfl rfl) fun a S => gq rfl S (ZAz rfl h13 S rfl rfl) fun a S => kk _ _ (S.join 3 87 rfl rfl) H
   refine q_mv S rfl fun a S => ?_
   refine' ZBH 2 88 rfl S H rfl rfl rfl rfl rfl rfl rfl (fun _ S => (wn rfl)) (fun h14 kk => ?yh14) (fun a w S H => ?_)
   case yh14 =>
    exact gz 88 h14 S rfl rfl rfl rfl rfl rfl (ZAL rfl S rfl) fun a S => gz 88 h14 S rfl rfl rfl rfl rfl rfl (ZAn rfl S rfl rfl rfl) fun a S => gq rfl S (ZAz rfl h14 S rfl rfl) fun a S => kk _ _ (S.join 3 91 rfl rfl) H
   refine gnt ?_
   have S := S.sel [91, 4, 6, 5, 0, 1, 2] rfl
   refine c_if S rfl (fun h15 => ?_) (fun h15 => ?_)
   ·have h15p := h15; try simp only [DL] at h15p
    all_goals (
      exfalso
      have h9 := h15p; simp [hg2, hg3] at h9; omega)
   have h15p := h15; try simp only [DL] at h15p
   refine ZAB <| q_ld S H Fsca9 rfl rfl fun a S => q_mv S rfl fun a S => q_mv S rfl fun a S => gq rfl S ((y_slicestr rfl underlying9 S rfl rfl rfl (by omega) (by omega) rfl)) fun a S => ?_
   refine q_cl S rfl call128 (atoi_spec _ nn _ (by rw [ByteArray.size_extract]; omega) hat) fun v w hc a S => ?_
   obtain ⟨rfl, he⟩ := hc
   have H := H.ext he
   refine q_mv S rfl fun a S => gq rfl S (ZAa rfl S rfl rfl) fun a S => gq rfl S (ZAa rfl S rfl rfl) fun a S => q_fa S Ffo193_0 rfl fun a S => q_fa S Ffo169_2 rfl fun a S => q_st S H rfl rfl ZA5 rfl fun a w S H => ?_
   dsimp only [List.set, Nat.zero_add, Nat.reduceAdd] at H
   refine ZAj <| ZAK <| ZAA ?_
   have S := S.sel [4, 6, 5, 0, 1, 2] rfl
   refine gsr <| q_ld S H Fsca9 rfl rfl fun a S => q_mv S rfl fun a S => q_mv S rfl fun a S => gq rfl S ((y_slicestr rfl underlying9 S rfl rfl rfl (by omega) (by omega) rfl)) fun a S => ?_
   refine q_fa S Ffo193_0 rfl fun a S => q_fa S Ffo169_1 rfl fun a S => q_st S H rfl rfl Fsiz9 rfl fun a w S H => ?_
   dsimp only [List.set, Nat.zero_add, Nat.reduceAdd] at H
   refine gnt ?_
   have S := S.sel [4, 6, 0, 1, 2] rfl
   refine gsr <| q_mv S rfl fun a S => gq rfl S (ZAb rfl S H rfl (by exact Fagg193)) fun a S => ?_
   refine ZAF (op_yield (wn rfl) rfl rfl rfl S rfl rfl (hround z (⟨_, _, _, _⟩) x _ _ (by omega) (HSat.mid1 H)) fun u w hc a S => ?_)
   obtain ⟨rfl, x2, H⟩ := hc
   refine gq rfl S (ZBV rfl S rfl) fun a S => q_mv S rfl fun a S => ?_
   refine' ZBH 3 143 rfl S H rfl rfl rfl rfl rfl rfl rfl (fun _ S => (wn rfl)) (fun h16 kk => ?yh16) (fun a w S H => ?_)
   case yh16 =>
    exact gz 143 h16 S rfl rfl rfl rfl rfl rfl (ZAC rfl Ffo193_1 S rfl) fun a S => gz 143 h16 S rfl rfl rfl rfl rfl rfl (ZAJ rfl Fsca42 S H rfl rfl) fun a S => gz 143 h16 S rfl rfl rfl rfl rfl rfl (ZAn rfl S rfl rfl rfl) fun a S => gq rfl S (ZAz rfl h16 S rfl rfl) fun a S => kk _ _ (S.join 4 147 rfl rfl) H
   refine gnt ?_
   have S := S.sel [147, 4, 0, 1, 2] rfl
   refine c_if S rfl (fun h17 => ?_) (fun h17 => ?_)
   ·have h17p := h17; try simp only [DL] at h17p
    all_goals (
      exact absurd h17 (by simp))
   have h17p := h17; try simp only [DL] at h17p
   refine ZAM <| ZAK <| ZAA ?_
   rw [hls] at hstep
   simp only [Option.toList, List.append_nil] at hstep
   refine ⟨q + 1, S.nil.cons S 4 (by rw [hstep]; rfl), S.sel [0, 1, 2] rfl, ?_, ?_⟩
   · rw [hstep]; exact ⟨by dsimp only; omega, by dsimp only; omega, by dsimp only; (try simp only [List.length_append, List.length_cons, List.length_nil]); omega, by first | exact ⟨x2, HSat.unmid H⟩ | exact ⟨x, H.tail⟩⟩
   rw [hstep]; dsimp only; omega
  have h11p := h11; try simp only [DL] at h11p
  refine ZAG <| gsr <| q_bn S rfl fun a S => q_as S rfl fun a S => gnt <| c_if S rfl (fun h18 => ?_) (fun h18 => ?_)
  ·have h18p := h18; try simp only [DL] at h18p
   have hc6 : lxT s i = 6 := h18p
   have hls : lexStep s i = (some ⟨3, s.extract i (i + 1), 0, i⟩, i + 1) := by unfold lexStep; rw [hc6]; rfl
   refine ZAM <| ZAA <| c_if S rfl (fun h19 => ?_) (fun h19 => ?_)
   ·have h19p := h19; try simp only [DL] at h19p
    refine gsr <| q_fa S Ffo193_0 rfl fun a S => q_fa S Ffo169_0 rfl fun a S => q_st S H rfl rfl ZA5 rfl fun a w S H => ?_
    dsimp only [List.set, Nat.zero_add, Nat.reduceAdd] at H
    refine gnt ?_
    have S := S.sel [6, 5, 4, 0, 1, 2] rfl
    refine gsr <| q_mv S rfl fun a S => q_ad S rfl (by omega) fun a S => ?_
    rw [show (i : Int) + 1 = ((i + 1 : Nat) : Int) by omega] at S
    refine q_as S rfl fun a S => ?_
    refine gnt ?_
    refine gsr ?_
    refine q_ld S H Fsca218 rfl rfl fun a S => ?_
    refine q_mv S rfl fun a S => ?_
    refine ZAF (ZAV (wn rfl) rfl rfl S (ZAp rfl call126 S rfl rfl) (lxat_spec s b1 b3 (i) _ (H.rd b1) (H.rd b3)) fun v w hc a S => ?_)
    obtain ⟨rfl, he⟩ := hc
    have H := H.ext he
    refine q_as S rfl fun a S => gnt ?_
    have S := S.sel [9, 4, 6, 5, 0, 1, 2] rfl
    refine gsr <| q_mv S rfl fun a S => q_bn S rfl fun a S => q_mv S rfl fun a S => ?_
    refine' wl_and (B2 := false) 4 116 rfl S H rfl rfl rfl rfl rfl rfl rfl (fun _ S => (wn rfl)) (fun h20 kk => ?yh20) (fun a w S H => ?_)
    case yh20 => exact absurd h20 (by simp [hc6])
    refine q_mv S rfl fun a S => ?_
    refine' wl_and (B2 := false) 4 122 rfl S H rfl rfl rfl rfl rfl rfl rfl (fun _ S => (wn rfl)) (fun h21 kk => ?yh21) (fun a w S H => ?_)
    case yh21 => exact absurd h21 (by simp [hc6])
    refine gnt ?_
    have S := S.sel [127, 9, 4, 6, 5, 0, 1, 2] rfl
    refine c_if S rfl (fun h22 => ?_) (fun h22 => ?_)
    ·have h22p := h22; try simp only [DL] at h22p
     all_goals (
       exact absurd h22 (by simp))
    have h22p := h22; try simp only [DL] at h22p
    refine gsr <| q_mv S rfl fun a S => q_bn S rfl fun a S => gnt <| c_if S rfl (fun h23 => ?_) (fun h23 => ?_)
    ·have h23p := h23; try simp only [DL] at h23p
     all_goals (
       exfalso; omega)
    have h23p := h23; try simp only [DL] at h23p
    refine ZAM <| ZAK <| ZAA ?_
    have S := S.sel [4, 6, 5, 0, 1, 2] rfl
    refine gsr <| q_ld S H Fsca9 rfl rfl fun a S => q_mv S rfl fun a S => q_mv S rfl fun a S => gq rfl S ((y_slicestr rfl underlying9 S rfl rfl rfl (by omega) (by omega) rfl)) fun a S => ?_
    refine q_fa S Ffo193_0 rfl fun a S => q_fa S Ffo169_1 rfl fun a S => q_st S H rfl rfl Fsiz9 rfl fun a w S H => ?_
    dsimp only [List.set, Nat.zero_add, Nat.reduceAdd] at H
    refine gnt ?_
    have S := S.sel [4, 6, 0, 1, 2] rfl
    refine gsr <| q_mv S rfl fun a S => gq rfl S (ZAb rfl S H rfl (by exact Fagg193)) fun a S => ?_
    refine ZAF (op_yield (wn rfl) rfl rfl rfl S rfl rfl (hround z (⟨_, _, _, _⟩) x _ _ (by omega) (HSat.mid1 H)) fun u w hc a S => ?_)
    obtain ⟨rfl, x2, H⟩ := hc
    refine gq rfl S (ZBV rfl S rfl) fun a S => q_mv S rfl fun a S => ?_
    refine' ZBH 3 143 rfl S H rfl rfl rfl rfl rfl rfl rfl (fun _ S => (wn rfl)) (fun h24 kk => ?yh24) (fun a w S H => ?_)
    case yh24 =>
     exact gz 143 h24 S rfl rfl rfl rfl rfl rfl (ZAC rfl Ffo193_1 S rfl) fun a S => gz 143 h24 S rfl rfl rfl rfl rfl rfl (ZAJ rfl Fsca42 S H rfl rfl) fun a S => gz 143 h24 S rfl rfl rfl rfl rfl rfl (ZAn rfl S rfl rfl rfl) fun a S => gq rfl S (ZAz rfl h24 S rfl rfl) fun a S => kk _ _ (S.join 4 147 rfl rfl) H
    refine gnt ?_
    have S := S.sel [147, 4, 0, 1, 2] rfl
    refine c_if S rfl (fun h25 => ?_) (fun h25 => ?_)
    ·have h25p := h25; try simp only [DL] at h25p
     all_goals (
       exact absurd h25 (by simp))
    have h25p := h25; try simp only [DL] at h25p
    refine ZAM <| ZAK <| ZAA ?_
    rw [hls] at hstep
    simp only [Option.toList, List.append_nil] at hstep
    refine ⟨q + 1, S.nil.cons S 4 (by rw [hstep]; rfl), S.sel [0, 1, 2] rfl, ?_, ?_⟩
    · rw [hstep]; exact ⟨by dsimp only; omega, by dsimp only; omega, by dsimp only; (try simp only [List.length_append, List.length_cons, List.length_nil]); omega, by first | exact ⟨x2, HSat.unmid H⟩ | exact ⟨x, H.tail⟩⟩
    rw [hstep]; dsimp only; omega
   all_goals (
     exact absurd h19 (by simp [hc6]))
  have h18p := h18; try simp only [DL] at h18p
  all_goals (
    exfalso
    have := lxGoodC hgi; omega)
 have h1p := h1; try simp only [DL] at h1p
 have hdone := hdone (by omega) (by omega)
 refine ZAf <| ZAO (ZAO (x_eq ?_))
 exact n_scope <| ZB1 rfl S <| ⟨x, by rw [← hdone]; exact H⟩
theorem ret3csM {P : Program} {fl : Slots} {a : Act} {w w0 : World} {v v2 v3 : Value} {M : Nat → Prop} {l : List Atom} {fn : Func} {R : Value → World → Prop} {t u x T U X b b2 b3 : Nat} {cs cs2 cs3 : List Value} {T' T2' T3' : TypeId} {fz fz2 fz3 : Nat × Nat} {m : Nat} {ds : List Nat} (hr : fn.results = #[.cell t T, .cell u U, .cell x X]) (S : St ⟨m, ds.map ZB0⟩ fl a) (H : HSat M w0 (ZBe ds :: l) w) (hv : fl.lookup t = some (.pointer (some ⟨b, 0, none⟩))) (hu : fl.lookup u = some (.pointer (some ⟨b2, 0, none⟩))) (hx : fl.lookup x = some (.pointer (some ⟨b3, 0, none⟩)))
    [h : HasRd l b (.cells cs.toArray T' fz)] [h2 : HasRd l b2 (.cells cs2.toArray T2' fz2)] [h3 : HasRd l b3 (.cells cs3.toArray T3' fz3)] (hT : ZAl P T = true) (hU : ZAl P U = true) (hX : ZAl P X = true) (hc : cs[0]? = some v) (hc2 : cs2[0]? = some v2) (hc3 : cs3[0]? = some v3) (hR : ∀ w, HSat M w0 l w → R (.tuple #[v, v2, v3]) w) : endP P fn R .ret a w := by
  show LeavesInM Fence.wide 0 P fn a.tmps _ a.defers .returning w
  rw [S.defers]
  refine leavesM (fun w H => ?_) hR ds w H
  have hl := ZA0 (P := P) (w := w) (p := ⟨b, 0, none⟩) hT (by rw [H.cell h]; exact hc)
  have hl2 := ZA0 (P := P) (w := w) (p := ⟨b2, 0, none⟩) hU (by rw [H.cell h2]; exact hc2)
  have hl3 := ZA0 (P := P) (w := w) (p := ⟨b3, 0, none⟩) hX (by rw [H.cell h3]; exact hc3)
  have hv' : a.tmps[t]?.getD undef = .pointer (some ⟨b, 0, none⟩) := by rw [← Array.getD_eq_getD_getElem?]; exact S.get t _ hv
  have hu' : a.tmps[u]?.getD undef = .pointer (some ⟨b2, 0, none⟩) := by rw [← Array.getD_eq_getD_getElem?]; exact S.get u _ hu
  have hx' : a.tmps[x]?.getD undef = .pointer (some ⟨b3, 0, none⟩) := by rw [← Array.getD_eq_getD_getElem?]; exact S.get x _ hx
  simp [results, hr, hv', hu', hx', asAddr, hl, hl2, hl3]
set_option maxHeartbeats 2000000 in
theorem lex_spec (s : ByteArray) (w0 : World) (hl : s.size ≤ 4000) (hg : ∀ i, i < s.size → lxGood s i = true) :
    Ret Tryz.prog 85 #[.string s] w0 (fun u w => ∃ tv, u = .tuple #[tv, .int .i64 0, .int .i64 0] ∧ HSat No w0 [OSl 169 tv 4 TokV.enc (lexN s s.size).1] w) := by
 refine ZAE (nt := 35) Tryz.func85 rfl rfl rfl (fl := [(0, .string s)]) rfl (fun a S => ?_)
 have H := HSat.start w0
 refine gsr <| q_al S H rfl Fzer159 fun b2 a w S H => q_al S H rfl Fzer42 fun b3 a w S H => q_al S H rfl Fzer3 fun b4 a w S H => gnt <| ZAG <| gsr <| q_mv S rfl fun a S => ?_
 refine gq rfl S (y_lenstr rfl underlying9 S rfl) fun a S => q_bn S rfl fun a S => gnt <| c_if S rfl (fun h1 => ?_) (fun h1 => ?_)
 ·have h1p := h1; try simp only [DL] at h1p
  all_goals (
    exfalso; omega)
 have h1p := h1; try simp only [DL] at h1p
 refine ZAM <| ZAA <| gsr <| q_al S H rfl Fzer159 fun b5 a w S H => gnt <| ZAG <| gsr <| q_mv S rfl fun a S => ?_
 refine q_cl S rfl call108 (tokens_spec s _) fun v w hc a S => ?_
 obtain ⟨c1, c4, c3, rfl, H1⟩ := hc
 have H := (((H.call3 H1 rfl rfl rfl).freeze.front (Cel c3 216 LXC)).freeze.front (Cel c1 9 [.string s])).freeze
 have H := (H.nilO 169 4 TokV.enc).defs0
 refine gnt ?_
 have S := S.sel [11, 5, 4, 3, 2] rfl
 refine ZAD ?_
 have S : St ⟨35, ([] : List Nat).map ZB0⟩ _ a := S
 refine g_range (Φ := fun p l2 => p = none ∧ ∃ v, l2 = [Cel b5 159 [v], OSl 169 v 4 TokV.enc (lexN s s.size).1, Cel b4 3 [.int .i64 0], Cel b3 42 [.int .i64 0], Cel b2 159 [.slice none 0 0]]) S (H.take [ZBe [], Cel b5 159 [.slice none 0 0], OSl 169 (.slice none 0 0) 4 TokV.enc [], Cel b4 3 [.int .i64 0], Cel b3 42 [.int .i64 0], Cel b2 159 [.slice none 0 0], Atom.ro (Cel c4 218 [.func (.func 126) #[] #[.pointer (some ⟨c1, 0, none⟩), .pointer (some ⟨c3, 0, none⟩)]]), Atom.ro (Cel c3 216 LXC), Atom.ro (Cel c1 9 [.string s])]) rfl call127 (fun R lb w1 hrec H1 => ?_) ?_
 ·have SR := S.recd
  refine Ret.mono (lex_iter (M := No) (u0 := w0) (Z := Value) (fun z v => [Blk lb (.loop R), ZBe [R.defers], Cel b5 159 [v], OSl 169 v 4 TokV.enc z, Cel b4 3 [.int .i64 0], Cel b3 42 [.int .i64 0], Cel b2 159 [.slice none 0 0]]) lb c1 c4 c3 s w1 hl hg (fun z t x tl w hz H => ?_) (.slice none 0 0) H1) ?_
  ·have H : HSat No w0 (Blk lb (.loop R) :: ZBe [R.defers] :: Cel b5 159 [x] :: OSl 169 x 4 TokV.enc z :: Cel b4 3 [.int .i64 0] :: Cel b3 42 [.int .i64 0] :: Cel b2 159 [.slice none 0 0] :: tl) w := H
   skip
   refine yield1 hrec SR H rfl (fun a S => ZAB ?_)
   refine q_al S H rfl Fzer193 fun b6 a w S H => ZAF (ZAQ (wn rfl) rfl rfl S H rfl rfl rfl Fsiz193 rfl (cs' := [_, _, _, _, _]) rfl fun a w S H => gnt ?_)
   refine r_begin hrec H (fun w H => ZAD ?_)
   refine ZAG <| ZAD <| gsr <| q_fa S Ffo193_1 rfl fun a S => q_ld S H Fsca42 rfl rfl fun a S => q_bn S rfl fun a S => q_as S rfl fun a S => gnt ?_
   have S := S.sel [13, 6, 5, 4, 3, 2] rfl
   refine c_if S rfl (fun h2 => ?_) (fun h2 => ?_)
   ·have h2p := h2; try simp only [DL] at h2p
    all_goals (
      exact absurd h2 (by simp))
   have h2p := h2; try simp only [DL] at h2p
   refine gsr <| q_ld S H ZBw rfl rfl fun a S => gq rfl S (ZAT rfl underlying159 S H rfl) fun a S => q_bn S rfl fun a S => q_as S rfl fun a S => gnt ?_
   have S := S.sel [22, 6, 5, 4, 3, 2] rfl
   refine c_if S rfl (fun h3 => ?_) (fun h3 => ?_)
   ·have h3p := h3; try simp only [DL] at h3p
    all_goals (
      exfalso; omega)
   have h3p := h3; try simp only [DL] at h3p
   refine ZAM <| ZAK <| ZAA <| ZAB <| q_ld S H ZBw rfl rfl fun a S => q_fa S Ffo193_0 rfl fun a S => gq rfl S ((y_loadp (off := 0) (cs := [.int .i64 t.kind, .string t.text, .int .i64 t.n, .int .i64 t.at_, .int .i64 0]) (vs := [.int .i64 t.kind, .string t.text, .int .i64 t.n, .int .i64 t.at_]) rfl S H rfl (by exact Fagg169) rfl)) fun a S => ?_
   refine ZAF (ZAP (wn rfl) rfl rfl rfl underlying159 Finf169 S H (idx := [0]) rfl rfl rfl (z := [.int .i64 0, .string ⟨#[]⟩, .int .i64 0, .int .i64 0]) (by kernel_rfl) (cs := [.int .i64 t.kind, .string t.text, .int .i64 t.n, .int .i64 t.at_]) rfl fun b32 a w S H => ?_)
   refine ZAF (ZAr ([t]) (wn rfl) rfl rfl rfl underlying159 Finf169 rfl rfl S H rfl rfl rfl rfl (by simp) (by simp [TokV.enc]) (by simp [TokV.enc, Value.oneCell']) (by simp only [List.length_cons, List.length_nil]; omega) (by simp only [List.length_cons, List.length_nil]; omega) fun u33 a w hn33 S H => ?_)
   refine q_st S H rfl (H.sl1 _) Fsiz159 rfl fun a w S H => ?_
   dsimp only [List.set, Nat.zero_add, Nat.reduceAdd] at H
   exact ZAj <| ZAK <| r_end hrec H (fun w H => ⟨rfl, u33, H.takeT [Blk lb (.loop R), ZBe [R.defers], Cel b5 159 [u33], OSl 169 u33 4 TokV.enc (z ++ [t]), Cel b4 3 [.int .i64 0], Cel b3 42 [.int .i64 0], Cel b2 159 [.slice none 0 0]] tl⟩)
  rintro _ w2 ⟨v, H2⟩
  have H2 : HSat No w0 [Blk lb (.loop R), ZBe [R.defers], Cel b5 159 [v], OSl 169 v 4 TokV.enc (lexN s s.size).1, Cel b4 3 [.int .i64 0], Cel b3 42 [.int .i64 0], Cel b2 159 [.slice none 0 0], Atom.ro (Cel c4 218 [.func (.func 126) #[] #[.pointer (some ⟨c1, 0, none⟩), .pointer (some ⟨c3, 0, none⟩)]]), Atom.ro (Cel c3 216 LXC), Atom.ro (Cel c1 9 [.string s])] w2 := H2
  exact ⟨.ready, none, _, by simp, ⟨rfl, v, rfl⟩, by rw [hrec.same]; exact H2.take [Blk lb (.loop R), ZBe [R.defers], Cel b5 159 [v], OSl 169 v 4 TokV.enc (lexN s s.size).1, Cel b4 3 [.int .i64 0], Cel b3 42 [.int .i64 0], Cel b2 159 [.slice none 0 0]]⟩
 intro bd a w pend l2 S H hΦ
 obtain ⟨rfl, v, rfl⟩ := hΦ
 refine ZAK <| ZAA <| gsr <| q_ld S H ZBw rfl rfl fun a S => q_st S H rfl (H.sl1 _) Fsiz159 rfl fun a w S H => ?_
 dsimp only [List.set, Nat.zero_add, Nat.reduceAdd] at H
 refine q_st S H rfl rfl Fsiz42 rfl fun a w S H => ?_
 dsimp only [List.set, Nat.zero_add, Nat.reduceAdd] at H
 refine q_st S H rfl rfl ZA5 rfl fun a w S H => ?_
 dsimp only [List.set, Nat.zero_add, Nat.reduceAdd] at H
 exact gnt <| ZAe <| ret3csM rfl S (H.front (ZBe [bd])) rfl rfl rfl ZBw Fsca42 ZAN rfl rfl rfl (fun w H => ⟨v, rfl, H.take _⟩)
abbrev PaC (c : Nat) (tv : Value) (i : Nat) : Atom := Cel c 166 [tv, .int .i64 (i : Int), .int .i64 147]
def isB (t : TokV) (s : ByteArray) : Bool := !(t.kind == 2) && decide (t.text = s)
theorem HSat.pick {M : Nat → Prop} {w0 w : World} {l tgt rest : List Atom} (H : HSat M w0 l w) [h : HasPick l tgt rest] : HSat M w0 (tgt ++ rest) w := H.perm h.perm
theorem tok_field2 (t : TokV) (w : World) : (Instr.field 169 (.agg (TokV.enc t).toArray) 2).run Tryz.prog w = .ok (.int .i64 t.n) w := by
  unfold Instr.field
  simp [run_underlying underlying169, asAgg]
  exact run_part1 (cs := TokV.enc t) (off := 2) ZAN (by simp [TokV.enc])
theorem tok_field1 (t : TokV) (w : World) : (Instr.field 169 (.agg (TokV.enc t).toArray) 1).run Tryz.prog w = .ok (.string t.text) w := by
  unfold Instr.field
  simp [run_underlying underlying169, asAgg]
  exact run_part1 (cs := TokV.enc t) (off := 1) Fsca9 (by simp [TokV.enc])
def encPt (p : Nat × Nat) : List Value := [.pointer (some ⟨p.1, p.2, none⟩)]
def numW (cs : List Value) (off i : Nat) : Nat → List Value
  | 0 => cs
  | q + 1 => (numW cs off i q).set (off + q) (.int .i64 (match TK[i + q]? with | some t => t.n | none => 0))
theorem numW_len (cs : List Value) (off i q : Nat) : (numW cs off i q).length = cs.length := by
  induction q with
  | zero => rfl
  | succ q ih => rw [numW, List.length_set, ih]
theorem numW_s {cs : List Value} {off i q : Nat} (h : i + q < TK.length) : numW cs off i (q + 1) = (numW cs off i q).set (off + q) (.int .i64 (TK[i + q]'h).n) := by
  rw [numW, List.getElem?_eq_getElem h]
def ptrs (d off m : Nat) : List (Nat × Nat) := (List.range m).map fun q => (d, off + q)
theorem ptrs_len (d off m : Nat) : (ptrs d off m).length = m := by simp [ptrs]
theorem ptrs_get {d off m q : Nat} (h : q < (ptrs d off m).length) : (ptrs d off m)[q] = (d, off + q) := by simp [ptrs]
theorem is_spec {M : Nat → Prop} {u0 : World} {l : List Atom} (c : Nat) (tv : Value) (i : Nat) (s : ByteArray) (w0 : World) (hi : i < TK.length) (h0 : HSat M u0 (PaC c tv (i) :: Sl tv 4 TokV.enc TK :: l) w0) :
    Ret Tryz.prog 90 #[.pointer (some ⟨c, 0, none⟩), .string s] w0 (fun u w => u = .bool (isB (TK[i]) s) ∧ HSat M u0 (PaC c tv (if isB (TK[i]) s = true then i + 1 else i) :: Sl tv 4 TokV.enc TK :: l) w) := by
 refine ZAE (nt := 51) Tryz.func90 rfl rfl rfl (fl := [(0, .pointer (some ⟨c, 0, none⟩)), (1, .string s)]) rfl (fun a S => ?_)
 have H := h0
 have hi48 : (i : Int) < 48 := by have := TK_len; omega
 have hne : ¬ (i : Int) = (TK.length : Int) := by omega
 refine gsr <| q_as S rfl fun a S => gnt <| ZAG <| ZAG <| ZAZ (loud := []) (tails := []) (free := []) [0, 1, 2, 3, 4, 5, 6, 7, 8, 9, 10, 11, 12, 13, 14, 15, 16, 17, 18, 19, 20, 21, 22, 23, 24, 25, 26, 27, 28, 29, 30, 31, 32, 33, 34, 35, 36, 37, 38] [] Fmo (by kernel_rfl) (by kernel_rfl) rfl H ?_
 refine m_q rfl S (fun w H => ZAL rfl S rfl) fun a S => m_q rfl S (fun w H => ZAR rfl S rfl) fun a S => m_q rfl S (fun w H => ZAC rfl ZA4 S rfl) fun a S => m_q rfl S (fun w H => ZAJ rfl ZAN S H rfl rfl) fun a S => m_q rfl S (fun w H => ZAL rfl S rfl) fun a S => m_q rfl S (fun w H => ZAR rfl S rfl) fun a S => m_q rfl S (fun w H => ZAC rfl ZBz S rfl) fun a S => m_q rfl S (fun w H => ZAJ rfl ZBw S H rfl rfl) fun a S => ?_
 refine m_q rfl S (fun w H => ZAT rfl underlying159 S H rfl) fun a S => m_q rfl S (fun w H => ZAn rfl S rfl rfl rfl) fun a S => m_q rfl S (fun w H => ZAL rfl S rfl) fun a S => m_w rfl rfl (wg' 15 rfl rfl S rfl (decide_eq_false (by omega)) rfl) rfl rfl S (fun w H => ZAL rfl S rfl) fun a S => ?_
 refine m_w rfl rfl (wg' 15 rfl rfl S rfl (decide_eq_false (by omega)) rfl) rfl rfl S (fun w H => ZAR rfl S rfl) fun a S => ?_
 refine m_w rfl rfl (wg' 15 rfl rfl S rfl (decide_eq_false (by omega)) rfl) rfl rfl S (fun w H => ZAC rfl ZBz S rfl) fun a S => ?_
 refine m_w rfl rfl (wg' 15 rfl rfl S rfl (decide_eq_false (by omega)) rfl) rfl rfl S (fun w H => ZAJ rfl ZBw S H rfl rfl) fun a S => ?_
 refine m_w rfl rfl (wg' 15 rfl rfl S rfl (decide_eq_false (by omega)) rfl) rfl rfl S (fun w H => ZAL rfl S rfl) fun a S => ?_
 refine m_w rfl rfl (wg' 15 rfl rfl S rfl (decide_eq_false (by omega)) rfl) rfl rfl S (fun w H => ZAR rfl S rfl) fun a S => ?_
 refine m_w rfl rfl (wg' 15 rfl rfl S rfl (decide_eq_false (by omega)) rfl) rfl rfl S (fun w H => ZAC rfl ZA4 S rfl) fun a S => ?_
 refine m_w rfl rfl (wg' 15 rfl rfl S rfl (decide_eq_false (by omega)) rfl) rfl rfl S (fun w H => ZAJ rfl ZAN S H rfl rfl) fun a S => ?_
 refine m_w rfl rfl (wg' 15 rfl rfl S rfl (decide_eq_false (by omega)) rfl) rfl rfl S (fun w H => ZAI rfl underlying159 Fsiz169 S H rfl rfl (by omega)) fun a S => ?_
 refine m_w rfl rfl (wg' 15 rfl rfl S rfl (decide_eq_false (by omega)) rfl) rfl rfl S (fun w H => ZAq rfl Ffo169_0 S rfl) fun a S => ?_
 refine ZA3 _ rfl rfl (wg' 15 rfl rfl S rfl (decide_eq_false (by omega)) rfl) rfl rfl S rfl ZAN rfl (by omega) rfl fun a S => ?_
 refine m_w rfl rfl (wg' 15 rfl rfl S rfl (decide_eq_false (by omega)) rfl) rfl rfl S (fun w H => ZAn rfl S rfl rfl rfl) fun a S => ?_
 refine m_q rfl S (fun w H => ZAz rfl (decide_eq_false (by omega)) S rfl rfl) fun a S => ?_
 refine m_q rfl S (fun w H => ZAL rfl S rfl) fun a S => ?_
 refine' m_orq [25, 26, 27, 28, 29, 30, 31, 32, 33, 34, 35, 36, 37] 29 S rfl rfl rfl rfl rfl rfl rfl rfl rfl (fun _ S => (wn rfl)) (fun h1 kk => ?yh1) (fun a S => ?_)
 case yh1 =>
  have h1p := h1; try simp only [DL] at h1p
  refine m_w rfl rfl (wg' 29 rfl rfl S rfl h1 rfl) rfl rfl S (fun w H => ZAL rfl S rfl) fun a S => m_w rfl rfl (wg' 29 rfl rfl S rfl h1 rfl) rfl rfl S (fun w H => ZAR rfl S rfl) fun a S => m_w rfl rfl (wg' 29 rfl rfl S rfl h1 rfl) rfl rfl S (fun w H => ZAC rfl ZBz S rfl) fun a S => m_w rfl rfl (wg' 29 rfl rfl S rfl h1 rfl) rfl rfl S (fun w H => ZAJ rfl ZBw S H rfl rfl) fun a S => m_w rfl rfl (wg' 29 rfl rfl S rfl h1 rfl) rfl rfl S (fun w H => ZAL rfl S rfl) fun a S => m_w rfl rfl (wg' 29 rfl rfl S rfl h1 rfl) rfl rfl S (fun w H => ZAR rfl S rfl) fun a S => m_w rfl rfl (wg' 29 rfl rfl S rfl h1 rfl) rfl rfl S (fun w H => ZAC rfl ZA4 S rfl) fun a S => m_w rfl rfl (wg' 29 rfl rfl S rfl h1 rfl) rfl rfl S (fun w H => ZAJ rfl ZAN S H rfl rfl) fun a S => ?_
  refine m_w rfl rfl (wg' 29 rfl rfl S rfl h1 rfl) rfl rfl S (fun w H => ZAI rfl underlying159 Fsiz169 S H rfl rfl (by omega)) fun a S => ?_
  refine m_w rfl rfl (wg' 29 rfl rfl S rfl h1 rfl) rfl rfl S (fun w H => ZAq rfl Ffo169_1 S rfl) fun a S => ZA3 _ rfl rfl (wg' 29 rfl rfl S rfl h1 rfl) rfl rfl S rfl Fsca9 rfl (by omega) rfl fun a S => ?_
  exact m_w rfl rfl (wg' 29 rfl rfl S rfl h1 rfl) rfl rfl S (fun w H => ZAL rfl S rfl) fun a S => m_w rfl rfl (wg' 29 rfl rfl S rfl h1 rfl) rfl rfl S (fun w H => y_nes rfl underlying9 S rfl rfl) fun a S => m_q rfl S (fun w H => ZAz rfl h1 S rfl rfl) fun a S => kk _ (S.join 14 43 rfl rfl)
 refine ZBY (fun w H => ZAA ?_)
 have S := S.sel [43, 4, 0] rfl
 refine c_if S rfl (fun h2 => ?_) (fun h2 => ?_)
 ·have h2p := h2; try simp only [DL] at h2p
  have hb : isB (TK[i]) s = false := by have h9 := h2; unfold isB; generalize hk : (TK[i].kind == 2) = b1 at h9 ⊢; generalize hs : decide (TK[i].text = s) = b2 at h9 ⊢; cases b1 <;> cases b2 <;> simp_all
  refine gsr <| q_as S rfl fun a S => gnt <| ZAe <| ZAX (ret1 rfl S rfl ?_)
  exact ⟨by rw [hb], by rw [hb]; exact H⟩
 have h2p := h2; try simp only [DL] at h2p
 have hb : isB (TK[i]) s = true := by have h9 := h2; unfold isB; generalize hk : (TK[i].kind == 2) = b1 at h9 ⊢; generalize hs : decide (TK[i].text = s) = b2 at h9 ⊢; cases b1 <;> cases b2 <;> simp_all
 refine ZAM <| ZAA <| gsr <| q_mv S rfl fun a S => gq rfl S (ZAR rfl S rfl) fun a S => q_fa S ZA4 rfl fun a S => q_ld S H ZAN rfl rfl fun a S => q_ad S rfl (by omega) fun a S => ?_
 refine gq rfl S (ZAR rfl S rfl) fun a S => q_fa S ZA4 rfl fun a S => q_st S H rfl rfl ZA5 rfl fun a w S H => ?_
 dsimp only [List.set, Nat.zero_add, Nat.reduceAdd] at H
 refine gnt ?_
 have S := S.sel [4] rfl
 exact gsr <| q_as S rfl fun a S => gnt <| ZAe <| ret1 rfl S rfl <| ⟨by rw [hb], by rw [hb]; exact H⟩
theorem ZBN {M : Nat → Prop} {u0 : World} {l : List Atom} (c : Nat) (tv : Value) (i j : Nat) (s : ByteArray) (w0 : World) (hi : i < TK.length) (hj : i + 1 = j) (hb : isB (TK[i]) s = true) (h0 : HSat M u0 (PaC c tv (i) :: Sl tv 4 TokV.enc TK :: l) w0) :
    Ret Tryz.prog 87 #[.pointer (some ⟨c, 0, none⟩), .string s] w0 (fun u w => HSat M u0 (PaC c tv (j) :: Sl tv 4 TokV.enc TK :: l) w) := by
 refine ZAE (nt := 10) Tryz.func87 rfl rfl rfl (fl := [(0, .pointer (some ⟨c, 0, none⟩)), (1, .string s)]) rfl (fun a S => ?_)
 have H := h0
 have hi48 : (i : Int) < 48 := by have := TK_len; omega
 have hne : ¬ (i : Int) = (TK.length : Int) := by omega
 refine gsr <| q_mv S rfl fun a S => q_mv S rfl fun a S => q_cl S rfl call90 (is_spec c tv i s _ hi H) fun v w hc a S => ?_
 obtain ⟨rfl, H⟩ := hc
 rw [hb, if_pos rfl, hj] at H
 refine gq rfl S (ZBV rfl S rfl) fun a S => gnt ?_
 have S := S.sel [7, 0] rfl
 refine c_if S rfl (fun h1 => ?_) (fun h1 => ?_)
 ·have h1p := h1; try simp only [DL] at h1p
  all_goals (
    exact absurd h1 (by rw [hb]; simp))
 exact ZAM <| ZB1 rfl S <| H
theorem take_spec {M : Nat → Prop} {u0 : World} {l : List Atom} (c : Nat) (tv : Value) (i j : Nat) (kd : Int) (w0 : World) (hi : i < TK.length) (hj : i + 1 = j) (hk : (TK[i]).kind = kd) (h0 : HSat M u0 (PaC c tv (i) :: Sl tv 4 TokV.enc TK :: l) w0) :
    Ret Tryz.prog 88 #[.pointer (some ⟨c, 0, none⟩), .int .i64 kd] w0 (fun u w => u = .agg (TokV.enc (TK[i])).toArray ∧ HSat M u0 (PaC c tv (j) :: Sl tv 4 TokV.enc TK :: l) w) := by
 refine ZAE (nt := 50) Tryz.func88 rfl rfl rfl (fl := [(0, .pointer (some ⟨c, 0, none⟩)), (1, .int .i64 kd)]) rfl (fun a S => ?_)
 have H := h0
 have hi48 : (i : Int) < 48 := by have := TK_len; omega
 have hne : ¬ (i : Int) = (TK.length : Int) := by omega
 refine gsr <| q_al S H rfl Fzer169 fun b4 a w S H => gnt <| ZAG <| ZAG <| ZAZ (loud := []) (tails := []) (free := []) [0, 1, 2, 3, 4, 5, 6, 7, 8, 9, 10, 11, 12, 13, 14, 15, 16, 17, 18, 19, 20, 21, 22, 23, 24] [] Fmo (by kernel_rfl) (by kernel_rfl) rfl H ?_
 refine m_q rfl S (fun w H => ZAL rfl S rfl) fun a S => m_q rfl S (fun w H => ZAR rfl S rfl) fun a S => m_q rfl S (fun w H => ZAC rfl ZA4 S rfl) fun a S => m_q rfl S (fun w H => ZAJ rfl ZAN S H rfl rfl) fun a S => m_q rfl S (fun w H => ZAL rfl S rfl) fun a S => m_q rfl S (fun w H => ZAR rfl S rfl) fun a S => m_q rfl S (fun w H => ZAC rfl ZBz S rfl) fun a S => m_q rfl S (fun w H => ZAJ rfl ZBw S H rfl rfl) fun a S => ?_
 refine m_q rfl S (fun w H => ZAT rfl underlying159 S H rfl) fun a S => m_q rfl S (fun w H => ZAn rfl S rfl rfl rfl) fun a S => m_q rfl S (fun w H => ZAL rfl S rfl) fun a S => ?_
 refine' m_orq [11, 12, 13, 14, 15, 16, 17, 18, 19, 20, 21, 22, 23] 15 S rfl rfl rfl rfl rfl rfl rfl rfl rfl (fun _ S => (wn rfl)) (fun h1 kk => ?yh1) (fun a S => ?_)
 case yh1 =>
  have h1p := h1; try simp only [DL] at h1p
  refine m_w rfl rfl (wg' 15 rfl rfl S rfl h1 rfl) rfl rfl S (fun w H => ZAL rfl S rfl) fun a S => m_w rfl rfl (wg' 15 rfl rfl S rfl h1 rfl) rfl rfl S (fun w H => ZAR rfl S rfl) fun a S => m_w rfl rfl (wg' 15 rfl rfl S rfl h1 rfl) rfl rfl S (fun w H => ZAC rfl ZBz S rfl) fun a S => m_w rfl rfl (wg' 15 rfl rfl S rfl h1 rfl) rfl rfl S (fun w H => ZAJ rfl ZBw S H rfl rfl) fun a S => m_w rfl rfl (wg' 15 rfl rfl S rfl h1 rfl) rfl rfl S (fun w H => ZAL rfl S rfl) fun a S => m_w rfl rfl (wg' 15 rfl rfl S rfl h1 rfl) rfl rfl S (fun w H => ZAR rfl S rfl) fun a S => m_w rfl rfl (wg' 15 rfl rfl S rfl h1 rfl) rfl rfl S (fun w H => ZAC rfl ZA4 S rfl) fun a S => m_w rfl rfl (wg' 15 rfl rfl S rfl h1 rfl) rfl rfl S (fun w H => ZAJ rfl ZAN S H rfl rfl) fun a S => ?_
  refine m_w rfl rfl (wg' 15 rfl rfl S rfl h1 rfl) rfl rfl S (fun w H => ZAI rfl underlying159 Fsiz169 S H rfl rfl (by omega)) fun a S => ?_
  refine m_w rfl rfl (wg' 15 rfl rfl S rfl h1 rfl) rfl rfl S (fun w H => ZAq rfl Ffo169_0 S rfl) fun a S => ZA3 _ rfl rfl (wg' 15 rfl rfl S rfl h1 rfl) rfl rfl S rfl ZAN rfl (by omega) rfl fun a S => ?_
  exact m_w rfl rfl (wg' 15 rfl rfl S rfl h1 rfl) rfl rfl S (fun w H => ZAL rfl S rfl) fun a S => m_w rfl rfl (wg' 15 rfl rfl S rfl h1 rfl) rfl rfl S (fun w H => ZAn rfl S rfl rfl rfl) fun a S => m_q rfl S (fun w H => ZAz rfl h1 S rfl rfl) fun a S => kk _ (S.join 14 29 rfl rfl)
 refine ZBY (fun w H => ZAA ?_)
 have S := S.sel [29, 4, 0] rfl
 refine c_if S rfl (fun h2 => ?_) (fun h2 => ?_)
 ·have h2p := h2; try simp only [DL] at h2p
  all_goals (
    have h9 := h2; simp [hk, hne] at h9)
 have h2p := h2; try simp only [DL] at h2p
 refine ZAM <| ZAA <| gsr <| q_mv S rfl fun a S => gq rfl S (ZAR rfl S rfl) fun a S => q_fa S ZA4 rfl fun a S => q_ld S H ZAN rfl rfl fun a S => q_ad S rfl (by omega) fun a S => ?_
 refine gq rfl S (ZAR rfl S rfl) fun a S => q_fa S ZA4 rfl fun a S => q_st S H rfl rfl ZA5 rfl fun a w S H => ?_
 dsimp only [List.set, Nat.zero_add, Nat.reduceAdd] at H
 refine gnt ?_
 have S := S.sel [4, 0] rfl
 refine ZAG <| ZAZ (loud := [11]) (tails := [11]) (free := []) [0, 1, 2, 3, 4, 5, 6, 7, 8, 9, 10, 11] [] Fmo (by kernel_rfl) (by kernel_rfl) rfl H ?_
 refine m_q rfl S (fun w H => ZAL rfl S rfl) fun a S => m_q rfl S (fun w H => ZAR rfl S rfl) fun a S => m_q rfl S (fun w H => ZAC rfl ZBz S rfl) fun a S => m_q rfl S (fun w H => ZAJ rfl ZBw S H rfl rfl) fun a S => m_q rfl S (fun w H => ZAL rfl S rfl) fun a S => m_q rfl S (fun w H => ZAR rfl S rfl) fun a S => m_q rfl S (fun w H => ZAC rfl ZA4 S rfl) fun a S => m_q rfl S (fun w H => ZAJ rfl ZAN S H rfl rfl) fun a S => ?_
 refine m_q rfl S (fun w H => y_sub rfl S rfl rfl (by omega)) fun a S => ?_
 rw [show ((i : Int) + 1) - 1 = (i : Int) by omega] at S
 refine m_q rfl S (fun w H => ZAI rfl underlying159 Fsiz169 S H rfl rfl (by omega)) fun a S => ?_
 refine m_loadsa _ rfl rfl (wn rfl) rfl rfl S rfl rfl (by exact Fagg169) (by omega) fun a S => ?_
 refine m_l rfl rfl (fun w H => ZAQ (wn rfl) rfl rfl S H rfl rfl rfl Fsiz169 rfl (cs' := [_, _, _, _]) rfl fun a w S H => m_tail H rfl ?_)
 refine ZBY (fun w H => ZAA ?_)
 have S := S.sel [4] rfl
 refine ZAe <| retc rfl S H rfl (by exact Fagg169) ?_
 have H := H.tail
 rw [show ((i : Int) + 1) = (j : Int) by omega] at H
 exact ⟨rfl, H⟩
theorem pat_spec (c : Nat) (tv : Value) (i : Nat) (w0 : World) (hi : i < TK.length) (hc : w0.heap[c]? = some (.cells #[tv, .int .i64 (i : Int), .int .i64 147] 166 (0, 0))) (hv : IsSl w0 tv 4 TokV.enc TK) :
    Ret Tryz.prog 109 #[.pointer (some ⟨c, 0, none⟩)] w0 (fun u w => u = .int .i64 (TK[i]).at_ ∧ Ext w0 w) := by
 refine ZAE (nt := 26) Tryz.func109 rfl rfl rfl (fl := [(0, .pointer (some ⟨c, 0, none⟩))]) rfl (fun a S => ?_)
 have H := HSat.start w0
 have H := H.ro0 (Atom.ro (PaC c tv i)) rfl (hc)
 have H := H.ro0 (Sl tv 4 TokV.enc TK) rfl (hv)
 have hi48 : (i : Int) < 48 := by have := TK_len; omega
 have hne : ¬ (i : Int) = (TK.length : Int) := by omega
 refine gsr <| q_as S rfl fun a S => gnt <| ZAG <| ZAG <| ZAZ (loud := []) (tails := []) (free := []) [0, 1, 2, 3, 4, 5, 6, 7, 8, 9] [] Fmo (by kernel_rfl) (by kernel_rfl) rfl H ?_
 refine m_q rfl S (fun w H => ZAL rfl S rfl) fun a S => m_q rfl S (fun w H => ZAR rfl S rfl) fun a S => m_q rfl S (fun w H => ZAC rfl ZA4 S rfl) fun a S => m_q rfl S (fun w H => ZAJ rfl ZAN S H rfl rfl) fun a S => m_q rfl S (fun w H => ZAL rfl S rfl) fun a S => m_q rfl S (fun w H => ZAR rfl S rfl) fun a S => m_q rfl S (fun w H => ZAC rfl ZBz S rfl) fun a S => m_q rfl S (fun w H => ZAJ rfl ZBw S H rfl rfl) fun a S => ?_
 refine m_q rfl S (fun w H => ZAT rfl underlying159 S H rfl) fun a S => m_q rfl S (fun w H => ZAn rfl S rfl rfl rfl) fun a S => ZBY (fun w H => ZAA ?_)
 have S := S.sel [12, 2, 0] rfl
 refine c_if S rfl (fun h1 => ?_) (fun h1 => ?_)
 ·have h1p := h1; try simp only [DL] at h1p
  all_goals (
    have h9 := h1; simp [hne] at h9)
 have h1p := h1; try simp only [DL] at h1p
 refine ZAM <| ZAA <| ZAG <| ZAZ (loud := []) (tails := []) (free := []) [0, 1, 2, 3, 4, 5, 6, 7, 8, 9, 10, 11] [] Fmo (by kernel_rfl) (by kernel_rfl) rfl H ?_
 refine m_q rfl S (fun w H => ZAL rfl S rfl) fun a S => m_q rfl S (fun w H => ZAR rfl S rfl) fun a S => m_q rfl S (fun w H => ZAC rfl ZBz S rfl) fun a S => m_q rfl S (fun w H => ZAJ rfl ZBw S H rfl rfl) fun a S => m_q rfl S (fun w H => ZAL rfl S rfl) fun a S => m_q rfl S (fun w H => ZAR rfl S rfl) fun a S => m_q rfl S (fun w H => ZAC rfl ZA4 S rfl) fun a S => m_q rfl S (fun w H => ZAJ rfl ZAN S H rfl rfl) fun a S => ?_
 refine m_q rfl S (fun w H => ZAI rfl underlying159 Fsiz169 S H rfl rfl (by omega)) fun a S => ?_
 refine m_q rfl S (fun w H => ZAq rfl Ffo169_3 S rfl) fun a S => ZA3 _ rfl rfl (wn rfl) rfl rfl S rfl ZAN rfl (by omega) rfl fun a S => ?_
 refine m_q rfl S (fun w H => ZA1 rfl S rfl) fun a S => ZBY (fun w H => ZAA ?_)
 have S := S.sel [2] rfl
 exact ZAe <| ret1 rfl S rfl <| ⟨rfl, H.toExt⟩
theorem pnums_spec {M : Nat → Prop} {u0 : World} {l : List Atom} (c : Nat) (tv : Value) (i j m d off T : Nat) (cs : List Value) (lv : Value) (w0 : World) (hm : i + m ≤ TK.length) (hj : i + m = j) (hk : ∀ q (h : i + q < TK.length), q < m → (TK[i + q]).kind = 2) (ho : off + m ≤ cs.length) (h0 : HSat M u0 (PaC c tv (i) :: Sl tv 4 TokV.enc TK :: Cel d T cs :: OSl 172 lv 1 encPt (ptrs d off m) :: l) w0) :
    Ret Tryz.prog 89 #[.pointer (some ⟨c, 0, none⟩), lv] w0 (fun u w => HSat M u0 (PaC c tv (j) :: Sl tv 4 TokV.enc TK :: Cel d T (numW cs off i m) :: OSl 172 lv 1 encPt (ptrs d off m) :: l) w) := by
 refine ZAE (nt := 18) Tryz.func89 rfl rfl rfl (fl := [(0, .pointer (some ⟨c, 0, none⟩)), (1, lv)]) rfl (fun a S => ?_)
 have H := h0
 have hm48 : (i + m : Int) ≤ 48 := by have := TK_len; omega
 have hpl := ptrs_len d off m
 refine gsr <| q_mv S rfl fun a S => gq rfl S (ZAT rfl underlying194 S H rfl) fun a S => q_mv S rfl fun a S => gnt <| ZAD ?_
 have SU := S.sel [7, 6, 0] rfl
 refine ZBL (X := Nat) SU (fun k => [(8, .int .i64 (k : Int))]) (fun k w => k ≤ m ∧ HSat M u0 (PaC c tv (i + k) :: Sl tv 4 TokV.enc TK :: Cel d T (numW cs off i k) :: OSl 172 lv 1 encPt (ptrs d off m) :: l) w) (fun k => m - k) 0 (S.sel [8] rfl) (⟨Nat.zero_le _, H⟩) (fun k a w S hW => ?_)
 simp only [List.cons_append, List.nil_append] at S
 obtain ⟨hkm, H⟩ := hW
 refine gsr <| q_bn S rfl fun a S => gnt <| ZAG <| c_if S rfl (fun h1 => ?_) (fun h1 => ?_)
 ·have h1p := h1; try simp only [DL] at h1p
  have hkm2 : k < m := by have := h1p; omega
  refine ZAM <| ZAA <| ZAG <| ZAD <| gsr <| gq rfl S (ZAI rfl underlying194 Fsiz172 S H rfl rfl (by omega)) fun a S => ?_
  refine gq rfl S (ZA6 _ rfl Fsca172 S H rfl (by omega) rfl) fun a S => ?_
  simp only [encPt, ptrs_get] at S
  refine q_as S rfl fun a S => gnt <| ZAB <| q_mv S rfl fun a S => q_mv S rfl fun a S => q_cl S rfl call88 (take_spec c tv (i + k) (i + k + 1) 2 _ (by omega) rfl (hk k (by omega) (by omega)) H) fun v w hc a S => ?_
  obtain ⟨rfl, H⟩ := hc
  refine gq rfl S ((y_fieldX rfl S rfl (tok_field2 _ _))) fun a S => gq rfl S (ZAR rfl S rfl) fun a S => ZAF (ZAS (wn rfl) rfl rfl S H rfl rfl rfl ZA5 (by rw [numW_len, Nat.blt_eq]; omega) fun a w S H => ?_)
  refine ZAj <| ZAK <| ZAA ?_
  have S := S.sel [8, 7, 6, 0] rfl
  refine ZAB <| q_ad S rfl (by omega) fun a S => ?_
  exact q_mv S rfl fun a S => gnt <| ⟨k + 1, S.sel [8] rfl, S.sel [7, 6, 0] rfl, ⟨by omega, by rw [numW_s (by omega)]; exact H⟩, by omega⟩
 have h1p := h1; try simp only [DL] at h1p
 obtain rfl : k = m := by have := h1p; omega
 refine ZAf <| ZAO (ZAO (x_eq ?_))
 refine ZB1 rfl S ?_
 rw [hj] at H
 exact H
theorem tkT1 (h : 1 < TK.length) : (TK[1]'h).text = ⟨#[104]⟩ := by kernel_rfl
theorem tkT7 (h : 7 < TK.length) : (TK[7]'h).text = ⟨#[108, 111, 119]⟩ := by kernel_rfl
theorem tkT22 (h : 22 < TK.length) : (TK[22]'h).text = ⟨#[98]⟩ := by kernel_rfl
theorem tkT25 (h : 25 < TK.length) : (TK[25]'h).text = ⟨#[114]⟩ := by kernel_rfl
theorem numK {i m : Nat} (h : ((List.range m).all fun q => (match TK[i + q]? with | some t => t.kind | none => 0) == 2) = true) (q : Nat) (hq : i + q < TK.length) (hm : q < m) : (TK[i + q]'hq).kind = 2 := by
  have h2 := List.all_eq_true.1 h q (List.mem_range.2 hm)
  rw [List.getElem?_eq_getElem hq] at h2
  simpa using h2
theorem tkl {i : Nat} (h : i < 48) : i < TK.length := by rw [TK_len]; exact h
theorem ba_beq (a b : ByteArray) : (a == b) = decide (a = b) := by
  obtain ⟨x⟩ := a
  obtain ⟨y⟩ := b
  rw [Bool.eq_iff_iff, decide_eq_true_eq, ByteArray.mk.injEq]
  show (x == y) = true ↔ x = y
  simp
theorem checkKey_str {P : Program} {T : TypeId} (h : P.underlying T = some .string) (e : Bool) (n : Nat) (a : ByteArray) (w : World) : (Instr.checkKey e (n + 1) T (.string a)).run P w = .ok () w := by
  simp [Instr.checkKey, run_underlying h]
theorem sameBits_str (n : Nat) (a : ByteArray) : Instr.sameBits (n + 1) (.string a) (.string a) = true := by simp [Instr.sameBits, ba_beq]
theorem ZBs {P : Program} {T : TypeId} (h : P.underlying T = some .string) : KeyOK P T (fun s : ByteArray => Value.string s) :=
  ⟨find_now ⟨_, h, fun a b => by simp [Instr.sameNow]; exact ba_beq a b⟩, fun e a w => checkKey_str h e 9999 a w, fun a => sameBits_str 9999 a⟩
theorem pbox_spec {M : Nat → Prop} {u0 : World} {l : List Atom} (c : Nat) (tv : Value) (i j : Nat) (B : BoxV) (w0 : World) (hm : i + 4 ≤ TK.length) (hj : i + 4 = j) (hk : ∀ q (h : i + q < TK.length), q < 4 → (TK[i + q]).kind = 2) (hB : numW [.int .i64 0, .int .i64 0, .int .i64 0, .int .i64 0] 0 i 4 = BoxV.enc B) (h0 : HSat M u0 (PaC c tv (i) :: Sl tv 4 TokV.enc TK :: l) w0) :
    Ret Tryz.prog 132 #[.pointer (some ⟨c, 0, none⟩)] w0 (fun u w => u = .agg (BoxV.enc B).toArray ∧ HSat M u0 (PaC c tv (j) :: Sl tv 4 TokV.enc TK :: l) w) := by
 refine ZAE (nt := 11) Tryz.func132 rfl rfl rfl (fl := [(0, .pointer (some ⟨c, 0, none⟩))]) rfl (fun a S => ?_)
 have H := h0
 refine gsr <| q_al S H rfl Fzer90 fun b2 a w S H => gnt <| gsr <| q_mv S rfl fun a S => q_fa S Ffo90_0 rfl fun a S => q_fa S Ffo90_1 rfl fun a S => q_fa S Ffo90_2 rfl fun a S => ?_
 refine q_fa S Ffo90_3 rfl fun a S => ZAF (ZAP (wn rfl) rfl rfl rfl underlying194 Finf172 S H (idx := [0, 1, 2, 3]) rfl rfl rfl (z := [.pointer none, .pointer none, .pointer none, .pointer none]) (by kernel_rfl) (cs := [_, _, _, _]) rfl fun b8 a w S H => ?_)
 have H := H.celO (ptrs b2 0 4) encPt 1 (m := 4) rfl (by simp [encPt]) (ptrs_len _ _ _) (by omega)
 have H := H.pick (tgt := [PaC c tv (i), Sl tv 4 TokV.enc TK, Cel b2 90 [.int .i64 0, .int .i64 0, .int .i64 0, .int .i64 0], OSl 172 (.slice (some ⟨b8, 0, none⟩) 4 4) 1 encPt (ptrs b2 0 4)])
 simp only [List.cons_append, List.nil_append] at H
 refine q_cl S rfl call89 (pnums_spec c tv i j 4 b2 0 90 [.int .i64 0, .int .i64 0, .int .i64 0, .int .i64 0] _ _ hm hj hk (by decide) H) fun v w hc a S => ?_
 have H := hc
 rw [hB] at H
 refine gnt ?_
 have S := S.sel [2] rfl
 refine gsr <| gq rfl S (ZAb rfl S H rfl (by exact Fagg90)) fun a S => ?_
 refine ZAF (ZAQ (wn rfl) rfl rfl S H rfl rfl rfl Fsiz90 rfl (cs' := [_, _, _, _]) rfl fun a w S H => gnt ?_)
 refine ZAe <| retc rfl S H rfl (by exact Fagg90) ?_
 exact ⟨rfl, H.takeT [PaC c tv (j), Sl tv 4 TokV.enc TK] l⟩
theorem pmark_spec {M : Nat → Prop} {u0 : World} {l : List Atom} (c : Nat) (tv : Value) (i : Nat) (w0 : World) (hi : i < TK.length) (hk : (TK[i]).kind = 3) (h0 : HSat M u0 (PaC c tv (i) :: Sl tv 4 TokV.enc TK :: l) w0) :
    Ret Tryz.prog 153 #[.pointer (some ⟨c, 0, none⟩)] w0 (fun u w => u = .tuple #[.agg #[.int .i64 0, .int .i64 0, .int .i64 0], .bool false] ∧ HSat M u0 (PaC c tv (i) :: Sl tv 4 TokV.enc TK :: l) w) := by
 refine ZAE (nt := 73) Tryz.func153 rfl rfl rfl (fl := [(0, .pointer (some ⟨c, 0, none⟩))]) rfl (fun a S => ?_)
 have H := h0
 have hi48 : (i : Int) < 48 := by have := TK_len; omega
 have hne : ¬ (i : Int) = (TK.length : Int) := by omega
 refine gsr <| q_al S H rfl Fzer128 fun b2 a w S H => q_as S rfl fun a S => gnt <| gsr <| ZAF (ZBK (fun s : ByteArray => Value.string s) (fun n : Int => Value.int .i64 n) (wn rfl) rfl rfl rfl S H fun b5 a w S H => ZAF (op_insert (_) (_) (wn rfl) rfl rfl underlying253 S H rfl (ZBs underlying9) (by exact rfl) (by exact rfl) fun a w S H => ?_))
 refine ZAF (op_insert (_) (_) (wn rfl) rfl rfl underlying253 S H rfl (ZBs underlying9) (by exact rfl) (by exact rfl) fun a w S H => ?_)
 refine ZAF (op_insert (_) (_) (wn rfl) rfl rfl underlying253 S H rfl (ZBs underlying9) (by exact rfl) (by exact rfl) fun a w S H => ?_)
 refine ZAF (op_insert (_) (_) (wn rfl) rfl rfl underlying253 S H rfl (ZBs underlying9) (by exact rfl) (by exact rfl) fun a w S H => ?_)
 refine q_mv S rfl fun a S => q_as S rfl fun a S => gnt <| ZAG <| ZAG <| ZAZ (loud := []) (tails := []) (free := []) [0, 1, 2, 3, 4, 5, 6, 7, 8, 9, 10, 11, 12, 13, 14, 15, 16, 17, 18, 19, 20, 21, 22, 23] [] Fmo (by kernel_rfl) (by kernel_rfl) rfl H ?_
 refine m_q rfl S (fun w H => ZAL rfl S rfl) fun a S => m_q rfl S (fun w H => ZAR rfl S rfl) fun a S => m_q rfl S (fun w H => ZAC rfl ZA4 S rfl) fun a S => m_q rfl S (fun w H => ZAJ rfl ZAN S H rfl rfl) fun a S => m_q rfl S (fun w H => ZAL rfl S rfl) fun a S => m_q rfl S (fun w H => ZAR rfl S rfl) fun a S => m_q rfl S (fun w H => ZAC rfl ZBz S rfl) fun a S => m_q rfl S (fun w H => ZAJ rfl ZBw S H rfl rfl) fun a S => ?_
 refine m_q rfl S (fun w H => ZAT rfl underlying159 S H rfl) fun a S => m_q rfl S (fun w H => ZAn rfl S rfl rfl rfl) fun a S => m_q rfl S (fun w H => ZAL rfl S rfl) fun a S => ?_
 refine' m_orq [11, 12, 13, 14, 15, 16, 17, 18, 19, 20, 21, 22] 17 S rfl rfl rfl rfl rfl rfl rfl rfl rfl (fun _ S => (wn rfl)) (fun h1 kk => ?yh1) (fun a S => ?_)
 case yh1 =>
  have h1p := h1; try simp only [DL] at h1p
  refine m_w rfl rfl (wg' 17 rfl rfl S rfl h1 rfl) rfl rfl S (fun w H => ZAL rfl S rfl) fun a S => m_w rfl rfl (wg' 17 rfl rfl S rfl h1 rfl) rfl rfl S (fun w H => ZAR rfl S rfl) fun a S => m_w rfl rfl (wg' 17 rfl rfl S rfl h1 rfl) rfl rfl S (fun w H => ZAC rfl ZBz S rfl) fun a S => m_w rfl rfl (wg' 17 rfl rfl S rfl h1 rfl) rfl rfl S (fun w H => ZAJ rfl ZBw S H rfl rfl) fun a S => m_w rfl rfl (wg' 17 rfl rfl S rfl h1 rfl) rfl rfl S (fun w H => ZAL rfl S rfl) fun a S => m_w rfl rfl (wg' 17 rfl rfl S rfl h1 rfl) rfl rfl S (fun w H => ZAR rfl S rfl) fun a S => m_w rfl rfl (wg' 17 rfl rfl S rfl h1 rfl) rfl rfl S (fun w H => ZAC rfl ZA4 S rfl) fun a S => m_w rfl rfl (wg' 17 rfl rfl S rfl h1 rfl) rfl rfl S (fun w H => ZAJ rfl ZAN S H rfl rfl) fun a S => ?_
  refine m_w rfl rfl (wg' 17 rfl rfl S rfl h1 rfl) rfl rfl S (fun w H => ZAI rfl underlying159 Fsiz169 S H rfl rfl (by omega)) fun a S => ?_
  refine m_w rfl rfl (wg' 17 rfl rfl S rfl h1 rfl) rfl rfl S (fun w H => ZAq rfl Ffo169_0 S rfl) fun a S => ZA3 _ rfl rfl (wg' 17 rfl rfl S rfl h1 rfl) rfl rfl S rfl ZAN rfl (by omega) rfl fun a S => ?_
  exact m_w rfl rfl (wg' 17 rfl rfl S rfl h1 rfl) rfl rfl S (fun w H => ZAn rfl S rfl rfl rfl) fun a S => m_q rfl S (fun w H => ZAz rfl h1 S rfl rfl) fun a S => kk _ (S.join 13 30 rfl rfl)
 refine ZBY (fun w H => ZAA ?_)
 have S := S.sel [30, 4, 3, 2, 0] rfl
 refine c_if S rfl (fun h2 => ?_) (fun h2 => ?_)
 ·have h2p := h2; try simp only [DL] at h2p
  refine gsr <| gq rfl S (ZAb rfl S H rfl (by exact Fagg128)) fun a S => ?_
  refine ZAF (ZAQ (wn rfl) rfl rfl S H rfl rfl rfl Fsiz128 rfl (cs' := [_, _, _]) rfl fun a w S H => q_as S rfl fun a S => gnt ?_)
  refine ZAe <| ZAX (ret2ct rfl S H rfl rfl (by exact Fagg128) ?_)
  exact ⟨rfl, H.takeT [PaC c tv (i), Sl tv 4 TokV.enc TK] l⟩
 all_goals (
   have h9 := h2; simp [hk, hne] at h9)
def rowK : RowV := ⟨⟨#[114]⟩, 20, 5, 1, 3, 2, .slice none 0 0, [], 79⟩
set_option maxHeartbeats 1000000 in
theorem prow_spec {M : Nat → Prop} {u0 : World} {l : List Atom} (c : Nat) (tv : Value) (w0 : World) (h0 : HSat M u0 (PaC c tv (24) :: Sl tv 4 TokV.enc TK :: l) w0) :
    Ret Tryz.prog 145 #[.pointer (some ⟨c, 0, none⟩)] w0 (fun u w => u = .agg (RowV.enc rowK).toArray ∧ HSat M u0 (PaC c tv (36) :: Sl tv 4 TokV.enc TK :: l) w) := by
 refine ZAE (nt := 61) Tryz.func145 rfl rfl rfl (fl := [(0, .pointer (some ⟨c, 0, none⟩))]) rfl (fun a S => ?_)
 have H := h0
 refine gsr <| q_al S H rfl Fzer70 fun b2 a w S H => gnt <| gsr <| q_mv S rfl fun a S => q_cl S rfl call109 (pat_spec c tv 24 _ (tkl (by decide)) (H.rd c) (H.sl tv)) fun v w hc a S => ?_
 obtain ⟨rfl, he⟩ := hc
 have H := H.ext he
 refine gq rfl S (ZAx rfl Fbld70 S rfl (idx := [7]) rfl (cs := [.string ⟨#[]⟩, .int .i64 0, .int .i64 0, .int .i64 0, .int .i64 0, .int .i64 0, .slice none 0 0, .int .i64 79]) (by kernel_rfl)) fun a S => ?_
 refine q_al S H rfl Fzer70 fun b3 a w S H => ZAF (ZAQ (wn rfl) rfl rfl S H rfl rfl rfl Fsiz70 rfl (cs' := [_, _, _, _, _, _, _, _]) rfl fun a w S H => gnt ?_)
 refine gsr <| q_mv S rfl fun a S => q_cl S rfl call87 (ZBN c tv 24 25 _ _ (tkl (by decide)) rfl (by kernel_rfl) (H.front2 (PaC c tv (24)) (Sl tv 4 TokV.enc TK))) fun v w hc a S => ?_
 have H := hc
 try simp only [List.cons_append, List.nil_append] at H
 refine gnt ?_
 have S := S.sel [3, 2, 0] rfl
 refine gsr <| q_mv S rfl fun a S => q_cl S rfl call88 (take_spec c tv 25 26 1 _ (tkl (by decide)) rfl (by kernel_rfl) (H.front2 (PaC c tv (25)) (Sl tv 4 TokV.enc TK))) fun v w hc a S => ?_
 obtain ⟨rfl, H⟩ := hc
 try simp only [List.cons_append, List.nil_append] at H
 refine gq rfl S ((y_fieldX rfl S rfl (tok_field1 _ _))) fun a S => ?_
 rw [tkT25] at S
 refine q_fa S Ffo70_0 rfl fun a S => q_st S H rfl rfl Fsiz9 rfl fun a w S H => ?_
 dsimp only [List.set, Nat.zero_add, Nat.reduceAdd] at H
 refine gnt ?_
 have S := S.sel [3, 2, 0] rfl
 refine gsr <| q_mv S rfl fun a S => q_cl S rfl call87 (ZBN c tv 26 27 _ _ (tkl (by decide)) rfl (by kernel_rfl) (H.front2 (PaC c tv (26)) (Sl tv 4 TokV.enc TK))) fun v w hc a S => ?_
 have H := hc
 try simp only [List.cons_append, List.nil_append] at H
 refine gnt <| gsr <| q_mv S rfl fun a S => q_fa S Ffo70_1 rfl fun a S => q_fa S Ffo70_2 rfl fun a S => ZAF (ZAP (wn rfl) rfl rfl rfl underlying194 Finf172 S H (idx := [0, 1]) rfl rfl rfl (z := [.pointer none, .pointer none]) (by kernel_rfl) (cs := [_, _]) rfl fun b20 a w S H => ?_)
 have H := H.celO (ptrs b3 1 2) encPt 1 (m := 2) rfl (by simp [encPt]) (ptrs_len _ _ _) (by omega)
 have H := H.pick (tgt := [PaC c tv (27), Sl tv 4 TokV.enc TK, Cel b3 70 [.string ⟨#[114]⟩, .int .i64 0, .int .i64 0, .int .i64 0, .int .i64 0, .int .i64 0, .slice none 0 0, .int .i64 79], OSl 172 (.slice (some ⟨b20, 0, none⟩) 2 2) 1 encPt (ptrs b3 1 2)])
 simp only [List.cons_append, List.nil_append] at H
 refine q_cl S rfl call89 (pnums_spec c tv 27 29 2 b3 1 70 [.string ⟨#[114]⟩, .int .i64 0, .int .i64 0, .int .i64 0, .int .i64 0, .int .i64 0, .slice none 0 0, .int .i64 79] _ _ (by rw [TK_len]; decide) rfl (numK (by kernel_rfl)) (by decide) H) fun v w hc a S => ?_
 have H := hc
 rw [show numW [.string ⟨#[114]⟩, .int .i64 0, .int .i64 0, .int .i64 0, .int .i64 0, .int .i64 0, .slice none 0 0, .int .i64 79] 1 27 2 = [.string ⟨#[114]⟩, .int .i64 20, .int .i64 5, .int .i64 0, .int .i64 0, .int .i64 0, .slice none 0 0, .int .i64 79] from by kernel_rfl] at H
 refine gnt ?_
 have S := S.sel [3, 2, 0] rfl
 refine gsr <| q_mv S rfl fun a S => q_cl S rfl call87 (ZBN c tv 29 30 _ _ (tkl (by decide)) rfl (by kernel_rfl) (H.front2 (PaC c tv (29)) (Sl tv 4 TokV.enc TK))) fun v w hc a S => ?_
 have H := hc
 try simp only [List.cons_append, List.nil_append] at H
 refine gnt <| gsr <| q_mv S rfl fun a S => q_fa S Ffo70_3 rfl fun a S => ZAF (ZAP (wn rfl) rfl rfl rfl underlying194 Finf172 S H (idx := [0]) rfl rfl rfl (z := [.pointer none]) (by kernel_rfl) (cs := [_]) rfl fun b26 a w S H => ?_)
 have H := H.celO (ptrs b3 3 1) encPt 1 (m := 1) rfl (by simp [encPt]) (ptrs_len _ _ _) (by omega)
 have H := H.pick (tgt := [PaC c tv (30), Sl tv 4 TokV.enc TK, Cel b3 70 [.string ⟨#[114]⟩, .int .i64 20, .int .i64 5, .int .i64 0, .int .i64 0, .int .i64 0, .slice none 0 0, .int .i64 79], OSl 172 (.slice (some ⟨b26, 0, none⟩) 1 1) 1 encPt (ptrs b3 3 1)])
 simp only [List.cons_append, List.nil_append] at H
 refine q_cl S rfl call89 (pnums_spec c tv 30 31 1 b3 3 70 [.string ⟨#[114]⟩, .int .i64 20, .int .i64 5, .int .i64 0, .int .i64 0, .int .i64 0, .slice none 0 0, .int .i64 79] _ _ (by rw [TK_len]; decide) rfl (numK (by kernel_rfl)) (by decide) H) fun v w hc a S => ?_
 have H := hc
 rw [show numW [.string ⟨#[114]⟩, .int .i64 20, .int .i64 5, .int .i64 0, .int .i64 0, .int .i64 0, .slice none 0 0, .int .i64 79] 3 30 1 = [.string ⟨#[114]⟩, .int .i64 20, .int .i64 5, .int .i64 1, .int .i64 0, .int .i64 0, .slice none 0 0, .int .i64 79] from by kernel_rfl] at H
 refine gnt ?_
 have S := S.sel [3, 2, 0] rfl
 refine gsr <| q_mv S rfl fun a S => q_cl S rfl call87 (ZBN c tv 31 32 _ _ (tkl (by decide)) rfl (by kernel_rfl) (H.front2 (PaC c tv (31)) (Sl tv 4 TokV.enc TK))) fun v w hc a S => ?_
 have H := hc
 try simp only [List.cons_append, List.nil_append] at H
 refine gnt <| gsr <| q_mv S rfl fun a S => q_fa S Ffo70_4 rfl fun a S => ZAF (ZAP (wn rfl) rfl rfl rfl underlying194 Finf172 S H (idx := [0]) rfl rfl rfl (z := [.pointer none]) (by kernel_rfl) (cs := [_]) rfl fun b32 a w S H => ?_)
 have H := H.celO (ptrs b3 4 1) encPt 1 (m := 1) rfl (by simp [encPt]) (ptrs_len _ _ _) (by omega)
 have H := H.pick (tgt := [PaC c tv (32), Sl tv 4 TokV.enc TK, Cel b3 70 [.string ⟨#[114]⟩, .int .i64 20, .int .i64 5, .int .i64 1, .int .i64 0, .int .i64 0, .slice none 0 0, .int .i64 79], OSl 172 (.slice (some ⟨b32, 0, none⟩) 1 1) 1 encPt (ptrs b3 4 1)])
 simp only [List.cons_append, List.nil_append] at H
 refine q_cl S rfl call89 (pnums_spec c tv 32 33 1 b3 4 70 [.string ⟨#[114]⟩, .int .i64 20, .int .i64 5, .int .i64 1, .int .i64 0, .int .i64 0, .slice none 0 0, .int .i64 79] _ _ (by rw [TK_len]; decide) rfl (numK (by kernel_rfl)) (by decide) H) fun v w hc a S => ?_
 have H := hc
 rw [show numW [.string ⟨#[114]⟩, .int .i64 20, .int .i64 5, .int .i64 1, .int .i64 0, .int .i64 0, .slice none 0 0, .int .i64 79] 4 32 1 = [.string ⟨#[114]⟩, .int .i64 20, .int .i64 5, .int .i64 1, .int .i64 3, .int .i64 0, .slice none 0 0, .int .i64 79] from by kernel_rfl] at H
 refine gnt ?_
 have S := S.sel [3, 2, 0] rfl
 refine gsr <| q_mv S rfl fun a S => q_cl S rfl call87 (ZBN c tv 33 34 _ _ (tkl (by decide)) rfl (by kernel_rfl) (H.front2 (PaC c tv (33)) (Sl tv 4 TokV.enc TK))) fun v w hc a S => ?_
 have H := hc
 try simp only [List.cons_append, List.nil_append] at H
 refine gnt <| gsr <| q_mv S rfl fun a S => q_fa S Ffo70_5 rfl fun a S => ZAF (ZAP (wn rfl) rfl rfl rfl underlying194 Finf172 S H (idx := [0]) rfl rfl rfl (z := [.pointer none]) (by kernel_rfl) (cs := [_]) rfl fun b38 a w S H => ?_)
 have H := H.celO (ptrs b3 5 1) encPt 1 (m := 1) rfl (by simp [encPt]) (ptrs_len _ _ _) (by omega)
 have H := H.pick (tgt := [PaC c tv (34), Sl tv 4 TokV.enc TK, Cel b3 70 [.string ⟨#[114]⟩, .int .i64 20, .int .i64 5, .int .i64 1, .int .i64 3, .int .i64 0, .slice none 0 0, .int .i64 79], OSl 172 (.slice (some ⟨b38, 0, none⟩) 1 1) 1 encPt (ptrs b3 5 1)])
 simp only [List.cons_append, List.nil_append] at H
 refine q_cl S rfl call89 (pnums_spec c tv 34 35 1 b3 5 70 [.string ⟨#[114]⟩, .int .i64 20, .int .i64 5, .int .i64 1, .int .i64 3, .int .i64 0, .slice none 0 0, .int .i64 79] _ _ (by rw [TK_len]; decide) rfl (numK (by kernel_rfl)) (by decide) H) fun v w hc a S => ?_
 have H := hc
 rw [show numW [.string ⟨#[114]⟩, .int .i64 20, .int .i64 5, .int .i64 1, .int .i64 3, .int .i64 0, .slice none 0 0, .int .i64 79] 5 34 1 = [.string ⟨#[114]⟩, .int .i64 20, .int .i64 5, .int .i64 1, .int .i64 3, .int .i64 2, .slice none 0 0, .int .i64 79] from by kernel_rfl] at H
 refine gnt ?_
 have S := S.sel [3, 2, 0] rfl
 refine ZAG <| gsr <| q_mv S rfl fun a S => q_cl S rfl call153 (pmark_spec c tv 35 _ (tkl (by decide)) (by kernel_rfl) (H.front2 (PaC c tv (35)) (Sl tv 4 TokV.enc TK))) fun v w hc a S => ?_
 obtain ⟨rfl, H⟩ := hc
 try simp only [List.cons_append, List.nil_append] at H
 refine q_mv S rfl fun a S => ?_
 refine gq rfl S (ZAa rfl S rfl rfl) fun a S => ?_
 refine gq rfl S (ZAa rfl S rfl rfl) fun a S => ?_
 refine q_al S H rfl Fzer128 fun b4 a w S H => ?_
 refine ZAF (ZAQ (wn rfl) rfl rfl S H rfl rfl rfl Fsiz128 rfl (cs' := [_, _, _]) rfl fun a w S H => ?_)
 refine q_as S rfl fun a S => ?_
 refine gnt ?_
 have S := S.sel [5, 4, 3, 2, 0] rfl
 refine ZAD ?_
 have SU := S.sel [3, 2, 0] rfl
 refine ZBL (X := Unit) SU (fun x => [(4, .pointer (some ⟨b4, 0, none⟩)), (5, .bool false)]) (fun x w => HSat M u0 (Cel b4 128 [.int .i64 0, .int .i64 0, .int .i64 0] :: Cel b3 70 [.string ⟨#[114]⟩, .int .i64 20, .int .i64 5, .int .i64 1, .int .i64 3, .int .i64 2, .slice none 0 0, .int .i64 79] :: Cel b2 70 [.string ⟨#[]⟩, .int .i64 0, .int .i64 0, .int .i64 0, .int .i64 0, .int .i64 0, .slice none 0 0, .int .i64 0] :: PaC c tv (35) :: Sl tv 4 TokV.enc TK :: l) w) (fun x => 0) () (S.sel [4, 5] rfl) (H.takeT [Cel b4 128 [.int .i64 0, .int .i64 0, .int .i64 0], Cel b3 70 [.string ⟨#[114]⟩, .int .i64 20, .int .i64 5, .int .i64 1, .int .i64 3, .int .i64 2, .slice none 0 0, .int .i64 79], Cel b2 70 [.string ⟨#[]⟩, .int .i64 0, .int .i64 0, .int .i64 0, .int .i64 0, .int .i64 0, .slice none 0 0, .int .i64 0], PaC c tv (35), Sl tv 4 TokV.enc TK] l) (fun x a w S hW => ?_)
 simp only [List.cons_append, List.nil_append] at S
 have H := hW
 refine ZAG <| gsr <| q_mv S rfl fun a S => gnt <| c_if S rfl (fun h1 => ?_) (fun h1 => ?_)
 ·have h1p := h1; try simp only [DL] at h1p
  all_goals (
    exact absurd h1 (by simp))
 refine ZAf <| ZAO (ZAO (x_eq ?_))
 refine ZAA <| gsr <| q_mv S rfl fun a S => q_cl S rfl call87 (ZBN c tv 35 36 _ _ (tkl (by decide)) rfl (by kernel_rfl) (H.front2 (PaC c tv (35)) (Sl tv 4 TokV.enc TK))) fun v w hc a S => ?_
 have H := hc
 try simp only [List.cons_append, List.nil_append] at H
 refine gnt ?_
 have S := S.sel [3, 2] rfl
 refine gsr <| gq rfl S (ZAb rfl S H rfl (by exact Fagg70)) fun a S => ?_
 refine ZAF (ZAQ (wn rfl) rfl rfl S H rfl rfl rfl Fsiz70 rfl (cs' := [_, _, _, _, _, _, _, _]) rfl fun a w S H => gnt ?_)
 refine ZAe <| retc rfl S H rfl (by exact Fagg70) ?_
 exact ⟨rfl, H.takeT [PaC c tv (36), Sl tv 4 TokV.enc TK] l⟩
theorem isY_spec {M : Nat → Prop} {u0 : World} {l : List Atom} (c : Nat) (tv : Value) (i j : Nat) (s : ByteArray) (w0 : World) (hi : i < TK.length) (hj : i + 1 = j) (hb : isB (TK[i]) s = true) (h0 : HSat M u0 (PaC c tv (i) :: Sl tv 4 TokV.enc TK :: l) w0) : Ret Tryz.prog 90 #[.pointer (some ⟨c, 0, none⟩), .string s] w0 (fun u w => u = .bool true ∧ HSat M u0 (PaC c tv (j) :: Sl tv 4 TokV.enc TK :: l) w) :=
  Ret.mono (is_spec c tv i s w0 hi h0) fun u w ⟨hu, H⟩ => by rw [hb, if_pos rfl, hj] at H; rw [hb] at hu; exact ⟨hu, H⟩
theorem isN_spec {M : Nat → Prop} {u0 : World} {l : List Atom} (c : Nat) (tv : Value) (i : Nat) (s : ByteArray) (w0 : World) (hi : i < TK.length) (hb : isB (TK[i]) s = false) (h0 : HSat M u0 (PaC c tv (i) :: Sl tv 4 TokV.enc TK :: l) w0) : Ret Tryz.prog 90 #[.pointer (some ⟨c, 0, none⟩), .string s] w0 (fun u w => u = .bool false ∧ HSat M u0 (PaC c tv (i) :: Sl tv 4 TokV.enc TK :: l) w) :=
  Ret.mono (is_spec c tv i s w0 hi h0) fun u w ⟨hu, H⟩ => by rw [hb, if_neg (by simp)] at H; rw [hb] at hu; exact ⟨hu, H⟩
def blkK (v : Value) : BlockV := ⟨⟨#[98]⟩, v, [rowK], 69⟩
theorem y_eqfn {P : Program} {o : Oper} {a : Act} {w : World} {n : Sz} {fl : Slots} {T U : TypeId} {x : Operand} {f : Fn} {fi cap : Array Value} {ps rs : Array TypeId} {vr : Bool} (ho : o.op = .binOp .eql T x (.const .nilFunc) U) (hT : P.underlying T = some (.func ps rs vr)) (S : St n fl a) (hx : ev fl x = some (.func f fi cap)) : Yld P o a w (.bool false) := by
  have hh : ∀ q : Nat, (Op.equalIn (q + 1) T (.func f fi cap) .nilFunc).run P w = .ok false w := fun q => by
    simp [Op.equalIn, run_underlying hT]
  have h := hh 9999
  unfold Yld execOp; rw [ho]; simp only [S.ev hx]
  simp [eqGuard, binOp, Op.equal, Act.eval]
  rw [show Op.maxDepth = 9999 + 1 from rfl, h]
  rfl
def ZBk (b2 b3 : Nat) : ByteArray → Option Value := upd (upd (upd (upd (upd (fun _ => none) ⟨#[98, 108, 111, 99, 107]⟩ (.func (.func 129) #[] #[.pointer (some ⟨b3, 0, none⟩), .pointer (some ⟨b2, 0, none⟩)])) ⟨#[97, 114, 101, 97]⟩ (.func (.func 131) #[] #[.pointer (some ⟨b2, 0, none⟩), .pointer (some ⟨b3, 0, none⟩)])) ⟨#[97, 105, 115, 108, 101]⟩ (.func (.func 133) #[] #[.pointer (some ⟨b3, 0, none⟩), .pointer (some ⟨b2, 0, none⟩)])) ⟨#[112, 105, 108, 108, 97, 114]⟩ (.func (.func 134) #[] #[.pointer (some ⟨b3, 0, none⟩), .pointer (some ⟨b2, 0, none⟩)])) ⟨#[100, 111, 111, 114]⟩ (.func (.func 135) #[] #[.pointer (some ⟨b2, 0, none⟩), .pointer (some ⟨b3, 0, none⟩)])
set_option maxHeartbeats 1000000 in
theorem pblock_spec {M : Nat → Prop} {u0 : World} {l : List Atom} (c : Nat) (tv : Value) (w0 : World) (h0 : HSat M u0 (PaC c tv (22) :: Sl tv 4 TokV.enc TK :: l) w0) :
    Ret Tryz.prog 130 #[.pointer (some ⟨c, 0, none⟩), .int .i64 69] w0 (fun u w => ∃ rv, u = .agg (BlockV.enc (blkK rv)).toArray ∧ HSat M u0 (OSl 70 rv 8 RowV.enc [rowK] :: PaC c tv (37) :: Sl tv 4 TokV.enc TK :: l) w) := by
 refine ZAE (nt := 24) Tryz.func130 rfl rfl rfl (fl := [(0, .pointer (some ⟨c, 0, none⟩)), (1, .int .i64 69)]) rfl (fun a S => ?_)
 have H := h0
 refine gsr <| q_al S H rfl Fzer73 fun b4 a w S H => gnt <| gsr <| q_mv S rfl fun a S => q_mv S rfl fun a S => q_cl S rfl call88 (take_spec c tv 22 23 1 _ (tkl (by decide)) rfl (by kernel_rfl) (H.front2 (PaC c tv (22)) (Sl tv 4 TokV.enc TK))) fun v w hc a S => ?_
 obtain ⟨rfl, H⟩ := hc
 try simp only [List.cons_append, List.nil_append] at H
 refine gq rfl S ((y_fieldX rfl S rfl (tok_field1 _ _))) fun a S => ?_
 rw [tkT22] at S
 refine gq rfl S (ZAx rfl Fbld73 S rfl (idx := [2, 0]) rfl (cs := [.string ⟨#[98]⟩, .slice none 0 0, .int .i64 69]) (by kernel_rfl)) fun a S => ?_
 refine q_al S H rfl Fzer73 fun b5 a w S H => ZAF (ZAQ (wn rfl) rfl rfl S H rfl rfl rfl Fsiz73 rfl (cs' := [_, _, _]) rfl fun a w S H => gnt ?_)
 have S := S.sel [5, 4, 0] rfl
 refine gsr <| q_mv S rfl fun a S => q_cl S rfl call87 (ZBN c tv 23 24 _ _ (tkl (by decide)) rfl (by kernel_rfl) (H.front2 (PaC c tv (23)) (Sl tv 4 TokV.enc TK))) fun v w hc a S => ?_
 have H := hc
 try simp only [List.cons_append, List.nil_append] at H
 refine gnt <| ZAG <| ZAD ?_
 have H := H.nilO 70 8 RowV.enc
 have SU := S.sel [5, 4, 0] rfl
 refine ZBL (X := Nat × Value) SU (fun x => []) (fun x w => x.1 ≤ 1 ∧ HSat M u0 (Cel b5 73 [.string ⟨#[98]⟩, x.2, .int .i64 69] :: OSl 70 x.2 8 RowV.enc (if x.1 = 0 then [] else [rowK]) :: Cel b4 73 [.string ⟨#[]⟩, .slice none 0 0, .int .i64 0] :: PaC c tv (if x.1 = 0 then 24 else 36) :: Sl tv 4 TokV.enc TK :: l) w) (fun x => 1 - x.1) (0, .slice none 0 0) (S.nil) (⟨by decide, H.takeT [Cel b5 73 [.string ⟨#[98]⟩, (.slice none 0 0), .int .i64 69], OSl 70 (.slice none 0 0) 8 RowV.enc [], Cel b4 73 [.string ⟨#[]⟩, .slice none 0 0, .int .i64 0], PaC c tv (24), Sl tv 4 TokV.enc TK] l⟩) (fun x a w S hW => ?_)
 simp only [List.cons_append, List.nil_append] at S
 refine ZAG <| ZAG ?_
 obtain ⟨k, v⟩ := x
 obtain ⟨hk, H⟩ := hW
 dsimp only at S H hk
 rcases (show k = 0 ∨ k = 1 by omega) with rfl | rfl
 ·have H : HSat M u0 (Cel b5 73 [.string ⟨#[98]⟩, v, .int .i64 69] :: OSl 70 v 8 RowV.enc [] :: Cel b4 73 [.string ⟨#[]⟩, .slice none 0 0, .int .i64 0] :: PaC c tv (24) :: Sl tv 4 TokV.enc TK :: l) _ := H
  refine ZAB <| q_mv S rfl fun a S => q_cl S rfl call90 (isN_spec c tv 24 _ _ (tkl (by decide)) (by kernel_rfl) (H.front2 (PaC c tv (24)) (Sl tv 4 TokV.enc TK))) fun v w hc a S => ?_
  obtain ⟨rfl, H⟩ := hc
  refine gq rfl S (ZBV rfl S rfl) fun a S => gnt <| c_if S rfl (fun h1 => ?_) (fun h1 => ?_)
  ·have h1p := h1; try simp only [DL] at h1p
   refine ZAM <| ZAA <| ZAD <| cutQ (fun a w => ∃ v2, St 24 [(0, .pointer (some ⟨c, 0, none⟩)), (4, .pointer (some ⟨b4, 0, none⟩)), (5, .pointer (some ⟨b5, 0, none⟩))] a ∧ HSat M u0 (Cel b5 73 [.string ⟨#[98]⟩, v2, .int .i64 69] :: OSl 70 v2 8 RowV.enc [rowK] :: Cel b4 73 [.string ⟨#[]⟩, .slice none 0 0, .int .i64 0] :: PaC c tv (36) :: Sl tv 4 TokV.enc TK :: l) w) ?_ ?_
   ·skip
    refine t_st (tails := [3, 5, 7]) [] Fmo H <| t_p 0 rfl (by kernel_rfl) (rem' := [1, 2, 3, 4, 5, 6, 7]) rfl rfl rfl rfl S (fun w => ZAC rfl Ffo73_1 S rfl) fun a S => ?_
    refine t_q 2 rfl (by kernel_rfl) (rem' := [1, 3, 4, 5, 6, 7]) rfl rfl rfl rfl S (fun w H => ZAL rfl S rfl) fun a S => ?_
    refine t_b [1, 3] (by kernel_rfl) rfl (fa2 ?_ ?_)
    ·refine ⟨_, rfl, fun w H => ?_⟩
     refine op_y (wn rfl) rfl rfl S (ZAJ rfl Fsca71 S H rfl rfl) fun a S => t_n H (rem' := [3, 4, 5, 6, 7]) rfl <| t_b1 3 (by kernel_rfl) rfl fun w H => ?_
     refine ZAV (wn rfl) rfl rfl S (ZAi rfl call145 S rfl) (prow_spec c tv _ (H.front2 (PaC c tv (24)) (Sl tv 4 TokV.enc TK))) fun v w hc a S => ?_
     obtain ⟨rfl, H⟩ := hc
     refine ZAY H rfl (rem' := [4, 5, 6, 7]) rfl <| t_b1 4 (by kernel_rfl) rfl fun w H => ?_
     refine ZAP (wn rfl) rfl rfl rfl underlying71 Finf70 S H (idx := [0]) rfl rfl rfl (z := [.string ⟨#[]⟩, .int .i64 0, .int .i64 0, .int .i64 0, .int .i64 0, .int .i64 0, .slice none 0 0, .int .i64 0]) (by kernel_rfl) (cs := [.string ⟨#[114]⟩, .int .i64 20, .int .i64 5, .int .i64 1, .int .i64 3, .int .i64 2, .slice none 0 0, .int .i64 79]) (by kernel_rfl) fun b20 a w S H => ?_
     refine t_n H (rem' := [5, 6, 7]) rfl <| t_b1 5 (by kernel_rfl) rfl fun w H => ?_
     refine ZAr ([rowK]) (wn rfl) rfl rfl rfl underlying71 Finf70 rfl rfl S H rfl rfl rfl rfl (by simp) (by simp [RowV.enc]) (by simp [RowV.enc, rowK, Value.oneCell']) (by simp only [List.length_cons, List.length_nil]; omega) (by simp only [List.length_cons, List.length_nil]; omega) fun u21 a w hn21 S H => ?_
     refine ZAY H rfl (rem' := [6, 7]) rfl <| t_q 6 rfl (by kernel_rfl) (rem' := [7]) rfl rfl rfl rfl S (fun w H => ZAC rfl Ffo73_1 S rfl) fun a S => ?_
     refine t_b1 7 (by kernel_rfl) rfl fun w H => ?_
     refine ZAS (wn rfl) rfl rfl S H rfl rfl (H.sl1 _) Fsiz71 rfl fun a w S H => ?_
     dsimp only [List.set, Nat.zero_add, Nat.reduceAdd] at H
     refine ZAY H rfl (rem' := []) rfl <| ZBZ (fun w H => ?_)
     rw [List.nil_append] at H
     exact ⟨u21, S.sel [0, 4, 5] rfl, H.takeT [Cel b5 73 [.string ⟨#[98]⟩, u21, .int .i64 69], OSl 70 u21 8 RowV.enc [rowK], Cel b4 73 [.string ⟨#[]⟩, .slice none 0 0, .int .i64 0], PaC c tv (36), Sl tv 4 TokV.enc TK] l⟩
    refine ⟨_, rfl, fun w H => ?_⟩
    refine ZAV (wn rfl) rfl rfl S (ZAi rfl call145 S rfl) (prow_spec c tv _ (H.front2 (PaC c tv (24)) (Sl tv 4 TokV.enc TK))) fun v w hc a S => ?_
    obtain ⟨rfl, H⟩ := hc
    refine ZAY H rfl (rem' := [1, 4, 5, 6, 7]) rfl <| t_q 1 rfl (by kernel_rfl) (rem' := [4, 5, 6, 7]) rfl rfl rfl rfl S (fun w H => ZAJ rfl Fsca71 S H rfl rfl) fun a S => ?_
    refine t_b1 4 (by kernel_rfl) rfl fun w H => ?_
    refine ZAP (wn rfl) rfl rfl rfl underlying71 Finf70 S H (idx := [0]) rfl rfl rfl (z := [.string ⟨#[]⟩, .int .i64 0, .int .i64 0, .int .i64 0, .int .i64 0, .int .i64 0, .slice none 0 0, .int .i64 0]) (by kernel_rfl) (cs := [.string ⟨#[114]⟩, .int .i64 20, .int .i64 5, .int .i64 1, .int .i64 3, .int .i64 2, .slice none 0 0, .int .i64 79]) (by kernel_rfl) fun b20 a w S H => ?_
    refine t_n H (rem' := [5, 6, 7]) rfl <| t_b1 5 (by kernel_rfl) rfl fun w H => ?_
    refine ZAr ([rowK]) (wn rfl) rfl rfl rfl underlying71 Finf70 rfl rfl S H rfl rfl rfl rfl (by simp) (by simp [RowV.enc]) (by simp [RowV.enc, rowK, Value.oneCell']) (by simp only [List.length_cons, List.length_nil]; omega) (by simp only [List.length_cons, List.length_nil]; omega) fun u21 a w hn21 S H => ?_
    refine ZAY H rfl (rem' := [6, 7]) rfl <| t_q 6 rfl (by kernel_rfl) (rem' := [7]) rfl rfl rfl rfl S (fun w H => ZAC rfl Ffo73_1 S rfl) fun a S => ?_
    refine t_b1 7 (by kernel_rfl) rfl fun w H => ?_
    refine ZAS (wn rfl) rfl rfl S H rfl rfl (H.sl1 _) Fsiz71 rfl fun a w S H => ?_
    dsimp only [List.set, Nat.zero_add, Nat.reduceAdd] at H
    refine ZAY H rfl (rem' := []) rfl <| ZBZ (fun w H => ?_)
    rw [List.nil_append] at H
    exact ⟨u21, S.sel [0, 4, 5] rfl, H.takeT [Cel b5 73 [.string ⟨#[98]⟩, u21, .int .i64 69], OSl 70 u21 8 RowV.enc [rowK], Cel b4 73 [.string ⟨#[]⟩, .slice none 0 0, .int .i64 0], PaC c tv (36), Sl tv 4 TokV.enc TK] l⟩
   rintro a w ⟨v2, S, H⟩
   exact ZAK <| ZAA <| ⟨(1, v2), S.nil, S.sel [5, 4, 0] rfl, ⟨Nat.le_refl 1, H⟩, by dsimp only; omega⟩
  all_goals (
    exact absurd h1 (by simp))
 have H : HSat M u0 (Cel b5 73 [.string ⟨#[98]⟩, v, .int .i64 69] :: OSl 70 v 8 RowV.enc [rowK] :: Cel b4 73 [.string ⟨#[]⟩, .slice none 0 0, .int .i64 0] :: PaC c tv (36) :: Sl tv 4 TokV.enc TK :: l) _ := H
 refine ZAB <| q_mv S rfl fun a S => q_cl S rfl call90 (isY_spec c tv 36 37 _ _ (tkl (by decide)) rfl (by kernel_rfl) (H.front2 (PaC c tv (36)) (Sl tv 4 TokV.enc TK))) fun v w hc a S => ?_
 obtain ⟨rfl, H⟩ := hc
 refine gq rfl S (ZBV rfl S rfl) fun a S => gnt <| c_if S rfl (fun h2 => ?_) (fun h2 => ?_)
 ·have h2p := h2; try simp only [DL] at h2p
  all_goals (
    exact absurd h2 (by simp))
 refine ZAf <| ZAO (ZAO (x_eq ?_))
 refine ZAA ?_
 have S := S.sel [5, 4] rfl
 refine gsr <| gq rfl S (ZAb rfl S H rfl (by exact Fagg73)) fun a S => ?_
 refine ZAF (ZAQ (wn rfl) rfl rfl S H rfl rfl (by simp only [List.all_cons, List.all_nil, H.sl1 v]; rfl) Fsiz73 rfl (cs' := [_, _, _]) rfl fun a w S H => ?_)
 refine gnt <| ZAe <| retc rfl S H rfl (by exact Fagg73) ?_
 exact ⟨v, rfl, H.takeT [OSl 70 v 8 RowV.enc [rowK], PaC c tv (37), Sl tv 4 TokV.enc TK] l⟩
theorem items_spec (c d : Nat) (w0 : World) :
    Ret Tryz.prog 110 #[.pointer (some ⟨c, 0, none⟩), .pointer (some ⟨d, 0, none⟩)] w0 (fun u w => ∃ b2 b3 b5 cnt, u = .map (some b5) ∧ HSat No w0 [MapA b5 (fun s : ByteArray => Value.string s) (fun v : Value => v) (ZBk b2 b3) cnt, Cel b3 198 [.pointer (some ⟨d, 0, none⟩)], Cel b2 164 [.pointer (some ⟨c, 0, none⟩)]] w) := by
 refine ZAE (nt := 12) Tryz.func110 rfl rfl rfl (fl := [(0, .pointer (some ⟨c, 0, none⟩)), (1, .pointer (some ⟨d, 0, none⟩))]) rfl (fun a S => ?_)
 have H := HSat.start w0
 refine gsr <| ZAF (op_box1 (wn rfl) rfl rfl rfl S H rfl rfl fun b2 a w S H => ZAF (op_box1 (wn rfl) rfl rfl rfl S H rfl rfl fun b3 a w S H => q_as S rfl fun a S => gnt ?_))
 refine gsr <| ZAF (ZBK (fun s : ByteArray => Value.string s) (fun v : Value => v) (wn rfl) rfl rfl rfl S H fun b5 a w S H => gq rfl S (ZAd rfl S rfl rfl) fun a S => ZAF (op_insert (_) (_) (wn rfl) rfl rfl underlying196 S H rfl (ZBs underlying9) (by exact rfl) (by exact rfl) fun a w S H => ?_))
 refine gq rfl S (ZAd rfl S rfl rfl) fun a S => ZAF (op_insert (_) (_) (wn rfl) rfl rfl underlying196 S H rfl (ZBs underlying9) (by exact rfl) (by exact rfl) fun a w S H => ?_)
 refine gq rfl S (ZAd rfl S rfl rfl) fun a S => ZAF (op_insert (_) (_) (wn rfl) rfl rfl underlying196 S H rfl (ZBs underlying9) (by exact rfl) (by exact rfl) fun a w S H => ?_)
 refine gq rfl S (ZAd rfl S rfl rfl) fun a S => ZAF (op_insert (_) (_) (wn rfl) rfl rfl underlying196 S H rfl (ZBs underlying9) (by exact rfl) (by exact rfl) fun a w S H => ?_)
 refine gq rfl S (ZAd rfl S rfl rfl) fun a S => ZAF (op_insert (_) (_) (wn rfl) rfl rfl underlying196 S H rfl (ZBs underlying9) (by exact rfl) (by exact rfl) fun a w S H => ?_)
 refine q_mv S rfl fun a S => q_as S rfl fun a S => gnt ?_
 have S := S.sel [4] rfl
 exact ZAe <| ret1 rfl S rfl <| ⟨b2, b3, b5, _, rfl, H⟩
def boxK1 : BoxV := ⟨10, 0, 18, 30⟩
def boxK2 : BoxV := ⟨18, 20, 28, 24⟩
def areaK : AreaV := ⟨⟨#[115]⟩, boxK2, 2, 116⟩
theorem pdoor_spec {M : Nat → Prop} {u0 : World} {l : List Atom} (c e q2 q3 : Nat) (tv bv av iv dv : Value) (w0 : World) (h0 : HSat M u0 (PaC c tv (12) :: Sl tv 4 TokV.enc TK :: Cel e 79 [.string ⟨#[108, 111, 119]⟩, .int .i64 0, bv, av, iv, .slice none 0 0, .slice none 0 0, .int .i64 19] :: Atom.ro (Cel q3 198 [.pointer (some ⟨e, 0, none⟩)]) :: Atom.ro (Cel q2 164 [.pointer (some ⟨c, 0, none⟩)]) :: l) w0) :
    Ret Tryz.prog 135 #[.int .i64 40, .pointer (some ⟨q2, 0, none⟩), .pointer (some ⟨q3, 0, none⟩)] w0 (fun u w => ∃ dv, HSat M u0 (OSl 23 dv 2 PtV.enc [⟨10, 0⟩] :: PaC c tv (15) :: Sl tv 4 TokV.enc TK :: Cel e 79 [.string ⟨#[108, 111, 119]⟩, .int .i64 0, bv, av, iv, .slice none 0 0, dv, .int .i64 19] :: Atom.ro (Cel q3 198 [.pointer (some ⟨e, 0, none⟩)]) :: Atom.ro (Cel q2 164 [.pointer (some ⟨c, 0, none⟩)]) :: l) w) := by
 refine ZAE (nt := 22) Tryz.func135 rfl rfl rfl (fl := [(0, .int .i64 40), (1, .pointer (some ⟨q2, 0, none⟩)), (2, .pointer (some ⟨q3, 0, none⟩))]) rfl (fun a S => ?_)
 have H := h0.nilO 23 2 PtV.enc
 refine gsr <| q_al S H rfl Fzer23 fun b4 a w S H => gnt <| gsr <| q_ld S H Fsca164 rfl rfl fun a S => q_fa S ZBx rfl fun a S => q_fa S ZBy rfl fun a S => ZAF (ZAP (wn rfl) rfl rfl rfl underlying194 Finf172 S H (idx := [0, 1]) rfl rfl rfl (z := [.pointer none, .pointer none]) (by kernel_rfl) (cs := [_, _]) rfl fun b8 a w S H => ?_)
 have H := H.celO (ptrs b4 0 2) encPt 1 (m := 2) rfl (by simp [encPt]) (ptrs_len _ _ _) (by omega)
 have H := H.pick (tgt := [PaC c tv (12), Sl tv 4 TokV.enc TK, Cel b4 23 [.int .i64 0, .int .i64 0], OSl 172 (.slice (some ⟨b8, 0, none⟩) 2 2) 1 encPt (ptrs b4 0 2)])
 simp only [List.cons_append, List.nil_append] at H
 refine q_cl S rfl call89 (pnums_spec c tv 12 14 2 b4 0 23 [.int .i64 0, .int .i64 0] _ _ (by rw [TK_len]; decide) rfl (numK (by kernel_rfl)) (by decide) H) fun v w hc a S => ?_
 have H := hc
 rw [show numW [.int .i64 0, .int .i64 0] 0 12 2 = [.int .i64 10, .int .i64 0] from by kernel_rfl] at H
 refine gnt ?_
 have S := S.sel [4, 1, 2] rfl
 refine gsr <| q_ld S H Fsca164 rfl rfl fun a S => q_cl S rfl call87 (ZBN c tv 14 15 _ _ (tkl (by decide)) rfl (by kernel_rfl) (H.front2 (PaC c tv (14)) (Sl tv 4 TokV.enc TK))) fun v w hc a S => ?_
 have H := hc
 try simp only [List.cons_append, List.nil_append] at H
 refine gnt <| ZAZ (loud := [6, 7, 10]) (tails := [7, 10]) (free := [0]) [0, 1, 2, 3, 4, 5, 6, 7, 8, 9, 10] [Atom.ro (Cel q3 198 [.pointer (some ⟨e, 0, none⟩)])] Fmo (by kernel_rfl) (by kernel_rfl) rfl H ?_
 refine m_f rfl rfl (wn rfl) rfl rfl S (fun w H => ZAJ rfl Fsca198 S H rfl rfl) fun a S => m_q rfl S (fun w H => ZAJ rfl Fsca198 S H rfl rfl) fun a S => m_q rfl S (fun w H => ZAR rfl S rfl) fun a S => m_q rfl S (fun w H => ZAC rfl Ffo79_6 S rfl) fun a S => m_q rfl S (fun w H => ZAJ rfl Fsca77 S H rfl rfl) fun a S => m_q rfl S (fun w H => ZAb rfl S H rfl (by exact Fagg23)) fun a S => ?_
 refine m_l rfl rfl (fun w H => ZAP (wn rfl) rfl rfl rfl underlying77 Finf23 S H (idx := [0]) rfl rfl rfl (z := [.int .i64 0, .int .i64 0]) (by kernel_rfl) (cs := [.int .i64 10, .int .i64 0]) (by kernel_rfl) fun b18 a w S H => m_next H (List.sublist_cons_self _ _) ?_)
 refine m_l rfl rfl (fun w H => ZAr ([(⟨10, 0⟩ : PtV)]) (wn rfl) rfl rfl rfl underlying77 Finf23 rfl rfl S H rfl rfl rfl rfl (by simp) (by simp [PtV.enc]) (by simp [PtV.enc, Value.oneCell']) (by simp only [List.length_cons, List.length_nil]; omega) (by simp only [List.length_cons, List.length_nil]; omega) fun u19 a w hn19 S H => m_tail H rfl ?_)
 refine m_q rfl S (fun w H => ZAR rfl S rfl) fun a S => m_q rfl S (fun w H => ZAC rfl Ffo79_6 S rfl) fun a S => m_l rfl rfl (fun w H => ZAS (wn rfl) rfl rfl S H rfl rfl (H.sl1 _) Fsiz77 rfl fun a w S H => m_tail H rfl ?_)
 dsimp only [List.set, Nat.zero_add, Nat.reduceAdd] at H
 refine ZBY (fun w H => ZB1 rfl S ?_)
 rw [List.nil_append] at H
 try dsimp only [List.set, Nat.zero_add] at H
 exact ⟨u19, H.takeT [OSl 23 u19 2 PtV.enc [⟨10, 0⟩], PaC c tv (15), Sl tv 4 TokV.enc TK, Cel e 79 [.string ⟨#[108, 111, 119]⟩, .int .i64 0, bv, av, iv, .slice none 0 0, u19, .int .i64 19], Atom.ro (Cel q3 198 [.pointer (some ⟨e, 0, none⟩)]), Atom.ro (Cel q2 164 [.pointer (some ⟨c, 0, none⟩)])] l⟩
theorem paisle_spec {M : Nat → Prop} {u0 : World} {l : List Atom} (c e q2 q3 : Nat) (tv bv av iv dv : Value) (w0 : World) (h0 : HSat M u0 (PaC c tv (16) :: Sl tv 4 TokV.enc TK :: Cel e 79 [.string ⟨#[108, 111, 119]⟩, .int .i64 0, bv, av, .slice none 0 0, .slice none 0 0, dv, .int .i64 19] :: Atom.ro (Cel q3 198 [.pointer (some ⟨e, 0, none⟩)]) :: Atom.ro (Cel q2 164 [.pointer (some ⟨c, 0, none⟩)]) :: l) w0) :
    Ret Tryz.prog 133 #[.int .i64 51, .pointer (some ⟨q3, 0, none⟩), .pointer (some ⟨q2, 0, none⟩)] w0 (fun u w => ∃ iv, HSat M u0 (OSl 90 iv 4 BoxV.enc [boxK1] :: PaC c tv (21) :: Sl tv 4 TokV.enc TK :: Cel e 79 [.string ⟨#[108, 111, 119]⟩, .int .i64 0, bv, av, iv, .slice none 0 0, dv, .int .i64 19] :: Atom.ro (Cel q3 198 [.pointer (some ⟨e, 0, none⟩)]) :: Atom.ro (Cel q2 164 [.pointer (some ⟨c, 0, none⟩)]) :: l) w) := by
 refine ZAE (nt := 17) Tryz.func133 rfl rfl rfl (fl := [(0, .int .i64 51), (1, .pointer (some ⟨q3, 0, none⟩)), (2, .pointer (some ⟨q2, 0, none⟩))]) rfl (fun a S => ?_)
 have H := h0.nilO 90 4 BoxV.enc
 refine ZAG <| cut (fun a w => ∃ iv2, St 17 [(2, .pointer (some ⟨q2, 0, none⟩))] a ∧ HSat M u0 (OSl 90 iv2 4 BoxV.enc [boxK1] :: PaC c tv (20) :: Sl tv 4 TokV.enc TK :: Cel e 79 [.string ⟨#[108, 111, 119]⟩, .int .i64 0, bv, av, iv2, .slice none 0 0, dv, .int .i64 19] :: Atom.ro (Cel q3 198 [.pointer (some ⟨e, 0, none⟩)]) :: Atom.ro (Cel q2 164 [.pointer (some ⟨c, 0, none⟩)]) :: l) w) ?_ ?_
 ·skip
  refine t_st (tails := [6, 8, 11]) [Atom.ro (Cel q3 198 [.pointer (some ⟨e, 0, none⟩)]), Atom.ro (Cel q2 164 [.pointer (some ⟨c, 0, none⟩)])] Fmo H <| t_f 0 rfl (by kernel_rfl) (rem' := [1, 2, 3, 4, 5, 6, 7, 8, 9, 10, 11]) rfl rfl rfl rfl S (fun w H => ZAJ rfl Fsca198 S H rfl rfl) fun a S => ?_
  refine t_f 1 rfl (by kernel_rfl) (rem' := [2, 3, 4, 5, 6, 7, 8, 9, 10, 11]) rfl rfl rfl rfl S (fun w H => ZAJ rfl Fsca198 S H rfl rfl) fun a S => ?_
  refine t_p 2 rfl (by kernel_rfl) (rem' := [3, 4, 5, 6, 7, 8, 9, 10, 11]) rfl rfl rfl rfl S (fun w => ZAR rfl S rfl) fun a S => ?_
  refine t_p 3 rfl (by kernel_rfl) (rem' := [4, 5, 6, 7, 8, 9, 10, 11]) rfl rfl rfl rfl S (fun w => ZAC rfl Ffo79_4 S rfl) fun a S => ?_
  refine t_q 5 rfl (by kernel_rfl) (rem' := [4, 6, 7, 8, 9, 10, 11]) rfl rfl rfl rfl S (fun w H => ZAJ rfl Fsca164 S H rfl rfl) fun a S => ?_
  refine t_b [4, 6] (by kernel_rfl) rfl (fa2 ?_ ?_)
  ·refine ⟨_, rfl, fun w H => ?_⟩
   refine op_y (wn rfl) rfl rfl S (ZAJ rfl Fsca76 S H rfl rfl) fun a S => t_n H (rem' := [6, 7, 8, 9, 10, 11]) rfl <| t_b1 6 (by kernel_rfl) rfl fun w H => ?_
   refine ZAV (wn rfl) rfl rfl S (ZAi rfl call132 S rfl) (pbox_spec c tv 16 20 boxK1 _ (by rw [TK_len]; decide) rfl (numK (by kernel_rfl)) (by kernel_rfl) (H.front2 (PaC c tv (16)) (Sl tv 4 TokV.enc TK))) fun v w hc a S => ?_
   obtain ⟨rfl, H⟩ := hc
   refine ZAY H rfl (rem' := [7, 8, 9, 10, 11]) rfl <| t_b1 7 (by kernel_rfl) rfl fun w H => ?_
   refine ZAP (wn rfl) rfl rfl rfl underlying76 Finf90 S H (idx := [0]) rfl rfl rfl (z := [.int .i64 0, .int .i64 0, .int .i64 0, .int .i64 0]) (by kernel_rfl) (cs := [.int .i64 10, .int .i64 0, .int .i64 18, .int .i64 30]) (by kernel_rfl) fun b11 a w S H => ?_
   refine t_n H (rem' := [8, 9, 10, 11]) rfl <| t_b1 8 (by kernel_rfl) rfl fun w H => ?_
   refine ZAr ([boxK1]) (wn rfl) rfl rfl rfl underlying76 Finf90 rfl rfl S H rfl rfl rfl rfl (by simp) (by simp [BoxV.enc]) (by simp [BoxV.enc, boxK1, Value.oneCell']) (by simp only [List.length_cons, List.length_nil]; omega) (by simp only [List.length_cons, List.length_nil]; omega) fun u12 a w hn12 S H => ?_
   refine ZAY H rfl (rem' := [9, 10, 11]) rfl <| t_q 9 rfl (by kernel_rfl) (rem' := [10, 11]) rfl rfl rfl rfl S (fun w H => ZAR rfl S rfl) fun a S => ?_
   refine t_q 10 rfl (by kernel_rfl) (rem' := [11]) rfl rfl rfl rfl S (fun w H => ZAC rfl Ffo79_4 S rfl) fun a S => ?_
   refine t_b1 11 (by kernel_rfl) rfl fun w H => ?_
   refine ZAS (wn rfl) rfl rfl S H rfl rfl (H.sl1 _) Fsiz76 rfl fun a w S H => ?_
   dsimp only [List.set, Nat.zero_add, Nat.reduceAdd] at H
   refine ZAY H rfl (rem' := []) rfl <| ZBZ (fun w H => ?_)
   rw [List.nil_append] at H
   exact ⟨u12, S.sel [2] rfl, H.takeT [OSl 90 u12 4 BoxV.enc [boxK1], PaC c tv (20), Sl tv 4 TokV.enc TK, Cel e 79 [.string ⟨#[108, 111, 119]⟩, .int .i64 0, bv, av, u12, .slice none 0 0, dv, .int .i64 19], Atom.ro (Cel q3 198 [.pointer (some ⟨e, 0, none⟩)]), Atom.ro (Cel q2 164 [.pointer (some ⟨c, 0, none⟩)])] l⟩
  refine ⟨_, rfl, fun w H => ?_⟩
  refine ZAV (wn rfl) rfl rfl S (ZAi rfl call132 S rfl) (pbox_spec c tv 16 20 boxK1 _ (by rw [TK_len]; decide) rfl (numK (by kernel_rfl)) (by kernel_rfl) (H.front2 (PaC c tv (16)) (Sl tv 4 TokV.enc TK))) fun v w hc a S => ?_
  obtain ⟨rfl, H⟩ := hc
  refine ZAY H rfl (rem' := [4, 7, 8, 9, 10, 11]) rfl <| t_q 4 rfl (by kernel_rfl) (rem' := [7, 8, 9, 10, 11]) rfl rfl rfl rfl S (fun w H => ZAJ rfl Fsca76 S H rfl rfl) fun a S => ?_
  refine t_b1 7 (by kernel_rfl) rfl fun w H => ?_
  refine ZAP (wn rfl) rfl rfl rfl underlying76 Finf90 S H (idx := [0]) rfl rfl rfl (z := [.int .i64 0, .int .i64 0, .int .i64 0, .int .i64 0]) (by kernel_rfl) (cs := [.int .i64 10, .int .i64 0, .int .i64 18, .int .i64 30]) (by kernel_rfl) fun b11 a w S H => ?_
  refine t_n H (rem' := [8, 9, 10, 11]) rfl <| t_b1 8 (by kernel_rfl) rfl fun w H => ?_
  refine ZAr ([boxK1]) (wn rfl) rfl rfl rfl underlying76 Finf90 rfl rfl S H rfl rfl rfl rfl (by simp) (by simp [BoxV.enc]) (by simp [BoxV.enc, boxK1, Value.oneCell']) (by simp only [List.length_cons, List.length_nil]; omega) (by simp only [List.length_cons, List.length_nil]; omega) fun u12 a w hn12 S H => ?_
  refine ZAY H rfl (rem' := [9, 10, 11]) rfl <| t_q 9 rfl (by kernel_rfl) (rem' := [10, 11]) rfl rfl rfl rfl S (fun w H => ZAR rfl S rfl) fun a S => ?_
  refine t_q 10 rfl (by kernel_rfl) (rem' := [11]) rfl rfl rfl rfl S (fun w H => ZAC rfl Ffo79_4 S rfl) fun a S => ?_
  refine t_b1 11 (by kernel_rfl) rfl fun w H => ?_
  refine ZAS (wn rfl) rfl rfl S H rfl rfl (H.sl1 _) Fsiz76 rfl fun a w S H => ?_
  dsimp only [List.set, Nat.zero_add, Nat.reduceAdd] at H
  refine ZAY H rfl (rem' := []) rfl <| ZBZ (fun w H => ?_)
  rw [List.nil_append] at H
  exact ⟨u12, S.sel [2] rfl, H.takeT [OSl 90 u12 4 BoxV.enc [boxK1], PaC c tv (20), Sl tv 4 TokV.enc TK, Cel e 79 [.string ⟨#[108, 111, 119]⟩, .int .i64 0, bv, av, u12, .slice none 0 0, dv, .int .i64 19], Atom.ro (Cel q3 198 [.pointer (some ⟨e, 0, none⟩)]), Atom.ro (Cel q2 164 [.pointer (some ⟨c, 0, none⟩)])] l⟩
 rintro a w ⟨iv2, S, H⟩
 refine ZAB <| q_ld S H Fsca164 rfl rfl fun a S => q_cl S rfl call87 (ZBN c tv 20 21 _ _ (tkl (by decide)) rfl (by kernel_rfl) (H.front2 (PaC c tv (20)) (Sl tv 4 TokV.enc TK))) fun v w hc a S => ?_
 have H := hc
 try simp only [List.cons_append, List.nil_append] at H
 refine ZAj ?_
 refine ZB1 rfl S ?_
 exact ⟨iv2, H.takeT [OSl 90 iv2 4 BoxV.enc [boxK1], PaC c tv (21), Sl tv 4 TokV.enc TK, Cel e 79 [.string ⟨#[108, 111, 119]⟩, .int .i64 0, bv, av, iv2, .slice none 0 0, dv, .int .i64 19], Atom.ro (Cel q3 198 [.pointer (some ⟨e, 0, none⟩)]), Atom.ro (Cel q2 164 [.pointer (some ⟨c, 0, none⟩)])] l⟩
theorem pblk_spec {M : Nat → Prop} {u0 : World} {l : List Atom} (c e q2 q3 : Nat) (tv bv av iv dv : Value) (w0 : World) (h0 : HSat M u0 (PaC c tv (22) :: Sl tv 4 TokV.enc TK :: Cel e 79 [.string ⟨#[108, 111, 119]⟩, .int .i64 0, .slice none 0 0, av, iv, .slice none 0 0, dv, .int .i64 19] :: Atom.ro (Cel q3 198 [.pointer (some ⟨e, 0, none⟩)]) :: Atom.ro (Cel q2 164 [.pointer (some ⟨c, 0, none⟩)]) :: l) w0) :
    Ret Tryz.prog 129 #[.int .i64 69, .pointer (some ⟨q3, 0, none⟩), .pointer (some ⟨q2, 0, none⟩)] w0 (fun u w => ∃ bv rv, HSat M u0 (OSl 73 bv 3 BlockV.enc [blkK rv] :: OSl 70 rv 8 RowV.enc [rowK] :: PaC c tv (37) :: Sl tv 4 TokV.enc TK :: Cel e 79 [.string ⟨#[108, 111, 119]⟩, .int .i64 0, bv, av, iv, .slice none 0 0, dv, .int .i64 19] :: Atom.ro (Cel q3 198 [.pointer (some ⟨e, 0, none⟩)]) :: Atom.ro (Cel q2 164 [.pointer (some ⟨c, 0, none⟩)]) :: l) w) := by
 refine ZAE (nt := 16) Tryz.func129 rfl rfl rfl (fl := [(0, .int .i64 69), (1, .pointer (some ⟨q3, 0, none⟩)), (2, .pointer (some ⟨q2, 0, none⟩))]) rfl (fun a S => ?_)
 have H := h0.nilO 73 3 BlockV.enc
 refine cutQ (fun a w => ∃ bv rv, St 16 [] a ∧ HSat M u0 (OSl 73 bv 3 BlockV.enc [blkK rv] :: OSl 70 rv 8 RowV.enc [rowK] :: PaC c tv (37) :: Sl tv 4 TokV.enc TK :: Cel e 79 [.string ⟨#[108, 111, 119]⟩, .int .i64 0, bv, av, iv, .slice none 0 0, dv, .int .i64 19] :: Atom.ro (Cel q3 198 [.pointer (some ⟨e, 0, none⟩)]) :: Atom.ro (Cel q2 164 [.pointer (some ⟨c, 0, none⟩)]) :: l) w) ?_ ?_
 ·skip
  refine t_st (tails := [7, 9, 12]) [Atom.ro (Cel q3 198 [.pointer (some ⟨e, 0, none⟩)]), Atom.ro (Cel q2 164 [.pointer (some ⟨c, 0, none⟩)])] Fmo H <| t_f 0 rfl (by kernel_rfl) (rem' := [1, 2, 3, 4, 5, 6, 7, 8, 9, 10, 11, 12]) rfl rfl rfl rfl S (fun w H => ZAJ rfl Fsca198 S H rfl rfl) fun a S => ?_
  refine t_f 1 rfl (by kernel_rfl) (rem' := [2, 3, 4, 5, 6, 7, 8, 9, 10, 11, 12]) rfl rfl rfl rfl S (fun w H => ZAJ rfl Fsca198 S H rfl rfl) fun a S => ?_
  refine t_p 2 rfl (by kernel_rfl) (rem' := [3, 4, 5, 6, 7, 8, 9, 10, 11, 12]) rfl rfl rfl rfl S (fun w => ZAR rfl S rfl) fun a S => ?_
  refine t_p 3 rfl (by kernel_rfl) (rem' := [4, 5, 6, 7, 8, 9, 10, 11, 12]) rfl rfl rfl rfl S (fun w => ZAC rfl Ffo79_2 S rfl) fun a S => ?_
  refine t_q 5 rfl (by kernel_rfl) (rem' := [4, 6, 7, 8, 9, 10, 11, 12]) rfl rfl rfl rfl S (fun w H => ZAJ rfl Fsca164 S H rfl rfl) fun a S => ?_
  refine t_q 6 rfl (by kernel_rfl) (rem' := [4, 7, 8, 9, 10, 11, 12]) rfl rfl rfl rfl S (fun w H => ZAL rfl S rfl) fun a S => ?_
  refine t_b [4, 7] (by kernel_rfl) rfl (fa2 ?_ ?_)
  ·refine ⟨_, rfl, fun w H => ?_⟩
   refine op_y (wn rfl) rfl rfl S (ZAJ rfl Fsca74 S H rfl rfl) fun a S => t_n H (rem' := [7, 8, 9, 10, 11, 12]) rfl <| t_b1 7 (by kernel_rfl) rfl fun w H => ?_
   refine ZAV (wn rfl) rfl rfl S (ZAi rfl call130 S rfl) (pblock_spec c tv _ (H.front2 (PaC c tv (22)) (Sl tv 4 TokV.enc TK))) fun v w hc a S => ?_
   obtain ⟨rv, rfl, H⟩ := hc
   refine ZAY H rfl (rem' := [8, 9, 10, 11, 12]) rfl <| t_b1 8 (by kernel_rfl) rfl fun w H => ?_
   refine ZAP (wn rfl) rfl rfl rfl underlying74 Finf73 S H (idx := [0]) rfl rfl rfl (z := [.string ⟨#[]⟩, .slice none 0 0, .int .i64 0]) (by kernel_rfl) (cs := [.string ⟨#[98]⟩, rv, .int .i64 69]) (by kernel_rfl) fun b12 a w S H => ?_
   refine t_n H (rem' := [9, 10, 11, 12]) rfl <| t_b1 9 (by kernel_rfl) rfl fun w H => ?_
   refine ZAr ([blkK rv]) (wn rfl) rfl rfl rfl underlying74 Finf73 rfl rfl S H rfl rfl rfl rfl (by simp) (by simp [BlockV.enc]) (by simp only [List.mem_singleton, forall_eq, BlockV.enc, blkK, List.mem_cons, List.not_mem_nil, or_false, forall_eq_or_imp]; exact ⟨rfl, H.sl1 rv, rfl⟩) (by simp only [List.length_cons, List.length_nil]; omega) (by simp only [List.length_cons, List.length_nil]; omega) fun u13 a w hn13 S H => ?_
   refine ZAY H rfl (rem' := [10, 11, 12]) rfl <| t_q 10 rfl (by kernel_rfl) (rem' := [11, 12]) rfl rfl rfl rfl S (fun w H => ZAR rfl S rfl) fun a S => ?_
   refine t_q 11 rfl (by kernel_rfl) (rem' := [12]) rfl rfl rfl rfl S (fun w H => ZAC rfl Ffo79_2 S rfl) fun a S => ?_
   refine t_b1 12 (by kernel_rfl) rfl fun w H => ?_
   refine ZAS (wn rfl) rfl rfl S H rfl rfl (H.sl1 _) Fsiz74 rfl fun a w S H => ?_
   dsimp only [List.set, Nat.zero_add, Nat.reduceAdd] at H
   refine ZAY H rfl (rem' := []) rfl <| ZBZ (fun w H => ?_)
   rw [List.nil_append] at H
   exact ⟨u13, rv, S.nil, H.takeT [OSl 73 u13 3 BlockV.enc [blkK rv], OSl 70 rv 8 RowV.enc [rowK], PaC c tv (37), Sl tv 4 TokV.enc TK, Cel e 79 [.string ⟨#[108, 111, 119]⟩, .int .i64 0, u13, av, iv, .slice none 0 0, dv, .int .i64 19], Atom.ro (Cel q3 198 [.pointer (some ⟨e, 0, none⟩)]), Atom.ro (Cel q2 164 [.pointer (some ⟨c, 0, none⟩)])] l⟩
  refine ⟨_, rfl, fun w H => ?_⟩
  refine ZAV (wn rfl) rfl rfl S (ZAi rfl call130 S rfl) (pblock_spec c tv _ (H.front2 (PaC c tv (22)) (Sl tv 4 TokV.enc TK))) fun v w hc a S => ?_
  obtain ⟨rv, rfl, H⟩ := hc
  refine ZAY H rfl (rem' := [4, 8, 9, 10, 11, 12]) rfl <| t_q 4 rfl (by kernel_rfl) (rem' := [8, 9, 10, 11, 12]) rfl rfl rfl rfl S (fun w H => ZAJ rfl Fsca74 S H rfl rfl) fun a S => ?_
  refine t_b1 8 (by kernel_rfl) rfl fun w H => ?_
  refine ZAP (wn rfl) rfl rfl rfl underlying74 Finf73 S H (idx := [0]) rfl rfl rfl (z := [.string ⟨#[]⟩, .slice none 0 0, .int .i64 0]) (by kernel_rfl) (cs := [.string ⟨#[98]⟩, rv, .int .i64 69]) (by kernel_rfl) fun b12 a w S H => ?_
  refine t_n H (rem' := [9, 10, 11, 12]) rfl <| t_b1 9 (by kernel_rfl) rfl fun w H => ?_
  refine ZAr ([blkK rv]) (wn rfl) rfl rfl rfl underlying74 Finf73 rfl rfl S H rfl rfl rfl rfl (by simp) (by simp [BlockV.enc]) (by simp only [List.mem_singleton, forall_eq, BlockV.enc, blkK, List.mem_cons, List.not_mem_nil, or_false, forall_eq_or_imp]; exact ⟨rfl, H.sl1 rv, rfl⟩) (by simp only [List.length_cons, List.length_nil]; omega) (by simp only [List.length_cons, List.length_nil]; omega) fun u13 a w hn13 S H => ?_
  refine ZAY H rfl (rem' := [10, 11, 12]) rfl <| t_q 10 rfl (by kernel_rfl) (rem' := [11, 12]) rfl rfl rfl rfl S (fun w H => ZAR rfl S rfl) fun a S => ?_
  refine t_q 11 rfl (by kernel_rfl) (rem' := [12]) rfl rfl rfl rfl S (fun w H => ZAC rfl Ffo79_2 S rfl) fun a S => ?_
  refine t_b1 12 (by kernel_rfl) rfl fun w H => ?_
  refine ZAS (wn rfl) rfl rfl S H rfl rfl (H.sl1 _) Fsiz74 rfl fun a w S H => ?_
  dsimp only [List.set, Nat.zero_add, Nat.reduceAdd] at H
  refine ZAY H rfl (rem' := []) rfl <| ZBZ (fun w H => ?_)
  rw [List.nil_append] at H
  exact ⟨u13, rv, S.nil, H.takeT [OSl 73 u13 3 BlockV.enc [blkK rv], OSl 70 rv 8 RowV.enc [rowK], PaC c tv (37), Sl tv 4 TokV.enc TK, Cel e 79 [.string ⟨#[108, 111, 119]⟩, .int .i64 0, u13, av, iv, .slice none 0 0, dv, .int .i64 19], Atom.ro (Cel q3 198 [.pointer (some ⟨e, 0, none⟩)]), Atom.ro (Cel q2 164 [.pointer (some ⟨c, 0, none⟩)])] l⟩
 rintro a w ⟨bv2, rv, S, H⟩
 exact ZB1 rfl S <| ⟨bv2, rv, H⟩
theorem parea_spec {M : Nat → Prop} {u0 : World} {l : List Atom} (c e q2 q3 : Nat) (tv bv av iv dv : Value) (w0 : World) (h0 : HSat M u0 (PaC c tv (38) :: Sl tv 4 TokV.enc TK :: Cel e 79 [.string ⟨#[108, 111, 119]⟩, .int .i64 0, bv, .slice none 0 0, iv, .slice none 0 0, dv, .int .i64 19] :: Atom.ro (Cel q3 198 [.pointer (some ⟨e, 0, none⟩)]) :: Atom.ro (Cel q2 164 [.pointer (some ⟨c, 0, none⟩)]) :: l) w0) :
    Ret Tryz.prog 131 #[.int .i64 116, .pointer (some ⟨q2, 0, none⟩), .pointer (some ⟨q3, 0, none⟩)] w0 (fun u w => ∃ av, HSat M u0 (OSl 92 av 7 AreaV.enc [areaK] :: PaC c tv (46) :: Sl tv 4 TokV.enc TK :: Cel e 79 [.string ⟨#[108, 111, 119]⟩, .int .i64 0, bv, av, iv, .slice none 0 0, dv, .int .i64 19] :: Atom.ro (Cel q3 198 [.pointer (some ⟨e, 0, none⟩)]) :: Atom.ro (Cel q2 164 [.pointer (some ⟨c, 0, none⟩)]) :: l) w) := by
 refine ZAE (nt := 30) Tryz.func131 rfl rfl rfl (fl := [(0, .int .i64 116), (1, .pointer (some ⟨q2, 0, none⟩)), (2, .pointer (some ⟨q3, 0, none⟩))]) rfl (fun a S => ?_)
 have H := h0.nilO 92 7 AreaV.enc
 refine ZAG <| cut (fun a w => ∃ b4, St 30 [(1, .pointer (some ⟨q2, 0, none⟩)), (2, .pointer (some ⟨q3, 0, none⟩)), (4, .pointer (some ⟨b4, 0, none⟩))] a ∧ HSat M u0 (Cel b4 92 [.string ⟨#[115]⟩, .int .i64 18, .int .i64 20, .int .i64 28, .int .i64 24, .int .i64 0, .int .i64 116] :: OSl 92 (.slice none 0 0) 7 AreaV.enc [] :: PaC c tv (43) :: Sl tv 4 TokV.enc TK :: Cel e 79 [.string ⟨#[108, 111, 119]⟩, .int .i64 0, bv, .slice none 0 0, iv, .slice none 0 0, dv, .int .i64 19] :: Atom.ro (Cel q3 198 [.pointer (some ⟨e, 0, none⟩)]) :: Atom.ro (Cel q2 164 [.pointer (some ⟨c, 0, none⟩)]) :: l) w) ?_ ?_
 ·skip
  refine t_st (tails := [2, 5, 8]) [Atom.ro (Cel q3 198 [.pointer (some ⟨e, 0, none⟩)]), Atom.ro (Cel q2 164 [.pointer (some ⟨c, 0, none⟩)])] Fmo H <| t_p 0 rfl (by kernel_rfl) (rem' := [1, 2, 3, 4, 5, 6, 7, 8]) rfl rfl rfl rfl S (fun w => ZAL rfl S rfl) fun a S => ?_
  refine t_q 1 rfl (by kernel_rfl) (rem' := [2, 3, 4, 5, 6, 7, 8]) rfl rfl rfl rfl S (fun w H => ZAJ rfl Fsca164 S H rfl rfl) fun a S => ?_
  refine t_f 4 rfl (by kernel_rfl) (rem' := [2, 3, 5, 6, 7, 8]) rfl rfl rfl rfl S (fun w H => ZAJ rfl Fsca164 S H rfl rfl) fun a S => ?_
  refine t_b [2, 7] (by kernel_rfl) rfl (fa2 ?_ ?_)
  ·refine ⟨_, rfl, fun w H => ?_⟩
   refine ZAV (wn rfl) rfl rfl S (ZAi rfl call88 S rfl) (take_spec c tv 38 39 1 _ (tkl (by decide)) rfl (by kernel_rfl) (H.front2 (PaC c tv (38)) (Sl tv 4 TokV.enc TK))) fun v w hc a S => ?_
   obtain ⟨rfl, H⟩ := hc
   try simp only [List.cons_append, List.nil_append] at H
   refine ZAY H rfl (rem' := [3, 5, 6, 7, 8]) rfl <| t_p 3 rfl (by kernel_rfl) (rem' := [5, 6, 7, 8]) rfl rfl rfl rfl S (fun w => (y_fieldX rfl S rfl (tok_field1 _ _))) fun a S => ?_
   refine t_b [5, 7] (by kernel_rfl) rfl (fa2 ?_ ?_)
   ·refine ⟨_, rfl, fun w H => ?_⟩
    refine ZAV (wn rfl) rfl rfl S (ZAi rfl call132 S rfl) (pbox_spec c tv 39 43 boxK2 _ (by rw [TK_len]; decide) rfl (numK (by kernel_rfl)) (by kernel_rfl) (H.front2 (PaC c tv (39)) (Sl tv 4 TokV.enc TK))) fun v w hc a S => ?_
    obtain ⟨rfl, H⟩ := hc
    refine ZAY H rfl (rem' := [6, 7, 8]) rfl <| t_q 6 rfl (by kernel_rfl) (rem' := [7, 8]) rfl rfl rfl rfl S (fun w H => ZAx rfl Fbld92 S rfl (idx := [3, 0, 1]) rfl (cs := [.string ⟨#[115]⟩, .int .i64 18, .int .i64 20, .int .i64 28, .int .i64 24, .int .i64 0, .int .i64 116]) (by kernel_rfl)) fun a S => ?_
    refine t_b1 7 (by kernel_rfl) rfl fun w H => ?_
    refine ZAh (wn rfl) rfl rfl rfl S H Fzer92 fun b4 a w S H => t_n H (rem' := [8]) rfl <| t_b1 8 (by kernel_rfl) rfl fun w H => ?_
    refine ZAQ (wn rfl) rfl rfl S H rfl rfl rfl Fsiz92 rfl (cs' := [_, _, _, _, _, _, _]) rfl fun a w S H => ?_
    refine ZAY H rfl (rem' := []) rfl ?_
    refine ZBZ (fun w H => ?_)
    exact ⟨b4, S.sel [1, 2, 4] rfl, H.takeT [Cel b4 92 [.string ⟨#[115]⟩, .int .i64 18, .int .i64 20, .int .i64 28, .int .i64 24, .int .i64 0, .int .i64 116], OSl 92 (.slice none 0 0) 7 AreaV.enc [], PaC c tv (43), Sl tv 4 TokV.enc TK, Cel e 79 [.string ⟨#[108, 111, 119]⟩, .int .i64 0, bv, .slice none 0 0, iv, .slice none 0 0, dv, .int .i64 19], Atom.ro (Cel q3 198 [.pointer (some ⟨e, 0, none⟩)]), Atom.ro (Cel q2 164 [.pointer (some ⟨c, 0, none⟩)])] l⟩
   refine ⟨_, rfl, fun w H => ?_⟩
   refine ZAh (wn rfl) rfl rfl rfl S H Fzer92 fun b4 a w S H => t_n H (rem' := [5, 6, 8]) rfl <| t_b1 5 (by kernel_rfl) rfl fun w H => ?_
   refine ZAV (wn rfl) rfl rfl S (ZAi rfl call132 S rfl) (pbox_spec c tv 39 43 boxK2 _ (by rw [TK_len]; decide) rfl (numK (by kernel_rfl)) (by kernel_rfl) (H.front2 (PaC c tv (39)) (Sl tv 4 TokV.enc TK))) fun v w hc a S => ?_
   obtain ⟨rfl, H⟩ := hc
   refine ZAY H rfl (rem' := [6, 8]) rfl <| t_q 6 rfl (by kernel_rfl) (rem' := [8]) rfl rfl rfl rfl S (fun w H => ZAx rfl Fbld92 S rfl (idx := [3, 0, 1]) rfl (cs := [.string ⟨#[115]⟩, .int .i64 18, .int .i64 20, .int .i64 28, .int .i64 24, .int .i64 0, .int .i64 116]) (by kernel_rfl)) fun a S => ?_
   refine t_b1 8 (by kernel_rfl) rfl fun w H => ?_
   refine ZAQ (wn rfl) rfl rfl S H rfl rfl rfl Fsiz92 rfl (cs' := [_, _, _, _, _, _, _]) rfl fun a w S H => ?_
   refine ZAY H rfl (rem' := []) rfl ?_
   refine ZBZ (fun w H => ?_)
   exact ⟨b4, S.sel [1, 2, 4] rfl, H.takeT [Cel b4 92 [.string ⟨#[115]⟩, .int .i64 18, .int .i64 20, .int .i64 28, .int .i64 24, .int .i64 0, .int .i64 116], OSl 92 (.slice none 0 0) 7 AreaV.enc [], PaC c tv (43), Sl tv 4 TokV.enc TK, Cel e 79 [.string ⟨#[108, 111, 119]⟩, .int .i64 0, bv, .slice none 0 0, iv, .slice none 0 0, dv, .int .i64 19], Atom.ro (Cel q3 198 [.pointer (some ⟨e, 0, none⟩)]), Atom.ro (Cel q2 164 [.pointer (some ⟨c, 0, none⟩)])] l⟩
  refine ⟨_, rfl, fun w H => ?_⟩
  refine ZAh (wn rfl) rfl rfl rfl S H Fzer92 fun b4 a w S H => t_n H (rem' := [2, 3, 5, 6, 8]) rfl <| t_b1 2 (by kernel_rfl) rfl fun w H => ?_
  refine ZAV (wn rfl) rfl rfl S (ZAi rfl call88 S rfl) (take_spec c tv 38 39 1 _ (tkl (by decide)) rfl (by kernel_rfl) (H.front2 (PaC c tv (38)) (Sl tv 4 TokV.enc TK))) fun v w hc a S => ?_
  obtain ⟨rfl, H⟩ := hc
  try simp only [List.cons_append, List.nil_append] at H
  refine ZAY H rfl (rem' := [3, 5, 6, 8]) rfl <| t_p 3 rfl (by kernel_rfl) (rem' := [5, 6, 8]) rfl rfl rfl rfl S (fun w => (y_fieldX rfl S rfl (tok_field1 _ _))) fun a S => ?_
  refine t_b1 5 (by kernel_rfl) rfl fun w H => ?_
  refine ZAV (wn rfl) rfl rfl S (ZAi rfl call132 S rfl) (pbox_spec c tv 39 43 boxK2 _ (by rw [TK_len]; decide) rfl (numK (by kernel_rfl)) (by kernel_rfl) (H.front2 (PaC c tv (39)) (Sl tv 4 TokV.enc TK))) fun v w hc a S => ?_
  obtain ⟨rfl, H⟩ := hc
  refine ZAY H rfl (rem' := [6, 8]) rfl <| t_q 6 rfl (by kernel_rfl) (rem' := [8]) rfl rfl rfl rfl S (fun w H => ZAx rfl Fbld92 S rfl (idx := [3, 0, 1]) rfl (cs := [.string ⟨#[115]⟩, .int .i64 18, .int .i64 20, .int .i64 28, .int .i64 24, .int .i64 0, .int .i64 116]) (by kernel_rfl)) fun a S => ?_
  refine t_b1 8 (by kernel_rfl) rfl fun w H => ?_
  refine ZAQ (wn rfl) rfl rfl S H rfl rfl rfl Fsiz92 rfl (cs' := [_, _, _, _, _, _, _]) rfl fun a w S H => ?_
  refine ZAY H rfl (rem' := []) rfl ?_
  refine ZBZ (fun w H => ?_)
  exact ⟨b4, S.sel [1, 2, 4] rfl, H.takeT [Cel b4 92 [.string ⟨#[115]⟩, .int .i64 18, .int .i64 20, .int .i64 28, .int .i64 24, .int .i64 0, .int .i64 116], OSl 92 (.slice none 0 0) 7 AreaV.enc [], PaC c tv (43), Sl tv 4 TokV.enc TK, Cel e 79 [.string ⟨#[108, 111, 119]⟩, .int .i64 0, bv, .slice none 0 0, iv, .slice none 0 0, dv, .int .i64 19], Atom.ro (Cel q3 198 [.pointer (some ⟨e, 0, none⟩)]), Atom.ro (Cel q2 164 [.pointer (some ⟨c, 0, none⟩)])] l⟩
 rintro a w ⟨b4, S, H⟩
 refine gsr <| q_ld S H Fsca164 rfl rfl fun a S => q_cl S rfl call87 (ZBN c tv 43 44 _ _ (tkl (by decide)) rfl (by kernel_rfl) (H.front2 (PaC c tv (43)) (Sl tv 4 TokV.enc TK))) fun v w hc a S => ?_
 have H := hc
 try simp only [List.cons_append, List.nil_append] at H
 refine gnt <| gsr <| q_ld S H Fsca164 rfl rfl fun a S => q_fa S Ffo92_2 rfl fun a S => ZAF (ZAP (wn rfl) rfl rfl rfl underlying194 Finf172 S H (idx := [0]) rfl rfl rfl (z := [.pointer none]) (by kernel_rfl) (cs := [_]) rfl fun b16 a w S H => ?_)
 have H := H.celO (ptrs b4 5 1) encPt 1 (m := 1) rfl (by simp [encPt]) (ptrs_len _ _ _) (by omega)
 have H := H.pick (tgt := [PaC c tv (44), Sl tv 4 TokV.enc TK, Cel b4 92 [.string ⟨#[115]⟩, .int .i64 18, .int .i64 20, .int .i64 28, .int .i64 24, .int .i64 0, .int .i64 116], OSl 172 (.slice (some ⟨b16, 0, none⟩) 1 1) 1 encPt (ptrs b4 5 1)])
 simp only [List.cons_append, List.nil_append] at H
 refine q_cl S rfl call89 (pnums_spec c tv 44 45 1 b4 5 92 [.string ⟨#[115]⟩, .int .i64 18, .int .i64 20, .int .i64 28, .int .i64 24, .int .i64 0, .int .i64 116] _ _ (by rw [TK_len]; decide) rfl (numK (by kernel_rfl)) (by decide) H) fun v w hc a S => ?_
 have H := hc
 rw [show numW [.string ⟨#[115]⟩, .int .i64 18, .int .i64 20, .int .i64 28, .int .i64 24, .int .i64 0, .int .i64 116] 5 44 1 = [.string ⟨#[115]⟩, .int .i64 18, .int .i64 20, .int .i64 28, .int .i64 24, .int .i64 2, .int .i64 116] from by kernel_rfl] at H
 refine gnt ?_
 have S := S.sel [1, 2, 4] rfl
 refine gsr <| q_ld S H Fsca164 rfl rfl fun a S => q_cl S rfl call87 (ZBN c tv 45 46 _ _ (tkl (by decide)) rfl (by kernel_rfl) (H.front2 (PaC c tv (45)) (Sl tv 4 TokV.enc TK))) fun v w hc a S => ?_
 have H := hc
 try simp only [List.cons_append, List.nil_append] at H
 refine gnt <| ZAZ (loud := [6, 7, 10]) (tails := [7, 10]) (free := [0]) [0, 1, 2, 3, 4, 5, 6, 7, 8, 9, 10] [Atom.ro (Cel q3 198 [.pointer (some ⟨e, 0, none⟩)])] Fmo (by kernel_rfl) (by kernel_rfl) rfl H ?_
 refine m_f rfl rfl (wn rfl) rfl rfl S (fun w H => ZAJ rfl Fsca198 S H rfl rfl) fun a S => m_q rfl S (fun w H => ZAJ rfl Fsca198 S H rfl rfl) fun a S => m_q rfl S (fun w H => ZAR rfl S rfl) fun a S => m_q rfl S (fun w H => ZAC rfl Ffo79_3 S rfl) fun a S => m_q rfl S (fun w H => ZAJ rfl Fsca75 S H rfl rfl) fun a S => m_q rfl S (fun w H => ZAb rfl S H rfl (by exact Fagg92)) fun a S => ?_
 refine m_l rfl rfl (fun w H => ZAP (wn rfl) rfl rfl rfl underlying75 Finf92 S H (idx := [0]) rfl rfl rfl (z := [.string ⟨#[]⟩, .int .i64 0, .int .i64 0, .int .i64 0, .int .i64 0, .int .i64 0, .int .i64 0]) (by kernel_rfl) (cs := [.string ⟨#[115]⟩, .int .i64 18, .int .i64 20, .int .i64 28, .int .i64 24, .int .i64 2, .int .i64 116]) (by kernel_rfl) fun b26 a w S H => m_next H (List.sublist_cons_self _ _) ?_)
 refine m_l rfl rfl (fun w H => ZAr ([areaK]) (wn rfl) rfl rfl rfl underlying75 Finf92 rfl rfl S H rfl rfl rfl rfl (by simp) (by simp [AreaV.enc]) (by simp [AreaV.enc, areaK, boxK2, Value.oneCell']) (by simp only [List.length_cons, List.length_nil]; omega) (by simp only [List.length_cons, List.length_nil]; omega) fun u27 a w hn27 S H => m_tail H rfl ?_)
 refine m_q rfl S (fun w H => ZAR rfl S rfl) fun a S => m_q rfl S (fun w H => ZAC rfl Ffo79_3 S rfl) fun a S => m_l rfl rfl (fun w H => ZAS (wn rfl) rfl rfl S H rfl rfl (H.sl1 _) Fsiz75 rfl fun a w S H => m_tail H rfl ?_)
 dsimp only [List.set, Nat.zero_add, Nat.reduceAdd] at H
 refine ZBY (fun w H => ZB1 rfl S ?_)
 rw [List.nil_append] at H
 try dsimp only [List.set, Nat.zero_add] at H
 exact ⟨u27, H.takeT [OSl 92 u27 7 AreaV.enc [areaK], PaC c tv (46), Sl tv 4 TokV.enc TK, Cel e 79 [.string ⟨#[108, 111, 119]⟩, .int .i64 0, bv, u27, iv, .slice none 0 0, dv, .int .i64 19], Atom.ro (Cel q3 198 [.pointer (some ⟨e, 0, none⟩)]), Atom.ro (Cel q2 164 [.pointer (some ⟨c, 0, none⟩)])] l⟩
def levK (bv rv av iv dv : Value) : LevV := ⟨⟨#[108, 111, 119]⟩, 0, bv, [blkK rv], av, [areaK], iv, [boxK1], .slice none 0 0, [], dv, [⟨10, 0⟩], 19⟩
theorem tkA11 (h : 11 < TK.length) : (TK[11]'h).at_ = 40 := by kernel_rfl
theorem tkA15 (h : 15 < TK.length) : (TK[15]'h).at_ = 51 := by kernel_rfl
theorem tkA21 (h : 21 < TK.length) : (TK[21]'h).at_ = 69 := by kernel_rfl
theorem tkA37 (h : 37 < TK.length) : (TK[37]'h).at_ = 116 := by kernel_rfl
def plevW (M : Nat → Prop) (u0 : World) (l : List Atom) (c b2 b3 q2 q3 q5 cnt : Nat) (tv : Value) (w : World) : Nat → Prop
  | 0 => HSat M u0 (PaC c tv (11) :: Sl tv 4 TokV.enc TK :: Cel b3 79 [.string ⟨#[108, 111, 119]⟩, .int .i64 0, .slice none 0 0, .slice none 0 0, .slice none 0 0, .slice none 0 0, .slice none 0 0, .int .i64 19] :: Atom.ro (Cel q3 198 [.pointer (some ⟨b3, 0, none⟩)]) :: Atom.ro (Cel q2 164 [.pointer (some ⟨c, 0, none⟩)]) :: MapA q5 (fun s : ByteArray => Value.string s) (fun v : Value => v) (ZBk q2 q3) cnt :: Cel b2 79 [.string ⟨#[]⟩, .int .i64 0, .slice none 0 0, .slice none 0 0, .slice none 0 0, .slice none 0 0, .slice none 0 0, .int .i64 0] :: l) w
  | 1 => ∃ dv, HSat M u0 (PaC c tv (15) :: Sl tv 4 TokV.enc TK :: Cel b3 79 [.string ⟨#[108, 111, 119]⟩, .int .i64 0, .slice none 0 0, .slice none 0 0, .slice none 0 0, .slice none 0 0, dv, .int .i64 19] :: Atom.ro (Cel q3 198 [.pointer (some ⟨b3, 0, none⟩)]) :: Atom.ro (Cel q2 164 [.pointer (some ⟨c, 0, none⟩)]) :: OSl 23 dv 2 PtV.enc [⟨10, 0⟩] :: MapA q5 (fun s : ByteArray => Value.string s) (fun v : Value => v) (ZBk q2 q3) cnt :: Cel b2 79 [.string ⟨#[]⟩, .int .i64 0, .slice none 0 0, .slice none 0 0, .slice none 0 0, .slice none 0 0, .slice none 0 0, .int .i64 0] :: l) w
  | 2 => ∃ iv dv, HSat M u0 (PaC c tv (21) :: Sl tv 4 TokV.enc TK :: Cel b3 79 [.string ⟨#[108, 111, 119]⟩, .int .i64 0, .slice none 0 0, .slice none 0 0, iv, .slice none 0 0, dv, .int .i64 19] :: Atom.ro (Cel q3 198 [.pointer (some ⟨b3, 0, none⟩)]) :: Atom.ro (Cel q2 164 [.pointer (some ⟨c, 0, none⟩)]) :: OSl 90 iv 4 BoxV.enc [boxK1] :: OSl 23 dv 2 PtV.enc [⟨10, 0⟩] :: MapA q5 (fun s : ByteArray => Value.string s) (fun v : Value => v) (ZBk q2 q3) cnt :: Cel b2 79 [.string ⟨#[]⟩, .int .i64 0, .slice none 0 0, .slice none 0 0, .slice none 0 0, .slice none 0 0, .slice none 0 0, .int .i64 0] :: l) w
  | 3 => ∃ bv rv iv dv, HSat M u0 (PaC c tv (37) :: Sl tv 4 TokV.enc TK :: Cel b3 79 [.string ⟨#[108, 111, 119]⟩, .int .i64 0, bv, .slice none 0 0, iv, .slice none 0 0, dv, .int .i64 19] :: Atom.ro (Cel q3 198 [.pointer (some ⟨b3, 0, none⟩)]) :: Atom.ro (Cel q2 164 [.pointer (some ⟨c, 0, none⟩)]) :: OSl 73 bv 3 BlockV.enc [blkK rv] :: OSl 70 rv 8 RowV.enc [rowK] :: OSl 90 iv 4 BoxV.enc [boxK1] :: OSl 23 dv 2 PtV.enc [⟨10, 0⟩] :: MapA q5 (fun s : ByteArray => Value.string s) (fun v : Value => v) (ZBk q2 q3) cnt :: Cel b2 79 [.string ⟨#[]⟩, .int .i64 0, .slice none 0 0, .slice none 0 0, .slice none 0 0, .slice none 0 0, .slice none 0 0, .int .i64 0] :: l) w
  | _ => ∃ av bv rv iv dv, HSat M u0 (PaC c tv (46) :: Sl tv 4 TokV.enc TK :: Cel b3 79 [.string ⟨#[108, 111, 119]⟩, .int .i64 0, bv, av, iv, .slice none 0 0, dv, .int .i64 19] :: Atom.ro (Cel q3 198 [.pointer (some ⟨b3, 0, none⟩)]) :: Atom.ro (Cel q2 164 [.pointer (some ⟨c, 0, none⟩)]) :: OSl 92 av 7 AreaV.enc [areaK] :: OSl 73 bv 3 BlockV.enc [blkK rv] :: OSl 70 rv 8 RowV.enc [rowK] :: OSl 90 iv 4 BoxV.enc [boxK1] :: OSl 23 dv 2 PtV.enc [⟨10, 0⟩] :: MapA q5 (fun s : ByteArray => Value.string s) (fun v : Value => v) (ZBk q2 q3) cnt :: Cel b2 79 [.string ⟨#[]⟩, .int .i64 0, .slice none 0 0, .slice none 0 0, .slice none 0 0, .slice none 0 0, .slice none 0 0, .int .i64 0] :: l) w
set_option maxHeartbeats 2000000 in
theorem plevel_spec {M : Nat → Prop} {u0 : World} {l : List Atom} (c : Nat) (tv : Value) (w0 : World) (h0 : HSat M u0 (PaC c tv (6) :: Sl tv 4 TokV.enc TK :: l) w0) :
    Ret Tryz.prog 91 #[.pointer (some ⟨c, 0, none⟩)] w0 (fun u w => ∃ bv rv av iv dv, u = .agg (LevV.enc (levK bv rv av iv dv)).toArray ∧ HSat M u0 (OSl 73 bv 3 BlockV.enc [blkK rv] :: OSl 70 rv 8 RowV.enc [rowK] :: OSl 92 av 7 AreaV.enc [areaK] :: OSl 90 iv 4 BoxV.enc [boxK1] :: OSl 23 dv 2 PtV.enc [⟨10, 0⟩] :: PaC c tv (47) :: Sl tv 4 TokV.enc TK :: l) w) := by
 refine ZAE (nt := 59) Tryz.func91 rfl rfl rfl (fl := [(0, .pointer (some ⟨c, 0, none⟩))]) rfl (fun a S => ?_)
 have H := h0
 refine gsr <| q_al S H rfl Fzer79 fun b2 a w S H => gnt <| gsr <| q_mv S rfl fun a S => q_cl S rfl call109 (pat_spec c tv 6 _ (tkl (by decide)) (H.rd c) (H.sl tv)) fun v w hc a S => ?_
 obtain ⟨rfl, he⟩ := hc
 have H := H.ext he
 refine gq rfl S (ZAx rfl Fbld79 S rfl (idx := [7]) rfl (cs := [.string ⟨#[]⟩, .int .i64 0, .slice none 0 0, .slice none 0 0, .slice none 0 0, .slice none 0 0, .slice none 0 0, .int .i64 19]) (by kernel_rfl)) fun a S => ?_
 refine q_al S H rfl Fzer79 fun b3 a w S H => ZAF (ZAQ (wn rfl) rfl rfl S H rfl rfl rfl Fsiz79 rfl (cs' := [_, _, _, _, _, _, _, _]) rfl fun a w S H => gnt ?_)
 refine gsr <| q_mv S rfl fun a S => q_cl S rfl call87 (ZBN c tv 6 7 _ _ (tkl (by decide)) rfl (by kernel_rfl) (H.front2 (PaC c tv (6)) (Sl tv 4 TokV.enc TK))) fun v w hc a S => ?_
 have H := hc
 try simp only [List.cons_append, List.nil_append] at H
 refine gnt ?_
 have S := S.sel [3, 2, 0] rfl
 refine gsr <| q_mv S rfl fun a S => q_cl S rfl call88 (take_spec c tv 7 8 1 _ (tkl (by decide)) rfl (by kernel_rfl) (H.front2 (PaC c tv (7)) (Sl tv 4 TokV.enc TK))) fun v w hc a S => ?_
 obtain ⟨rfl, H⟩ := hc
 try simp only [List.cons_append, List.nil_append] at H
 refine gq rfl S ((y_fieldX rfl S rfl (tok_field1 _ _))) fun a S => ?_
 rw [tkT7] at S
 refine q_fa S Ffo79_0 rfl fun a S => q_st S H rfl rfl Fsiz9 rfl fun a w S H => ?_
 dsimp only [List.set, Nat.zero_add, Nat.reduceAdd] at H
 refine gnt ?_
 have S := S.sel [3, 2, 0] rfl
 refine gsr <| q_mv S rfl fun a S => q_cl S rfl call87 (ZBN c tv 8 9 _ _ (tkl (by decide)) rfl (by kernel_rfl) (H.front2 (PaC c tv (8)) (Sl tv 4 TokV.enc TK))) fun v w hc a S => ?_
 have H := hc
 try simp only [List.cons_append, List.nil_append] at H
 refine gnt <| gsr <| q_mv S rfl fun a S => q_fa S Ffo79_1 rfl fun a S => ZAF (ZAP (wn rfl) rfl rfl rfl underlying194 Finf172 S H (idx := [0]) rfl rfl rfl (z := [.pointer none]) (by kernel_rfl) (cs := [_]) rfl fun b20 a w S H => ?_)
 have H := H.celO (ptrs b3 1 1) encPt 1 (m := 1) rfl (by simp [encPt]) (ptrs_len _ _ _) (by omega)
 have H := H.pick (tgt := [PaC c tv (9), Sl tv 4 TokV.enc TK, Cel b3 79 [.string ⟨#[108, 111, 119]⟩, .int .i64 0, .slice none 0 0, .slice none 0 0, .slice none 0 0, .slice none 0 0, .slice none 0 0, .int .i64 19], OSl 172 (.slice (some ⟨b20, 0, none⟩) 1 1) 1 encPt (ptrs b3 1 1)])
 simp only [List.cons_append, List.nil_append] at H
 refine q_cl S rfl call89 (pnums_spec c tv 9 10 1 b3 1 79 [.string ⟨#[108, 111, 119]⟩, .int .i64 0, .slice none 0 0, .slice none 0 0, .slice none 0 0, .slice none 0 0, .slice none 0 0, .int .i64 19] _ _ (by rw [TK_len]; decide) rfl (numK (by kernel_rfl)) (by decide) H) fun v w hc a S => ?_
 have H := hc
 rw [show numW [.string ⟨#[108, 111, 119]⟩, .int .i64 0, .slice none 0 0, .slice none 0 0, .slice none 0 0, .slice none 0 0, .slice none 0 0, .int .i64 19] 1 9 1 = [.string ⟨#[108, 111, 119]⟩, .int .i64 0, .slice none 0 0, .slice none 0 0, .slice none 0 0, .slice none 0 0, .slice none 0 0, .int .i64 19] from by kernel_rfl] at H
 refine gnt ?_
 have S := S.sel [3, 2, 0] rfl
 refine gsr <| q_mv S rfl fun a S => q_cl S rfl call87 (ZBN c tv 10 11 _ _ (tkl (by decide)) rfl (by kernel_rfl) (H.front2 (PaC c tv (10)) (Sl tv 4 TokV.enc TK))) fun v w hc a S => ?_
 have H := hc
 try simp only [List.cons_append, List.nil_append] at H
 refine gnt <| gsr <| q_mv S rfl fun a S => q_cl S rfl call110 (items_spec c b3 _) fun v w hc a S => ?_
 obtain ⟨q2, q3, q5, cnt, rfl, H1⟩ := hc
 have H := H.call3 H1 rfl rfl rfl
 have H := (((H.front (Cel q3 198 [.pointer (some ⟨b3, 0, none⟩)])).freeze).front (Cel q2 164 [.pointer (some ⟨c, 0, none⟩)])).freeze
 refine q_as S rfl fun a S => gnt ?_
 have S := S.sel [4, 3, 2, 0] rfl
 refine ZAG <| ZAD ?_
 have SU := S.sel [4, 3, 2, 0] rfl
 refine ZBL (X := Nat) SU (fun k => []) (fun k w => k ≤ 4 ∧ plevW M u0 l c b2 b3 q2 q3 q5 cnt tv w k) (fun k => 4 - k) 0 (S.nil) (⟨by decide, (show HSat M u0 (PaC c tv (11) :: Sl tv 4 TokV.enc TK :: Cel b3 79 [.string ⟨#[108, 111, 119]⟩, .int .i64 0, .slice none 0 0, .slice none 0 0, .slice none 0 0, .slice none 0 0, .slice none 0 0, .int .i64 19] :: Atom.ro (Cel q3 198 [.pointer (some ⟨b3, 0, none⟩)]) :: Atom.ro (Cel q2 164 [.pointer (some ⟨c, 0, none⟩)]) :: MapA q5 (fun s : ByteArray => Value.string s) (fun v : Value => v) (ZBk q2 q3) cnt :: Cel b2 79 [.string ⟨#[]⟩, .int .i64 0, .slice none 0 0, .slice none 0 0, .slice none 0 0, .slice none 0 0, .slice none 0 0, .int .i64 0] :: l) _ from H.takeT [PaC c tv (11), Sl tv 4 TokV.enc TK, Cel b3 79 [.string ⟨#[108, 111, 119]⟩, .int .i64 0, .slice none 0 0, .slice none 0 0, .slice none 0 0, .slice none 0 0, .slice none 0 0, .int .i64 19], Atom.ro (Cel q3 198 [.pointer (some ⟨b3, 0, none⟩)]), Atom.ro (Cel q2 164 [.pointer (some ⟨c, 0, none⟩)]), MapA q5 (fun s : ByteArray => Value.string s) (fun v : Value => v) (ZBk q2 q3) cnt, Cel b2 79 [.string ⟨#[]⟩, .int .i64 0, .slice none 0 0, .slice none 0 0, .slice none 0 0, .slice none 0 0, .slice none 0 0, .int .i64 0]] l)⟩) (fun k a w S hW => ?_)
 simp only [List.cons_append, List.nil_append] at S
 refine ZAG <| ZAG ?_
 obtain ⟨hk4, hW2⟩ := hW
 rcases (show k = 0 ∨ k = 1 ∨ k = 2 ∨ k = 3 ∨ k = 4 by omega) with rfl | rfl | rfl | rfl | rfl
 ·have H : HSat M u0 (PaC c tv (11) :: Sl tv 4 TokV.enc TK :: Cel b3 79 [.string ⟨#[108, 111, 119]⟩, .int .i64 0, .slice none 0 0, .slice none 0 0, .slice none 0 0, .slice none 0 0, .slice none 0 0, .int .i64 19] :: Atom.ro (Cel q3 198 [.pointer (some ⟨b3, 0, none⟩)]) :: Atom.ro (Cel q2 164 [.pointer (some ⟨c, 0, none⟩)]) :: MapA q5 (fun s : ByteArray => Value.string s) (fun v : Value => v) (ZBk q2 q3) cnt :: Cel b2 79 [.string ⟨#[]⟩, .int .i64 0, .slice none 0 0, .slice none 0 0, .slice none 0 0, .slice none 0 0, .slice none 0 0, .int .i64 0] :: l) _ := hW2
  refine ZAB <| q_mv S rfl fun a S => q_cl S rfl call90 (isN_spec c tv 11 _ _ (tkl (by decide)) (by kernel_rfl) (H.front2 (PaC c tv (11)) (Sl tv 4 TokV.enc TK))) fun v w hc a S => ?_
  obtain ⟨rfl, H⟩ := hc
  refine gq rfl S (ZBV rfl S rfl) fun a S => gnt <| c_if S rfl (fun h1 => ?_) (fun h1 => ?_)
  ·have h1p := h1; try simp only [DL] at h1p
   refine ZAM <| ZAA <| ZAD <| gsr <| q_mv S rfl fun a S => q_cl S rfl call109 (pat_spec c tv 11 _ (tkl (by decide)) (H.rd c) (H.sl tv)) fun v w hc a S => ?_
   obtain ⟨rfl, he⟩ := hc
   have H := H.ext he
   rw [tkA11] at S
   refine q_as S rfl fun a S => gnt ?_
   have S := S.sel [5, 4, 3, 2, 0] rfl
   refine ZAG <| ZAZ (loud := []) (tails := []) (free := []) [0, 1, 2, 3, 4, 5, 6, 7, 8, 9, 10, 11, 12, 13] [] Fmo (by kernel_rfl) (by kernel_rfl) rfl H ?_
   refine m_q rfl S (fun w H => ZAL rfl S rfl) fun a S => m_q rfl S (fun w H => ZAL rfl S rfl) fun a S => m_q rfl S (fun w H => ZAR rfl S rfl) fun a S => m_q rfl S (fun w H => ZAC rfl ZBz S rfl) fun a S => m_q rfl S (fun w H => ZAJ rfl ZBw S H rfl rfl) fun a S => m_q rfl S (fun w H => ZAL rfl S rfl) fun a S => m_q rfl S (fun w H => ZAR rfl S rfl) fun a S => m_q rfl S (fun w H => ZAC rfl ZA4 S rfl) fun a S => ?_
   refine m_q rfl S (fun w H => ZAJ rfl ZAN S H rfl rfl) fun a S => m_q rfl S (fun w H => ZAI rfl underlying159 Fsiz169 S H rfl rfl (by first | exact tkl (by decide) | assumption | omega)) fun a S => ?_
   refine m_q rfl S (fun w H => ZAq rfl Ffo169_1 S rfl) fun a S => ZA3 _ rfl rfl (wn rfl) rfl rfl S rfl Fsca9 rfl (by first | exact tkl (by decide) | assumption | omega) rfl fun a S => ?_
   refine m_q rfl S (fun w H => (ZBT (v := .func (.func 135) #[] #[.pointer (some ⟨q2, 0, none⟩), .pointer (some ⟨q3, 0, none⟩)]) ⟨#[100, 111, 111, 114]⟩ .nilFunc rfl underlying196 Finf85 S H rfl (ZBs underlying9) (by exact rfl) rfl (by kernel_rfl))) fun a S => ?_
   refine m_q rfl S (fun w H => ZA1 rfl S rfl) fun a S => ZBY (fun w H => ZAA ?_)
   have S := S.sel [6, 5, 4, 3, 2, 0] rfl
   refine ZAG <| gsr <| q_mv S rfl fun a S => gq rfl S ((y_eqfn rfl underlying85 S rfl)) fun a S => gnt <| c_if S rfl (fun h2 => ?_) (fun h2 => ?_)
   ·have h2p := h2; try simp only [DL] at h2p
    all_goals (
      exact absurd h2 (by simp))
   have h2p := h2; try simp only [DL] at h2p
   refine ZAM <| ZAA <| gsr <| q_mv S rfl fun a S => gq rfl S (ZAR rfl S rfl) fun a S => q_fa S ZA4 rfl fun a S => q_ld S H ZAN rfl rfl fun a S => q_ad S rfl (by omega) fun a S => ?_
   refine gq rfl S (ZAR rfl S rfl) fun a S => q_fa S ZA4 rfl fun a S => q_st S H rfl rfl ZA5 rfl fun a w S H => ?_
   dsimp only [List.set, Nat.zero_add, Nat.reduceAdd] at H
   rw [show ((11 : Nat) : Int) + 1 = ((12 : Nat) : Int) from rfl] at H
   refine gnt ?_
   have S := S.sel [6, 5, 4, 3, 2, 0] rfl
   refine ZAB <| q_mv S rfl fun a S => q_mv S rfl fun a S => ZAF (ZAV (wn rfl) rfl rfl S (ZAp rfl call135 S rfl rfl) (pdoor_spec c b3 q2 q3 tv (.slice none 0 0) (.slice none 0 0) (.slice none 0 0) (.slice none 0 0) _ (show HSat M u0 (PaC c tv (12) :: Sl tv 4 TokV.enc TK :: Cel b3 79 [.string ⟨#[108, 111, 119]⟩, .int .i64 0, .slice none 0 0, .slice none 0 0, .slice none 0 0, .slice none 0 0, .slice none 0 0, .int .i64 19] :: Atom.ro (Cel q3 198 [.pointer (some ⟨b3, 0, none⟩)]) :: Atom.ro (Cel q2 164 [.pointer (some ⟨c, 0, none⟩)]) :: MapA q5 (fun s : ByteArray => Value.string s) (fun v : Value => v) (ZBk q2 q3) cnt :: Cel b2 79 [.string ⟨#[]⟩, .int .i64 0, .slice none 0 0, .slice none 0 0, .slice none 0 0, .slice none 0 0, .slice none 0 0, .int .i64 0] :: l) _ from H.takeT [PaC c tv (12), Sl tv 4 TokV.enc TK, Cel b3 79 [.string ⟨#[108, 111, 119]⟩, .int .i64 0, .slice none 0 0, .slice none 0 0, .slice none 0 0, .slice none 0 0, .slice none 0 0, .int .i64 19], Atom.ro (Cel q3 198 [.pointer (some ⟨b3, 0, none⟩)]), Atom.ro (Cel q2 164 [.pointer (some ⟨c, 0, none⟩)])] (MapA q5 (fun s : ByteArray => Value.string s) (fun v : Value => v) (ZBk q2 q3) cnt :: Cel b2 79 [.string ⟨#[]⟩, .int .i64 0, .slice none 0 0, .slice none 0 0, .slice none 0 0, .slice none 0 0, .slice none 0 0, .int .i64 0] :: l))) fun v w hc a S => ?_)
   obtain ⟨dv, H⟩ := hc
   refine ZAj ?_
   refine ZAK ?_
   refine ZAA ?_
   exact ⟨1, S.nil, S.sel [4, 3, 2, 0] rfl, ⟨by decide, (show ∃ dv, HSat M u0 (PaC c tv (15) :: Sl tv 4 TokV.enc TK :: Cel b3 79 [.string ⟨#[108, 111, 119]⟩, .int .i64 0, .slice none 0 0, .slice none 0 0, .slice none 0 0, .slice none 0 0, dv, .int .i64 19] :: Atom.ro (Cel q3 198 [.pointer (some ⟨b3, 0, none⟩)]) :: Atom.ro (Cel q2 164 [.pointer (some ⟨c, 0, none⟩)]) :: OSl 23 dv 2 PtV.enc [⟨10, 0⟩] :: MapA q5 (fun s : ByteArray => Value.string s) (fun v : Value => v) (ZBk q2 q3) cnt :: Cel b2 79 [.string ⟨#[]⟩, .int .i64 0, .slice none 0 0, .slice none 0 0, .slice none 0 0, .slice none 0 0, .slice none 0 0, .int .i64 0] :: l) _ from ⟨dv, H.takeT [PaC c tv (15), Sl tv 4 TokV.enc TK, Cel b3 79 [.string ⟨#[108, 111, 119]⟩, .int .i64 0, .slice none 0 0, .slice none 0 0, .slice none 0 0, .slice none 0 0, dv, .int .i64 19], Atom.ro (Cel q3 198 [.pointer (some ⟨b3, 0, none⟩)]), Atom.ro (Cel q2 164 [.pointer (some ⟨c, 0, none⟩)]), OSl 23 dv 2 PtV.enc [⟨10, 0⟩], MapA q5 (fun s : ByteArray => Value.string s) (fun v : Value => v) (ZBk q2 q3) cnt, Cel b2 79 [.string ⟨#[]⟩, .int .i64 0, .slice none 0 0, .slice none 0 0, .slice none 0 0, .slice none 0 0, .slice none 0 0, .int .i64 0]] l⟩)⟩, by decide⟩
  all_goals (
    exact absurd h1 (by simp))
 ·have hW2 : ∃ dv, HSat M u0 (PaC c tv (15) :: Sl tv 4 TokV.enc TK :: Cel b3 79 [.string ⟨#[108, 111, 119]⟩, .int .i64 0, .slice none 0 0, .slice none 0 0, .slice none 0 0, .slice none 0 0, dv, .int .i64 19] :: Atom.ro (Cel q3 198 [.pointer (some ⟨b3, 0, none⟩)]) :: Atom.ro (Cel q2 164 [.pointer (some ⟨c, 0, none⟩)]) :: OSl 23 dv 2 PtV.enc [⟨10, 0⟩] :: MapA q5 (fun s : ByteArray => Value.string s) (fun v : Value => v) (ZBk q2 q3) cnt :: Cel b2 79 [.string ⟨#[]⟩, .int .i64 0, .slice none 0 0, .slice none 0 0, .slice none 0 0, .slice none 0 0, .slice none 0 0, .int .i64 0] :: l) _ := hW2
  obtain ⟨dv, H⟩ := hW2
  refine ZAB <| q_mv S rfl fun a S => q_cl S rfl call90 (isN_spec c tv 15 _ _ (tkl (by decide)) (by kernel_rfl) (H.front2 (PaC c tv (15)) (Sl tv 4 TokV.enc TK))) fun v w hc a S => ?_
  obtain ⟨rfl, H⟩ := hc
  refine gq rfl S (ZBV rfl S rfl) fun a S => gnt <| c_if S rfl (fun h3 => ?_) (fun h3 => ?_)
  ·have h3p := h3; try simp only [DL] at h3p
   refine ZAM <| ZAA <| ZAD <| gsr <| q_mv S rfl fun a S => q_cl S rfl call109 (pat_spec c tv 15 _ (tkl (by decide)) (H.rd c) (H.sl tv)) fun v w hc a S => ?_
   obtain ⟨rfl, he⟩ := hc
   have H := H.ext he
   rw [tkA15] at S
   refine q_as S rfl fun a S => gnt ?_
   have S := S.sel [5, 4, 3, 2, 0] rfl
   refine ZAG <| ZAZ (loud := []) (tails := []) (free := []) [0, 1, 2, 3, 4, 5, 6, 7, 8, 9, 10, 11, 12, 13] [] Fmo (by kernel_rfl) (by kernel_rfl) rfl H ?_
   refine m_q rfl S (fun w H => ZAL rfl S rfl) fun a S => m_q rfl S (fun w H => ZAL rfl S rfl) fun a S => m_q rfl S (fun w H => ZAR rfl S rfl) fun a S => m_q rfl S (fun w H => ZAC rfl ZBz S rfl) fun a S => m_q rfl S (fun w H => ZAJ rfl ZBw S H rfl rfl) fun a S => m_q rfl S (fun w H => ZAL rfl S rfl) fun a S => m_q rfl S (fun w H => ZAR rfl S rfl) fun a S => m_q rfl S (fun w H => ZAC rfl ZA4 S rfl) fun a S => ?_
   refine m_q rfl S (fun w H => ZAJ rfl ZAN S H rfl rfl) fun a S => m_q rfl S (fun w H => ZAI rfl underlying159 Fsiz169 S H rfl rfl (by first | exact tkl (by decide) | assumption | omega)) fun a S => ?_
   refine m_q rfl S (fun w H => ZAq rfl Ffo169_1 S rfl) fun a S => ZA3 _ rfl rfl (wn rfl) rfl rfl S rfl Fsca9 rfl (by first | exact tkl (by decide) | assumption | omega) rfl fun a S => ?_
   refine m_q rfl S (fun w H => (ZBT (v := .func (.func 133) #[] #[.pointer (some ⟨q3, 0, none⟩), .pointer (some ⟨q2, 0, none⟩)]) ⟨#[97, 105, 115, 108, 101]⟩ .nilFunc rfl underlying196 Finf85 S H rfl (ZBs underlying9) (by exact rfl) rfl (by kernel_rfl))) fun a S => ?_
   refine m_q rfl S (fun w H => ZA1 rfl S rfl) fun a S => ZBY (fun w H => ZAA ?_)
   have S := S.sel [6, 5, 4, 3, 2, 0] rfl
   refine ZAG <| gsr <| q_mv S rfl fun a S => gq rfl S ((y_eqfn rfl underlying85 S rfl)) fun a S => gnt <| c_if S rfl (fun h4 => ?_) (fun h4 => ?_)
   ·have h4p := h4; try simp only [DL] at h4p
    all_goals (
      exact absurd h4 (by simp))
   have h4p := h4; try simp only [DL] at h4p
   refine ZAM <| ZAA <| gsr <| q_mv S rfl fun a S => gq rfl S (ZAR rfl S rfl) fun a S => q_fa S ZA4 rfl fun a S => q_ld S H ZAN rfl rfl fun a S => q_ad S rfl (by omega) fun a S => ?_
   refine gq rfl S (ZAR rfl S rfl) fun a S => q_fa S ZA4 rfl fun a S => q_st S H rfl rfl ZA5 rfl fun a w S H => ?_
   dsimp only [List.set, Nat.zero_add, Nat.reduceAdd] at H
   rw [show ((15 : Nat) : Int) + 1 = ((16 : Nat) : Int) from rfl] at H
   refine gnt ?_
   have S := S.sel [6, 5, 4, 3, 2, 0] rfl
   refine ZAB <| q_mv S rfl fun a S => q_mv S rfl fun a S => ZAF (ZAV (wn rfl) rfl rfl S (ZAp rfl call133 S rfl rfl) (paisle_spec c b3 q2 q3 tv (.slice none 0 0) (.slice none 0 0) (.slice none 0 0) (dv) _ (show HSat M u0 (PaC c tv (16) :: Sl tv 4 TokV.enc TK :: Cel b3 79 [.string ⟨#[108, 111, 119]⟩, .int .i64 0, .slice none 0 0, .slice none 0 0, .slice none 0 0, .slice none 0 0, dv, .int .i64 19] :: Atom.ro (Cel q3 198 [.pointer (some ⟨b3, 0, none⟩)]) :: Atom.ro (Cel q2 164 [.pointer (some ⟨c, 0, none⟩)]) :: OSl 23 dv 2 PtV.enc [⟨10, 0⟩] :: MapA q5 (fun s : ByteArray => Value.string s) (fun v : Value => v) (ZBk q2 q3) cnt :: Cel b2 79 [.string ⟨#[]⟩, .int .i64 0, .slice none 0 0, .slice none 0 0, .slice none 0 0, .slice none 0 0, .slice none 0 0, .int .i64 0] :: l) _ from H.takeT [PaC c tv (16), Sl tv 4 TokV.enc TK, Cel b3 79 [.string ⟨#[108, 111, 119]⟩, .int .i64 0, .slice none 0 0, .slice none 0 0, .slice none 0 0, .slice none 0 0, dv, .int .i64 19], Atom.ro (Cel q3 198 [.pointer (some ⟨b3, 0, none⟩)]), Atom.ro (Cel q2 164 [.pointer (some ⟨c, 0, none⟩)])] (OSl 23 dv 2 PtV.enc [⟨10, 0⟩] :: MapA q5 (fun s : ByteArray => Value.string s) (fun v : Value => v) (ZBk q2 q3) cnt :: Cel b2 79 [.string ⟨#[]⟩, .int .i64 0, .slice none 0 0, .slice none 0 0, .slice none 0 0, .slice none 0 0, .slice none 0 0, .int .i64 0] :: l))) fun v w hc a S => ?_)
   obtain ⟨iv, H⟩ := hc
   refine ZAj ?_
   refine ZAK ?_
   refine ZAA ?_
   exact ⟨2, S.nil, S.sel [4, 3, 2, 0] rfl, ⟨by decide, (show ∃ iv dv, HSat M u0 (PaC c tv (21) :: Sl tv 4 TokV.enc TK :: Cel b3 79 [.string ⟨#[108, 111, 119]⟩, .int .i64 0, .slice none 0 0, .slice none 0 0, iv, .slice none 0 0, dv, .int .i64 19] :: Atom.ro (Cel q3 198 [.pointer (some ⟨b3, 0, none⟩)]) :: Atom.ro (Cel q2 164 [.pointer (some ⟨c, 0, none⟩)]) :: OSl 90 iv 4 BoxV.enc [boxK1] :: OSl 23 dv 2 PtV.enc [⟨10, 0⟩] :: MapA q5 (fun s : ByteArray => Value.string s) (fun v : Value => v) (ZBk q2 q3) cnt :: Cel b2 79 [.string ⟨#[]⟩, .int .i64 0, .slice none 0 0, .slice none 0 0, .slice none 0 0, .slice none 0 0, .slice none 0 0, .int .i64 0] :: l) _ from ⟨iv, dv, H.takeT [PaC c tv (21), Sl tv 4 TokV.enc TK, Cel b3 79 [.string ⟨#[108, 111, 119]⟩, .int .i64 0, .slice none 0 0, .slice none 0 0, iv, .slice none 0 0, dv, .int .i64 19], Atom.ro (Cel q3 198 [.pointer (some ⟨b3, 0, none⟩)]), Atom.ro (Cel q2 164 [.pointer (some ⟨c, 0, none⟩)]), OSl 90 iv 4 BoxV.enc [boxK1], OSl 23 dv 2 PtV.enc [⟨10, 0⟩], MapA q5 (fun s : ByteArray => Value.string s) (fun v : Value => v) (ZBk q2 q3) cnt, Cel b2 79 [.string ⟨#[]⟩, .int .i64 0, .slice none 0 0, .slice none 0 0, .slice none 0 0, .slice none 0 0, .slice none 0 0, .int .i64 0]] l⟩)⟩, by decide⟩
  all_goals (
    exact absurd h3 (by simp))
 ·have hW2 : ∃ iv dv, HSat M u0 (PaC c tv (21) :: Sl tv 4 TokV.enc TK :: Cel b3 79 [.string ⟨#[108, 111, 119]⟩, .int .i64 0, .slice none 0 0, .slice none 0 0, iv, .slice none 0 0, dv, .int .i64 19] :: Atom.ro (Cel q3 198 [.pointer (some ⟨b3, 0, none⟩)]) :: Atom.ro (Cel q2 164 [.pointer (some ⟨c, 0, none⟩)]) :: OSl 90 iv 4 BoxV.enc [boxK1] :: OSl 23 dv 2 PtV.enc [⟨10, 0⟩] :: MapA q5 (fun s : ByteArray => Value.string s) (fun v : Value => v) (ZBk q2 q3) cnt :: Cel b2 79 [.string ⟨#[]⟩, .int .i64 0, .slice none 0 0, .slice none 0 0, .slice none 0 0, .slice none 0 0, .slice none 0 0, .int .i64 0] :: l) _ := hW2
  obtain ⟨iv, dv, H⟩ := hW2
  refine ZAB <| q_mv S rfl fun a S => q_cl S rfl call90 (isN_spec c tv 21 _ _ (tkl (by decide)) (by kernel_rfl) (H.front2 (PaC c tv (21)) (Sl tv 4 TokV.enc TK))) fun v w hc a S => ?_
  obtain ⟨rfl, H⟩ := hc
  refine gq rfl S (ZBV rfl S rfl) fun a S => gnt <| c_if S rfl (fun h5 => ?_) (fun h5 => ?_)
  ·have h5p := h5; try simp only [DL] at h5p
   refine ZAM <| ZAA <| ZAD <| gsr <| q_mv S rfl fun a S => q_cl S rfl call109 (pat_spec c tv 21 _ (tkl (by decide)) (H.rd c) (H.sl tv)) fun v w hc a S => ?_
   obtain ⟨rfl, he⟩ := hc
   have H := H.ext he
   rw [tkA21] at S
   refine q_as S rfl fun a S => gnt ?_
   have S := S.sel [5, 4, 3, 2, 0] rfl
   refine ZAG <| ZAZ (loud := []) (tails := []) (free := []) [0, 1, 2, 3, 4, 5, 6, 7, 8, 9, 10, 11, 12, 13] [] Fmo (by kernel_rfl) (by kernel_rfl) rfl H ?_
   refine m_q rfl S (fun w H => ZAL rfl S rfl) fun a S => m_q rfl S (fun w H => ZAL rfl S rfl) fun a S => m_q rfl S (fun w H => ZAR rfl S rfl) fun a S => m_q rfl S (fun w H => ZAC rfl ZBz S rfl) fun a S => m_q rfl S (fun w H => ZAJ rfl ZBw S H rfl rfl) fun a S => m_q rfl S (fun w H => ZAL rfl S rfl) fun a S => m_q rfl S (fun w H => ZAR rfl S rfl) fun a S => m_q rfl S (fun w H => ZAC rfl ZA4 S rfl) fun a S => ?_
   refine m_q rfl S (fun w H => ZAJ rfl ZAN S H rfl rfl) fun a S => m_q rfl S (fun w H => ZAI rfl underlying159 Fsiz169 S H rfl rfl (by first | exact tkl (by decide) | assumption | omega)) fun a S => ?_
   refine m_q rfl S (fun w H => ZAq rfl Ffo169_1 S rfl) fun a S => ZA3 _ rfl rfl (wn rfl) rfl rfl S rfl Fsca9 rfl (by first | exact tkl (by decide) | assumption | omega) rfl fun a S => ?_
   refine m_q rfl S (fun w H => (ZBT (v := .func (.func 129) #[] #[.pointer (some ⟨q3, 0, none⟩), .pointer (some ⟨q2, 0, none⟩)]) ⟨#[98, 108, 111, 99, 107]⟩ .nilFunc rfl underlying196 Finf85 S H rfl (ZBs underlying9) (by exact rfl) rfl (by kernel_rfl))) fun a S => ?_
   refine m_q rfl S (fun w H => ZA1 rfl S rfl) fun a S => ZBY (fun w H => ZAA ?_)
   have S := S.sel [6, 5, 4, 3, 2, 0] rfl
   refine ZAG <| gsr <| q_mv S rfl fun a S => gq rfl S ((y_eqfn rfl underlying85 S rfl)) fun a S => gnt <| c_if S rfl (fun h6 => ?_) (fun h6 => ?_)
   ·have h6p := h6; try simp only [DL] at h6p
    all_goals (
      exact absurd h6 (by simp))
   have h6p := h6; try simp only [DL] at h6p
   refine ZAM <| ZAA <| gsr <| q_mv S rfl fun a S => gq rfl S (ZAR rfl S rfl) fun a S => q_fa S ZA4 rfl fun a S => q_ld S H ZAN rfl rfl fun a S => q_ad S rfl (by omega) fun a S => ?_
   refine gq rfl S (ZAR rfl S rfl) fun a S => q_fa S ZA4 rfl fun a S => q_st S H rfl rfl ZA5 rfl fun a w S H => ?_
   dsimp only [List.set, Nat.zero_add, Nat.reduceAdd] at H
   rw [show ((21 : Nat) : Int) + 1 = ((22 : Nat) : Int) from rfl] at H
   refine gnt ?_
   have S := S.sel [6, 5, 4, 3, 2, 0] rfl
   refine ZAB <| q_mv S rfl fun a S => q_mv S rfl fun a S => ZAF (ZAV (wn rfl) rfl rfl S (ZAp rfl call129 S rfl rfl) (pblk_spec c b3 q2 q3 tv (.slice none 0 0) (.slice none 0 0) (iv) (dv) _ (show HSat M u0 (PaC c tv (22) :: Sl tv 4 TokV.enc TK :: Cel b3 79 [.string ⟨#[108, 111, 119]⟩, .int .i64 0, .slice none 0 0, .slice none 0 0, iv, .slice none 0 0, dv, .int .i64 19] :: Atom.ro (Cel q3 198 [.pointer (some ⟨b3, 0, none⟩)]) :: Atom.ro (Cel q2 164 [.pointer (some ⟨c, 0, none⟩)]) :: OSl 90 iv 4 BoxV.enc [boxK1] :: OSl 23 dv 2 PtV.enc [⟨10, 0⟩] :: MapA q5 (fun s : ByteArray => Value.string s) (fun v : Value => v) (ZBk q2 q3) cnt :: Cel b2 79 [.string ⟨#[]⟩, .int .i64 0, .slice none 0 0, .slice none 0 0, .slice none 0 0, .slice none 0 0, .slice none 0 0, .int .i64 0] :: l) _ from H.takeT [PaC c tv (22), Sl tv 4 TokV.enc TK, Cel b3 79 [.string ⟨#[108, 111, 119]⟩, .int .i64 0, .slice none 0 0, .slice none 0 0, iv, .slice none 0 0, dv, .int .i64 19], Atom.ro (Cel q3 198 [.pointer (some ⟨b3, 0, none⟩)]), Atom.ro (Cel q2 164 [.pointer (some ⟨c, 0, none⟩)])] (OSl 90 iv 4 BoxV.enc [boxK1] :: OSl 23 dv 2 PtV.enc [⟨10, 0⟩] :: MapA q5 (fun s : ByteArray => Value.string s) (fun v : Value => v) (ZBk q2 q3) cnt :: Cel b2 79 [.string ⟨#[]⟩, .int .i64 0, .slice none 0 0, .slice none 0 0, .slice none 0 0, .slice none 0 0, .slice none 0 0, .int .i64 0] :: l))) fun v w hc a S => ?_)
   obtain ⟨bv, rv, H⟩ := hc
   refine ZAj ?_
   refine ZAK ?_
   refine ZAA ?_
   exact ⟨3, S.nil, S.sel [4, 3, 2, 0] rfl, ⟨by decide, (show ∃ bv rv iv dv, HSat M u0 (PaC c tv (37) :: Sl tv 4 TokV.enc TK :: Cel b3 79 [.string ⟨#[108, 111, 119]⟩, .int .i64 0, bv, .slice none 0 0, iv, .slice none 0 0, dv, .int .i64 19] :: Atom.ro (Cel q3 198 [.pointer (some ⟨b3, 0, none⟩)]) :: Atom.ro (Cel q2 164 [.pointer (some ⟨c, 0, none⟩)]) :: OSl 73 bv 3 BlockV.enc [blkK rv] :: OSl 70 rv 8 RowV.enc [rowK] :: OSl 90 iv 4 BoxV.enc [boxK1] :: OSl 23 dv 2 PtV.enc [⟨10, 0⟩] :: MapA q5 (fun s : ByteArray => Value.string s) (fun v : Value => v) (ZBk q2 q3) cnt :: Cel b2 79 [.string ⟨#[]⟩, .int .i64 0, .slice none 0 0, .slice none 0 0, .slice none 0 0, .slice none 0 0, .slice none 0 0, .int .i64 0] :: l) _ from ⟨bv, rv, iv, dv, H.takeT [PaC c tv (37), Sl tv 4 TokV.enc TK, Cel b3 79 [.string ⟨#[108, 111, 119]⟩, .int .i64 0, bv, .slice none 0 0, iv, .slice none 0 0, dv, .int .i64 19], Atom.ro (Cel q3 198 [.pointer (some ⟨b3, 0, none⟩)]), Atom.ro (Cel q2 164 [.pointer (some ⟨c, 0, none⟩)]), OSl 73 bv 3 BlockV.enc [blkK rv], OSl 70 rv 8 RowV.enc [rowK], OSl 90 iv 4 BoxV.enc [boxK1], OSl 23 dv 2 PtV.enc [⟨10, 0⟩], MapA q5 (fun s : ByteArray => Value.string s) (fun v : Value => v) (ZBk q2 q3) cnt, Cel b2 79 [.string ⟨#[]⟩, .int .i64 0, .slice none 0 0, .slice none 0 0, .slice none 0 0, .slice none 0 0, .slice none 0 0, .int .i64 0]] l⟩)⟩, by decide⟩
  all_goals (
    exact absurd h5 (by simp))
 ·have hW2 : ∃ bv rv iv dv, HSat M u0 (PaC c tv (37) :: Sl tv 4 TokV.enc TK :: Cel b3 79 [.string ⟨#[108, 111, 119]⟩, .int .i64 0, bv, .slice none 0 0, iv, .slice none 0 0, dv, .int .i64 19] :: Atom.ro (Cel q3 198 [.pointer (some ⟨b3, 0, none⟩)]) :: Atom.ro (Cel q2 164 [.pointer (some ⟨c, 0, none⟩)]) :: OSl 73 bv 3 BlockV.enc [blkK rv] :: OSl 70 rv 8 RowV.enc [rowK] :: OSl 90 iv 4 BoxV.enc [boxK1] :: OSl 23 dv 2 PtV.enc [⟨10, 0⟩] :: MapA q5 (fun s : ByteArray => Value.string s) (fun v : Value => v) (ZBk q2 q3) cnt :: Cel b2 79 [.string ⟨#[]⟩, .int .i64 0, .slice none 0 0, .slice none 0 0, .slice none 0 0, .slice none 0 0, .slice none 0 0, .int .i64 0] :: l) _ := hW2
  obtain ⟨bv, rv, iv, dv, H⟩ := hW2
  refine ZAB <| q_mv S rfl fun a S => q_cl S rfl call90 (isN_spec c tv 37 _ _ (tkl (by decide)) (by kernel_rfl) (H.front2 (PaC c tv (37)) (Sl tv 4 TokV.enc TK))) fun v w hc a S => ?_
  obtain ⟨rfl, H⟩ := hc
  refine gq rfl S (ZBV rfl S rfl) fun a S => gnt <| c_if S rfl (fun h7 => ?_) (fun h7 => ?_)
  ·have h7p := h7; try simp only [DL] at h7p
   refine ZAM <| ZAA <| ZAD <| gsr <| q_mv S rfl fun a S => q_cl S rfl call109 (pat_spec c tv 37 _ (tkl (by decide)) (H.rd c) (H.sl tv)) fun v w hc a S => ?_
   obtain ⟨rfl, he⟩ := hc
   have H := H.ext he
   rw [tkA37] at S
   refine q_as S rfl fun a S => gnt ?_
   have S := S.sel [5, 4, 3, 2, 0] rfl
   refine ZAG <| ZAZ (loud := []) (tails := []) (free := []) [0, 1, 2, 3, 4, 5, 6, 7, 8, 9, 10, 11, 12, 13] [] Fmo (by kernel_rfl) (by kernel_rfl) rfl H ?_
   refine m_q rfl S (fun w H => ZAL rfl S rfl) fun a S => m_q rfl S (fun w H => ZAL rfl S rfl) fun a S => m_q rfl S (fun w H => ZAR rfl S rfl) fun a S => m_q rfl S (fun w H => ZAC rfl ZBz S rfl) fun a S => m_q rfl S (fun w H => ZAJ rfl ZBw S H rfl rfl) fun a S => m_q rfl S (fun w H => ZAL rfl S rfl) fun a S => m_q rfl S (fun w H => ZAR rfl S rfl) fun a S => m_q rfl S (fun w H => ZAC rfl ZA4 S rfl) fun a S => ?_
   refine m_q rfl S (fun w H => ZAJ rfl ZAN S H rfl rfl) fun a S => m_q rfl S (fun w H => ZAI rfl underlying159 Fsiz169 S H rfl rfl (by first | exact tkl (by decide) | assumption | omega)) fun a S => ?_
   refine m_q rfl S (fun w H => ZAq rfl Ffo169_1 S rfl) fun a S => ZA3 _ rfl rfl (wn rfl) rfl rfl S rfl Fsca9 rfl (by first | exact tkl (by decide) | assumption | omega) rfl fun a S => ?_
   refine m_q rfl S (fun w H => (ZBT (v := .func (.func 131) #[] #[.pointer (some ⟨q2, 0, none⟩), .pointer (some ⟨q3, 0, none⟩)]) ⟨#[97, 114, 101, 97]⟩ .nilFunc rfl underlying196 Finf85 S H rfl (ZBs underlying9) (by exact rfl) rfl (by kernel_rfl))) fun a S => ?_
   refine m_q rfl S (fun w H => ZA1 rfl S rfl) fun a S => ZBY (fun w H => ZAA ?_)
   have S := S.sel [6, 5, 4, 3, 2, 0] rfl
   refine ZAG <| gsr <| q_mv S rfl fun a S => gq rfl S ((y_eqfn rfl underlying85 S rfl)) fun a S => gnt <| c_if S rfl (fun h8 => ?_) (fun h8 => ?_)
   ·have h8p := h8; try simp only [DL] at h8p
    all_goals (
      exact absurd h8 (by simp))
   have h8p := h8; try simp only [DL] at h8p
   refine ZAM <| ZAA <| gsr <| q_mv S rfl fun a S => gq rfl S (ZAR rfl S rfl) fun a S => q_fa S ZA4 rfl fun a S => q_ld S H ZAN rfl rfl fun a S => q_ad S rfl (by omega) fun a S => ?_
   refine gq rfl S (ZAR rfl S rfl) fun a S => q_fa S ZA4 rfl fun a S => q_st S H rfl rfl ZA5 rfl fun a w S H => ?_
   dsimp only [List.set, Nat.zero_add, Nat.reduceAdd] at H
   rw [show ((37 : Nat) : Int) + 1 = ((38 : Nat) : Int) from rfl] at H
   refine gnt ?_
   have S := S.sel [6, 5, 4, 3, 2, 0] rfl
   refine ZAB <| q_mv S rfl fun a S => q_mv S rfl fun a S => ZAF (ZAV (wn rfl) rfl rfl S (ZAp rfl call131 S rfl rfl) (parea_spec c b3 q2 q3 tv (bv) (.slice none 0 0) (iv) (dv) _ (show HSat M u0 (PaC c tv (38) :: Sl tv 4 TokV.enc TK :: Cel b3 79 [.string ⟨#[108, 111, 119]⟩, .int .i64 0, bv, .slice none 0 0, iv, .slice none 0 0, dv, .int .i64 19] :: Atom.ro (Cel q3 198 [.pointer (some ⟨b3, 0, none⟩)]) :: Atom.ro (Cel q2 164 [.pointer (some ⟨c, 0, none⟩)]) :: OSl 73 bv 3 BlockV.enc [blkK rv] :: OSl 70 rv 8 RowV.enc [rowK] :: OSl 90 iv 4 BoxV.enc [boxK1] :: OSl 23 dv 2 PtV.enc [⟨10, 0⟩] :: MapA q5 (fun s : ByteArray => Value.string s) (fun v : Value => v) (ZBk q2 q3) cnt :: Cel b2 79 [.string ⟨#[]⟩, .int .i64 0, .slice none 0 0, .slice none 0 0, .slice none 0 0, .slice none 0 0, .slice none 0 0, .int .i64 0] :: l) _ from H.takeT [PaC c tv (38), Sl tv 4 TokV.enc TK, Cel b3 79 [.string ⟨#[108, 111, 119]⟩, .int .i64 0, bv, .slice none 0 0, iv, .slice none 0 0, dv, .int .i64 19], Atom.ro (Cel q3 198 [.pointer (some ⟨b3, 0, none⟩)]), Atom.ro (Cel q2 164 [.pointer (some ⟨c, 0, none⟩)])] (OSl 73 bv 3 BlockV.enc [blkK rv] :: OSl 70 rv 8 RowV.enc [rowK] :: OSl 90 iv 4 BoxV.enc [boxK1] :: OSl 23 dv 2 PtV.enc [⟨10, 0⟩] :: MapA q5 (fun s : ByteArray => Value.string s) (fun v : Value => v) (ZBk q2 q3) cnt :: Cel b2 79 [.string ⟨#[]⟩, .int .i64 0, .slice none 0 0, .slice none 0 0, .slice none 0 0, .slice none 0 0, .slice none 0 0, .int .i64 0] :: l))) fun v w hc a S => ?_)
   obtain ⟨av, H⟩ := hc
   refine ZAj ?_
   refine ZAK ?_
   refine ZAA ?_
   exact ⟨4, S.nil, S.sel [4, 3, 2, 0] rfl, ⟨by decide, (show ∃ av bv rv iv dv, HSat M u0 (PaC c tv (46) :: Sl tv 4 TokV.enc TK :: Cel b3 79 [.string ⟨#[108, 111, 119]⟩, .int .i64 0, bv, av, iv, .slice none 0 0, dv, .int .i64 19] :: Atom.ro (Cel q3 198 [.pointer (some ⟨b3, 0, none⟩)]) :: Atom.ro (Cel q2 164 [.pointer (some ⟨c, 0, none⟩)]) :: OSl 92 av 7 AreaV.enc [areaK] :: OSl 73 bv 3 BlockV.enc [blkK rv] :: OSl 70 rv 8 RowV.enc [rowK] :: OSl 90 iv 4 BoxV.enc [boxK1] :: OSl 23 dv 2 PtV.enc [⟨10, 0⟩] :: MapA q5 (fun s : ByteArray => Value.string s) (fun v : Value => v) (ZBk q2 q3) cnt :: Cel b2 79 [.string ⟨#[]⟩, .int .i64 0, .slice none 0 0, .slice none 0 0, .slice none 0 0, .slice none 0 0, .slice none 0 0, .int .i64 0] :: l) _ from ⟨av, bv, rv, iv, dv, H.takeT [PaC c tv (46), Sl tv 4 TokV.enc TK, Cel b3 79 [.string ⟨#[108, 111, 119]⟩, .int .i64 0, bv, av, iv, .slice none 0 0, dv, .int .i64 19], Atom.ro (Cel q3 198 [.pointer (some ⟨b3, 0, none⟩)]), Atom.ro (Cel q2 164 [.pointer (some ⟨c, 0, none⟩)]), OSl 92 av 7 AreaV.enc [areaK], OSl 73 bv 3 BlockV.enc [blkK rv], OSl 70 rv 8 RowV.enc [rowK], OSl 90 iv 4 BoxV.enc [boxK1], OSl 23 dv 2 PtV.enc [⟨10, 0⟩], MapA q5 (fun s : ByteArray => Value.string s) (fun v : Value => v) (ZBk q2 q3) cnt, Cel b2 79 [.string ⟨#[]⟩, .int .i64 0, .slice none 0 0, .slice none 0 0, .slice none 0 0, .slice none 0 0, .slice none 0 0, .int .i64 0]] l⟩)⟩, by decide⟩
  all_goals (
    exact absurd h7 (by simp))
 have hW2 : ∃ av bv rv iv dv, HSat M u0 (PaC c tv (46) :: Sl tv 4 TokV.enc TK :: Cel b3 79 [.string ⟨#[108, 111, 119]⟩, .int .i64 0, bv, av, iv, .slice none 0 0, dv, .int .i64 19] :: Atom.ro (Cel q3 198 [.pointer (some ⟨b3, 0, none⟩)]) :: Atom.ro (Cel q2 164 [.pointer (some ⟨c, 0, none⟩)]) :: OSl 92 av 7 AreaV.enc [areaK] :: OSl 73 bv 3 BlockV.enc [blkK rv] :: OSl 70 rv 8 RowV.enc [rowK] :: OSl 90 iv 4 BoxV.enc [boxK1] :: OSl 23 dv 2 PtV.enc [⟨10, 0⟩] :: MapA q5 (fun s : ByteArray => Value.string s) (fun v : Value => v) (ZBk q2 q3) cnt :: Cel b2 79 [.string ⟨#[]⟩, .int .i64 0, .slice none 0 0, .slice none 0 0, .slice none 0 0, .slice none 0 0, .slice none 0 0, .int .i64 0] :: l) _ := hW2
 obtain ⟨av, bv, rv, iv, dv, H⟩ := hW2
 refine ZAB <| q_mv S rfl fun a S => q_cl S rfl call90 (isY_spec c tv 46 47 _ _ (tkl (by decide)) rfl (by kernel_rfl) (H.front2 (PaC c tv (46)) (Sl tv 4 TokV.enc TK))) fun v w hc a S => ?_
 obtain ⟨rfl, H⟩ := hc
 refine gq rfl S (ZBV rfl S rfl) fun a S => gnt <| c_if S rfl (fun h9 => ?_) (fun h9 => ?_)
 ·have h9p := h9; try simp only [DL] at h9p
  all_goals (
    exact absurd h9 (by simp))
 refine ZAf <| ZAO (ZAO (x_eq ?_))
 refine ZAA ?_
 have S := S.sel [3, 2] rfl
 refine gsr <| gq rfl S (ZAb rfl S H rfl (by exact Fagg79)) fun a S => ?_
 refine ZAF (ZAQ (wn rfl) rfl rfl S H rfl rfl (by simp only [List.all_cons, List.all_nil, H.sl1 bv, H.sl1 av, H.sl1 iv, H.sl1 dv]; rfl) Fsiz79 rfl (cs' := [_, _, _, _, _, _, _, _]) rfl fun a w S H => ?_)
 refine gnt <| ZAe <| retc rfl S H rfl (by exact Fagg79) ?_
 exact ⟨bv, rv, av, iv, dv, rfl, H.takeT [OSl 73 bv 3 BlockV.enc [blkK rv], OSl 70 rv 8 RowV.enc [rowK], OSl 92 av 7 AreaV.enc [areaK], OSl 90 iv 4 BoxV.enc [boxK1], OSl 23 dv 2 PtV.enc [⟨10, 0⟩], PaC c tv (47), Sl tv 4 TokV.enc TK] l⟩
end
end Go.Proofs.YtjdlllacomgaoaaGreatDoor
