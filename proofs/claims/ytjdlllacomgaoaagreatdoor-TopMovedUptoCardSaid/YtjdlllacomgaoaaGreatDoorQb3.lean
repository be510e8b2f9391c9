/- Parts of the proof, joined: the program logic, the plain theory, the walks, as they are named inside. No condition. -/
import Derived.Test.YtjdlllacomgaoaaGreatDoorChecked
import Derived.Test.YtjdlllacomgaoaaGreatDoorQb2
import Derived.Lib.RowBridge
set_option linter.unusedVariables false
set_option linter.unusedSimpArgs false
namespace Go.Proofs.YtjdlllacomgaoaaGreatDoor
section
open Go Go.Gw _root_.Go.Proofs.Tryz
set_option maxHeartbeats 4000000 in
theorem block_spec {M : Nat → Prop} {u0 : World} {l : List Atom} (b : Nat) (h : HallV) (z : CkZ) (n i : Nat) (w0 : World) (hn : n < h.levels.length) (hi : i < (h.levels[n]).blocks.length) (h0 : HSat M u0 (ChkA b h z :: ZAU h :: l) w0) (hl : z.2.length ≤ 2000000)  :
    Ret Tryz.prog 18 #[.pointer (some ⟨b, 0, none⟩), .int .i64 (n : Int), .int .i64 (i : Int)] w0 (fun u w => ∃ (z2 : CkZ) (q : Bool), z2.2.length = z.2.length + (if q = true then 0 else 1) ∧ (q = true ↔ BlkOK h.levels[n] i (h.levels[n].blocks[i])) ∧ HSat M u0 (ChkA b h z2 :: ZAU h :: l) w) := by
 refine ZAE (nt := 51) Tryz.func18 rfl rfl rfl (fl := [(0, .pointer (some ⟨b, 0, none⟩)), (1, .int .i64 (n : Int)), (2, .int .i64 (i : Int))]) rfl (fun a S => ?_)
 have H := h0
 have hOK := H.ok (ZAU h) (by simp)
 obtain ⟨L, hL⟩ : ∃ L, L = h.levels[n] := ⟨_, rfl⟩
 have hLm : L ∈ h.levels := hL ▸ List.getElem_mem hn
 have hLa := hall_lev hOK hLm
 have hLall := lev_all hLa
 have H := ZBP (ls := ZBI h) H (Sl h.lv 8 LevV.enc h.levels) mem_levels rfl
 have H := ZBP (ls := ZBI h) H (Sl L.bv 3 BlockV.enc L.blocks) (ZAs hLm (by simp [levA])) rfl
 have H := ZBP (ls := ZBI h) H (Sl L.av 7 AreaV.enc L.areas) (ZAs hLm (by simp [levA])) rfl
 have H := ZBP (ls := ZBI h) H (Sl L.iv 4 BoxV.enc L.aisles) (ZAs hLm (by simp [levA])) rfl
 have H := ZBP (ls := ZBI h) H (Sl L.pv 4 BoxV.enc L.pillars) (ZAs hLm (by simp [levA])) rfl
 have H := ZBP (ls := ZBI h) H (Sl L.dv 2 PtV.enc L.doors) (ZAs hLm (by simp [levA])) rfl
 have hl0 := (lev_blocks hLa).len
 have hl1 := (lev_areas hLa).len
 have hl2 := (lev_aisles hLa).len
 have hl3 := (lev_pillars hLa).len
 have hl4 := (lev_doors hLa).len
 have hl5 := (ZBE hOK).len
 have hLn : h.levels[n] = L := hL.symm
 obtain ⟨B, hB⟩ : ∃ B, B = L.blocks[i]'(hL ▸ hi) := ⟨_, rfl⟩
 have hiL : i < L.blocks.length := hL ▸ hi
 have hBm : B ∈ L.blocks := hB ▸ List.getElem_mem hiL
 have hBa := lev_block hLa hBm
 have hBall := block_all hBa
 have hl6 := (block_rows hBa).len
 have hLB : L.blocks[i] = B := hB.symm
 have H := ZBP (ls := ZBI h) H (Sl B.rv 8 RowV.enc B.rows) (ZAs hLm (ZBl hBm (List.mem_cons_self ..))) rfl
 refine gsr <| ZAF (op_box1 (wn rfl) rfl rfl rfl S H rfl rfl fun b5 a w S H => gnt ?_)
 refine gsr <| q_mv S rfl fun a S => gq rfl S (ZAR rfl S rfl) fun a S => q_fa S Ffo83_0 rfl fun a S => q_fa S ZBi rfl fun a S => q_ld S H Fsca24 rfl rfl fun a S => q_mv S rfl fun a S => gq rfl S (ZAI rfl underlying24 Fsiz79 S H rfl rfl (by omega)) fun a S => ?_
 refine gq rfl S (ZAq rfl Ffo79_2 S rfl) fun a S => gq rfl S ((y_loadsf (u := L.bv) _ rfl Fsca74 S H rfl hn (by rw [hLn]; rfl))) fun a S => ?_
 refine q_al S H rfl Fzer74 fun b6 a w S H => q_st S H rfl (H.sl1 _) Fsiz74 rfl fun a w S H => ?_
 dsimp only [List.set, Nat.zero_add, Nat.reduceAdd] at H
 refine gnt ?_
 have S := S.sel [6, 5, 0] rfl
 refine gsr <| q_ld S H Fsca74 rfl rfl fun a S => gq rfl S (ZAd rfl S rfl rfl) fun a S => q_cl S rfl call48 (idxBl_spec L.bv L.blocks 49 [.pointer (some ⟨b6, 0, none⟩), .pointer (some ⟨b5, 0, none⟩)] call49 (fun x => decide (x.name = L.blocks[i].name)) _ (H.sl L.bv) (fun x hx w hw => blP_spec x L.bv L.blocks i b6 b5 w ((H.ext hw).sl L.bv) hiL ((H.ext hw).rd b6) ((H.ext hw).rd b5))) fun v w hc a S => ?_
 obtain ⟨zi, rfl, hz1, he⟩ := hc
 have H := H.ext he
 rw [hLB] at hz1
 obtain ⟨rfl, hno⟩ | ⟨j, hj, rfl, hpj, hqj⟩ := hz1
 · exfalso; have := hno B hBm; simp at this
 refine q_as S rfl fun a S => gnt <| ZAD <| gsr <| q_mv S rfl fun a S => q_ld S H ZAN rfl rfl fun a S => q_bn S rfl fun a S => q_as S rfl fun a S => ?_
 refine gnt ?_
 have S := S.sel [20, 7, 6, 5, 0] rfl
 refine c_if S rfl (fun h1 => ?_) (fun h1 => ?_)
 ·have h1p := h1; try simp only [DL] at h1p
  refine ZAZ (loud := [11]) (tails := [11]) (free := []) [0, 1, 2, 3, 4, 5, 6, 7, 8, 9, 10, 11] [] Fmo (by kernel_rfl) (by kernel_rfl) rfl H ?_
  refine m_q rfl S (fun w H => ZAL rfl S rfl) fun a S => m_q rfl S (fun w H => ZAJ rfl Fsca74 S H rfl rfl) fun a S => m_q rfl S (fun w H => ZAJ rfl ZAN S H rfl rfl) fun a S => m_q rfl S (fun w H => ZAI rfl underlying74 Fsiz73 S H rfl rfl (by omega)) fun a S => ?_
  refine m_q rfl S (fun w H => ZAq rfl Ffo73_2 S rfl) fun a S => ZA3 _ rfl rfl (wn rfl) rfl rfl S rfl ZAN rfl (by omega) rfl fun a S => ?_
  refine m_q rfl S (fun w H => ZAJ rfl Fsca74 S H rfl rfl) fun a S => m_q rfl S (fun w H => ZAL rfl S rfl) fun a S => m_q rfl S (fun w H => ZAI rfl underlying74 Fsiz73 S H rfl rfl (by omega)) fun a S => ?_
  refine m_q rfl S (fun w H => ZAq rfl Ffo73_2 S rfl) fun a S => ZA3 _ rfl rfl (wn rfl) rfl rfl S rfl ZAN rfl (by omega) rfl fun a S => ?_
  refine m_l rfl rfl (fun w H => ZAV (wn rfl) rfl rfl S (ZAi rfl call24 S rfl) (ZBd b h z (9) (L.blocks[i].at_) (L.blocks[j].at_) _ (H.front (ChkA b h z)) (by omega)) fun v w hc a S => ?_)
  obtain ⟨z2, hz2, H⟩ := hc
  refine m_tail H rfl <| ZBY (fun w H => ZAK ?_)
  refine ZB1 rfl S ?_
  have hno2 : ¬ BlkOK L i B := fun hh => absurd (of_decide_eq_true hpj) (hh.first j hj (by have := h1p; omega))
  have e1 : (BlkOK h.levels[n] i (h.levels[n].blocks[i])) = BlkOK L i B := by subst hB; subst hL; rfl
  rw [e1]
  exact ⟨z2, false, by rw [hz2]; rfl, by exact ⟨fun hq => absurd hq (by simp), fun hh => absurd hh hno2⟩, H.takeT [ChkA b h z2, ZAU h] l⟩
 have h1p := h1; try simp only [DL] at h1p
 refine gsr <| q_ld S H Fsca74 rfl rfl fun a S => q_ld S H ZAN rfl rfl fun a S => gq rfl S (ZAI rfl underlying74 Fsiz73 S H rfl rfl (by omega)) fun a S => ?_
 refine gq rfl S (ZAq rfl Ffo73_1 S rfl) fun a S => gq rfl S (y_loadsf _ rfl Fsca71 S H rfl (by omega) rfl) fun a S => ?_
 rw [hLB] at S
 refine gq rfl S (ZAT rfl underlying71 S H rfl) fun a S => q_bn S rfl fun a S => q_as S rfl fun a S => gnt ?_
 have S := S.sel [36, 6, 5, 0] rfl
 refine c_if S rfl (fun h2 => ?_) (fun h2 => ?_)
 ·have h2p := h2; try simp only [DL] at h2p
  refine ZAB <| q_mv S rfl fun a S => q_ld S H Fsca74 rfl rfl fun a S => q_ld S H ZAN rfl rfl fun a S => gq rfl S (ZAI rfl underlying74 Fsiz73 S H rfl rfl (by omega)) fun a S => ?_
  refine gq rfl S (ZAq rfl Ffo73_2 S rfl) fun a S => gq rfl S (y_loadsf _ rfl ZAN S H rfl (by omega) rfl) fun a S => ?_
  refine q_cl S rfl call24 (ZBd b h z (3) (L.blocks[i].at_) (-1) _ (H.front (ChkA b h z)) (by omega)) fun v w hc a S => ?_
  obtain ⟨z2, hz2, H⟩ := hc
  refine ZAj <| ZAK <| ZB1 rfl S ?_
  have hno2 : ¬ BlkOK L i B := fun hh => by have h1 := hh.lim; have h9 := h2p; omega
  have e1 : (BlkOK h.levels[n] i (h.levels[n].blocks[i])) = BlkOK L i B := by subst hB; subst hL; rfl
  rw [e1]
  exact ⟨z2, false, by rw [hz2]; rfl, by exact ⟨fun hq => absurd hq (by simp), fun hh => absurd hh hno2⟩, H.takeT [ChkA b h z2, ZAU h] l⟩
 have h2p := h2; try simp only [DL] at h2p
 refine ZAM <| ZAK <| ZB1 rfl S ?_
 have h8 := h1p
 have h9 := h2p
 have hyes : BlkOK L i B := ⟨fun q hq hlt he => by (have hqq := hqj q hq (by omega)); simp [he] at hqq, by omega⟩
 have e1 : (BlkOK h.levels[n] i (h.levels[n].blocks[i])) = BlkOK L i B := by subst hB; subst hL; rfl
 rw [e1]
 exact ⟨z, true, by rfl, by exact ⟨fun _ => hyes, fun _ => rfl⟩, H.takeT [ChkA b h z, ZAU h] l⟩
set_option maxHeartbeats 4000000 in
theorem area_spec {M : Nat → Prop} {u0 : World} {l : List Atom} (b : Nat) (h : HallV) (z : CkZ) (n i : Nat) (w0 : World) (hn : n < h.levels.length) (hi : i < (h.levels[n]).areas.length) (h0 : HSat M u0 (ChkA b h z :: ZAU h :: l) w0) (hl : z.2.length ≤ 2000000)  :
    Ret Tryz.prog 20 #[.pointer (some ⟨b, 0, none⟩), .int .i64 (n : Int), .int .i64 (i : Int)] w0 (fun u w => ∃ (z2 : CkZ) (q : Bool), z2.2.length = z.2.length + (if q = true then 0 else 1) ∧ (q = true ↔ ArOK h.levels[n] i (h.levels[n].areas[i])) ∧ HSat M u0 (ChkA b h z2 :: ZAU h :: l) w) := by
 refine ZAE (nt := 77) Tryz.func20 rfl rfl rfl (fl := [(0, .pointer (some ⟨b, 0, none⟩)), (1, .int .i64 (n : Int)), (2, .int .i64 (i : Int))]) rfl (fun a S => ?_)
 have H := h0
 have hOK := H.ok (ZAU h) (by simp)
 obtain ⟨L, hL⟩ : ∃ L, L = h.levels[n] := ⟨_, rfl⟩
 have hLm : L ∈ h.levels := hL ▸ List.getElem_mem hn
 have hLa := hall_lev hOK hLm
 have hLall := lev_all hLa
 have H := ZBP (ls := ZBI h) H (Sl h.lv 8 LevV.enc h.levels) mem_levels rfl
 have H := ZBP (ls := ZBI h) H (Sl L.bv 3 BlockV.enc L.blocks) (ZAs hLm (by simp [levA])) rfl
 have H := ZBP (ls := ZBI h) H (Sl L.av 7 AreaV.enc L.areas) (ZAs hLm (by simp [levA])) rfl
 have H := ZBP (ls := ZBI h) H (Sl L.iv 4 BoxV.enc L.aisles) (ZAs hLm (by simp [levA])) rfl
 have H := ZBP (ls := ZBI h) H (Sl L.pv 4 BoxV.enc L.pillars) (ZAs hLm (by simp [levA])) rfl
 have H := ZBP (ls := ZBI h) H (Sl L.dv 2 PtV.enc L.doors) (ZAs hLm (by simp [levA])) rfl
 have hl0 := (lev_blocks hLa).len
 have hl1 := (lev_areas hLa).len
 have hl2 := (lev_aisles hLa).len
 have hl3 := (lev_pillars hLa).len
 have hl4 := (lev_doors hLa).len
 have hl5 := (ZBE hOK).len
 have hLn : h.levels[n] = L := hL.symm
 obtain ⟨A, hA⟩ : ∃ A, A = L.areas[i]'(hL ▸ hi) := ⟨_, rfl⟩
 have hiL : i < L.areas.length := hL ▸ hi
 have hAm : A ∈ L.areas := hA ▸ List.getElem_mem hiL
 have hLA : L.areas[i] = A := hA.symm
 have e1 : (ArOK h.levels[n] i (h.levels[n].areas[i])) = ArOK L i A := by subst hA; subst hL; rfl
 rw [e1]
 refine gsr <| q_mv S rfl fun a S => gq rfl S (ZAR rfl S rfl) fun a S => q_fa S Ffo83_0 rfl fun a S => q_fa S ZBi rfl fun a S => q_ld S H Fsca24 rfl rfl fun a S => q_mv S rfl fun a S => gq rfl S (ZAI rfl underlying24 Fsiz79 S H rfl rfl (by omega)) fun a S => ?_
 refine gq rfl S (ZAk _ rfl S H rfl (by exact Fagg79) (by omega)) fun a S => ?_
 rw [hLn] at S
 refine q_al S H rfl Fzer79 fun b6 a w S H => ZAF (ZAQ (wn rfl) rfl rfl S H rfl rfl hLall Fsiz79 rfl (cs' := [_, _, _, _, _, _, _, _]) rfl fun a w S H => gnt ?_)
 have S := S.sel [6, 0, 2] rfl
 refine gsr <| q_fa S Ffo79_3 rfl fun a S => q_ld S H Fsca75 rfl rfl fun a S => q_mv S rfl fun a S => gq rfl S (ZAI rfl underlying75 Fsiz92 S H rfl rfl (by omega)) fun a S => ?_
 refine gq rfl S (ZAk _ rfl S H rfl (by exact Fagg92) (by omega)) fun a S => ?_
 rw [hLA] at S
 refine q_al S H rfl Fzer92 fun b7 a w S H => ZAF (ZAQ (wn rfl) rfl rfl S H rfl rfl rfl Fsiz92 rfl (cs' := [_, _, _, _, _, _, _]) rfl fun a w S H => gnt ?_)
 have S := S.sel [7, 6, 0, 2] rfl
 refine gsr <| q_fa S Ffo79_2 rfl fun a S => q_ld S H Fsca74 rfl rfl fun a S => gq rfl S (ZAd rfl S rfl rfl) fun a S => q_cl S rfl call48 (idxBl_spec L.bv L.blocks 54 [.pointer (some ⟨b7, 0, none⟩)] call54 (fun x => decide (x.name = A.name)) _ (H.sl L.bv) (fun x hx w hw => arP1_spec x A b7 w ((H.ext hw).rd b7))) fun v w hc a S => ?_
 obtain ⟨zb, rfl, hz1, he⟩ := hc
 have H := H.ext he
 refine q_as S rfl fun a S => gnt ?_
 have S := S.sel [8, 7, 6, 0, 2] rfl
 refine gsr <| q_fa S Ffo79_3 rfl fun a S => q_ld S H Fsca75 rfl rfl fun a S => gq rfl S (ZAd rfl S rfl rfl) fun a S => q_cl S rfl call55 (idxAr_spec L.av L.areas 56 [.pointer (some ⟨b7, 0, none⟩)] call56 (fun x => decide (x.name = A.name)) _ (H.sl L.av) (fun x hx w hw => arP2_spec x A b7 w ((H.ext hw).rd b7))) fun v w hc a S => ?_
 obtain ⟨zi, rfl, hz2, he⟩ := hc
 have H := H.ext he
 obtain ⟨rfl, hno⟩ | ⟨j, hj, rfl, hpj, hqj⟩ := hz2
 · exfalso; have := hno A hAm; simp at this
 refine q_as S rfl fun a S => gnt ?_
 have S := S.sel [9, 8, 7, 6, 0, 2] rfl
 refine ZAD <| gsr <| q_mv S rfl fun a S => q_bn S rfl fun a S => q_as S rfl fun a S => gnt <| c_if S rfl (fun h1 => ?_) (fun h1 => ?_)
 ·have h1p := h1; try simp only [DL] at h1p
  obtain ⟨rfl, hnb⟩ | ⟨q, hq, rfl, hpq, hqq⟩ := hz1
  · exfalso; have := h1p; omega
  refine ZAZ (loud := [9]) (tails := [9]) (free := []) [0, 1, 2, 3, 4, 5, 6, 7, 8, 9] [] Fmo (by kernel_rfl) (by kernel_rfl) rfl H ?_
  refine m_q rfl S (fun w H => ZAL rfl S rfl) fun a S => m_q rfl S (fun w H => ZAC rfl Ffo92_3 S rfl) fun a S => m_q rfl S (fun w H => ZAJ rfl ZAN S H rfl rfl) fun a S => m_q rfl S (fun w H => ZAC rfl Ffo79_2 S rfl) fun a S => m_q rfl S (fun w H => ZAJ rfl Fsca74 S H rfl rfl) fun a S => m_q rfl S (fun w H => ZAL rfl S rfl) fun a S => m_q rfl S (fun w H => ZAI rfl underlying74 Fsiz73 S H rfl rfl (by omega)) fun a S => ?_
  refine m_q rfl S (fun w H => ZAq rfl Ffo73_2 S rfl) fun a S => ZA3 _ rfl rfl (wn rfl) rfl rfl S rfl ZAN rfl (by omega) rfl fun a S => ?_
  refine m_l rfl rfl (fun w H => ZAV (wn rfl) rfl rfl S (ZAi rfl call24 S rfl) (ZBd b h z (9) (A.at_) (L.blocks[q].at_) _ (H.front (ChkA b h z)) (by omega)) fun v w hc a S => ?_)
  obtain ⟨z2, hz2, H⟩ := hc
  refine m_tail H rfl <| ZBY (fun w H => ZAK ?_)
  refine ZB1 rfl S ?_
  have hno2 : ¬ ArOK L i A := fun hh => absurd (of_decide_eq_true hpq) (hh.blk _ (List.getElem_mem hq))
  exact ⟨z2, false, by rw [hz2]; rfl, ⟨fun hq => absurd hq (by simp), fun hh => absurd hh hno2⟩, H.takeT [ChkA b h z2, ZAU h] l⟩
 have h1p := h1; try simp only [DL] at h1p
 obtain ⟨rfl, hnb⟩ | ⟨q, hq, rfl, hpq, hqq⟩ := hz1
 rotate_left
 · exfalso; have := h1p; omega
 refine gsr <| q_mv S rfl fun a S => q_mv S rfl fun a S => q_bn S rfl fun a S => q_as S rfl fun a S => gnt ?_
 have S := S.sel [44, 9, 7, 6, 0] rfl
 refine c_if S rfl (fun h2 => ?_) (fun h2 => ?_)
 ·have h2p := h2; try simp only [DL] at h2p
  refine ZAZ (loud := [9]) (tails := [9]) (free := []) [0, 1, 2, 3, 4, 5, 6, 7, 8, 9] [] Fmo (by kernel_rfl) (by kernel_rfl) rfl H ?_
  refine m_q rfl S (fun w H => ZAL rfl S rfl) fun a S => m_q rfl S (fun w H => ZAC rfl Ffo92_3 S rfl) fun a S => m_q rfl S (fun w H => ZAJ rfl ZAN S H rfl rfl) fun a S => m_q rfl S (fun w H => ZAC rfl Ffo79_3 S rfl) fun a S => m_q rfl S (fun w H => ZAJ rfl Fsca75 S H rfl rfl) fun a S => m_q rfl S (fun w H => ZAL rfl S rfl) fun a S => m_q rfl S (fun w H => ZAI rfl underlying75 Fsiz92 S H rfl rfl (by omega)) fun a S => ?_
  refine m_q rfl S (fun w H => ZAq rfl Ffo92_3 S rfl) fun a S => ZA3 _ rfl rfl (wn rfl) rfl rfl S rfl ZAN rfl (by omega) rfl fun a S => ?_
  refine m_l rfl rfl (fun w H => ZAV (wn rfl) rfl rfl S (ZAi rfl call24 S rfl) (ZBd b h z (9) (A.at_) (L.areas[j].at_) _ (H.front (ChkA b h z)) (by omega)) fun v w hc a S => ?_)
  obtain ⟨z2, hz2, H⟩ := hc
  refine m_tail H rfl <| ZBY (fun w H => ZAK ?_)
  refine ZB1 rfl S ?_
  have hno2 : ¬ ArOK L i A := fun hh => absurd (of_decide_eq_true hpj) (hh.first j hj (by have := h2p; omega))
  exact ⟨z2, false, by rw [hz2]; rfl, ⟨fun hq => absurd hq (by simp), fun hh => absurd hh hno2⟩, H.takeT [ChkA b h z2, ZAU h] l⟩
 have h2p := h2; try simp only [DL] at h2p
 refine gsr <| q_fa S Ffo92_1 rfl fun a S => gq rfl S ((y_loadp (vs := BoxV.enc A.box) rfl S H rfl (by exact Fagg90) rfl)) fun a S => ?_
 refine q_cl S rfl call45 (box_spec A.box _) fun v w hc a S => ?_
 obtain ⟨rfl, he⟩ := hc
 have H := H.ext he
 refine gq rfl S (ZBV rfl S rfl) fun a S => q_mv S rfl fun a S => ?_
 refine' ZBH 3 63 rfl S H rfl rfl rfl rfl rfl rfl rfl (fun _ S => (wn rfl)) (fun h3 kk => ?yh3) (fun a w S H => ?_)
 case yh3 =>
  exact gz 63 h3 S rfl rfl rfl rfl rfl rfl (ZAC rfl Ffo92_2 S rfl) fun a S => gz 63 h3 S rfl rfl rfl rfl rfl rfl (ZAJ rfl ZAN S H rfl rfl) fun a S => gz 63 h3 S rfl rfl rfl rfl rfl rfl (ZAn rfl S rfl rfl rfl) fun a S => gq rfl S (ZAz rfl h3 S rfl rfl) fun a S => kk _ _ (S.join 4 67 rfl rfl) H
 refine q_mv S rfl fun a S => ?_
 refine' ZBH 3 68 rfl S H rfl rfl rfl rfl rfl rfl rfl (fun _ S => (wn rfl)) (fun h4 kk => ?yh4) (fun a w S H => ?_)
 case yh4 =>
  exact gz 68 h4 S rfl rfl rfl rfl rfl rfl (ZAC rfl Ffo92_2 S rfl) fun a S => gz 68 h4 S rfl rfl rfl rfl rfl rfl (ZAJ rfl ZAN S H rfl rfl) fun a S => gz 68 h4 S rfl rfl rfl rfl rfl rfl (ZAn rfl S rfl rfl rfl) fun a S => gq rfl S (ZAz rfl h4 S rfl rfl) fun a S => kk _ _ (S.join 4 72 rfl rfl) H
 refine q_as S rfl fun a S => gnt ?_
 have S := S.sel [58, 7, 0] rfl
 refine c_if S rfl (fun h5 => ?_) (fun h5 => ?_)
 ·have h5p := h5; try simp only [DL] at h5p
  refine ZAB <| q_mv S rfl fun a S => q_fa S Ffo92_3 rfl fun a S => q_ld S H ZAN rfl rfl fun a S => q_cl S rfl call24 (ZBd b h z (2) (A.at_) (-1) _ (H.front (ChkA b h z)) (by omega)) fun v w hc a S => ?_
  obtain ⟨z2, hz2, H⟩ := hc
  refine ZAj <| ZAK <| ZB1 rfl S ?_
  have hno2 : ¬ ArOK L i A := fun hh => by
    have h1 := hh.box
    have h2 := hh.holds
    have h9 := h5p
    rw [h1] at h9
    simp at h9
    omega
  exact ⟨z2, false, by rw [hz2]; rfl, ⟨fun hq => absurd hq (by simp), fun hh => absurd hh hno2⟩, H.takeT [ChkA b h z2, ZAU h] l⟩
 have h5p := h5; try simp only [DL] at h5p
 refine ZAM <| ZAK <| ZB1 rfl S ?_
 have h8 := h2p
 have h9 := h5p
 have hyes : ArOK L i A := ⟨fun x hx he => by (have hqx := hnb x hx); simp [he] at hqx, fun q hq hlt he => by (have hqx := hqj q hq (by omega)); simp [he] at hqx, by have := h9.1.1; simpa using this, by omega⟩
 exact ⟨z, true, by rfl, ⟨fun _ => hyes, fun _ => rfl⟩, H.takeT [ChkA b h z, ZAU h] l⟩
structure RowGd (B : BlockV) (k : Nat) (R : RowV) : Prop where
  first : ∀ j (hj : j < B.rows.length), j < k → B.rows[j].name ≠ R.name
  rng : RangeR R
  nom : R.marks = []
theorem mul_bd {a b : Int} (h1 : 0 ≤ a) (h2 : a ≤ 10000) (h3 : 0 ≤ b) (h4 : b ≤ 10000) : 0 ≤ a * b ∧ a * b ≤ 100000000 :=
  ⟨Int.mul_nonneg h1 h3, Int.le_trans (Int.mul_le_mul h2 h4 h3 (by decide)) (by decide)⟩
theorem crd2 {x y : Int} (h : 0 ≤ x ∧ x ≤ 10000 ∧ 0 ≤ y ∧ y ≤ 10000) : crdL [x, y] = true := by
  unfold crdL; rw [List.all_cons, List.all_cons, List.all_nil, crdB_iff.2 ⟨h.1, h.2.1⟩, crdB_iff.2 ⟨h.2.2.1, h.2.2.2⟩]; rfl
theorem crd1 {x : Int} : crdL [x] = true ↔ 0 ≤ x ∧ x ≤ 10000 := by
  unfold crdL; rw [List.all_cons, List.all_nil, Bool.and_true]; exact crdB_iff
theorem crd2_of {x y : Int} (h : crdL [x, y] = true) : 0 ≤ x ∧ x ≤ 10000 ∧ 0 ≤ y ∧ y ≤ 10000 := by
  unfold crdL at h; rw [List.all_cons, List.all_cons, List.all_nil, Bool.and_true, Bool.and_eq_true] at h
  have h1 := crdB_iff.1 h.1
  have h2 := crdB_iff.1 h.2
  exact ⟨h1.1, h1.2, h2.1, h2.2⟩
theorem mkW_spec (x : MarkV) (b m : Nat) (f : Int → Option Bool) (c : Nat) (w0 : World) (hb : w0.heap[b]? = some (.cells ([Value.map (some m)]).toArray 60 (0, 0))) (hm : IsMap w0 m (fun n : Int => Value.int .i64 n) (fun b : Bool => Value.bool b) f c) :
    Ret Tryz.prog 53 #[.agg (MarkV.enc x).toArray, .pointer (some ⟨b, 0, none⟩)] w0 (fun u w => u = .bool (decide (x.kind = 4) && !(f x.with_).getD false) ∧ Ext w0 w) := by
 refine ZAE (nt := 14) Tryz.func53 rfl rfl rfl (fl := [(0, .agg (MarkV.enc x).toArray), (1, .pointer (some ⟨b, 0, none⟩))]) rfl (fun a S => ?_)
 have H := HSat.start w0
 have H := H.ro0 (Atom.ro (Cel b 60 [.map (some m)])) rfl (hb)
 have H := H.ro0 (Atom.ro (MapA m (fun n : Int => Value.int .i64 n) (fun b : Bool => Value.bool b) (f) c)) rfl (hm)
 refine gsr <| ZAF (ZAu (wn rfl) rfl rfl rfl S H rfl fun b2 a w S H => q_as S rfl fun a S => gnt ?_)
 refine gsr <| q_fa S Ffo128_0 rfl fun a S => q_ld S H ZAN rfl rfl fun a S => q_bn S rfl fun a S => q_mv S rfl fun a S => ?_
 refine' wl_and 5 7 rfl S H rfl rfl rfl rfl rfl rfl rfl (fun _ S => (wn rfl)) (fun h1 kk => ?yh1) (fun a w S H => ?_)
 case yh1 =>
  refine gz 7 h1 S rfl rfl rfl rfl rfl rfl (ZAJ rfl Fsca60 S H rfl rfl) fun a S => gz 7 h1 S rfl rfl rfl rfl rfl rfl (ZAC rfl Ffo128_2 S rfl) fun a S => gz 7 h1 S rfl rfl rfl rfl rfl rfl (ZAJ rfl ZAN S H rfl rfl) fun a S => gz 7 h1 S rfl rfl rfl rfl rfl rfl (y_lookup (_) (false) rfl underlying60 ZBR S H rfl (ZAv underlying3) (by exact rfl) (by exact rfl)) fun a S => ?_
  exact gz 7 h1 S rfl rfl rfl rfl rfl rfl (ZBV rfl S rfl) fun a S => gq rfl S (ZBf rfl h1 S rfl rfl) fun a S => kk _ _ (S.join 6 13 rfl rfl) H
 refine q_as S rfl fun a S => gnt ?_
 have S := S.sel [3] rfl
 exact ZAe <| ret1 rfl S rfl <| ⟨rfl, H.toExt⟩
set_option maxHeartbeats 8000000 in
theorem row_spec {M : Nat → Prop} {u0 : World} {l : List Atom} (b : Nat) (h : HallV) (z : CkZ) (n i k0 : Nat) (w0 : World) (hn : n < h.levels.length) (hi : i < (h.levels[n]).blocks.length) (hk : k0 < (h.levels[n].blocks[i]).rows.length) (h0 : HSat M u0 (ChkA b h z :: ZAU h :: l) w0) (hl : z.2.length ≤ 2000000)  :
    Ret Tryz.prog 19 #[.pointer (some ⟨b, 0, none⟩), .int .i64 (n : Int), .int .i64 (i : Int), .int .i64 (k0 : Int)] w0 (fun u w => ∃ (z2 : CkZ) (q : Bool), z2.2.length = z.2.length + (if q = true then 0 else 1) ∧ (q = true → RangeR (h.levels[n].blocks[i].rows[k0])) ∧ (RowGd (h.levels[n].blocks[i]) k0 (h.levels[n].blocks[i].rows[k0]) → q = true) ∧ HSat M u0 (ChkA b h z2 :: ZAU h :: l) w) := by
 refine ZAE (nt := 197) Tryz.func19 rfl rfl rfl (fl := [(0, .pointer (some ⟨b, 0, none⟩)), (1, .int .i64 (n : Int)), (2, .int .i64 (i : Int)), (3, .int .i64 (k0 : Int))]) rfl (fun a S => ?_)
 have H := h0
 have hOK := H.ok (ZAU h) (by simp)
 obtain ⟨L, hL⟩ : ∃ L, L = h.levels[n] := ⟨_, rfl⟩
 have hLm : L ∈ h.levels := hL ▸ List.getElem_mem hn
 have hLa := hall_lev hOK hLm
 have hLall := lev_all hLa
 have H := ZBP (ls := ZBI h) H (Sl h.lv 8 LevV.enc h.levels) mem_levels rfl
 have H := ZBP (ls := ZBI h) H (Sl L.bv 3 BlockV.enc L.blocks) (ZAs hLm (by simp [levA])) rfl
 have H := ZBP (ls := ZBI h) H (Sl L.av 7 AreaV.enc L.areas) (ZAs hLm (by simp [levA])) rfl
 have H := ZBP (ls := ZBI h) H (Sl L.iv 4 BoxV.enc L.aisles) (ZAs hLm (by simp [levA])) rfl
 have H := ZBP (ls := ZBI h) H (Sl L.pv 4 BoxV.enc L.pillars) (ZAs hLm (by simp [levA])) rfl
 have H := ZBP (ls := ZBI h) H (Sl L.dv 2 PtV.enc L.doors) (ZAs hLm (by simp [levA])) rfl
 have hl0 := (lev_blocks hLa).len
 have hl1 := (lev_areas hLa).len
 have hl2 := (lev_aisles hLa).len
 have hl3 := (lev_pillars hLa).len
 have hl4 := (lev_doors hLa).len
 have hl5 := (ZBE hOK).len
 have hLn : h.levels[n] = L := hL.symm
 obtain ⟨B, hB⟩ : ∃ B, B = L.blocks[i]'(hL ▸ hi) := ⟨_, rfl⟩
 have hiL : i < L.blocks.length := hL ▸ hi
 have hBm : B ∈ L.blocks := hB ▸ List.getElem_mem hiL
 have hBa := lev_block hLa hBm
 have hBall := block_all hBa
 have hl6 := (block_rows hBa).len
 have hLB : L.blocks[i] = B := hB.symm
 have H := ZBP (ls := ZBI h) H (Sl B.rv 8 RowV.enc B.rows) (ZAs hLm (ZBl hBm (List.mem_cons_self ..))) rfl
 have hkB : k0 < B.rows.length := by subst hB; subst hL; exact hk
 obtain ⟨R, hR⟩ : ∃ R, R = B.rows[k0] := ⟨_, rfl⟩
 have hRm : R ∈ B.rows := hR ▸ List.getElem_mem hkB
 have hRall := row_all (row_one hBa hRm)
 have hl7 := (row_marks hBa hRm).len
 have hBR : B.rows[k0] = R := hR.symm
 have H := ZBP (ls := ZBI h) H (Sl R.mv 3 MarkV.enc R.marks) (ZAs hLm (ZBl hBm (mem_row hRm))) rfl
 have e1 : (RowGd (h.levels[n].blocks[i]) k0 (h.levels[n].blocks[i].rows[k0])) = RowGd B k0 R := by subst hR; subst hB; subst hL; rfl
 have e2 : (RangeR (h.levels[n].blocks[i].rows[k0])) = RangeR R := by subst hR; subst hB; subst hL; rfl
 rw [e1, e2]
 refine g_scope <| gsr <| q_mv S rfl fun a S => gq rfl S (ZAR rfl S rfl) fun a S => q_fa S Ffo83_0 rfl fun a S => q_fa S ZBi rfl fun a S => q_ld S H Fsca24 rfl rfl fun a S => q_mv S rfl fun a S => ?_
 refine gq rfl S (ZAI rfl underlying24 Fsiz79 S H rfl rfl (by omega)) fun a S => ?_
 refine gq rfl S (ZAq rfl Ffo79_2 S rfl) fun a S => gq rfl S ((y_loadsf (u := L.bv) _ rfl Fsca74 S H rfl hn (by rw [hLn]; rfl))) fun a S => ?_
 refine q_mv S rfl fun a S => gq rfl S (ZAI rfl underlying74 Fsiz73 S H rfl rfl (by omega)) fun a S => ?_
 refine gq rfl S (ZAq rfl Ffo73_1 S rfl) fun a S => gq rfl S ((y_loadsf (u := B.rv) _ rfl Fsca71 S H rfl hiL (by rw [hLB]; rfl))) fun a S => ?_
 refine q_as S rfl fun a S => gnt ?_
 have S := S.sel [8, 0, 3] rfl
 refine gsr <| q_mv S rfl fun a S => q_mv S rfl fun a S => gq rfl S (ZAI rfl underlying71 Fsiz70 S H rfl rfl (by omega)) fun a S => ?_
 refine gq rfl S (ZAk _ rfl S H rfl (by exact Fagg70) (by omega)) fun a S => ?_
 rw [hBR] at S
 refine q_al S H rfl Fzer70 fun b9 a w S H => ZAF (ZAQ (wn rfl) rfl rfl S H rfl rfl hRall Fsiz70 rfl (cs' := [_, _, _, _, _, _, _, _]) rfl fun a w S H => gnt ?_)
 have S := S.sel [9, 8, 0, 3] rfl
 refine gsr <| q_mv S rfl fun a S => gq rfl S (ZAd rfl S rfl rfl) fun a S => q_cl S rfl call50 (idxRw_spec B.rv B.rows 51 [.pointer (some ⟨b9, 0, none⟩)] call51 (fun x => decide (x.name = R.name)) _ (H.sl B.rv) (fun x hx w hw => rwP_spec x R b9 w ((H.ext hw).rd b9))) fun v w hc a S => ?_
 obtain ⟨zi, rfl, hz1, he⟩ := hc
 have H := H.ext he
 obtain ⟨rfl, hno⟩ | ⟨j, hj, rfl, hpj, hqj⟩ := hz1
 · exfalso; have := hno R hRm; simp at this
 refine q_as S rfl fun a S => gnt <| gsr <| q_as S rfl fun a S => q_as S rfl fun a S => gnt <| gsr <| ZAF (ZBK (fun n : Int => .int .i64 n) (fun b : Bool => .bool b) (wn rfl) rfl rfl rfl S H fun b41 a w S H => ?_)
 refine ZAF (ZBK (fun n : Int => .int .i64 n) (fun b : Bool => .bool b) (wn rfl) rfl rfl rfl S H fun b42 a w S H => q_al S H rfl Fzer60 fun b13 a w S H => q_st S H rfl rfl Fsiz60 rfl fun a w S H => ?_)
 dsimp only [List.set, Nat.zero_add, Nat.reduceAdd] at H
 refine q_as S rfl fun a S => gnt ?_
 have S := S.sel [14, 13, 12, 11, 10, 9, 8, 0, 3] rfl
 refine ZAG <| g_label <| ZAA <| ZAG <| cut (fun a w => ∃ e o : Int, St 197 [(0, .pointer (some ⟨b, 0, none⟩)), (9, .pointer (some ⟨b9, 0, none⟩)), (11, .int .i64 e), (12, .int .i64 o)] a ∧ (e = 0 → RangeR R) ∧ (RowGd B k0 R → e = 0) ∧ HSat M u0 (ChkA b h z :: ZAU h :: Cel b9 70 [.string R.name, .int .i64 R.x, .int .i64 R.y, .int .i64 R.from_, .int .i64 R.to_, .int .i64 R.step, R.mv, .int .i64 R.at_] :: l) w) ?_ ?_
 ·skip
  refine ZAD <| gsr <| q_mv S rfl fun a S => q_mv S rfl fun a S => q_bn S rfl fun a S => q_as S rfl fun a S => gnt <| c_if S rfl (fun h1 => ?_) (fun h1 => ?_)
  ·have h1p := h1; try simp only [DL] at h1p
   have hbad : ¬ RowGd B k0 R := fun hg => absurd (of_decide_eq_true hpj) (hg.first j hj (by have := h1p; omega))
   refine ZAZ (loud := []) (tails := []) (free := []) [0, 1, 2, 3, 4, 5, 6] [] Fmo (by kernel_rfl) (by kernel_rfl) rfl H ?_
   refine m_q rfl S (fun w H => ZAL rfl S rfl) fun a S => m_q rfl S (fun w H => ZAL rfl S rfl) fun a S => m_q rfl S (fun w H => ZAI rfl underlying71 Fsiz70 S H rfl rfl (by omega)) fun a S => ?_
   refine m_q rfl S (fun w H => ZAq rfl Ffo70_7 S rfl) fun a S => ZA3 _ rfl rfl (wn rfl) rfl rfl S rfl ZAN rfl (by omega) rfl fun a S => ?_
   refine m_q rfl S (fun w H => ZA1 rfl S rfl) fun a S => m_q rfl S (fun w H => ZA1 rfl S rfl) fun a S => ZBY (fun w H => ZAK ?_)
   refine ZAA ?_
   exact ⟨_, _, (S.sel [0, 9, 11, 12] rfl), by first | exact fun hq => absurd hq (by decide) | exact fun _ => hrange, by first | exact fun _ => rfl | exact fun hg => absurd hg hbad, H.takeT [ChkA b h z, ZAU h, Cel b9 70 [.string R.name, .int .i64 R.x, .int .i64 R.y, .int .i64 R.from_, .int .i64 R.to_, .int .i64 R.step, R.mv, .int .i64 R.at_]] l⟩
  have h1p := h1; try simp only [DL] at h1p
  refine gsr <| q_fa S Ffo70_3 rfl fun a S => q_ld S H ZAN rfl rfl fun a S => q_bn S rfl fun a S => q_mv S rfl fun a S => ?_
  refine' ZBH 5 123 rfl S H rfl rfl rfl rfl rfl rfl rfl (fun _ S => (wn rfl)) (fun h2 kk => ?yh2) (fun a w S H => ?_)
  case yh2 =>
   exact gz 123 h2 S rfl rfl rfl rfl rfl rfl (ZAC rfl Ffo70_4 S rfl) fun a S => gz 123 h2 S rfl rfl rfl rfl rfl rfl (ZAJ rfl ZAN S H rfl rfl) fun a S => gz 123 h2 S rfl rfl rfl rfl rfl rfl (ZAC rfl Ffo70_3 S rfl) fun a S => gz 123 h2 S rfl rfl rfl rfl rfl rfl (ZAJ rfl ZAN S H rfl rfl) fun a S => gz 123 h2 S rfl rfl rfl rfl rfl rfl (ZAn rfl S rfl rfl rfl) fun a S => gq rfl S (ZAz rfl h2 S rfl rfl) fun a S => kk _ _ (S.join 6 129 rfl rfl) H
  refine q_mv S rfl fun a S => ?_
  refine' ZBH 3 130 rfl S H rfl rfl rfl rfl rfl rfl rfl (fun _ S => (wn rfl)) (fun h3 kk => ?yh3) (fun a w S H => ?_)
  case yh3 =>
   exact gz 130 h3 S rfl rfl rfl rfl rfl rfl (ZAC rfl Ffo70_4 S rfl) fun a S => gz 130 h3 S rfl rfl rfl rfl rfl rfl (ZAJ rfl ZAN S H rfl rfl) fun a S => gz 130 h3 S rfl rfl rfl rfl rfl rfl (ZAn rfl S rfl rfl rfl) fun a S => gq rfl S (ZAz rfl h3 S rfl rfl) fun a S => kk _ _ (S.join 4 134 rfl rfl) H
  refine q_mv S rfl fun a S => ?_
  refine' ZBH 3 135 rfl S H rfl rfl rfl rfl rfl rfl rfl (fun _ S => (wn rfl)) (fun h4 kk => ?yh4) (fun a w S H => ?_)
  case yh4 =>
   exact gz 135 h4 S rfl rfl rfl rfl rfl rfl (ZAC rfl Ffo70_5 S rfl) fun a S => gz 135 h4 S rfl rfl rfl rfl rfl rfl (ZAJ rfl ZAN S H rfl rfl) fun a S => gz 135 h4 S rfl rfl rfl rfl rfl rfl (ZAn rfl S rfl rfl rfl) fun a S => gq rfl S (ZAz rfl h4 S rfl rfl) fun a S => kk _ _ (S.join 4 139 rfl rfl) H
  refine q_mv S rfl fun a S => ?_
  refine' ZBH 7 140 rfl S H rfl rfl rfl rfl rfl rfl rfl (fun _ S => (wn rfl)) (fun h5 kk => ?yh5) (fun a w S H => ?_)
  case yh5 =>
   refine gz 140 h5 S rfl rfl rfl rfl rfl rfl (ZAC rfl Ffo70_1 S rfl) fun a S => gz 140 h5 S rfl rfl rfl rfl rfl rfl (ZAJ rfl ZAN S H rfl rfl) fun a S => gz 140 h5 S rfl rfl rfl rfl rfl rfl (ZAC rfl Ffo70_2 S rfl) fun a S => gz 140 h5 S rfl rfl rfl rfl rfl rfl (ZAJ rfl ZAN S H rfl rfl) fun a S => ZAF (ZAP (wg' 140 rfl rfl S rfl h5 rfl) rfl rfl rfl underlying37 Finf3 S H (idx := [0, 1]) rfl rfl rfl (z := [.int .i64 0, .int .i64 0]) (by kernel_rfl) (cs := [.int .i64 R.x, .int .i64 R.y]) rfl fun b145 a w S H => ?_)
   refine ZAF (ZAV (wg' 140 rfl rfl S rfl h5 rfl) rfl rfl S (ZAi rfl call23 S rfl) (crd_spec _ [R.x, R.y] _ (H.slb b145 [R.x, R.y] encI 1 rfl rfl (by intro x _; rfl) (by simp))) fun v w hc a S => ?_)
   obtain ⟨rfl, he⟩ := hc
   have H := H.ext he
   exact gz 140 h5 S rfl rfl rfl rfl rfl rfl (ZBV rfl S rfl) fun a S => gq rfl S (ZAz rfl h5 S rfl rfl) fun a S => kk _ _ (S.join 8 148 rfl rfl) (H.drop 1)
  refine q_as S rfl fun a S => gnt <| c_if S rfl (fun h6 => ?_) (fun h6 => ?_)
  ·have h6p := h6; try simp only [DL] at h6p
   have hbad : ¬ RowGd B k0 R := fun hg => by
     have h1 := hg.rng.f
     have h2 := hg.rng.p
     have h9 := h6p
     rw [crd2 h2] at h9
     simp at h9
     omega
   refine ZAB <| q_as S rfl fun a S => ZAj <| ZAK <| ZAA ?_
   exact ⟨_, _, (S.sel [0, 9, 11, 12] rfl), by first | exact fun hq => absurd hq (by decide) | exact fun _ => hrange, by first | exact fun _ => rfl | exact fun hg => absurd hg hbad, H.takeT [ChkA b h z, ZAU h, Cel b9 70 [.string R.name, .int .i64 R.x, .int .i64 R.y, .int .i64 R.from_, .int .i64 R.to_, .int .i64 R.step, R.mv, .int .i64 R.at_]] l⟩
  have h6p := h6; try simp only [DL] at h6p
  have hcr := crd2_of h6p.2
  refine gsr <| q_fa S Ffo70_4 rfl fun a S => q_ld S H ZAN rfl rfl fun a S => q_fa S Ffo70_3 rfl fun a S => q_ld S H ZAN rfl rfl fun a S => q_bn S rfl fun a S => q_mv S rfl fun a S => ?_
  refine' wl_and 19 155 rfl S H rfl rfl rfl rfl rfl rfl rfl (fun _ S => (wn rfl)) (fun h7 kk => ?yh7) (fun a w S H => ?_)
  case yh7 =>
   have h7p := h7; try simp only [DL] at h7p
   refine gz 155 h7 S rfl rfl rfl rfl rfl rfl (ZAC rfl Ffo70_5 S rfl) fun a S => gz 155 h7 S rfl rfl rfl rfl rfl rfl (ZAJ rfl ZAN S H rfl rfl) fun a S => gz 155 h7 S rfl rfl rfl rfl rfl rfl (ZAn rfl S rfl rfl rfl) fun a S => gz 155 h7 S rfl rfl rfl rfl rfl rfl (ZAL rfl S rfl) fun a S => ?_
   refine' ZBH 14 159 rfl S H rfl rfl rfl rfl rfl rfl rfl (fun _ S => (wg' 155 rfl rfl S rfl h7 rfl)) (fun h8 kk => ?yh8) (fun a w S H => ?_)
   case yh8 =>
    have h8p := h8; try simp only [DL] at h8p
    refine gz 159 h8 S rfl rfl rfl rfl rfl rfl (ZAC rfl Ffo70_1 S rfl) fun a S => gz 159 h8 S rfl rfl rfl rfl rfl rfl (ZAJ rfl ZAN S H rfl rfl) fun a S => gz 159 h8 S rfl rfl rfl rfl rfl rfl (ZAC rfl Ffo70_4 S rfl) fun a S => gz 159 h8 S rfl rfl rfl rfl rfl rfl (ZAJ rfl ZAN S H rfl rfl) fun a S => gz 159 h8 S rfl rfl rfl rfl rfl rfl (ZAC rfl Ffo70_3 S rfl) fun a S => gz 159 h8 S rfl rfl rfl rfl rfl rfl (ZAJ rfl ZAN S H rfl rfl) fun a S => gz 159 h8 S rfl rfl rfl rfl rfl rfl (y_sub rfl S rfl rfl (by omega)) fun a S => ?_
    refine gz 159 h8 S rfl rfl rfl rfl rfl rfl (ZAC rfl Ffo70_5 S rfl) fun a S => gz 159 h8 S rfl rfl rfl rfl rfl rfl (ZAJ rfl ZAN S H rfl rfl) fun a S => gz 159 h8 S rfl rfl rfl rfl rfl rfl ((y_mul rfl S rfl rfl (by have := mul_bd (a := R.to_ - R.from_) (b := R.step) (by omega) (by omega) (by omega) (by omega); omega))) fun a S => ?_
    refine gz 159 h8 S rfl rfl rfl rfl rfl rfl ((y_add rfl S rfl rfl (by have := mul_bd (a := R.to_ - R.from_) (b := R.step) (by omega) (by omega) (by omega) (by omega); omega))) fun a S => ?_
    refine ZAF (ZAP (wg' 159 rfl rfl S rfl h8 rfl) rfl rfl rfl underlying37 Finf3 S H (idx := [0]) rfl rfl rfl (z := [.int .i64 0]) (by kernel_rfl) (cs := [.int .i64 (R.x + (R.to_ - R.from_) * R.step)]) rfl fun b171 a w S H => ?_)
    refine ZAF (ZAV (wg' 159 rfl rfl S rfl h8 rfl) rfl rfl S (ZAi rfl call23 S rfl) (crd_spec _ [R.x + (R.to_ - R.from_) * R.step] _ (H.slb b171 [R.x + (R.to_ - R.from_) * R.step] encI 1 rfl rfl (by intro x _; rfl) (by simp))) fun v w hc a S => ?_)
    obtain ⟨rfl, he⟩ := hc
    have H := H.ext he
    exact gz 159 h8 S rfl rfl rfl rfl rfl rfl (ZBV rfl S rfl) fun a S => gz 155 h7 S rfl rfl rfl rfl rfl rfl (ZAz rfl h8 S rfl rfl) fun a S => kk _ _ (S.join 15 174 rfl rfl) (H.drop 1)
   exact gq rfl S (ZBf rfl h7 S rfl rfl) fun a S => kk _ _ (S.join 6 175 rfl rfl) H
  refine q_as S rfl fun a S => gnt <| c_if S rfl (fun h9 => ?_) (fun h9 => ?_)
  ·have h9p := h9; try simp only [DL] at h9p
   have hbad : ¬ RowGd B k0 R := fun hg => by
     have h1 := hg.rng.f
     have h2 := hg.rng.p
     have h9 := h9p
     have h3 := hg.rng.s h9.1
     have h4 := hg.rng.n
     have h5 := mul_bd (a := R.to_ - R.from_) (b := R.step) (by omega) (by omega) (by omega) (by omega)
     rw [crd1.2 ⟨by omega, h3.2⟩] at h9
     simp at h9
     omega
   refine ZAB <| q_as S rfl fun a S => ZAj <| ZAK <| ZAA ?_
   exact ⟨_, _, (S.sel [0, 9, 11, 12] rfl), by first | exact fun hq => absurd hq (by decide) | exact fun _ => hrange, by first | exact fun _ => rfl | exact fun hg => absurd hg hbad, H.takeT [ChkA b h z, ZAU h, Cel b9 70 [.string R.name, .int .i64 R.x, .int .i64 R.y, .int .i64 R.from_, .int .i64 R.to_, .int .i64 R.step, R.mv, .int .i64 R.at_]] l⟩
  have h9p := h9; try simp only [DL] at h9p
  refine gsr <| q_fa S Ffo70_4 rfl fun a S => q_ld S H ZAN rfl rfl fun a S => q_fa S Ffo70_3 rfl fun a S => q_ld S H ZAN rfl rfl fun a S => gq rfl S (y_sub rfl S rfl rfl (by omega)) fun a S => ?_
  refine q_bn S rfl fun a S => q_mv S rfl fun a S => ?_
  refine' ZBH 4 183 rfl S H rfl rfl rfl rfl rfl rfl rfl (fun _ S => (wn rfl)) (fun h10 kk => ?yh10) (fun a w S H => ?_)
  case yh10 =>
   exact gz 183 h10 S rfl rfl rfl rfl rfl rfl (ZAC rfl Ffo70_6 S rfl) fun a S => gz 183 h10 S rfl rfl rfl rfl rfl rfl (ZAJ rfl Fsca68 S H rfl rfl) fun a S => gz 183 h10 S rfl rfl rfl rfl rfl rfl (ZAT rfl underlying68 S H rfl) fun a S => gz 183 h10 S rfl rfl rfl rfl rfl rfl (ZAn rfl S rfl rfl rfl) fun a S => gq rfl S (ZAz rfl h10 S rfl rfl) fun a S => kk _ _ (S.join 5 188 rfl rfl) H
  refine q_as S rfl fun a S => gnt <| c_if S rfl (fun h11 => ?_) (fun h11 => ?_)
  ·have h11p := h11; try simp only [DL] at h11p
   have hbad : ¬ RowGd B k0 R := fun hg => by have h1 := hg.rng.n; have h2 := hg.rng.m; have := h11p; omega
   refine ZAB <| q_as S rfl fun a S => ZAj <| ZAK <| ZAA ?_
   exact ⟨_, _, (S.sel [0, 9, 11, 12] rfl), by first | exact fun hq => absurd hq (by decide) | exact fun _ => hrange, by first | exact fun _ => rfl | exact fun hg => absurd hg hbad, H.takeT [ChkA b h z, ZAU h, Cel b9 70 [.string R.name, .int .i64 R.x, .int .i64 R.y, .int .i64 R.from_, .int .i64 R.to_, .int .i64 R.step, R.mv, .int .i64 R.at_]] l⟩
  have h11p := h11; try simp only [DL] at h11p
  have hrange : RangeR R := by
    have h2 := h6p
    have h3 := h9p
    have h4 := h11p
    have h5 := crd2_of h2.2
    refine ⟨by omega, by omega, fun hgt => ?_, by omega, by omega⟩
    rcases h3 with h3 | h3
    · omega
    exact ⟨by omega, (crd1.1 h3.2).2⟩
  refine ZAG <| gsr <| q_fa S Ffo70_6 rfl fun a S => q_ld S H Fsca68 rfl rfl fun a S => gq rfl S (ZAT rfl underlying68 S H rfl) fun a S => q_mv S rfl fun a S => gnt <| ZAD ?_
  have SU := S.sel [45, 44, 14, 13, 12, 9, 0] rfl
  refine ZBL (X := Nat) SU (fun k => [(46, .int .i64 (k : Int)), (11, .int .i64 0)]) (fun k w => k ≤ R.marks.length ∧ ∃ m1 c1, HSat M u0 (MapA b41 (fun n : Int => Value.int .i64 n) (fun b : Bool => Value.bool b) (m1) c1 :: Cel b13 60 [.map (some b41)] :: MapA b42 (fun n : Int => Value.int .i64 n) (fun b : Bool => Value.bool b) (fun _ => none) 0 :: Cel b9 70 [.string R.name, .int .i64 R.x, .int .i64 R.y, .int .i64 R.from_, .int .i64 R.to_, .int .i64 R.step, R.mv, .int .i64 R.at_] :: Sl R.mv 3 MarkV.enc R.marks :: ChkA b h z :: ZAU h :: l) w) (fun k => R.marks.length - k) 0 (S.sel [46, 11] rfl) (⟨Nat.zero_le _, _, _, H.takeT [MapA b41 (fun n : Int => Value.int .i64 n) (fun b : Bool => Value.bool b) (fun _ => none) 0, Cel b13 60 [.map (some b41)], MapA b42 (fun n : Int => Value.int .i64 n) (fun b : Bool => Value.bool b) (fun _ => none) 0, Cel b9 70 [.string R.name, .int .i64 R.x, .int .i64 R.y, .int .i64 R.from_, .int .i64 R.to_, .int .i64 R.step, R.mv, .int .i64 R.at_], Sl R.mv 3 MarkV.enc R.marks, ChkA b h z, ZAU h] l⟩) (fun k a w S hW => ?_)
  simp only [List.cons_append, List.nil_append] at S
  obtain ⟨hkk, m1, c1, H⟩ := hW
  refine gsr <| q_bn S rfl fun a S => gnt <| ZAG <| c_if S rfl (fun h12 => ?_) (fun h12 => ?_)
  ·have h12p := h12; try simp only [DL] at h12p
   have hkm : k < R.marks.length := by omega
   refine ZAM <| ZAA <| ZAG <| ZAD <| gsr <| gq rfl S (ZAI rfl underlying68 Fsiz128 S H rfl rfl (by omega)) fun a S => ?_
   refine gq rfl S (ZAk _ rfl S H rfl (by exact Fagg128) (by omega)) fun a S => ?_
   refine q_al S H rfl Fzer128 fun b16 a w S H => ZAF (ZAQ (wn rfl) rfl rfl S H rfl rfl rfl Fsiz128 rfl (cs' := [_, _, _]) rfl fun a w S H => gnt ?_)
   refine ZAG <| gsr <| q_fa S Ffo128_0 rfl fun a S => q_ld S H ZAN rfl rfl fun a S => q_bn S rfl fun a S => q_mv S rfl fun a S => ?_
   refine' ZBH 3 53 rfl S H rfl rfl rfl rfl rfl rfl rfl (fun _ S => (wn rfl)) (fun h13 kk => ?yh13) (fun a w S H => ?_)
   case yh13 =>
    exact gz 53 h13 S rfl rfl rfl rfl rfl rfl (ZAC rfl Ffo128_0 S rfl) fun a S => gz 53 h13 S rfl rfl rfl rfl rfl rfl (ZAJ rfl ZAN S H rfl rfl) fun a S => gz 53 h13 S rfl rfl rfl rfl rfl rfl (ZAn rfl S rfl rfl rfl) fun a S => gq rfl S (ZAz rfl h13 S rfl rfl) fun a S => kk _ _ (S.join 4 57 rfl rfl) H
   refine gnt <| c_if S rfl (fun h14 => ?_) (fun h14 => ?_)
   ·have h14p := h14; try simp only [DL] at h14p
    have hbad : ¬ RowGd B k0 R := fun hg => by have h1 := hg.nom; rw [h1] at hkm; simp at hkm
    refine gsr <| q_as S rfl fun a S => gnt <| ZAf <| ZAO (x_ne rfl (ZAO (ZAO (x_ne rfl (ZAO (x_eq ?_))))))
    refine ZAA ?_
    exact ⟨_, _, (S.sel [0, 9, 11, 12] rfl), by first | exact fun hq => absurd hq (by decide) | exact fun _ => hrange, by first | exact fun _ => rfl | exact fun hg => absurd hg hbad, H.takeT [ChkA b h z, ZAU h, Cel b9 70 [.string R.name, .int .i64 R.x, .int .i64 R.y, .int .i64 R.from_, .int .i64 R.to_, .int .i64 R.step, R.mv, .int .i64 R.at_]] l⟩
   have h14p := h14; try simp only [DL] at h14p
   refine ZAM <| ZAA <| ZAB <| q_ld S H Fsca60 rfl rfl fun a S => q_fa S Ffo128_1 rfl fun a S => q_ld S H ZAN rfl rfl fun a S => q_ld S H Fsca60 rfl rfl fun a S => q_fa S Ffo128_1 rfl fun a S => ?_
   refine q_ld S H ZAN rfl rfl fun a S => gq rfl S (ZBT (R.marks[k].seat) (false) rfl underlying60 ZBR S H rfl (ZAv underlying3) (by exact rfl) (by exact rfl) rfl) fun a S => ?_
   refine q_mv S rfl fun a S => ?_
   refine' ZBH 3 65 rfl S H rfl rfl rfl rfl rfl rfl rfl (fun _ S => (wn rfl)) (fun h15 kk => ?yh15) (fun a w S H => ?_)
   case yh15 =>
    exact gz 65 h15 S rfl rfl rfl rfl rfl rfl (ZAC rfl Ffo128_0 S rfl) fun a S => gz 65 h15 S rfl rfl rfl rfl rfl rfl (ZAJ rfl ZAN S H rfl rfl) fun a S => gz 65 h15 S rfl rfl rfl rfl rfl rfl (ZAn rfl S rfl rfl rfl) fun a S => gq rfl S (ZAz rfl h15 S rfl rfl) fun a S => kk _ _ (S.join 4 69 rfl rfl) H
   refine ZAF (ZBA (R.marks[k].seat) (((m1 R.marks[k].seat).getD false || decide (R.marks[k].kind = 2))) (wn rfl) rfl rfl underlying60 S H rfl (ZAv underlying3) (by exact rfl) (by exact rfl) fun a w S H => ?_)
   refine ZAj <| ZAK <| ZAA <| ZAB <| q_ad S rfl (by omega) fun a S => ?_
   refine q_mv S rfl fun a S => ?_
   refine gnt ?_
   exact ⟨k + 1, S.sel [46, 11] rfl, S.sel [45, 44, 14, 13, 12, 9, 0] rfl, ⟨by omega, _, _, H.takeT [MapA b41 (fun n : Int => Value.int .i64 n) (fun b : Bool => Value.bool b) (upd m1 R.marks[k].seat ((m1 R.marks[k].seat).getD false || decide (R.marks[k].kind = 2))) (if (m1 R.marks[k].seat).isSome = true then c1 else c1 + 1), Cel b13 60 [.map (some b41)], MapA b42 (fun n : Int => Value.int .i64 n) (fun b : Bool => Value.bool b) (fun _ => none) 0, Cel b9 70 [.string R.name, .int .i64 R.x, .int .i64 R.y, .int .i64 R.from_, .int .i64 R.to_, .int .i64 R.step, R.mv, .int .i64 R.at_], Sl R.mv 3 MarkV.enc R.marks, ChkA b h z, ZAU h] l⟩, by omega⟩
  have h12p := h12; try simp only [DL] at h12p
  refine ZAf <| ZAO (ZAO (x_eq ?_))
  refine ZAA <| ZAG <| gsr <| q_fa S Ffo70_6 rfl fun a S => q_ld S H Fsca68 rfl rfl fun a S => gq rfl S (ZAT rfl underlying68 S H rfl) fun a S => q_mv S rfl fun a S => gnt ?_
  refine ZAD ?_
  have SU := S.sel [73, 72, 14, 13, 12, 9, 0] rfl
  refine ZBL (X := Nat) SU (fun k => [(74, .int .i64 (k : Int)), (11, .int .i64 0)]) (fun k w => k ≤ R.marks.length ∧ HSat M u0 (MapA b41 (fun n : Int => Value.int .i64 n) (fun b : Bool => Value.bool b) (m1) c1 :: Cel b13 60 [.map (some b41)] :: MapA b42 (fun n : Int => Value.int .i64 n) (fun b : Bool => Value.bool b) (fun _ => none) 0 :: Cel b9 70 [.string R.name, .int .i64 R.x, .int .i64 R.y, .int .i64 R.from_, .int .i64 R.to_, .int .i64 R.step, R.mv, .int .i64 R.at_] :: Sl R.mv 3 MarkV.enc R.marks :: ChkA b h z :: ZAU h :: l) w) (fun k => R.marks.length - k) 0 (S.sel [74, 11] rfl) (⟨Nat.zero_le _, H⟩) (fun k a w S hW => ?_)
  simp only [List.cons_append, List.nil_append] at S
  obtain ⟨hkk, H⟩ := hW
  refine gsr <| q_bn S rfl fun a S => gnt <| ZAG <| c_if S rfl (fun h16 => ?_) (fun h16 => ?_)
  ·have h16p := h16; try simp only [DL] at h16p
   have hkm : k < R.marks.length := by omega
   refine ZAM <| ZAA <| ZAG <| ZAD <| gsr <| gq rfl S (ZAI rfl underlying68 Fsiz128 S H rfl rfl (by omega)) fun a S => ?_
   refine gq rfl S (ZAk _ rfl S H rfl (by exact Fagg128) (by omega)) fun a S => ?_
   refine q_al S H rfl Fzer128 fun b18 a w S H => ZAF (ZAQ (wn rfl) rfl rfl S H rfl rfl rfl Fsiz128 rfl (cs' := [_, _, _]) rfl fun a w S H => gnt ?_)
   refine gsr <| q_fa S Ffo128_1 rfl fun a S => q_ld S H ZAN rfl rfl fun a S => q_fa S Ffo70_3 rfl fun a S => q_ld S H ZAN rfl rfl fun a S => q_bn S rfl fun a S => q_mv S rfl fun a S => ?_
   refine' ZBH 5 83 rfl S H rfl rfl rfl rfl rfl rfl rfl (fun _ S => (wn rfl)) (fun h17 kk => ?yh17) (fun a w S H => ?_)
   case yh17 =>
    exact gz 83 h17 S rfl rfl rfl rfl rfl rfl (ZAC rfl Ffo128_1 S rfl) fun a S => gz 83 h17 S rfl rfl rfl rfl rfl rfl (ZAJ rfl ZAN S H rfl rfl) fun a S => gz 83 h17 S rfl rfl rfl rfl rfl rfl (ZAC rfl Ffo70_4 S rfl) fun a S => gz 83 h17 S rfl rfl rfl rfl rfl rfl (ZAJ rfl ZAN S H rfl rfl) fun a S => gz 83 h17 S rfl rfl rfl rfl rfl rfl (ZAn rfl S rfl rfl rfl) fun a S => gq rfl S (ZAz rfl h17 S rfl rfl) fun a S => kk _ _ (S.join 6 89 rfl rfl) H
   refine gnt <| c_if S rfl (fun h18 => ?_) (fun h18 => ?_)
   ·have h18p := h18; try simp only [DL] at h18p
    have hbad : ¬ RowGd B k0 R := fun hg => by have h1 := hg.nom; rw [h1] at hkm; simp at hkm
    refine gsr <| q_as S rfl fun a S => gnt <| ZAf <| x_ne rfl (ZAO (ZAO (x_ne rfl (ZAO (x_eq ?_)))))
    refine ZAA ?_
    exact ⟨_, _, (S.sel [0, 9, 11, 12] rfl), by first | exact fun hq => absurd hq (by decide) | exact fun _ => hrange, by first | exact fun _ => rfl | exact fun hg => absurd hg hbad, H.takeT [ChkA b h z, ZAU h, Cel b9 70 [.string R.name, .int .i64 R.x, .int .i64 R.y, .int .i64 R.from_, .int .i64 R.to_, .int .i64 R.step, R.mv, .int .i64 R.at_]] l⟩
   have h18p := h18; try simp only [DL] at h18p
   refine ZAM <| ZAK <| ZAA <| ZAB <| q_ad S rfl (by omega) fun a S => ?_
   refine q_mv S rfl fun a S => ?_
   refine gnt ?_
   exact ⟨k + 1, S.sel [74, 11] rfl, S.sel [73, 72, 14, 13, 12, 9, 0] rfl, ⟨by omega, H.takeT [MapA b41 (fun n : Int => Value.int .i64 n) (fun b : Bool => Value.bool b) (m1) c1, Cel b13 60 [.map (some b41)], MapA b42 (fun n : Int => Value.int .i64 n) (fun b : Bool => Value.bool b) (fun _ => none) 0, Cel b9 70 [.string R.name, .int .i64 R.x, .int .i64 R.y, .int .i64 R.from_, .int .i64 R.to_, .int .i64 R.step, R.mv, .int .i64 R.at_], Sl R.mv 3 MarkV.enc R.marks, ChkA b h z, ZAU h] l⟩, by omega⟩
  have h16p := h16; try simp only [DL] at h16p
  refine ZAf <| ZAO (ZAO (x_eq ?_))
  refine ZAA <| ZAG <| gsr <| q_fa S Ffo70_6 rfl fun a S => q_ld S H Fsca68 rfl rfl fun a S => gq rfl S (ZAT rfl underlying68 S H rfl) fun a S => q_mv S rfl fun a S => gnt ?_
  refine ZAD ?_
  have SU := S.sel [93, 92, 14, 13, 12, 9, 0] rfl
  refine ZBL (X := Nat) SU (fun k => [(94, .int .i64 (k : Int)), (11, .int .i64 0)]) (fun k w => k ≤ R.marks.length ∧ ∃ m2 c2, HSat M u0 (MapA b41 (fun n : Int => Value.int .i64 n) (fun b : Bool => Value.bool b) (m1) c1 :: Cel b13 60 [.map (some b41)] :: MapA b42 (fun n : Int => Value.int .i64 n) (fun b : Bool => Value.bool b) (m2) c2 :: Cel b9 70 [.string R.name, .int .i64 R.x, .int .i64 R.y, .int .i64 R.from_, .int .i64 R.to_, .int .i64 R.step, R.mv, .int .i64 R.at_] :: Sl R.mv 3 MarkV.enc R.marks :: ChkA b h z :: ZAU h :: l) w) (fun k => R.marks.length - k) 0 (S.sel [94, 11] rfl) (⟨Nat.zero_le _, _, _, H⟩) (fun k a w S hW => ?_)
  simp only [List.cons_append, List.nil_append] at S
  obtain ⟨hkk, m2, c2, H⟩ := hW
  refine gsr <| q_bn S rfl fun a S => gnt <| ZAG <| c_if S rfl (fun h19 => ?_) (fun h19 => ?_)
  ·have h19p := h19; try simp only [DL] at h19p
   have hkm : k < R.marks.length := by omega
   refine ZAM <| ZAA <| ZAG <| ZAD <| gsr <| gq rfl S (ZAI rfl underlying68 Fsiz128 S H rfl rfl (by omega)) fun a S => ?_
   refine gq rfl S (ZAk _ rfl S H rfl (by exact Fagg128) (by omega)) fun a S => ?_
   refine q_al S H rfl Fzer128 fun b20 a w S H => ZAF (ZAQ (wn rfl) rfl rfl S H rfl rfl rfl Fsiz128 rfl (cs' := [_, _, _]) rfl fun a w S H => gnt ?_)
   refine ZAG <| gsr <| q_mv S rfl fun a S => q_fa S Ffo128_1 rfl fun a S => q_ld S H ZAN rfl rfl fun a S => gq rfl S (ZBT (R.marks[k].seat) (false) rfl underlying60 ZBR S H rfl (ZAv underlying3) (by exact rfl) (by exact rfl) rfl) fun a S => ?_
   refine gnt <| c_if S rfl (fun h20 => ?_) (fun h20 => ?_)
   ·have h20p := h20; try simp only [DL] at h20p
    have hbad : ¬ RowGd B k0 R := fun hg => by have h1 := hg.nom; rw [h1] at hkm; simp at hkm
    refine gsr <| q_as S rfl fun a S => gnt <| ZAf <| ZAO (x_ne rfl (ZAO (ZAO (x_ne rfl (ZAO (x_eq ?_))))))
    refine ZAA ?_
    exact ⟨_, _, (S.sel [0, 9, 11, 12] rfl), by first | exact fun hq => absurd hq (by decide) | exact fun _ => hrange, by first | exact fun _ => rfl | exact fun hg => absurd hg hbad, H.takeT [ChkA b h z, ZAU h, Cel b9 70 [.string R.name, .int .i64 R.x, .int .i64 R.y, .int .i64 R.from_, .int .i64 R.to_, .int .i64 R.step, R.mv, .int .i64 R.at_]] l⟩
   have h20p := h20; try simp only [DL] at h20p
   refine ZAM <| ZAA <| ZAB <| q_mv S rfl fun a S => q_fa S Ffo128_1 rfl fun a S => q_ld S H ZAN rfl rfl fun a S => ZAF (ZBA (R.marks[k].seat) (true) (wn rfl) rfl rfl underlying60 S H rfl (ZAv underlying3) (by exact rfl) (by exact rfl) fun a w S H => ?_)
   refine ZAj <| ZAK <| ZAA <| ZAB <| q_ad S rfl (by omega) fun a S => ?_
   refine q_mv S rfl fun a S => ?_
   refine gnt ?_
   exact ⟨k + 1, S.sel [94, 11] rfl, S.sel [93, 92, 14, 13, 12, 9, 0] rfl, ⟨by omega, _, _, H.takeT [MapA b41 (fun n : Int => Value.int .i64 n) (fun b : Bool => Value.bool b) (m1) c1, Cel b13 60 [.map (some b41)], MapA b42 (fun n : Int => Value.int .i64 n) (fun b : Bool => Value.bool b) (upd m2 R.marks[k].seat true) (if (m2 R.marks[k].seat).isSome = true then c2 else c2 + 1), Cel b9 70 [.string R.name, .int .i64 R.x, .int .i64 R.y, .int .i64 R.from_, .int .i64 R.to_, .int .i64 R.step, R.mv, .int .i64 R.at_], Sl R.mv 3 MarkV.enc R.marks, ChkA b h z, ZAU h] l⟩, by omega⟩
  refine ZAf <| ZAO (ZAO (x_eq ?_))
  refine ZAA <| gsr <| q_fa S Ffo70_6 rfl fun a S => q_ld S H Fsca68 rfl rfl fun a S => gq rfl S (ZAd rfl S rfl rfl) fun a S => q_cl S rfl call52 (contMk_spec R.mv R.marks 53 [.pointer (some ⟨b13, 0, none⟩)] call53 (fun x => decide (x.kind = 4) && !(m1 x.with_).getD false) _ (H.sl R.mv) (fun x hx w hw => mkW_spec x b13 b41 m1 c1 w ((H.ext hw).rd b13) ((H.ext hw).mp b41))) fun v w hc a S => ?_
  obtain ⟨rfl, he⟩ := hc
  have H := H.ext he
  refine gnt <| c_if S rfl (fun h21 => ?_) (fun h21 => ?_)
  ·have h21p := h21; try simp only [DL] at h21p
   have hbad : ¬ RowGd B k0 R := fun hg => by have h1 := hg.nom; have h9 := h21; rw [h1] at h9; simp at h9
   refine ZAB <| q_as S rfl fun a S => ZAj <| ZAK <| ZAA ?_
   exact ⟨_, _, (S.sel [0, 9, 11, 12] rfl), by first | exact fun hq => absurd hq (by decide) | exact fun _ => hrange, by first | exact fun _ => rfl | exact fun hg => absurd hg hbad, H.takeT [ChkA b h z, ZAU h, Cel b9 70 [.string R.name, .int .i64 R.x, .int .i64 R.y, .int .i64 R.from_, .int .i64 R.to_, .int .i64 R.step, R.mv, .int .i64 R.at_]] l⟩
  refine ZAM <| ZAK <| ZAA ?_
  exact ⟨_, _, (S.sel [0, 9, 11, 12] rfl), by first | exact fun hq => absurd hq (by decide) | exact fun _ => hrange, by first | exact fun _ => rfl | exact fun hg => absurd hg hbad, H.takeT [ChkA b h z, ZAU h, Cel b9 70 [.string R.name, .int .i64 R.x, .int .i64 R.y, .int .i64 R.from_, .int .i64 R.to_, .int .i64 R.step, R.mv, .int .i64 R.at_]] l⟩
 rintro a w ⟨e, o, S, hE1, hE2, H⟩
 refine gsr <| q_mv S rfl fun a S => q_bn S rfl fun a S => gnt <| c_if S rfl (fun h22 => ?_) (fun h22 => ?_)
 ·have h22p := h22; try simp only [DL] at h22p
  refine ZAB <| q_mv S rfl fun a S => q_mv S rfl fun a S => q_fa S Ffo70_7 rfl fun a S => q_ld S H ZAN rfl rfl fun a S => q_mv S rfl fun a S => q_cl S rfl call24 (ZBd b h z e R.at_ o _ (H.front (ChkA b h z)) (by omega)) fun v w hc a S => ?_
  obtain ⟨z2, hz2, H⟩ := hc
  refine ZAj ?_
  refine n_scope ?_
  refine ZB1 rfl S ?_
  exact ⟨z2, false, by rw [hz2]; rfl, fun hq => absurd hq (by simp), fun hg => absurd (hE2 hg) h22p, H.takeT [ChkA b h z2, ZAU h] l⟩
 have h22p := h22; try simp only [DL] at h22p
 refine ZAM ?_
 refine n_scope ?_
 refine ZB1 rfl S ?_
 exact ⟨z, true, rfl, fun _ => hE1 h22p, fun _ => rfl, H.takeT [ChkA b h z, ZAU h] l⟩
section
structure BlkR (L : LevV) (i : Nat) (B : BlockV) : Prop where
  ok : BlkOK L i B
  rows : ∀ r ∈ B.rows, RangeR r
structure Lv1 (h : HallV) (n : Nat) (L : LevV) : Prop where
  ok : LevOK h n L
  blocks : ∀ i (hi : i < L.blocks.length), BlkR L i L.blocks[i]
  areas : ∀ i (hi : i < L.areas.length), ArOK L i L.areas[i]
structure LvG (h : HallV) (n : Nat) (L : LevV) : Prop where
  ok : LevOK h n L
  blocks : ∀ i (hi : i < L.blocks.length), BlkOK L i L.blocks[i] ∧ ∀ k (hk : k < L.blocks[i].rows.length), RowGd L.blocks[i] k L.blocks[i].rows[k]
  areas : ∀ i (hi : i < L.areas.length), ArOK L i L.areas[i]
def Good1 (h : HallV) : Prop := ∀ n (hn : n < h.levels.length), LvG h n h.levels[n]
def Range1 (h : HallV) : Prop := ∀ n (hn : n < h.levels.length), Lv1 h n h.levels[n]
theorem sum_take {α : Type} (f : α → Nat) {l : List α} {k : Nat} (h : k < l.length) : ((l.take (k + 1)).map f).sum = ((l.take k).map f).sum + f l[k] := by
  rw [List.take_succ_eq_append_getElem h, List.map_append, List.sum_append]; simp
theorem sum_le {α : Type} (f : α → Nat) (l : List α) (k : Nat) : ((l.take k).map f).sum ≤ (l.map f).sum := by
  conv => rhs; rw [← List.take_append_drop k l]
  rw [List.map_append, List.sum_append]; omega
structure Done (h : HallV) (k : Nat) (z : CkZ) : Prop where
  all : z.2.length = 0 → ∀ n (hn : n < h.levels.length), n < k → Lv1 h n h.levels[n]
  gd : Good1 h → z.2.length = 0
  cnt : z.2.length ≤ ((h.levels.take k).map levW).sum
structure DoneB (h : HallV) (k : Nat) (L : LevV) (i : Nat) (z : CkZ) : Prop where
  all : z.2.length = 0 → (∀ n (hn : n < h.levels.length), n < k → Lv1 h n h.levels[n]) ∧ LevOK h k L ∧ ∀ q (hq : q < L.blocks.length), q < i → BlkR L q L.blocks[q]
  gd : Good1 h → z.2.length = 0
  cnt : z.2.length ≤ ((h.levels.take k).map levW).sum + 1 + ((L.blocks.take i).map blkW).sum
structure DoneR (h : HallV) (k : Nat) (L : LevV) (i : Nat) (B : BlockV) (m : Nat) (z : CkZ) : Prop where
  all : z.2.length = 0 → (∀ n (hn : n < h.levels.length), n < k → Lv1 h n h.levels[n]) ∧ LevOK h k L ∧ (∀ q (hq : q < L.blocks.length), q < i → BlkR L q L.blocks[q]) ∧ BlkOK L i B ∧ ∀ q (hq : q < B.rows.length), q < m → RangeR B.rows[q]
  gd : Good1 h → z.2.length = 0
  cnt : z.2.length ≤ ((h.levels.take k).map levW).sum + 1 + ((L.blocks.take i).map blkW).sum + 1 + m
structure DoneA (h : HallV) (k : Nat) (L : LevV) (i : Nat) (z : CkZ) : Prop where
  all : z.2.length = 0 → (∀ n (hn : n < h.levels.length), n < k → Lv1 h n h.levels[n]) ∧ LevOK h k L ∧ (∀ q (hq : q < L.blocks.length), BlkR L q L.blocks[q]) ∧ ∀ q (hq : q < L.areas.length), q < i → ArOK L q L.areas[q]
  gd : Good1 h → z.2.length = 0
  cnt : z.2.length ≤ ((h.levels.take k).map levW).sum + 1 + (L.blocks.map blkW).sum + i
section
variable {h : HallV} {k i m : Nat} {L : LevV} {B : BlockV} {z z2 : CkZ} {q : Bool}
theorem Done.level (D : Done h k z) (hk : k < h.levels.length) (hz : z2.2.length = z.2.length + (if q = true then 0 else 1)) (hq : q = true ↔ LevOK h k h.levels[k]) : DoneB h k h.levels[k] 0 z2 := by
  refine ⟨fun h0 => ?_, fun g => ?_, ?_⟩
  · cases q with
    | false => simp at hz; omega
    | true => simp at hz; exact ⟨D.all (by omega), hq.1 rfl, fun q hq h => by omega⟩
  · rw [hz, D.gd g, if_pos (hq.2 (g k hk).ok)]
  have := D.cnt; rw [hz]; split <;> omega
theorem DoneB.block (D : DoneB h k L i z) (hk : k < h.levels.length) (hL : h.levels[k] = L) (hi : i < L.blocks.length) (hz : z2.2.length = z.2.length + (if q = true then 0 else 1)) (hq : q = true ↔ BlkOK L i L.blocks[i]) : DoneR h k L i L.blocks[i] 0 z2 := by
  refine ⟨fun h0 => ?_, fun g => ?_, ?_⟩
  · cases q with
    | false => simp at hz; omega
    | true =>
      simp at hz
      obtain ⟨a, b, c⟩ := D.all (by omega)
      exact ⟨a, b, c, hq.1 rfl, fun q hq h => by omega⟩
  · have g2 := (g k hk).blocks i (by rw [hL]; exact hi)
    have g3 : BlkOK L i L.blocks[i] := by subst hL; exact g2.1
    rw [hz, D.gd g, if_pos (hq.2 g3)]
  have := D.cnt; rw [hz]; split <;> omega
theorem DoneR.row (hi : i < L.blocks.length) (D : DoneR h k L i L.blocks[i] m z) (hk : k < h.levels.length) (hL : h.levels[k] = L) (hm : m < L.blocks[i].rows.length) (hz : z2.2.length = z.2.length + (if q = true then 0 else 1)) (h1 : q = true → RangeR L.blocks[i].rows[m]) (h2 : RowGd L.blocks[i] m L.blocks[i].rows[m] → q = true) : DoneR h k L i L.blocks[i] (m + 1) z2 := by
  refine ⟨fun h0 => ?_, fun g => ?_, ?_⟩
  · cases q with
    | false => simp at hz; omega
    | true =>
      simp at hz
      obtain ⟨a, b, c, d, e⟩ := D.all (by omega)
      exact ⟨a, b, c, d, fun q hq h => by by_cases hqm : q < m; exact e q hq hqm; (obtain rfl : q = m := by omega); exact h1 rfl⟩
  · have g2 := ((g k hk).blocks i (by rw [hL]; exact hi)).2 m (by subst hL; exact hm)
    have g3 : RowGd L.blocks[i] m L.blocks[i].rows[m] := by subst hL; exact g2
    rw [hz, D.gd g, if_pos (h2 g3)]
  have := D.cnt; rw [hz]; split <;> omega
theorem DoneR.done (hi : i < L.blocks.length) (D : DoneR h k L i L.blocks[i] m z) (hm : L.blocks[i].rows.length ≤ m) (hm2 : m ≤ L.blocks[i].rows.length) : DoneB h k L (i + 1) z := by
  refine ⟨fun h0 => ?_, D.gd, ?_⟩
  · obtain ⟨a, b, c, d, e⟩ := D.all h0
    refine ⟨a, b, fun q hq h => ?_⟩
    by_cases hqi : q < i
    · exact c q hq hqi
    obtain rfl : q = i := by omega
    exact ⟨d, fun r hr => by obtain ⟨p, hp, rfl⟩ := List.getElem_of_mem hr; exact e p hp (by omega)⟩
  have := D.cnt; (have hw : blkW L.blocks[i] = 1 + L.blocks[i].rows.length := rfl); rw [sum_take blkW hi]; omega
theorem DoneB.areas (D : DoneB h k L i z) (hi : L.blocks.length ≤ i) : DoneA h k L 0 z := by
  refine ⟨fun h0 => ?_, D.gd, ?_⟩
  · obtain ⟨a, b, c⟩ := D.all h0
    exact ⟨a, b, fun q hq => c q hq (by omega), fun q hq h => by omega⟩
  have := D.cnt; rw [List.take_of_length_le hi] at this; omega
theorem DoneA.area (D : DoneA h k L i z) (hk : k < h.levels.length) (hL : h.levels[k] = L) (hi : i < L.areas.length) (hz : z2.2.length = z.2.length + (if q = true then 0 else 1)) (hq : q = true ↔ ArOK L i L.areas[i]) : DoneA h k L (i + 1) z2 := by
  refine ⟨fun h0 => ?_, fun g => ?_, ?_⟩
  · cases q with
    | false => simp at hz; omega
    | true =>
      simp at hz
      obtain ⟨a, b, c, d⟩ := D.all (by omega)
      exact ⟨a, b, c, fun p hp h => by by_cases hpi : p < i; exact d p hp hpi; (obtain rfl : p = i := by omega); exact hq.1 rfl⟩
  · have g2 := (g k hk).areas i (by rw [hL]; exact hi)
    have g3 : ArOK L i L.areas[i] := by subst hL; exact g2
    rw [hz, D.gd g, if_pos (hq.2 g3)]
  have := D.cnt; rw [hz]; split <;> omega
theorem DoneA.done (D : DoneA h k L i z) (hk : k < h.levels.length) (hL : h.levels[k] = L) (hi : L.areas.length ≤ i) (hi2 : i ≤ L.areas.length) : Done h (k + 1) z := by
  refine ⟨fun h0 => ?_, D.gd, ?_⟩
  · obtain ⟨a, b, c, d⟩ := D.all h0
    intro n hn h
    by_cases hnk : n < k
    · exact a n hn hnk
    obtain rfl : n = k := by omega
    rw [hL]; exact ⟨b, c, fun q hq => d q hq (by omega)⟩
  have := D.cnt; (have hw : levW L = 1 + (L.blocks.map blkW).sum + L.areas.length := rfl); rw [sum_take levW hk, hL]; omega
end
set_option maxHeartbeats 8000000 in
theorem walk_spec {M : Nat → Prop} {u0 : World} {l : List Atom} (b : Nat) (h : HallV) (z : CkZ) (w0 : World) (hB : HallB h) (hz : z.2.length = 0) (h0 : HSat M u0 (ChkA b h z :: ZAU h :: l) w0) :
    Ret Tryz.prog 16 #[.pointer (some ⟨b, 0, none⟩), .func (.func 17) #[.pointer (some ⟨b, 0, none⟩)] #[], .func (.func 18) #[.pointer (some ⟨b, 0, none⟩)] #[], .func (.func 19) #[.pointer (some ⟨b, 0, none⟩)] #[], .func (.func 20) #[.pointer (some ⟨b, 0, none⟩)] #[]] w0 (fun u w => ∃ z2 : CkZ, (z2.2.length = 0 → Range1 h) ∧ (Good1 h → z2.2.length = 0) ∧ z2.2.length ≤ 1048576 ∧ HSat M u0 (ChkA b h z2 :: ZAU h :: l) w) := by
 refine ZAE (nt := 67) Tryz.func16 rfl rfl rfl (fl := [(0, .pointer (some ⟨b, 0, none⟩)), (1, .func (.func 17) #[.pointer (some ⟨b, 0, none⟩)] #[]), (2, .func (.func 18) #[.pointer (some ⟨b, 0, none⟩)] #[]), (3, .func (.func 19) #[.pointer (some ⟨b, 0, none⟩)] #[]), (4, .func (.func 20) #[.pointer (some ⟨b, 0, none⟩)] #[])]) rfl (fun a S => ?_)
 have H := h0
 have hOK := H.ok (ZAU h) (by simp)
 have H := ZBP (ls := ZBI h) H (Sl h.lv 8 LevV.enc h.levels) mem_levels rfl
 have hl5 := (ZBE hOK).len
 have hall := hB.all
 refine gsr <| q_mv S rfl fun a S => gq rfl S (ZAR rfl S rfl) fun a S => q_fa S Ffo83_0 rfl fun a S => q_fa S ZBi rfl fun a S => q_ld S H Fsca24 rfl rfl fun a S => gq rfl S (ZAT rfl underlying24 S H rfl) fun a S => q_mv S rfl fun a S => ?_
 refine gnt ?_
 have S := S.sel [22, 21, 20, 1, 2, 3, 4] rfl
 refine ZAD ?_
 have SU := S.sel [21, 20, 1, 2, 3, 4] rfl
 refine ZBL (X := Nat × CkZ) SU (fun x => [(22, .int .i64 (x.1 : Int))]) (fun x w => x.1 ≤ h.levels.length ∧ Done h x.1 x.2 ∧ HSat M u0 (ChkA b h x.2 :: Sl h.lv 8 LevV.enc h.levels :: ZAU h :: l) w) (fun x => h.levels.length - x.1) (0, z) (S.sel [22] rfl) (⟨Nat.zero_le _, ⟨fun _ n hn hlt => absurd hlt (Nat.not_lt_zero _), fun _ => hz, by rw [hz]; exact Nat.zero_le _⟩, H.takeT [ChkA b h z, Sl h.lv 8 LevV.enc h.levels, ZAU h] l⟩) (fun x a w S hW => ?_)
 simp only [List.cons_append, List.nil_append] at S
 obtain ⟨k, z⟩ := x
 obtain ⟨hkk, D, H⟩ := hW
 dsimp only at S H hkk D
 refine gsr <| q_bn S rfl fun a S => gnt <| ZAG <| c_if S rfl (fun h1 => ?_) (fun h1 => ?_)
 ·have h1p := h1; try simp only [DL] at h1p
  have hkl : k < h.levels.length := by omega
  obtain ⟨L, hL⟩ : ∃ L, L = h.levels[k] := ⟨_, rfl⟩
  have hLn : h.levels[k] = L := hL.symm
  have hLm : L ∈ h.levels := hL ▸ List.getElem_mem hkl
  have hLa := hall_lev hOK hLm
  have hLall := lev_all hLa
  have hlL0 := (lev_blocks hLa).len
  have hlL1 := (lev_areas hLa).len
  have hbb := hB.blocks L hLm
  have hbL : (h.levels[k]).aisles.length ≤ 1048576 ∧ (h.levels[k]).pillars.length ≤ 1048576 ∧ (h.levels[k]).blocks.length ≤ 1048576 ∧ (h.levels[k]).areas.length ≤ 1048576 := by rw [hLn]; omega
  have hs1 := sum_take levW hkl
  rw [hLn] at hs1
  have hs2 := sum_le levW h.levels (k + 1)
  have hs3 : levW L = 1 + (L.blocks.map blkW).sum + L.areas.length := rfl
  have hct := D.cnt
  have H := ZBP (ls := ZBI h) H (Sl L.bv 3 BlockV.enc L.blocks) (ZAs hLm (by simp [levA])) rfl
  have H := ZBP (ls := ZBI h) H (Sl L.av 7 AreaV.enc L.areas) (ZAs hLm (by simp [levA])) rfl
  refine ZAM <| ZAA <| ZAG <| ZAD <| gsr <| q_mv S rfl fun a S => gq rfl S (ZAI rfl underlying24 Fsiz79 S H rfl rfl (by omega)) fun a S => ?_
  refine gq rfl S (ZAk _ rfl S H rfl (by exact Fagg79) (by omega)) fun a S => ?_
  rw [hLn] at S
  refine q_al S H rfl Fzer79 fun b11 a w S H => q_as S rfl fun a S => ZAF (ZAQ (wn rfl) rfl rfl S H rfl rfl hLall Fsiz79 rfl (cs' := [_, _, _, _, _, _, _, _]) rfl fun a w S H => gnt ?_)
  have S := S.sel [10, 11, 22, 21, 20, 1, 2, 3, 4] rfl
  refine gsr <| q_mv S rfl fun a S => q_mv S rfl fun a S => ZAF (ZAV (wn rfl) rfl rfl S (ZAp rfl call17 S rfl rfl) (level_spec b h z k _ hkl hbL (H.front2 (ChkA b h z) (ZAU h)) (by omega)) fun v w hc a S => ?_)
  obtain ⟨z2, q, hz2, hq, H⟩ := hc
  have D2 := D.level hkl hz2 hq
  rw [hLn] at D2
  refine gnt <| ZAG <| gsr <| q_fa S Ffo79_2 rfl fun a S => q_ld S H Fsca74 rfl rfl fun a S => gq rfl S (ZAT rfl underlying74 S H rfl) fun a S => q_mv S rfl fun a S => gnt ?_
  have S := S.sel [33, 32, 31, 10, 11, 22, 21, 20, 1, 2, 3, 4] rfl
  refine ZAD ?_
  have SU := S.sel [32, 31, 10, 11, 22, 21, 20, 1, 2, 3, 4] rfl
  refine ZBL (X := Nat × CkZ) SU (fun x => [(33, .int .i64 (x.1 : Int))]) (fun x w => x.1 ≤ L.blocks.length ∧ DoneB h k L x.1 x.2 ∧ HSat M u0 (ChkA b h x.2 :: Cel b11 79 [.string L.name, .int .i64 L.height, L.bv, L.av, L.iv, L.pv, L.dv, .int .i64 L.at_] :: Sl L.bv 3 BlockV.enc L.blocks :: Sl L.av 7 AreaV.enc L.areas :: Sl h.lv 8 LevV.enc h.levels :: ZAU h :: l) w) (fun x => L.blocks.length - x.1) (0, z2) (S.sel [33] rfl) (⟨Nat.zero_le _, D2, H.takeT [ChkA b h z2, Cel b11 79 [.string L.name, .int .i64 L.height, L.bv, L.av, L.iv, L.pv, L.dv, .int .i64 L.at_], Sl L.bv 3 BlockV.enc L.blocks, Sl L.av 7 AreaV.enc L.areas, Sl h.lv 8 LevV.enc h.levels, ZAU h] l⟩) (fun x a w S hW => ?_)
  simp only [List.cons_append, List.nil_append] at S
  clear D
  obtain ⟨i, z⟩ := x
  obtain ⟨hii, D, H⟩ := hW
  dsimp only at S H hii D
  refine gsr <| q_bn S rfl fun a S => gnt <| ZAG <| c_if S rfl (fun h2 => ?_) (fun h2 => ?_)
  ·have h2p := h2; try simp only [DL] at h2p
   have hil : i < L.blocks.length := by omega
   obtain ⟨B, hB2⟩ : ∃ B, B = L.blocks[i] := ⟨_, rfl⟩
   have hLB : L.blocks[i] = B := hB2.symm
   have hBm : B ∈ L.blocks := hB2 ▸ List.getElem_mem hil
   have hBa := lev_block hLa hBm
   have hBall := block_all hBa
   have hlB := (block_rows hBa).len
   have hs4 := sum_take blkW hil
   rw [hLB] at hs4
   have hs5 := sum_le blkW L.blocks (i + 1)
   have hs6 : blkW B = 1 + B.rows.length := rfl
   have hct2 := D.cnt
   have H := ZBP (ls := ZBI h) H (Sl B.rv 8 RowV.enc B.rows) (ZAs hLm (ZBl hBm (List.mem_cons_self ..))) rfl
   refine ZAM <| ZAA <| ZAG <| ZAD <| gsr <| q_mv S rfl fun a S => gq rfl S (ZAI rfl underlying74 Fsiz73 S H rfl rfl (by omega)) fun a S => ?_
   refine gq rfl S (ZAk _ rfl S H rfl (by exact Fagg73) (by omega)) fun a S => ?_
   rw [hLB] at S
   refine q_al S H rfl Fzer73 fun b13 a w S H => q_as S rfl fun a S => ZAF (ZAQ (wn rfl) rfl rfl S H rfl rfl hBall Fsiz73 rfl (cs' := [_, _, _]) rfl fun a w S H => gnt ?_)
   have S := S.sel [12, 13, 33, 32, 31, 10, 11, 22, 21, 20, 1, 2, 3, 4] rfl
   refine gsr <| q_mv S rfl fun a S => q_mv S rfl fun a S => q_mv S rfl fun a S => ZAF (ZAV (wn rfl) rfl rfl S (ZAp rfl call18 S rfl rfl) (block_spec b h z k i _ hkl (by rw [hLn]; exact hil) (H.front2 (ChkA b h z) (ZAU h)) (by omega)) fun v w hc a S => ?_)
   obtain ⟨z2, q, hz2, hq, H⟩ := hc
   have D2 := D.block hkl hLn hil hz2 (by subst hL; exact hq)
   rw [hLB] at D2
   refine gnt ?_
   have S := S.sel [12, 13, 33, 32, 31, 10, 11, 22, 21, 20, 1, 2, 3, 4] rfl
   refine gsr <| q_fa S Ffo73_1 rfl fun a S => q_ld S H Fsca71 rfl rfl fun a S => gq rfl S (ZAT rfl underlying71 S H rfl) fun a S => q_mv S rfl fun a S => gnt <| ZAD ?_
   have SU := S.sel [44, 12, 33, 32, 31, 10, 11, 22, 21, 20, 1, 2, 3, 4] rfl
   refine ZBL (X := Nat × CkZ) SU (fun x => [(45, .int .i64 (x.1 : Int))]) (fun x w => x.1 ≤ B.rows.length ∧ DoneR h k L i B x.1 x.2 ∧ HSat M u0 (ChkA b h x.2 :: Cel b13 73 [.string B.name, B.rv, .int .i64 B.at_] :: Sl B.rv 8 RowV.enc B.rows :: Cel b11 79 [.string L.name, .int .i64 L.height, L.bv, L.av, L.iv, L.pv, L.dv, .int .i64 L.at_] :: Sl L.bv 3 BlockV.enc L.blocks :: Sl L.av 7 AreaV.enc L.areas :: Sl h.lv 8 LevV.enc h.levels :: ZAU h :: l) w) (fun x => B.rows.length - x.1) (0, z2) (S.sel [45] rfl) (⟨Nat.zero_le _, D2, H.takeT [ChkA b h z2, Cel b13 73 [.string B.name, B.rv, .int .i64 B.at_], Sl B.rv 8 RowV.enc B.rows, Cel b11 79 [.string L.name, .int .i64 L.height, L.bv, L.av, L.iv, L.pv, L.dv, .int .i64 L.at_], Sl L.bv 3 BlockV.enc L.blocks, Sl L.av 7 AreaV.enc L.areas, Sl h.lv 8 LevV.enc h.levels, ZAU h] l⟩) (fun x a w S hW => ?_)
   simp only [List.cons_append, List.nil_append] at S
   clear D
   obtain ⟨m, z⟩ := x
   obtain ⟨hmm, D, H⟩ := hW
   dsimp only at S H hmm D
   refine gsr <| q_bn S rfl fun a S => gnt <| ZAG <| c_if S rfl (fun h3 => ?_) (fun h3 => ?_)
   ·have h3p := h3; try simp only [DL] at h3p
    have hml : m < B.rows.length := by omega
    have hct3 := D.cnt
    refine ZAM <| ZAA <| ZAG <| ZAD <| gsr <| q_mv S rfl fun a S => q_as S rfl fun a S => gnt ?_
    refine ZAB <| q_mv S rfl fun a S => q_mv S rfl fun a S => q_mv S rfl fun a S => q_mv S rfl fun a S => ZAF (ZAV (wn rfl) rfl rfl S (ZAp rfl call19 S rfl rfl) (row_spec b h z k i m _ hkl (by rw [hLn]; exact hil) (by subst hB2; subst hL; exact hml) (H.front2 (ChkA b h z) (ZAU h)) (by omega)) fun v w hc a S => ?_)
    obtain ⟨z2, q, hz2, hq1, hq2, H⟩ := hc
    have D2 : DoneR h k L i B (m + 1) z2 := by subst hB2; subst hL; exact D.row hil hkl rfl hml hz2 hq1 hq2
    refine ZAj <| ZAK <| ZAA ?_
    have S := S.sel [45, 44, 12, 33, 32, 31, 10, 11, 22, 21, 20, 1, 2, 3, 4] rfl
    refine ZAB <| q_ad S rfl (by omega) fun a S => ?_
    refine q_mv S rfl fun a S => ?_
    refine gnt ?_
    exact ⟨(m + 1, z2), S.sel [45] rfl, S.sel [44, 12, 33, 32, 31, 10, 11, 22, 21, 20, 1, 2, 3, 4] rfl, ⟨by dsimp only; omega, D2, H.takeT [ChkA b h z2, Cel b13 73 [.string B.name, B.rv, .int .i64 B.at_], Sl B.rv 8 RowV.enc B.rows, Cel b11 79 [.string L.name, .int .i64 L.height, L.bv, L.av, L.iv, L.pv, L.dv, .int .i64 L.at_], Sl L.bv 3 BlockV.enc L.blocks, Sl L.av 7 AreaV.enc L.areas, Sl h.lv 8 LevV.enc h.levels, ZAU h] l⟩, by dsimp only; omega⟩
   have h3p := h3; try simp only [DL] at h3p
   refine ZAf <| ZAO (ZAO (x_eq ?_))
   refine ZAK <| ZAA ?_
   have S := S.sel [33, 32, 31, 10, 11, 22, 21, 20, 1, 2, 3, 4] rfl
   refine ZAB <| q_ad S rfl (by omega) fun a S => ?_
   refine q_mv S rfl fun a S => ?_
   refine gnt ?_
   exact ⟨(i + 1, z), S.sel [33] rfl, S.sel [32, 31, 10, 11, 22, 21, 20, 1, 2, 3, 4] rfl, ⟨by dsimp only; omega, by dsimp only; rw [← hLB] at D; exact D.done hil (by rw [hLB]; omega) (by rw [hLB]; omega), H.takeT [ChkA b h z, Cel b11 79 [.string L.name, .int .i64 L.height, L.bv, L.av, L.iv, L.pv, L.dv, .int .i64 L.at_], Sl L.bv 3 BlockV.enc L.blocks, Sl L.av 7 AreaV.enc L.areas, Sl h.lv 8 LevV.enc h.levels, ZAU h] l⟩, by dsimp only; omega⟩
  have h2p := h2; try simp only [DL] at h2p
  refine ZAf <| ZAO (ZAO (x_eq ?_))
  refine ZAA ?_
  have S := S.sel [10, 11, 22, 21, 20, 1, 2, 3, 4] rfl
  refine gsr <| q_fa S Ffo79_3 rfl fun a S => q_ld S H Fsca75 rfl rfl fun a S => gq rfl S (ZAT rfl underlying75 S H rfl) fun a S => q_mv S rfl fun a S => gnt <| ZAD ?_
  have SU := S.sel [57, 10, 22, 21, 20, 1, 2, 3, 4] rfl
  refine ZBL (X := Nat × CkZ) SU (fun x => [(58, .int .i64 (x.1 : Int))]) (fun x w => x.1 ≤ L.areas.length ∧ DoneA h k L x.1 x.2 ∧ HSat M u0 (ChkA b h x.2 :: Cel b11 79 [.string L.name, .int .i64 L.height, L.bv, L.av, L.iv, L.pv, L.dv, .int .i64 L.at_] :: Sl L.bv 3 BlockV.enc L.blocks :: Sl L.av 7 AreaV.enc L.areas :: Sl h.lv 8 LevV.enc h.levels :: ZAU h :: l) w) (fun x => L.areas.length - x.1) (0, z) (S.sel [58] rfl) (⟨Nat.zero_le _, D.areas (by omega), H.takeT [ChkA b h z, Cel b11 79 [.string L.name, .int .i64 L.height, L.bv, L.av, L.iv, L.pv, L.dv, .int .i64 L.at_], Sl L.bv 3 BlockV.enc L.blocks, Sl L.av 7 AreaV.enc L.areas, Sl h.lv 8 LevV.enc h.levels, ZAU h] l⟩) (fun x a w S hW => ?_)
  simp only [List.cons_append, List.nil_append] at S
  clear D
  obtain ⟨i, z⟩ := x
  obtain ⟨hii, D, H⟩ := hW
  dsimp only at S H hii D
  refine gsr <| q_bn S rfl fun a S => gnt <| ZAG <| c_if S rfl (fun h4 => ?_) (fun h4 => ?_)
  ·have h4p := h4; try simp only [DL] at h4p
   have hil : i < L.areas.length := by omega
   have hct2 := D.cnt
   refine ZAM <| ZAA <| ZAG <| ZAD <| gsr <| q_mv S rfl fun a S => q_as S rfl fun a S => gnt ?_
   refine ZAB <| q_mv S rfl fun a S => q_mv S rfl fun a S => q_mv S rfl fun a S => ZAF (ZAV (wn rfl) rfl rfl S (ZAp rfl call20 S rfl rfl) (area_spec b h z k i _ hkl (by rw [hLn]; exact hil) (H.front2 (ChkA b h z) (ZAU h)) (by omega)) fun v w hc a S => ?_)
   obtain ⟨z2, q, hz2, hq, H⟩ := hc
   have D2 := D.area hkl hLn hil hz2 (by subst hL; exact hq)
   refine ZAj <| ZAK <| ZAA ?_
   have S := S.sel [58, 57, 10, 22, 21, 20, 1, 2, 3, 4] rfl
   refine ZAB <| q_ad S rfl (by omega) fun a S => ?_
   refine q_mv S rfl fun a S => ?_
   refine gnt ?_
   exact ⟨(i + 1, z2), S.sel [58] rfl, S.sel [57, 10, 22, 21, 20, 1, 2, 3, 4] rfl, ⟨by dsimp only; omega, D2, H.takeT [ChkA b h z2, Cel b11 79 [.string L.name, .int .i64 L.height, L.bv, L.av, L.iv, L.pv, L.dv, .int .i64 L.at_], Sl L.bv 3 BlockV.enc L.blocks, Sl L.av 7 AreaV.enc L.areas, Sl h.lv 8 LevV.enc h.levels, ZAU h] l⟩, by dsimp only; omega⟩
  have h4p := h4; try simp only [DL] at h4p
  refine ZAf <| ZAO (ZAO (x_eq ?_))
  refine ZAK <| ZAA ?_
  have S := S.sel [22, 21, 20, 1, 2, 3, 4] rfl
  refine ZAB <| q_ad S rfl (by omega) fun a S => ?_
  refine q_mv S rfl fun a S => ?_
  refine gnt ?_
  exact ⟨(k + 1, z), S.sel [22] rfl, S.sel [21, 20, 1, 2, 3, 4] rfl, ⟨by dsimp only; omega, D.done hkl hLn (by omega) (by omega), H.takeT [ChkA b h z, Sl h.lv 8 LevV.enc h.levels, ZAU h] l⟩, by dsimp only; omega⟩
 have h1p := h1; try simp only [DL] at h1p
 obtain rfl : k = h.levels.length := by omega
 have hct := D.cnt
 rw [List.take_length] at hct
 refine ZAf <| ZAO (ZAO (x_eq ?_))
 refine ZB1 rfl S ?_
 exact ⟨z, fun h0 n hn => D.all h0 n hn hn, D.gd, by omega, H.takeT [ChkA b h z, ZAU h] l⟩
end
theorem run_part1 {P : Program} {w : World} {T : TypeId} {cs : List Value} {off : Nat} (h : ZAl P T = true) (hv : off < cs.length) : (part T cs.toArray off).run P w = .ok cs[off] w := by simp [part, run_isAgg_scalar h, hv]
theorem y_fieldX {P : Program} {o : Oper} {a : Act} {w : World} {n : Sz} {fl : Slots} {T : TypeId} {x : Operand} {i : Nat} {u r : Value} (ho : o.op = .field T x i) (S : St n fl a) (hx : ev fl x = some u) (h : (Instr.field T u i).run P w = .ok r w) : Yld P o a w r := by
  unfold Yld execOp; rw [ho]; simp [S.ev hx, h]
theorem mark_field0 (m : MarkV) (w : World) : (Instr.field 128 (.agg (MarkV.enc m).toArray) 0).run Tryz.prog w = .ok (.int .i64 m.kind) w := by
  unfold Instr.field
  simp [run_underlying underlying128, asAgg]
  exact run_part1 (cs := MarkV.enc m) (off := 0) ZAN (by simp [MarkV.enc])
theorem seat_mul {r : RowV} (h : RangeR r) {k : Nat} (hk : k < seatsN r) : 0 ≤ (k : Int) * r.step ∧ (k : Int) * r.step ≤ 600000 ∧ r.x + (k : Int) * r.step ≤ 10000 := by
  have h1 := h.f
  have h2 := h.n
  have h3 := h.p
  unfold seatsN at hk
  rcases Nat.eq_zero_or_pos k with rfl | hp
  · simp; omega
  have hs := h.s (by omega)
  have h4 : 0 ≤ (k : Int) * r.step := Int.mul_nonneg (by omega) (by omega)
  have h5 : (k : Int) * r.step ≤ 60 * 10000 := Int.mul_le_mul (by omega) hs.1 (by omega) (by decide)
  have h6 : (k : Int) * r.step ≤ (r.to_ - r.from_) * r.step := Int.mul_le_mul_of_nonneg_right (by omega) (by omega)
  omega
theorem HSat.mid1 {M : Nat → Prop} {w0 w : World} {x : Atom} {l1 l2 : List Atom} (H : HSat M w0 (x :: (l1 ++ l2)) w) : HSat M w0 (l1 ++ x :: l2) w := H.perm List.perm_middle.symm
theorem HSat.unmid {M : Nat → Prop} {w0 w : World} {x : Atom} {l1 l2 : List Atom} (H : HSat M w0 (l1 ++ x :: l2) w) : HSat M w0 (l1 ++ l2) w := (H.perm List.perm_middle).tail
set_option maxHeartbeats 1000000 in
theorem seats_iter {M : Nat → Prop} {u0 : World} {l : List Atom} {Z : Type} (L : Nat → Z → List Atom) (r : RowV) (hr : RangeR r) (f : FuncId) (fi cap : List Value) (he0 : Enters Tryz.prog f) (w0 : World)
    (hstep : ∀ q s x, (ZAt r)[q]? = some (s, x) → ∀ z t w, HSat M u0 (L q z ++ t) w → Ret Tryz.prog f (fi ++ [Value.int .i64 s, Value.int .i64 x] ++ cap).toArray w (fun _ w' => ∃ z, HSat M u0 (L (q + 1) z ++ t) w')) (z0 : Z) (h0 : HSat M u0 (L 0 z0 ++ Sl r.mv 3 MarkV.enc r.marks :: l) w0) :
    Ret Tryz.prog 21 #[.agg (RowV.enc r).toArray, .func (.func f) fi.toArray cap.toArray] w0 (fun _ w => ∃ z, HSat M u0 (L (ZAt r).length z ++ Sl r.mv 3 MarkV.enc r.marks :: l) w) := by
 refine ZAE (nt := 31) Tryz.func21 rfl rfl rfl (fl := [(0, .agg (RowV.enc r).toArray), (1, .func (.func f) fi.toArray cap.toArray)]) rfl (fun a S => ?_)
 have H := h0
 have hf1 := hr.f
 have hn1 := hr.n
 have hp1 := hr.p
 refine gsr <| ZAF (ZAu (wn rfl) rfl rfl rfl S H rfl fun b2 a w S H => gnt ?_)
 refine gsr <| q_fa S Ffo70_3 rfl fun a S => q_ld S H ZAN rfl rfl fun a S => q_as S rfl fun a S => gnt <| ZAD ?_
 have H : HSat M u0 (L (ZBt r 0).length z0 ++ Cel b2 70 [.string r.name, .int .i64 r.x, .int .i64 r.y, .int .i64 r.from_, .int .i64 r.to_, .int .i64 r.step, r.mv, .int .i64 r.at_] :: Sl r.mv 3 MarkV.enc r.marks :: l) _ := HSat.mid1 H
 have SU := S.sel [2, 1] rfl
 refine ZBL (X := Nat) SU (fun k => [(4, .int .i64 (r.from_ + (k : Int)))]) (fun k w => k ≤ seatsN r ∧ ∃ z, HSat M u0 (L (ZBt r k).length z ++ Cel b2 70 [.string r.name, .int .i64 r.x, .int .i64 r.y, .int .i64 r.from_, .int .i64 r.to_, .int .i64 r.step, r.mv, .int .i64 r.at_] :: Sl r.mv 3 MarkV.enc r.marks :: l) w) (fun k => seatsN r - k) 0 (S.nil.cons S 4 (by simp)) (⟨Nat.zero_le _, z0, H⟩) (fun k a w S hW => ?_)
 simp only [List.cons_append, List.nil_append] at S
 obtain ⟨hkk, z, H⟩ := hW
 refine ZAG <| gsr <| q_mv S rfl fun a S => q_fa S Ffo70_4 rfl fun a S => q_ld S H ZAN rfl rfl fun a S => q_bn S rfl fun a S => gnt <| c_if S rfl (fun h1 => ?_) (fun h1 => ?_)
 ·have h1p := h1; try simp only [DL] at h1p
  have hkN : k < seatsN r := by have := h1p; unfold seatsN; omega
  refine ZAM <| ZAA ?_
  have S := S.sel [4, 2, 1] rfl
  refine ZAG <| ZAD <| gsr <| gq rfl S (ZAb rfl S H rfl (by exact Fagg70)) fun a S => ?_
  refine q_mv S rfl fun a S => q_cl S rfl call57 (mark_spec r (r.from_ + (k : Int)) _ (H.sl r.mv)) fun v w hc a S => ?_
  obtain ⟨rfl, he⟩ := hc
  have H := H.ext he
  refine gq rfl S ((y_fieldX rfl S rfl (mark_field0 _ _))) fun a S => q_bn S rfl fun a S => gnt ?_
  have S := S.sel [17, 4, 2, 1] rfl
  refine c_if S rfl (fun h2 => ?_) (fun h2 => ?_)
  ·have h2p := h2; try simp only [DL] at h2p
   refine ZAB <| q_mv S rfl fun a S => q_mv S rfl fun a S => q_fa S Ffo70_1 rfl fun a S => q_ld S H ZAN rfl rfl fun a S => q_mv S rfl fun a S => q_fa S Ffo70_3 rfl fun a S => q_ld S H ZAN rfl rfl fun a S => ?_
   refine gq rfl S (y_sub rfl S rfl rfl (by omega)) fun a S => ?_
   rw [show (r.from_ + (k : Int)) - r.from_ = (k : Int) by omega] at S
   refine q_fa S Ffo70_5 rfl fun a S => q_ld S H ZAN rfl rfl fun a S => gq rfl S ((y_mul rfl S rfl rfl (by have := seat_mul hr hkN; omega))) fun a S => ?_
   refine gq rfl S ((y_add rfl S rfl rfl (by have := seat_mul hr hkN; omega))) fun a S => ?_
   refine ZAF (ZAV (wn rfl) rfl rfl S (ZAp rfl he0 S rfl rfl) (hstep _ _ _ (seatsR_at hkN h2p) z _ _ H) fun v w hc a S => ?_)
   obtain ⟨z2, H⟩ := hc
   have hsp : ZBt r (k + 1) = ZBt r k ++ [(r.from_ + (k : Int), r.x + (k : Int) * r.step)] := by rw [ZBt, if_neg h2p]
   have hsl : (ZBt r k).length + 1 = (ZBt r (k + 1)).length := by rw [hsp]; simp
   rw [hsl] at H
   refine ZAj <| ZAK <| ZAA ?_
   have S := S.sel [4, 2, 1] rfl
   refine ZAB <| q_mv S rfl fun a S => q_ad S rfl (by omega) fun a S => ?_
   exact q_as S rfl fun a S => gnt <| ⟨k + 1, S.nil.cons S 4 (by first | rfl | (simp; omega)), S.sel [2, 1] rfl, ⟨by omega, z2, H⟩, by omega⟩
  have h2p := h2; try simp only [DL] at h2p
  have hsl : ZBt r (k + 1) = ZBt r k := by rw [ZBt, if_pos h2p]
  refine ZAM <| ZAK <| ZAA <| ZAB <| q_mv S rfl fun a S => q_ad S rfl (by omega) fun a S => ?_
  refine q_as S rfl fun a S => ?_
  refine gnt ?_
  exact ⟨k + 1, S.nil.cons S 4 (by first | rfl | (simp; omega)), S.sel [2, 1] rfl, ⟨by omega, z, by rw [hsl]; exact H⟩, by omega⟩
 have h1p := h1; try simp only [DL] at h1p
 obtain rfl : k = seatsN r := by have := h1p; unfold seatsN at *; omega
 refine ZAf <| ZAO (ZAO (x_eq ?_))
 exact ZB1 rfl S <| ⟨z, HSat.unmid H⟩
theorem count_spec {M : Nat → Prop} {u0 : World} {l : List Atom} (c : Nat) (n : Int) (w0 : World) (hn : 0 ≤ n ∧ n ≤ 1000000000) (s x : Value) (h0 : HSat M u0 (Cel c 3 [.int .i64 n] :: l) w0) :
    Ret Tryz.prog 22 #[s, x, .pointer (some ⟨c, 0, none⟩)] w0 (fun u w => HSat M u0 (Cel c 3 [.int .i64 (n + 1)] :: l) w) := by
 refine ZAE (nt := 7) Tryz.func22 rfl rfl rfl (fl := [(0, s), (1, x), (2, .pointer (some ⟨c, 0, none⟩))]) rfl (fun a S => ?_)
 have H := h0
 refine ZAB <| q_ld S H ZAN rfl rfl fun a S => q_ad S rfl (by omega) fun a S => ?_
 refine q_st S H rfl rfl ZA5 rfl fun a w S H => ?_
 dsimp only [List.set, Nat.zero_add, Nat.reduceAdd] at H
 exact ZAj <| ZB1 rfl S <| H
def encQ (b : Bool) : List Value := [.bool b]
def falses (l : List Bool) : Nat := (l.filter fun b => !b).length
theorem falses_set : ∀ (l : List Bool) (i : Nat) (h : i < l.length), l[i] = false → falses (l.set i true) + 1 = falses l
  | [], i, h, _ => by simp at h
  | b :: l, 0, _, e => by
    simp only [List.getElem_cons_zero] at e
    subst e
    simp [falses]
  | b :: l, i + 1, h, e => by
    simp only [List.getElem_cons_succ] at e
    have ih := falses_set l i (by simpa using h) e
    unfold falses at *
    cases b <;> simp [List.set_cons_succ] at * <;> omega
theorem falses_le (l : List Bool) : falses l ≤ l.length := List.length_filter_le _ _
structure RelO (a b : List Bool) : Prop where
  len : b.length = a.length
  keep : ∀ j : Nat, a.getD j false = true → b.getD j false = true
  few : falses b ≤ falses a
theorem RelO.refl (a : List Bool) : RelO a a := ⟨rfl, fun _ h => h, Nat.le_refl _⟩
theorem RelO.trans {a b c : List Bool} (h1 : RelO a b) (h2 : RelO b c) : RelO a c := ⟨h2.len.trans h1.len, fun j h => h2.keep j (h1.keep j h), Nat.le_trans h2.few h1.few⟩
theorem RelO.set {a : List Bool} {i : Nat} (h : i < a.length) (e : a[i] = false) : RelO a (a.set i true) ∧ (a.set i true).getD i false = true ∧ falses (a.set i true) + 1 = falses a := by
  have hf := falses_set a i h e
  refine ⟨⟨List.length_set, fun j hj => ?_, by omega⟩, by simp [h], hf⟩
  by_cases hij : i = j
  · subst hij; simp [h]
  rw [List.getD_eq_getElem?_getD, List.getElem?_set, if_neg hij, ← List.getD_eq_getElem?_getD]; exact hj
set_option maxHeartbeats 2000000 in
theorem enter_step {M : Nat → Prop} {u0 : World} {l : List Atom} (vo : Value) (b1 b3 b4 : Nat) (L : LevV) (f : Nat) (ih : ∀ (out : List Bool) (i : Nat) (w0 : World), out.length = L.aisles.length → i < out.length → falses out < f → HSat M u0 (Cel b3 136 [vo] :: OSl 4 vo 1 encQ out :: Atom.ro (Cel b1 79 (LevV.enc L)) :: Atom.ro (Cel b4 85 [.func (.func 98) #[] #[.pointer (some ⟨b3, 0, none⟩), .pointer (some ⟨b1, 0, none⟩), .pointer (some ⟨b4, 0, none⟩)]]) :: Sl L.iv 4 BoxV.enc L.aisles :: l) w0 → Ret Tryz.prog 98 #[.int .i64 (i : Int), .pointer (some ⟨b3, 0, none⟩), .pointer (some ⟨b1, 0, none⟩), .pointer (some ⟨b4, 0, none⟩)] w0 (fun _ w' => ∃ o2, RelO out o2 ∧ o2.getD i false = true ∧ HSat M u0 (Cel b3 136 [vo] :: OSl 4 vo 1 encQ o2 :: Atom.ro (Cel b1 79 (LevV.enc L)) :: Atom.ro (Cel b4 85 [.func (.func 98) #[] #[.pointer (some ⟨b3, 0, none⟩), .pointer (some ⟨b1, 0, none⟩), .pointer (some ⟨b4, 0, none⟩)]]) :: Sl L.iv 4 BoxV.enc L.aisles :: l) w')) (out : List Bool) (i : Nat) (w0 : World) (hol : out.length = L.aisles.length) (hi : i < out.length) (hf : falses out < f + 1) (h0 : HSat M u0 (Cel b3 136 [vo] :: OSl 4 vo 1 encQ out :: Atom.ro (Cel b1 79 (LevV.enc L)) :: Atom.ro (Cel b4 85 [.func (.func 98) #[] #[.pointer (some ⟨b3, 0, none⟩), .pointer (some ⟨b1, 0, none⟩), .pointer (some ⟨b4, 0, none⟩)]]) :: Sl L.iv 4 BoxV.enc L.aisles :: l) w0) :
    Ret Tryz.prog 98 #[.int .i64 (i : Int), .pointer (some ⟨b3, 0, none⟩), .pointer (some ⟨b1, 0, none⟩), .pointer (some ⟨b4, 0, none⟩)] w0 (fun _ w => ∃ o2, RelO out o2 ∧ o2.getD i false = true ∧ HSat M u0 (Cel b3 136 [vo] :: OSl 4 vo 1 encQ o2 :: Atom.ro (Cel b1 79 (LevV.enc L)) :: Atom.ro (Cel b4 85 [.func (.func 98) #[] #[.pointer (some ⟨b3, 0, none⟩), .pointer (some ⟨b1, 0, none⟩), .pointer (some ⟨b4, 0, none⟩)]]) :: Sl L.iv 4 BoxV.enc L.aisles :: l) w) := by
 refine ZAE (nt := 33) Tryz.func98 rfl rfl rfl (fl := [(0, .int .i64 (i : Int)), (1, .pointer (some ⟨b3, 0, none⟩)), (2, .pointer (some ⟨b1, 0, none⟩)), (3, .pointer (some ⟨b4, 0, none⟩))]) rfl (fun a S => ?_)
 have H := h0
 have hil := (H.sl L.iv).len
 have hia : i < L.aisles.length := by omega
 refine ZAG <| gsr <| q_ld S H Fsca136 rfl rfl fun a S => q_mv S rfl fun a S => gq rfl S (ZAI rfl underlying136 Fsiz4 S H rfl rfl (by omega)) fun a S => ?_
 refine gq rfl S (ZA6 _ rfl Fsca4 S H rfl (by omega) rfl) fun a S => ?_
 refine gnt <| c_if S rfl (fun h1 => ?_) (fun h1 => ?_)
 ·have h1p := h1; try simp only [DL] at h1p
  refine ZAe <| ZAX (ret0 rfl S ?_)
  have hti : out[i] = true := h1
  exact ⟨out, RelO.refl _, by rw [List.getD_eq_getElem?_getD, List.getElem?_eq_getElem hi, hti]; rfl, H⟩
 have h1p := h1; try simp only [DL] at h1p
 have hfi : out[i] = false := by simpa using h1
 obtain ⟨hr1, hr2, hr3⟩ := RelO.set hi hfi
 refine ZAM <| ZAA ?_
 have S := S.sel [0, 1, 2, 3] rfl
 refine gsr <| q_ld S H Fsca136 rfl rfl fun a S => q_mv S rfl fun a S => gq rfl S (ZAI rfl underlying136 Fsiz4 S H rfl rfl (by omega)) fun a S => ?_
 refine ZAF (op_store1 _ (true) (wn rfl) rfl rfl S H rfl rfl rfl rfl Fsiz4 (by omega) (by exact rfl) fun a w S H => ?_)
 refine gnt ?_
 have S := S.sel [0, 2, 3] rfl
 refine gsr <| q_fa S Ffo79_4 rfl fun a S => q_ld S H Fsca76 rfl rfl fun a S => gq rfl S (ZAT rfl underlying76 S H rfl) fun a S => q_mv S rfl fun a S => gnt <| ZAD ?_
 have SU := S.sel [16, 15, 0, 2, 3] rfl
 refine ZBL (X := Nat) SU (fun k => [(17, .int .i64 (k : Int))]) (fun k w => k ≤ L.aisles.length ∧ ∃ o1, RelO out o1 ∧ o1.getD i false = true ∧ falses o1 < f ∧ HSat M u0 (Cel b3 136 [vo] :: OSl 4 vo 1 encQ o1 :: Atom.ro (Cel b1 79 (LevV.enc L)) :: Atom.ro (Cel b4 85 [.func (.func 98) #[] #[.pointer (some ⟨b3, 0, none⟩), .pointer (some ⟨b1, 0, none⟩), .pointer (some ⟨b4, 0, none⟩)]]) :: Sl L.iv 4 BoxV.enc L.aisles :: l) w) (fun k => L.aisles.length - k) 0 (S.sel [17] rfl) (⟨Nat.zero_le _, _, hr1, hr2, by omega, H⟩) (fun k a w S hW => ?_)
 simp only [List.cons_append, List.nil_append] at S
 obtain ⟨hkk, o1, hro, hoi, hfo, H⟩ := hW
 refine gsr <| q_bn S rfl fun a S => gnt <| ZAG <| c_if S rfl (fun h2 => ?_) (fun h2 => ?_)
 ·have h2p := h2; try simp only [DL] at h2p
  have hkl : k < L.aisles.length := by omega
  refine ZAM <| ZAA <| ZAG <| ZAD <| gsr <| q_mv S rfl fun a S => gq rfl S (ZAI rfl underlying76 Fsiz90 S H rfl rfl (by omega)) fun a S => ?_
  refine gq rfl S (ZAk _ rfl S H rfl (by exact Fagg90) (by omega)) fun a S => ?_
  refine q_al S H rfl Fzer90 fun b6 a w S H => q_as S rfl fun a S => ZAF (ZAQ (wn rfl) rfl rfl S H rfl rfl rfl Fsiz90 rfl (cs' := [_, _, _, _]) rfl fun a w S H => gnt ?_)
  have S := S.sel [5, 6, 17, 16, 15, 0, 2, 3] rfl
  refine ZAG <| ZAZ (loud := []) (tails := []) (free := []) [0, 1, 2, 3, 4, 5, 6] [] Fmo (by kernel_rfl) (by kernel_rfl) rfl H ?_
  refine m_q rfl S (fun w H => ZAC rfl Ffo79_4 S rfl) fun a S => m_q rfl S (fun w H => ZAJ rfl Fsca76 S H rfl rfl) fun a S => m_q rfl S (fun w H => ZAL rfl S rfl) fun a S => m_q rfl S (fun w H => ZAI rfl underlying76 Fsiz90 S H rfl rfl (by omega)) fun a S => ?_
  refine m_loadsa _ rfl rfl (wn rfl) rfl rfl S rfl rfl (by exact Fagg90) (by omega) fun a S => ?_
  refine m_q rfl S (fun w H => ZAb rfl S H rfl (by exact Fagg90)) fun a S => ?_
  rw [show Value.agg #[.int .i64 L.aisles[k].x, .int .i64 L.aisles[k].y, .int .i64 L.aisles[k].x2, .int .i64 L.aisles[k].y2] = Value.agg (BoxV.enc L.aisles[k]).toArray from rfl] at S
  refine m_c rfl rfl (wn rfl) rfl rfl S (fun w => ZAi rfl call68 S rfl) (fun w H => meet_spec L.aisles[i] L.aisles[k] _) fun a S => ZBY (fun w H => ZAA ?_)
  have S := S.sel [28, 5, 17, 16, 15, 0, 2, 3] rfl
  refine c_if S rfl (fun h3 => ?_) (fun h3 => ?_)
  ·have h3p := h3; try simp only [DL] at h3p
   refine ZAB ?_
   refine q_ld S H Fsca85 rfl rfl fun a S => ?_
   refine q_mv S rfl fun a S => ?_
   refine ZAF (ZAV (wn rfl) rfl rfl S (ZAp rfl call98 S rfl rfl) (ih o1 k _ (by rw [hro.len]; exact hol) (by rw [hro.len, hol]; exact hkl) (by have := hro.few; omega) (H.takeT [Cel b3 136 [vo], OSl 4 vo 1 encQ o1, Atom.ro (Cel b1 79 (LevV.enc L)), Atom.ro (Cel b4 85 [.func (.func 98) #[] #[.pointer (some ⟨b3, 0, none⟩), .pointer (some ⟨b1, 0, none⟩), .pointer (some ⟨b4, 0, none⟩)]]), Sl L.iv 4 BoxV.enc L.aisles] l)) fun v w hc a S => ?_)
   obtain ⟨o2, hr, hq, H⟩ := hc
   refine ZAj <| ZAK <| ZAA ?_
   have S := S.sel [17, 16, 15, 0, 2, 3] rfl
   refine ZAB <| q_ad S rfl (by omega) fun a S => ?_
   exact q_mv S rfl fun a S => gnt <| ⟨k + 1, S.sel [17] rfl, S.sel [16, 15, 0, 2, 3] rfl, ⟨by omega, o2, hro.trans hr, hr.keep _ hoi, by have := hr.few; omega, H⟩, by omega⟩
  have h3p := h3; try simp only [DL] at h3p
  refine ZAM <| ZAK <| ZAA <| ZAB <| q_ad S rfl (by omega) fun a S => ?_
  refine q_mv S rfl fun a S => ?_
  refine gnt ?_
  first
  | exact ⟨k + 1, S.sel [17] rfl, S.sel [16, 15, 0, 2, 3] rfl, ⟨by omega, o2, hro.trans hr, hr.keep _ hoi, by have := hr.few; omega, H⟩, by omega⟩
  | exact ⟨k + 1, S.sel [17] rfl, S.sel [16, 15, 0, 2, 3] rfl, ⟨by omega, o1, hro, hoi, hfo, H.takeT [Cel b3 136 [vo], OSl 4 vo 1 encQ o1, Atom.ro (Cel b1 79 (LevV.enc L)), Atom.ro (Cel b4 85 [.func (.func 98) #[] #[.pointer (some ⟨b3, 0, none⟩), .pointer (some ⟨b1, 0, none⟩), .pointer (some ⟨b4, 0, none⟩)]]), Sl L.iv 4 BoxV.enc L.aisles] l⟩, by omega⟩
 have h2p := h2; try simp only [DL] at h2p
 obtain rfl : k = L.aisles.length := by omega
 refine ZAf <| ZAO (ZAO (x_eq ?_))
 exact ZB1 rfl S <| ⟨o1, hro, hoi, H⟩
theorem enter_spec {M : Nat → Prop} {u0 : World} {l : List Atom} (vo : Value) (b1 b3 b4 : Nat) (L : LevV) : ∀ f, ∀ (out : List Bool) (i : Nat) (w0 : World), out.length = L.aisles.length → i < out.length → falses out < f → HSat M u0 (Cel b3 136 [vo] :: OSl 4 vo 1 encQ out :: Atom.ro (Cel b1 79 (LevV.enc L)) :: Atom.ro (Cel b4 85 [.func (.func 98) #[] #[.pointer (some ⟨b3, 0, none⟩), .pointer (some ⟨b1, 0, none⟩), .pointer (some ⟨b4, 0, none⟩)]]) :: Sl L.iv 4 BoxV.enc L.aisles :: l) w0 → Ret Tryz.prog 98 #[.int .i64 (i : Int), .pointer (some ⟨b3, 0, none⟩), .pointer (some ⟨b1, 0, none⟩), .pointer (some ⟨b4, 0, none⟩)] w0 (fun _ w' => ∃ o2, RelO out o2 ∧ o2.getD i false = true ∧ HSat M u0 (Cel b3 136 [vo] :: OSl 4 vo 1 encQ o2 :: Atom.ro (Cel b1 79 (LevV.enc L)) :: Atom.ro (Cel b4 85 [.func (.func 98) #[] #[.pointer (some ⟨b3, 0, none⟩), .pointer (some ⟨b1, 0, none⟩), .pointer (some ⟨b4, 0, none⟩)]]) :: Sl L.iv 4 BoxV.enc L.aisles :: l) w')
  | 0 => fun out i w0 hol hi hf h0 => by omega
  | f + 1 => fun out i w0 hol hi hf h0 => enter_step vo b1 b3 b4 L f (enter_spec vo b1 b3 b4 L f) out i w0 hol hi hf h0
theorem door_spec (p : PtV) (x : BoxV) (c : Nat) (w0 : World) (hb : w0.heap[c]? = some (.cells (BoxV.enc x).toArray 90 (0, 0))) :
    Ret Tryz.prog 99 #[.agg (PtV.enc p).toArray, .pointer (some ⟨c, 0, none⟩)] w0 (fun u w => u = .bool (ZBg x p.x p.y) ∧ Ext w0 w) := by
 refine ZAE (nt := 10) Tryz.func99 rfl rfl rfl (fl := [(0, .agg (PtV.enc p).toArray), (1, .pointer (some ⟨c, 0, none⟩))]) rfl (fun a S => ?_)
 have H := HSat.start w0
 have H := H.ro0 (Atom.ro (Cel c 90 (BoxV.enc x))) rfl (hb)
 refine gsr <| ZAF (ZAu (wn rfl) rfl rfl rfl S H rfl fun b2 a w S H => q_as S rfl fun a S => gnt ?_)
 refine gsr <| gq rfl S (ZAb rfl S H rfl (by exact Fagg90)) fun a S => ?_
 refine q_fa S ZBx rfl fun a S => q_ld S H ZAN rfl rfl fun a S => q_fa S ZBy rfl fun a S => q_ld S H ZAN rfl rfl fun a S => q_cl S rfl call63 (inside_spec x p.x p.y _) fun v w hc a S => ?_
 obtain ⟨rfl, he⟩ := hc
 have H := H.ext he
 refine q_as S rfl fun a S => gnt ?_
 have S := S.sel [3] rfl
 exact ZAe <| ret1 rfl S rfl <| ⟨rfl, H.toExt⟩
set_option maxHeartbeats 2000000 in
theorem reached_spec (L : LevV) (w0 : World) (hL : (LevA L).ok w0) (hb : L.aisles.length ≤ 1048576) :
    Ret Tryz.prog 59 #[.agg (LevV.enc L).toArray] w0 (fun u w => ∃ rs : List Bool, rs.length = L.aisles.length ∧ (∀ j (hj : j < L.aisles.length), L.doors.any (fun p => ZBg L.aisles[j] p.x p.y) = true → rs.getD j false = true) ∧ HSat No w0 [OSl 4 u 1 encQ rs] w) := by
 refine ZAE (nt := 29) Tryz.func59 rfl rfl rfl (fl := [(0, .agg (LevV.enc L).toArray)]) rfl (fun a S => ?_)
 have H := HSat.start w0
 have H := H.ro0 (Sl L.iv 4 BoxV.enc L.aisles) rfl (lev_aisles hL)
 have H := H.ro0 (Sl L.dv 2 PtV.enc L.doors) rfl (lev_doors hL)
 have hl1 := (lev_doors hL).len
 refine gsr <| ZAF (ZAu (wn rfl) rfl rfl rfl S H rfl fun b1 a w S H => q_as S rfl fun a S => gnt ?_)
 refine gsr <| q_fa S Ffo79_4 rfl fun a S => q_ld S H Fsca76 rfl rfl fun a S => gq rfl S (ZAT rfl underlying76 S H rfl) fun a S => ZAF (ZAw (encQ) (false) (wn rfl) rfl rfl rfl underlying136 ZBR rfl rfl S H rfl rfl rfl (by omega) (by omega) fun b10 a w S H => ?_)
 obtain ⟨vo, hvo⟩ : ∃ v, v = Value.slice (some ⟨b10, 0, none⟩) L.aisles.length L.aisles.length := ⟨_, rfl⟩
 rw [← hvo] at S H
 refine q_al S H rfl ZA2 fun b3 a w S H => q_st S H rfl (H.sl1 _) ZAg rfl fun a w S H => ?_
 dsimp only [List.set, Nat.zero_add, Nat.reduceAdd] at H
 refine gnt ?_
 have S := S.sel [3, 2, 1] rfl
 refine gsr <| q_al S H rfl Fzer85 fun b4 a w S H => gnt <| gsr <| gq rfl S (ZAd rfl S rfl rfl) fun a S => q_st S H rfl rfl Fsiz85 rfl fun a w S H => ?_
 dsimp only [List.set, Nat.zero_add, Nat.reduceAdd] at H
 refine gnt <| ZAG <| gsr <| q_fa S Ffo79_4 rfl fun a S => q_ld S H Fsca76 rfl rfl fun a S => gq rfl S (ZAT rfl underlying76 S H rfl) fun a S => q_mv S rfl fun a S => gnt ?_
 refine ZAD ?_
 have H := ((H.front (Cel b1 79 (LevV.enc L))).freeze.front (Cel b4 85 [.func (.func 98) #[] #[.pointer (some ⟨b3, 0, none⟩), .pointer (some ⟨b1, 0, none⟩), .pointer (some ⟨b4, 0, none⟩)]])).freeze
 have SU := S.sel [14, 13, 4, 3, 2, 1] rfl
 refine ZBL (X := Nat) SU (fun k => [(15, .int .i64 (k : Int))]) (fun k w => k ≤ L.aisles.length ∧ ∃ rs : List Bool, rs.length = L.aisles.length ∧ (∀ j (hj : j < L.aisles.length), j < k → L.doors.any (fun p => ZBg L.aisles[j] p.x p.y) = true → rs.getD j false = true) ∧ HSat No w0 [Cel b3 136 [vo], OSl 4 vo 1 encQ rs, Atom.ro (Cel b1 79 (LevV.enc L)), Atom.ro (Cel b4 85 [.func (.func 98) #[] #[.pointer (some ⟨b3, 0, none⟩), .pointer (some ⟨b1, 0, none⟩), .pointer (some ⟨b4, 0, none⟩)]]), Sl L.iv 4 BoxV.enc L.aisles, Sl L.dv 2 PtV.enc L.doors] w) (fun k => L.aisles.length - k) 0 (S.sel [15] rfl) (⟨Nat.zero_le _, _, List.length_replicate, fun j hj h => absurd h (Nat.not_lt_zero _), H.take [Cel b3 136 [vo], OSl 4 vo 1 encQ (List.replicate L.aisles.length false), Atom.ro (Cel b1 79 (LevV.enc L)), Atom.ro (Cel b4 85 [.func (.func 98) #[] #[.pointer (some ⟨b3, 0, none⟩), .pointer (some ⟨b1, 0, none⟩), .pointer (some ⟨b4, 0, none⟩)]]), Sl L.iv 4 BoxV.enc L.aisles, Sl L.dv 2 PtV.enc L.doors]⟩) (fun k a w S hW => ?_)
 simp only [List.cons_append, List.nil_append] at S
 obtain ⟨hkk, rs, hrl, hrd, H⟩ := hW
 refine gsr <| q_bn S rfl fun a S => gnt <| ZAG <| c_if S rfl (fun h1 => ?_) (fun h1 => ?_)
 ·have h1p := h1; try simp only [DL] at h1p
  have hkl : k < L.aisles.length := by omega
  refine ZAM <| ZAA <| ZAG <| ZAD <| gsr <| q_mv S rfl fun a S => gq rfl S (ZAI rfl underlying76 Fsiz90 S H rfl rfl (by omega)) fun a S => ?_
  refine gq rfl S (ZAk _ rfl S H rfl (by exact Fagg90) (by omega)) fun a S => ?_
  refine q_al S H rfl Fzer90 fun b6 a w S H => q_as S rfl fun a S => ZAF (ZAQ (wn rfl) rfl rfl S H rfl rfl rfl Fsiz90 rfl (cs' := [_, _, _, _]) rfl fun a w S H => gnt ?_)
  have S := S.sel [5, 6, 15, 14, 13, 4, 3, 2, 1] rfl
  refine gsr <| q_fa S Ffo79_6 rfl fun a S => q_ld S H Fsca77 rfl rfl fun a S => gq rfl S (ZAd rfl S rfl rfl) fun a S => q_cl S rfl call46 (contPt_spec L.dv L.doors 99 [.pointer (some ⟨b6, 0, none⟩)] call99 (fun p => ZBg L.aisles[k] p.x p.y) _ (H.sl L.dv) (fun p hp w hw => door_spec p L.aisles[k] b6 w ((H.ext hw).rd b6))) fun v w hc a S => ?_
  obtain ⟨rfl, he⟩ := hc
  have H := H.ext he
  refine gnt ?_
  have S := S.sel [23, 5, 15, 14, 13, 4, 3, 2, 1] rfl
  refine c_if S rfl (fun h2 => ?_) (fun h2 => ?_)
  ·have h2p := h2; try simp only [DL] at h2p
   refine ZAB ?_
   refine q_ld S H Fsca85 rfl rfl fun a S => ?_
   refine q_mv S rfl fun a S => ?_
   refine ZAF (ZAV (wn rfl) rfl rfl S (ZAp rfl call98 S rfl rfl) (enter_spec vo b1 b3 b4 L (L.aisles.length + 1) rs k _ hrl (by omega) (by have := falses_le rs; omega) (H.takeT [Cel b3 136 [vo], OSl 4 vo 1 encQ rs, Atom.ro (Cel b1 79 (LevV.enc L)), Atom.ro (Cel b4 85 [.func (.func 98) #[] #[.pointer (some ⟨b3, 0, none⟩), .pointer (some ⟨b1, 0, none⟩), .pointer (some ⟨b4, 0, none⟩)]]), Sl L.iv 4 BoxV.enc L.aisles] [Sl L.dv 2 PtV.enc L.doors])) fun v w hc a S => ?_)
   obtain ⟨r2, hr, hq, H⟩ := hc
   have H : HSat No w0 [Cel b3 136 [vo], OSl 4 vo 1 encQ r2, Atom.ro (Cel b1 79 (LevV.enc L)), Atom.ro (Cel b4 85 [.func (.func 98) #[] #[.pointer (some ⟨b3, 0, none⟩), .pointer (some ⟨b1, 0, none⟩), .pointer (some ⟨b4, 0, none⟩)]]), Sl L.iv 4 BoxV.enc L.aisles, Sl L.dv 2 PtV.enc L.doors] _ := H
   refine ZAj <| ZAK <| ZAA ?_
   have S := S.sel [15, 14, 13, 4, 3, 2, 1] rfl
   refine ZAB <| q_ad S rfl (by omega) fun a S => ?_
   exact q_mv S rfl fun a S => gnt <| ⟨k + 1, S.sel [15] rfl, S.sel [14, 13, 4, 3, 2, 1] rfl, ⟨by omega, r2, hr.len.trans hrl, fun j hj hlt ha => by by_cases hjk : j < k; exact hr.keep _ (hrd j hj hjk ha); (obtain rfl : j = k := by omega); exact hq, H.take _⟩, by omega⟩
  have h2p := h2; try simp only [DL] at h2p
  refine ZAM <| ZAK <| ZAA <| ZAB <| q_ad S rfl (by omega) fun a S => ?_
  refine q_mv S rfl fun a S => ?_
  refine gnt ?_
  first
  | exact ⟨k + 1, S.sel [15] rfl, S.sel [14, 13, 4, 3, 2, 1] rfl, ⟨by omega, r2, hr.len.trans hrl, fun j hj hlt ha => by by_cases hjk : j < k; exact hr.keep _ (hrd j hj hjk ha); (obtain rfl : j = k := by omega); exact hq, H.take _⟩, by omega⟩
  | exact ⟨k + 1, S.sel [15] rfl, S.sel [14, 13, 4, 3, 2, 1] rfl, ⟨by omega, rs, hrl, fun j hj hlt ha => by by_cases hjk : j < k; exact hrd j hj hjk ha; (obtain rfl : j = k := by omega); (have hcc := h2p); rw [ha] at hcc; simp at hcc, H.take _⟩, by omega⟩
 have h1p := h1; try simp only [DL] at h1p
 obtain rfl : k = L.aisles.length := by omega
 refine ZAf <| ZAO (ZAO (x_eq ?_))
 refine ZAA ?_
 have S := S.sel [3, 2] rfl
 exact gsr <| q_ld S H Fsca136 rfl rfl fun a S => q_as S rfl fun a S => gnt <| ZAe <| ret1 rfl S rfl <| ⟨rs, hrl, fun j hj ha => hrd j hj hj ha, H.take _⟩
theorem mul_s {p q : Int} (h : -10000 ≤ p ∧ p ≤ 10000 ∧ -10000 ≤ q ∧ q ≤ 10000) : -100000000 ≤ p * q ∧ p * q ≤ 100000000 := by
  have h1 : (p * q).natAbs ≤ 10000 * 10000 := by
    rw [Int.natAbs_mul]
    exact Nat.mul_le_mul (by omega) (by omega)
  omega
def crdP (p : PtV) : Prop := 0 ≤ p.x ∧ p.x ≤ 10000 ∧ 0 ≤ p.y ∧ p.y ≤ 10000
def sideI (p q r : PtV) : Int := (q.x - p.x) * (r.y - p.y) - (q.y - p.y) * (r.x - p.x)
def cs4 (x : BoxV) : List PtV := [⟨x.x, x.y⟩, ⟨x.x2, x.y⟩, ⟨x.x, x.y2⟩, ⟨x.x2, x.y2⟩]
def cntS (p q : PtV) (x : BoxV) (f : Int → Bool) (k : Nat) : Nat := (((cs4 x).take k).filter fun c => f (sideI p q c)).length
def posB (n : Int) : Bool := decide (n > 0)
def negB (n : Int) : Bool := decide (n < 0)
def crossB (p q : PtV) (x : BoxV) : Bool := !(decide (max p.x q.x < x.x) || decide (min p.x q.x > x.x2) || decide (max p.y q.y < x.y) || decide (min p.y q.y > x.y2)) && (decide (cntS p q x posB 4 < 4) && decide (cntS p q x negB 4 < 4))
theorem cs4_len (x : BoxV) : (cs4 x).length = 4 := rfl
theorem cntS_s (p q : PtV) (x : BoxV) (f : Int → Bool) {k : Nat} (hk : k < (cs4 x).length) : cntS p q x f (k + 1) = cntS p q x f k + if f (sideI p q (cs4 x)[k]) = true then 1 else 0 := by
  unfold cntS
  rw [List.take_succ_eq_append_getElem hk, List.filter_append, List.length_append]
  congr 1
  by_cases h : f (sideI p q (cs4 x)[k]) = true <;> simp [h]
theorem cntS_le (p q : PtV) (x : BoxV) (f : Int → Bool) (k : Nat) : cntS p q x f k ≤ k := by
  unfold cntS
  refine Nat.le_trans (List.length_filter_le _ _) ?_
  rw [List.length_take]; omega
theorem corner_at (x : BoxV) (w : World) : ∀ k (hk : k < (cs4 x).length), (Instr.index 210 (.agg #[.int .i64 x.x, .int .i64 x.y, .int .i64 x.x2, .int .i64 x.y, .int .i64 x.x, .int .i64 x.y2, .int .i64 x.x2, .int .i64 x.y2]) (.int .i64 (k : Int))).run Tryz.prog w = .ok (.agg (PtV.enc (cs4 x)[k]).toArray) w
  | 0, _ => by kernel_rfl
  | 1, _ => by kernel_rfl
  | 2, _ => by kernel_rfl
  | 3, _ => by kernel_rfl
theorem cs4_crd {x : BoxV} (h : boxB x = true) : 0 ≤ x.x ∧ x.x ≤ x.x2 ∧ x.x2 ≤ 10000 ∧ 0 ≤ x.y ∧ x.y ≤ x.y2 ∧ x.y2 ≤ 10000 := by
  unfold boxB crdL at h
  simp only [List.all_cons, List.all_nil, Bool.and_true, Bool.and_eq_true, crdB_iff, decide_eq_true_eq] at h
  omega
theorem cs4_mem {x : BoxV} (h : boxB x = true) {k : Nat} (hk : k < (cs4 x).length) : crdP (cs4 x)[k] := by
  have h2 := cs4_crd h
  match k, hk with
  | 0, _ => exact (show crdP ⟨x.x, x.y⟩ by unfold crdP; dsimp only; omega)
  | 1, _ => exact (show crdP ⟨x.x2, x.y⟩ by unfold crdP; dsimp only; omega)
  | 2, _ => exact (show crdP ⟨x.x, x.y2⟩ by unfold crdP; dsimp only; omega)
  | 3, _ => exact (show crdP ⟨x.x2, x.y2⟩ by unfold crdP; dsimp only; omega)
theorem scrd_spec (v : Value) (xs : List Int) (w0 : World) (hv : IsSl w0 v 1 encI xs) :
    Ret Tryz.prog 102 #[v] w0 (fun u w => u = .bool (crdL xs) ∧ Ext w0 w) := by
 refine ZAE (nt := 18) Tryz.func102 rfl rfl rfl (fl := [(0, v)]) rfl (fun a S => ?_)
 have H := HSat.start w0
 have H := H.ro0 (Sl v 1 encI xs) rfl (hv)
 have hlen := hv.len
 refine gsr <| q_as S rfl fun a S => gnt <| ZAG <| gsr <| q_mv S rfl fun a S => gq rfl S (ZAT rfl underlying37 S H rfl) fun a S => q_mv S rfl fun a S => ?_
 refine gnt <| ZAD ?_
 have SU := S.sel [6, 5] rfl
 refine ZB4 (X := Nat) SU (fun k => [(7, .int .i64 (k : Int))]) (fun k => k ≤ xs.length ∧ ∀ j (hj : j < xs.length), j < k → crdB xs[j] = true) (fun k => xs.length - k) 0 (S.sel [7] rfl) H (⟨Nat.zero_le _, fun j hj h => absurd h (Nat.not_lt_zero _)⟩) (fun k a w S H hi => ?_)
 simp only [List.cons_append, List.nil_append] at S hi
 obtain ⟨hk, hall⟩ := hi
 refine gsr <| q_bn S rfl fun a S => gnt <| ZAG <| c_if S rfl (fun h1 => ?_) (fun h1 => ?_)
 ·have h1p := h1; try simp only [DL] at h1p
  have hkl : k < xs.length := by omega
  refine ZAM <| ZAA <| ZAG <| ZAD <| gsr <| gq rfl S (ZAI rfl underlying37 ZA5 S H rfl rfl (by omega)) fun a S => ?_
  refine gq rfl S (ZA6 _ rfl ZAN S H rfl (by omega) rfl) fun a S => ?_
  refine q_as S rfl fun a S => gnt <| gsr <| q_mv S rfl fun a S => q_bn S rfl fun a S => q_mv S rfl fun a S => ?_
  refine' ZBH 2 13 rfl S H rfl rfl rfl rfl rfl rfl rfl (fun _ S => (wn rfl)) (fun h2 kk => ?yh2) (fun a w S H => ?_)
  case yh2 =>
   exact gz 13 h2 S rfl rfl rfl rfl rfl rfl (ZAL rfl S rfl) fun a S => gz 13 h2 S rfl rfl rfl rfl rfl rfl (ZAn rfl S rfl rfl rfl) fun a S => gq rfl S (ZAz rfl h2 S rfl rfl) fun a S => kk _ _ (S.join 3 16 rfl rfl) H
  refine gnt ?_
  have S := S.sel [16, 7, 6, 5] rfl
  refine c_if S rfl (fun h3 => ?_) (fun h3 => ?_)
  ·have h3p := h3; try simp only [DL] at h3p
   have hno : crdB xs[k] = false := by have := h3p; simp [crdB]; omega
   refine gsr <| q_as S rfl fun a S => gnt <| ZAe <| ZAm (ZAX (ZAX (ZAm (ZAX (ret1 rfl S rfl ?_)))))
   exact ⟨congrArg Value.bool (List.all_eq_false.2 ⟨_, List.getElem_mem hkl, by simp [hno]⟩).symm, H.toExt⟩
  have h3p := h3; try simp only [DL] at h3p
  have hyes : crdB xs[k] = true := by have := h3p; rw [crdB_iff]; omega
  refine ZAM <| ZAK <| ZAA <| ZAB <| q_ad S rfl (by omega) fun a S => ?_
  refine q_mv S rfl fun a S => gnt <| ⟨k + 1, S.sel [7] rfl, S.sel [6, 5] rfl, H, ?_, ?_⟩
  · exact ⟨by omega, fun j hj h => by by_cases hjk : j < k; exact hall j hj hjk; (obtain rfl : j = k := by omega); exact hyes⟩
  omega
 have h1p := h1; try simp only [DL] at h1p
 obtain rfl : k = xs.length := by omega
 refine ZAf <| ZAO (ZAO (x_eq ?_))
 refine ZAA ?_
 have S := S.nil
 exact gsr <| q_as S rfl fun a S => gnt <| ZAe <| ret1 rfl S rfl <| ⟨congrArg Value.bool (List.all_eq_true.2 fun x hx => by obtain ⟨j, hj, rfl⟩ := List.getElem_of_mem hx; exact hall j hj hj).symm, H.toExt⟩
theorem side_spec (p q r : PtV) (w0 : World) (hp : crdP p) (hq : crdP q) (hr : crdP r) :
    Ret Tryz.prog 122 #[.agg (PtV.enc p).toArray, .agg (PtV.enc q).toArray, .agg (PtV.enc r).toArray] w0 (fun u w => u = .int .i64 (sideI p q r) ∧ Ext w0 w) := by
 refine ZAE (nt := 30) Tryz.func122 rfl rfl rfl (fl := [(0, .agg (PtV.enc p).toArray), (1, .agg (PtV.enc q).toArray), (2, .agg (PtV.enc r).toArray)]) rfl (fun a S => ?_)
 have H := HSat.start w0
 unfold crdP at hp hq hr
 have hm1 := mul_s (p := q.x - p.x) (q := r.y - p.y) (by omega)
 have hm2 := mul_s (p := q.y - p.y) (q := r.x - p.x) (by omega)
 refine gsr <| ZAF (ZAu (wn rfl) rfl rfl rfl S H rfl fun b3 a w S H => ZAF (ZAu (wn rfl) rfl rfl rfl S H rfl fun b4 a w S H => ZAF (ZAu (wn rfl) rfl rfl rfl S H rfl fun b5 a w S H => q_as S rfl fun a S => gnt ?_)))
 refine gsr <| q_fa S ZBx rfl fun a S => q_ld S H ZAN rfl rfl fun a S => q_fa S ZBx rfl fun a S => q_ld S H ZAN rfl rfl fun a S => gq rfl S (y_sub rfl S rfl rfl (by omega)) fun a S => ?_
 refine q_fa S ZBy rfl fun a S => q_ld S H ZAN rfl rfl fun a S => q_fa S ZBy rfl fun a S => q_ld S H ZAN rfl rfl fun a S => gq rfl S (y_sub rfl S rfl rfl (by omega)) fun a S => ?_
 refine gq rfl S (y_mul rfl S rfl rfl (by omega)) fun a S => ?_
 refine q_fa S ZBy rfl fun a S => q_ld S H ZAN rfl rfl fun a S => q_fa S ZBy rfl fun a S => q_ld S H ZAN rfl rfl fun a S => gq rfl S (y_sub rfl S rfl rfl (by omega)) fun a S => ?_
 refine q_fa S ZBx rfl fun a S => q_ld S H ZAN rfl rfl fun a S => q_fa S ZBx rfl fun a S => q_ld S H ZAN rfl rfl fun a S => gq rfl S (y_sub rfl S rfl rfl (by omega)) fun a S => ?_
 refine gq rfl S (y_mul rfl S rfl rfl (by omega)) fun a S => ?_
 refine gq rfl S (y_sub rfl S rfl rfl (by omega)) fun a S => ?_
 refine q_as S rfl fun a S => gnt ?_
 have S := S.sel [6] rfl
 exact ZAe <| ret1 rfl S rfl <| ⟨rfl, H.toExt⟩
set_option maxHeartbeats 2000000 in
theorem crosses_spec (p q : PtV) (x : BoxV) (w0 : World) (hp : crdP p) (hq : crdP q) (hx : boxB x = true) :
    Ret Tryz.prog 104 #[.agg (PtV.enc p).toArray, .agg (PtV.enc q).toArray, .agg (BoxV.enc x).toArray] w0 (fun u w => u = .bool (crossB p q x) ∧ Ext w0 w) := by
 refine ZAE (nt := 130) Tryz.func104 rfl rfl rfl (fl := [(0, .agg (PtV.enc p).toArray), (1, .agg (PtV.enc q).toArray), (2, .agg (BoxV.enc x).toArray)]) rfl (fun a S => ?_)
 have H := HSat.start w0
 have hc := cs4_crd hx
 have hp2 := hp
 have hq2 := hq
 unfold crdP at hp2 hq2
 refine gsr <| ZAF (ZAu (wn rfl) rfl rfl rfl S H rfl fun b3 a w S H => ZAF (ZAu (wn rfl) rfl rfl rfl S H rfl fun b4 a w S H => ZAF (ZAu (wn rfl) rfl rfl rfl S H rfl fun b5 a w S H => q_as S rfl fun a S => gnt ?_)))
 refine ZAG <| gsr <| q_fa S ZBx rfl fun a S => q_ld S H ZAN rfl rfl fun a S => q_fa S ZBy rfl fun a S => q_ld S H ZAN rfl rfl fun a S => q_fa S ZBx rfl fun a S => q_ld S H ZAN rfl rfl fun a S => ?_
 refine q_fa S ZBy rfl fun a S => q_ld S H ZAN rfl rfl fun a S => q_fa S Ffo90_0 rfl fun a S => q_ld S H ZAN rfl rfl fun a S => q_fa S Ffo90_1 rfl fun a S => q_ld S H ZAN rfl rfl fun a S => q_fa S Ffo90_2 rfl fun a S => q_ld S H ZAN rfl rfl fun a S => ?_
 refine q_fa S Ffo90_3 rfl fun a S => q_ld S H ZAN rfl rfl fun a S => ZAF (ZAP (wn rfl) rfl rfl rfl underlying37 Finf3 S H (idx := [0, 1, 2, 3, 4, 5, 6, 7]) rfl rfl rfl (z := [.int .i64 0, .int .i64 0, .int .i64 0, .int .i64 0, .int .i64 0, .int .i64 0, .int .i64 0, .int .i64 0]) (by kernel_rfl) (cs := [.int .i64 p.x, .int .i64 p.y, .int .i64 q.x, .int .i64 q.y, .int .i64 x.x, .int .i64 x.y, .int .i64 x.x2, .int .i64 x.y2]) (by kernel_rfl) fun b29 a w S H => ?_)
 refine q_cl S rfl call102 (scrd_spec _ [p.x, p.y, q.x, q.y, x.x, x.y, x.x2, x.y2] _ (H.slb b29 [p.x, p.y, q.x, q.y, x.x, x.y, x.x2, x.y2] encI 1 rfl rfl (by intro y _; rfl) (by simp))) fun v w hc a S => ?_
 obtain ⟨rfl, he⟩ := hc
 have H := H.ext he
 refine gq rfl S (ZBV rfl S rfl) fun a S => q_mv S rfl fun a S => ?_
 refine' ZBH 5 32 rfl S H rfl rfl rfl rfl rfl rfl rfl (fun _ S => (wn rfl)) (fun h1 kk => ?yh1) (fun a w S H => ?_)
 case yh1 =>
  exact gz 32 h1 S rfl rfl rfl rfl rfl rfl (ZAC rfl Ffo90_0 S rfl) fun a S => gz 32 h1 S rfl rfl rfl rfl rfl rfl (ZAJ rfl ZAN S H rfl rfl) fun a S => gz 32 h1 S rfl rfl rfl rfl rfl rfl (ZAC rfl Ffo90_2 S rfl) fun a S => gz 32 h1 S rfl rfl rfl rfl rfl rfl (ZAJ rfl ZAN S H rfl rfl) fun a S => gz 32 h1 S rfl rfl rfl rfl rfl rfl (ZAn rfl S rfl rfl rfl) fun a S => gq rfl S (ZAz rfl h1 S rfl rfl) fun a S => kk _ _ (S.join 6 38 rfl rfl) H
 refine q_mv S rfl fun a S => ?_
 refine' ZBH 5 39 rfl S H rfl rfl rfl rfl rfl rfl rfl (fun _ S => (wn rfl)) (fun h2 kk => ?yh2) (fun a w S H => ?_)
 case yh2 =>
  exact gz 39 h2 S rfl rfl rfl rfl rfl rfl (ZAC rfl Ffo90_1 S rfl) fun a S => gz 39 h2 S rfl rfl rfl rfl rfl rfl (ZAJ rfl ZAN S H rfl rfl) fun a S => gz 39 h2 S rfl rfl rfl rfl rfl rfl (ZAC rfl Ffo90_3 S rfl) fun a S => gz 39 h2 S rfl rfl rfl rfl rfl rfl (ZAJ rfl ZAN S H rfl rfl) fun a S => gz 39 h2 S rfl rfl rfl rfl rfl rfl (ZAn rfl S rfl rfl rfl) fun a S => gq rfl S (ZAz rfl h2 S rfl rfl) fun a S => kk _ _ (S.join 6 45 rfl rfl) H
 refine gnt ?_
 have S := S.sel [45, 6, 5, 4, 3] rfl
 refine c_if S rfl (fun h3 => ?_) (fun h3 => ?_)
 ·have h3p := h3; try simp only [DL] at h3p
  all_goals (
    exfalso
    have h9 := h3p
    rw [show crdL [p.x, p.y, q.x, q.y, x.x, x.y, x.x2, x.y2] = true by simp only [crdL, List.all_cons, List.all_nil, Bool.and_true, Bool.and_eq_true, crdB_iff]; omega] at h9
    simp at h9
    omega)
 have h3p := h3; try simp only [DL] at h3p
 refine ZAM <| ZAA <| ZAG <| gsr <| q_fa S ZBx rfl fun a S => q_ld S H ZAN rfl rfl fun a S => q_fa S ZBx rfl fun a S => q_ld S H ZAN rfl rfl fun a S => ?_
 refine gq rfl S (y_max rfl S rfl rfl) fun a S => q_fa S Ffo90_0 rfl fun a S => q_ld S H ZAN rfl rfl fun a S => q_bn S rfl fun a S => q_mv S rfl fun a S => ?_
 refine' ZBH 8 54 rfl S H rfl rfl rfl rfl rfl rfl rfl (fun _ S => (wn rfl)) (fun h4 kk => ?yh4) (fun a w S H => ?_)
 case yh4 =>
  refine gz 54 h4 S rfl rfl rfl rfl rfl rfl (ZAC rfl ZBx S rfl) fun a S => gz 54 h4 S rfl rfl rfl rfl rfl rfl (ZAJ rfl ZAN S H rfl rfl) fun a S => gz 54 h4 S rfl rfl rfl rfl rfl rfl (ZAC rfl ZBx S rfl) fun a S => gz 54 h4 S rfl rfl rfl rfl rfl rfl (ZAJ rfl ZAN S H rfl rfl) fun a S => gz 54 h4 S rfl rfl rfl rfl rfl rfl (y_min rfl S rfl rfl) fun a S => gz 54 h4 S rfl rfl rfl rfl rfl rfl (ZAC rfl Ffo90_2 S rfl) fun a S => gz 54 h4 S rfl rfl rfl rfl rfl rfl (ZAJ rfl ZAN S H rfl rfl) fun a S => gz 54 h4 S rfl rfl rfl rfl rfl rfl (ZAn rfl S rfl rfl rfl) fun a S => ?_
  exact gq rfl S (ZAz rfl h4 S rfl rfl) fun a S => kk _ _ (S.join 9 63 rfl rfl) H
 refine q_mv S rfl fun a S => ?_
 refine' ZBH 8 64 rfl S H rfl rfl rfl rfl rfl rfl rfl (fun _ S => (wn rfl)) (fun h5 kk => ?yh5) (fun a w S H => ?_)
 case yh5 =>
  refine gz 64 h5 S rfl rfl rfl rfl rfl rfl (ZAC rfl ZBy S rfl) fun a S => gz 64 h5 S rfl rfl rfl rfl rfl rfl (ZAJ rfl ZAN S H rfl rfl) fun a S => gz 64 h5 S rfl rfl rfl rfl rfl rfl (ZAC rfl ZBy S rfl) fun a S => gz 64 h5 S rfl rfl rfl rfl rfl rfl (ZAJ rfl ZAN S H rfl rfl) fun a S => gz 64 h5 S rfl rfl rfl rfl rfl rfl (y_max rfl S rfl rfl) fun a S => gz 64 h5 S rfl rfl rfl rfl rfl rfl (ZAC rfl Ffo90_1 S rfl) fun a S => gz 64 h5 S rfl rfl rfl rfl rfl rfl (ZAJ rfl ZAN S H rfl rfl) fun a S => gz 64 h5 S rfl rfl rfl rfl rfl rfl (ZAn rfl S rfl rfl rfl) fun a S => ?_
  exact gq rfl S (ZAz rfl h5 S rfl rfl) fun a S => kk _ _ (S.join 9 73 rfl rfl) H
 refine q_mv S rfl fun a S => ?_
 refine' ZBH 8 74 rfl S H rfl rfl rfl rfl rfl rfl rfl (fun _ S => (wn rfl)) (fun h6 kk => ?yh6) (fun a w S H => ?_)
 case yh6 =>
  refine gz 74 h6 S rfl rfl rfl rfl rfl rfl (ZAC rfl ZBy S rfl) fun a S => gz 74 h6 S rfl rfl rfl rfl rfl rfl (ZAJ rfl ZAN S H rfl rfl) fun a S => gz 74 h6 S rfl rfl rfl rfl rfl rfl (ZAC rfl ZBy S rfl) fun a S => gz 74 h6 S rfl rfl rfl rfl rfl rfl (ZAJ rfl ZAN S H rfl rfl) fun a S => gz 74 h6 S rfl rfl rfl rfl rfl rfl (y_min rfl S rfl rfl) fun a S => gz 74 h6 S rfl rfl rfl rfl rfl rfl (ZAC rfl Ffo90_3 S rfl) fun a S => gz 74 h6 S rfl rfl rfl rfl rfl rfl (ZAJ rfl ZAN S H rfl rfl) fun a S => gz 74 h6 S rfl rfl rfl rfl rfl rfl (ZAn rfl S rfl rfl rfl) fun a S => ?_
  exact gq rfl S (ZAz rfl h6 S rfl rfl) fun a S => kk _ _ (S.join 9 83 rfl rfl) H
 refine gnt ?_
 have S := S.sel [83, 6, 5, 4, 3] rfl
 refine c_if S rfl (fun h7 => ?_) (fun h7 => ?_)
 ·have h7p := h7; try simp only [DL] at h7p
  clear h7p
  refine gsr <| q_as S rfl fun a S => gnt <| ZAe <| ZAX (ret1 rfl S rfl ?_)
  exact ⟨congrArg Value.bool (by unfold crossB; rw [h7]; rfl), H.toExt⟩
 have h7p := h7; try simp only [DL] at h7p
 clear h7p
 refine ZAM <| ZAA <| gsr <| q_fa S Ffo90_0 rfl fun a S => q_ld S H ZAN rfl rfl fun a S => q_fa S Ffo90_1 rfl fun a S => q_ld S H ZAN rfl rfl fun a S => gq rfl S (ZAx rfl Fbld23 S rfl (idx := [0, 1]) rfl (cs := [.int .i64 x.x, .int .i64 x.y]) rfl) fun a S => ?_
 refine q_fa S Ffo90_2 rfl fun a S => q_ld S H ZAN rfl rfl fun a S => q_fa S Ffo90_1 rfl fun a S => q_ld S H ZAN rfl rfl fun a S => gq rfl S (ZAx rfl Fbld23 S rfl (idx := [0, 1]) rfl (cs := [.int .i64 x.x2, .int .i64 x.y]) rfl) fun a S => q_fa S Ffo90_0 rfl fun a S => q_ld S H ZAN rfl rfl fun a S => q_fa S Ffo90_3 rfl fun a S => ?_
 refine q_ld S H ZAN rfl rfl fun a S => gq rfl S (ZAx rfl Fbld23 S rfl (idx := [0, 1]) rfl (cs := [.int .i64 x.x, .int .i64 x.y2]) rfl) fun a S => q_fa S Ffo90_2 rfl fun a S => q_ld S H ZAN rfl rfl fun a S => q_fa S Ffo90_3 rfl fun a S => q_ld S H ZAN rfl rfl fun a S => gq rfl S (ZAx rfl Fbld23 S rfl (idx := [0, 1]) rfl (cs := [.int .i64 x.x2, .int .i64 x.y2]) rfl) fun a S => gq rfl S (ZAx rfl Fbld210 S rfl (idx := [0, 1, 2, 3]) rfl (cs := [.int .i64 x.x, .int .i64 x.y, .int .i64 x.x2, .int .i64 x.y, .int .i64 x.x, .int .i64 x.y2, .int .i64 x.x2, .int .i64 x.y2]) (by kernel_rfl)) fun a S => ?_
 refine q_al S H rfl Fzer210 fun b7 a w S H => ZAF (ZAQ (wn rfl) rfl rfl S H rfl rfl rfl Fsiz210 rfl (cs' := [_, _, _, _, _, _, _, _]) rfl fun a w S H => gnt ?_)
 have S := S.sel [7, 6, 4, 3] rfl
 refine gsr <| q_as S rfl fun a S => q_as S rfl fun a S => gnt <| ZAG <| gsr <| gq rfl S (ZAb rfl S H rfl (by exact Fagg210)) fun a S => ?_
 refine q_mv S rfl fun a S => gnt <| ZAD ?_
 have SU := S.sel [105, 6, 4, 3] rfl
 refine ZB4 (X := Nat) SU (fun k => [(106, .int .i64 (k : Int)), (8, .int .i64 (cntS p q x posB k : Int)), (9, .int .i64 (cntS p q x negB k : Int))]) (fun k => k ≤ 4) (fun k => 4 - k) 0 (S.sel [106, 8, 9] rfl) H (by omega) (fun k a w S H hi => ?_)
 simp only [List.cons_append, List.nil_append] at S hi
 have hk := hi
 refine gsr <| q_bn S rfl fun a S => gnt <| ZAG <| c_if S rfl (fun h8 => ?_) (fun h8 => ?_)
 ·have h8p := h8; try simp only [DL] at h8p
  have hk4 : k < (cs4 x).length := by rw [cs4_len]; omega
  have hL := cntS_s p q x posB hk4
  have hR := cntS_s p q x negB hk4
  have hL2 := cntS_le p q x posB k
  have hR2 := cntS_le p q x negB k
  refine ZAM ?_
  refine ZAA ?_
  refine ZAG ?_
  refine ZAD ?_
  refine gsr ?_
  refine gq rfl S ((y_index rfl S rfl rfl (corner_at x w k hk4))) fun a S => ?_
  refine q_al S H rfl Fzer23 fun b11 a w S H => ?_
  refine ZAF (ZAQ (wn rfl) rfl rfl S H rfl rfl rfl Fsiz23 rfl (cs' := [_, _]) rfl fun a w S H => gnt ?_)
  refine gsr <| gq rfl S (ZAb rfl S H rfl (by exact Fagg23)) fun a S => ?_
  refine gq rfl S (ZAb rfl S H rfl (by exact Fagg23)) fun a S => ?_
  refine gq rfl S (ZAb rfl S H rfl (by exact Fagg23)) fun a S => ?_
  refine q_cl S rfl call122 (side_spec p q (cs4 x)[k] _ hp hq (cs4_mem hx hk4)) fun v w hc a S => ?_
  obtain ⟨rfl, he⟩ := hc
  have H := H.ext he
  refine q_as S rfl fun a S => gnt ?_
  have S := S.sel [12, 106, 8, 9, 105, 6, 4, 3] rfl
  refine ZAD <| gsr <| q_mv S rfl fun a S => q_bn S rfl fun a S => q_as S rfl fun a S => gnt <| c_if S rfl (fun h9 => ?_) (fun h9 => ?_)
  ·have h9p := h9; try simp only [DL] at h9p
   rw [if_pos (show posB (sideI p q (cs4 x)[k]) = true from decide_eq_true h9p)] at hL
   rw [if_neg (show ¬ negB (sideI p q (cs4 x)[k]) = true by unfold negB; rw [decide_eq_true_eq]; have := h9p; omega)] at hR
   refine ZAB <| q_mv S rfl fun a S => q_ad S rfl (by omega) fun a S => ?_
   refine q_as S rfl fun a S => ZAj <| ZAK <| ZAK <| ZAA ?_
   have S := S.sel [8, 106, 9, 105, 6, 4, 3] rfl
   refine ZAB <| q_ad S rfl (by omega) fun a S => ?_
   exact q_mv S rfl fun a S => gnt <| ⟨k + 1, ((S.nil.cons S 9 (by first | (rw [hR, Nat.add_zero]; rfl) | (rw [hR, Int.natCast_add]; rfl))).cons S 8 (by first | (rw [hL, Nat.add_zero]; rfl) | (rw [hL, Int.natCast_add]; rfl))).cons S 106 rfl, S.sel [105, 6, 4, 3] rfl, H.drop 1, by omega, by omega⟩
  have h9p := h9; try simp only [DL] at h9p
  rw [if_neg (show ¬ posB (sideI p q (cs4 x)[k]) = true by unfold posB; rw [decide_eq_true_eq]; have := h9p; omega)] at hL
  refine gsr <| q_mv S rfl fun a S => q_bn S rfl fun a S => q_as S rfl fun a S => gnt ?_
  have S := S.sel [118, 106, 8, 9, 105, 6, 4, 3] rfl
  refine c_if S rfl (fun h10 => ?_) (fun h10 => ?_)
  ·have h10p := h10; try simp only [DL] at h10p
   rw [if_pos (show negB (sideI p q (cs4 x)[k]) = true from decide_eq_true h10p)] at hR
   refine ZAB <| q_mv S rfl fun a S => q_ad S rfl (by omega) fun a S => ?_
   refine q_as S rfl fun a S => ZAj <| ZAK <| ZAK <| ZAA ?_
   have S := S.sel [9, 106, 8, 105, 6, 4, 3] rfl
   refine ZAB <| q_ad S rfl (by omega) fun a S => ?_
   exact q_mv S rfl fun a S => gnt <| ⟨k + 1, ((S.nil.cons S 9 (by first | (rw [hR, Nat.add_zero]; rfl) | (rw [hR, Int.natCast_add]; rfl))).cons S 8 (by first | (rw [hL, Nat.add_zero]; rfl) | (rw [hL, Int.natCast_add]; rfl))).cons S 106 rfl, S.sel [105, 6, 4, 3] rfl, H.drop 1, by omega, by omega⟩
  have h10p := h10; try simp only [DL] at h10p
  rw [if_neg (show ¬ negB (sideI p q (cs4 x)[k]) = true by unfold negB; rw [decide_eq_true_eq]; have := h10p; omega)] at hR
  refine ZAM <| ZAK <| ZAK <| ZAA <| ZAB <| q_ad S rfl (by omega) fun a S => ?_
  exact q_mv S rfl fun a S => gnt <| ⟨k + 1, ((S.nil.cons S 9 (by first | (rw [hR, Nat.add_zero]; rfl) | (rw [hR, Int.natCast_add]; rfl))).cons S 8 (by first | (rw [hL, Nat.add_zero]; rfl) | (rw [hL, Int.natCast_add]; rfl))).cons S 106 rfl, S.sel [105, 6, 4, 3] rfl, H.drop 1, by omega, by omega⟩
 have h8p := h8; try simp only [DL] at h8p
 obtain rfl : k = 4 := by omega
 refine ZAf <| ZAO (ZAO (x_eq ?_))
 refine ZAA ?_
 have S := S.sel [8, 9, 6] rfl
 refine gsr <| q_mv S rfl fun a S => q_bn S rfl fun a S => q_mv S rfl fun a S => ?_
 refine' wl_and 2 126 rfl S H rfl rfl rfl rfl rfl rfl rfl (fun _ S => (wn rfl)) (fun h11 kk => ?yh11) (fun a w S H => ?_)
 case yh11 =>
  exact gz 126 h11 S rfl rfl rfl rfl rfl rfl (ZAL rfl S rfl) fun a S => gz 126 h11 S rfl rfl rfl rfl rfl rfl (ZAn rfl S rfl rfl rfl) fun a S => gq rfl S (ZBf rfl h11 S rfl rfl) fun a S => kk _ _ (S.join 3 129 rfl rfl) H
 refine q_as S rfl fun a S => gnt ?_
 have S := S.sel [6] rfl
 exact ZAe <| ret1 rfl S rfl <| ⟨congrArg Value.bool (by unfold crossB; rw [h7, Bool.not_false, Bool.true_and]; congr 1 <;> exact decide_eq_decide.2 (by omega)), H.toExt⟩
def distI (h : HallV) (L : LevV) (p : PtV) : Int := (p.x - h.stage.x) * (p.x - h.stage.x) + (p.y - h.stage.y) * (p.y - h.stage.y) + L.height * L.height
def farI (h : HallV) (L : LevV) (p : PtV) : Int := if distI h L p > 9000000 then (if distI h L p > 1000000 then 0 + 1 else 0) + 1 else (if distI h L p > 1000000 then 0 + 1 else 0)
def crossN (h : HallV) (L : LevV) (p : PtV) (k : Nat) : Nat := ((L.pillars.take k).filter fun b => crossB p h.stage b).length
def ZBo (h : HallV) (L : LevV) (p : PtV) : Int := if crdL [p.x, p.y, h.stage.x, h.stage.y, L.height] = true then min (farI h L p + (crossN h L p L.pillars.length : Int)) 3 else 3
theorem farI_bd (h : HallV) (L : LevV) (p : PtV) : 0 ≤ farI h L p ∧ farI h L p ≤ 2 := by unfold farI; split <;> split <;> omega
theorem crossN_le (h : HallV) (L : LevV) (p : PtV) (k : Nat) : crossN h L p k ≤ k := by
  unfold crossN
  refine Nat.le_trans (List.length_filter_le _ _) ?_
  rw [List.length_take]; omega
theorem crossN_s (h : HallV) (L : LevV) (p : PtV) {k : Nat} (hk : k < L.pillars.length) : (crossN h L p (k + 1) : Int) = if crossB p h.stage L.pillars[k] = true then (crossN h L p k : Int) + 1 else (crossN h L p k : Int) := by
  unfold crossN
  rw [List.take_succ_eq_append_getElem hk, List.filter_append, List.length_append]
  by_cases h2 : crossB p h.stage L.pillars[k] = true <;> simp [h2]
theorem worse_spec {M : Nat → Prop} {u0 : World} {l : List Atom} (c : Nat) (v : Int) (q : Bool) (w0 : World) (hv : 0 ≤ v ∧ v ≤ 1000000000) (h0 : HSat M u0 (Cel c 3 [.int .i64 v] :: l) w0) :
    Ret Tryz.prog 103 #[.bool q, .pointer (some ⟨c, 0, none⟩)] w0 (fun u w => HSat M u0 (Cel c 3 [.int .i64 (if q = true then v + 1 else v)] :: l) w) := by
 refine ZAE (nt := 6) Tryz.func103 rfl rfl rfl (fl := [(0, .bool q), (1, .pointer (some ⟨c, 0, none⟩))]) rfl (fun a S => ?_)
 have H := h0
 refine gsr <| q_mv S rfl fun a S => gnt <| c_if S rfl (fun h1 => ?_) (fun h1 => ?_)
 ·have h1p := h1; try simp only [DL] at h1p
  refine ZAB <| q_ld S H ZAN rfl rfl fun a S => q_ad S rfl (by omega) fun a S => ?_
  refine q_st S H rfl rfl ZA5 rfl fun a w S H => ?_
  dsimp only [List.set, Nat.zero_add, Nat.reduceAdd] at H
  refine ZAj <| ZB1 rfl S ?_
  rw [if_pos h1]; exact H
 refine ZAM <| ZB1 rfl S ?_
 rw [if_neg (by rw [h1]; simp)]; exact H
set_option maxHeartbeats 2000000 in
theorem view_spec (h : HallV) (n : Nat) (p : PtV) (w0 : World) (hH : (ZAU h).ok w0) (hn : n < h.levels.length) (hbx : ∀ b ∈ h.levels[n].pillars, boxB b = true) (hbl : h.levels[n].pillars.length ≤ 1048576) :
    Ret Tryz.prog 71 #[.agg (HallV.enc h).toArray, .int .i64 (n : Int), .agg (PtV.enc p).toArray] w0 (fun u w => u = .int .i64 (ZBo h h.levels[n] p) ∧ Ext w0 w) := by
 refine ZAE (nt := 95) Tryz.func71 rfl rfl rfl (fl := [(0, .agg (HallV.enc h).toArray), (1, .int .i64 (n : Int)), (2, .agg (PtV.enc p).toArray)]) rfl (fun a S => ?_)
 have H := HSat.start w0
 have H := H.ro0 (Sl h.lv 8 LevV.enc h.levels) rfl (ZBE hH)
 have hl5 := (ZBE hH).len
 obtain ⟨L, hL⟩ : ∃ L, L = h.levels[n] := ⟨_, rfl⟩
 have hLn : h.levels[n] = L := hL.symm
 have hLm : L ∈ h.levels := hL ▸ List.getElem_mem hn
 have hLa := hall_lev hH hLm
 have hLall := lev_all hLa
 rw [hLn] at hbx hbl
 rw [hLn]
 have H := H.ro0 (Sl L.pv 4 BoxV.enc L.pillars) rfl (lev_pillars hLa)
 have hfb := farI_bd h L p
 refine gsr <| ZAF (ZAu (wn rfl) rfl rfl rfl S H rfl fun b3 a w S H => ZAF (ZAu (wn rfl) rfl rfl rfl S H rfl fun b5 a w S H => q_as S rfl fun a S => gnt ?_))
 refine ZAG <| gsr <| q_mv S rfl fun a S => q_bn S rfl fun a S => q_mv S rfl fun a S => ?_
 refine' ZBH 5 17 rfl S H rfl rfl rfl rfl rfl rfl rfl (fun _ S => (wn rfl)) (fun h1 kk => ?yh1) (fun a w S H => ?_)
 case yh1 =>
  exact gz 17 h1 S rfl rfl rfl rfl rfl rfl (ZAL rfl S rfl) fun a S => gz 17 h1 S rfl rfl rfl rfl rfl rfl (ZAC rfl ZBi S rfl) fun a S => gz 17 h1 S rfl rfl rfl rfl rfl rfl (ZAJ rfl Fsca24 S H rfl rfl) fun a S => gz 17 h1 S rfl rfl rfl rfl rfl rfl (ZAT rfl underlying24 S H rfl) fun a S => gz 17 h1 S rfl rfl rfl rfl rfl rfl (ZAn rfl S rfl rfl rfl) fun a S => gq rfl S (ZAz rfl h1 S rfl rfl) fun a S => kk _ _ (S.join 6 23 rfl rfl) H
 refine gnt ?_
 have S := S.sel [23, 6, 5, 3, 1] rfl
 refine c_if S rfl (fun h2 => ?_) (fun h2 => ?_)
 ·have h2p := h2; try simp only [DL] at h2p
  all_goals (
    exfalso
    have h9 := h2p
    omega)
 have h2p := h2; try simp only [DL] at h2p
 refine ZAM <| ZAA <| gsr <| q_fa S ZBi rfl fun a S => q_ld S H Fsca24 rfl rfl fun a S => q_mv S rfl fun a S => gq rfl S (ZAI rfl underlying24 Fsiz79 S H rfl rfl (by omega)) fun a S => ?_
 refine gq rfl S (ZAk _ rfl S H rfl (by exact Fagg79) (by omega)) fun a S => ?_
 rw [hLn] at S
 refine q_al S H rfl Fzer79 fun b7 a w S H => ZAF (ZAQ (wn rfl) rfl rfl S H rfl rfl hLall Fsiz79 rfl (cs' := [_, _, _, _, _, _, _, _]) rfl fun a w S H => gnt ?_)
 have S := S.sel [7, 6, 5, 3] rfl
 refine ZAG <| gsr <| q_fa S ZBx rfl fun a S => q_ld S H ZAN rfl rfl fun a S => q_fa S ZBy rfl fun a S => q_ld S H ZAN rfl rfl fun a S => q_fa S Ffo26_1 rfl fun a S => q_fa S ZBx rfl fun a S => ?_
 refine q_ld S H ZAN rfl rfl fun a S => q_fa S Ffo26_1 rfl fun a S => q_fa S ZBy rfl fun a S => q_ld S H ZAN rfl rfl fun a S => q_fa S Ffo79_1 rfl fun a S => q_ld S H ZAN rfl rfl fun a S => ZAF (ZAP (wn rfl) rfl rfl rfl underlying37 Finf3 S H (idx := [0, 1, 2, 3, 4]) rfl rfl rfl (z := [.int .i64 0, .int .i64 0, .int .i64 0, .int .i64 0, .int .i64 0]) (by kernel_rfl) (cs := [.int .i64 p.x, .int .i64 p.y, .int .i64 h.stage.x, .int .i64 h.stage.y, .int .i64 L.height]) (by kernel_rfl) fun b41 a w S H => ?_)
 refine q_cl S rfl call102 (scrd_spec _ [p.x, p.y, h.stage.x, h.stage.y, L.height] _ (H.slb b41 [p.x, p.y, h.stage.x, h.stage.y, L.height] encI 1 rfl rfl (by intro y _; rfl) (by simp))) fun v w hc a S => ?_
 obtain ⟨rfl, he⟩ := hc
 have H := H.ext he
 refine gq rfl S (ZBV rfl S rfl) fun a S => gnt ?_
 have S := S.sel [43, 7, 6, 5, 3] rfl
 refine c_if S rfl (fun h3 => ?_) (fun h3 => ?_)
 ·have h3p := h3; try simp only [DL] at h3p
  have hno : ¬ crdL [p.x, p.y, h.stage.x, h.stage.y, L.height] = true := by have := h3p; simp [this]
  refine gsr <| q_as S rfl fun a S => gnt <| ZAe <| ZAX (ret1 rfl S rfl ?_)
  exact ⟨by unfold ZBo; rw [if_neg hno], H.toExt⟩
 have h3p := h3; try simp only [DL] at h3p
 have hyes : crdL [p.x, p.y, h.stage.x, h.stage.y, L.height] = true := by have := h3p; simpa using this
 have hcrd := hyes
 simp only [crdL, List.all_cons, List.all_nil, Bool.and_true, Bool.and_eq_true, crdB_iff] at hcrd
 have hcp : crdP p := by unfold crdP; omega
 have hcs : crdP h.stage := by unfold crdP; omega
 have hm1 := mul_s (p := p.x - h.stage.x) (q := p.x - h.stage.x) (by omega)
 have hm2 := mul_s (p := p.y - h.stage.y) (q := p.y - h.stage.y) (by omega)
 have hm3 := mul_s (p := L.height) (q := L.height) (by omega)
 refine ZAM <| ZAA <| gsr <| q_al S H rfl Fzer3 fun b8 a w S H => q_st S H rfl rfl ZA5 rfl fun a w S H => ?_
 dsimp only [List.set, Nat.zero_add, Nat.reduceAdd] at H
 refine gnt <| gsr <| gq rfl S (ZAd rfl S rfl rfl) fun a S => q_as S rfl fun a S => gnt <| ZAG <| ZAZ (loud := []) (tails := []) (free := []) [0, 1, 2, 3, 4, 5, 6, 7, 8, 9, 10, 11, 12, 13] [] Fmo (by kernel_rfl) (by kernel_rfl) rfl H ?_
 refine m_q rfl S (fun w H => ZAC rfl ZBx S rfl) fun a S => m_q rfl S (fun w H => ZAJ rfl ZAN S H rfl rfl) fun a S => m_q rfl S (fun w H => ZAC rfl Ffo26_1 S rfl) fun a S => m_q rfl S (fun w H => ZAC rfl ZBx S rfl) fun a S => m_q rfl S (fun w H => ZAJ rfl ZAN S H rfl rfl) fun a S => m_q rfl S (fun w H => y_sub rfl S rfl rfl (by omega)) fun a S => ?_
 refine m_q rfl S (fun w H => ZAC rfl ZBy S rfl) fun a S => m_q rfl S (fun w H => ZAJ rfl ZAN S H rfl rfl) fun a S => m_q rfl S (fun w H => ZAC rfl Ffo26_1 S rfl) fun a S => m_q rfl S (fun w H => ZAC rfl ZBy S rfl) fun a S => m_q rfl S (fun w H => ZAJ rfl ZAN S H rfl rfl) fun a S => m_q rfl S (fun w H => y_sub rfl S rfl rfl (by omega)) fun a S => ?_
 refine m_q rfl S (fun w H => ZA1 rfl S rfl) fun a S => m_q rfl S (fun w H => ZA1 rfl S rfl) fun a S => ZBY (fun w H => ZAA ?_)
 have S := S.sel [11, 10, 9, 8, 7, 6, 5, 3] rfl
 refine gsr <| q_mv S rfl fun a S => q_mv S rfl fun a S => gq rfl S (y_mul rfl S rfl rfl (by omega)) fun a S => ?_
 refine q_mv S rfl fun a S => q_mv S rfl fun a S => gq rfl S (y_mul rfl S rfl rfl (by omega)) fun a S => ?_
 refine q_ad S rfl (by omega) fun a S => ?_
 refine q_fa S Ffo79_1 rfl fun a S => q_ld S H ZAN rfl rfl fun a S => q_fa S Ffo79_1 rfl fun a S => q_ld S H ZAN rfl rfl fun a S => gq rfl S (y_mul rfl S rfl rfl (by omega)) fun a S => ?_
 refine q_ad S rfl (by omega) fun a S => ?_
 rw [show (p.x - h.stage.x) * (p.x - h.stage.x) + (p.y - h.stage.y) * (p.y - h.stage.y) + L.height * L.height = distI h L p from rfl] at S
 refine q_as S rfl fun a S => gnt ?_
 have S := S.sel [12, 9, 8, 7, 6, 5, 3] rfl
 refine gsr <| q_mv S rfl fun a S => q_mv S rfl fun a S => q_bn S rfl fun a S => ZAF (ZAV (wn rfl) rfl rfl S (ZAp rfl call103 S rfl rfl) (worse_spec b8 0 _ _ (by omega) (H.front (Cel b8 3 [.int .i64 0]))) fun v w hc a S => ?_)
 have H := hc
 simp only [decide_eq_true_eq] at H
 refine gnt ?_
 have S := S.sel [12, 9, 8, 7, 6, 5, 3] rfl
 refine gsr <| q_mv S rfl fun a S => q_mv S rfl fun a S => q_bn S rfl fun a S => ZAF (ZAV (wn rfl) rfl rfl S (ZAp rfl call103 S rfl rfl) (worse_spec b8 (if distI h L p > 1000000 then 0 + 1 else 0) _ _ (by split <;> omega) (H.front (Cel b8 3 [.int .i64 (if distI h L p > 1000000 then 0 + 1 else 0)]))) fun v w hc a S => ?_)
 have H := hc
 simp only [decide_eq_true_eq] at H
 rw [show (if distI h L p > 9000000 then (if distI h L p > 1000000 then 0 + 1 else 0) + 1 else (if distI h L p > 1000000 then 0 + 1 else 0)) = farI h L p from rfl] at H
 have H := H.take [Cel b8 3 [.int .i64 (farI h L p)], Cel b7 79 [.string L.name, .int .i64 L.height, L.bv, L.av, L.iv, L.pv, L.dv, .int .i64 L.at_], Cel b5 23 (PtV.enc p), Cel b3 26 (HallV.enc h), Sl L.pv 4 BoxV.enc L.pillars, Sl h.lv 8 LevV.enc h.levels]
 refine gnt ?_
 have S := S.sel [9, 8, 7, 6, 5, 3] rfl
 refine ZAG <| gsr <| q_fa S Ffo79_5 rfl fun a S => q_ld S H Fsca76 rfl rfl fun a S => gq rfl S (ZAT rfl underlying76 S H rfl) fun a S => q_mv S rfl fun a S => gnt <| ZAD ?_
 have SU := S.sel [80, 79, 9, 8, 6, 5, 3] rfl
 refine ZBL (X := Nat) SU (fun k => [(81, .int .i64 (k : Int))]) (fun k w => k ≤ L.pillars.length ∧ HSat No w0 [Cel b8 3 [.int .i64 (farI h L p + (crossN h L p k : Int))], Cel b7 79 [.string L.name, .int .i64 L.height, L.bv, L.av, L.iv, L.pv, L.dv, .int .i64 L.at_], Cel b5 23 (PtV.enc p), Cel b3 26 (HallV.enc h), Sl L.pv 4 BoxV.enc L.pillars, Sl h.lv 8 LevV.enc h.levels] w) (fun k => L.pillars.length - k) 0 (S.sel [81] rfl) (⟨Nat.zero_le _, by have hH2 := H; rw [show farI h L p = farI h L p + ((crossN h L p 0 : Nat) : Int) by simp [crossN]] at hH2; exact hH2⟩) (fun k a w S hW => ?_)
 simp only [List.cons_append, List.nil_append] at S
 obtain ⟨hkk, H⟩ := hW
 refine gsr <| q_bn S rfl fun a S => gnt <| ZAG <| c_if S rfl (fun h4 => ?_) (fun h4 => ?_)
 ·have h4p := h4; try simp only [DL] at h4p
  have hkl : k < L.pillars.length := by omega
  have hcn := crossN_s h L p hkl
  refine ZAM <| ZAA <| ZAG <| ZAD <| gsr <| gq rfl S (ZAI rfl underlying76 Fsiz90 S H rfl rfl (by omega)) fun a S => ?_
  refine gq rfl S (ZAk _ rfl S H rfl (by exact Fagg90) (by omega)) fun a S => ?_
  refine q_al S H rfl Fzer90 fun b14 a w S H => ZAF (ZAQ (wn rfl) rfl rfl S H rfl rfl rfl Fsiz90 rfl (cs' := [_, _, _, _]) rfl fun a w S H => gnt ?_)
  refine ZAB <| q_mv S rfl fun a S => gq rfl S (ZAb rfl S H rfl (by exact Fagg23)) fun a S => ?_
  refine q_fa S Ffo26_1 rfl fun a S => gq rfl S ((y_loadp (vs := PtV.enc h.stage) rfl S H rfl (by exact Fagg23) rfl)) fun a S => ?_
  refine gq rfl S (ZAb rfl S H rfl (by exact Fagg90)) fun a S => ?_
  rw [show Value.agg #[.int .i64 L.pillars[k].x, .int .i64 L.pillars[k].y, .int .i64 L.pillars[k].x2, .int .i64 L.pillars[k].y2] = Value.agg (BoxV.enc L.pillars[k]).toArray from rfl] at S
  refine q_cl S rfl call104 (crosses_spec p h.stage L.pillars[k] _ hcp hcs (hbx _ (List.getElem_mem hkl))) fun v w hc a S => ?_
  obtain ⟨rfl, he⟩ := hc
  have H := H.ext he
  refine ZAF (ZAV (wn rfl) rfl rfl S (ZAp rfl call103 S rfl rfl) (worse_spec b8 (farI h L p + (crossN h L p k : Int)) _ _ (by have := crossN_le h L p k; omega) (H.front (Cel b8 3 [.int .i64 (farI h L p + (crossN h L p k : Int))]))) fun v w hc a S => ?_)
  have H := hc
  refine ZAj <| ZAK <| ZAA ?_
  have S := S.sel [81, 80, 79, 9, 8, 6, 5, 3] rfl
  refine ZAB <| q_ad S rfl (by omega) fun a S => ?_
  exact q_mv S rfl fun a S => gnt <| ⟨k + 1, S.sel [81] rfl, S.sel [80, 79, 9, 8, 6, 5, 3] rfl, ⟨by omega, by rw [hcn, show farI h L p + (if crossB p h.stage L.pillars[k] = true then (crossN h L p k : Int) + 1 else (crossN h L p k : Int)) = if crossB p h.stage L.pillars[k] = true then farI h L p + (crossN h L p k : Int) + 1 else farI h L p + (crossN h L p k : Int) by split <;> omega]; exact H.take _⟩, by omega⟩
 have h4p := h4; try simp only [DL] at h4p
 obtain rfl : k = L.pillars.length := by omega
 have hcn := crossN_le h L p L.pillars.length
 refine ZAf <| ZAO (ZAO (x_eq ?_))
 refine ZAA ?_
 have S := S.sel [8, 6] rfl
 refine gsr <| q_ld S H ZAN rfl rfl fun a S => gq rfl S (y_min rfl S rfl rfl) fun a S => q_as S rfl fun a S => gnt ?_
 have S := S.sel [6] rfl
 exact ZAe <| ret1 rfl S rfl <| ⟨by unfold ZBo; rw [if_pos hyes], H.toExt⟩
def mkPl (h : HallV) (n : Nat) (L : LevV) (i k : Nat) (r : RowV) (s x : Int) : Pl :=
  if (markR r s).kind = 3 then ⟨0, n, i, k, s, x, r.y, max (ZBo h L ⟨x, r.y⟩) 2, -1⟩
  else if (markR r s).kind = 2 then ⟨1, n, i, k, s, x, r.y, ZBo h L ⟨x, r.y⟩, -1⟩
  else if (markR r s).kind = 4 then ⟨2, n, i, k, s, x, r.y, ZBo h L ⟨x, r.y⟩, -1⟩
  else ⟨0, n, i, k, s, x, r.y, ZBo h L ⟨x, r.y⟩, -1⟩
set_option maxHeartbeats 4000000 in
theorem place1_spec {M : Nat → Prop} {u0 : World} {l : List Atom} (h : HallV) (n i k : Nat) (L : LevV) (r : RowV) (vo : Value) (out : List Pl) (m : Int → Option Int) (c : Nat) (s x : Int) (b4 b6 b8 b9 b1 b3 b10 bm : Nat) (w0 : World) (hH : (ZAU h).ok w0) (hn : n < h.levels.length) (hL : h.levels[n] = L) (hbx : ∀ b ∈ L.pillars, boxB b = true) (hbl : L.pillars.length ≤ 1048576) (ho : out.length ≤ 10000000) (h0 : HSat M u0 (Cel b3 30 [vo] :: OSl 57 vo 9 Pl.enc out :: MapA bm (fun n : Int => Value.int .i64 n) (fun n : Int => Value.int .i64 n) (m) c :: Cel b10 144 [.map (some bm)] :: Cel b4 3 [.int .i64 (n : Int)] :: Cel b6 3 [.int .i64 (i : Int)] :: Cel b8 3 [.int .i64 (k : Int)] :: Cel b9 70 [.string r.name, .int .i64 r.x, .int .i64 r.y, .int .i64 r.from_, .int .i64 r.to_, .int .i64 r.step, r.mv, .int .i64 r.at_] :: Cel b1 26 (HallV.enc h) :: Sl r.mv 3 MarkV.enc r.marks :: ZAU h :: l) w0) :
    Ret Tryz.prog 70 #[.int .i64 s, .int .i64 x, .pointer (some ⟨b4, 0, none⟩), .pointer (some ⟨b6, 0, none⟩), .pointer (some ⟨b8, 0, none⟩), .pointer (some ⟨b9, 0, none⟩), .pointer (some ⟨b1, 0, none⟩), .pointer (some ⟨b3, 0, none⟩), .pointer (some ⟨b10, 0, none⟩)] w0 (fun _ w => ∃ vo2 c2, HSat M u0 (Cel b3 30 [vo2] :: OSl 57 vo2 9 Pl.enc (out ++ [mkPl h n L i k r s x]) :: MapA bm (fun n : Int => Value.int .i64 n) (fun n : Int => Value.int .i64 n) (upd m s (out.length : Int)) c2 :: Cel b10 144 [.map (some bm)] :: Cel b4 3 [.int .i64 (n : Int)] :: Cel b6 3 [.int .i64 (i : Int)] :: Cel b8 3 [.int .i64 (k : Int)] :: Cel b9 70 [.string r.name, .int .i64 r.x, .int .i64 r.y, .int .i64 r.from_, .int .i64 r.to_, .int .i64 r.step, r.mv, .int .i64 r.at_] :: Cel b1 26 (HallV.enc h) :: Sl r.mv 3 MarkV.enc r.marks :: ZAU h :: l) w) := by
 refine ZAE (nt := 51) Tryz.func70 rfl rfl rfl (fl := [(0, .int .i64 s), (1, .int .i64 x), (2, .pointer (some ⟨b4, 0, none⟩)), (3, .pointer (some ⟨b6, 0, none⟩)), (4, .pointer (some ⟨b8, 0, none⟩)), (5, .pointer (some ⟨b9, 0, none⟩)), (6, .pointer (some ⟨b1, 0, none⟩)), (7, .pointer (some ⟨b3, 0, none⟩)), (8, .pointer (some ⟨b10, 0, none⟩))]) rfl (fun a S => ?_)
 have H := h0
 refine ZAG <| ZAZ (loud := [15, 16]) (tails := [16]) (free := []) [0, 1, 2, 3, 4, 5, 6, 7, 8, 9, 10, 11, 12, 13, 14, 15, 16] [] Fmo (by kernel_rfl) (by kernel_rfl) rfl H ?_
 refine m_q rfl S (fun w H => ZAJ rfl ZAN S H rfl rfl) fun a S => m_q rfl S (fun w H => ZAJ rfl ZAN S H rfl rfl) fun a S => m_q rfl S (fun w H => ZAJ rfl ZAN S H rfl rfl) fun a S => m_q rfl S (fun w H => ZAL rfl S rfl) fun a S => m_q rfl S (fun w H => ZAL rfl S rfl) fun a S => m_q rfl S (fun w H => ZAC rfl Ffo70_2 S rfl) fun a S => m_q rfl S (fun w H => ZAJ rfl ZAN S H rfl rfl) fun a S => m_q rfl S (fun w H => ZAb rfl S H rfl (by exact Fagg26)) fun a S => ?_
 refine m_q rfl S (fun w H => ZAJ rfl ZAN S H rfl rfl) fun a S => m_q rfl S (fun w H => ZAL rfl S rfl) fun a S => m_q rfl S (fun w H => ZAC rfl Ffo70_2 S rfl) fun a S => m_q rfl S (fun w H => ZAJ rfl ZAN S H rfl rfl) fun a S => m_q rfl S (fun w H => ZAx rfl Fbld23 S rfl (idx := [0, 1]) rfl (cs := [.int .i64 x, .int .i64 r.y]) rfl) fun a S => m_c rfl rfl (wn rfl) rfl rfl S (fun w => ZAi rfl call71 S rfl) (fun w H => (by have hv := view_spec h n ⟨x, r.y⟩ _ (H.ok (ZAU h) (by simp)) hn (by rw [hL]; exact hbx) (by rw [hL]; exact hbl); rw [hL] at hv; exact hv)) fun a S => ?_
 refine m_q rfl S (fun w H => ZAx rfl Fbld57 S rfl (idx := [1, 2, 3, 4, 5, 6, 7, 8]) rfl (cs := [.int .i64 0, .int .i64 (n : Int), .int .i64 (i : Int), .int .i64 (k : Int), .int .i64 s, .int .i64 x, .int .i64 r.y, .int .i64 (ZBo h L ⟨x, r.y⟩), .int .i64 (-1)]) (by kernel_rfl)) fun a S => ?_
 refine m_l rfl rfl (fun w H => ZAh (wn rfl) rfl rfl rfl S H Fzer57 fun b11 a w S H => m_next H (List.sublist_cons_self _ _) ?_)
 refine m_l rfl rfl (fun w H => ZAQ (wn rfl) rfl rfl S H rfl rfl rfl Fsiz57 rfl (cs' := [_, _, _, _, _, _, _, _, _]) rfl fun a w S H => m_tail H rfl ?_)
 refine ZBY (fun w H => ZAA ?_)
 have S := S.sel [11, 0, 5, 7, 8] rfl
 refine ZAG <| gsr <| gq rfl S (ZAb rfl S H rfl (by exact Fagg70)) fun a S => ?_
 refine q_mv S rfl fun a S => q_cl S rfl call57 (mark_spec r s _ (H.sl r.mv)) fun v w hc a S => ?_
 obtain ⟨rfl, he⟩ := hc
 have H := H.ext he
 refine gq rfl S ((y_fieldX rfl S rfl (mark_field0 _ _))) fun a S => gnt ?_
 have S := S.sel [30, 11, 0, 7, 8] rfl
 refine cut (fun a w => ∃ P : Pl, P = mkPl h n L i k r s x ∧ St 51 [(0, .int .i64 s), (7, .pointer (some ⟨b3, 0, none⟩)), (8, .pointer (some ⟨b10, 0, none⟩)), (11, .pointer (some ⟨b11, 0, none⟩))] a ∧ HSat M u0 (Cel b11 57 [.int .i64 P.kind, .int .i64 P.level, .int .i64 P.block, .int .i64 P.row, .int .i64 P.seat, .int .i64 P.x, .int .i64 P.y, .int .i64 P.view, .int .i64 P.with_] :: Cel b3 30 [vo] :: OSl 57 vo 9 Pl.enc out :: MapA bm (fun n : Int => Value.int .i64 n) (fun n : Int => Value.int .i64 n) (m) c :: Cel b10 144 [.map (some bm)] :: Cel b4 3 [.int .i64 (n : Int)] :: Cel b6 3 [.int .i64 (i : Int)] :: Cel b8 3 [.int .i64 (k : Int)] :: Cel b9 70 [.string r.name, .int .i64 r.x, .int .i64 r.y, .int .i64 r.from_, .int .i64 r.to_, .int .i64 r.step, r.mv, .int .i64 r.at_] :: Cel b1 26 (HallV.enc h) :: Sl r.mv 3 MarkV.enc r.marks :: ZAU h :: l) w) ?_ ?_
 ·skip
  refine ZAD <| gsr <| q_bn S rfl fun a S => q_as S rfl fun a S => gnt <| c_if S rfl (fun h1 => ?_) (fun h1 => ?_)
  ·have h1p := h1; try simp only [DL] at h1p
   refine ZAB <| q_fa S Ffo57_7 rfl fun a S => q_ld S H ZAN rfl rfl fun a S => gq rfl S (y_max rfl S rfl rfl) fun a S => q_fa S Ffo57_7 rfl fun a S => q_st S H rfl rfl ZA5 rfl fun a w S H => ?_
   dsimp only [List.set, Nat.zero_add, Nat.reduceAdd] at H
   refine ZAj <| ZAK <| ZAA ?_
   first
   | (have H := H.takeT [Cel b11 57 [.int .i64 0, .int .i64 (n : Int), .int .i64 (i : Int), .int .i64 (k : Int), .int .i64 s, .int .i64 x, .int .i64 r.y, .int .i64 (max (ZBo h L ⟨x, r.y⟩) 2), .int .i64 (-1)], Cel b3 30 [vo], OSl 57 vo 9 Pl.enc out, MapA bm (fun n : Int => Value.int .i64 n) (fun n : Int => Value.int .i64 n) (m) c, Cel b10 144 [.map (some bm)], Cel b4 3 [.int .i64 (n : Int)], Cel b6 3 [.int .i64 (i : Int)], Cel b8 3 [.int .i64 (k : Int)], Cel b9 70 [.string r.name, .int .i64 r.x, .int .i64 r.y, .int .i64 r.from_, .int .i64 r.to_, .int .i64 r.step, r.mv, .int .i64 r.at_], Cel b1 26 (HallV.enc h), Sl r.mv 3 MarkV.enc r.marks, ZAU h] l
      exact ⟨⟨0, (n : Int), (i : Int), (k : Int), s, x, r.y, (max (ZBo h L ⟨x, r.y⟩) 2), (-1)⟩, by unfold mkPl; rw [if_pos h1p], (S.sel [0, 7, 8, 11] rfl), H⟩)
   | (have H := H.takeT [Cel b11 57 [.int .i64 1, .int .i64 (n : Int), .int .i64 (i : Int), .int .i64 (k : Int), .int .i64 s, .int .i64 x, .int .i64 r.y, .int .i64 (ZBo h L ⟨x, r.y⟩), .int .i64 (-1)], Cel b3 30 [vo], OSl 57 vo 9 Pl.enc out, MapA bm (fun n : Int => Value.int .i64 n) (fun n : Int => Value.int .i64 n) (m) c, Cel b10 144 [.map (some bm)], Cel b4 3 [.int .i64 (n : Int)], Cel b6 3 [.int .i64 (i : Int)], Cel b8 3 [.int .i64 (k : Int)], Cel b9 70 [.string r.name, .int .i64 r.x, .int .i64 r.y, .int .i64 r.from_, .int .i64 r.to_, .int .i64 r.step, r.mv, .int .i64 r.at_], Cel b1 26 (HallV.enc h), Sl r.mv 3 MarkV.enc r.marks, ZAU h] l
      exact ⟨⟨1, (n : Int), (i : Int), (k : Int), s, x, r.y, (ZBo h L ⟨x, r.y⟩), (-1)⟩, by unfold mkPl; rw [if_neg h1p, if_pos @c2p], (S.sel [0, 7, 8, 11] rfl), H⟩)
   | (have H := H.takeT [Cel b11 57 [.int .i64 2, .int .i64 (n : Int), .int .i64 (i : Int), .int .i64 (k : Int), .int .i64 s, .int .i64 x, .int .i64 r.y, .int .i64 (ZBo h L ⟨x, r.y⟩), .int .i64 (-1)], Cel b3 30 [vo], OSl 57 vo 9 Pl.enc out, MapA bm (fun n : Int => Value.int .i64 n) (fun n : Int => Value.int .i64 n) (m) c, Cel b10 144 [.map (some bm)], Cel b4 3 [.int .i64 (n : Int)], Cel b6 3 [.int .i64 (i : Int)], Cel b8 3 [.int .i64 (k : Int)], Cel b9 70 [.string r.name, .int .i64 r.x, .int .i64 r.y, .int .i64 r.from_, .int .i64 r.to_, .int .i64 r.step, r.mv, .int .i64 r.at_], Cel b1 26 (HallV.enc h), Sl r.mv 3 MarkV.enc r.marks, ZAU h] l
      exact ⟨⟨2, (n : Int), (i : Int), (k : Int), s, x, r.y, (ZBo h L ⟨x, r.y⟩), (-1)⟩, by unfold mkPl; rw [if_neg h1p, if_neg @c2p, if_pos @c3p], (S.sel [0, 7, 8, 11] rfl), H⟩)
   | (have H := H.takeT [Cel b11 57 [.int .i64 0, .int .i64 (n : Int), .int .i64 (i : Int), .int .i64 (k : Int), .int .i64 s, .int .i64 x, .int .i64 r.y, .int .i64 (ZBo h L ⟨x, r.y⟩), .int .i64 (-1)], Cel b3 30 [vo], OSl 57 vo 9 Pl.enc out, MapA bm (fun n : Int => Value.int .i64 n) (fun n : Int => Value.int .i64 n) (m) c, Cel b10 144 [.map (some bm)], Cel b4 3 [.int .i64 (n : Int)], Cel b6 3 [.int .i64 (i : Int)], Cel b8 3 [.int .i64 (k : Int)], Cel b9 70 [.string r.name, .int .i64 r.x, .int .i64 r.y, .int .i64 r.from_, .int .i64 r.to_, .int .i64 r.step, r.mv, .int .i64 r.at_], Cel b1 26 (HallV.enc h), Sl r.mv 3 MarkV.enc r.marks, ZAU h] l
      exact ⟨⟨0, (n : Int), (i : Int), (k : Int), s, x, r.y, (ZBo h L ⟨x, r.y⟩), (-1)⟩, by unfold mkPl; rw [if_neg h1p, if_neg @c2p, if_neg @c3p], (S.sel [0, 7, 8, 11] rfl), H⟩)
  have h1p := h1; try simp only [DL] at h1p
  refine gsr <| q_bn S rfl fun a S => q_as S rfl fun a S => gnt <| c_if S rfl (fun h2 => ?_) (fun h2 => ?_)
  ·have h2p := h2; try simp only [DL] at h2p
   refine ZAB <| q_fa S Ffo57_0 rfl fun a S => q_st S H rfl rfl ZA5 rfl fun a w S H => ?_
   dsimp only [List.set, Nat.zero_add, Nat.reduceAdd] at H
   refine ZAj <| ZAK <| ZAA ?_
   first
   | (have H := H.takeT [Cel b11 57 [.int .i64 0, .int .i64 (n : Int), .int .i64 (i : Int), .int .i64 (k : Int), .int .i64 s, .int .i64 x, .int .i64 r.y, .int .i64 (max (ZBo h L ⟨x, r.y⟩) 2), .int .i64 (-1)], Cel b3 30 [vo], OSl 57 vo 9 Pl.enc out, MapA bm (fun n : Int => Value.int .i64 n) (fun n : Int => Value.int .i64 n) (m) c, Cel b10 144 [.map (some bm)], Cel b4 3 [.int .i64 (n : Int)], Cel b6 3 [.int .i64 (i : Int)], Cel b8 3 [.int .i64 (k : Int)], Cel b9 70 [.string r.name, .int .i64 r.x, .int .i64 r.y, .int .i64 r.from_, .int .i64 r.to_, .int .i64 r.step, r.mv, .int .i64 r.at_], Cel b1 26 (HallV.enc h), Sl r.mv 3 MarkV.enc r.marks, ZAU h] l
      exact ⟨⟨0, (n : Int), (i : Int), (k : Int), s, x, r.y, (max (ZBo h L ⟨x, r.y⟩) 2), (-1)⟩, by unfold mkPl; rw [if_pos h1p], (S.sel [0, 7, 8, 11] rfl), H⟩)
   | (have H := H.takeT [Cel b11 57 [.int .i64 1, .int .i64 (n : Int), .int .i64 (i : Int), .int .i64 (k : Int), .int .i64 s, .int .i64 x, .int .i64 r.y, .int .i64 (ZBo h L ⟨x, r.y⟩), .int .i64 (-1)], Cel b3 30 [vo], OSl 57 vo 9 Pl.enc out, MapA bm (fun n : Int => Value.int .i64 n) (fun n : Int => Value.int .i64 n) (m) c, Cel b10 144 [.map (some bm)], Cel b4 3 [.int .i64 (n : Int)], Cel b6 3 [.int .i64 (i : Int)], Cel b8 3 [.int .i64 (k : Int)], Cel b9 70 [.string r.name, .int .i64 r.x, .int .i64 r.y, .int .i64 r.from_, .int .i64 r.to_, .int .i64 r.step, r.mv, .int .i64 r.at_], Cel b1 26 (HallV.enc h), Sl r.mv 3 MarkV.enc r.marks, ZAU h] l
      exact ⟨⟨1, (n : Int), (i : Int), (k : Int), s, x, r.y, (ZBo h L ⟨x, r.y⟩), (-1)⟩, by unfold mkPl; rw [if_neg h1p, if_pos h2p], (S.sel [0, 7, 8, 11] rfl), H⟩)
   | (have H := H.takeT [Cel b11 57 [.int .i64 2, .int .i64 (n : Int), .int .i64 (i : Int), .int .i64 (k : Int), .int .i64 s, .int .i64 x, .int .i64 r.y, .int .i64 (ZBo h L ⟨x, r.y⟩), .int .i64 (-1)], Cel b3 30 [vo], OSl 57 vo 9 Pl.enc out, MapA bm (fun n : Int => Value.int .i64 n) (fun n : Int => Value.int .i64 n) (m) c, Cel b10 144 [.map (some bm)], Cel b4 3 [.int .i64 (n : Int)], Cel b6 3 [.int .i64 (i : Int)], Cel b8 3 [.int .i64 (k : Int)], Cel b9 70 [.string r.name, .int .i64 r.x, .int .i64 r.y, .int .i64 r.from_, .int .i64 r.to_, .int .i64 r.step, r.mv, .int .i64 r.at_], Cel b1 26 (HallV.enc h), Sl r.mv 3 MarkV.enc r.marks, ZAU h] l
      exact ⟨⟨2, (n : Int), (i : Int), (k : Int), s, x, r.y, (ZBo h L ⟨x, r.y⟩), (-1)⟩, by unfold mkPl; rw [if_neg h1p, if_neg h2p, if_pos @c3p], (S.sel [0, 7, 8, 11] rfl), H⟩)
   | (have H := H.takeT [Cel b11 57 [.int .i64 0, .int .i64 (n : Int), .int .i64 (i : Int), .int .i64 (k : Int), .int .i64 s, .int .i64 x, .int .i64 r.y, .int .i64 (ZBo h L ⟨x, r.y⟩), .int .i64 (-1)], Cel b3 30 [vo], OSl 57 vo 9 Pl.enc out, MapA bm (fun n : Int => Value.int .i64 n) (fun n : Int => Value.int .i64 n) (m) c, Cel b10 144 [.map (some bm)], Cel b4 3 [.int .i64 (n : Int)], Cel b6 3 [.int .i64 (i : Int)], Cel b8 3 [.int .i64 (k : Int)], Cel b9 70 [.string r.name, .int .i64 r.x, .int .i64 r.y, .int .i64 r.from_, .int .i64 r.to_, .int .i64 r.step, r.mv, .int .i64 r.at_], Cel b1 26 (HallV.enc h), Sl r.mv 3 MarkV.enc r.marks, ZAU h] l
      exact ⟨⟨0, (n : Int), (i : Int), (k : Int), s, x, r.y, (ZBo h L ⟨x, r.y⟩), (-1)⟩, by unfold mkPl; rw [if_neg h1p, if_neg h2p, if_neg @c3p], (S.sel [0, 7, 8, 11] rfl), H⟩)
  have h2p := h2; try simp only [DL] at h2p
  refine gsr <| q_bn S rfl fun a S => q_as S rfl fun a S => gnt <| c_if S rfl (fun h3 => ?_) (fun h3 => ?_)
  ·have h3p := h3; try simp only [DL] at h3p
   refine ZAB <| q_fa S Ffo57_0 rfl fun a S => q_st S H rfl rfl ZA5 rfl fun a w S H => ?_
   dsimp only [List.set, Nat.zero_add, Nat.reduceAdd] at H
   refine ZAj <| ZAK <| ZAA ?_
   first
   | (have H := H.takeT [Cel b11 57 [.int .i64 0, .int .i64 (n : Int), .int .i64 (i : Int), .int .i64 (k : Int), .int .i64 s, .int .i64 x, .int .i64 r.y, .int .i64 (max (ZBo h L ⟨x, r.y⟩) 2), .int .i64 (-1)], Cel b3 30 [vo], OSl 57 vo 9 Pl.enc out, MapA bm (fun n : Int => Value.int .i64 n) (fun n : Int => Value.int .i64 n) (m) c, Cel b10 144 [.map (some bm)], Cel b4 3 [.int .i64 (n : Int)], Cel b6 3 [.int .i64 (i : Int)], Cel b8 3 [.int .i64 (k : Int)], Cel b9 70 [.string r.name, .int .i64 r.x, .int .i64 r.y, .int .i64 r.from_, .int .i64 r.to_, .int .i64 r.step, r.mv, .int .i64 r.at_], Cel b1 26 (HallV.enc h), Sl r.mv 3 MarkV.enc r.marks, ZAU h] l
      exact ⟨⟨0, (n : Int), (i : Int), (k : Int), s, x, r.y, (max (ZBo h L ⟨x, r.y⟩) 2), (-1)⟩, by unfold mkPl; rw [if_pos h1p], (S.sel [0, 7, 8, 11] rfl), H⟩)
   | (have H := H.takeT [Cel b11 57 [.int .i64 1, .int .i64 (n : Int), .int .i64 (i : Int), .int .i64 (k : Int), .int .i64 s, .int .i64 x, .int .i64 r.y, .int .i64 (ZBo h L ⟨x, r.y⟩), .int .i64 (-1)], Cel b3 30 [vo], OSl 57 vo 9 Pl.enc out, MapA bm (fun n : Int => Value.int .i64 n) (fun n : Int => Value.int .i64 n) (m) c, Cel b10 144 [.map (some bm)], Cel b4 3 [.int .i64 (n : Int)], Cel b6 3 [.int .i64 (i : Int)], Cel b8 3 [.int .i64 (k : Int)], Cel b9 70 [.string r.name, .int .i64 r.x, .int .i64 r.y, .int .i64 r.from_, .int .i64 r.to_, .int .i64 r.step, r.mv, .int .i64 r.at_], Cel b1 26 (HallV.enc h), Sl r.mv 3 MarkV.enc r.marks, ZAU h] l
      exact ⟨⟨1, (n : Int), (i : Int), (k : Int), s, x, r.y, (ZBo h L ⟨x, r.y⟩), (-1)⟩, by unfold mkPl; rw [if_neg h1p, if_pos h2p], (S.sel [0, 7, 8, 11] rfl), H⟩)
   | (have H := H.takeT [Cel b11 57 [.int .i64 2, .int .i64 (n : Int), .int .i64 (i : Int), .int .i64 (k : Int), .int .i64 s, .int .i64 x, .int .i64 r.y, .int .i64 (ZBo h L ⟨x, r.y⟩), .int .i64 (-1)], Cel b3 30 [vo], OSl 57 vo 9 Pl.enc out, MapA bm (fun n : Int => Value.int .i64 n) (fun n : Int => Value.int .i64 n) (m) c, Cel b10 144 [.map (some bm)], Cel b4 3 [.int .i64 (n : Int)], Cel b6 3 [.int .i64 (i : Int)], Cel b8 3 [.int .i64 (k : Int)], Cel b9 70 [.string r.name, .int .i64 r.x, .int .i64 r.y, .int .i64 r.from_, .int .i64 r.to_, .int .i64 r.step, r.mv, .int .i64 r.at_], Cel b1 26 (HallV.enc h), Sl r.mv 3 MarkV.enc r.marks, ZAU h] l
      exact ⟨⟨2, (n : Int), (i : Int), (k : Int), s, x, r.y, (ZBo h L ⟨x, r.y⟩), (-1)⟩, by unfold mkPl; rw [if_neg h1p, if_neg h2p, if_pos h3p], (S.sel [0, 7, 8, 11] rfl), H⟩)
   | (have H := H.takeT [Cel b11 57 [.int .i64 0, .int .i64 (n : Int), .int .i64 (i : Int), .int .i64 (k : Int), .int .i64 s, .int .i64 x, .int .i64 r.y, .int .i64 (ZBo h L ⟨x, r.y⟩), .int .i64 (-1)], Cel b3 30 [vo], OSl 57 vo 9 Pl.enc out, MapA bm (fun n : Int => Value.int .i64 n) (fun n : Int => Value.int .i64 n) (m) c, Cel b10 144 [.map (some bm)], Cel b4 3 [.int .i64 (n : Int)], Cel b6 3 [.int .i64 (i : Int)], Cel b8 3 [.int .i64 (k : Int)], Cel b9 70 [.string r.name, .int .i64 r.x, .int .i64 r.y, .int .i64 r.from_, .int .i64 r.to_, .int .i64 r.step, r.mv, .int .i64 r.at_], Cel b1 26 (HallV.enc h), Sl r.mv 3 MarkV.enc r.marks, ZAU h] l
      exact ⟨⟨0, (n : Int), (i : Int), (k : Int), s, x, r.y, (ZBo h L ⟨x, r.y⟩), (-1)⟩, by unfold mkPl; rw [if_neg h1p, if_neg h2p, if_neg h3p], (S.sel [0, 7, 8, 11] rfl), H⟩)
  have h3p := h3; try simp only [DL] at h3p
  refine ZAM <| ZAK <| ZAA ?_
  first
  | (have H := H.takeT [Cel b11 57 [.int .i64 0, .int .i64 (n : Int), .int .i64 (i : Int), .int .i64 (k : Int), .int .i64 s, .int .i64 x, .int .i64 r.y, .int .i64 (max (ZBo h L ⟨x, r.y⟩) 2), .int .i64 (-1)], Cel b3 30 [vo], OSl 57 vo 9 Pl.enc out, MapA bm (fun n : Int => Value.int .i64 n) (fun n : Int => Value.int .i64 n) (m) c, Cel b10 144 [.map (some bm)], Cel b4 3 [.int .i64 (n : Int)], Cel b6 3 [.int .i64 (i : Int)], Cel b8 3 [.int .i64 (k : Int)], Cel b9 70 [.string r.name, .int .i64 r.x, .int .i64 r.y, .int .i64 r.from_, .int .i64 r.to_, .int .i64 r.step, r.mv, .int .i64 r.at_], Cel b1 26 (HallV.enc h), Sl r.mv 3 MarkV.enc r.marks, ZAU h] l
     exact ⟨⟨0, (n : Int), (i : Int), (k : Int), s, x, r.y, (max (ZBo h L ⟨x, r.y⟩) 2), (-1)⟩, by unfold mkPl; rw [if_pos h1p], (S.sel [0, 7, 8, 11] rfl), H⟩)
  | (have H := H.takeT [Cel b11 57 [.int .i64 1, .int .i64 (n : Int), .int .i64 (i : Int), .int .i64 (k : Int), .int .i64 s, .int .i64 x, .int .i64 r.y, .int .i64 (ZBo h L ⟨x, r.y⟩), .int .i64 (-1)], Cel b3 30 [vo], OSl 57 vo 9 Pl.enc out, MapA bm (fun n : Int => Value.int .i64 n) (fun n : Int => Value.int .i64 n) (m) c, Cel b10 144 [.map (some bm)], Cel b4 3 [.int .i64 (n : Int)], Cel b6 3 [.int .i64 (i : Int)], Cel b8 3 [.int .i64 (k : Int)], Cel b9 70 [.string r.name, .int .i64 r.x, .int .i64 r.y, .int .i64 r.from_, .int .i64 r.to_, .int .i64 r.step, r.mv, .int .i64 r.at_], Cel b1 26 (HallV.enc h), Sl r.mv 3 MarkV.enc r.marks, ZAU h] l
     exact ⟨⟨1, (n : Int), (i : Int), (k : Int), s, x, r.y, (ZBo h L ⟨x, r.y⟩), (-1)⟩, by unfold mkPl; rw [if_neg h1p, if_pos h2p], (S.sel [0, 7, 8, 11] rfl), H⟩)
  | (have H := H.takeT [Cel b11 57 [.int .i64 2, .int .i64 (n : Int), .int .i64 (i : Int), .int .i64 (k : Int), .int .i64 s, .int .i64 x, .int .i64 r.y, .int .i64 (ZBo h L ⟨x, r.y⟩), .int .i64 (-1)], Cel b3 30 [vo], OSl 57 vo 9 Pl.enc out, MapA bm (fun n : Int => Value.int .i64 n) (fun n : Int => Value.int .i64 n) (m) c, Cel b10 144 [.map (some bm)], Cel b4 3 [.int .i64 (n : Int)], Cel b6 3 [.int .i64 (i : Int)], Cel b8 3 [.int .i64 (k : Int)], Cel b9 70 [.string r.name, .int .i64 r.x, .int .i64 r.y, .int .i64 r.from_, .int .i64 r.to_, .int .i64 r.step, r.mv, .int .i64 r.at_], Cel b1 26 (HallV.enc h), Sl r.mv 3 MarkV.enc r.marks, ZAU h] l
     exact ⟨⟨2, (n : Int), (i : Int), (k : Int), s, x, r.y, (ZBo h L ⟨x, r.y⟩), (-1)⟩, by unfold mkPl; rw [if_neg h1p, if_neg h2p, if_pos h3p], (S.sel [0, 7, 8, 11] rfl), H⟩)
  | (have H := H.takeT [Cel b11 57 [.int .i64 0, .int .i64 (n : Int), .int .i64 (i : Int), .int .i64 (k : Int), .int .i64 s, .int .i64 x, .int .i64 r.y, .int .i64 (ZBo h L ⟨x, r.y⟩), .int .i64 (-1)], Cel b3 30 [vo], OSl 57 vo 9 Pl.enc out, MapA bm (fun n : Int => Value.int .i64 n) (fun n : Int => Value.int .i64 n) (m) c, Cel b10 144 [.map (some bm)], Cel b4 3 [.int .i64 (n : Int)], Cel b6 3 [.int .i64 (i : Int)], Cel b8 3 [.int .i64 (k : Int)], Cel b9 70 [.string r.name, .int .i64 r.x, .int .i64 r.y, .int .i64 r.from_, .int .i64 r.to_, .int .i64 r.step, r.mv, .int .i64 r.at_], Cel b1 26 (HallV.enc h), Sl r.mv 3 MarkV.enc r.marks, ZAU h] l
     exact ⟨⟨0, (n : Int), (i : Int), (k : Int), s, x, r.y, (ZBo h L ⟨x, r.y⟩), (-1)⟩, by unfold mkPl; rw [if_neg h1p, if_neg h2p, if_neg h3p], (S.sel [0, 7, 8, 11] rfl), H⟩)
 rintro a w ⟨P, hP, S, H⟩
 refine gsr <| q_ld S H Fsca144 rfl rfl fun a S => q_mv S rfl fun a S => q_ld S H Fsca30 rfl rfl fun a S => gq rfl S (ZAT rfl underlying30 S H rfl) fun a S => ZAF (ZBA (s) ((out.length : Int)) (wn rfl) rfl rfl underlying144 S H rfl (ZAv underlying3) (by exact rfl) (by exact rfl) fun a w S H => ?_)
 refine gnt ?_
 have S := S.sel [7, 11] rfl
 refine ZAB <| q_ld S H Fsca30 rfl rfl fun a S => gq rfl S (ZAb rfl S H rfl (by exact Fagg57)) fun a S => ?_
 refine ZAF (ZAP (wn rfl) rfl rfl rfl underlying30 Finf57 S H (idx := [0]) rfl rfl rfl (z := [.int .i64 0, .int .i64 0, .int .i64 0, .int .i64 0, .int .i64 0, .int .i64 0, .int .i64 0, .int .i64 0, .int .i64 0]) (by kernel_rfl) (cs := [.int .i64 P.kind, .int .i64 P.level, .int .i64 P.block, .int .i64 P.row, .int .i64 P.seat, .int .i64 P.x, .int .i64 P.y, .int .i64 P.view, .int .i64 P.with_]) (by kernel_rfl) fun b49 a w S H => ?_)
 refine ZAF (ZAr ([P]) (wn rfl) rfl rfl rfl underlying30 Finf57 rfl rfl S H rfl rfl rfl rfl (by simp) (by simp [Pl.enc]) (by simp [Pl.enc, Value.oneCell']) (by simp only [List.length_cons, List.length_nil]; omega) (by simp only [List.length_cons, List.length_nil]; omega) fun u50 a w hn50 S H => ?_)
 refine q_st S H rfl (H.sl1 _) Fsiz30 rfl fun a w S H => ?_
 dsimp only [List.set, Nat.zero_add, Nat.reduceAdd] at H
 refine ZAj <| ZB1 rfl S ?_
 rw [hP] at H
 exact ⟨u50, _, H.takeT [Cel b3 30 [u50], OSl 57 u50 9 Pl.enc (out ++ [mkPl h n L i k r s x]), MapA bm (fun n : Int => Value.int .i64 n) (fun n : Int => Value.int .i64 n) (upd m s (out.length : Int)) (if (m s).isSome = true then c else c + 1), Cel b10 144 [.map (some bm)], Cel b4 3 [.int .i64 (n : Int)], Cel b6 3 [.int .i64 (i : Int)], Cel b8 3 [.int .i64 (k : Int)], Cel b9 70 [.string r.name, .int .i64 r.x, .int .i64 r.y, .int .i64 r.from_, .int .i64 r.to_, .int .i64 r.step, r.mv, .int .i64 r.at_], Cel b1 26 (HallV.enc h), Sl r.mv 3 MarkV.enc r.marks, ZAU h] l⟩
def plZ : Pl := ⟨0, 0, 0, 0, 0, 0, 0, 0, 0⟩
def setW (out : List Pl) (q : Nat) (v : Int) : List Pl := out.set q { out.getD q plZ with with_ := v }
theorem setW_len (out : List Pl) (q : Nat) (v : Int) : (setW out q v).length = out.length := List.length_set
def ZB3 (M : Int → Option Int) (r : RowV) (out : List Pl) (s : Int) : List Pl :=
  if (markR r s).kind = 4 then
    let g := ((M (markR r s).with_).getD 0).toNat
    let me := ((M s).getD 0).toNat
    let o1 := setW out me (g : Int)
    if (o1.getD g plZ).with_ < 0 then setW o1 g (me : Int) else o1
  else out
theorem besideS_len (M : Int → Option Int) (r : RowV) (out : List Pl) (s : Int) : (ZB3 M r out s).length = out.length := by
  unfold ZB3
  split
  · dsimp only; split
    · rw [setW_len, setW_len]
    rw [setW_len]
  rfl
def MapOK (M : Int → Option Int) (N : Nat) : Prop := ∀ v, 0 ≤ (M v).getD 0 ∧ (M v).getD 0 < (N : Int)
theorem getD_at2 {out : List Pl} {q : Nat} (h : q < out.length) : out.getD q plZ = out[q] := by
  rw [List.getD_eq_getElem?_getD, List.getElem?_eq_getElem h]; rfl
set_option maxHeartbeats 4000000 in
theorem place2_spec {M : Nat → Prop} {u0 : World} {l : List Atom} (r : RowV) (vo : Value) (out : List Pl) (M1 : Int → Option Int) (c : Nat) (s : Int) (x : Value) (b9 b10 b3 bm : Nat) (w0 : World) (hm : MapOK M1 out.length) (h0 : HSat M u0 (Cel b3 30 [vo] :: OSl 57 vo 9 Pl.enc out :: MapA bm (fun n : Int => Value.int .i64 n) (fun n : Int => Value.int .i64 n) (M1) c :: Cel b10 144 [.map (some bm)] :: Cel b9 70 [.string r.name, .int .i64 r.x, .int .i64 r.y, .int .i64 r.from_, .int .i64 r.to_, .int .i64 r.step, r.mv, .int .i64 r.at_] :: Sl r.mv 3 MarkV.enc r.marks :: l) w0) :
    Ret Tryz.prog 72 #[.int .i64 s, x, .pointer (some ⟨b9, 0, none⟩), .pointer (some ⟨b10, 0, none⟩), .pointer (some ⟨b3, 0, none⟩)] w0 (fun _ w => HSat M u0 (Cel b3 30 [vo] :: OSl 57 vo 9 Pl.enc (ZB3 M1 r out s) :: MapA bm (fun n : Int => Value.int .i64 n) (fun n : Int => Value.int .i64 n) (M1) c :: Cel b10 144 [.map (some bm)] :: Cel b9 70 [.string r.name, .int .i64 r.x, .int .i64 r.y, .int .i64 r.from_, .int .i64 r.to_, .int .i64 r.step, r.mv, .int .i64 r.at_] :: Sl r.mv 3 MarkV.enc r.marks :: l) w) := by
 refine ZAE (nt := 39) Tryz.func72 rfl rfl rfl (fl := [(0, .int .i64 s), (1, x), (2, .pointer (some ⟨b9, 0, none⟩)), (3, .pointer (some ⟨b10, 0, none⟩)), (4, .pointer (some ⟨b3, 0, none⟩))]) rfl (fun a S => ?_)
 have H := h0
 have hg1 := hm (markR r s).with_
 have hm1 := hm s
 obtain ⟨g, hg⟩ : ∃ g : Nat, (M1 (markR r s).with_).getD 0 = (g : Int) := ⟨((M1 (markR r s).with_).getD 0).toNat, by omega⟩
 obtain ⟨me, hme⟩ : ∃ g : Nat, (M1 s).getD 0 = (g : Int) := ⟨((M1 s).getD 0).toNat, by omega⟩
 have hgl : g < out.length := by omega
 have hml : me < out.length := by omega
 have hol := (H.sl vo).len
 have hgt : ((M1 (markR r s).with_).getD 0).toNat = g := by omega
 have hmt : ((M1 s).getD 0).toNat = me := by omega
 refine gsr <| gq rfl S (ZAb rfl S H rfl (by exact Fagg70)) fun a S => ?_
 refine q_mv S rfl fun a S => q_cl S rfl call57 (mark_spec r s _ (H.sl r.mv)) fun v w hc a S => ?_
 obtain ⟨rfl, he⟩ := hc
 have H := H.ext he
 refine q_al S H rfl Fzer128 fun b7 a w S H => ZAF (ZAQ (wn rfl) rfl rfl S H rfl rfl rfl Fsiz128 rfl (cs' := [_, _, _]) rfl fun a w S H => gnt ?_)
 have S := S.sel [7, 0, 3, 4] rfl
 refine gsr <| q_fa S Ffo128_0 rfl fun a S => q_ld S H ZAN rfl rfl fun a S => q_bn S rfl fun a S => gnt <| c_if S rfl (fun h1 => ?_) (fun h1 => ?_)
 ·have h1p := h1; try simp only [DL] at h1p
  refine gsr <| q_ld S H Fsca144 rfl rfl fun a S => q_fa S Ffo128_2 rfl fun a S => q_ld S H ZAN rfl rfl fun a S => gq rfl S (ZBT ((markR r s).with_) ((0 : Int)) rfl underlying144 Finf3 S H rfl (ZAv underlying3) (by exact rfl) (by exact rfl) rfl) fun a S => ?_
  rw [hg] at S
  refine q_as S rfl fun a S => gnt ?_
  have S := S.sel [8, 0, 3, 4] rfl
  refine gsr <| q_ld S H Fsca30 rfl rfl fun a S => q_ld S H Fsca144 rfl rfl fun a S => q_mv S rfl fun a S => gq rfl S (ZBT (s) ((0 : Int)) rfl underlying144 Finf3 S H rfl (ZAv underlying3) (by exact rfl) (by exact rfl) rfl) fun a S => ?_
  rw [hme] at S
  refine q_mv S rfl fun a S => gq rfl S (ZAI rfl underlying30 Fsiz57 S H rfl rfl (by first | assumption | (rw [setW_len]; assumption))) fun a S => ?_
  refine gq rfl S (ZAq rfl Ffo57_8 S rfl) fun a S => ZAF (op_storeS (i := me) (j := 8) (sz := 9) (vs := [.int .i64 (g : Int)]) _ ({ (out).getD me plZ with with_ := (g : Int) } : Pl) (wn rfl) rfl rfl S H rfl rfl rfl rfl (by intro c hc; rw [List.mem_singleton.1 hc]; rfl) ZA5 (by first | assumption | (rw [setW_len]; assumption)) (by simp) (by rw [getD_at2 (by first | assumption | (rw [setW_len]; assumption))]; rfl) fun a w S H => ?_)
  rw [show (out).set me ({ (out).getD me plZ with with_ := (g : Int) } : Pl) = setW (out) me (g : Int) from rfl] at H
  refine gnt ?_
  have S := S.sel [8, 0, 3, 4] rfl
  refine gsr <| q_ld S H Fsca30 rfl rfl fun a S => q_mv S rfl fun a S => gq rfl S (ZAI rfl underlying30 Fsiz57 S H rfl rfl (by first | assumption | (rw [setW_len]; assumption))) fun a S => ?_
  refine gq rfl S (ZAq rfl Ffo57_8 S rfl) fun a S => gq rfl S (y_loadsf _ rfl ZAN S H rfl (by first | assumption | (rw [setW_len]; assumption)) rfl) fun a S => ?_
  rw [← getD_at2] at S
  refine q_bn S rfl fun a S => gnt ?_
  have S := S.sel [31, 8, 0, 3, 4] rfl
  refine c_if S rfl (fun h2 => ?_) (fun h2 => ?_)
  ·have h2p := h2; try simp only [DL] at h2p
   refine ZAB <| q_ld S H Fsca30 rfl rfl fun a S => q_mv S rfl fun a S => q_ld S H Fsca144 rfl rfl fun a S => q_mv S rfl fun a S => gq rfl S (ZBT (s) ((0 : Int)) rfl underlying144 Finf3 S H rfl (ZAv underlying3) (by exact rfl) (by exact rfl) rfl) fun a S => ?_
   rw [hme] at S
   refine gq rfl S (ZAI rfl underlying30 Fsiz57 S H rfl rfl (by first | assumption | (rw [setW_len]; assumption))) fun a S => ?_
   refine gq rfl S (ZAq rfl Ffo57_8 S rfl) fun a S => ZAF (op_storeS (i := g) (j := 8) (sz := 9) (vs := [.int .i64 (me : Int)]) _ ({ ((setW out me g)).getD g plZ with with_ := (me : Int) } : Pl) (wn rfl) rfl rfl S H rfl rfl rfl rfl (by intro c hc; rw [List.mem_singleton.1 hc]; rfl) ZA5 (by first | assumption | (rw [setW_len]; assumption)) (by simp) (by rw [getD_at2 (by first | assumption | (rw [setW_len]; assumption))]; rfl) fun a w S H => ?_)
   rw [show ((setW out me g)).set g ({ ((setW out me g)).getD g plZ with with_ := (me : Int) } : Pl) = setW ((setW out me g)) g (me : Int) from rfl] at H
   refine ZAj <| ZB1 rfl S ?_
   have e : ZB3 M1 r out s = setW (setW out me g) g me := by
     unfold ZB3
     rw [if_pos h1p, hgt, hmt]
     dsimp only
     rw [if_pos h2p]
   rw [e]
   exact H.takeT [Cel b3 30 [vo], OSl 57 vo 9 Pl.enc (setW (setW out me g) g me), MapA bm (fun n : Int => Value.int .i64 n) (fun n : Int => Value.int .i64 n) (M1) c, Cel b10 144 [.map (some bm)], Cel b9 70 [.string r.name, .int .i64 r.x, .int .i64 r.y, .int .i64 r.from_, .int .i64 r.to_, .int .i64 r.step, r.mv, .int .i64 r.at_], Sl r.mv 3 MarkV.enc r.marks] l
  have h2p := h2; try simp only [DL] at h2p
  refine ZAM <| ZB1 rfl S ?_
  have e : ZB3 M1 r out s = setW out me g := by
    unfold ZB3
    rw [if_pos h1p, hgt, hmt]
    dsimp only
    rw [if_neg (by have := h2p; omega)]
  rw [e]
  exact H.takeT [Cel b3 30 [vo], OSl 57 vo 9 Pl.enc (setW out me g), MapA bm (fun n : Int => Value.int .i64 n) (fun n : Int => Value.int .i64 n) (M1) c, Cel b10 144 [.map (some bm)], Cel b9 70 [.string r.name, .int .i64 r.x, .int .i64 r.y, .int .i64 r.from_, .int .i64 r.to_, .int .i64 r.step, r.mv, .int .i64 r.at_], Sl r.mv 3 MarkV.enc r.marks] l
 have h1p := h1; try simp only [DL] at h1p
 refine ZAM <| ZB1 rfl S ?_
 have e : ZB3 M1 r out s = out := by
   unfold ZB3
   rw [if_neg h1p]
 rw [e]
 exact H.takeT [Cel b3 30 [vo], OSl 57 vo 9 Pl.enc out, MapA bm (fun n : Int => Value.int .i64 n) (fun n : Int => Value.int .i64 n) (M1) c, Cel b10 144 [.map (some bm)], Cel b9 70 [.string r.name, .int .i64 r.x, .int .i64 r.y, .int .i64 r.from_, .int .i64 r.to_, .int .i64 r.step, r.mv, .int .i64 r.at_], Sl r.mv 3 MarkV.enc r.marks] l
theorem roDup {M : Nat → Prop} {w0 w : World} {l : List Atom} {x : Atom} (H : HSat M w0 l w) [h : HasAt l x] (ho : x.own = false) : HSat M w0 (x :: l) w :=
  H.ro x ho (H.ok x h.mem) fun y hy hown b hb hyb => apart_of H.sep hy h.mem (by rw [hown, ho]; simp) (.inl hown) b hyb hb
theorem take_map_s {α β : Type} {l : List α} {q : Nat} {x : α} (f : α → β) (h : l[q]? = some x) : (l.take q).map f ++ [f x] = (l.take (q + 1)).map f := by
  obtain ⟨hq, rfl⟩ := List.getElem?_eq_some_iff.1 h
  rw [List.take_succ_eq_append_getElem hq, List.map_append]; rfl
theorem take_fold_s {α β : Type} {l : List α} {q : Nat} {x : α} (f : β → α → β) (b : β) (h : l[q]? = some x) : f ((l.take q).foldl f b) x = (l.take (q + 1)).foldl f b := by
  obtain ⟨hq, rfl⟩ := List.getElem?_eq_some_iff.1 h
  rw [List.take_succ_eq_append_getElem hq, List.foldl_append]; rfl
def atN (base : Nat) (ss : List (Int × Int)) : Nat → (Int → Option Int)
  | 0 => fun _ => none
  | q + 1 => upd (atN base ss q) (ss.getD q (0, 0)).1 ((base + q : Nat) : Int)
theorem atN_ok (base : Nat) (ss : List (Int × Int)) {N : Nat} (hN : 0 < N) : ∀ q, base + q ≤ N → MapOK (atN base ss q) N
  | 0, _ => fun v => by show (0 : Int) ≤ 0 ∧ (0 : Int) < N; omega
  | q + 1, h => fun v => by
    have ih := atN_ok base ss hN q (by omega) v
    unfold atN upd
    split
    · show (0 : Int) ≤ ((base + q : Nat) : Int) ∧ ((base + q : Nat) : Int) < (N : Int); omega
    exact ih
def mkR (h : HallV) (n : Nat) (L : LevV) (i k : Nat) (r : RowV) (p : Int × Int) : Pl := mkPl h n L i k r p.1 p.2
def rowMap (r : RowV) (base : Nat) : Int → Option Int := atN base (ZAt r) (ZAt r).length
def rowPl (h : HallV) (n : Nat) (L : LevV) (i k : Nat) (r : RowV) (out : List Pl) : List Pl := (ZAt r).foldl (fun o p => ZB3 (rowMap r out.length) r o p.1) (out ++ (ZAt r).map (mkR h n L i k r))
theorem fold_len {M : Int → Option Int} {r : RowV} : ∀ (l : List (Int × Int)) (o : List Pl), (l.foldl (fun o p => ZB3 M r o p.1) o).length = o.length
  | [], _ => rfl
  | p :: l, o => by rw [List.foldl_cons, fold_len l, besideS_len]
theorem rowPl_len (h : HallV) (n : Nat) (L : LevV) (i k : Nat) (r : RowV) (out : List Pl) : (rowPl h n L i k r out).length = out.length + (ZAt r).length := by
  unfold rowPl; rw [fold_len, List.length_append, List.length_map]
def rowsP (h : HallV) (n : Nat) (L : LevV) (i : Nat) (B : BlockV) (out : List Pl) : Nat → List Pl
  | 0 => out
  | k + 1 => match B.rows[k]? with
    | some r => rowPl h n L i k r (rowsP h n L i B out k)
    | none => rowsP h n L i B out k
def ZBn (h : HallV) (n : Nat) (L : LevV) (out : List Pl) : Nat → List Pl
  | 0 => out
  | i + 1 => match L.blocks[i]? with
    | some B => rowsP h n L i B (ZBn h n L out i) B.rows.length
    | none => ZBn h n L out i
def arPl (h : HallV) (n : Nat) (L : LevV) (i : Nat) (A : AreaV) (s : Nat) : Pl := ⟨3, n, (L.blocks.length : Int) + i, -1, (s : Int) + 1, (A.box.x + A.box.x2) / 2, (A.box.y + A.box.y2) / 2, ZBo h L ⟨(A.box.x + A.box.x2) / 2, (A.box.y + A.box.y2) / 2⟩, -1⟩
def areasP (h : HallV) (n : Nat) (L : LevV) (out : List Pl) : Nat → List Pl
  | 0 => out
  | i + 1 => match L.areas[i]? with
    | some A => areasP h n L out i ++ (List.range A.holds.toNat).map (arPl h n L i A)
    | none => areasP h n L out i
def levsP (h : HallV) : Nat → List Pl
  | 0 => []
  | n + 1 => match h.levels[n]? with
    | some L => areasP h n L (ZBn h n L (levsP h n) L.blocks.length) L.areas.length
    | none => levsP h n
def placesR (h : HallV) : List Pl := levsP h h.levels.length
theorem rowsP_s (h : HallV) (n : Nat) (L : LevV) (i : Nat) (B : BlockV) (out : List Pl) {k : Nat} (hk : k < B.rows.length) : rowsP h n L i B out (k + 1) = rowPl h n L i k B.rows[k] (rowsP h n L i B out k) := by rw [rowsP, List.getElem?_eq_getElem hk]
theorem blocksP_s (h : HallV) (n : Nat) (L : LevV) (out : List Pl) {i : Nat} (hi : i < L.blocks.length) : ZBn h n L out (i + 1) = rowsP h n L i L.blocks[i] (ZBn h n L out i) L.blocks[i].rows.length := by rw [ZBn, List.getElem?_eq_getElem hi]
theorem areasP_s (h : HallV) (n : Nat) (L : LevV) (out : List Pl) {i : Nat} (hi : i < L.areas.length) : areasP h n L out (i + 1) = areasP h n L out i ++ (List.range L.areas[i].holds.toNat).map (arPl h n L i L.areas[i]) := by rw [areasP, List.getElem?_eq_getElem hi]
theorem levsP_s (h : HallV) {n : Nat} (hn : n < h.levels.length) : levsP h (n + 1) = areasP h n h.levels[n] (ZBn h n h.levels[n] (levsP h n) h.levels[n].blocks.length) h.levels[n].areas.length := by rw [levsP, List.getElem?_eq_getElem hn]
theorem seatsR_len {r : RowV} (h : RangeR r) : (ZAt r).length ≤ 60 := by
  have h1 := seatsP_len r (seatsN r)
  have h2 := h.n
  have h3 := h.f
  unfold seatsN at h1
  unfold ZAt seatsN
  omega
set_option maxHeartbeats 8000000 in
theorem places_spec (h : HallV) (w0 : World) (hH : (ZAU h).ok w0) (hR1 : Range1 h) :
    Ret Tryz.prog 26 #[.agg (HallV.enc h).toArray] w0 (fun u w => HSat No w0 [OSl 57 u 9 Pl.enc (placesR h)] w) := by
 refine ZAE (nt := 104) Tryz.func26 rfl rfl rfl (fl := [(0, .agg (HallV.enc h).toArray)]) rfl (fun a S => ?_)
 have H := HSat.start w0
 have H := H.ro0 (ZAU h) rfl (hH)
 have H := H.ro0 (Sl h.lv 8 LevV.enc h.levels) rfl (ZBE hH)
 have hl5 := (ZBE hH).len
 refine gsr <| ZAF (ZAu (wn rfl) rfl rfl rfl S H rfl fun b1 a w S H => q_as S rfl fun a S => gnt ?_)
 refine gsr <| q_al S H rfl Fzer30 fun b3 a w S H => gnt <| ZAG <| gsr <| q_fa S ZBi rfl fun a S => q_ld S H Fsca24 rfl rfl fun a S => gq rfl S (ZAT rfl underlying24 S H rfl) fun a S => ?_
 refine q_mv S rfl fun a S => gnt <| ZAD ?_
 have H := H.nilO 57 9 Pl.enc
 have SU := S.sel [19, 18, 3, 2, 1] rfl
 refine ZBL (X := Nat × Value) SU (fun x => [(20, .int .i64 (x.1 : Int))]) (fun x w => x.1 ≤ h.levels.length ∧ (levsP h x.1).length ≤ 304000 * x.1 ∧ HSat No w0 [Cel b3 30 [x.2], OSl 57 x.2 9 Pl.enc (levsP h (x.1)), Cel b1 26 (HallV.enc h), Sl h.lv 8 LevV.enc h.levels, ZAU h] w) (fun x => h.levels.length - x.1) (0, .slice none 0 0) (S.sel [20] rfl) (⟨Nat.zero_le _, Nat.zero_le _, H.take [Cel b3 30 [(.slice none 0 0)], OSl 57 (.slice none 0 0) 9 Pl.enc (([] : List Pl)), Cel b1 26 (HallV.enc h), Sl h.lv 8 LevV.enc h.levels, ZAU h]⟩) (fun x a w S hW => ?_)
 simp only [List.cons_append, List.nil_append] at S
 obtain ⟨n, vo⟩ := x
 obtain ⟨hkk, hcnt, H⟩ := hW
 dsimp only at S H hkk hcnt
 refine gsr <| q_bn S rfl fun a S => gnt <| ZAG <| c_if S rfl (fun h1 => ?_) (fun h1 => ?_)
 ·have h1p := h1; try simp only [DL] at h1p
  have hnl : n < h.levels.length := by omega
  obtain ⟨L, hL⟩ : ∃ L, L = h.levels[n] := ⟨_, rfl⟩
  have hLn : h.levels[n] = L := hL.symm
  have hLm : L ∈ h.levels := hL ▸ List.getElem_mem hnl
  have hLa := hall_lev hH hLm
  have hLall := lev_all hLa
  have hlL0 := (lev_blocks hLa).len
  have hlL1 := (lev_areas hLa).len
  have hv1 := hR1 n hnl
  rw [hLn] at hv1
  have hlim := hv1.ok.lim
  have hbx : ∀ b ∈ L.pillars, boxB b = true := fun b hb => by have := List.any_eq_false.1 hv1.ok.boxes b (List.mem_append_right _ hb); simpa using this
  have hbl : L.pillars.length ≤ 1048576 := by omega
  have hst := levsP_s h hnl
  rw [hLn] at hst
  have H := ZBP (ls := ZBI h) H (Sl L.bv 3 BlockV.enc L.blocks) (ZAs hLm (by simp [levA])) rfl
  have H := ZBP (ls := ZBI h) H (Sl L.av 7 AreaV.enc L.areas) (ZAs hLm (by simp [levA])) rfl
  refine ZAM <| ZAA <| ZAG <| ZAD <| gsr <| q_mv S rfl fun a S => gq rfl S (ZAI rfl underlying24 Fsiz79 S H rfl rfl (by omega)) fun a S => ?_
  refine gq rfl S (ZAk _ rfl S H rfl (by exact Fagg79) (by omega)) fun a S => ?_
  rw [hLn] at S
  refine q_al S H rfl Fzer3 fun b4 a w S H => q_al S H rfl Fzer79 fun b5 a w S H => q_st S H rfl rfl ZA5 rfl fun a w S H => ?_
  dsimp only [List.set, Nat.zero_add, Nat.reduceAdd] at H
  refine ZAF (ZAQ (wn rfl) rfl rfl S H rfl rfl hLall Fsiz79 rfl (cs' := [_, _, _, _, _, _, _, _]) rfl fun a w S H => gnt ?_)
  have S := S.sel [5, 4, 20, 19, 18, 3, 2, 1] rfl
  refine ZAG <| gsr <| q_fa S Ffo79_2 rfl fun a S => q_ld S H Fsca74 rfl rfl fun a S => gq rfl S (ZAT rfl underlying74 S H rfl) fun a S => q_mv S rfl fun a S => gnt <| ZAD ?_
  have SU := S.sel [27, 26, 5, 4, 20, 19, 18, 3, 2, 1] rfl
  refine ZBL (X := Nat × Value) SU (fun x => [(28, .int .i64 (x.1 : Int))]) (fun x w => x.1 ≤ L.blocks.length ∧ (ZBn h n L (levsP h n) x.1).length ≤ 304000 * n + 3600 * x.1 ∧ HSat No w0 [Cel b3 30 [x.2], OSl 57 x.2 9 Pl.enc (ZBn h n L (levsP h n) (x.1)), Cel b4 3 [.int .i64 (n : Int)], Cel b5 79 [.string L.name, .int .i64 L.height, L.bv, L.av, L.iv, L.pv, L.dv, .int .i64 L.at_], Sl L.bv 3 BlockV.enc L.blocks, Sl L.av 7 AreaV.enc L.areas, Cel b1 26 (HallV.enc h), Sl h.lv 8 LevV.enc h.levels, ZAU h] w) (fun x => L.blocks.length - x.1) (0, vo) (S.sel [28] rfl) (⟨Nat.zero_le _, hcnt, H.take [Cel b3 30 [vo], OSl 57 vo 9 Pl.enc (levsP h n), Cel b4 3 [.int .i64 (n : Int)], Cel b5 79 [.string L.name, .int .i64 L.height, L.bv, L.av, L.iv, L.pv, L.dv, .int .i64 L.at_], Sl L.bv 3 BlockV.enc L.blocks, Sl L.av 7 AreaV.enc L.areas, Cel b1 26 (HallV.enc h), Sl h.lv 8 LevV.enc h.levels, ZAU h]⟩) (fun x a w S hW => ?_)
  simp only [List.cons_append, List.nil_append] at S
  clear hcnt
  obtain ⟨i, vo⟩ := x
  obtain ⟨hkk, hcnt, H⟩ := hW
  dsimp only at S H hkk hcnt
  refine gsr <| q_bn S rfl fun a S => gnt <| ZAG <| c_if S rfl (fun h2 => ?_) (fun h2 => ?_)
  ·have h2p := h2; try simp only [DL] at h2p
   have hil : i < L.blocks.length := by omega
   obtain ⟨B, hB2⟩ : ∃ B, B = L.blocks[i] := ⟨_, rfl⟩
   have hLB : L.blocks[i] = B := hB2.symm
   have hBm : B ∈ L.blocks := hB2 ▸ List.getElem_mem hil
   have hBa := lev_block hLa hBm
   have hBall := block_all hBa
   have hlB := (block_rows hBa).len
   have hv2 := hv1.blocks i hil
   rw [hLB] at hv2
   have hlim2 := hv2.ok.lim
   have hst2 := blocksP_s h n L (levsP h n) hil
   rw [hLB] at hst2
   have H := ZBP (ls := ZBI h) H (Sl B.rv 8 RowV.enc B.rows) (ZAs hLm (ZBl hBm (List.mem_cons_self ..))) rfl
   refine ZAM <| ZAA <| ZAG <| ZAD <| gsr <| q_mv S rfl fun a S => gq rfl S (ZAI rfl underlying74 Fsiz73 S H rfl rfl (by omega)) fun a S => ?_
   refine gq rfl S (ZAk _ rfl S H rfl (by exact Fagg73) (by omega)) fun a S => ?_
   rw [hLB] at S
   refine q_al S H rfl Fzer3 fun b6 a w S H => q_al S H rfl Fzer73 fun b7 a w S H => q_st S H rfl rfl ZA5 rfl fun a w S H => ?_
   dsimp only [List.set, Nat.zero_add, Nat.reduceAdd] at H
   refine ZAF (ZAQ (wn rfl) rfl rfl S H rfl rfl hBall Fsiz73 rfl (cs' := [_, _, _]) rfl fun a w S H => gnt ?_)
   have S := S.sel [7, 6, 28, 27, 26, 5, 4, 20, 19, 18, 3, 2, 1] rfl
   refine gsr <| q_fa S Ffo73_1 rfl fun a S => q_ld S H Fsca71 rfl rfl fun a S => gq rfl S (ZAT rfl underlying71 S H rfl) fun a S => q_mv S rfl fun a S => gnt <| ZAD ?_
   have SU := S.sel [35, 34, 6, 28, 27, 26, 5, 4, 20, 19, 18, 3, 2, 1] rfl
   refine ZBL (X := Nat × Value) SU (fun x => [(36, .int .i64 (x.1 : Int))]) (fun x w => x.1 ≤ B.rows.length ∧ (rowsP h n L i B (ZBn h n L (levsP h n) i) x.1).length ≤ 304000 * n + 3600 * i + 60 * x.1 ∧ HSat No w0 [Cel b3 30 [x.2], OSl 57 x.2 9 Pl.enc (rowsP h n L i B (ZBn h n L (levsP h n) i) (x.1)), Cel b6 3 [.int .i64 (i : Int)], Cel b7 73 [.string B.name, B.rv, .int .i64 B.at_], Sl B.rv 8 RowV.enc B.rows, Cel b4 3 [.int .i64 (n : Int)], Cel b5 79 [.string L.name, .int .i64 L.height, L.bv, L.av, L.iv, L.pv, L.dv, .int .i64 L.at_], Sl L.bv 3 BlockV.enc L.blocks, Sl L.av 7 AreaV.enc L.areas, Cel b1 26 (HallV.enc h), Sl h.lv 8 LevV.enc h.levels, ZAU h] w) (fun x => B.rows.length - x.1) (0, vo) (S.sel [36] rfl) (⟨Nat.zero_le _, hcnt, H.take [Cel b3 30 [vo], OSl 57 vo 9 Pl.enc (ZBn h n L (levsP h n) i), Cel b6 3 [.int .i64 (i : Int)], Cel b7 73 [.string B.name, B.rv, .int .i64 B.at_], Sl B.rv 8 RowV.enc B.rows, Cel b4 3 [.int .i64 (n : Int)], Cel b5 79 [.string L.name, .int .i64 L.height, L.bv, L.av, L.iv, L.pv, L.dv, .int .i64 L.at_], Sl L.bv 3 BlockV.enc L.blocks, Sl L.av 7 AreaV.enc L.areas, Cel b1 26 (HallV.enc h), Sl h.lv 8 LevV.enc h.levels, ZAU h]⟩) (fun x a w S hW => ?_)
   simp only [List.cons_append, List.nil_append] at S
   clear hcnt
   obtain ⟨k, vo⟩ := x
   obtain ⟨hkk, hcnt, H⟩ := hW
   dsimp only at S H hkk hcnt
   refine gsr <| q_bn S rfl fun a S => gnt <| ZAG <| c_if S rfl (fun h3 => ?_) (fun h3 => ?_)
   ·have h3p := h3; try simp only [DL] at h3p
    have hkl : k < B.rows.length := by omega
    obtain ⟨r, hr2⟩ : ∃ r, r = B.rows[k] := ⟨_, rfl⟩
    have hBr : B.rows[k] = r := hr2.symm
    have hrm : r ∈ B.rows := hr2 ▸ List.getElem_mem hkl
    have hRall := row_all (row_one hBa hrm)
    have hr := hv2.rows r hrm
    have hsl := seatsR_len hr
    obtain ⟨out, hout⟩ : ∃ o, o = rowsP h n L i B (ZBn h n L (levsP h n) i) k := ⟨_, rfl⟩
    have hst3 := rowsP_s h n L i B (ZBn h n L (levsP h n) i) hkl
    rw [hBr, ← hout] at hst3
    rw [← hout] at H hcnt
    have hrl := rowPl_len h n L i k r out
    have H := ZBP (ls := ZBI h) H (Sl r.mv 3 MarkV.enc r.marks) (ZAs hLm (ZBl hBm (mem_row hrm))) rfl
    have H := ZBP (ls := ZBI h) H (Sl r.mv 3 MarkV.enc r.marks) (ZAs hLm (ZBl hBm (mem_row hrm))) rfl
    have H := roDup (x := ZAU h) H rfl
    refine ZAM <| ZAA <| ZAG <| ZAD <| gsr <| q_mv S rfl fun a S => gq rfl S (ZAI rfl underlying71 Fsiz70 S H rfl rfl (by omega)) fun a S => ?_
    refine gq rfl S (ZAk _ rfl S H rfl (by exact Fagg70) (by omega)) fun a S => ?_
    rw [hBr] at S
    refine q_al S H rfl Fzer3 fun b8 a w S H => q_al S H rfl Fzer70 fun b9 a w S H => q_st S H rfl rfl ZA5 rfl fun a w S H => ?_
    dsimp only [List.set, Nat.zero_add, Nat.reduceAdd] at H
    refine ZAF (ZAQ (wn rfl) rfl rfl S H rfl rfl hRall Fsiz70 rfl (cs' := [_, _, _, _, _, _, _, _]) rfl fun a w S H => gnt ?_)
    have S := S.sel [9, 8, 36, 35, 34, 6, 28, 27, 26, 5, 4, 20, 19, 18, 3, 2, 1] rfl
    refine gsr <| ZAF (ZBK (fun n : Int => .int .i64 n) (fun n : Int => .int .i64 n) (wn rfl) rfl rfl rfl S H fun b41 a w S H => q_al S H rfl Fzer144 fun b10 a w S H => q_st S H rfl rfl Fsiz144 rfl fun a w S H => ?_)
    dsimp only [List.set, Nat.zero_add, Nat.reduceAdd] at H
    refine gnt <| gsr <| gq rfl S (ZAb rfl S H rfl (by exact Fagg70)) fun a S => ?_
    refine gq rfl S (ZAd rfl S rfl rfl) fun a S => ZAF (ZAV (wn rfl) rfl rfl S (ZAi rfl call21 S rfl) (seats_iter (l := [Cel b7 73 [.string B.name, B.rv, .int .i64 B.at_], Sl B.rv 8 RowV.enc B.rows, Cel b5 79 [.string L.name, .int .i64 L.height, L.bv, L.av, L.iv, L.pv, L.dv, .int .i64 L.at_], Sl L.bv 3 BlockV.enc L.blocks, Sl L.av 7 AreaV.enc L.areas, Sl h.lv 8 LevV.enc h.levels, ZAU h]) (fun (q : Nat) (z : Value × Nat) => [Cel b3 30 [z.1], OSl 57 z.1 9 Pl.enc (out ++ ((ZAt r).take (q)).map (mkR h n L i k r)), MapA b41 (fun n : Int => Value.int .i64 n) (fun n : Int => Value.int .i64 n) (atN out.length (ZAt r) (q)) z.2, Cel b10 144 [.map (some b41)], Cel b4 3 [.int .i64 (n : Int)], Cel b6 3 [.int .i64 (i : Int)], Cel b8 3 [.int .i64 (k : Int)], Cel b9 70 [.string r.name, .int .i64 r.x, .int .i64 r.y, .int .i64 r.from_, .int .i64 r.to_, .int .i64 r.step, r.mv, .int .i64 r.at_], Cel b1 26 (HallV.enc h), Sl r.mv 3 MarkV.enc r.marks, ZAU h]) r hr 70 [] [.pointer (some ⟨b4, 0, none⟩), .pointer (some ⟨b6, 0, none⟩), .pointer (some ⟨b8, 0, none⟩), .pointer (some ⟨b9, 0, none⟩), .pointer (some ⟨b1, 0, none⟩), .pointer (some ⟨b3, 0, none⟩), .pointer (some ⟨b10, 0, none⟩)] call70 _ (by
      intro q s x hq z t w H
      have H2 : HSat No w0 (Cel b3 30 [z.1] :: OSl 57 z.1 9 Pl.enc (out ++ ((ZAt r).take (q)).map (mkR h n L i k r)) :: MapA b41 (fun n : Int => Value.int .i64 n) (fun n : Int => Value.int .i64 n) (atN out.length (ZAt r) (q)) z.2 :: Cel b10 144 [.map (some b41)] :: Cel b4 3 [.int .i64 (n : Int)] :: Cel b6 3 [.int .i64 (i : Int)] :: Cel b8 3 [.int .i64 (k : Int)] :: Cel b9 70 [.string r.name, .int .i64 r.x, .int .i64 r.y, .int .i64 r.from_, .int .i64 r.to_, .int .i64 r.step, r.mv, .int .i64 r.at_] :: Cel b1 26 (HallV.enc h) :: Sl r.mv 3 MarkV.enc r.marks :: ZAU h :: t) w := H
      refine Ret.mono (place1_spec h n i k L r z.1 _ _ z.2 s x b4 b6 b8 b9 b1 b3 b10 b41 w (H2.ok (ZAU h) (by simp)) hnl hLn hbx hbl (by have h1 := (List.getElem?_eq_some_iff.1 hq).1; have h2 := seatsR_len hr; rw [List.length_append, List.length_map, List.length_take]; omega) H2) ?_
      rintro u w' ⟨v2, c2, H3⟩
      have e1 : out ++ ((ZAt r).take q).map (mkR h n L i k r) ++ [mkPl h n L i k r s x] = out ++ ((ZAt r).take (q + 1)).map (mkR h n L i k r) := by rw [List.append_assoc, ← take_map_s (mkR h n L i k r) hq]; rfl
      have e2 : upd (atN out.length (ZAt r) q) s ((out ++ ((ZAt r).take q).map (mkR h n L i k r)).length : Int) = atN out.length (ZAt r) (q + 1) := by
        have h1 := (List.getElem?_eq_some_iff.1 hq).1
        rw [atN, List.getD_eq_getElem?_getD, hq, List.length_append, List.length_map, List.length_take, Nat.min_eq_left (Nat.le_of_lt h1)]; rfl
      rw [e1, e2] at H3
      exact ⟨(v2, c2), H3⟩) (vo, 0) (by
      have h9 := H.take [Cel b3 30 [vo], OSl 57 vo 9 Pl.enc (out), MapA b41 (fun n : Int => Value.int .i64 n) (fun n : Int => Value.int .i64 n) (fun _ => none) 0, Cel b10 144 [.map (some b41)], Cel b4 3 [.int .i64 (n : Int)], Cel b6 3 [.int .i64 (i : Int)], Cel b8 3 [.int .i64 (k : Int)], Cel b9 70 [.string r.name, .int .i64 r.x, .int .i64 r.y, .int .i64 r.from_, .int .i64 r.to_, .int .i64 r.step, r.mv, .int .i64 r.at_], Cel b1 26 (HallV.enc h), Sl r.mv 3 MarkV.enc r.marks, ZAU h, Sl r.mv 3 MarkV.enc r.marks, Cel b7 73 [.string B.name, B.rv, .int .i64 B.at_], Sl B.rv 8 RowV.enc B.rows, Cel b5 79 [.string L.name, .int .i64 L.height, L.bv, L.av, L.iv, L.pv, L.dv, .int .i64 L.at_], Sl L.bv 3 BlockV.enc L.blocks, Sl L.av 7 AreaV.enc L.areas, Sl h.lv 8 LevV.enc h.levels, ZAU h]
      show HSat No w0 [Cel b3 30 [vo], OSl 57 vo 9 Pl.enc (out ++ ((ZAt r).take (0)).map (mkR h n L i k r)), MapA b41 (fun n : Int => Value.int .i64 n) (fun n : Int => Value.int .i64 n) (atN out.length (ZAt r) (0)) 0, Cel b10 144 [.map (some b41)], Cel b4 3 [.int .i64 (n : Int)], Cel b6 3 [.int .i64 (i : Int)], Cel b8 3 [.int .i64 (k : Int)], Cel b9 70 [.string r.name, .int .i64 r.x, .int .i64 r.y, .int .i64 r.from_, .int .i64 r.to_, .int .i64 r.step, r.mv, .int .i64 r.at_], Cel b1 26 (HallV.enc h), Sl r.mv 3 MarkV.enc r.marks, ZAU h, Sl r.mv 3 MarkV.enc r.marks, Cel b7 73 [.string B.name, B.rv, .int .i64 B.at_], Sl B.rv 8 RowV.enc B.rows, Cel b5 79 [.string L.name, .int .i64 L.height, L.bv, L.av, L.iv, L.pv, L.dv, .int .i64 L.at_], Sl L.bv 3 BlockV.enc L.blocks, Sl L.av 7 AreaV.enc L.areas, Sl h.lv 8 LevV.enc h.levels, ZAU h] _
      rw [show out ++ ((ZAt r).take 0).map (mkR h n L i k r) = out by simp]
      exact h9)) fun v w hc a S => ?_)
    obtain ⟨⟨vo2, c2⟩, H⟩ := hc
    have H : HSat No w0 [Cel b3 30 [vo2], OSl 57 vo2 9 Pl.enc (out ++ ((ZAt r).take ((ZAt r).length)).map (mkR h n L i k r)), MapA b41 (fun n : Int => Value.int .i64 n) (fun n : Int => Value.int .i64 n) (rowMap r out.length) c2, Cel b10 144 [.map (some b41)], Cel b4 3 [.int .i64 (n : Int)], Cel b6 3 [.int .i64 (i : Int)], Cel b8 3 [.int .i64 (k : Int)], Cel b9 70 [.string r.name, .int .i64 r.x, .int .i64 r.y, .int .i64 r.from_, .int .i64 r.to_, .int .i64 r.step, r.mv, .int .i64 r.at_], Cel b1 26 (HallV.enc h), Sl r.mv 3 MarkV.enc r.marks, ZAU h, Sl r.mv 3 MarkV.enc r.marks, Cel b7 73 [.string B.name, B.rv, .int .i64 B.at_], Sl B.rv 8 RowV.enc B.rows, Cel b5 79 [.string L.name, .int .i64 L.height, L.bv, L.av, L.iv, L.pv, L.dv, .int .i64 L.at_], Sl L.bv 3 BlockV.enc L.blocks, Sl L.av 7 AreaV.enc L.areas, Sl h.lv 8 LevV.enc h.levels, ZAU h] _ := H
    rw [List.take_length] at H
    refine gnt ?_
    have S := S.sel [10, 9, 36, 35, 34, 6, 28, 27, 26, 5, 4, 20, 19, 18, 3, 2, 1] rfl
    refine ZAB <| gq rfl S (ZAb rfl S H rfl (by exact Fagg70)) fun a S => ?_
    refine gq rfl S (ZAd rfl S rfl rfl) fun a S => ZAF (ZAV (wn rfl) rfl rfl S (ZAi rfl call21 S rfl) (seats_iter (l := [Cel b4 3 [.int .i64 (n : Int)], Cel b6 3 [.int .i64 (i : Int)], Cel b8 3 [.int .i64 (k : Int)], Cel b1 26 (HallV.enc h), Cel b7 73 [.string B.name, B.rv, .int .i64 B.at_], Sl B.rv 8 RowV.enc B.rows, Cel b5 79 [.string L.name, .int .i64 L.height, L.bv, L.av, L.iv, L.pv, L.dv, .int .i64 L.at_], Sl L.bv 3 BlockV.enc L.blocks, Sl L.av 7 AreaV.enc L.areas, Sl h.lv 8 LevV.enc h.levels, ZAU h]) (fun (q : Nat) (_ : Unit) => [Cel b3 30 [vo2], OSl 57 vo2 9 Pl.enc (((ZAt r).take (q)).foldl (fun o p => ZB3 (rowMap r out.length) r o p.1) (out ++ (ZAt r).map (mkR h n L i k r))), MapA b41 (fun n : Int => Value.int .i64 n) (fun n : Int => Value.int .i64 n) (rowMap r out.length) c2, Cel b10 144 [.map (some b41)], Cel b9 70 [.string r.name, .int .i64 r.x, .int .i64 r.y, .int .i64 r.from_, .int .i64 r.to_, .int .i64 r.step, r.mv, .int .i64 r.at_], Sl r.mv 3 MarkV.enc r.marks]) r hr 72 [] [.pointer (some ⟨b9, 0, none⟩), .pointer (some ⟨b10, 0, none⟩), .pointer (some ⟨b3, 0, none⟩)] call72 _ (by
      intro q s x hq z t w H
      have H2 : HSat No w0 (Cel b3 30 [vo2] :: OSl 57 vo2 9 Pl.enc (((ZAt r).take (q)).foldl (fun o p => ZB3 (rowMap r out.length) r o p.1) (out ++ (ZAt r).map (mkR h n L i k r))) :: MapA b41 (fun n : Int => Value.int .i64 n) (fun n : Int => Value.int .i64 n) (rowMap r out.length) c2 :: Cel b10 144 [.map (some b41)] :: Cel b9 70 [.string r.name, .int .i64 r.x, .int .i64 r.y, .int .i64 r.from_, .int .i64 r.to_, .int .i64 r.step, r.mv, .int .i64 r.at_] :: Sl r.mv 3 MarkV.enc r.marks :: t) w := H
      have hql := (List.getElem?_eq_some_iff.1 hq).1
      refine Ret.mono (place2_spec r vo2 _ _ c2 s (.int .i64 x) b9 b10 b3 b41 w (by rw [fold_len, List.length_append, List.length_map]; exact atN_ok _ _ (by omega) _ (Nat.le_refl _)) H2) ?_
      intro u w' H3
      rw [show ZB3 (rowMap r out.length) r (((ZAt r).take (q)).foldl (fun o p => ZB3 (rowMap r out.length) r o p.1) (out ++ (ZAt r).map (mkR h n L i k r))) s = ((ZAt r).take (q + 1)).foldl (fun o p => ZB3 (rowMap r out.length) r o p.1) (out ++ (ZAt r).map (mkR h n L i k r)) from take_fold_s (fun o p => ZB3 (rowMap r out.length) r o p.1) _ hq] at H3
      exact ⟨(), H3⟩) () (by
      have h9 := H.take [Cel b3 30 [vo2], OSl 57 vo2 9 Pl.enc (out ++ (ZAt r).map (mkR h n L i k r)), MapA b41 (fun n : Int => Value.int .i64 n) (fun n : Int => Value.int .i64 n) (rowMap r out.length) c2, Cel b10 144 [.map (some b41)], Cel b9 70 [.string r.name, .int .i64 r.x, .int .i64 r.y, .int .i64 r.from_, .int .i64 r.to_, .int .i64 r.step, r.mv, .int .i64 r.at_], Sl r.mv 3 MarkV.enc r.marks, Sl r.mv 3 MarkV.enc r.marks, Cel b4 3 [.int .i64 (n : Int)], Cel b6 3 [.int .i64 (i : Int)], Cel b8 3 [.int .i64 (k : Int)], Cel b1 26 (HallV.enc h), Cel b7 73 [.string B.name, B.rv, .int .i64 B.at_], Sl B.rv 8 RowV.enc B.rows, Cel b5 79 [.string L.name, .int .i64 L.height, L.bv, L.av, L.iv, L.pv, L.dv, .int .i64 L.at_], Sl L.bv 3 BlockV.enc L.blocks, Sl L.av 7 AreaV.enc L.areas, Sl h.lv 8 LevV.enc h.levels, ZAU h]
      exact h9)) fun v w hc a S => ?_)
    obtain ⟨_, H⟩ := hc
    have H : HSat No w0 [Cel b3 30 [vo2], OSl 57 vo2 9 Pl.enc (((ZAt r).take ((ZAt r).length)).foldl (fun o p => ZB3 (rowMap r out.length) r o p.1) (out ++ (ZAt r).map (mkR h n L i k r))), MapA b41 (fun n : Int => Value.int .i64 n) (fun n : Int => Value.int .i64 n) (rowMap r out.length) c2, Cel b10 144 [.map (some b41)], Cel b9 70 [.string r.name, .int .i64 r.x, .int .i64 r.y, .int .i64 r.from_, .int .i64 r.to_, .int .i64 r.step, r.mv, .int .i64 r.at_], Sl r.mv 3 MarkV.enc r.marks, Sl r.mv 3 MarkV.enc r.marks, Cel b4 3 [.int .i64 (n : Int)], Cel b6 3 [.int .i64 (i : Int)], Cel b8 3 [.int .i64 (k : Int)], Cel b1 26 (HallV.enc h), Cel b7 73 [.string B.name, B.rv, .int .i64 B.at_], Sl B.rv 8 RowV.enc B.rows, Cel b5 79 [.string L.name, .int .i64 L.height, L.bv, L.av, L.iv, L.pv, L.dv, .int .i64 L.at_], Sl L.bv 3 BlockV.enc L.blocks, Sl L.av 7 AreaV.enc L.areas, Sl h.lv 8 LevV.enc h.levels, ZAU h] _ := H
    rw [List.take_length] at H
    have H : HSat No w0 [Cel b3 30 [vo2], OSl 57 vo2 9 Pl.enc (rowPl h n L i k r out), MapA b41 (fun n : Int => Value.int .i64 n) (fun n : Int => Value.int .i64 n) (rowMap r out.length) c2, Cel b10 144 [.map (some b41)], Cel b9 70 [.string r.name, .int .i64 r.x, .int .i64 r.y, .int .i64 r.from_, .int .i64 r.to_, .int .i64 r.step, r.mv, .int .i64 r.at_], Sl r.mv 3 MarkV.enc r.marks, Sl r.mv 3 MarkV.enc r.marks, Cel b4 3 [.int .i64 (n : Int)], Cel b6 3 [.int .i64 (i : Int)], Cel b8 3 [.int .i64 (k : Int)], Cel b1 26 (HallV.enc h), Cel b7 73 [.string B.name, B.rv, .int .i64 B.at_], Sl B.rv 8 RowV.enc B.rows, Cel b5 79 [.string L.name, .int .i64 L.height, L.bv, L.av, L.iv, L.pv, L.dv, .int .i64 L.at_], Sl L.bv 3 BlockV.enc L.blocks, Sl L.av 7 AreaV.enc L.areas, Sl h.lv 8 LevV.enc h.levels, ZAU h] _ := H
    refine ZAj <| ZAK <| ZAA ?_
    have S := S.sel [36, 35, 34, 6, 28, 27, 26, 5, 4, 20, 19, 18, 3, 2, 1] rfl
    refine ZAB <| q_ad S rfl (by omega) fun a S => ?_
    exact q_mv S rfl fun a S => gnt <| ⟨(k + 1, vo2), S.sel [36] rfl, S.sel [35, 34, 6, 28, 27, 26, 5, 4, 20, 19, 18, 3, 2, 1] rfl, ⟨by dsimp only; omega, by dsimp only; rw [hst3]; omega, by dsimp only; rw [hst3]; exact H.take _⟩, by dsimp only; omega⟩
   have h3p := h3; try simp only [DL] at h3p
   obtain rfl : k = B.rows.length := by omega
   refine ZAf <| ZAO (ZAO (x_eq ?_))
   refine ZAK <| ZAA ?_
   have S := S.sel [28, 27, 26, 5, 4, 20, 19, 18, 3, 2, 1] rfl
   refine ZAB <| q_ad S rfl (by omega) fun a S => ?_
   refine q_mv S rfl fun a S => gnt ?_
   rw [← hst2] at H
   exact ⟨(i + 1, vo), S.sel [28] rfl, S.sel [27, 26, 5, 4, 20, 19, 18, 3, 2, 1] rfl, ⟨by dsimp only; omega, by dsimp only; rw [hst2]; omega, H.take _⟩, by dsimp only; omega⟩
  have h2p := h2; try simp only [DL] at h2p
  obtain rfl : i = L.blocks.length := by omega
  refine ZAf <| ZAO (ZAO (x_eq ?_))
  refine ZAA ?_
  have S := S.sel [5, 4, 20, 19, 18, 3, 2, 1] rfl
  refine gsr <| q_fa S Ffo79_3 rfl fun a S => q_ld S H Fsca75 rfl rfl fun a S => gq rfl S (ZAT rfl underlying75 S H rfl) fun a S => q_mv S rfl fun a S => gnt <| ZAD ?_
  have SU := S.sel [52, 51, 5, 4, 20, 19, 18, 3, 2, 1] rfl
  refine ZBL (X := Nat × Value) SU (fun x => [(53, .int .i64 (x.1 : Int))]) (fun x w => x.1 ≤ L.areas.length ∧ (areasP h n L (ZBn h n L (levsP h n) L.blocks.length) x.1).length ≤ 304000 * n + 144000 + 4000 * x.1 ∧ HSat No w0 [Cel b3 30 [x.2], OSl 57 x.2 9 Pl.enc (areasP h n L (ZBn h n L (levsP h n) L.blocks.length) (x.1)), Cel b4 3 [.int .i64 (n : Int)], Cel b5 79 [.string L.name, .int .i64 L.height, L.bv, L.av, L.iv, L.pv, L.dv, .int .i64 L.at_], Sl L.bv 3 BlockV.enc L.blocks, Sl L.av 7 AreaV.enc L.areas, Cel b1 26 (HallV.enc h), Sl h.lv 8 LevV.enc h.levels, ZAU h] w) (fun x => L.areas.length - x.1) (0, vo) (S.sel [53] rfl) (⟨Nat.zero_le _, by show (ZBn h n L (levsP h n) L.blocks.length).length ≤ _; omega, H.take [Cel b3 30 [vo], OSl 57 vo 9 Pl.enc (ZBn h n L (levsP h n) L.blocks.length), Cel b4 3 [.int .i64 (n : Int)], Cel b5 79 [.string L.name, .int .i64 L.height, L.bv, L.av, L.iv, L.pv, L.dv, .int .i64 L.at_], Sl L.bv 3 BlockV.enc L.blocks, Sl L.av 7 AreaV.enc L.areas, Cel b1 26 (HallV.enc h), Sl h.lv 8 LevV.enc h.levels, ZAU h]⟩) (fun x a w S hW => ?_)
  simp only [List.cons_append, List.nil_append] at S
  clear hcnt
  obtain ⟨i, vo⟩ := x
  obtain ⟨hkk, hcnt, H⟩ := hW
  dsimp only at S H hkk hcnt
  refine gsr <| q_bn S rfl fun a S => gnt <| ZAG <| c_if S rfl (fun h4 => ?_) (fun h4 => ?_)
  ·have h4p := h4; try simp only [DL] at h4p
   have hil : i < L.areas.length := by omega
   obtain ⟨A, hA⟩ : ∃ A, A = L.areas[i] := ⟨_, rfl⟩
   have hLA : L.areas[i] = A := hA.symm
   have hv3 := hv1.areas i hil
   rw [hLA] at hv3
   have hbc := cs4_crd hv3.box
   have hho := hv3.holds
   obtain ⟨m, hm⟩ : ∃ m : Nat, A.holds = (m : Int) := ⟨A.holds.toNat, by omega⟩
   have hst3 := areasP_s h n L (ZBn h n L (levsP h n) L.blocks.length) hil
   rw [hLA, show A.holds.toNat = m by omega] at hst3
   refine ZAM <| ZAA <| ZAG <| ZAD <| gsr <| q_mv S rfl fun a S => gq rfl S (ZAI rfl underlying75 Fsiz92 S H rfl rfl (by omega)) fun a S => ?_
   refine gq rfl S (ZAk _ rfl S H rfl (by exact Fagg92) (by omega)) fun a S => ?_
   rw [hLA] at S
   refine q_al S H rfl Fzer92 fun b12 a w S H => q_as S rfl fun a S => ZAF (ZAQ (wn rfl) rfl rfl S H rfl rfl rfl Fsiz92 rfl (cs' := [_, _, _, _, _, _, _]) rfl fun a w S H => gnt ?_)
   have S := S.sel [11, 12, 53, 52, 51, 5, 4, 20, 19, 18, 3, 2, 1] rfl
   refine ZAG <| ZAZ (loud := []) (tails := []) (free := []) [0, 1, 2, 3, 4, 5, 6, 7, 8, 9, 10, 11, 12, 13, 14, 15, 16, 17] [] Fmo (by kernel_rfl) (by kernel_rfl) rfl H ?_
   refine m_q rfl S (fun w H => ZAC rfl Ffo92_1 S rfl) fun a S => m_q rfl S (fun w H => ZAC rfl Ffo90_0 S rfl) fun a S => m_q rfl S (fun w H => ZAJ rfl ZAN S H rfl rfl) fun a S => m_q rfl S (fun w H => ZAC rfl Ffo92_1 S rfl) fun a S => m_q rfl S (fun w H => ZAC rfl Ffo90_2 S rfl) fun a S => m_q rfl S (fun w H => ZAJ rfl ZAN S H rfl rfl) fun a S => m_q rfl S (fun w H => y_add rfl S rfl rfl (by omega)) fun a S => ?_
   refine m_q rfl S (fun w H => y_quon rfl S rfl rfl (by omega) (by omega) (by omega)) fun a S => ?_
   refine m_q rfl S (fun w H => ZAC rfl Ffo92_1 S rfl) fun a S => m_q rfl S (fun w H => ZAC rfl Ffo90_1 S rfl) fun a S => m_q rfl S (fun w H => ZAJ rfl ZAN S H rfl rfl) fun a S => m_q rfl S (fun w H => ZAC rfl Ffo92_1 S rfl) fun a S => m_q rfl S (fun w H => ZAC rfl Ffo90_3 S rfl) fun a S => m_q rfl S (fun w H => ZAJ rfl ZAN S H rfl rfl) fun a S => m_q rfl S (fun w H => y_add rfl S rfl rfl (by omega)) fun a S => ?_
   refine m_q rfl S (fun w H => y_quon rfl S rfl rfl (by omega) (by omega) (by omega)) fun a S => ?_
   refine m_q rfl S (fun w H => ZA1 rfl S rfl) fun a S => m_q rfl S (fun w H => ZA1 rfl S rfl) fun a S => ZBY (fun w H => ZAA ?_)
   have S := S.sel [14, 13, 11, 12, 53, 52, 51, 5, 4, 20, 19, 18, 3, 2, 1] rfl
   refine gsr <| gq rfl S (ZAb rfl S H rfl (by exact Fagg26)) fun a S => ?_
   refine q_ld S H ZAN rfl rfl fun a S => q_mv S rfl fun a S => q_mv S rfl fun a S => gq rfl S (ZAx rfl Fbld23 S rfl (idx := [0, 1]) rfl (cs := [.int .i64 ((A.box.x + A.box.x2) / 2), .int .i64 ((A.box.y + A.box.y2) / 2)]) rfl) fun a S => q_cl S rfl call71 ((by have hv := view_spec h n ⟨(A.box.x + A.box.x2) / 2, (A.box.y + A.box.y2) / 2⟩ _ (H.ok (ZAU h) (by simp)) hnl (by rw [hLn]; exact hbx) (by rw [hLn]; exact hbl); rw [hLn] at hv; exact hv)) fun v w hc a S => ?_
   obtain ⟨rfl, he⟩ := hc
   have H := H.ext he
   refine q_as S rfl fun a S => gnt ?_
   have S := S.sel [15, 14, 13, 11, 12, 53, 52, 51, 5, 4, 20, 19, 18, 3, 2, 1] rfl
   refine gsr <| q_fa S Ffo92_2 rfl fun a S => q_ld S H ZAN rfl rfl fun a S => q_mv S rfl fun a S => gnt <| ZAD ?_
   have SU := S.sel [81, 15, 14, 13, 11, 53, 52, 51, 5, 4, 20, 19, 18, 3, 2, 1] rfl
   refine ZBL (X := Nat × Value) SU (fun x => [(82, .int .i64 (x.1 : Int))]) (fun x w => x.1 ≤ m ∧ HSat No w0 [Cel b3 30 [x.2], OSl 57 x.2 9 Pl.enc (areasP h n L (ZBn h n L (levsP h n) L.blocks.length) i ++ (List.range (x.1)).map (arPl h n L i A)), Cel b12 92 [.string A.name, .int .i64 A.box.x, .int .i64 A.box.y, .int .i64 A.box.x2, .int .i64 A.box.y2, .int .i64 A.holds, .int .i64 A.at_], Cel b4 3 [.int .i64 (n : Int)], Cel b5 79 [.string L.name, .int .i64 L.height, L.bv, L.av, L.iv, L.pv, L.dv, .int .i64 L.at_], Sl L.bv 3 BlockV.enc L.blocks, Sl L.av 7 AreaV.enc L.areas, Cel b1 26 (HallV.enc h), Sl h.lv 8 LevV.enc h.levels, ZAU h] w) (fun x => m - x.1) (0, vo) (S.sel [82] rfl) (⟨Nat.zero_le _, by have h9 := H.take [Cel b3 30 [vo], OSl 57 vo 9 Pl.enc (areasP h n L (ZBn h n L (levsP h n) L.blocks.length) i), Cel b12 92 [.string A.name, .int .i64 A.box.x, .int .i64 A.box.y, .int .i64 A.box.x2, .int .i64 A.box.y2, .int .i64 A.holds, .int .i64 A.at_], Cel b4 3 [.int .i64 (n : Int)], Cel b5 79 [.string L.name, .int .i64 L.height, L.bv, L.av, L.iv, L.pv, L.dv, .int .i64 L.at_], Sl L.bv 3 BlockV.enc L.blocks, Sl L.av 7 AreaV.enc L.areas, Cel b1 26 (HallV.enc h), Sl h.lv 8 LevV.enc h.levels, ZAU h]; simpa using h9⟩) (fun x a w S hW => ?_)
   simp only [List.cons_append, List.nil_append] at S
   obtain ⟨s, vo⟩ := x
   obtain ⟨hss, H⟩ := hW
   dsimp only at S H hss
   refine gsr <| q_bn S rfl fun a S => gnt <| ZAG <| c_if S rfl (fun h5 => ?_) (fun h5 => ?_)
   ·have h5p := h5; try simp only [DL] at h5p
    have hsm : s < m := by omega
    refine ZAM <| ZAA <| ZAG <| ZAD <| gsr <| q_mv S rfl fun a S => q_as S rfl fun a S => gnt ?_
    refine ZAB <| q_ld S H Fsca30 rfl rfl fun a S => q_ld S H ZAN rfl rfl fun a S => q_fa S Ffo79_2 rfl fun a S => q_ld S H Fsca74 rfl rfl fun a S => gq rfl S (ZAT rfl underlying74 S H rfl) fun a S => q_mv S rfl fun a S => q_ad S rfl (by omega) fun a S => ?_
    refine q_mv S rfl fun a S => q_ad S rfl (by omega) fun a S => ?_
    refine q_mv S rfl fun a S => q_mv S rfl fun a S => q_mv S rfl fun a S => gq rfl S (ZAx rfl Fbld57 S rfl (idx := [0, 1, 2, 3, 4, 5, 6, 7, 8]) rfl (cs := [.int .i64 3, .int .i64 (n : Int), .int .i64 ((L.blocks.length : Int) + (i : Int)), .int .i64 (-1), .int .i64 ((s : Int) + 1), .int .i64 ((A.box.x + A.box.x2) / 2), .int .i64 ((A.box.y + A.box.y2) / 2), .int .i64 (ZBo h L ⟨(A.box.x + A.box.x2) / 2, (A.box.y + A.box.y2) / 2⟩), .int .i64 (-1)]) (by kernel_rfl)) fun a S => ?_
    refine ZAF (ZAP (wn rfl) rfl rfl rfl underlying30 Finf57 S H (idx := [0]) rfl rfl rfl (z := [.int .i64 0, .int .i64 0, .int .i64 0, .int .i64 0, .int .i64 0, .int .i64 0, .int .i64 0, .int .i64 0, .int .i64 0]) (by kernel_rfl) (cs := [.int .i64 3, .int .i64 (n : Int), .int .i64 ((L.blocks.length : Int) + (i : Int)), .int .i64 (-1), .int .i64 ((s : Int) + 1), .int .i64 ((A.box.x + A.box.x2) / 2), .int .i64 ((A.box.y + A.box.y2) / 2), .int .i64 (ZBo h L ⟨(A.box.x + A.box.x2) / 2, (A.box.y + A.box.y2) / 2⟩), .int .i64 (-1)]) (by kernel_rfl) fun b98 a w S H => ?_)
    refine ZAF (ZAr ([arPl h n L i A s]) (wn rfl) rfl rfl rfl underlying30 Finf57 rfl rfl S H rfl rfl rfl rfl (by simp) (by simp [Pl.enc, arPl]) (by simp [Pl.enc, Value.oneCell']) (by simp only [List.length_append, List.length_map, List.length_range, List.length_cons, List.length_nil]; omega) (by simp only [List.length_append, List.length_map, List.length_range, List.length_cons, List.length_nil]; omega) fun u99 a w hn99 S H => ?_)
    refine q_st S H rfl (H.sl1 _) Fsiz30 rfl fun a w S H => ?_
    dsimp only [List.set, Nat.zero_add, Nat.reduceAdd] at H
    refine ZAj <| ZAK <| ZAA ?_
    have S := S.sel [82, 81, 15, 14, 13, 11, 53, 52, 51, 5, 4, 20, 19, 18, 3, 2, 1] rfl
    refine ZAB <| q_ad S rfl (by omega) fun a S => ?_
    refine q_mv S rfl fun a S => gnt ?_
    rw [List.append_assoc, show (List.range s).map (arPl h n L i A) ++ [arPl h n L i A s] = (List.range (s + 1)).map (arPl h n L i A) by rw [List.range_succ, List.map_append]; rfl] at H
    exact ⟨(s + 1, u99), S.sel [82] rfl, S.sel [81, 15, 14, 13, 11, 53, 52, 51, 5, 4, 20, 19, 18, 3, 2, 1] rfl, ⟨by dsimp only; omega, H.take _⟩, by dsimp only; omega⟩
   have h5p := h5; try simp only [DL] at h5p
   obtain rfl : s = m := by omega
   refine ZAf <| ZAO (ZAO (x_eq ?_))
   refine ZAK <| ZAA ?_
   have S := S.sel [53, 52, 51, 5, 4, 20, 19, 18, 3, 2, 1] rfl
   refine ZAB <| q_ad S rfl (by omega) fun a S => ?_
   refine q_mv S rfl fun a S => gnt ?_
   rw [← hst3] at H
   exact ⟨(i + 1, vo), S.sel [53] rfl, S.sel [52, 51, 5, 4, 20, 19, 18, 3, 2, 1] rfl, ⟨by dsimp only; omega, by dsimp only; rw [hst3, List.length_append, List.length_map, List.length_range]; omega, H.take _⟩, by dsimp only; omega⟩
  have h4p := h4; try simp only [DL] at h4p
  obtain rfl : i = L.areas.length := by omega
  refine ZAf <| ZAO (ZAO (x_eq ?_))
  refine ZAK <| ZAA ?_
  have S := S.sel [20, 19, 18, 3, 2, 1] rfl
  refine ZAB <| q_ad S rfl (by omega) fun a S => ?_
  refine q_mv S rfl fun a S => gnt ?_
  rw [← hst] at H
  exact ⟨(n + 1, vo), S.sel [20] rfl, S.sel [19, 18, 3, 2, 1] rfl, ⟨by dsimp only; omega, by dsimp only; rw [hst]; omega, H.take _⟩, by dsimp only; omega⟩
 have h1p := h1; try simp only [DL] at h1p
 obtain rfl : n = h.levels.length := by omega
 refine ZAf <| ZAO (ZAO (x_eq ?_))
 refine ZAA ?_
 have S := S.sel [3, 2] rfl
 refine gsr ?_
 refine q_ld S H Fsca30 rfl rfl fun a S => ?_
 refine q_as S rfl fun a S => ?_
 refine gnt ?_
 refine ZAe ?_
 refine ret1 rfl S rfl ?_
 exact H.take [OSl 57 vo 9 Pl.enc (levsP h h.levels.length)]
section
def kpt (p : PtV) : Value := .agg #[.int .i64 p.x, .int .i64 p.y]
theorem keyOK_pt {P : Program} {T : TypeId} {fa fb : Field} (hT : P.underlying T = some (.struct #[fa, fb])) (hp : P.stoodInHeld T = false) (a1 : fa.name ≠ "_") (b1 : fb.name ≠ "_") (a2 : fa.offset = 0) (b2 : fb.offset = 1) (a3 : P.underlying fa.type = some (.int .i64)) (b3 : P.underlying fb.type = some (.int .i64)) : KeyOK P T kpt := by
  have hsc : ∀ {t : TypeId}, P.underlying t = some (.int .i64) → ZAl P t = true := by intro t h; simp [ZAl, h]
  have pt : ∀ (w : World) {t : TypeId} (h : P.underlying t = some (.int .i64)) (cs : Array Value) (o : Nat) (v : Value), cs[o]? = some v → (part t cs o).run P w = .ok v w := by
    intro w t h cs o v hv
    simp [part, run_isAgg_scalar (hsc h), hv]
  have eqi : ∀ (w : World) (n : Nat) {t : TypeId} (h : P.underlying t = some (.int .i64)) (x y : Int), (Op.equalIn (n + 1) t (.int .i64 x) (.int .i64 y)).run P w = .ok (x == y) w := by
    intro w n t h x y
    simp [Op.equalIn, run_underlying h]
  refine ⟨find_asking hT (fun a b => rfl) (fun w a b => ?_), fun e s w => ?_, fun s => ?_⟩
  · have hfs : P.fieldsOf T = #[fa, fb] := by simp [Program.fieldsOf, hT]
    obtain ⟨x1, x2⟩ := a
    obtain ⟨y1, y2⟩ := b
    unfold Op.equal Op.maxDepth
    simp only [kpt]
    rw [run_equalIn_struct w 9999 T _ _ (by rw [hfs]; exact hT) hp, hfs]
    have px1 : (part fa.type #[Value.int .i64 x1, .int .i64 x2] fa.offset).run P w = .ok (.int .i64 x1) w := pt w a3 _ _ _ (by rw [a2]; rfl)
    have px2 : (part fb.type #[Value.int .i64 x1, .int .i64 x2] fb.offset).run P w = .ok (.int .i64 x2) w := pt w b3 _ _ _ (by rw [b2]; rfl)
    have py1 : (part fa.type #[Value.int .i64 y1, .int .i64 y2] fa.offset).run P w = .ok (.int .i64 y1) w := pt w a3 _ _ _ (by rw [a2]; rfl)
    have py2 : (part fb.type #[Value.int .i64 y1, .int .i64 y2] fb.offset).run P w = .ok (.int .i64 y2) w := pt w b3 _ _ _ (by rw [b2]; rfl)
    simp only [Op.eqFields, a1, b1, ne_eq, not_false_eq_true, if_true, Sem.run_bind, px1, px2, py1, py2, Result.andThen_ok, eqi w 9998 a3, eqi w 9998 b3]
    have key : decide ((⟨x1, x2⟩ : PtV) = ⟨y1, y2⟩) = ((x1 == y1) && (x2 == y2)) := by
      rw [Bool.eq_iff_iff]; simp
    rw [key]
    cases g1 : x1 == y1 <;> simp only [Bool.not_true, Bool.not_false, Bool.false_eq_true, if_true, if_false, Sem.run_pure, Bool.false_and, Bool.true_and, Sem.run_bind, px1, px2, py1, py2, Result.andThen_ok, eqi w 9998 b3]
    cases g2 : x2 == y2 <;> simp
  · obtain ⟨x1, x2⟩ := s
    simp only [kpt]
    unfold Instr.checkKey
    simp only [Sem.run_bind, run_underlying hT, Result.andThen_ok]
    simp only [← Array.forIn_toList, List.forIn_cons, List.forIn_nil, Sem.run_bind, a1, b1, ne_eq, not_false_eq_true, if_true, pt w a3 #[.int .i64 x1, .int .i64 x2] fa.offset (.int .i64 x1) (by rw [a2]; rfl),
      pt w b3 #[.int .i64 x1, .int .i64 x2] fb.offset (.int .i64 x2) (by rw [b2]; rfl), Result.andThen_ok, checkKey_int a3 e 9998, checkKey_int b3 e 9998, Sem.run_pure]
  obtain ⟨x1, x2⟩ := s
  simp [kpt, Instr.sameBits]
theorem ptKey : KeyOK Tryz.prog 23 kpt := keyOK_pt underlying23 (by kernel_rfl) (by simp) (by simp) rfl rfl underlying3 underlying3
theorem holdsI {w : World} {g : Nat} {cur : Array Value} {e : TypeId} {xs : List Int} (hb : w.heap[g]? = some (.cells cur e (0, 0))) (ht : cur.toList.take xs.length = xs.flatMap encI) : Go.Sort.Holds (Value.int .i64) w g 0 xs.toArray := by
  intro j hj
  have hj' : j < xs.length := by simpa using hj
  refine ⟨?_, by simp [World.frozen?, hb]⟩
  have h1 : (cur.toList.take xs.length)[j]? = (xs.flatMap encI)[j]? := by rw [ht]
  rw [List.getElem?_take_of_lt hj'] at h1
  simp only [World.cell?, hb, Nat.zero_add]
  simp only [Option.isSome_none, Bool.false_eq_true, if_false]
  rw [← Array.getElem?_toList, h1]
  have e2 : xs.flatMap encI = xs.map (Value.int .i64) := by rw [List.map_eq_flatMap]; rfl
  rw [e2]
  simp [hj']
theorem take_putI (cur : Array Value) (ts : List Int) (n : Nat) (h : n ≤ ts.length) (h2 : ts.length ≤ cur.size) : (Go.Sort.putCells (Value.int .i64) 0 ts.toArray cur).toList.take n = (ts.take n).flatMap encI := by
  have e2 : (ts.take n).flatMap encI = (ts.take n).map (Value.int .i64) := by rw [List.map_eq_flatMap]; rfl
  rw [e2]
  apply List.ext_getElem?
  intro j
  by_cases hj : j < n
  · rw [List.getElem?_take_of_lt hj, Array.getElem?_toList, List.getElem?_map, List.getElem?_take_of_lt hj]
    simp [Go.Sort.putCells, show j < cur.size by omega, show j < ts.length by omega]
  rw [List.getElem?_take_eq_none (by omega), List.getElem?_eq_none (by simp; omega)]
theorem own_putI {e : TypeId} {g cap : Nat} {w w' : World} {xs ys : List Int} (m : Nat) (h : IsOSl w e (.slice (some ⟨g, 0, none⟩) xs.length cap) 1 encI xs) (hl : ys.length = xs.length) (hm : m ≤ ys.length) (n : Nat) (os : Array Obj) (hw : w' = Go.Sort.grow (Go.Sort.putRow (Value.int .i64) (Go.Sort.ahead w n) g 0 ys.toArray) os) :
    IsOSl w' e (.slice (some ⟨g, 0, none⟩) m cap) 1 encI (ys.take m) ∧ Fr (fun b => (Value.slice (some ⟨g, 0, none⟩) xs.length cap).ownBlock = some b) w w' := by
  subst hw
  obtain ⟨g', cap', cur, hv, hb0, hg, h1, h2, h3, h4⟩ : ∃ g' cap' cur, Value.slice (some ⟨g, 0, none⟩) xs.length cap = .slice (some ⟨g', 0, none⟩) xs.length cap' ∧ 0 ≤ g' ∧ w.heap[g']? = some (.cells cur e (0, 0)) ∧ xs.length ≤ cap' ∧ cap' ≤ maxLen ∧ cur.size = cap' * 1 ∧ cur.toList.take (xs.length * 1) = xs.flatMap encI := by
    rcases h.row.2 with ⟨h0, _⟩ | h0
    · cases h0
    exact h0
  simp only [Value.slice.injEq, Option.some.injEq, Addr.mk.injEq, and_true, true_and] at hv
  obtain ⟨rfl, rfl⟩ := hv
  have hgl : g < w.heap.size := (Array.getElem?_eq_some_iff.1 hg).1
  have hh : (Go.Sort.grow (Go.Sort.putRow (Value.int .i64) (Go.Sort.ahead w n) g 0 ys.toArray) os).heap[g]? = some (.cells (Go.Sort.putCells (Value.int .i64) 0 ys.toArray cur) e (0, 0)) := by
    rw [Go.Sort.heap_grow_old _ _ (by simpa [Go.Sort.putRow, Go.Sort.mapBlock, Go.Sort.ahead] using hgl)]
    simp [Go.Sort.putRow, Go.Sort.mapBlock, Go.Sort.ahead, Array.getElem?_modify, hg, Go.Sort.onCells]
  have hl2 := h.len
  refine ⟨⟨⟨by rw [ZA7 (sz := 1) (fun y _ => rfl)], .inr ⟨g, cap, _, by rw [List.length_take, Nat.min_eq_left hm], Nat.zero_le _, hh, by rw [List.length_take]; omega, h2, by simp [Go.Sort.putCells, h3], ?_⟩⟩, by rw [List.length_take]; omega, fun y _ => rfl⟩, ?_⟩
  · rw [List.length_take, Nat.min_eq_left hm, Nat.mul_one]
    exact take_putI cur ys m hm (by omega)
  refine ⟨rfl, rfl, rfl, ?_, fun b hb hne => ?_, fun b hb ht => ?_⟩
  · simp [Go.Sort.grow, Go.Sort.putRow, Go.Sort.mapBlock, Go.Sort.ahead]
  · have hne' : g ≠ b := fun e => hne (by simp [Value.ownBlock, e])
    rw [Go.Sort.heap_grow_old _ _ (by simpa [Go.Sort.putRow, Go.Sort.mapBlock, Go.Sort.ahead] using hb)]
    simp [Go.Sort.putRow, Go.Sort.mapBlock, Go.Sort.ahead, Array.getElem?_modify, hne']
  by_cases hne' : g = b
  · subst hne'; rw [hh]; exact Nat.le_refl 0
  rw [Go.Sort.heap_grow_old _ _ (by simpa [Go.Sort.putRow, Go.Sort.mapBlock, Go.Sort.ahead] using hb)]
  simpa [Go.Sort.putRow, Go.Sort.mapBlock, Go.Sort.ahead, Array.getElem?_modify, hne'] using ht
theorem sortI_spec {M : Nat → Prop} {u0 : World} {l : List Atom} (v : Value) (xs : List Int) (w0 : World) (hn : xs.length < 4611686018427387904) (H : HSat M u0 (OSl 3 v 1 encI xs :: l) w0) :
    Ret Tryz.prog 64 #[v] w0 (fun u w => ∃ ys, ys.Perm xs ∧ HSat M u0 (OSl 3 v 1 encI ys :: l) w) := by
  have ho : IsOSl w0 3 v 1 encI xs := H.ok _ (List.mem_cons_self ..)
  obtain hv | ⟨g, cap, cur, hv, hb0, hg, h1, h2, h3, h4⟩ := ho.row.2
  · obtain ⟨rfl, hz⟩ := hv
    have hx : xs = [] := List.eq_nil_of_length_eq_zero hz
    subst hx
    exact Calls.mono (Tryz.slices_Sort_int_none none 0 w0) fun e w' ⟨he, hw⟩ => ⟨_, he, [], List.Perm.nil, by rw [hw]; exact H⟩
  subst hv
  have hh := holdsI hg (by simpa using h4)
  refine Calls.mono (Tryz.slices_Sort_int g 0 cap xs w0 hh (Array.getElem?_eq_some_iff.1 hg).1 hn) fun e w' ⟨he, n, os, hw⟩ => ⟨_, he, xs.mergeSort (fun x y => decide (x ≤ y)), List.mergeSort_perm xs _, ?_⟩
  have hl : (xs.mergeSort fun x y => decide (x ≤ y)).length = xs.length := (List.mergeSort_perm xs _).length_eq
  obtain ⟨r1, r2⟩ := own_putI (w' := w') xs.length ho hl (by omega) n os hw
  rw [List.take_of_length_le (by omega)] at r1
  exact HSat.swap (l1 := []) H rfl rfl r2 r1 (fun b hb => .inl hb)
theorem compact_mem (zs : List Int) : ∀ x ∈ Go.Lib.compact zs, x ∈ zs := by
  intro x hx
  unfold Go.Lib.compact Go.Lib.compactUpTo at hx
  obtain ⟨j, hj, rfl⟩ := List.mem_map.1 hx
  have hj2 := List.mem_range.1 (List.mem_filter.1 hj).1
  simp [hj2]
theorem compactI_spec {M : Nat → Prop} {u0 : World} {l : List Atom} (v : Value) (xs : List Int) (w0 : World) (H : HSat M u0 (OSl 3 v 1 encI xs :: l) w0) :
    Ret Tryz.prog 65 #[v] w0 (fun u w => ∃ ys : List Int, (∀ y ∈ ys, y ∈ xs) ∧ ys.length ≤ xs.length ∧ HSat M u0 (OSl 3 u 1 encI ys :: l) w) := by
  have ho : IsOSl w0 3 v 1 encI xs := H.ok _ (List.mem_cons_self ..)
  obtain hv | ⟨g, cap, cur, hv, hb0, hg, h1, h2, h3, h4⟩ := ho.row.2
  · obtain ⟨rfl, hz⟩ := hv
    have hx : xs = [] := List.eq_nil_of_length_eq_zero hz
    subst hx
    exact Calls.mono (Tryz.slices_Compact_int_empty none 0 w0) fun e w' ⟨he, hw⟩ => ⟨_, he, [], fun y h => h, Nat.le_refl _, by rw [hw]; exact H⟩
  subst hv
  have hh := holdsI hg (by simpa using h4)
  have hc := Go.Lib.compact_length_le xs
  refine Calls.mono (Tryz.slices_Compact_int g 0 cap xs w0 hh ho.len h1) fun e w' ⟨he, q, hw⟩ => ⟨_, he, Go.Lib.compact xs, compact_mem xs, hc, ?_⟩
  obtain ⟨r1, r2⟩ := own_putI (w' := w') (ys := Go.Lib.compact xs ++ List.replicate (xs.length - (Go.Lib.compact xs).length) 0) (Go.Lib.compact xs).length ho (by simp; omega) (by simp) q #[] (by rw [hw, Go.Sort.grow_empty])
  rw [List.take_left'  rfl] at r1
  exact HSat.swap (l1 := []) H rfl rfl r2 r1 (fun b hb => .inl hb)
section
variable {M : Nat → Prop} {w0 w : World} {l : List Atom} {ks : List PtV} {val : PtV → Value} {e sz : Nat} {α : Type} {enc : α → List Value} {g : PtV → List α} {k : PtV}
def addP (ks : List PtV) (k : PtV) : List PtV := if k ∈ ks then ks else ks ++ [k]
theorem addP_mem {ks : List PtV} {k j : PtV} : j ∈ addP ks k ↔ j ∈ ks ∨ j = k := by
  unfold addP; split
  · rename_i h; exact ⟨.inl, fun h2 => h2.elim id fun e => e ▸ h⟩
  simp
theorem addP_nodup {ks : List PtV} {k : PtV} (h : ks.Nodup) : (addP ks k).Nodup := by
  unfold addP; split
  · exact h
  rename_i hk; exact List.nodup_append.2 ⟨h, by simp, fun x hx y hy e => hk (by rw [List.mem_singleton.1 hy] at e; exact e ▸ hx)⟩
def mvP {β : Type} (ks : List PtV) (val : PtV → β) : PtV → Option β := fun k => if k ∈ ks then some (val k) else none
def setP2 {β : Type} (val : PtV → β) (k : PtV) (u : β) : PtV → β := fun j => if j = k then u else val j
theorem upd_mvP {β : Type} (ks : List PtV) (val : PtV → β) (k : PtV) (u : β) : upd (mvP ks val) k u = mvP (addP ks k) (setP2 val k u) := by
  funext j
  unfold upd mvP setP2
  by_cases h : j = k
  · subst h; simp [addP_mem]
  simp [h, addP_mem]
theorem famGetP (H : HSat M w0 (FamA ks (fun j => OSl e (val j) sz enc (g j)) :: l) w) (k : PtV) (hz : k ∉ ks → g k = []) : HSat M w0 (OSl e ((mvP ks val k).getD (.slice none 0 0)) sz enc (g k) :: FamA (ks.erase k) (fun j => OSl e (val j) sz enc (g j)) :: l) w := by
  by_cases h : k ∈ ks
  · rw [show mvP ks val k = some (val k) by simp [mvP, h]]; exact H.famOut h
  rw [show mvP ks val k = none by simp [mvP, h], List.erase_of_not_mem h, hz h]; exact H.nilO e sz enc
theorem famPutP {u : Value} {x : List α} (H : HSat M w0 (OSl e u sz enc x :: FamA (ks.erase k) (fun j => OSl e (val j) sz enc (g j)) :: l) w) (hn : ks.Nodup) :
    HSat M w0 (FamA (addP ks k) (fun j => OSl e (setP2 val k u j) sz enc (setP2 g k x j)) :: l) w := by
  have s1 : ∀ {β : Type} (v : PtV → β) (y : β), setP2 v k y k = y := fun v y => by simp [setP2]
  have s2 : ∀ {β : Type} (v : PtV → β) (y : β) {j : PtV}, j ≠ k → setP2 v k y j = v j := fun v y j h => by simp [setP2, h]
  unfold addP
  split
  · rename_i h
    exact H.famIn _ h hn rfl (by rw [s1, s1]) (fun j hj hne => by rw [s2 _ _ hne, s2 _ _ hne])
  rename_i h
  rw [List.erase_of_not_mem h] at H
  exact H.famSnoc _ rfl (by rw [s1, s1]) (fun j hj => by have hne : j ≠ k := fun e => h (e ▸ hj); rw [s2 _ _ hne, s2 _ _ hne])
end
end
def openB (rs : List Bool) (bs : List BoxV) (pr : BoxV → Bool) (k : Nat) : Bool := (List.range k).any fun i => rs.getD i false && (match bs[i]? with | some b => pr b | none => false)
theorem openB_s {rs : List Bool} {bs : List BoxV} {pr : BoxV → Bool} {k : Nat} (hk : k < bs.length) (hr : k < rs.length) : openB rs bs pr (k + 1) = (openB rs bs pr k || (rs[k] && pr bs[k])) := by
  unfold openB
  rw [List.range_succ, List.any_append]
  simp [hk, hr]
theorem openB_yes {rs : List Bool} {bs : List BoxV} {pr : BoxV → Bool} {k : Nat} (hk : k < bs.length) (h1 : rs.getD k false = true) (h2 : pr bs[k] = true) : openB rs bs pr bs.length = true := by
  unfold openB
  exact List.any_eq_true.2 ⟨k, List.mem_range.2 hk, by rw [h1, List.getElem?_eq_getElem hk]; simpa using h2⟩
set_option maxHeartbeats 1000000 in
theorem open_spec (L : LevV) (f : FuncId) (cap : List Value) (he0 : Enters Tryz.prog f) (pr : BoxV → Bool) (rs : List Bool) (vo : Value) (b3 b4 : Nat) (w0 : World) (hb : w0.heap[b3]? = some (.cells (LevV.enc L).toArray 79 (0, 0))) (hc : w0.heap[b4]? = some (.cells ([vo]).toArray 136 (0, 0))) (hv : IsSl w0 vo 1 encQ rs) (hi : IsSl w0 L.iv 4 BoxV.enc L.aisles) (hr : rs.length = L.aisles.length)
    (hstep : ∀ x ∈ L.aisles, ∀ w, Ext w0 w → Ret Tryz.prog f ([Value.agg (BoxV.enc x).toArray] ++ cap).toArray w (fun u w' => u = .bool (pr x) ∧ Ext w w')) :
    Ret Tryz.prog 60 #[.func (.func f) #[] cap.toArray, .pointer (some ⟨b3, 0, none⟩), .pointer (some ⟨b4, 0, none⟩)] w0 (fun u w => u = .bool (openB rs L.aisles pr L.aisles.length) ∧ Ext w0 w) := by
 refine ZAE (nt := 25) Tryz.func60 rfl rfl rfl (fl := [(0, .func (.func f) #[] cap.toArray), (1, .pointer (some ⟨b3, 0, none⟩)), (2, .pointer (some ⟨b4, 0, none⟩))]) rfl (fun a S => ?_)
 have H := HSat.start w0
 have H := H.ro0 (Atom.ro (Cel b3 79 (LevV.enc L))) rfl (hb)
 have H := H.ro0 (Atom.ro (Cel b4 136 [vo])) rfl (hc)
 have H := H.ro0 (Sl vo 1 encQ rs) rfl (hv)
 have H := H.ro0 (Sl L.iv 4 BoxV.enc L.aisles) rfl (hi)
 have hlen := hi.len
 refine gsr <| q_as S rfl fun a S => gnt <| ZAG <| gsr <| q_fa S Ffo79_4 rfl fun a S => q_ld S H Fsca76 rfl rfl fun a S => gq rfl S (ZAT rfl underlying76 S H rfl) fun a S => ?_
 refine q_mv S rfl fun a S => gnt <| ZAD ?_
 have SU := S.sel [9, 8, 0, 2] rfl
 refine ZB4 (X := Nat) SU (fun k => [(10, .int .i64 (k : Int))]) (fun k => k ≤ L.aisles.length ∧ openB rs L.aisles pr k = false) (fun k => L.aisles.length - k) 0 (S.sel [10] rfl) H (⟨Nat.zero_le _, rfl⟩) (fun k a w S H hi => ?_)
 simp only [List.cons_append, List.nil_append] at S hi
 obtain ⟨hk, hno⟩ := hi
 refine gsr <| q_bn S rfl fun a S => gnt <| ZAG <| c_if S rfl (fun h1 => ?_) (fun h1 => ?_)
 ·have h1p := h1; try simp only [DL] at h1p
  have hkl : k < L.aisles.length := by omega
  have hkr : k < rs.length := by omega
  have hst := openB_s (pr := pr) hkl hkr
  refine ZAM <| ZAA <| ZAG <| ZAD <| gsr <| q_mv S rfl fun a S => gq rfl S (ZAI rfl underlying76 Fsiz90 S H rfl rfl (by omega)) fun a S => ?_
  refine gq rfl S (ZAk _ rfl S H rfl (by exact Fagg90) (by omega)) fun a S => ?_
  refine q_al S H rfl Fzer90 fun b6 a w S H => q_as S rfl fun a S => ZAF (ZAQ (wn rfl) rfl rfl S H rfl rfl rfl Fsiz90 rfl (cs' := [_, _, _, _]) rfl fun a w S H => gnt ?_)
  have S := S.sel [5, 6, 10, 9, 8, 0, 2] rfl
  refine gsr <| q_ld S H Fsca136 rfl rfl fun a S => q_mv S rfl fun a S => gq rfl S (ZAI rfl underlying136 Fsiz4 S H rfl rfl (by omega)) fun a S => ?_
  refine gq rfl S (ZA6 _ rfl Fsca4 S H rfl (by omega) rfl) fun a S => ?_
  refine q_mv S rfl fun a S => ?_
  refine' wl_and (B2 := pr L.aisles[k]) 3 19 rfl S H rfl rfl rfl rfl rfl rfl rfl (fun _ S => (wn rfl)) (fun h2 kk => ?yh2) (fun a w S H => ?_)
  case yh2 =>
   refine gz 19 h2 S rfl rfl rfl rfl rfl rfl (ZAL rfl S rfl) fun a S => gz 19 h2 S rfl rfl rfl rfl rfl rfl (ZAb rfl S H rfl (by exact Fagg90)) fun a S => ?_
   rw [show Value.agg #[.int .i64 L.aisles[k].x, .int .i64 L.aisles[k].y, .int .i64 L.aisles[k].x2, .int .i64 L.aisles[k].y2] = Value.agg (BoxV.enc L.aisles[k]).toArray from rfl] at S
   refine ZAF (ZAV (wg' 19 rfl rfl S rfl h2 rfl) rfl rfl S (ZAp rfl he0 S rfl rfl) (hstep _ (List.getElem_mem hkl) w H.toExt) fun v w hc a S => ?_)
   obtain ⟨rfl, he1⟩ := hc
   have H := H.ext he1
   exact gq rfl S (ZBf rfl h2 S rfl rfl) fun a S => kk _ _ (S.join 4 23 rfl rfl) H
  refine gnt ?_
  have S := S.sel [23, 10, 9, 8, 0, 2] rfl
  refine c_if S rfl (fun h3 => ?_) (fun h3 => ?_)
  ·have h3p := h3; try simp only [DL] at h3p
   refine gsr <| q_as S rfl fun a S => gnt <| ZAe <| ZAm (ZAX (ZAX (ZAm (ZAX (ret1 rfl S rfl ?_)))))
   have hh : (rs[k] && pr L.aisles[k]) = true := h3
   rw [Bool.and_eq_true] at hh
   exact ⟨by rw [openB_yes hkl (by rw [List.getD_eq_getElem?_getD, List.getElem?_eq_getElem hkr]; exact hh.1) hh.2], H.toExt⟩
  have h3p := h3; try simp only [DL] at h3p
  refine ZAM <| ZAK <| ZAA <| ZAB <| q_ad S rfl (by omega) fun a S => ?_
  refine q_mv S rfl fun a S => gnt <| ⟨k + 1, S.sel [10] rfl, S.sel [9, 8, 0, 2] rfl, H.drop 1, ?_, ?_⟩
  · exact ⟨by omega, by rw [hst, hno, h3]; rfl⟩
  omega
 have h1p := h1; try simp only [DL] at h1p
 obtain rfl : k = L.aisles.length := by omega
 refine ZAf <| ZAO (ZAO (x_eq ?_))
 refine ZAA ?_
 have S := S.nil
 exact gsr <| q_as S rfl fun a S => gnt <| ZAe <| ret1 rfl S rfl <| ⟨by rw [hno], H.toExt⟩
theorem hit_spec (b : BoxV) (r : RowV) (x : Int) (c1 c2 : Nat) (w0 : World) (hb : w0.heap[c1]? = some (.cells ([Value.int .i64 x]).toArray 3 (0, 0))) (hc : w0.heap[c2]? = some (.cells ([Value.string r.name, .int .i64 r.x, .int .i64 r.y, .int .i64 r.from_, .int .i64 r.to_, .int .i64 r.step, r.mv, .int .i64 r.at_]).toArray 70 (0, 0))) :
    Ret Tryz.prog 62 #[.agg (BoxV.enc b).toArray, .pointer (some ⟨c1, 0, none⟩), .pointer (some ⟨c2, 0, none⟩)] w0 (fun u w => u = .bool (ZBg b x r.y) ∧ Ext w0 w) := by
 refine ZAE (nt := 10) Tryz.func62 rfl rfl rfl (fl := [(0, .agg (BoxV.enc b).toArray), (1, .pointer (some ⟨c1, 0, none⟩)), (2, .pointer (some ⟨c2, 0, none⟩))]) rfl (fun a S => ?_)
 have H := HSat.start w0
 have H := H.ro0 (Atom.ro (Cel c1 3 [.int .i64 x])) rfl (hb)
 have H := H.ro0 (Atom.ro (Cel c2 70 [.string r.name, .int .i64 r.x, .int .i64 r.y, .int .i64 r.from_, .int .i64 r.to_, .int .i64 r.step, r.mv, .int .i64 r.at_])) rfl (hc)
 refine gsr <| ZAF (ZAu (wn rfl) rfl rfl rfl S H rfl fun b3 a w S H => q_as S rfl fun a S => gnt ?_)
 refine gsr <| gq rfl S (ZAb rfl S H rfl (by exact Fagg90)) fun a S => ?_
 refine q_ld S H ZAN rfl rfl fun a S => q_fa S Ffo70_2 rfl fun a S => q_ld S H ZAN rfl rfl fun a S => q_cl S rfl call63 (inside_spec b x r.y _) fun v w hc a S => ?_
 obtain ⟨rfl, he⟩ := hc
 have H := H.ext he
 refine q_as S rfl fun a S => gnt ?_
 have S := S.sel [4] rfl
 exact ZAe <| ret1 rfl S rfl <| ⟨rfl, H.toExt⟩
theorem ends_spec (b : BoxV) (r : RowV) (x x2 : Int) (c1 c2 c3 : Nat) (w0 : World) (hb : w0.heap[c1]? = some (.cells ([Value.int .i64 x]).toArray 3 (0, 0))) (hc : w0.heap[c2]? = some (.cells ([Value.string r.name, .int .i64 r.x, .int .i64 r.y, .int .i64 r.from_, .int .i64 r.to_, .int .i64 r.step, r.mv, .int .i64 r.at_]).toArray 70 (0, 0))) (hd : w0.heap[c3]? = some (.cells ([Value.int .i64 x2]).toArray 3 (0, 0))) :
    Ret Tryz.prog 66 #[.agg (BoxV.enc b).toArray, .pointer (some ⟨c1, 0, none⟩), .pointer (some ⟨c2, 0, none⟩), .pointer (some ⟨c3, 0, none⟩)] w0 (fun u w => u = .bool (ZBg b x r.y || ZBg b x2 r.y) ∧ Ext w0 w) := by
 refine ZAE (nt := 18) Tryz.func66 rfl rfl rfl (fl := [(0, .agg (BoxV.enc b).toArray), (1, .pointer (some ⟨c1, 0, none⟩)), (2, .pointer (some ⟨c2, 0, none⟩)), (3, .pointer (some ⟨c3, 0, none⟩))]) rfl (fun a S => ?_)
 have H := HSat.start w0
 have H := H.ro0 (Atom.ro (Cel c1 3 [.int .i64 x])) rfl (hb)
 have H := H.ro0 (Atom.ro (Cel c2 70 [.string r.name, .int .i64 r.x, .int .i64 r.y, .int .i64 r.from_, .int .i64 r.to_, .int .i64 r.step, r.mv, .int .i64 r.at_])) rfl (hc)
 have H := H.ro0 (Atom.ro (Cel c3 3 [.int .i64 x2])) rfl (hd)
 refine gsr <| ZAF (ZAu (wn rfl) rfl rfl rfl S H rfl fun b4 a w S H => q_as S rfl fun a S => gnt ?_)
 refine gsr <| gq rfl S (ZAb rfl S H rfl (by exact Fagg90)) fun a S => ?_
 refine q_ld S H ZAN rfl rfl fun a S => q_fa S Ffo70_2 rfl fun a S => q_ld S H ZAN rfl rfl fun a S => q_cl S rfl call63 (inside_spec b x r.y _) fun v w hc a S => ?_
 obtain ⟨rfl, he⟩ := hc
 have H := H.ext he
 refine q_mv S rfl fun a S => ?_
 refine' ZBH 5 11 rfl S H rfl rfl rfl rfl rfl rfl rfl (fun _ S => (wn rfl)) (fun h1 kk => ?yh1) (fun a w S H => ?_)
 case yh1 =>
  refine gz 11 h1 S rfl rfl rfl rfl rfl rfl (ZAb rfl S H rfl (by exact Fagg90)) fun a S => ?_
  refine gz 11 h1 S rfl rfl rfl rfl rfl rfl (ZAJ rfl ZAN S H rfl rfl) fun a S => gz 11 h1 S rfl rfl rfl rfl rfl rfl (ZAC rfl Ffo70_2 S rfl) fun a S => gz 11 h1 S rfl rfl rfl rfl rfl rfl (ZAJ rfl ZAN S H rfl rfl) fun a S => ZAF (ZAV (wg' 11 rfl rfl S rfl h1 rfl) rfl rfl S (ZAi rfl call63 S rfl) (inside_spec b x2 r.y _) fun v w hc a S => ?_)
  obtain ⟨rfl, he⟩ := hc
  have H := H.ext he
  exact gq rfl S (ZAz rfl h1 S rfl rfl) fun a S => kk _ _ (S.join 6 17 rfl rfl) H
 refine q_as S rfl fun a S => gnt ?_
 have S := S.sel [5] rfl
 exact ZAe <| ret1 rfl S rfl <| ⟨rfl, H.toExt⟩
theorem meets_spec (b : BoxV) (A : AreaV) (c1 : Nat) (w0 : World) (hb : w0.heap[c1]? = some (.cells ([Value.string A.name, .int .i64 A.box.x, .int .i64 A.box.y, .int .i64 A.box.x2, .int .i64 A.box.y2, .int .i64 A.holds, .int .i64 A.at_]).toArray 92 (0, 0))) :
    Ret Tryz.prog 69 #[.agg (BoxV.enc b).toArray, .pointer (some ⟨c1, 0, none⟩)] w0 (fun u w => u = .bool (meetB A.box b) ∧ Ext w0 w) := by
 refine ZAE (nt := 8) Tryz.func69 rfl rfl rfl (fl := [(0, .agg (BoxV.enc b).toArray), (1, .pointer (some ⟨c1, 0, none⟩))]) rfl (fun a S => ?_)
 have H := HSat.start w0
 have H := H.ro0 (Atom.ro (Cel c1 92 [.string A.name, .int .i64 A.box.x, .int .i64 A.box.y, .int .i64 A.box.x2, .int .i64 A.box.y2, .int .i64 A.holds, .int .i64 A.at_])) rfl (hb)
 refine gsr <| ZAF (ZAu (wn rfl) rfl rfl rfl S H rfl fun b2 a w S H => q_as S rfl fun a S => gnt ?_)
 refine gsr <| q_fa S Ffo92_1 rfl fun a S => gq rfl S ((y_loadp (vs := BoxV.enc A.box) rfl S H rfl (by exact Fagg90) rfl)) fun a S => ?_
 refine gq rfl S (ZAb rfl S H rfl (by exact Fagg90)) fun a S => ?_
 refine q_cl S rfl call68 (meet_spec A.box b _) fun v w hc a S => ?_
 obtain ⟨rfl, he⟩ := hc
 have H := H.ext he
 refine q_as S rfl fun a S => gnt ?_
 have S := S.sel [3] rfl
 exact ZAe <| ret1 rfl S rfl <| ⟨rfl, H.toExt⟩
theorem within_spec {M : Nat → Prop} {u0 : World} {l : List Atom} (A : AreaV) (r : RowV) (q : Bool) (s : Value) (x : Int) (c1 c2 c3 : Nat) (w0 : World) (h0 : HSat M u0 (Cel c1 4 [.bool q] :: Cel c2 92 [.string A.name, .int .i64 A.box.x, .int .i64 A.box.y, .int .i64 A.box.x2, .int .i64 A.box.y2, .int .i64 A.holds, .int .i64 A.at_] :: Cel c3 70 [.string r.name, .int .i64 r.x, .int .i64 r.y, .int .i64 r.from_, .int .i64 r.to_, .int .i64 r.step, r.mv, .int .i64 r.at_] :: l) w0) :
    Ret Tryz.prog 67 #[s, .int .i64 x, .pointer (some ⟨c1, 0, none⟩), .pointer (some ⟨c2, 0, none⟩), .pointer (some ⟨c3, 0, none⟩)] w0 (fun _ w => HSat M u0 (Cel c1 4 [.bool (q || ZBg A.box x r.y)] :: Cel c2 92 [.string A.name, .int .i64 A.box.x, .int .i64 A.box.y, .int .i64 A.box.x2, .int .i64 A.box.y2, .int .i64 A.holds, .int .i64 A.at_] :: Cel c3 70 [.string r.name, .int .i64 r.x, .int .i64 r.y, .int .i64 r.from_, .int .i64 r.to_, .int .i64 r.step, r.mv, .int .i64 r.at_] :: l) w) := by
 refine ZAE (nt := 16) Tryz.func67 rfl rfl rfl (fl := [(0, s), (1, .int .i64 x), (2, .pointer (some ⟨c1, 0, none⟩)), (3, .pointer (some ⟨c2, 0, none⟩)), (4, .pointer (some ⟨c3, 0, none⟩))]) rfl (fun a S => ?_)
 have H := h0
 refine ZAB <| q_ld S H Fsca4 rfl rfl fun a S => q_mv S rfl fun a S => ?_
 refine' ZBH 6 8 rfl S H rfl rfl rfl rfl rfl rfl rfl (fun _ S => (wn rfl)) (fun h1 kk => ?yh1) (fun a w S H => ?_)
 case yh1 =>
  refine gz 8 h1 S rfl rfl rfl rfl rfl rfl (ZAC rfl Ffo92_1 S rfl) fun a S => gz 8 h1 S rfl rfl rfl rfl rfl rfl ((y_loadp (vs := BoxV.enc A.box) rfl S H rfl (by exact Fagg90) rfl)) fun a S => ?_
  refine gz 8 h1 S rfl rfl rfl rfl rfl rfl (ZAL rfl S rfl) fun a S => gz 8 h1 S rfl rfl rfl rfl rfl rfl (ZAC rfl Ffo70_2 S rfl) fun a S => gz 8 h1 S rfl rfl rfl rfl rfl rfl (ZAJ rfl ZAN S H rfl rfl) fun a S => ZAF (ZAV (wg' 8 rfl rfl S rfl h1 rfl) rfl rfl S (ZAi rfl call63 S rfl) (inside_spec A.box x r.y _) fun v w hc a S => ?_)
  obtain ⟨rfl, he⟩ := hc
  have H := H.ext he
  exact gq rfl S (ZAz rfl h1 S rfl rfl) fun a S => kk _ _ (S.join 7 15 rfl rfl) H
 refine q_st S H rfl rfl Fsiz4 rfl fun a w S H => ?_
 dsimp only [List.set, Nat.zero_add, Nat.reduceAdd] at H
 exact ZAj <| ZB1 rfl S <| H
def hitB (L : LevV) (r : RowV) (x : Int) : Bool := L.pillars.any (fun b => ZBg b x r.y) || L.aisles.any (fun b => ZBg b x r.y)
set_option maxHeartbeats 4000000 in
theorem taken_spec {M : Nat → Prop} {u0 : World} {l : List Atom} (L : LevV) (r : RowV) (rows : List RowV) (rv ov : Value) (oth : List Int) (ks : List PtV) (val : PtV → Value) (c : Nat) (T : PtV → List Int) (bl : Bool) (s : Value) (x : Int) (b3 b6 b7 b11 b12 b13 bm : Nat) (w0 : World) (hks : ks.Nodup) (hT : ∀ p, p ∉ ks → T p = []) (hlo : oth.length + (T (⟨x, r.y⟩ : PtV)).length ≤ 1000000000) (hlr : rows.length ≤ 1000000) (h0 : HSat M u0 (Cel b11 70 [.string r.name, .int .i64 r.x, .int .i64 r.y, .int .i64 r.from_, .int .i64 r.to_, .int .i64 r.step, r.mv, .int .i64 r.at_] :: Cel b12 37 [ov] :: OSl 3 ov 1 encI (oth) :: MapA bm kpt (fun v : Value => v) (mvP (ks) (val)) c :: FamA (ks) (fun p => OSl 3 ((val) p) 1 encI ((T) p)) :: Cel b7 139 [.map (some bm)] :: Cel b6 71 [rv] :: OSl 70 rv 8 RowV.enc rows :: Cel b13 4 [.bool (bl)] :: Cel b3 79 (LevV.enc L) :: Sl L.pv 4 BoxV.enc L.pillars :: Sl L.iv 4 BoxV.enc L.aisles :: l) w0) :
    Ret Tryz.prog 61 #[s, .int .i64 x, .pointer (some ⟨b11, 0, none⟩), .pointer (some ⟨b12, 0, none⟩), .pointer (some ⟨b7, 0, none⟩), .pointer (some ⟨b6, 0, none⟩), .pointer (some ⟨b13, 0, none⟩), .pointer (some ⟨b3, 0, none⟩)] w0 (fun _ w => ∃ ov2 u c2, HSat M u0 (Cel b11 70 [.string r.name, .int .i64 r.x, .int .i64 r.y, .int .i64 r.from_, .int .i64 r.to_, .int .i64 r.step, r.mv, .int .i64 r.at_] :: Cel b12 37 [ov2] :: OSl 3 ov2 1 encI (oth ++ T (⟨x, r.y⟩ : PtV)) :: MapA bm kpt (fun v : Value => v) (mvP (addP ks (⟨x, r.y⟩ : PtV)) (setP2 val (⟨x, r.y⟩ : PtV) u)) c2 :: FamA (addP ks (⟨x, r.y⟩ : PtV)) (fun p => OSl 3 ((setP2 val (⟨x, r.y⟩ : PtV) u) p) 1 encI ((setP2 T (⟨x, r.y⟩ : PtV) (T (⟨x, r.y⟩ : PtV) ++ [(rows.length : Int)])) p)) :: Cel b7 139 [.map (some bm)] :: Cel b6 71 [rv] :: OSl 70 rv 8 RowV.enc rows :: Cel b13 4 [.bool (bl || hitB L r x)] :: Cel b3 79 (LevV.enc L) :: Sl L.pv 4 BoxV.enc L.pillars :: Sl L.iv 4 BoxV.enc L.aisles :: l) w) := by
 refine ZAE (nt := 44) Tryz.func61 rfl rfl rfl (fl := [(0, s), (1, .int .i64 x), (2, .pointer (some ⟨b11, 0, none⟩)), (3, .pointer (some ⟨b12, 0, none⟩)), (4, .pointer (some ⟨b7, 0, none⟩)), (5, .pointer (some ⟨b6, 0, none⟩)), (6, .pointer (some ⟨b13, 0, none⟩)), (7, .pointer (some ⟨b3, 0, none⟩))]) rfl (fun a S => ?_)
 have H := h0
 refine gsr <| ZAF (op_box1 (wn rfl) rfl rfl rfl S H rfl rfl fun b9 a w S H => gnt ?_)
 refine gsr <| q_ld S H ZAN rfl rfl fun a S => q_fa S Ffo70_2 rfl fun a S => q_ld S H ZAN rfl rfl fun a S => gq rfl S (ZAx rfl Fbld23 S rfl (idx := [0, 1]) rfl (cs := [.int .i64 x, .int .i64 r.y]) rfl) fun a S => q_al S H rfl Fzer23 fun b10 a w S H => ?_
 have H := famGetP (H.front (FamA (ks) (fun p => OSl 3 ((val) p) 1 encI ((T) p)))) (⟨x, r.y⟩ : PtV) (hT _)
 obtain ⟨tv, htv⟩ : ∃ v, v = (mvP ks val (⟨x, r.y⟩ : PtV)).getD (.slice none 0 0) := ⟨_, rfl⟩
 rw [← htv] at H
 refine ZAF (ZAQ (wn rfl) rfl rfl S H rfl rfl rfl Fsiz23 rfl (cs' := [_, _]) rfl fun a w S H => gnt ?_)
 have S := S.sel [10, 9, 2, 3, 4, 5, 6, 7] rfl
 refine ZAG <| ZAZ (loud := [4, 5]) (tails := [4, 5]) (free := []) [0, 1, 2, 3, 4, 5] [] Fmo (by kernel_rfl) (by kernel_rfl) rfl H ?_
 refine m_q rfl S (fun w H => ZAJ rfl ZBX S H rfl rfl) fun a S => m_q rfl S (fun w H => ZAJ rfl Fsca139 S H rfl rfl) fun a S => m_q rfl S (fun w H => ZAb rfl S H rfl (by exact Fagg23)) fun a S => ?_
 refine m_q rfl S (fun w H => ZBT ((⟨x, r.y⟩ : PtV)) ((.slice none 0 0 : Value)) rfl underlying139 Finf37 S H rfl ptKey (by exact rfl) (by exact rfl) rfl) fun a S => ?_
 rw [← htv] at S
 refine m_l rfl rfl (fun w H => op_appendT (wn rfl) rfl rfl rfl underlying37 Finf3 rfl rfl S H rfl rfl (by simp [encI, Value.oneCell']) (by omega) (by omega) fun u20 a w S H => m_tail H rfl ?_)
 refine m_l rfl rfl (fun w H => ZAS (wn rfl) rfl rfl S H rfl rfl (H.sl1 _) Fsiz37 rfl fun a w S H => m_tail H rfl ?_)
 dsimp only [List.set, Nat.zero_add, Nat.reduceAdd] at H
 refine ZBY (fun w H => ZAA ?_)
 have S := S.sel [10, 9, 2, 4, 5, 6, 7] rfl
 refine gsr <| q_ld S H Fsca139 rfl rfl fun a S => gq rfl S (ZAb rfl S H rfl (by exact Fagg23)) fun a S => ?_
 refine q_ld S H Fsca71 rfl rfl fun a S => gq rfl S (ZAT rfl underlying71 S H rfl) fun a S => ZAF (ZAP (wn rfl) rfl rfl rfl underlying37 Finf3 S H (idx := [0]) rfl rfl rfl (z := [.int .i64 0]) (by kernel_rfl) (cs := [.int .i64 (rows.length : Int)]) rfl fun b26 a w S H => ?_)
 refine ZAF (op_mapEntry (⟨x, r.y⟩ : PtV) (.slice none 0 0 : Value) (wn rfl) rfl rfl rfl underlying139 Finf37 S H rfl ptKey (by exact rfl) (by exact rfl) fun s27 a w S H => ?_)
 rw [← htv] at S
 refine gq rfl S (ZAa rfl S rfl rfl) fun a S => ?_
 refine ZAF (ZAr ([(rows.length : Int)]) (wn rfl) rfl rfl rfl underlying37 Finf3 rfl rfl S H rfl rfl rfl rfl (by simp) (by simp [encI]) (by simp [encI, Value.oneCell']) (by simp only [List.length_cons, List.length_nil]; omega) (by simp only [List.length_cons, List.length_nil]; omega) fun u28 a w hn28 S H => ?_)
 refine gq rfl S (ZAa rfl S rfl rfl) fun a S => ZAF (op_entryStore (_) (wn rfl) rfl rfl S H rfl rfl (by exact rfl) fun a w S H => ?_)
 refine gnt ?_
 have S := S.sel [9, 2, 6, 7] rfl
 refine gsr <| gq rfl S (ZAd rfl S rfl rfl) fun a S => q_as S rfl fun a S => gnt <| ZAB <| q_ld S H Fsca4 rfl rfl fun a S => q_mv S rfl fun a S => ?_
 refine' ZBH 4 32 rfl S H rfl rfl rfl rfl rfl rfl rfl (fun _ S => (wn rfl)) (fun h1 kk => ?yh1) (fun a w S H => ?_)
 case yh1 =>
  refine gz 32 h1 S rfl rfl rfl rfl rfl rfl (ZAC rfl Ffo79_5 S rfl) fun a S => gz 32 h1 S rfl rfl rfl rfl rfl rfl (ZAJ rfl Fsca76 S H rfl rfl) fun a S => gz 32 h1 S rfl rfl rfl rfl rfl rfl (ZAL rfl S rfl) fun a S => ZAF (ZAV (wg' 32 rfl rfl S rfl h1 rfl) rfl rfl S (ZAi rfl call43 S rfl) (contBx_spec L.pv L.pillars 62 [.pointer (some ⟨b9, 0, none⟩), .pointer (some ⟨b11, 0, none⟩)] call62 (fun b => ZBg b x r.y) _ (H.sl L.pv) (fun b hb w hw => hit_spec b r x b9 b11 w ((H.ext hw).rd b9) ((H.ext hw).rd b11))) fun v w hc a S => ?_)
  obtain ⟨rfl, he⟩ := hc
  have H := H.ext he
  exact gq rfl S (ZAz rfl h1 S rfl rfl) fun a S => kk _ _ (S.join 5 37 rfl rfl) H
 refine q_mv S rfl fun a S => ?_
 refine' ZBH 4 38 rfl S H rfl rfl rfl rfl rfl rfl rfl (fun _ S => (wn rfl)) (fun h2 kk => ?yh2) (fun a w S H => ?_)
 case yh2 =>
  refine gz 38 h2 S rfl rfl rfl rfl rfl rfl (ZAC rfl Ffo79_4 S rfl) fun a S => gz 38 h2 S rfl rfl rfl rfl rfl rfl (ZAJ rfl Fsca76 S H rfl rfl) fun a S => gz 38 h2 S rfl rfl rfl rfl rfl rfl (ZAL rfl S rfl) fun a S => ZAF (ZAV (wg' 38 rfl rfl S rfl h2 rfl) rfl rfl S (ZAi rfl call43 S rfl) (contBx_spec L.iv L.aisles 62 [.pointer (some ⟨b9, 0, none⟩), .pointer (some ⟨b11, 0, none⟩)] call62 (fun b => ZBg b x r.y) _ (H.sl L.iv) (fun b hb w hw => hit_spec b r x b9 b11 w ((H.ext hw).rd b9) ((H.ext hw).rd b11))) fun v w hc a S => ?_)
  obtain ⟨rfl, he⟩ := hc
  have H := H.ext he
  exact gq rfl S (ZAz rfl h2 S rfl rfl) fun a S => kk _ _ (S.join 5 43 rfl rfl) H
 refine q_st S H rfl rfl Fsiz4 rfl fun a w S H => ?_
 dsimp only [List.set, Nat.zero_add, Nat.reduceAdd] at H
 refine ZAj <| ZB1 rfl S ?_
 have H := famPutP (H.front2 (OSl 3 u28 1 encI (T (⟨x, r.y⟩ : PtV) ++ [(rows.length : Int)])) (FamA (ks.erase (⟨x, r.y⟩ : PtV)) (fun j => OSl 3 (val j) 1 encI (T j)))) hks
 rw [upd_mvP, Bool.or_assoc] at H
 have H := H.takeT [Cel b11 70 [.string r.name, .int .i64 r.x, .int .i64 r.y, .int .i64 r.from_, .int .i64 r.to_, .int .i64 r.step, r.mv, .int .i64 r.at_], Cel b12 37 [u20], OSl 3 u20 1 encI (oth ++ T (⟨x, r.y⟩ : PtV)), MapA bm kpt (fun v : Value => v) (mvP (addP ks (⟨x, r.y⟩ : PtV)) (setP2 val (⟨x, r.y⟩ : PtV) u28)) (if (mvP ks val (⟨x, r.y⟩ : PtV)).isSome = true then c else c + 1), FamA (addP ks (⟨x, r.y⟩ : PtV)) (fun p => OSl 3 ((setP2 val (⟨x, r.y⟩ : PtV) u28) p) 1 encI ((setP2 T (⟨x, r.y⟩ : PtV) (T (⟨x, r.y⟩ : PtV) ++ [(rows.length : Int)])) p)), Cel b7 139 [.map (some bm)], Cel b6 71 [rv], OSl 70 rv 8 RowV.enc rows, Cel b13 4 [.bool (bl || (L.pillars.any (fun b => ZBg b x r.y) || L.aisles.any (fun b => ZBg b x r.y)))], Cel b3 79 (LevV.enc L), Sl L.pv 4 BoxV.enc L.pillars, Sl L.iv 4 BoxV.enc L.aisles] l
 exact ⟨u20, u28, _, H⟩
theorem y_addW {P : Program} {o : Oper} {a : Act} {w : World} {n : Sz} {fl : Slots} {T U : TypeId} {x y : Operand} {m q : Int} (ho : o.op = .binOp .add T x y U) (S : St n fl a) (hx : ev fl x = some (.int .i64 m)) (hy : ev fl y = some (.int .i64 q)) : Yld P o a w (.int .i64 (IntKind.i64.wrap (m + q))) :=
  ZAn ho S hx hy (by simp [intOp])
structure TkInv (n : Nat) (vis : Int → Prop) (ks : List PtV) (T : PtV → List Int) : Prop where
  nd : ks.Nodup
  out : ∀ p, p ∉ ks → T p = []
  rng : ∀ p, ∀ i ∈ T p, 0 ≤ i ∧ (i < (n : Int) ∨ (i = (n : Int) ∧ vis p.x))
  len : ∀ p, (T p).length ≤ n + 1 ∧ (¬ vis p.x → (T p).length ≤ n)
theorem TkInv.next {n : Nat} {vis : Int → Prop} {ks : List PtV} {T : PtV → List Int} (h : TkInv n vis ks T) : TkInv (n + 1) (fun _ => False) ks T :=
  ⟨h.nd, h.out, fun p i hi => by have := h.rng p i hi; omega, fun p => by have := h.len p; exact ⟨by omega, fun _ => this.1⟩⟩
theorem TkInv.step {n : Nat} {vis vis2 : Int → Prop} {ks : List PtV} {T : PtV → List Int} (h : TkInv n vis ks T) {x y : Int} (hx : ¬ vis x) (h2 : ∀ v, vis2 v ↔ vis v ∨ v = x) : TkInv n vis2 (addP ks ⟨x, y⟩) (setP2 T ⟨x, y⟩ (T ⟨x, y⟩ ++ [(n : Int)])) := by
  refine ⟨addP_nodup h.nd, fun p hp => ?_, fun p i hi => ?_, fun p => ?_⟩
  · have h3 : p ≠ ⟨x, y⟩ := fun e => hp (addP_mem.2 (.inr e))
    unfold setP2; rw [if_neg h3]
    exact h.out p fun h4 => hp (addP_mem.2 (.inl h4))
  · unfold setP2 at hi
    split at hi
    · rename_i e
      subst e
      rcases List.mem_append.1 hi with hi | hi
      · have h4 := h.rng _ i hi
        refine ⟨h4.1, ?_⟩
        rcases h4.2 with h5 | h5
        · exact .inl h5
        exact absurd h5.2 hx
      rw [List.mem_singleton.1 hi]
      exact ⟨by omega, .inr ⟨rfl, (h2 x).2 (.inr rfl)⟩⟩
    have h4 := h.rng p i hi
    refine ⟨h4.1, ?_⟩
    rcases h4.2 with h5 | h5
    · exact .inl h5
    exact .inr ⟨h5.1, (h2 _).2 (.inl h5.2)⟩
  unfold setP2
  split
  · rename_i e
    subst e
    have h4 := (h.len ⟨x, y⟩).2 hx
    rw [List.length_append]
    exact ⟨by simp; omega, fun h5 => absurd ((h2 x).2 (.inr rfl)) h5⟩
  exact ⟨(h.len p).1, fun h5 => (h.len p).2 fun h6 => h5 ((h2 _).2 (.inl h6))⟩
theorem seatsP_x {r : RowV} (hs : 1 ≤ r.step) : ∀ k, (∀ p ∈ ZBt r k, p.2 < r.x + (k : Int) * r.step) ∧ ((ZBt r k).map (·.2)).Pairwise (· < ·)
  | 0 => ⟨fun p h => by simp [ZBt] at h, by simp [ZBt]⟩
  | k + 1 => by
    obtain ⟨h1, h2⟩ := seatsP_x hs k
    have e : ((k + 1 : Nat) : Int) * r.step = (k : Int) * r.step + r.step := by rw [Int.natCast_add, Int.add_mul]; simp
    rw [ZBt]
    split
    · exact ⟨fun p h => by have := h1 p h; omega, h2⟩
    refine ⟨fun p h => ?_, ?_⟩
    · rcases List.mem_append.1 h with h | h
      · have := h1 p h; omega
      rw [List.mem_singleton.1 h]; dsimp only; omega
    rw [List.map_append, List.pairwise_append]
    refine ⟨h2, by simp, fun u hu v hv => ?_⟩
    obtain ⟨p, hp, rfl⟩ := List.mem_map.1 hu
    rw [List.map_cons, List.map_nil, List.mem_singleton] at hv
    rw [hv]; exact h1 p hp
def visR (r : RowV) (q : Nat) : Int → Prop := fun v => ∃ p ∈ (ZAt r).take q, p.2 = v
theorem visR_no {r : RowV} (hs : 1 ≤ r.step) {q : Nat} {s x : Int} (h : (ZAt r)[q]? = some (s, x)) : ¬ visR r q x := by
  rintro ⟨p, hp, e⟩
  obtain ⟨hq, he⟩ := List.getElem?_eq_some_iff.1 h
  obtain ⟨i, hi, rfl⟩ := List.getElem_of_mem hp
  have hi2 : i < q := by have := hi; rw [List.length_take] at this; omega
  rw [List.getElem_take] at e
  have h3 := List.pairwise_iff_getElem.1 (seatsP_x hs (seatsN r)).2 i q (by rw [List.length_map]; show i < (ZAt r).length; omega) (by rw [List.length_map]; exact hq) hi2
  rw [List.getElem_map, List.getElem_map] at h3
  have h4 : ((ZAt r)[i]'(by omega)).2 < ((ZAt r)[q]'hq).2 := h3
  rw [he, e] at h4
  simp at h4
theorem visR_s {r : RowV} {q : Nat} {s x : Int} (h : (ZAt r)[q]? = some (s, x)) (v : Int) : visR r (q + 1) v ↔ visR r q v ∨ v = x := by
  obtain ⟨hq, he⟩ := List.getElem?_eq_some_iff.1 h
  unfold visR
  rw [List.take_succ_eq_append_getElem hq, he]
  constructor
  · rintro ⟨p, hp, rfl⟩
    rcases List.mem_append.1 hp with hp | hp
    · exact .inl ⟨p, hp, rfl⟩
    rw [List.mem_singleton.1 hp]; exact .inr rfl
  rintro (⟨p, hp, rfl⟩ | rfl)
  · exact ⟨p, List.mem_append_left _ hp, rfl⟩
  exact ⟨_, List.mem_append_right _ (List.mem_singleton.2 rfl), rfl⟩
theorem visR_0 {r : RowV} : visR r 0 = fun _ => False := by
  funext v; unfold visR; simp
structure OthInv (n q : Nat) (oth : List Int) : Prop where
  rng : ∀ i ∈ oth, 0 ≤ i ∧ i < (n : Int)
  len : oth.length ≤ q * n
theorem OthInv.step {n q : Nat} {vis : Int → Prop} {ks : List PtV} {T : PtV → List Int} {oth : List Int} (h : OthInv n q oth) (t : TkInv n vis ks T) {p : PtV} (hp : ¬ vis p.x) : OthInv n (q + 1) (oth ++ T p) := by
  refine ⟨fun i hi => ?_, ?_⟩
  · rcases List.mem_append.1 hi with hi | hi
    · exact h.rng i hi
    have h4 := t.rng p i hi
    refine ⟨h4.1, ?_⟩
    rcases h4.2 with h5 | h5
    · exact h5
    exact absurd h5.2 hp
  have h1 := h.len
  have h2 := (t.len p).2 hp
  rw [List.length_append, Nat.succ_mul]; omega
def hitsB (L : LevV) (r : RowV) (q : Nat) : Bool := ((ZAt r).take q).any fun p => hitB L r p.2
theorem hitsB_s {L : LevV} {r : RowV} {q : Nat} {s x : Int} (h : (ZAt r)[q]? = some (s, x)) : (hitsB L r q || hitB L r x) = hitsB L r (q + 1) := by
  obtain ⟨hq, he⟩ := List.getElem?_eq_some_iff.1 h
  unfold hitsB
  rw [List.take_succ_eq_append_getElem hq, he, List.any_append]; simp
def leftR (r : RowV) : Int := r.x - r.step
def rightR (r : RowV) : Int := IntKind.i64.wrap (r.x + (r.to_ - r.from_ + 1) * r.step)
def endsB (r : RowV) (b : BoxV) : Bool := ZBg b (leftR r) r.y || ZBg b (rightR r) r.y
def withinB (A : AreaV) (r : RowV) : Bool := (ZAt r).any fun p => ZBg A.box p.2 r.y
def DoorOK (L : LevV) (rs : List Bool) : Prop := rs.length = L.aisles.length ∧ ∀ j (hj : j < L.aisles.length), L.doors.any (fun p => ZBg L.aisles[j] p.x p.y) = true → rs.getD j false = true
structure SevGd (L : LevV) : Prop where
  rows1 : (L.blocks.map fun b => b.rows.length).sum ≤ 1
  hit : ∀ B ∈ L.blocks, ∀ r ∈ B.rows, hitsB L r (ZAt r).length = false
  ends : ∀ B ∈ L.blocks, ∀ r ∈ B.rows, ∀ rs, DoorOK L rs → openB rs L.aisles (endsB r) L.aisles.length = true
  areas1 : L.areas.length ≤ 1
  within : ∀ A ∈ L.areas, ∀ B ∈ L.blocks, ∀ r ∈ B.rows, withinB A r = false
  meet : ∀ A ∈ L.areas, ∀ rs, DoorOK L rs → openB rs L.aisles (meetB A.box) L.aisles.length = true
structure SvS where
  z : CkZ
  rv : Value
  rows : List RowV
  ks : List PtV
  val : PtV → Value
  c : Nat
  T : PtV → List Int
structure SvI (L : LevV) (zb n : Nat) (s : SvS) : Prop where
  tk : TkInv s.rows.length (fun _ => False) s.ks s.T
  src : ∀ r ∈ s.rows, ∃ B ∈ L.blocks, r ∈ B.rows
  len : s.rows.length = n
  cnt : s.z.2.length ≤ zb + 144002 * n
  gd : SevGd L → zb = 0 → s.z.2.length = 0
def rowsN (L : LevV) (i : Nat) : Nat := ((L.blocks.take i).map fun b => b.rows.length).sum
theorem rowsN_s {L : LevV} {i : Nat} (hi : i < L.blocks.length) : rowsN L (i + 1) = rowsN L i + L.blocks[i].rows.length := sum_take (fun b : BlockV => b.rows.length) hi
theorem rowsN_le {L : LevV} (h : ∀ B ∈ L.blocks, B.rows.length ≤ 60) : ∀ i, i ≤ L.blocks.length → rowsN L i ≤ 60 * i
  | 0, _ => by simp [rowsN]
  | i + 1, hi => by
    have ih := rowsN_le h i (by omega)
    have h2 := h L.blocks[i] (List.getElem_mem (by omega))
    rw [rowsN_s (by omega)]; omega
end
end Go.Proofs.YtjdlllacomgaoaaGreatDoor
