/- Parts of the proof, joined: the program logic, the plain theory, the walks, as they are named inside. No condition. -/
import Derived.Test.YtjdbggnhdeaflaaGreatDoorChecked
import Derived.Test.YtjdbggnhdeaflaaGreatDoorM2
import Derived.Test.YtjdbggnhdeaflaaGreatDoorM3
import Derived.Maps.RangeRun
section
namespace Go.Proofs.YtjdbggnhdeaflaaGreatDoor
open Go Go.Gw
set_option linter.unusedVariables false
set_option linter.unusedSimpArgs false
theorem elemL_size {fs : List ByteArray} (hs : ∀ x ∈ fs, x.size ≤ 200) (s : ByteArray) (n : Nat) : ∀ x ∈ elemL fs s n, x.size ≤ 1000 := fun x hx => by
  obtain ⟨i, _, rfl⟩ := List.mem_map.1 hx
  exact elemK_size hs s i
theorem saltL_at {s : ByteArray} {n i : Nat} (h : i < (saltL s n).length) : (saltL s n)[i] = startS s i := by simp [saltL]
theorem shF_s {fs : List ByteArray} {which : List Nat} {k : Nat} (h : k < which.length) (h2 : which[k] < fs.length) : (which.take k).map (fun i => fs.getD i noB) ++ [fs[which[k]]] = (which.take (k + 1)).map (fun i => fs.getD i noB) := by
  rw [List.take_succ_eq_append_getElem h, List.map_append]
  simp [List.getD_eq_getElem?_getD, h2]
theorem sh_step {fs : List ByteArray} {s : ByteArray} {which : List Nat} {k : Nat} {u : Value} {ps : List (Value × List ByteArray)} (hp : ps.map (·.2) = (which.take k).map (showP fs s)) (h : k < which.length) : (ps ++ [(u, showP fs s which[k])]).map (·.2) = (which.take (k + 1)).map (showP fs s) := by
  rw [List.take_succ_eq_append_getElem h, List.map_append, List.map_append, hp]; rfl
/-- slices.Clone[[]int,int] -/
theorem cloneI_spec (v : Value) (xs : List Nat) (w0 : World) (hv : IsSl w0 v 1 encN xs) (hl : xs.length ≤ 200000) :
    Ret Tryz.prog 21 #[v] w0 (fun u w => HSat No w0 [OSl 3 u 1 encN xs] w) := by
 refine ret_of_wp (nt := 8) Tryz.func21 rfl rfl rfl (fl := [(0, v)]) rfl (fun a S => ?_)
 have H := HSat.start w0
 obtain ⟨pv, cv, rfl⟩ := hv.shape
 have H := H.ro0 (Sl (.slice pv xs.length cv) 1 encN xs) rfl (hv)
 refine gsr ?_
 refine ga S fun a S => ?_
 refine gnt ?_
 refine g_seq ?_
 refine gsr ?_
 refine gm S fun a S => ?_
 refine gy rfl rfl rfl S (y_eqsl rfl Tryz.underlying27 S rfl rfl) fun a S => ?_
 refine gnt ?_
 refine c_if S rfl (fun h1 => ?_) (fun h1 => ?_)
 ·have h1p := h1; try simp only [DL] at h1p
  have hxs : xs = [] := by
    match xs, hv with
    | [], _ => rfl
    | x :: r, hv => obtain ⟨b, off, c, he, _⟩ := hv.cells 0 (by simp); simp only [Value.slice.injEq] at he; rw [he.1] at h1; simp at h1
  refine gsr ?_
  refine ga S fun a S => ?_
  refine gnt ?_
  refine g_ret ?_
  refine r_then (ret1 rfl S rfl ?_)
  rw [hxs]; exact (H.nilO 3 1 encN).take [OSl 3 (.slice none 0 0) 1 encN []]
 ·have h1p := h1; try simp only [DL] at h1p
  refine g_skip ?_
  refine n_then ?_
  refine gsr ?_
  refine wl_of (op_buildSlice (wn rfl) rfl rfl rfl Tryz.underlying27 Finf3 S H (idx := []) rfl rfl rfl (z := []) (by kernel_rfl) (cs := []) rfl fun b5 a w S H => ?_)
  have H := H.celO [] encN 1 (m := 0) rfl (by simp) rfl (by omega)
  refine gm S fun a S => ?_
  refine wl_of (op_appendT (wn rfl) rfl rfl rfl Tryz.underlying27 Finf3 rfl rfl S H rfl rfl (by simp [encN, Value.oneCell']) (by first | assumption | omega | (simp only [LL]; omega)) (by first | assumption | omega | (simp only [LL]; omega)) fun u7 a w S H => ?_)
  refine ga S fun a S => ?_
  refine gnt ?_
  have S := S.nil.cons S 2 rfl
  refine g_ret ?_
  refine ret1 rfl S rfl ?_
  exact H.take [OSl 3 u7 1 encN ([] ++ xs)]
/-- foyer/reveal.Seal -/
theorem seal_spec (fv : Value) (fs : List ByteArray) (s : ByteArray) (w0 : World) (hT : Tabs w0) (hf : IsSl w0 fv 1 encS fs) (hl : fs.length ≤ 1000) (hss : s.size ≤ 1000) (hfs : ∀ x ∈ fs, x.size ≤ 200) (hn : 0 < fs.length) :
    Ret Tryz.prog 9 #[fv, .string s] w0 (fun u w => u = .string (sealF fs s) ∧ Ext w0 w) := by
 refine ret_of_wp (nt := 15) Tryz.func9 rfl rfl rfl (fl := [(0, fv), (1, .string s)]) rfl (fun a S => ?_)
 have H := HSat.start w0
 have H := H.ro0 (TabsA) rfl (hT)
 have H := H.ro0 (Sl fv 1 encS fs) rfl (hf)
 refine gsr ?_
 refine ga S fun a S => ?_
 refine gnt ?_
 refine gsr ?_
 refine gm S fun a S => ?_
 refine gm S fun a S => ?_
 refine wl_of (op_call (wn rfl) rfl rfl S (co_func rfl Tryz.call20 S rfl) (spread_spec fv fs s _ H.tabs (H.sl fv) hl hss hfs) fun v w hc a S => ?_)
 obtain ⟨sa, sb, rfl, H1⟩ := hc
 have H := H.call2 H1 rfl rfl
 refine gm S fun a S => ?_
 refine gy rfl rfl rfl S (y_extract rfl S rfl rfl) fun a S => ?_
 refine gy rfl rfl rfl S (y_extract rfl S rfl rfl) fun a S => ?_
 refine ga S fun a S => ?_
 refine ga S fun a S => ?_
 refine gnt ?_
 have S := (S.nil.cons S 4 rfl).cons S 6 rfl
 refine gsr ?_
 refine gm S fun a S => ?_
 refine wl_of (op_call (wn rfl) rfl rfl S (co_func rfl Tryz.call24 S rfl) (root_spec sb (elemL fs s fs.length) _ H.tabs (H.sl sb) (by rw [elemL_len]; omega) (by rw [elemL_len]; omega) (elemL_size hfs s _)) fun v w hc a S => ?_)
 obtain ⟨rfl, he⟩ := hc
 have H := H.ext he
 refine ga S fun a S => ?_
 refine gnt ?_
 have S := S.nil.cons S 4 rfl
 refine g_ret ?_
 refine ret1 rfl S rfl ?_
 exact ⟨rfl, H.toExt⟩
set_option maxHeartbeats 4000000 in
/-- foyer/reveal.Show -/
theorem show_spec (fv : Value) (fs : List ByteArray) (s : ByteArray) (wv : Value) (which : List Nat) (w0 : World) (hT : Tabs w0) (hf : IsSl w0 fv 1 encS fs) (hl : fs.length ≤ 1000) (hss : s.size ≤ 1000) (hfs : ∀ x ∈ fs, x.size ≤ 200) (hw : IsSl w0 wv 1 encN which) (hi : IncW which fs.length) :
    Ret Tryz.prog 7 #[fv, .string s, wv] w0 (fun u w => ∃ dw df dp ps, u = .tuple #[.agg #[.int .i64 (fs.length : Int), dw, df, dp], .int .i64 0] ∧ ps.map (·.2) = which.map (showP fs s) ∧ HSat No w0 [OSl 3 dw 1 encN which, OSl 9 df 1 encS (which.map fun i => fs.getD i noB), OSl 22 dp 1 encRow ps, RowsA 9 1 encS ps] w) := by
 refine ret_of_wp (nt := 67) Tryz.func7 rfl rfl rfl (fl := [(0, fv), (1, .string s), (2, wv)]) rfl (fun a S => ?_)
 have H := HSat.start w0
 have H := H.ro0 (TabsA) rfl (hT)
 have H := H.ro0 (Sl fv 1 encS fs) rfl (hf)
 have H := H.ro0 (Sl wv 1 encN which) rfl (hw)
 have hwl := hi.len
 refine gsr ?_
 refine wl_of (op_alloc (wn rfl) rfl rfl rfl S H Fzer31 fun b6 a w S H => ?_)
 refine ga S fun a S => ?_
 refine gnt ?_
 refine g_seq ?_
 refine gsr ?_
 refine gm S fun a S => ?_
 refine gm S fun a S => ?_
 refine gy rfl rfl rfl S (y_lens rfl Tryz.underlying22 S H rfl) fun a S => ?_
 refine wl_of (op_call (wn rfl) rfl rfl S (co_func rfl Tryz.call19 S rfl) (inc_spec wv which fs.length _ (H.sl wv) hi (by omega)) fun v w hc a S => ?_)
 obtain ⟨rfl, he⟩ := hc
 have H := H.ext he
 refine gy rfl rfl rfl S (y_not rfl S rfl) fun a S => ?_
 refine gnt ?_
 have S := (((((S.nil.cons S 2 rfl).cons S 1 rfl).cons S 0 rfl).cons S 6 rfl).cons S 7 rfl).cons S 19 rfl
 refine c_if S rfl (fun h1 => ?_) (fun h1 => ?_)
 ·have h1p := h1; try simp only [DL] at h1p
  all_goals (
    exact absurd h1 (by simp))
 ·have h1p := h1; try simp only [DL] at h1p
  refine g_skip ?_
  refine n_then ?_
  refine gsr ?_
  refine gm S fun a S => ?_
  refine gm S fun a S => ?_
  refine wl_of (op_call (wn rfl) rfl rfl S (co_func rfl Tryz.call20 S rfl) (spread_spec fv fs s _ H.tabs (H.sl fv) hl hss hfs) fun v w hc a S => ?_)
  obtain ⟨sa, sb, rfl, H1⟩ := hc
  have H := H.call2 H1 rfl rfl
  refine gm S fun a S => ?_
  refine gy rfl rfl rfl S (y_extract rfl S rfl rfl) fun a S => ?_
  refine gy rfl rfl rfl S (y_extract rfl S rfl rfl) fun a S => ?_
  refine ga S fun a S => ?_
  refine ga S fun a S => ?_
  refine gnt ?_
  have S := (((((S.nil.cons S 2 rfl).cons S 0 rfl).cons S 6 rfl).cons S 7 rfl).cons S 8 rfl).cons S 9 rfl
  refine gsr ?_
  refine gm S fun a S => ?_
  refine gy rfl rfl rfl S (y_lens rfl Tryz.underlying22 S H rfl) fun a S => ?_
  refine gm S fun a S => ?_
  refine wl_of (op_call (wn rfl) rfl rfl S (co_func rfl Tryz.call21 S rfl) (cloneI_spec wv which _ (H.sl wv) (by omega)) fun dw w hc a S => ?_)
  have H1 := hc
  have H := H.call1 H1 rfl
  refine gy rfl rfl rfl S (y_buildf rfl Fbld31 S rfl (idx := [0, 1]) rfl (cs := [.int .i64 (fs.length : Int), dw, .slice none 0 0, .slice none 0 0]) (by obtain ⟨pw, cw, hpw⟩ := (H.sl dw).shape; rw [hpw]; kernel_rfl)) fun a S => ?_
  refine wl_of (op_alloc (wn rfl) rfl rfl rfl S H Fzer31 fun b10 a w S H => ?_)
  refine wl_of (op_storea (wn rfl) rfl rfl S H rfl rfl (by rw [List.all_cons, List.all_cons, H.sl1 dw]; rfl) Fsiz31 rfl (cs' := [.int .i64 (fs.length : Int), dw, .slice none 0 0, .slice none 0 0]) rfl fun a w S H => ?_)
  refine gnt ?_
  have S := ((((((S.nil.cons S 2 rfl).cons S 0 rfl).cons S 6 rfl).cons S 7 rfl).cons S 8 rfl).cons S 9 rfl).cons S 10 rfl
  refine g_seq ?_
  refine gsr ?_
  refine gm S fun a S => ?_
  refine gy rfl rfl rfl S (y_lens rfl Tryz.underlying27 S H rfl) fun a S => ?_
  refine gm S fun a S => ?_
  refine gnt ?_
  refine g_block ?_
  have H := ((H.rowsZ 9 1 encS).nilO 22 1 (encRow (α := ByteArray))).nilO 9 1 encS
  have H := H.take [Cel b6 31 [.int .i64 0, .slice none 0 0, .slice none 0 0, .slice none 0 0], Cel b10 31 [.int .i64 (fs.length : Int), dw, (.slice none 0 0), (.slice none 0 0)], OSl 9 (.slice none 0 0) 1 encS ([] : List ByteArray), OSl 22 (.slice none 0 0) 1 encRow ([] : List (Value × List ByteArray)), RowsA 9 1 encS ([] : List (Value × List ByteArray)), OSl 3 dw 1 encN which, OSl 9 sa 1 encS (saltL s fs.length), OSl 9 sb 1 encS (elemL fs s fs.length), Sl fv 1 encS fs, Sl wv 1 encN which, TabsA]
  have SU := (((((((S.nil.cons S 0 rfl).cons S 6 rfl).cons S 7 rfl).cons S 8 rfl).cons S 9 rfl).cons S 10 rfl).cons S 32 rfl).cons S 33 rfl
  refine loopW (X := Nat × Value × Value × List (Value × List ByteArray)) SU (fun x => [(34, .int .i64 (x.1 : Int))]) (fun x w => x.1 ≤ which.length ∧ x.2.2.2.map (·.2) = (which.take x.1).map (showP fs s) ∧ HSat No w0 [Cel b6 31 [.int .i64 0, .slice none 0 0, .slice none 0 0, .slice none 0 0], Cel b10 31 [.int .i64 (fs.length : Int), dw, x.2.1, x.2.2.1], OSl 9 x.2.1 1 encS ((which.take (x.1)).map fun i => fs.getD i noB), OSl 22 x.2.2.1 1 encRow x.2.2.2, RowsA 9 1 encS x.2.2.2, OSl 3 dw 1 encN which, OSl 9 sa 1 encS (saltL s fs.length), OSl 9 sb 1 encS (elemL fs s fs.length), Sl fv 1 encS fs, Sl wv 1 encN which, TabsA] w) (fun x => which.length - x.1) (0, .slice none 0 0, .slice none 0 0, []) (S.nil.cons S 34 rfl) (⟨Nat.zero_le _, rfl, H⟩) (fun x a w S hW => ?_)
  simp only [List.cons_append, List.nil_append] at S
  obtain ⟨k, zf, zp, ps⟩ := x
  obtain ⟨hk, hps, H⟩ := hW
  dsimp only at S H hk hps
  have hpl := congrArg List.length hps
  rw [List.length_map, List.length_map, List.length_take] at hpl
  refine gsr ?_
  refine gy rfl rfl rfl S (y_bin rfl S rfl rfl rfl) fun a S => ?_
  refine gnt ?_
  refine g_seq ?_
  refine c_if S rfl (fun h2 => ?_) (fun h2 => ?_)
  ·have h2p := h2; try simp only [DL] at h2p
   have hkl : k < which.length := by omega
   have hwk : which[k] < fs.length := hi.lt _ (List.getElem_mem hkl)
   have hsk : which[k] < (saltL s fs.length).length := by rw [saltL_len]; exact hwk
   have hpt : (pathT ((elemL fs s fs.length).map leafD) which[k]).length ≤ 1001 := by
     have h1 := pth_le (leavesL fs s) which[k] (dep (leavesL fs s).length + 1)
     have h2 := dep_le (leavesL fs s).length
     have h3 := leavesL_len fs s
     have h4 : (pathT ((elemL fs s fs.length).map leafD) which[k]).length = (pthK (leavesL fs s) which[k] (dep (leavesL fs s).length + 1)).length := rfl
     omega
   refine g_skip ?_
   refine n_then ?_
   refine g_seq ?_
   refine g_block ?_
   refine gsr ?_
   refine gy rfl rfl rfl S (y_iaddrn rfl Tryz.underlying27 Fsiz3 S H rfl rfl (by first | assumption | omega | (simp only [LL]; omega))) fun a S => ?_
   refine gy rfl rfl rfl S (y_loads _ rfl Fsca3 S H rfl (by first | assumption | omega | (simp only [LL]; omega)) rfl) fun a S => ?_
   refine ga S fun a S => ?_
   refine gnt ?_
   refine gsr ?_
   refine gm S fun a S => ?_
   refine gm S fun a S => ?_
   refine wl_of (op_call (wn rfl) rfl rfl S (co_func rfl Tryz.call22 S rfl) (path_spec sb (elemL fs s fs.length) which[k] _ H.tabs (H.sl sb) (by rw [elemL_len]; omega) (by rw [elemL_len]; omega) (elemL_size hfs s _) (by rw [elemL_len]; exact hwk)) fun v w hc a S => ?_)
   obtain ⟨pv, rfl, H1⟩ := hc
   have H := H.call1 H1 rfl
   refine gm S fun a S => ?_
   refine gy rfl rfl rfl S (y_extract rfl S rfl rfl) fun a S => ?_
   refine gy rfl rfl rfl S (y_extract rfl S rfl rfl) fun a S => ?_
   refine ga S fun a S => ?_
   refine ga S fun a S => ?_
   refine gnt ?_
   have S := ((((((((((S.nil.cons S 0 rfl).cons S 6 rfl).cons S 7 rfl).cons S 8 rfl).cons S 9 rfl).cons S 10 rfl).cons S 32 rfl).cons S 33 rfl).cons S 34 rfl).cons S 12 rfl).cons S 13 rfl
   refine g_seq ?_
   refine region_st (loud := [6, 7, 9]) (tails := [7, 9]) (free := []) [0, 1, 2, 3, 4, 5, 6, 7, 8, 9] [] Fmo (by kernel_rfl) (by kernel_rfl) rfl H ?_
   refine m_w rfl rfl (wn rfl) rfl rfl S (fun w H => y_faddrb rfl Ffo31_2 S rfl) fun a S => ?_
   refine m_w rfl rfl (wn rfl) rfl rfl S (fun w H => y_load rfl Fsca22 S H rfl rfl) fun a S => ?_
   refine m_w rfl rfl (wn rfl) rfl rfl S (fun w H => y_move rfl S rfl) fun a S => ?_
   refine m_w rfl rfl (wn rfl) rfl rfl S (fun w H => y_move rfl S rfl) fun a S => ?_
   refine m_w rfl rfl (wn rfl) rfl rfl S (fun w H => y_iaddrn rfl Tryz.underlying22 Fsiz9 S H rfl rfl (by first | assumption | omega | (simp only [LL]; omega))) fun a S => ?_
   refine m_loads _ rfl rfl (wn rfl) rfl rfl S rfl Fsca9 rfl (by first | assumption | omega | (simp only [LL]; omega)) rfl fun a S => ?_
   refine m_l rfl rfl (fun w H => op_buildSlice (wn rfl) rfl rfl rfl Tryz.underlying22 Finf9 S H (idx := [0]) rfl rfl rfl (z := [.string ⟨#[]⟩]) (by kernel_rfl) (cs := [.string (fs[which[k]]'hwk)]) rfl fun b50 a w S H => m_next H (List.sublist_cons_self _ _) ?_)
   refine m_l rfl rfl (fun w H => op_append ([fs[which[k]]'hwk]) (wn rfl) rfl rfl rfl Tryz.underlying22 Finf9 rfl rfl S H rfl rfl rfl rfl (by simp) (by simp [encS]) (by simp [encS, Value.oneCell']) (by simp only [List.length_cons, List.length_nil, List.length_map, List.length_take]; omega) (by simp only [List.length_cons, List.length_nil, List.length_map, List.length_take]; omega) fun u51 a w hn51 S H => ?_)
   rw [shF_s hkl hwk] at H
   refine m_tail H rfl ?_
   refine m_w rfl rfl (wn rfl) rfl rfl S (fun w H => y_faddrb rfl Ffo31_2 S rfl) fun a S => ?_
   refine m_l rfl rfl (fun w H => op_store (wn rfl) rfl rfl S H rfl rfl (H.sl1 _) Fsiz22 rfl fun a w S H => m_tail H rfl ?_)
   dsimp only [List.set, Nat.zero_add, Nat.reduceAdd] at H
   refine m_nil (fun w H => ?_)
   refine n_then ?_
   have S := ((((((((((S.nil.cons S 0 rfl).cons S 6 rfl).cons S 7 rfl).cons S 8 rfl).cons S 9 rfl).cons S 10 rfl).cons S 32 rfl).cons S 33 rfl).cons S 34 rfl).cons S 12 rfl).cons S 13 rfl
   refine cutQ (fun a w => ∃ u61 u63, St 67 [(7, .int .i64 0), (0, fv), (8, sa), (9, sb), (10, .pointer (some ⟨b10, 0, none⟩)), (6, .pointer (some ⟨b6, 0, none⟩)), (32, wv), (33, .int .i64 (which.length : Int)), (34, .int .i64 (k : Int))] a ∧ HSat No w0 [Cel b6 31 [.int .i64 0, .slice none 0 0, .slice none 0 0, .slice none 0 0], Cel b10 31 [.int .i64 (fs.length : Int), dw, u51, u63], OSl 9 u51 1 encS ((which.take (k + 1)).map fun i => fs.getD i noB), OSl 22 u63 1 encRow (ps ++ [(u61, (showP fs s which[k]))]), OSl 9 u61 1 encS (showP fs s which[k]), RowsA 9 1 encS ps, OSl 3 dw 1 encN which, OSl 9 sa 1 encS (saltL s fs.length), OSl 9 sb 1 encS (elemL fs s fs.length), Sl fv 1 encS fs, Sl wv 1 encN which, TabsA] w) ?_ ?_
   ·skip
    refine t_st (tails := [8, 10, 12]) [] Fmo H ?_
    refine t_p 0 rfl (by kernel_rfl) (rem' := [1, 2, 3, 4, 5, 6, 7, 8, 9, 10, 11, 12]) rfl rfl rfl rfl S (fun w => y_faddrb rfl Ffo31_3 S rfl) fun a S => ?_
    refine t_q 2 rfl (by kernel_rfl) (rem' := [1, 3, 4, 5, 6, 7, 8, 9, 10, 11, 12]) rfl rfl rfl rfl S (fun w H => y_move rfl S rfl) fun a S => ?_
    refine t_q 3 rfl (by kernel_rfl) (rem' := [1, 4, 5, 6, 7, 8, 9, 10, 11, 12]) rfl rfl rfl rfl S (fun w H => y_move rfl S rfl) fun a S => ?_
    refine t_q 4 rfl (by kernel_rfl) (rem' := [1, 5, 6, 7, 8, 9, 10, 11, 12]) rfl rfl rfl rfl S (fun w H => y_iaddrn rfl Tryz.underlying22 Fsiz9 S H rfl rfl (by first | assumption | omega | (simp only [LL]; omega))) fun a S => ?_
    refine t_loads _ 5 rfl (by kernel_rfl) (rem' := [1, 6, 7, 8, 9, 10, 11, 12]) rfl rfl rfl rfl S rfl Fsca9 rfl (by first | assumption | omega | (simp only [LL]; omega)) rfl fun a S => ?_
    refine t_q 7 rfl (by kernel_rfl) (rem' := [1, 6, 8, 9, 10, 11, 12]) rfl rfl rfl rfl S (fun w H => y_move rfl S rfl) fun a S => ?_
    refine t_b [1, 6] (by kernel_rfl) rfl (fa2 ?_ ?_)
    ·refine ⟨_, rfl, fun w H => ?_⟩
     refine op_y (wn rfl) rfl rfl S (y_load rfl Fsca29 S H rfl rfl) fun a S => ?_
     refine t_n H (rem' := [6, 8, 9, 10, 11, 12]) rfl ?_
     refine t_b1 6 (by kernel_rfl) rfl fun w H => ?_
     refine op_buildSlice (wn rfl) rfl rfl rfl Tryz.underlying22 Finf9 S H (idx := [0]) rfl rfl rfl (z := [.string ⟨#[]⟩]) (by kernel_rfl) (cs := [.string (startS s which[k])]) (by rw [saltL_at]; rfl) fun b59 a w S H => ?_
     have H := H.celO [startS s which[k]] encS 1 (m := 1) rfl (by simp [encS]) rfl (by omega)
     refine t_n H (rem' := [8, 9, 10, 11, 12]) rfl ?_
     refine t_b1 8 (by kernel_rfl) rfl fun w H => ?_
     refine op_appendT (wn rfl) rfl rfl rfl Tryz.underlying22 Finf9 rfl rfl S H rfl rfl (by simp [encS, Value.oneCell']) (by first | omega | (simp only [List.length_cons, List.length_nil]; omega) | (simp; omega)) (by first | omega | (simp only [List.length_cons, List.length_nil]; omega) | (simp; omega)) fun u61 a w S H => ?_
     obtain ⟨pu, cu, hpu⟩ := (H.sl u61).shape
     rw [show [startS s which[k]] ++ pathT ((elemL fs s fs.length).map leafD) which[k] = (showP fs s which[k]) from rfl] at H
     refine t_tail H rfl (rem' := [9, 10, 11, 12]) rfl ?_
     refine t_b1 9 (by kernel_rfl) rfl fun w H => ?_
     refine op_buildSlice (wn rfl) rfl rfl rfl Tryz.underlying29 Finf22 S H (idx := [0]) rfl rfl rfl (z := [.slice none 0 0]) (by kernel_rfl) (cs := [u61]) (by rw [hpu]; rfl) fun b62 a w S H => ?_
     refine t_n H (rem' := [10, 11, 12]) rfl ?_
     refine t_b1 10 (by kernel_rfl) rfl fun w H => ?_
     refine op_append ([(u61, (showP fs s which[k]))]) (wn rfl) rfl rfl rfl Tryz.underlying29 Finf22 rfl rfl S H rfl rfl rfl rfl (by simp) (by simp [encRow]) (by simp [encRow, H.sl1 u61]) (by simp; omega) (by simp; omega) fun u63 a w hn63 S H => ?_
     refine t_tail H rfl (rem' := [11, 12]) rfl ?_
     refine t_q 11 rfl (by kernel_rfl) (rem' := [12]) rfl rfl rfl rfl S (fun w H => y_faddrb rfl Ffo31_3 S rfl) fun a S => ?_
     refine t_b1 12 (by kernel_rfl) rfl fun w H => ?_
     refine op_store (wn rfl) rfl rfl S H rfl rfl (H.sl1 _) Fsiz29 rfl fun a w S H => ?_
     dsimp only [List.set, Nat.zero_add, Nat.reduceAdd] at H
     refine t_tail H rfl (rem' := []) rfl ?_
     refine t_nil (fun w H => ?_)
     exact ⟨u61, u63, (((((((((S.nil.cons S 34 rfl).cons S 33 rfl).cons S 32 rfl).cons S 6 rfl).cons S 10 rfl).cons S 9 rfl).cons S 8 rfl).cons S 0 rfl).cons S 7 rfl), H.take [Cel b6 31 [.int .i64 0, .slice none 0 0, .slice none 0 0, .slice none 0 0], Cel b10 31 [.int .i64 (fs.length : Int), dw, u51, u63], OSl 9 u51 1 encS ((which.take (k + 1)).map fun i => fs.getD i noB), OSl 22 u63 1 encRow (ps ++ [(u61, (showP fs s which[k]))]), OSl 9 u61 1 encS (showP fs s which[k]), RowsA 9 1 encS ps, OSl 3 dw 1 encN which, OSl 9 sa 1 encS (saltL s fs.length), OSl 9 sb 1 encS (elemL fs s fs.length), Sl fv 1 encS fs, Sl wv 1 encN which, TabsA]⟩
    ·refine ⟨_, rfl, fun w H => ?_⟩
     refine op_buildSlice (wn rfl) rfl rfl rfl Tryz.underlying22 Finf9 S H (idx := [0]) rfl rfl rfl (z := [.string ⟨#[]⟩]) (by kernel_rfl) (cs := [.string (startS s which[k])]) (by rw [saltL_at]; rfl) fun b59 a w S H => ?_
     have H := H.celO [startS s which[k]] encS 1 (m := 1) rfl (by simp [encS]) rfl (by omega)
     refine t_n H (rem' := [1, 8, 9, 10, 11, 12]) rfl ?_
     refine t_b [1, 8] (by kernel_rfl) rfl (fa2 ?_ ?_)
     ·refine ⟨_, rfl, fun w H => ?_⟩
      refine op_y (wn rfl) rfl rfl S (y_load rfl Fsca29 S H rfl rfl) fun a S => ?_
      refine t_n H (rem' := [8, 9, 10, 11, 12]) rfl ?_
      refine t_b1 8 (by kernel_rfl) rfl fun w H => ?_
      refine op_appendT (wn rfl) rfl rfl rfl Tryz.underlying22 Finf9 rfl rfl S H rfl rfl (by simp [encS, Value.oneCell']) (by first | omega | (simp only [List.length_cons, List.length_nil]; omega) | (simp; omega)) (by first | omega | (simp only [List.length_cons, List.length_nil]; omega) | (simp; omega)) fun u61 a w S H => ?_
      obtain ⟨pu, cu, hpu⟩ := (H.sl u61).shape
      rw [show [startS s which[k]] ++ pathT ((elemL fs s fs.length).map leafD) which[k] = (showP fs s which[k]) from rfl] at H
      refine t_tail H rfl (rem' := [9, 10, 11, 12]) rfl ?_
      refine t_b1 9 (by kernel_rfl) rfl fun w H => ?_
      refine op_buildSlice (wn rfl) rfl rfl rfl Tryz.underlying29 Finf22 S H (idx := [0]) rfl rfl rfl (z := [.slice none 0 0]) (by kernel_rfl) (cs := [u61]) (by rw [hpu]; rfl) fun b62 a w S H => ?_
      refine t_n H (rem' := [10, 11, 12]) rfl ?_
      refine t_b1 10 (by kernel_rfl) rfl fun w H => ?_
      refine op_append ([(u61, (showP fs s which[k]))]) (wn rfl) rfl rfl rfl Tryz.underlying29 Finf22 rfl rfl S H rfl rfl rfl rfl (by simp) (by simp [encRow]) (by simp [encRow, H.sl1 u61]) (by simp; omega) (by simp; omega) fun u63 a w hn63 S H => ?_
      refine t_tail H rfl (rem' := [11, 12]) rfl ?_
      refine t_q 11 rfl (by kernel_rfl) (rem' := [12]) rfl rfl rfl rfl S (fun w H => y_faddrb rfl Ffo31_3 S rfl) fun a S => ?_
      refine t_b1 12 (by kernel_rfl) rfl fun w H => ?_
      refine op_store (wn rfl) rfl rfl S H rfl rfl (H.sl1 _) Fsiz29 rfl fun a w S H => ?_
      dsimp only [List.set, Nat.zero_add, Nat.reduceAdd] at H
      refine t_tail H rfl (rem' := []) rfl ?_
      refine t_nil (fun w H => ?_)
      exact ⟨u61, u63, (((((((((S.nil.cons S 34 rfl).cons S 33 rfl).cons S 32 rfl).cons S 6 rfl).cons S 10 rfl).cons S 9 rfl).cons S 8 rfl).cons S 0 rfl).cons S 7 rfl), H.take [Cel b6 31 [.int .i64 0, .slice none 0 0, .slice none 0 0, .slice none 0 0], Cel b10 31 [.int .i64 (fs.length : Int), dw, u51, u63], OSl 9 u51 1 encS ((which.take (k + 1)).map fun i => fs.getD i noB), OSl 22 u63 1 encRow (ps ++ [(u61, (showP fs s which[k]))]), OSl 9 u61 1 encS (showP fs s which[k]), RowsA 9 1 encS ps, OSl 3 dw 1 encN which, OSl 9 sa 1 encS (saltL s fs.length), OSl 9 sb 1 encS (elemL fs s fs.length), Sl fv 1 encS fs, Sl wv 1 encN which, TabsA]⟩
     ·refine ⟨_, rfl, fun w H => ?_⟩
      refine op_appendT (wn rfl) rfl rfl rfl Tryz.underlying22 Finf9 rfl rfl S H rfl rfl (by simp [encS, Value.oneCell']) (by first | omega | (simp only [List.length_cons, List.length_nil]; omega) | (simp; omega)) (by first | omega | (simp only [List.length_cons, List.length_nil]; omega) | (simp; omega)) fun u61 a w S H => ?_
      obtain ⟨pu, cu, hpu⟩ := (H.sl u61).shape
      rw [show [startS s which[k]] ++ pathT ((elemL fs s fs.length).map leafD) which[k] = (showP fs s which[k]) from rfl] at H
      refine t_tail H rfl (rem' := [1, 9, 10, 11, 12]) rfl ?_
      refine t_q 1 rfl (by kernel_rfl) (rem' := [9, 10, 11, 12]) rfl rfl rfl rfl S (fun w H => y_load rfl Fsca29 S H rfl rfl) fun a S => ?_
      refine t_b1 9 (by kernel_rfl) rfl fun w H => ?_
      refine op_buildSlice (wn rfl) rfl rfl rfl Tryz.underlying29 Finf22 S H (idx := [0]) rfl rfl rfl (z := [.slice none 0 0]) (by kernel_rfl) (cs := [u61]) (by rw [hpu]; rfl) fun b62 a w S H => ?_
      refine t_n H (rem' := [10, 11, 12]) rfl ?_
      refine t_b1 10 (by kernel_rfl) rfl fun w H => ?_
      refine op_append ([(u61, (showP fs s which[k]))]) (wn rfl) rfl rfl rfl Tryz.underlying29 Finf22 rfl rfl S H rfl rfl rfl rfl (by simp) (by simp [encRow]) (by simp [encRow, H.sl1 u61]) (by simp; omega) (by simp; omega) fun u63 a w hn63 S H => ?_
      refine t_tail H rfl (rem' := [11, 12]) rfl ?_
      refine t_q 11 rfl (by kernel_rfl) (rem' := [12]) rfl rfl rfl rfl S (fun w H => y_faddrb rfl Ffo31_3 S rfl) fun a S => ?_
      refine t_b1 12 (by kernel_rfl) rfl fun w H => ?_
      refine op_store (wn rfl) rfl rfl S H rfl rfl (H.sl1 _) Fsiz29 rfl fun a w S H => ?_
      dsimp only [List.set, Nat.zero_add, Nat.reduceAdd] at H
      refine t_tail H rfl (rem' := []) rfl ?_
      refine t_nil (fun w H => ?_)
      exact ⟨u61, u63, (((((((((S.nil.cons S 34 rfl).cons S 33 rfl).cons S 32 rfl).cons S 6 rfl).cons S 10 rfl).cons S 9 rfl).cons S 8 rfl).cons S 0 rfl).cons S 7 rfl), H.take [Cel b6 31 [.int .i64 0, .slice none 0 0, .slice none 0 0, .slice none 0 0], Cel b10 31 [.int .i64 (fs.length : Int), dw, u51, u63], OSl 9 u51 1 encS ((which.take (k + 1)).map fun i => fs.getD i noB), OSl 22 u63 1 encRow (ps ++ [(u61, (showP fs s which[k]))]), OSl 9 u61 1 encS (showP fs s which[k]), RowsA 9 1 encS ps, OSl 3 dw 1 encN which, OSl 9 sa 1 encS (saltL s fs.length), OSl 9 sb 1 encS (elemL fs s fs.length), Sl fv 1 encS fs, Sl wv 1 encN which, TabsA]⟩
   rintro a w ⟨u61, u63, S, H⟩
   refine n_block ?_
   refine n_then ?_
   refine g_region ?_
   refine gy rfl rfl rfl S (y_add rfl S rfl rfl (by omega)) fun a S => ?_
   refine gm S fun a S => ?_
   refine gnt ?_
   exact ⟨(k + 1, u51, u63, ps ++ [(u61, (showP fs s which[k]))]), S.nil.cons S 34 rfl, (((((((S.nil.cons S 0 rfl).cons S 6 rfl).cons S 7 rfl).cons S 8 rfl).cons S 9 rfl).cons S 10 rfl).cons S 32 rfl).cons S 33 rfl, ⟨by dsimp only; omega, sh_step hps hkl, ((H.front2 (OSl 9 u61 1 encS (showP fs s which[k])) (RowsA 9 1 encS ps)).rowSnoc).take [Cel b6 31 [.int .i64 0, .slice none 0 0, .slice none 0 0, .slice none 0 0], Cel b10 31 [.int .i64 (fs.length : Int), dw, u51, u63], OSl 9 u51 1 encS ((which.take (k + 1)).map fun i => fs.getD i noB), OSl 22 u63 1 encRow (ps ++ [(u61, (showP fs s which[k]))]), RowsA 9 1 encS (ps ++ [(u61, (showP fs s which[k]))]), OSl 3 dw 1 encN which, OSl 9 sa 1 encS (saltL s fs.length), OSl 9 sb 1 encS (elemL fs s fs.length), Sl fv 1 encS fs, Sl wv 1 encN which, TabsA]⟩, by dsimp only; omega⟩
  ·have h2p := h2; try simp only [DL] at h2p
   obtain rfl : k = which.length := by omega
   rw [List.take_length] at hps H
   refine g_exit ?_
   refine x_then (x_then (x_eq ?_))
   refine n_then ?_
   have S := ((S.nil.cons S 6 rfl).cons S 7 rfl).cons S 10 rfl
   refine gsr ?_
   refine gy rfl rfl rfl S (y_load0 rfl S H rfl (by exact Fagg31)) fun a S => ?_
   refine wl_of (op_storea (wn rfl) rfl rfl S H rfl rfl (by rw [List.all_cons, List.all_cons, List.all_cons, List.all_cons, H.sl1 dw, H.sl1 zf, H.sl1 zp]; rfl) Fsiz31 rfl (cs' := [_, _, _, _]) rfl fun a w S H => ?_)
   refine ga S fun a S => ?_
   refine gnt ?_
   refine g_ret ?_
   refine ret2ct rfl S H rfl rfl (by exact Fagg31) ?_
   exact ⟨dw, zf, zp, ps, rfl, hps, H.take [OSl 3 dw 1 encN which, OSl 9 zf 1 encS (which.map fun i => fs.getD i noB), OSl 22 zp 1 encRow ps, RowsA 9 1 encS ps]⟩
end Go.Proofs.YtjdbggnhdeaflaaGreatDoor
end
section
namespace Go.Proofs.YtjdbggnhdeaflaaGreatDoor
open Go Go.Gw
set_option linter.unusedVariables false
set_option linter.unusedSimpArgs false
theorem row_at {fs : List ByteArray} {s : ByteArray} {which : List Nat} {ps : List (Value × List ByteArray)} (hp : ps.map (·.2) = which.map (showP fs s)) {k : Nat} (h1 : k < ps.length) (h2 : k < which.length) : ps[k].2 = showP fs s which[k] := by
  have h := congrArg (fun l => l[k]?) hp
  simpa [h1, h2] using h
set_option maxHeartbeats 2000000 in
/-- foyer/reveal.Check -/
theorem rcheck_spec (fs : List ByteArray) (s : ByteArray) (which : List Nat) (dw df dp : Value) (ps : List (Value × List ByteArray)) (w0 : World) (hT : Tabs w0) (hl : fs.length ≤ 1000) (hfs : ∀ x ∈ fs, x.size ≤ 200) (hi : IncW which fs.length) (hw : IsSl w0 dw 1 encN which) (hf : IsSl w0 df 1 encS (which.map fun i => fs.getD i noB)) (hp : IsSl w0 dp 1 encRow ps) (hrows : ∀ p ∈ ps, IsSl w0 p.1 1 encS p.2) (hcap : ∀ p ∈ ps, capOK p.1) (hps : ps.map (·.2) = which.map (showP fs s)) :
    Ret Tryz.prog 8 #[.string (sealF fs s), .agg #[.int .i64 (fs.length : Int), dw, df, dp]] w0 (fun u w => u = .bool true ∧ Ext w0 w) := by
 refine ret_of_wp (nt := 78) Tryz.func8 rfl rfl rfl (fl := [(0, .string (sealF fs s)), (1, .agg #[.int .i64 (fs.length : Int), dw, df, dp])]) rfl (fun a S => ?_)
 have H := HSat.start w0
 have H := H.ro0 (TabsA) rfl (hT)
 have H := H.ro0 (Sl dw 1 encN which) rfl (hw)
 have H := H.ro0 (Sl df 1 encS (which.map fun i => fs.getD i noB)) rfl (hf)
 have H := H.ro0 (Sl dp 1 encRow ps) rfl (hp)
 have hwl := hi.len
 have hpl : ps.length = which.length := by have := congrArg List.length hps; simpa using this
 have hml : (which.map fun i => fs.getD i noB).length = which.length := List.length_map _
 obtain ⟨pw, cw, hpw⟩ := hw.shape
 obtain ⟨pf, cf, hpf⟩ := hf.shape
 obtain ⟨pp, cp, hpp⟩ := hp.shape
 refine gsr ?_
 refine wl_of (op_boxa (wn rfl) rfl rfl rfl S H (by rw [hpw, hpf, hpp]; rfl) fun b3 a w S H => ?_)
 rw [← hpw, ← hpf, ← hpp] at H
 refine ga S fun a S => ?_
 refine gnt ?_
 refine g_scope ?_
 refine gsr ?_
 refine gy rfl rfl rfl S (y_faddrb rfl Ffo31_1 S rfl) fun a S => ?_
 refine gy rfl rfl rfl S (y_load rfl Fsca27 S H rfl rfl) fun a S => ?_
 refine gy rfl rfl rfl S (y_faddrb rfl Ffo31_0 S rfl) fun a S => ?_
 refine gy rfl rfl rfl S (y_load rfl Fsca3 S H rfl rfl) fun a S => ?_
 refine wl_of (op_call (wn rfl) rfl rfl S (co_func rfl Tryz.call19 S rfl) (inc_spec dw which fs.length _ (H.sl dw) hi (by omega)) fun v w hc a S => ?_)
 obtain ⟨rfl, he⟩ := hc
 have H := H.ext he
 refine gm S fun a S => ?_
 refine gz 14 rfl S rfl rfl rfl rfl rfl rfl (y_faddrb rfl Ffo31_2 S rfl) fun a S => ?_
 refine gz 14 rfl S rfl rfl rfl rfl rfl rfl (y_load rfl Fsca22 S H rfl rfl) fun a S => ?_
 refine gz 14 rfl S rfl rfl rfl rfl rfl rfl (y_lens rfl Tryz.underlying22 S H rfl) fun a S => ?_
 refine gz 14 rfl S rfl rfl rfl rfl rfl rfl (y_faddrb rfl Ffo31_1 S rfl) fun a S => ?_
 refine gz 14 rfl S rfl rfl rfl rfl rfl rfl (y_load rfl Fsca27 S H rfl rfl) fun a S => ?_
 refine gz 14 rfl S rfl rfl rfl rfl rfl rfl (y_lens rfl Tryz.underlying27 S H rfl) fun a S => ?_
 refine gz 14 rfl S rfl rfl rfl rfl rfl rfl (y_bin rfl S rfl rfl rfl) fun a S => ?_
 refine gy rfl rfl rfl S (y_and' rfl rfl S rfl rfl) fun a S => ?_
 refine gm S fun a S => ?_
 refine wl_of (op_y (wg' 23 rfl rfl S rfl (by simp) rfl) rfl rfl S (y_faddrb rfl Ffo31_3 S rfl) fun a S => ?_)
 refine wl_of (op_y (wg' 23 rfl rfl S rfl (by simp) rfl) rfl rfl S (y_load rfl Fsca29 S H rfl rfl) fun a S => ?_)
 refine wl_of (op_y (wg' 23 rfl rfl S rfl (by simp) rfl) rfl rfl S (y_lens rfl Tryz.underlying29 S H rfl) fun a S => ?_)
 refine wl_of (op_y (wg' 23 rfl rfl S rfl (by simp) rfl) rfl rfl S (y_faddrb rfl Ffo31_1 S rfl) fun a S => ?_)
 refine wl_of (op_y (wg' 23 rfl rfl S rfl (by simp) rfl) rfl rfl S (y_load rfl Fsca27 S H rfl rfl) fun a S => ?_)
 refine wl_of (op_y (wg' 23 rfl rfl S rfl (by simp) rfl) rfl rfl S (y_lens rfl Tryz.underlying27 S H rfl) fun a S => ?_)
 refine wl_of (op_y (wg' 23 rfl rfl S rfl (by simp) rfl) rfl rfl S (y_bin rfl S rfl rfl rfl) fun a S => ?_)
 refine gy rfl rfl rfl S (y_and' rfl (by simp) S rfl rfl) fun a S => ?_
 refine ga S fun a S => ?_
 first
 | rw [show (true && ((((which.map fun i => fs.getD i noB).length : Nat) : Int) == ((which.length : Nat) : Int)) && (((ps.length : Nat) : Int) == ((which.length : Nat) : Int))) = true by simp [hpl]] at S
 | rw [show (decide ((((startS s which[k] :: pathT (leavesL fs s) which[k]).length : Nat) : Int) > 0) && isD ((startS s which[k] :: pathT (leavesL fs s) which[k])[Int.toNat 0]'(by simp)) && true) = true by simp [startS_D]] at S
 refine gnt ?_
 have S := (((S.nil.cons S 0 rfl).cons S 3 rfl).cons S 4 rfl).cons S 5 rfl
 refine g_seq ?_
 refine gsr ?_
 refine gm S fun a S => ?_
 refine gy rfl rfl rfl S (y_not rfl S rfl) fun a S => ?_
 refine gnt ?_
 refine c_if S rfl (fun h3 => ?_) (fun h3 => ?_)
 ·have h3p := h3; try simp only [DL] at h3p
  all_goals (
    exact absurd h3 (by simp))
 ·have h3p := h3; try simp only [DL] at h3p
  refine g_skip ?_
  refine n_then ?_
  refine g_seq ?_
  refine g_label ?_
  refine n_then ?_
  refine g_seq ?_
  refine gsr ?_
  refine gy rfl rfl rfl S (y_faddrb rfl Ffo31_1 S rfl) fun a S => ?_
  refine gy rfl rfl rfl S (y_load rfl Fsca27 S H rfl rfl) fun a S => ?_
  refine gy rfl rfl rfl S (y_lens rfl Tryz.underlying27 S H rfl) fun a S => ?_
  refine gm S fun a S => ?_
  refine gnt ?_
  refine g_block ?_
  have SU := ((((S.nil.cons S 0 rfl).cons S 3 rfl).cons S 4 rfl).cons S 35 rfl).cons S 36 rfl
  refine loopW (X := Nat) SU (fun k => [(37, .int .i64 (k : Int)), (5, .bool true)]) (fun k w => k ≤ which.length ∧ HSat No w0 [Cel b3 31 [.int .i64 (fs.length : Int), dw, df, dp], Sl dw 1 encN which, Sl df 1 encS (which.map fun i => fs.getD i noB), Sl dp 1 encRow ps, TabsA] w) (fun k => which.length - k) 0 ((S.nil.cons S 5 rfl).cons S 37 rfl) (⟨Nat.zero_le _, H.take [Cel b3 31 [.int .i64 (fs.length : Int), dw, df, dp], Sl dw 1 encN which, Sl df 1 encS (which.map fun i => fs.getD i noB), Sl dp 1 encRow ps, TabsA]⟩) (fun k a w S hW => ?_)
  simp only [List.cons_append, List.nil_append] at S
  obtain ⟨hk, H⟩ := hW
  refine gsr ?_
  refine gy rfl rfl rfl S (y_bin rfl S rfl rfl rfl) fun a S => ?_
  refine gnt ?_
  refine g_seq ?_
  refine c_if S rfl (fun h4 => ?_) (fun h4 => ?_)
  ·have h4p := h4; try simp only [DL] at h4p
   have hkl : k < which.length := by omega
   have hwk : which[k] < fs.length := hi.lt _ (List.getElem_mem hkl)
   have hkp : k < ps.length := by omega
   have hkm : k < (which.map fun i => fs.getD i noB).length := by omega
   refine g_skip ?_
   refine n_then ?_
   refine g_seq ?_
   refine g_block ?_
   refine gsr ?_
   refine gm S fun a S => ?_
   refine gy rfl rfl rfl S (y_iaddrn rfl Tryz.underlying27 Fsiz3 S H rfl rfl (by first | assumption | omega | (simp only [LL]; omega))) fun a S => ?_
   refine gy rfl rfl rfl S (y_loads _ rfl Fsca3 S H rfl (by first | assumption | omega | (simp only [LL]; omega)) rfl) fun a S => ?_
   refine ga S fun a S => ?_
   refine ga S fun a S => ?_
   refine gnt ?_
   have S := ((((((((S.nil.cons S 0 rfl).cons S 3 rfl).cons S 4 rfl).cons S 35 rfl).cons S 36 rfl).cons S 5 rfl).cons S 37 rfl).cons S 6 rfl).cons S 7 rfl
   refine gsr ?_
   refine gy rfl rfl rfl S (y_faddrb rfl Ffo31_3 S rfl) fun a S => ?_
   refine gy rfl rfl rfl S (y_load rfl Fsca29 S H rfl rfl) fun a S => ?_
   refine gm S fun a S => ?_
   refine gy rfl rfl rfl S (y_iaddrn rfl Tryz.underlying29 Fsiz22 S H rfl rfl (by first | assumption | omega | (simp only [LL]; omega))) fun a S => ?_
   refine gy rfl rfl rfl S (y_loads _ rfl Fsca22 S H rfl (by first | assumption | omega | (simp only [LL]; omega)) rfl) fun a S => ?_
   have hr1 := hrows _ (List.getElem_mem hkp)
   rw [row_at hps hkp hkl] at hr1
   have hc1 := hcap _ (List.getElem_mem hkp)
   generalize ps[k].1 = pv at S hr1 hc1
   have H := (H.ro0 (CapA pv) rfl hc1).ro0 (Sl pv 1 encS (startS s which[k] :: pathT (leavesL fs s) which[k])) rfl hr1
   refine ga S fun a S => ?_
   refine gnt ?_
   have S := (((((((((S.nil.cons S 0 rfl).cons S 3 rfl).cons S 4 rfl).cons S 35 rfl).cons S 36 rfl).cons S 5 rfl).cons S 37 rfl).cons S 6 rfl).cons S 7 rfl).cons S 8 rfl
   refine g_seq ?_
   refine region_st (loud := []) (tails := []) (free := []) [0, 1, 2, 3, 4, 5, 6, 7, 8, 9, 10, 11, 12, 13, 14, 15, 16, 17, 18, 19, 20, 21, 22, 23, 24, 25, 26, 27] [] Fmo (by kernel_rfl) (by kernel_rfl) rfl H ?_
   refine m_w rfl rfl (wn rfl) rfl rfl S (fun w H => y_move rfl S rfl) fun a S => ?_
   refine m_w rfl rfl (wn rfl) rfl rfl S (fun w H => y_lens rfl Tryz.underlying22 S H rfl) fun a S => ?_
   refine m_w rfl rfl (wn rfl) rfl rfl S (fun w H => y_bin rfl S rfl rfl rfl) fun a S => ?_
   refine m_w rfl rfl (wn rfl) rfl rfl S (fun w H => y_move rfl S rfl) fun a S => ?_
   refine m_w rfl rfl (wg' 50 rfl rfl S rfl (by simp) rfl) rfl rfl S (fun w H => y_move rfl S rfl) fun a S => ?_
   refine m_w rfl rfl (wg' 50 rfl rfl S rfl (by simp) rfl) rfl rfl S (fun w H => y_iaddrs rfl Tryz.underlying22 Fsiz9 S H rfl rfl (by first | assumption | omega | (simp only [LL]; omega))) fun a S => ?_
   refine m_loads _ rfl rfl (wg' 50 rfl rfl S rfl (by simp) rfl) rfl rfl S rfl Fsca9 rfl (by first | assumption | omega | (simp only [LL]; omega)) rfl fun a S => ?_
   refine m_c rfl rfl (wg' 50 rfl rfl S rfl (by simp) rfl) rfl rfl S (fun w => co_func rfl Tryz.call18 S rfl) (fun w H => is_spec _ _ (by have := isD_size (startS_D s which[k]); show (startS s which[k]).size ≤ _; omega)) fun a S => ?_
   refine m_w rfl rfl (wn rfl) rfl rfl S (fun w H => y_and' rfl (by simp) S rfl rfl) fun a S => ?_
   refine m_w rfl rfl (wn rfl) rfl rfl S (fun w H => y_move rfl S rfl) fun a S => ?_
   refine m_w rfl rfl (wg' 56 rfl rfl S rfl (by simp [startS_D]) rfl) rfl rfl S (fun w H => y_move rfl S rfl) fun a S => ?_
   refine m_w rfl rfl (wg' 56 rfl rfl S rfl (by simp [startS_D]) rfl) rfl rfl S (fun w H => y_faddrb rfl Ffo31_0 S rfl) fun a S => ?_
   refine m_w rfl rfl (wg' 56 rfl rfl S rfl (by simp [startS_D]) rfl) rfl rfl S (fun w H => y_load rfl Fsca3 S H rfl rfl) fun a S => ?_
   refine m_w rfl rfl (wg' 56 rfl rfl S rfl (by simp [startS_D]) rfl) rfl rfl S (fun w H => y_move rfl S rfl) fun a S => ?_
   refine m_w rfl rfl (wg' 56 rfl rfl S rfl (by simp [startS_D]) rfl) rfl rfl S (fun w H => y_move rfl S rfl) fun a S => ?_
   refine m_w rfl rfl (wg' 56 rfl rfl S rfl (by simp [startS_D]) rfl) rfl rfl S (fun w H => y_iaddrs rfl Tryz.underlying22 Fsiz9 S H rfl rfl (by first | assumption | omega | (simp only [LL]; omega))) fun a S => ?_
   refine m_loads _ rfl rfl (wg' 56 rfl rfl S rfl (by simp [startS_D]) rfl) rfl rfl S rfl Fsca9 rfl (by first | assumption | omega | (simp only [LL]; omega)) rfl fun a S => ?_
   refine m_w rfl rfl (wg' 56 rfl rfl S rfl (by simp [startS_D]) rfl) rfl rfl S (fun w H => y_faddrb rfl Ffo31_2 S rfl) fun a S => ?_
   refine m_w rfl rfl (wg' 56 rfl rfl S rfl (by simp [startS_D]) rfl) rfl rfl S (fun w H => y_load rfl Fsca22 S H rfl rfl) fun a S => ?_
   refine m_w rfl rfl (wg' 56 rfl rfl S rfl (by simp [startS_D]) rfl) rfl rfl S (fun w H => y_move rfl S rfl) fun a S => ?_
   refine m_w rfl rfl (wg' 56 rfl rfl S rfl (by simp [startS_D]) rfl) rfl rfl S (fun w H => y_iaddrn rfl Tryz.underlying22 Fsiz9 S H rfl rfl (by first | assumption | omega | (simp only [LL]; omega))) fun a S => ?_
   refine m_loads _ rfl rfl (wg' 56 rfl rfl S rfl (by simp [startS_D]) rfl) rfl rfl S rfl Fsca9 rfl (by first | assumption | omega | (simp only [LL]; omega)) rfl fun a S => ?_
   rw [List.getElem_map] at S
   refine m_w rfl rfl (wg' 56 rfl rfl S rfl (by simp [startS_D]) rfl) rfl rfl S (fun w H => (y_adds rfl S rfl rfl (by have h := elemK_size hfs s which[k]; unfold elemK at h; rw [ByteArray.size_append] at h; show (startS s which[k]).size + _ ≤ _; omega))) fun a S => ?_
   refine m_w rfl rfl (wg' 56 rfl rfl S rfl (by simp [startS_D]) rfl) rfl rfl S (fun w H => y_move rfl S rfl) fun a S => ?_
   refine m_w rfl rfl (wg' 56 rfl rfl S rfl (by simp [startS_D]) rfl) rfl rfl S (fun w H => (y_sliceL (i := 1) rfl Tryz.underlying22 Fsiz9 S H rfl rfl (by simp only [List.length_cons]; omega))) fun a S => ?_
   refine m_c rfl rfl (wg' 56 rfl rfl S rfl (by simp [startS_D]) rfl) rfl rfl S (fun w => co_func rfl Tryz.call23 S rfl) (fun w H => tcheck_spec (leavesL fs s) (elemK fs s which[k]) fs.length which[k] (subV pv 1 (startS s which[k] :: pathT (leavesL fs s) which[k]).length 1) _ H.tabs (by have h := (H.sl pv).sub hc1 1 (startS s which[k] :: pathT (leavesL fs s) which[k]).length; rw [List.take_length] at h; exact h) (capOK_sub hc1 _ _ _) (leavesL_len fs s).symm (by rw [leavesL_len]; exact hwk) (by rw [leavesL_len]; omega) (leavesL_D fs s) (leavesL_at hwk) (elemK_size hfs s _)) fun a S => ?_
   refine m_w rfl rfl (wn rfl) rfl rfl S (fun w H => y_and' rfl (by simp [startS_D]) S rfl rfl) fun a S => ?_
   refine m_w rfl rfl (wn rfl) rfl rfl S (fun w H => y_assign rfl S rfl) fun a S => ?_
   first
   | rw [show (true && ((((which.map fun i => fs.getD i noB).length : Nat) : Int) == ((which.length : Nat) : Int)) && (((ps.length : Nat) : Int) == ((which.length : Nat) : Int))) = true by simp [hpl]] at S
   | rw [show (decide ((((startS s which[k] :: pathT (leavesL fs s) which[k]).length : Nat) : Int) > 0) && isD ((startS s which[k] :: pathT (leavesL fs s) which[k])[Int.toNat 0]'(by simp)) && true) = true by simp [startS_D]] at S
   refine m_nil (fun w H => ?_)
   refine n_then ?_
   have S := ((((((S.nil.cons S 0 rfl).cons S 3 rfl).cons S 4 rfl).cons S 35 rfl).cons S 36 rfl).cons S 37 rfl).cons S 5 rfl
   refine gsr ?_
   refine gm S fun a S => ?_
   refine gy rfl rfl rfl S (y_not rfl S rfl) fun a S => ?_
   refine gnt ?_
   refine c_if S rfl (fun h5 => ?_) (fun h5 => ?_)
   ·have h5p := h5; try simp only [DL] at h5p
    all_goals (
      exact absurd h5 (by simp))
   ·have h5p := h5; try simp only [DL] at h5p
    refine g_skip ?_
    refine n_block ?_
    refine n_then ?_
    refine g_region ?_
    refine gy rfl rfl rfl S (y_add rfl S rfl rfl (by omega)) fun a S => ?_
    refine gm S fun a S => ?_
    refine gnt ?_
    exact ⟨k + 1, (S.nil.cons S 5 rfl).cons S 37 rfl, ((((S.nil.cons S 0 rfl).cons S 3 rfl).cons S 4 rfl).cons S 35 rfl).cons S 36 rfl, ⟨by omega, H.take [Cel b3 31 [.int .i64 (fs.length : Int), dw, df, dp], Sl dw 1 encN which, Sl df 1 encS (which.map fun i => fs.getD i noB), Sl dp 1 encRow ps, TabsA]⟩, by omega⟩
  ·have h4p := h4; try simp only [DL] at h4p
   obtain rfl : k = which.length := by omega
   refine g_exit ?_
   refine x_then (x_then (x_eq ?_))
   refine n_then ?_
   have S := (S.nil.cons S 4 rfl).cons S 5 rfl
   refine gsr ?_
   refine gm S fun a S => ?_
   refine ga S fun a S => ?_
   refine gnt ?_
   refine g_ret ?_
   refine r_scope (ret1 rfl S rfl ?_)
   exact ⟨rfl, H.toExt⟩
end Go.Proofs.YtjdbggnhdeaflaaGreatDoor
end
section
namespace Go.Proofs.YtjdbggnhdeaflaaGreatDoor
open Go Go.Gw
set_option linter.unusedVariables false
set_option linter.unusedSimpArgs false
/-- foyer/foyerref04.Same -/
theorem same_spec (va vb : Value) (xs : List ByteArray) (w0 : World) (ha : IsSl w0 va 1 encS xs) (hb : IsSl w0 vb 1 encS xs) (hl : xs.length ≤ 100000) :
    Ret Tryz.prog 25 #[va, vb] w0 (fun u w => u = .bool true ∧ Ext w0 w) := by
 refine ret_of_wp (nt := 26) Tryz.func25 rfl rfl rfl (fl := [(0, va), (1, vb)]) rfl (fun a S => ?_)
 have H := HSat.start w0
 have H := H.ro0 (Sl va 1 encS xs) rfl (ha)
 have H := H.ro0 (Sl vb 1 encS xs) rfl (hb)
 refine gsr ?_
 refine ga S fun a S => ?_
 refine gnt ?_
 refine g_seq ?_
 refine gsr ?_
 refine gm S fun a S => ?_
 refine gy rfl rfl rfl S (y_lens rfl Tryz.underlying22 S H rfl) fun a S => ?_
 refine gm S fun a S => ?_
 refine gy rfl rfl rfl S (y_lens rfl Tryz.underlying22 S H rfl) fun a S => ?_
 refine gy rfl rfl rfl S (y_bin rfl S rfl rfl rfl) fun a S => ?_
 refine gnt ?_
 have S := (((S.nil.cons S 1 rfl).cons S 0 rfl).cons S 4 rfl).cons S 10 rfl
 refine c_if S rfl (fun h1 => ?_) (fun h1 => ?_)
 ·have h1p := h1; try simp only [DL] at h1p
  all_goals (
    exact absurd h1 (by simp))
 ·have h1p := h1; try simp only [DL] at h1p
  refine g_skip ?_
  refine n_then ?_
  refine g_seq ?_
  refine gsr ?_
  refine ga S fun a S => ?_
  refine gnt ?_
  refine g_block ?_
  have SU := (S.nil.cons S 1 rfl).cons S 0 rfl
  refine loopW (X := Nat) SU (fun k => [(5, .int .i64 (k : Int))]) (fun k w => k ≤ xs.length ∧ HSat No w0 [Sl va 1 encS xs, Sl vb 1 encS xs] w) (fun k => xs.length - k) 0 (S.nil.cons S 5 rfl) (⟨Nat.zero_le _, H.take [Sl va 1 encS xs, Sl vb 1 encS xs]⟩) (fun k a w S hW => ?_)
  simp only [List.cons_append, List.nil_append] at S
  obtain ⟨hk, H⟩ := hW
  refine g_seq ?_
  refine gsr ?_
  refine gm S fun a S => ?_
  refine gm S fun a S => ?_
  refine gy rfl rfl rfl S (y_lens rfl Tryz.underlying22 S H rfl) fun a S => ?_
  refine gy rfl rfl rfl S (y_bin rfl S rfl rfl rfl) fun a S => ?_
  refine gnt ?_
  refine c_if S rfl (fun h2 => ?_) (fun h2 => ?_)
  ·have h2p := h2; try simp only [DL] at h2p
   have hkl : k < xs.length := by omega
   refine g_skip ?_
   refine n_then ?_
   have S := ((S.nil.cons S 1 rfl).cons S 0 rfl).cons S 5 rfl
   refine g_seq ?_
   refine g_block ?_
   refine g_seq ?_
   refine region_st (loud := []) (tails := []) (free := []) [0, 1, 2, 3, 4, 5, 6, 7, 8] [] Fmo (by kernel_rfl) (by kernel_rfl) rfl H ?_
   refine m_w rfl rfl (wn rfl) rfl rfl S (fun w H => y_move rfl S rfl) fun a S => ?_
   refine m_w rfl rfl (wn rfl) rfl rfl S (fun w H => y_move rfl S rfl) fun a S => ?_
   refine m_w rfl rfl (wn rfl) rfl rfl S (fun w H => y_iaddrn rfl Tryz.underlying22 Fsiz9 S H rfl rfl (by first | assumption | omega | (simp only [LL]; omega))) fun a S => ?_
   refine m_loads _ rfl rfl (wn rfl) rfl rfl S rfl Fsca9 rfl (by first | assumption | omega | (simp only [LL]; omega)) rfl fun a S => ?_
   refine m_w rfl rfl (wn rfl) rfl rfl S (fun w H => y_move rfl S rfl) fun a S => ?_
   refine m_w rfl rfl (wn rfl) rfl rfl S (fun w H => y_move rfl S rfl) fun a S => ?_
   refine m_w rfl rfl (wn rfl) rfl rfl S (fun w H => y_iaddrn rfl Tryz.underlying22 Fsiz9 S H rfl rfl (by first | assumption | omega | (simp only [LL]; omega))) fun a S => ?_
   refine m_loads _ rfl rfl (wn rfl) rfl rfl S rfl Fsca9 rfl (by first | assumption | omega | (simp only [LL]; omega)) rfl fun a S => ?_
   refine m_w rfl rfl (wn rfl) rfl rfl S (fun w H => y_nes rfl Tryz.underlying9 S rfl rfl) fun a S => ?_
   refine m_nil (fun w H => ?_)
   refine n_then ?_
   have S := (((S.nil.cons S 1 rfl).cons S 0 rfl).cons S 5 rfl).cons S 25 rfl
   refine c_if S rfl (fun h3 => ?_) (fun h3 => ?_)
   ·have h3p := h3; try simp only [DL] at h3p
    all_goals (
      exact absurd h3 (by simp))
   ·have h3p := h3; try simp only [DL] at h3p
    refine g_skip ?_
    refine n_block ?_
    refine n_then ?_
    refine g_region ?_
    refine gm S fun a S => ?_
    refine gy rfl rfl rfl S (y_add rfl S rfl rfl (by omega)) fun a S => ?_
    refine ga S fun a S => ?_
    refine gnt ?_
    exact ⟨k + 1, S.nil.cons S 5 rfl, (S.nil.cons S 1 rfl).cons S 0 rfl, ⟨by omega, H⟩, by omega⟩
  ·have h2p := h2; try simp only [DL] at h2p
   refine g_exit ?_
   refine x_then (x_then (x_eq ?_))
   refine n_then ?_
   have S := S.nil
   refine gsr ?_
   refine ga S fun a S => ?_
   refine gnt ?_
   refine g_ret ?_
   refine ret1 rfl S rfl ?_
   exact ⟨rfl, H.toExt⟩
def shortB (xs : List ByteArray) : Bool := decide (xs.length ≤ 20) && xs.all fun x => decide (x.size ≤ 200)
theorem short_no {xs : List ByteArray} {x : ByteArray} (h : x ∈ xs) (h2 : 200 < x.size) : shortB xs = false := by
  have h3 : (xs.all fun x => decide (x.size ≤ 200)) = false := by
    rw [Bool.eq_false_iff]
    intro e
    have := List.all_eq_true.1 e x h
    simp at this; omega
  unfold shortB; rw [h3, Bool.and_false]
theorem short_end {xs : List ByteArray} {k : Nat} (hk : k ≤ xs.length) (hall : ∀ x ∈ xs.take k, x.size ≤ 200) (hex : ¬ (k < xs.length ∧ xs.length ≤ 20)) : decide ((xs.length : Int) ≤ 20) = shortB xs := by
  unfold shortB
  by_cases h : xs.length ≤ 20
  · have hk2 : k = xs.length := by omega
    rw [hk2, List.take_length] at hall
    rw [decide_eq_true (by omega), decide_eq_true h, Bool.true_and]
    exact (List.all_eq_true.2 fun x hx => decide_eq_true (hall x hx)).symm
  · rw [decide_eq_false (by omega), decide_eq_false h, Bool.false_and]
theorem short_yes {xs : List ByteArray} (h : shortB xs = true) : xs.length ≤ 20 ∧ ∀ x ∈ xs, x.size ≤ 200 := by
  unfold shortB at h
  rw [Bool.and_eq_true] at h
  exact ⟨of_decide_eq_true h.1, fun x hx => of_decide_eq_true (List.all_eq_true.1 h.2 x hx)⟩
/-- foyer/foyerref04.Short -/
theorem short_spec (v : Value) (xs : List ByteArray) (w0 : World) (hv : IsSl w0 v 1 encS xs) :
    Ret Tryz.prog 5 #[v, .int .i64 20] w0 (fun u w => u = .bool (shortB xs) ∧ Ext w0 w) := by
 refine ret_of_wp (nt := 28) Tryz.func5 rfl rfl rfl (fl := [(0, v), (1, .int .i64 20)]) rfl (fun a S => ?_)
 have H := HSat.start w0
 have H := H.ro0 (Sl v 1 encS xs) rfl (hv)
 have hlen := hv.len
 refine gsr ?_
 refine ga S fun a S => ?_
 refine gnt ?_
 refine g_seq ?_
 refine gsr ?_
 refine ga S fun a S => ?_
 refine gnt ?_
 refine g_block ?_
 have SU := (S.nil.cons S 1 rfl).cons S 0 rfl
 refine loopW (X := Nat) SU (fun k => [(5, .int .i64 (k : Int))]) (fun k w => k ≤ xs.length ∧ (∀ x ∈ xs.take k, x.size ≤ 200) ∧ HSat No w0 [Sl v 1 encS xs] w) (fun k => xs.length - k) 0 (S.nil.cons S 5 rfl) (⟨Nat.zero_le _, by simp, H⟩) (fun k a w S hW => ?_)
 simp only [List.cons_append, List.nil_append] at S
 obtain ⟨hk, hall, H⟩ := hW
 refine g_seq ?_
 refine gsr ?_
 refine gm S fun a S => ?_
 refine gm S fun a S => ?_
 refine gy rfl rfl rfl S (y_lens rfl Tryz.underlying22 S H rfl) fun a S => ?_
 refine gy rfl rfl rfl S (y_bin rfl S rfl rfl rfl) fun a S => ?_
 refine gm S fun a S => ?_
 refine' wl_and 4 10 rfl S H rfl rfl rfl rfl rfl rfl rfl (fun _ S => (wn rfl)) (fun h1 kk => ?yh1) (fun a w S H => ?_)
 case yh1 =>
  have h1p := h1; try simp only [DL] at h1p
  refine gz 10 h1 S rfl rfl rfl rfl rfl rfl (y_move rfl S rfl) fun a S => ?_
  refine gz 10 h1 S rfl rfl rfl rfl rfl rfl (y_lens rfl Tryz.underlying22 S H rfl) fun a S => ?_
  refine gz 10 h1 S rfl rfl rfl rfl rfl rfl (y_move rfl S rfl) fun a S => ?_
  refine gz 10 h1 S rfl rfl rfl rfl rfl rfl (y_bin rfl S rfl rfl rfl) fun a S => ?_
  refine gy rfl rfl rfl S (y_and' rfl h1 S rfl rfl) fun a S => ?_
  exact kk _ _ (S.join 5 15 rfl rfl) H
 refine gnt ?_
 have S := (((S.nil.cons S 1 rfl).cons S 0 rfl).cons S 5 rfl).cons S 15 rfl
 refine c_if S rfl (fun h2 => ?_) (fun h2 => ?_)
 ·have h2p := h2; try simp only [DL] at h2p
  have hkl : k < xs.length := by simp at h2; omega
  refine g_skip ?_
  refine n_then ?_
  refine g_seq ?_
  refine g_block ?_
  refine gsr ?_
  refine gm S fun a S => ?_
  refine gm S fun a S => ?_
  refine gy rfl rfl rfl S (y_iaddrn rfl Tryz.underlying22 Fsiz9 S H rfl rfl (by first | assumption | omega | (simp only [LL]; omega))) fun a S => ?_
  refine gy rfl rfl rfl S (y_loads _ rfl Fsca9 S H rfl (by first | assumption | omega | (simp only [LL]; omega)) rfl) fun a S => ?_
  refine gy rfl rfl rfl S (y_lenstr rfl Tryz.underlying9 S rfl) fun a S => ?_
  refine gy rfl rfl rfl S (y_bin rfl S rfl rfl rfl) fun a S => ?_
  refine gnt ?_
  have S := (((S.nil.cons S 1 rfl).cons S 0 rfl).cons S 5 rfl).cons S 23 rfl
  refine c_if S rfl (fun h3 => ?_) (fun h3 => ?_)
  ·have h3p := h3; try simp only [DL] at h3p
   have hbig : 200 < xs[k].size := by omega
   refine gsr ?_
   refine ga S fun a S => ?_
   refine gnt ?_
   refine g_ret ?_
   refine r_block (r_then (r_then (r_block (r_then (ret1 rfl S rfl ?_)))))
   exact ⟨by rw [short_no (List.getElem_mem hkl) hbig], H.toExt⟩
  ·have h3p := h3; try simp only [DL] at h3p
   have hsz : xs[k].size ≤ 200 := by omega
   refine g_skip ?_
   refine n_block ?_
   refine n_then ?_
   refine g_region ?_
   refine gm S fun a S => ?_
   refine gy rfl rfl rfl S (y_add rfl S rfl rfl (by omega)) fun a S => ?_
   refine ga S fun a S => ?_
   refine gnt ?_
   exact ⟨k + 1, S.nil.cons S 5 rfl, (S.nil.cons S 1 rfl).cons S 0 rfl, ⟨by omega, by rw [List.take_succ_eq_append_getElem hkl]; intro x hx; rcases List.mem_append.1 hx with hx | hx; exact hall x hx; rw [List.mem_singleton.1 hx]; exact hsz, H⟩, by omega⟩
 ·have h2p := h2; try simp only [DL] at h2p
  have hex : ¬ (k < xs.length ∧ xs.length ≤ 20) := by intro hh; simp at h2; omega
  refine g_exit ?_
  refine x_then (x_then (x_eq ?_))
  refine n_then ?_
  refine gsr ?_
  refine gm S fun a S => ?_
  refine gy rfl rfl rfl S (y_lens rfl Tryz.underlying22 S H rfl) fun a S => ?_
  refine gm S fun a S => ?_
  refine gy rfl rfl rfl S (y_bin rfl S rfl rfl rfl) fun a S => ?_
  refine ga S fun a S => ?_
  refine gnt ?_
  have S := S.nil.cons S 4 rfl
  refine g_ret ?_
  refine ret1 rfl S rfl ?_
  exact ⟨congrArg Value.bool (short_end hk hall hex), H.toExt⟩
end Go.Proofs.YtjdbggnhdeaflaaGreatDoor
end
section
namespace Go.Proofs.YtjdbggnhdeaflaaGreatDoor
open Go Go.Gw
set_option linter.unusedVariables false
set_option linter.unusedSimpArgs false
def encQ (b : Bool) : List Value := [.bool b]
theorem chosen_none {n : Nat} {bs : List Bool} (h : (selL bs n).length = 0) : chosen n bs = [0] := by unfold chosen; rw [if_pos h]
theorem chosen_some {n : Nat} {bs : List Bool} (h : ¬ (selL bs n).length = 0) : chosen n bs = selL bs n := by unfold chosen; rw [if_neg h]
theorem selL_le (bs : List Bool) (k : Nat) : (selL bs k).length ≤ k := by
  have := List.length_filter_le (fun i => bs.getD i false) (List.range k)
  rw [List.length_range] at this; exact this
theorem getD_at {bs : List Bool} {k : Nat} (h : k < bs.length) : bs[k] = bs.getD k false := by
  rw [List.getD_eq_getElem?_getD, List.getElem?_eq_getElem h]; rfl
theorem getD_no {bs : List Bool} {k : Nat} (h : ¬ k < bs.length) : bs.getD k false = false := by
  rw [List.getD_eq_getElem?_getD, List.getElem?_eq_none (by omega)]; rfl
set_option maxHeartbeats 1000000 in
/-- foyer/foyertop.w21Chosen -/
theorem chosen_spec (n : Nat) (v : Value) (bs : List Bool) (w0 : World) (hv : IsSl w0 v 1 encQ bs) (hn : n ≤ 1000) :
    Ret Tryz.prog 6 #[.int .i64 (n : Int), v] w0 (fun u w => HSat No w0 [OSl 3 u 1 encN (chosen n bs)] w) := by
 refine ret_of_wp (nt := 31) Tryz.func6 rfl rfl rfl (fl := [(0, .int .i64 (n : Int)), (1, v)]) rfl (fun a S => ?_)
 have H := HSat.start w0
 have H := H.ro0 (Sl v 1 encQ bs) rfl (hv)
 refine gsr ?_
 refine ga S fun a S => ?_
 refine gnt ?_
 refine gsr ?_
 refine ga S fun a S => ?_
 refine gnt ?_
 refine g_seq ?_
 refine gsr ?_
 refine ga S fun a S => ?_
 refine gnt ?_
 refine g_block ?_
 have H := H.nilO 3 1 encN
 have SU := ((S.nil.cons S 1 rfl).cons S 0 rfl).cons S 4 rfl
 refine loopW (X := Nat × Value) SU (fun x => [(6, .int .i64 (x.1 : Int)), (5, x.2)]) (fun x w => x.1 ≤ n ∧ HSat No w0 [OSl 3 x.2 1 encN (selL bs x.1), Sl v 1 encQ bs] w) (fun x => n - x.1) (0, .slice none 0 0) ((S.nil.cons S 5 rfl).cons S 6 rfl) (⟨Nat.zero_le _, H⟩) (fun x a w S hW => ?_)
 simp only [List.cons_append, List.nil_append] at S
 obtain ⟨k, zo⟩ := x
 obtain ⟨hk, H⟩ := hW
 dsimp only at S H hk
 refine g_seq ?_
 refine gsr ?_
 refine gm S fun a S => ?_
 refine gm S fun a S => ?_
 refine gy rfl rfl rfl S (y_bin rfl S rfl rfl rfl) fun a S => ?_
 refine gnt ?_
 refine c_if S rfl (fun h1 => ?_) (fun h1 => ?_)
 ·have h1p := h1; try simp only [DL] at h1p
  have hkn : k < n := by omega
  refine g_skip ?_
  refine n_then ?_
  refine g_seq ?_
  refine g_block ?_
  refine gsr ?_
  refine gm S fun a S => ?_
  refine gm S fun a S => ?_
  refine gy rfl rfl rfl S (y_lens rfl Tryz.underlying23 S H rfl) fun a S => ?_
  refine gy rfl rfl rfl S (y_bin rfl S rfl rfl rfl) fun a S => ?_
  refine gm S fun a S => ?_
  refine' wl_and (B2 := bs.getD k false) 4 16 rfl S H rfl rfl rfl rfl rfl rfl rfl (fun _ S => (wn rfl)) (fun h2 kk => ?yh2) (fun a w S H => ?_)
  case yh2 =>
   have h2p := h2; try simp only [DL] at h2p
   refine gz 16 h2 S rfl rfl rfl rfl rfl rfl (y_move rfl S rfl) fun a S => ?_
   refine gz 16 h2 S rfl rfl rfl rfl rfl rfl (y_move rfl S rfl) fun a S => ?_
   refine gz 16 h2 S rfl rfl rfl rfl rfl rfl (y_iaddrn rfl Tryz.underlying23 Fsiz4 S H rfl rfl (by first | assumption | omega | (simp only [LL]; omega))) fun a S => ?_
   refine gz 16 h2 S rfl rfl rfl rfl rfl rfl (y_loads _ rfl Fsca4 S H rfl (by first | assumption | omega | (simp only [LL]; omega)) rfl) fun a S => ?_
   rw [getD_at (by omega)] at S
   refine gy rfl rfl rfl S (y_and' rfl h2 S rfl rfl) fun a S => ?_
   exact kk _ _ (S.join 5 21 rfl rfl) H
  refine gnt ?_
  have S := (((((S.nil.cons S 1 rfl).cons S 0 rfl).cons S 4 rfl).cons S 5 rfl).cons S 6 rfl).cons S 21 rfl
  refine c_if S rfl (fun h3 => ?_) (fun h3 => ?_)
  ·have h3p := h3; try simp only [DL] at h3p
   have hsel : selL bs (k + 1) = selL bs k ++ [k] := by
     rw [selL_s, if_pos]
     simp at h3
     first | exact h3.2 | simpa using h3.2
   refine g_region ?_
   refine gm S fun a S => ?_
   refine gm S fun a S => ?_
   refine wl_of (op_buildSlice (wn rfl) rfl rfl rfl Tryz.underlying27 Finf3 S H (idx := [0]) rfl rfl rfl (z := [.int .i64 0]) (by kernel_rfl) (cs := [.int .i64 (k : Int)]) rfl fun b24 a w S H => ?_)
   refine wl_of (op_append ([k]) (wn rfl) rfl rfl rfl Tryz.underlying27 Finf3 rfl rfl S H rfl rfl rfl rfl (by simp) (by simp [encN]) (by simp [encN, Value.oneCell']) (by have := selL_le bs k; simp only [List.length_cons, List.length_nil]; omega) (by have := selL_le bs k; simp only [List.length_cons, List.length_nil]; omega) fun u25 a w hn25 S H => ?_)
   rw [← hsel] at H
   refine ga S fun a S => ?_
   refine gl_nil ?_
   refine n_block ?_
   refine n_then ?_
   have S := ((((S.nil.cons S 1 rfl).cons S 0 rfl).cons S 4 rfl).cons S 6 rfl).cons S 5 rfl
   refine g_region ?_
   refine gm S fun a S => ?_
   refine gy rfl rfl rfl S (y_add rfl S rfl rfl (by omega)) fun a S => ?_
   refine ga S fun a S => ?_
   refine gnt ?_
   first
   | exact ⟨(k + 1, u25), (S.nil.cons S 5 rfl).cons S 6 rfl, ((S.nil.cons S 1 rfl).cons S 0 rfl).cons S 4 rfl, ⟨by dsimp only; omega, H.take [OSl 3 u25 1 encN (selL bs (k + 1)), Sl v 1 encQ bs]⟩, by dsimp only; omega⟩
   | exact ⟨(k + 1, zo), (S.nil.cons S 5 rfl).cons S 6 rfl, ((S.nil.cons S 1 rfl).cons S 0 rfl).cons S 4 rfl, ⟨by dsimp only; omega, H.take [OSl 3 zo 1 encN (selL bs (k + 1)), Sl v 1 encQ bs]⟩, by dsimp only; omega⟩
  ·have h3p := h3; try simp only [DL] at h3p
   have hsel : selL bs (k + 1) = selL bs k := by
     rw [selL_s, if_neg]
     intro hb
     by_cases hkb : k < bs.length
     · have hh := h3
       rw [hb] at hh
       simp [hkb] at hh
     · rw [getD_no hkb] at hb; cases hb
   rw [← hsel] at H
   refine g_skip ?_
   refine n_block ?_
   refine n_then ?_
   refine g_region ?_
   refine gm S fun a S => ?_
   refine gy rfl rfl rfl S (y_add rfl S rfl rfl (by omega)) fun a S => ?_
   refine ga S fun a S => ?_
   refine gnt ?_
   first
   | exact ⟨(k + 1, u25), (S.nil.cons S 5 rfl).cons S 6 rfl, ((S.nil.cons S 1 rfl).cons S 0 rfl).cons S 4 rfl, ⟨by dsimp only; omega, H.take [OSl 3 u25 1 encN (selL bs (k + 1)), Sl v 1 encQ bs]⟩, by dsimp only; omega⟩
   | exact ⟨(k + 1, zo), (S.nil.cons S 5 rfl).cons S 6 rfl, ((S.nil.cons S 1 rfl).cons S 0 rfl).cons S 4 rfl, ⟨by dsimp only; omega, H.take [OSl 3 zo 1 encN (selL bs (k + 1)), Sl v 1 encQ bs]⟩, by dsimp only; omega⟩
 ·have h1p := h1; try simp only [DL] at h1p
  obtain rfl : k = n := by omega
  refine g_exit ?_
  refine x_then (x_then (x_eq ?_))
  refine n_then ?_
  have S := (S.nil.cons S 4 rfl).cons S 5 rfl
  refine g_seq ?_
  refine gsr ?_
  refine gm S fun a S => ?_
  refine gy rfl rfl rfl S (y_lens rfl Tryz.underlying27 S H rfl) fun a S => ?_
  refine gy rfl rfl rfl S (y_bin rfl S rfl rfl rfl) fun a S => ?_
  refine gnt ?_
  refine c_if S rfl (fun h4 => ?_) (fun h4 => ?_)
  ·have h4p := h4; try simp only [DL] at h4p
   refine gsr ?_
   refine wl_of (op_buildSlice (wn rfl) rfl rfl rfl Tryz.underlying27 Finf3 S H (idx := [0]) rfl rfl rfl (z := [.int .i64 0]) (by kernel_rfl) (cs := [_]) rfl fun b29 a w S H => ?_)
   refine ga S fun a S => ?_
   refine gnt ?_
   have S := (S.nil.cons S 5 rfl).cons S 4 rfl
   refine g_ret ?_
   refine r_then (ret1 rfl S rfl ?_)
   rw [chosen_none (by omega)]
   exact (H.celO [0] encN 1 (m := 1) rfl (by simp [encN]) rfl (by omega)).take [OSl 3 _ 1 encN [0]]
  ·have h4p := h4; try simp only [DL] at h4p
   refine g_skip ?_
   refine n_then ?_
   refine gsr ?_
   refine gm S fun a S => ?_
   refine ga S fun a S => ?_
   refine gnt ?_
   have S := S.nil.cons S 4 rfl
   refine g_ret ?_
   refine ret1 rfl S rfl ?_
   rw [chosen_some (by omega)]
   exact H.take [OSl 3 zo 1 encN (selL bs k)]
end Go.Proofs.YtjdbggnhdeaflaaGreatDoor
end
section
namespace Go.Proofs.YtjdbggnhdeaflaaGreatDoor
open Go Go.Gw
set_option linter.unusedVariables false
set_option linter.unusedSimpArgs false
set_option maxHeartbeats 2000000 in
/-- foyer/foyertop.w21Alike -/
theorem alike_spec (n : Int) (which : List Nat) (fsel : List ByteArray) (dwA dfA dpA dwB dfB dpB : Value) (psA psB : List (Value × List ByteArray)) (w0 : World) (hwA : IsSl w0 dwA 1 encN which) (hfA : IsSl w0 dfA 1 encS fsel) (hpA : IsSl w0 dpA 1 encRow psA) (hrA : ∀ p ∈ psA, IsSl w0 p.1 1 encS p.2) (hDA : ∀ p ∈ psA, ∀ x ∈ p.2, isD x = true) (hwB : IsSl w0 dwB 1 encN which) (hfB : IsSl w0 dfB 1 encS fsel) (hpB : IsSl w0 dpB 1 encRow psB) (hrB : ∀ p ∈ psB, IsSl w0 p.1 1 encS p.2) (hDB : ∀ p ∈ psB, ∀ x ∈ p.2, isD x = true) (hpl : psA.length = psB.length) (hrl : ∀ k (h1 : k < psA.length) (h2 : k < psB.length), psA[k].2.length = psB[k].2.length) (hwl : which.length ≤ 1000) (hfl : fsel.length ≤ 1000) (hal : psA.length ≤ 1000) :
    Ret Tryz.prog 10 #[.agg #[.int .i64 n, dwA, dfA, dpA], .agg #[.int .i64 n, dwB, dfB, dpB]] w0 (fun u w => u = .bool true ∧ Ext w0 w) := by
 refine ret_of_wp (nt := 109) Tryz.func10 rfl rfl rfl (fl := [(0, .agg #[.int .i64 n, dwA, dfA, dpA]), (1, .agg #[.int .i64 n, dwB, dfB, dpB])]) rfl (fun a S => ?_)
 have H := HSat.start w0
 have H := H.ro0 (RowsS 1 encS psB) rfl (hrB)
 have H := H.ro0 (RowsS 1 encS psA) rfl (hrA)
 have H := H.ro0 (Sl dpB 1 encRow psB) rfl (hpB)
 have H := H.ro0 (Sl dpA 1 encRow psA) rfl (hpA)
 have H := H.ro0 (Sl dfB 1 encS fsel) rfl (hfB)
 have H := H.ro0 (Sl dfA 1 encS fsel) rfl (hfA)
 have H := H.ro0 (Sl dwB 1 encN which) rfl (hwB)
 have H := H.ro0 (Sl dwA 1 encN which) rfl (hwA)
 obtain ⟨pwA, cwA, hwA2⟩ := hwA.shape
 obtain ⟨pfA, cfA, hfA2⟩ := hfA.shape
 obtain ⟨ppA, cpA, hpA2⟩ := hpA.shape
 obtain ⟨pwB, cwB, hwB2⟩ := hwB.shape
 obtain ⟨pfB, cfB, hfB2⟩ := hfB.shape
 obtain ⟨ppB, cpB, hpB2⟩ := hpB.shape
 refine gsr ?_
 refine wl_of (op_boxa (wn rfl) rfl rfl rfl S H (by rw [hwA2, hfA2, hpA2]; rfl) fun b2 a w S H => ?_)
 rw [← hwA2, ← hfA2, ← hpA2] at H
 refine wl_of (op_boxa (wn rfl) rfl rfl rfl S H (by rw [hwB2, hfB2, hpB2]; rfl) fun b3 a w S H => ?_)
 rw [← hwB2, ← hfB2, ← hpB2] at H
 refine ga S fun a S => ?_
 refine gnt ?_
 refine g_seq ?_
 refine gsr ?_
 refine gy rfl rfl rfl S (y_faddrb rfl Ffo31_0 S rfl) fun a S => ?_
 refine gy rfl rfl rfl S (y_load rfl Fsca3 S H rfl rfl) fun a S => ?_
 refine gy rfl rfl rfl S (y_faddrb rfl Ffo31_0 S rfl) fun a S => ?_
 refine gy rfl rfl rfl S (y_load rfl Fsca3 S H rfl rfl) fun a S => ?_
 refine gy rfl rfl rfl S (y_bin rfl S rfl rfl rfl) fun a S => ?_
 refine gm S fun a S => ?_
 refine wl_of (op_y (wg' 13 rfl rfl S rfl (by simp) rfl) rfl rfl S (y_faddrb rfl Ffo31_1 S rfl) fun a S => ?_)
 refine wl_of (op_y (wg' 13 rfl rfl S rfl (by simp) rfl) rfl rfl S (y_load rfl Fsca27 S H rfl rfl) fun a S => ?_)
 refine wl_of (op_y (wg' 13 rfl rfl S rfl (by simp) rfl) rfl rfl S (y_lens rfl Tryz.underlying27 S H rfl) fun a S => ?_)
 refine wl_of (op_y (wg' 13 rfl rfl S rfl (by simp) rfl) rfl rfl S (y_faddrb rfl Ffo31_1 S rfl) fun a S => ?_)
 refine wl_of (op_y (wg' 13 rfl rfl S rfl (by simp) rfl) rfl rfl S (y_load rfl Fsca27 S H rfl rfl) fun a S => ?_)
 refine wl_of (op_y (wg' 13 rfl rfl S rfl (by simp) rfl) rfl rfl S (y_lens rfl Tryz.underlying27 S H rfl) fun a S => ?_)
 refine wl_of (op_y (wg' 13 rfl rfl S rfl (by simp) rfl) rfl rfl S (y_bin rfl S rfl rfl rfl) fun a S => ?_)
 refine gy rfl rfl rfl S (y_or' rfl (by simp) S rfl rfl) fun a S => ?_
 refine gm S fun a S => ?_
 refine wl_of (op_y (wg' 22 rfl rfl S rfl (by simp) rfl) rfl rfl S (y_faddrb rfl Ffo31_2 S rfl) fun a S => ?_)
 refine wl_of (op_y (wg' 22 rfl rfl S rfl (by simp) rfl) rfl rfl S (y_load rfl Fsca22 S H rfl rfl) fun a S => ?_)
 refine wl_of (op_y (wg' 22 rfl rfl S rfl (by simp) rfl) rfl rfl S (y_faddrb rfl Ffo31_2 S rfl) fun a S => ?_)
 refine wl_of (op_y (wg' 22 rfl rfl S rfl (by simp) rfl) rfl rfl S (y_load rfl Fsca22 S H rfl rfl) fun a S => ?_)
 refine wl_of (op_call (wg' 22 rfl rfl S rfl (by simp) rfl) rfl rfl S (co_func rfl Tryz.call25 S rfl) (same_spec dfA dfB fsel _ (H.sl dfA) (H.sl dfB) (by omega)) fun v w hc a S => ?_)
 obtain ⟨rfl, he⟩ := hc
 have H := H.ext he
 refine wl_of (op_y (wg' 22 rfl rfl S rfl (by simp) rfl) rfl rfl S (y_not rfl S rfl) fun a S => ?_)
 refine gy rfl rfl rfl S (y_or' rfl (by simp) S rfl rfl) fun a S => ?_
 refine gm S fun a S => ?_
 refine wl_of (op_y (wg' 30 rfl rfl S rfl (by simp) rfl) rfl rfl S (y_faddrb rfl Ffo31_3 S rfl) fun a S => ?_)
 refine wl_of (op_y (wg' 30 rfl rfl S rfl (by simp) rfl) rfl rfl S (y_load rfl Fsca29 S H rfl rfl) fun a S => ?_)
 refine wl_of (op_y (wg' 30 rfl rfl S rfl (by simp) rfl) rfl rfl S (y_lens rfl Tryz.underlying29 S H rfl) fun a S => ?_)
 refine wl_of (op_y (wg' 30 rfl rfl S rfl (by simp) rfl) rfl rfl S (y_faddrb rfl Ffo31_3 S rfl) fun a S => ?_)
 refine wl_of (op_y (wg' 30 rfl rfl S rfl (by simp) rfl) rfl rfl S (y_load rfl Fsca29 S H rfl rfl) fun a S => ?_)
 refine wl_of (op_y (wg' 30 rfl rfl S rfl (by simp) rfl) rfl rfl S (y_lens rfl Tryz.underlying29 S H rfl) fun a S => ?_)
 refine wl_of (op_y (wg' 30 rfl rfl S rfl (by simp) rfl) rfl rfl S (y_bin rfl S rfl rfl rfl) fun a S => ?_)
 refine gy rfl rfl rfl S (y_or' rfl (by simp) S rfl rfl) fun a S => ?_
 refine gnt ?_
 have S := (((S.nil.cons S 2 rfl).cons S 3 rfl).cons S 4 rfl).cons S 38 rfl
 refine c_if S rfl (fun h4 => ?_) (fun h4 => ?_)
 ·have h4p := h4; try simp only [DL] at h4p
  all_goals (
    exact absurd h4 (by simp [hpl]))
 ·have h4p := h4; try simp only [DL] at h4p
  refine g_skip ?_
  refine n_then ?_
  refine g_seq ?_
  refine gsr ?_
  refine ga S fun a S => ?_
  refine gnt ?_
  refine g_block ?_
  have SU := (S.nil.cons S 2 rfl).cons S 3 rfl
  refine loopW (X := Nat) SU (fun k => [(5, .int .i64 (k : Int))]) (fun k w => k ≤ which.length ∧ HSat No w0 [Cel b2 31 [.int .i64 n, dwA, dfA, dpA], Cel b3 31 [.int .i64 n, dwB, dfB, dpB], Sl dwA 1 encN which, Sl dwB 1 encN which, Sl dfA 1 encS fsel, Sl dfB 1 encS fsel, Sl dpA 1 encRow psA, Sl dpB 1 encRow psB, RowsS 1 encS psA, RowsS 1 encS psB] w) (fun k => which.length - k) 0 (S.nil.cons S 5 rfl) (⟨Nat.zero_le _, H.take [Cel b2 31 [.int .i64 n, dwA, dfA, dpA], Cel b3 31 [.int .i64 n, dwB, dfB, dpB], Sl dwA 1 encN which, Sl dwB 1 encN which, Sl dfA 1 encS fsel, Sl dfB 1 encS fsel, Sl dpA 1 encRow psA, Sl dpB 1 encRow psB, RowsS 1 encS psA, RowsS 1 encS psB]⟩) (fun k a w S hW => ?_)
  simp only [List.cons_append, List.nil_append] at S
  obtain ⟨hk, H⟩ := hW
  refine g_seq ?_
  refine gsr ?_
  refine gm S fun a S => ?_
  refine gy rfl rfl rfl S (y_faddrb rfl Ffo31_1 S rfl) fun a S => ?_
  refine gy rfl rfl rfl S (y_load rfl Fsca27 S H rfl rfl) fun a S => ?_
  refine gy rfl rfl rfl S (y_lens rfl Tryz.underlying27 S H rfl) fun a S => ?_
  refine gy rfl rfl rfl S (y_bin rfl S rfl rfl rfl) fun a S => ?_
  refine gnt ?_
  have S := (((S.nil.cons S 2 rfl).cons S 3 rfl).cons S 5 rfl).cons S 43 rfl
  refine c_if S rfl (fun h5 => ?_) (fun h5 => ?_)
  ·have h5p := h5; try simp only [DL] at h5p
   have hkl : k < which.length := by omega
   refine g_skip ?_
   refine n_then ?_
   refine g_seq ?_
   refine g_block ?_
   refine g_seq ?_
   refine region_st (loud := []) (tails := []) (free := []) [0, 1, 2, 3, 4, 5, 6, 7, 8, 9, 10] [] Fmo (by kernel_rfl) (by kernel_rfl) rfl H ?_
   refine m_w rfl rfl (wn rfl) rfl rfl S (fun w H => y_faddrb rfl Ffo31_1 S rfl) fun a S => ?_
   refine m_w rfl rfl (wn rfl) rfl rfl S (fun w H => y_load rfl Fsca27 S H rfl rfl) fun a S => ?_
   refine m_w rfl rfl (wn rfl) rfl rfl S (fun w H => y_move rfl S rfl) fun a S => ?_
   refine m_w rfl rfl (wn rfl) rfl rfl S (fun w H => y_iaddrn rfl Tryz.underlying27 Fsiz3 S H rfl rfl (by first | assumption | omega | (simp only [LL]; omega))) fun a S => ?_
   refine m_loads _ rfl rfl (wn rfl) rfl rfl S rfl Fsca3 rfl (by first | assumption | omega | (simp only [LL]; omega)) rfl fun a S => ?_
   refine m_w rfl rfl (wn rfl) rfl rfl S (fun w H => y_faddrb rfl Ffo31_1 S rfl) fun a S => ?_
   refine m_w rfl rfl (wn rfl) rfl rfl S (fun w H => y_load rfl Fsca27 S H rfl rfl) fun a S => ?_
   refine m_w rfl rfl (wn rfl) rfl rfl S (fun w H => y_move rfl S rfl) fun a S => ?_
   refine m_w rfl rfl (wn rfl) rfl rfl S (fun w H => y_iaddrn rfl Tryz.underlying27 Fsiz3 S H rfl rfl (by first | assumption | omega | (simp only [LL]; omega))) fun a S => ?_
   refine m_loads _ rfl rfl (wn rfl) rfl rfl S rfl Fsca3 rfl (by first | assumption | omega | (simp only [LL]; omega)) rfl fun a S => ?_
   refine m_w rfl rfl (wn rfl) rfl rfl S (fun w H => y_bin rfl S rfl rfl rfl) fun a S => ?_
   refine m_nil (fun w H => ?_)
   refine n_then ?_
   have S := (((S.nil.cons S 2 rfl).cons S 3 rfl).cons S 5 rfl).cons S 56 rfl
   refine c_if S rfl (fun h6 => ?_) (fun h6 => ?_)
   ·have h6p := h6; try simp only [DL] at h6p
    all_goals (
      exact absurd h6 (by simp))
   ·have h6p := h6; try simp only [DL] at h6p
    refine g_skip ?_
    refine n_block ?_
    refine n_then ?_
    refine g_region ?_
    refine gm S fun a S => ?_
    refine gy rfl rfl rfl S (y_add rfl S rfl rfl (by omega)) fun a S => ?_
    refine ga S fun a S => ?_
    refine gnt ?_
    exact ⟨k + 1, S.nil.cons S 5 rfl, (S.nil.cons S 2 rfl).cons S 3 rfl, ⟨by omega, H.take [Cel b2 31 [.int .i64 n, dwA, dfA, dpA], Cel b3 31 [.int .i64 n, dwB, dfB, dpB], Sl dwA 1 encN which, Sl dwB 1 encN which, Sl dfA 1 encS fsel, Sl dfB 1 encS fsel, Sl dpA 1 encRow psA, Sl dpB 1 encRow psB, RowsS 1 encS psA, RowsS 1 encS psB]⟩, by omega⟩
  ·have h5p := h5; try simp only [DL] at h5p
   refine g_exit ?_
   refine x_then (x_then (x_eq ?_))
   refine n_then ?_
   refine g_seq ?_
   refine gsr ?_
   refine ga S fun a S => ?_
   refine gnt ?_
   refine g_block ?_
   have SU := (S.nil.cons S 2 rfl).cons S 3 rfl
   refine loopW (X := Nat) SU (fun j => [(6, .int .i64 (j : Int))]) (fun j w => j ≤ psA.length ∧ HSat No w0 [Cel b2 31 [.int .i64 n, dwA, dfA, dpA], Cel b3 31 [.int .i64 n, dwB, dfB, dpB], Sl dwA 1 encN which, Sl dwB 1 encN which, Sl dfA 1 encS fsel, Sl dfB 1 encS fsel, Sl dpA 1 encRow psA, Sl dpB 1 encRow psB, RowsS 1 encS psA, RowsS 1 encS psB] w) (fun j => psA.length - j) 0 (S.nil.cons S 6 rfl) (⟨Nat.zero_le _, H.take [Cel b2 31 [.int .i64 n, dwA, dfA, dpA], Cel b3 31 [.int .i64 n, dwB, dfB, dpB], Sl dwA 1 encN which, Sl dwB 1 encN which, Sl dfA 1 encS fsel, Sl dfB 1 encS fsel, Sl dpA 1 encRow psA, Sl dpB 1 encRow psB, RowsS 1 encS psA, RowsS 1 encS psB]⟩) (fun j a w S hW => ?_)
   simp only [List.cons_append, List.nil_append] at S
   obtain ⟨hj, H⟩ := hW
   refine g_seq ?_
   refine gsr ?_
   refine gm S fun a S => ?_
   refine gy rfl rfl rfl S (y_faddrb rfl Ffo31_3 S rfl) fun a S => ?_
   refine gy rfl rfl rfl S (y_load rfl Fsca29 S H rfl rfl) fun a S => ?_
   refine gy rfl rfl rfl S (y_lens rfl Tryz.underlying29 S H rfl) fun a S => ?_
   refine gy rfl rfl rfl S (y_bin rfl S rfl rfl rfl) fun a S => ?_
   refine gnt ?_
   have S := (((S.nil.cons S 2 rfl).cons S 3 rfl).cons S 6 rfl).cons S 61 rfl
   refine c_if S rfl (fun h7 => ?_) (fun h7 => ?_)
   ·have h7p := h7; try simp only [DL] at h7p
    have hkA : j < psA.length := by omega
    have hkB : j < psB.length := by omega
    have hll := (hrA _ (List.getElem_mem hkA)).len
    refine g_skip ?_
    refine n_then ?_
    refine g_seq ?_
    refine g_block ?_
    refine g_seq ?_
    refine g_seq ?_
    refine region_st (loud := []) (tails := []) (free := []) [0, 1, 2, 3, 4, 5, 6, 7, 8, 9, 10, 11, 12] [] Fmo (by kernel_rfl) (by kernel_rfl) rfl H ?_
    refine m_w rfl rfl (wn rfl) rfl rfl S (fun w H => y_faddrb rfl Ffo31_3 S rfl) fun a S => ?_
    refine m_w rfl rfl (wn rfl) rfl rfl S (fun w H => y_load rfl Fsca29 S H rfl rfl) fun a S => ?_
    refine m_w rfl rfl (wn rfl) rfl rfl S (fun w H => y_move rfl S rfl) fun a S => ?_
    refine m_w rfl rfl (wn rfl) rfl rfl S (fun w H => y_iaddrn rfl Tryz.underlying29 Fsiz22 S H rfl rfl (by first | assumption | omega | (simp only [LL]; omega))) fun a S => ?_
    refine m_loads _ rfl rfl (wn rfl) rfl rfl S rfl Fsca22 rfl (by first | assumption | omega | (simp only [LL]; omega)) rfl fun a S => ?_
    refine m_w rfl rfl (wn rfl) rfl rfl S (fun w H => y_lens rfl Tryz.underlying22 S H rfl) fun a S => ?_
    refine m_w rfl rfl (wn rfl) rfl rfl S (fun w H => y_faddrb rfl Ffo31_3 S rfl) fun a S => ?_
    refine m_w rfl rfl (wn rfl) rfl rfl S (fun w H => y_load rfl Fsca29 S H rfl rfl) fun a S => ?_
    refine m_w rfl rfl (wn rfl) rfl rfl S (fun w H => y_move rfl S rfl) fun a S => ?_
    refine m_w rfl rfl (wn rfl) rfl rfl S (fun w H => y_iaddrn rfl Tryz.underlying29 Fsiz22 S H rfl rfl (by first | assumption | omega | (simp only [LL]; omega))) fun a S => ?_
    refine m_loads _ rfl rfl (wn rfl) rfl rfl S rfl Fsca22 rfl (by first | assumption | omega | (simp only [LL]; omega)) rfl fun a S => ?_
    refine m_w rfl rfl (wn rfl) rfl rfl S (fun w H => y_lens rfl Tryz.underlying22 S H rfl) fun a S => ?_
    refine m_w rfl rfl (wn rfl) rfl rfl S (fun w H => y_bin rfl S rfl rfl rfl) fun a S => ?_
    refine m_nil (fun w H => ?_)
    refine n_then ?_
    have S := (((S.nil.cons S 2 rfl).cons S 3 rfl).cons S 6 rfl).cons S 76 rfl
    refine c_if S rfl (fun h8 => ?_) (fun h8 => ?_)
    ·have h8p := h8; try simp only [DL] at h8p
     all_goals (
       exact absurd h8 (by simp [hrl j hkA hkB]))
    ·have h8p := h8; try simp only [DL] at h8p
     refine g_skip ?_
     refine n_then ?_
     refine gsr ?_
     refine ga S fun a S => ?_
     refine gnt ?_
     refine g_block ?_
     have SU := ((S.nil.cons S 2 rfl).cons S 3 rfl).cons S 6 rfl
     refine loopW (X := Nat) SU (fun i => [(7, .int .i64 (i : Int))]) (fun i w => i ≤ psA[j].2.length ∧ HSat No w0 [Cel b2 31 [.int .i64 n, dwA, dfA, dpA], Cel b3 31 [.int .i64 n, dwB, dfB, dpB], Sl dwA 1 encN which, Sl dwB 1 encN which, Sl dfA 1 encS fsel, Sl dfB 1 encS fsel, Sl dpA 1 encRow psA, Sl dpB 1 encRow psB, RowsS 1 encS psA, RowsS 1 encS psB] w) (fun i => psA[j].2.length - i) 0 (S.nil.cons S 7 rfl) (⟨Nat.zero_le _, H.take [Cel b2 31 [.int .i64 n, dwA, dfA, dpA], Cel b3 31 [.int .i64 n, dwB, dfB, dpB], Sl dwA 1 encN which, Sl dwB 1 encN which, Sl dfA 1 encS fsel, Sl dfB 1 encS fsel, Sl dpA 1 encRow psA, Sl dpB 1 encRow psB, RowsS 1 encS psA, RowsS 1 encS psB]⟩) (fun i a w S hW => ?_)
     simp only [List.cons_append, List.nil_append] at S
     obtain ⟨hi, H⟩ := hW
     refine g_seq ?_
     refine gsr ?_
     refine gm S fun a S => ?_
     refine gy rfl rfl rfl S (y_faddrb rfl Ffo31_3 S rfl) fun a S => ?_
     refine gy rfl rfl rfl S (y_load rfl Fsca29 S H rfl rfl) fun a S => ?_
     refine gm S fun a S => ?_
     refine gy rfl rfl rfl S (y_iaddrn rfl Tryz.underlying29 Fsiz22 S H rfl rfl (by first | assumption | omega | (simp only [LL]; omega))) fun a S => ?_
     refine gy rfl rfl rfl S (y_loads _ rfl Fsca22 S H rfl (by first | assumption | omega | (simp only [LL]; omega)) rfl) fun a S => ?_
     refine gy rfl rfl rfl S (y_lens rfl Tryz.underlying22 S H rfl) fun a S => ?_
     refine gy rfl rfl rfl S (y_bin rfl S rfl rfl rfl) fun a S => ?_
     refine gnt ?_
     have S := ((((S.nil.cons S 2 rfl).cons S 3 rfl).cons S 6 rfl).cons S 7 rfl).cons S 84 rfl
     refine c_if S rfl (fun h9 => ?_) (fun h9 => ?_)
     ·have h9p := h9; try simp only [DL] at h9p
      have hjA : i < psA[j].2.length := by omega
      have hjB : i < psB[j].2.length := by rw [← hrl j hkA hkB]; exact hjA
      refine g_skip ?_
      refine n_then ?_
      refine g_seq ?_
      refine g_block ?_
      refine gsr ?_
      refine gy rfl rfl rfl S (y_faddrb rfl Ffo31_3 S rfl) fun a S => ?_
      refine gy rfl rfl rfl S (y_load rfl Fsca29 S H rfl rfl) fun a S => ?_
      refine gm S fun a S => ?_
      refine gy rfl rfl rfl S (y_iaddrn rfl Tryz.underlying29 Fsiz22 S H rfl rfl (by first | assumption | omega | (simp only [LL]; omega))) fun a S => ?_
      refine gy rfl rfl rfl S (y_loads _ rfl Fsca22 S H rfl (by first | assumption | omega | (simp only [LL]; omega)) rfl) fun a S => ?_
      refine gm S fun a S => ?_
      refine gy rfl rfl rfl S (y_iaddrn rfl Tryz.underlying22 Fsiz9 S H rfl rfl (by first | assumption | omega | (simp only [LL]; omega))) fun a S => ?_
      refine gy rfl rfl rfl S (y_loads _ rfl Fsca9 S H rfl (by first | assumption | omega | (simp only [LL]; omega)) rfl) fun a S => ?_
      refine wl_of (op_call (wn rfl) rfl rfl S (co_func rfl Tryz.call18 S rfl) (is_spec _ _ (by have := isD_size (hDA _ (List.getElem_mem hkA) _ (List.getElem_mem hjA)); omega)) fun v w hc a S => ?_)
      obtain ⟨rfl, he⟩ := hc
      have H := H.ext he
      refine gy rfl rfl rfl S (y_not rfl S rfl) fun a S => ?_
      refine gm S fun a S => ?_
      refine wl_of (op_y (wg' 97 rfl rfl S rfl (by rw [hDA _ (List.getElem_mem hkA) _ (List.getElem_mem hjA)]; rfl) rfl) rfl rfl S (y_faddrb rfl Ffo31_3 S rfl) fun a S => ?_)
      refine wl_of (op_y (wg' 97 rfl rfl S rfl (by rw [hDA _ (List.getElem_mem hkA) _ (List.getElem_mem hjA)]; rfl) rfl) rfl rfl S (y_load rfl Fsca29 S H rfl rfl) fun a S => ?_)
      refine wl_of (op_y (wg' 97 rfl rfl S rfl (by rw [hDA _ (List.getElem_mem hkA) _ (List.getElem_mem hjA)]; rfl) rfl) rfl rfl S (y_move rfl S rfl) fun a S => ?_)
      refine wl_of (op_y (wg' 97 rfl rfl S rfl (by rw [hDA _ (List.getElem_mem hkA) _ (List.getElem_mem hjA)]; rfl) rfl) rfl rfl S (y_iaddrn rfl Tryz.underlying29 Fsiz22 S H rfl rfl (by first | assumption | omega | (simp only [LL]; omega))) fun a S => ?_)
      refine wl_of (op_y (wg' 97 rfl rfl S rfl (by rw [hDA _ (List.getElem_mem hkA) _ (List.getElem_mem hjA)]; rfl) rfl) rfl rfl S (y_loads _ rfl Fsca22 S H rfl (by first | assumption | omega | (simp only [LL]; omega)) rfl) fun a S => ?_)
      refine wl_of (op_y (wg' 97 rfl rfl S rfl (by rw [hDA _ (List.getElem_mem hkA) _ (List.getElem_mem hjA)]; rfl) rfl) rfl rfl S (y_move rfl S rfl) fun a S => ?_)
      refine wl_of (op_y (wg' 97 rfl rfl S rfl (by rw [hDA _ (List.getElem_mem hkA) _ (List.getElem_mem hjA)]; rfl) rfl) rfl rfl S (y_iaddrn rfl Tryz.underlying22 Fsiz9 S H rfl rfl (by first | assumption | omega | (simp only [LL]; omega))) fun a S => ?_)
      refine wl_of (op_y (wg' 97 rfl rfl S rfl (by rw [hDA _ (List.getElem_mem hkA) _ (List.getElem_mem hjA)]; rfl) rfl) rfl rfl S (y_loads _ rfl Fsca9 S H rfl (by first | assumption | omega | (simp only [LL]; omega)) rfl) fun a S => ?_)
      refine wl_of (op_call (wg' 97 rfl rfl S rfl (by rw [hDA _ (List.getElem_mem hkA) _ (List.getElem_mem hjA)]; rfl) rfl) rfl rfl S (co_func rfl Tryz.call18 S rfl) (is_spec _ _ (by have := isD_size (hDB _ (List.getElem_mem hkB) _ (List.getElem_mem hjB)); omega)) fun v w hc a S => ?_)
      obtain ⟨rfl, he⟩ := hc
      have H := H.ext he
      refine wl_of (op_y (wg' 97 rfl rfl S rfl (by rw [hDA _ (List.getElem_mem hkA) _ (List.getElem_mem hjA)]; rfl) rfl) rfl rfl S (y_not rfl S rfl) fun a S => ?_)
      refine gy rfl rfl rfl S (y_or' rfl (by rw [hDA _ (List.getElem_mem hkA) _ (List.getElem_mem hjA)]; rfl) S rfl rfl) fun a S => ?_
      refine gnt ?_
      have S := ((((S.nil.cons S 2 rfl).cons S 3 rfl).cons S 6 rfl).cons S 7 rfl).cons S 108 rfl
      refine c_if S rfl (fun h11 => ?_) (fun h11 => ?_)
      ·have h11p := h11; try simp only [DL] at h11p
       all_goals (
         exact absurd h11 (by simp [hDA _ (List.getElem_mem hkA) _ (List.getElem_mem hjA), hDB _ (List.getElem_mem hkB) _ (List.getElem_mem hjB)]))
      ·have h11p := h11; try simp only [DL] at h11p
       refine g_skip ?_
       refine n_block ?_
       refine n_then ?_
       refine g_region ?_
       refine gm S fun a S => ?_
       refine gy rfl rfl rfl S (y_add rfl S rfl rfl (by omega)) fun a S => ?_
       refine ga S fun a S => ?_
       refine gnt ?_
       exact ⟨i + 1, S.nil.cons S 7 rfl, ((S.nil.cons S 2 rfl).cons S 3 rfl).cons S 6 rfl, ⟨by omega, H.take [Cel b2 31 [.int .i64 n, dwA, dfA, dpA], Cel b3 31 [.int .i64 n, dwB, dfB, dpB], Sl dwA 1 encN which, Sl dwB 1 encN which, Sl dfA 1 encS fsel, Sl dfB 1 encS fsel, Sl dpA 1 encRow psA, Sl dpB 1 encRow psB, RowsS 1 encS psA, RowsS 1 encS psB]⟩, by omega⟩
     ·have h9p := h9; try simp only [DL] at h9p
      refine g_exit ?_
      refine x_then (x_then (x_eq ?_))
      refine n_block ?_
      refine n_then ?_
      refine g_region ?_
      refine gm S fun a S => ?_
      refine gy rfl rfl rfl S (y_add rfl S rfl rfl (by omega)) fun a S => ?_
      refine ga S fun a S => ?_
      refine gnt ?_
      exact ⟨j + 1, S.nil.cons S 6 rfl, (S.nil.cons S 2 rfl).cons S 3 rfl, ⟨by omega, H.take [Cel b2 31 [.int .i64 n, dwA, dfA, dpA], Cel b3 31 [.int .i64 n, dwB, dfB, dpB], Sl dwA 1 encN which, Sl dwB 1 encN which, Sl dfA 1 encS fsel, Sl dfB 1 encS fsel, Sl dpA 1 encRow psA, Sl dpB 1 encRow psB, RowsS 1 encS psA, RowsS 1 encS psB]⟩, by omega⟩
   ·have h7p := h7; try simp only [DL] at h7p
    refine g_exit ?_
    refine x_then (x_then (x_eq ?_))
    refine n_then ?_
    have S := S.nil
    refine gsr ?_
    refine ga S fun a S => ?_
    refine gnt ?_
    refine g_ret ?_
    refine ret1 rfl S rfl ?_
    exact ⟨rfl, H.toExt⟩
end Go.Proofs.YtjdbggnhdeaflaaGreatDoor
end
section
namespace Go.Proofs.YtjdbggnhdeaflaaGreatDoor
open Go Go.Gw
set_option linter.unusedSimpArgs false
set_option linter.unusedVariables false
def hexB (c : UInt8) : Prop := (48 ≤ c.toNat ∧ c.toNat ≤ 57) ∨ (97 ≤ c.toNat ∧ c.toNat ≤ 102)
def digB (c : UInt8) : Nat := if c.toNat ≤ 57 then c.toNat - 48 else c.toNat - 87
def hexN (l : List UInt8) : Nat := l.foldl (fun a c => a * 16 + digB c) 0
theorem digB_lt {c : UInt8} (h : hexB c) : digB c < 16 := by unfold digB; unfold hexB at h; split <;> omega
theorem hexN_snoc (l : List UInt8) (c : UInt8) : hexN (l ++ [c]) = hexN l * 16 + digB c := by simp [hexN]
theorem hexN_take {l : List UInt8} {k : Nat} (h : k < l.length) : hexN (l.take (k + 1)) = hexN (l.take k) * 16 + digB l[k] := by rw [List.take_succ_eq_append_getElem h, hexN_snoc]
theorem hexN_lt {l : List UInt8} (h : ∀ c ∈ l, hexB c) : ∀ k, k ≤ l.length → hexN (l.take k) < 16 ^ k
  | 0, _ => by simp [hexN]
  | k + 1, hk => by
    rw [hexN_take (by omega), Nat.pow_succ]
    have h1 := hexN_lt h k (by omega)
    have h2 := digB_lt (h l[k] (List.getElem_mem (by omega)))
    omega
theorem hexB_cut {c : UInt8} (h : hexCut.contains c = true) : hexB c := by
  have h2 : c ∈ hexCut := by simpa using h
  unfold hexCut at h2
  simp only [List.mem_cons, List.not_mem_nil, or_false] at h2
  rcases h2 with rfl | rfl | rfl | rfl | rfl | rfl | rfl | rfl | rfl | rfl | rfl | rfl | rfl | rfl | rfl | rfl <;> (unfold hexB; decide)
theorem isD_hex {t : ByteArray} (h : isD t = true) : ∀ c ∈ t.data.toList, hexB c := fun c hc => by
  unfold isD at h
  simp only [Bool.and_eq_true, List.all_eq_true] at h
  exact hexB_cut (h.2 c hc)
/-- the number that a digest stands for -/
def belowN (t : ByteArray) (n : Nat) : Nat := hexN (t.extract 0 15).data.toList % n
theorem ext15 (t : ByteArray) (h : t.size = 16) : (t.extract 0 15).size = 15 := by rw [ByteArray.size_extract]; omega
theorem ext15_mem {t : ByteArray} : ∀ c ∈ (t.extract 0 15).data.toList, c ∈ t.data.toList := fun c hc => by
  rw [ByteArray.data_extract] at hc
  simp only [Array.toList_extract] at hc
  have h : c ∈ List.take 15 t.data.toList := by simpa [List.extract] using hc
  exact List.mem_of_mem_take h
theorem belowN_lt (t : ByteArray) {n : Nat} (h : 0 < n) : belowN t n < n := Nat.mod_lt _ h
/-- the k-th position of a serial number -/
noncomputable def posN (serial : Int) (bits k : Nat) : Nat := belowN (listS [itoaS serial, itoaS (k : Int)]) bits
theorem posN_lt (serial : Int) {bits : Nat} (h : 0 < bits) (k : Nat) : posN serial bits k < bits := belowN_lt _ h
def encU (n : Nat) : List Value := [.int .u64 (n : Int)]
/-- a filter of 64 * q bits, h positions for each number -/
def encF (q h : Nat) (wv : Value) : List Value := [.int .i64 ((64 * q : Nat) : Int), .int .i64 (h : Int), wv]
/-- bit n is set -/
def setW (ws : List Nat) (n : Nat) : List Nat := ws.set (n / 64) (ws.getD (n / 64) 0 ||| (1 <<< (n % 64)))
/-- q words -/
structure WOk (q : Nat) (ws : List Nat) : Prop where
  len : ws.length = q
  lt : ∀ x ∈ ws, x < 18446744073709551616
theorem bit_lt (n : Nat) : 1 <<< (n % 64) < 18446744073709551616 := by
  rw [Nat.shiftLeft_eq, Nat.one_mul]
  exact Nat.lt_of_lt_of_le (Nat.pow_lt_pow_right (by decide) (Nat.mod_lt n (by decide))) (by decide)
theorem WOk.at {q : Nat} {ws : List Nat} (h : WOk q ws) {i : Nat} (hi : i < ws.length) : ws[i] < 18446744073709551616 := h.lt _ (List.getElem_mem hi)
theorem WOk.set {q : Nat} {ws : List Nat} (h : WOk q ws) {n : Nat} (hn : n < 64 * q) : WOk q (setW ws n) := by
  refine ⟨by unfold setW; rw [List.length_set]; exact h.len, fun x hx => ?_⟩
  unfold setW at hx
  rcases List.mem_or_eq_of_mem_set hx with h1 | h1
  · exact h.lt x h1
  · subst h1
    have hi : n / 64 < ws.length := by rw [h.len]; omega
    rw [List.getD_eq_getElem?_getD, List.getElem?_eq_getElem hi]
    exact Nat.or_lt_two_pow (n := 64) (h.at hi) (bit_lt n)
/-- the bits of a number's first k positions are set -/
noncomputable def setP (q : Nat) (ws : List Nat) (s : Int) : Nat → List Nat
  | 0 => ws
  | k + 1 => setW (setP q ws s k) (posN s (64 * q) k)
theorem WOk.setP {q : Nat} {ws : List Nat} (h : WOk q ws) (hq : 0 < q) (s : Int) : ∀ k, WOk q (setP q ws s k)
  | 0 => h
  | k + 1 => (h.setP hq s k).set (posN_lt s (by omega) k)
/-- the words of the filter of numbers -/
noncomputable def makeW (q h : Nat) (ns : List Int) : List Nat := ns.foldl (fun ws s => setP q ws s h) (List.replicate q 0)
theorem makeW_snoc (q h : Nat) (ns : List Int) (s : Int) : makeW q h (ns ++ [s]) = setP q (makeW q h ns) s h := by simp [makeW]
theorem zero_ok (q : Nat) : WOk q (List.replicate q 0) := ⟨by simp, fun x hx => by rw [List.eq_of_mem_replicate hx]; decide⟩
theorem makeW_ok {q : Nat} (hq : 0 < q) (h : Nat) (ns : List Int) : WOk q (makeW q h ns) := by
  suffices hh : ∀ (ns : List Int) (ws : List Nat), WOk q ws → WOk q (ns.foldl (fun ws s => setP q ws s h) ws) from hh ns _ (zero_ok q)
  intro ns
  induction ns with
  | nil => intro ws h; exact h
  | cons s ns ih => intro ws hw; exact ih _ (hw.setP hq s h)
end Go.Proofs.YtjdbggnhdeaflaaGreatDoor
end
section
namespace Go.Proofs.YtjdbggnhdeaflaaGreatDoor
open Go Go.Gw
set_option linter.unusedSimpArgs false
set_option linter.unusedVariables false
/-- bit n of the words -/
def bitW (ws : List Nat) (n : Nat) : Bool := (ws.getD (n / 64) 0).testBit (n % 64)
theorem bitW_at {ws : List Nat} {n : Nat} (h : n / 64 < ws.length) : bitW ws n = decide ((ws[n / 64] >>> (n % 64)) % 2 = 1) := by
  unfold bitW
  rw [List.getD_eq_getElem?_getD, List.getElem?_eq_getElem h, Option.getD_some, Nat.testBit_eq_decide_div_mod_eq, Nat.shiftRight_eq_div_pow]
noncomputable def hasF (q h : Nat) (ws : List Nat) (s : Int) : Bool := (List.range h).all fun k => bitW ws (posN s (64 * q) k)
theorem bitW_zero (q m : Nat) : bitW (List.replicate q 0) m = false := by
  unfold bitW
  have : (List.replicate q 0).getD (m / 64) 0 = 0 := by
    rw [List.getD_eq_getElem?_getD, List.getElem?_replicate]; split <;> rfl
  rw [this, Nat.zero_testBit]
/-- an empty filter has nothing -/
theorem has_nil (q : Nat) {h : Nat} (hh : 0 < h) (s : Int) : hasF q h (makeW q h []) s = false := by
  unfold hasF
  rw [List.all_eq_false]
  exact ⟨0, by simpa using hh, by rw [show makeW q h [] = List.replicate q 0 from rfl, bitW_zero]; simp⟩
end Go.Proofs.YtjdbggnhdeaflaaGreatDoor
end
section
namespace Go.Gw
set_option linter.unusedVariables false
set_option linter.unusedSimpArgs false
set_option linter.unusedSectionVars false
section
variable {κ β : Type} [DecidableEq κ]
theorem memLookup {k : κ} {v : β} : ∀ {ps : List (κ × β)}, (ps.map (·.1)).Nodup → (k, v) ∈ ps → ps.lookup k = some v
  | [], _, h => by simp at h
  | (x, y) :: ps, hn, h0 => by
    rw [List.map_cons, List.nodup_cons] at hn
    rcases List.mem_cons.1 h0 with h | h
    · obtain ⟨rfl, rfl⟩ := Prod.mk.inj h; simp [List.lookup]
    · have hk : k ≠ x := fun e => hn.1 (e ▸ List.mem_map.2 ⟨(k, v), h, rfl⟩)
      simp only [List.lookup, beq_eq_false_iff_ne.2 hk]
      exact memLookup hn.2 h
theorem lookupMem {k : κ} {v : β} : ∀ {ps : List (κ × β)}, ps.lookup k = some v → (k, v) ∈ ps
  | [], h => by simp at h
  | (x, y) :: ps, h => by
    by_cases hk : k = x
    · subst hk; simp [List.lookup] at h; subst h; simp
    · simp only [List.lookup, beq_eq_false_iff_ne.2 hk] at h
      exact List.mem_cons_of_mem _ (lookupMem h)
/-- map b, walked by the iterator in block r: 'done' has been handed out, 'left' entries are to come -/
structure IsIt (w : World) (r b : Nat) (kenc : κ → Value) (enc : β → Value) (m : κ → Option β) (done : List (κ × β)) (left : Nat) : Prop where
  ok : ∃ (es : Array MapEntry) (clock : Nat) (ps : List (κ × β)) (seen : Array Nat), w.heap[b]? = some (.map es clock) ∧ w.heap[r]? = some (.mapIter (some b) clock seen clock) ∧ MapRep es kenc enc ps ∧ (ps.map (·.1)).Nodup ∧ (∀ k, m k = ps.lookup k) ∧ Borns es clock ∧
    (leftOf es seen).size = left ∧ (∀ (j : Nat) (e : MapEntry) (p : κ × β), es.toList[j]? = some e → ps[j]? = some p → (e.born ∈ seen.toList ↔ p ∈ done)) ∧ (done.map (·.1)).Nodup ∧ (∀ p ∈ done, p ∈ ps) ∧
    (∀ (d : List (κ × β)) (p : κ × β), done = d ++ [p] → ∃ (j : Nat) (e : MapEntry) (s : Array Nat), es.toList[j]? = some e ∧ ps[j]? = some p ∧ seen = s.push e.born)
def ItA (r b : Nat) (kenc : κ → Value) (enc : β → Value) (m : κ → Option β) (done : List (κ × β)) (left : Nat) : Atom where
  own := true
  fp := fun q => q = r ∨ q = b
  ok := fun w => IsIt w r b kenc enc m done left
  loc := fun w w' h hok => ⟨by obtain ⟨es, c, ps, seen, h1, h2, h3⟩ := hok.ok; exact ⟨es, c, ps, seen, (h b (.inr rfl)).trans h1, (h r (.inl rfl)).trans h2, h3⟩⟩
  lt := fun w k hok hk => by
    obtain ⟨es, c, ps, seen, h1, h2, _⟩ := hok.ok
    rcases hk with rfl | rfl
    · exact (Array.getElem?_eq_some_iff.1 h2).1
    · exact (Array.getElem?_eq_some_iff.1 h1).1
variable {P : Program} {o : Oper} {n : Sz} {fl : Slots} {a : Act} {w w0 : World} {v : Value} {M : Nat → Prop} {l : List Atom} {ops : Array Oper} {d : Nat} {K : Act → World → Prop}
variable {r b : Nat} {kenc : κ → Value} {enc : β → Value} {m : κ → Option β} {done : List (κ × β)} {left : Nat}
theorem HSat.it (H : HSat M w0 (ItA r b kenc enc m done left :: l) w) : IsIt w r b kenc enc m done left := H.ok (ItA r b kenc enc m done left) (List.mem_cons_self ..)
theorem IsIt.sub (h : IsIt w r b kenc enc m done left) {k : κ} {v : β} (hp : (k, v) ∈ done) : m k = some v := by
  obtain ⟨es, c, ps, seen, h1, h2, h3, h4, h5, h6, h7, h8, h9, h10, h11⟩ := h.ok
  rw [h5]; exact memLookup h4 (h10 _ hp)
theorem MapRep.at {es : Array MapEntry} {ps : List (κ × β)} (h : MapRep es kenc enc ps) {j : Nat} {e : MapEntry} (he : es.toList[j]? = some e) : ∃ p, ps[j]? = some p ∧ e.key = kenc p.1 ∧ e.val = enc p.2 := by
  have h2 := congrArg (fun q => q[j]?) h
  simp only [List.getElem?_map, he, Option.map_some] at h2
  cases hp : ps[j]? with
  | none => simp [hp] at h2
  | some p => simp [hp] at h2; exact ⟨p, rfl, h2.1, h2.2⟩
theorem MapRep.at' {es : Array MapEntry} {ps : List (κ × β)} (h : MapRep es kenc enc ps) {j : Nat} {p : κ × β} (he : ps[j]? = some p) : ∃ e, es.toList[j]? = some e ∧ e.key = kenc p.1 ∧ e.val = enc p.2 := by
  have h2 := congrArg (fun q => q[j]?) h
  simp only [List.getElem?_map, he, Option.map_some] at h2
  cases hp : es.toList[j]? with
  | none => simp [hp] at h2
  | some e => simp [hp] at h2; exact ⟨e, rfl, h2.1, h2.2⟩
theorem IsIt.all (h : IsIt w r b kenc enc m done left) (h0 : left = 0) {k : κ} {v : β} (hm : m k = some v) : (k, v) ∈ done := by
  obtain ⟨es, c, ps, seen, h1, h2, h3, h4, h5, h6, h7, h8, h9, h10, h11⟩ := h.ok
  rw [h5] at hm
  obtain ⟨j, hj⟩ := List.mem_iff_getElem?.1 (lookupMem hm)
  obtain ⟨e, he, _⟩ := h3.at' hj
  refine (h8 j e _ he hj).1 ?_
  have hz : leftOf es seen = #[] := Array.eq_empty_of_size_eq_zero (by omega)
  unfold leftOf at hz
  have hmem : e ∈ es := by
    have := List.mem_of_getElem? he
    exact Array.mem_def.2 this
  have := (Array.filter_eq_empty_iff.1 hz) e hmem
  simpa using this
end
end Go.Gw
end
section
namespace Go.Gw
set_option linter.unusedVariables false
set_option linter.unusedSimpArgs false
/-- m without k -/
def delK {κ β : Type} [DecidableEq κ] (m : κ → Option β) (k : κ) : κ → Option β := fun x => if x = k then none else m x
section
variable {κ β : Type} [DecidableEq κ]
theorem lookup_erase (k : κ) : ∀ (ps : List (κ × β)) (i j : Nat) (u0 : β), idxIn k ps i = some (j, u0) → (ps.map (·.1)).Nodup → ∀ x, (ps.eraseIdx (j - i)).lookup x = if x = k then none else ps.lookup x
  | [], _, _, _, h, _, _ => by cases h
  | (q, v) :: r, i, j, u0, h, hn, x => by
    have hn' := List.nodup_cons.1 hn
    simp only [idxIn] at h
    by_cases hk : k = q
    · subst hk
      simp only [↓reduceIte, Option.some.injEq, Prod.mk.injEq] at h
      obtain ⟨rfl, _⟩ := h
      rw [Nat.sub_self, List.eraseIdx_cons_zero]
      by_cases hx : x = k
      · subst hx
        rw [if_pos rfl]
        cases hl : r.lookup x with
        | none => rfl
        | some u =>
          exfalso
          apply hn'.1
          have : (r.lookup x).isSome = true := by rw [hl]; rfl
          clear hl hn hn'
          induction r with
          | nil => simp at this
          | cons p r ih =>
            obtain ⟨c, d⟩ := p
            by_cases hc : x = c
            · subst hc; simp
            · have hb : (x == c) = false := by simp [hc]
              simp only [List.lookup, hb] at this
              simp only [List.map_cons, List.mem_cons]
              exact .inr (ih this)
      · have hb : (x == k) = false := by simp [hx]
        simp [List.lookup, hb, hx]
    · rw [if_neg hk] at h
      have hle := idxIn_at k r (i + 1) j u0 h
      have hji : j - i = (j - (i + 1)) + 1 := by omega
      rw [hji, List.eraseIdx_cons_succ]
      have ih := lookup_erase k r (i + 1) j u0 h hn'.2 x
      by_cases hx : x = q
      · subst hx
        have : ¬ x = k := fun e => hk e.symm
        simp [List.lookup, this]
      · have hb : (x == q) = false := by simp [hx]
        simp only [List.lookup, hb]
        exact ih
theorem map_erase {α γ : Type} (f : α → γ) : ∀ (xs : List α) (j : Nat), (xs.eraseIdx j).map f = (xs.map f).eraseIdx j
  | [], _ => by simp
  | x :: xs, 0 => by simp
  | x :: xs, j + 1 => by simp [map_erase f xs j]
theorem eraseIdx_toList {α : Type} (es : Array α) {j : Nat} (h : j < es.size) : (es.eraseIdxIfInBounds j).toList = es.toList.eraseIdx j := by
  unfold Array.eraseIdxIfInBounds
  rw [dif_pos h, Array.toList_eraseIdx]
theorem Borns.erase {es : Array MapEntry} {clock : Nat} (h : Borns es clock) {j : Nat} (hj : j < es.size) : Borns (es.eraseIdxIfInBounds j) clock := by
  have e := eraseIdx_toList es hj
  refine ⟨fun x hx => h.1 x ?_, ?_⟩
  · rw [e] at hx; exact List.mem_of_mem_eraseIdx hx
  · rw [e]; exact h.2.sublist ((List.eraseIdx_sublist _ _).map _)
variable {P : Program} {ops : Array Oper} {K : Act → World → Prop} {o : Oper} {n : Sz} {fl : Slots} {a : Act} {w w0 : World} {M : Nat → Prop} {l : List Atom}
theorem op_deleteM {κ β : Type} [inst : DecidableEq κ] {T kt et kt' : TypeId} {x ix : Operand} {b : Nat} {kenc : κ → Value} {enc : β → Value} {m : κ → Option β} {c : Nat} {l' : Atom → List Atom} (k : κ) (hw : Region.wanted o (yielded ops a.tmps) = true) (hd : o.dst = none) (ho : o.op = .call { callee := .builtin .delete, args := #[x, ix], argTypes := #[T, kt'] }) (hT : P.underlying T = some (.map kt et)) (S : St n fl a) (H : HSat M w0 l w)
    (hx : ev fl x = some (.map (some b))) [h : HasMap l b κ β inst kenc enc m c l'] (KO : KeyOK P kt kenc) (hi : ev fl ix = some (kenc k))
    (kk : ∀ a' w', St n fl a' → HSat M w0 (l' (MapA b kenc enc (delK m k) (if (m k).isSome = true then c - 1 else c))) w' → K a' w') : opw P ops o a w K := by
  obtain ⟨l1, l2, e1, e2⟩ := h.at_
  have hm : IsMap w b kenc enc m c := H.ok (MapA b kenc enc m c) (by rw [e1]; simp)
  obtain ⟨es, clock, ps, h1, h2, h3, h4, h5, h6⟩ := hm.ok
  have hf := run_findKey (P := P) KO k h2 w
  have hl := idxIn_lookup k ps 0
  have hg : (getObj b).run P w = .ok (.map es clock) w := by simp [getObj, Sem.run, h1]
  have hblt : b < w.heap.size := (Array.getElem?_eq_some_iff.1 h1).1
  have fin : ∀ (es' : Array MapEntry) (ps' : List (κ × β)) (c' : Nat), (execOp a.eval o).run P w = .ok (.value (.tuple #[])) (setBlk w b (.map es' clock)) → MapRep es' kenc enc ps' → (ps'.map (·.1)).Nodup → (∀ x, delK m k x = ps'.lookup x) → ps'.length = c' → c' = (if (m k).isSome = true then c - 1 else c) → Borns es' clock → opw P ops o a w K := fun es' ps' c' hrun r1 r2 r3 r4 r5 r6 => by
    refine opw_val hw hrun ?_
    rw [hd]
    refine kk _ _ (S.putNone _) ?_
    rw [e2]
    rw [e1] at H
    have hnew : (setBlk w b (.map es' clock)).heap[b]? = some (.map es' clock) := by simp [setBlk, hblt]
    have hoth : ∀ q, q ≠ b → (setBlk w b (.map es' clock)).heap[q]? = w.heap[q]? := fun q hq => by simp [setBlk, Array.getElem?_setIfInBounds_ne (Ne.symm hq)]
    refine HSat.swap H rfl rfl ⟨rfl, rfl, rfl, by simp [setBlk], fun q _ hq => hoth q hq, fun q _ hq => ?_⟩ ⟨⟨es', clock, ps', hnew, r1, r2, r3, by rw [r4, r5], r6⟩⟩ (fun q hq => .inl hq)
    by_cases hqb : q = b
    · subst hqb; rw [hnew]; trivial
    · rw [hoth q hqb]; exact hq
  have hset : ∀ (es' : Array MapEntry) (clock' : Nat), (setObj b (.map es' clock')).run P w = .ok () (setBlk w b (.map es' clock')) := fun es' clock' => by simp [setObj, Sem.run, h1, setBlk]
  cases hidx : idxIn k ps 0 with
  | none =>
    rw [hidx] at hf hl
    simp only [Option.map_none] at hf hl
    refine fin es ps c ?_ h2 h3 (fun x => ?_) h5 (by rw [h4 k, ← hl]; rfl) h6
    · unfold execOp; rw [ho]
      simp [resolve, invoke, builtin, S.ev hx, S.ev hi, Builtin.delete_, run_underlying hT, hg, KO.check, hf, hset]
    · unfold delK
      by_cases hxk : x = k
      · subst hxk; rw [if_pos rfl, ← hl]
      · rw [if_neg hxk, h4 x]
  | some q =>
    obtain ⟨j, u0⟩ := q
    have hat := idxIn_at k ps 0 j u0 hidx
    rw [hidx] at hf hl
    simp only [Option.map_some] at hf hl
    have hj : ps[j]? = some (k, u0) := by simpa using hat.2
    have hjp : j < ps.length := (List.getElem?_eq_some_iff.1 hj).1
    have hlen : es.size = ps.length := by have := congrArg List.length h2; simpa using this
    have hje : j < es.size := by omega
    refine fin (es.eraseIdxIfInBounds j) (ps.eraseIdx j) (c - 1) ?_ ?_ ?_ (fun x => ?_) ?_ (by rw [h4 k, ← hl]; rfl) (h6.erase hje)
    · unfold execOp; rw [ho]
      simp [resolve, invoke, builtin, S.ev hx, S.ev hi, Builtin.delete_, run_underlying hT, hg, KO.check, hf, hset]
    · unfold MapRep at h2 ⊢
      rw [eraseIdx_toList es hje, map_erase, h2, map_erase]
    · rw [map_erase]; exact h3.sublist (List.eraseIdx_sublist _ _)
    · have := lookup_erase k ps 0 j u0 hidx h3 x
      rw [Nat.sub_zero] at this
      rw [this]; unfold delK; rw [h4 x]
    · rw [List.length_eraseIdx]; split <;> omega
end
end Go.Gw
end
section
namespace Go.Proofs.YtjdbggnhdeaflaaGreatDoor
open Go Go.Gw
set_option linter.unusedSimpArgs false
set_option linter.unusedVariables false
/-- a scan -/
structure SV where
  gate : Int
  number : Int
  time : Int
  serial : Int
  kind : Int
  owner : ByteArray
deriving DecidableEq
def encSV (s : SV) : List Value := [.int .i64 s.gate, .int .i64 s.number, .int .i64 s.time, .int .i64 s.serial, .int .i64 s.kind, .string s.owner]
def SV.z : SV := ⟨0, 0, 0, 0, 0, ⟨#[]⟩⟩
/-- a gate; its filter has q words, h positions for each number -/
structure GSt where
  id : Int
  stale : Int
  now : Int
  synced : Bool
  since : Int
  bits : Int
  hs : Int
  ws : List Nat
  ins : Int → Option ByteArray
  log : List SV
def GSt.new (id stale : Int) : GSt := ⟨id, stale, 0, false, 0, 0, 0, [], fun _ => none, []⟩
def GSt.write (g : GSt) (kind serial : Int) (owner : ByteArray) (now : Int) : GSt := { g with now := now, log := g.log ++ [⟨g.id, (g.log.length : Int) + 1, now, serial, kind, owner⟩] }
def GSt.sync (g : GSt) (q h : Nat) (ws : List Nat) (now : Int) : GSt := { g with now := now, since := now, synced := true, bits := ((64 * q : Nat) : Int), hs := (h : Int), ws := ws }
noncomputable def GSt.scan (g : GSt) (q h : Nat) (serial : Int) (first : ByteArray) (now : Int) : GSt :=
  if g.synced = false ∨ now - g.since > g.stale then g
  else if (g.ins serial).isSome = true ∨ hasF q h g.ws serial = true then g.write 3 serial first now
  else ({ g with ins := upd g.ins serial first }).write 1 serial first now
def GSt.leave (g : GSt) (serial now : Int) : GSt := match g.ins serial with
  | none => g
  | some o => ({ g with ins := delK g.ins serial }).write 2 serial o now
noncomputable def GSt.scanR (g : GSt) (q h : Nat) (serial t : Int) : Int × Int :=
  if g.synced = false ∨ t - g.since > g.stale then (0, 26)
  else if (g.ins serial).isSome = true ∨ hasF q h g.ws serial = true then (3, 0) else (1, 0)
def GSt.leaveR (g : GSt) (serial : Int) : Int := if (g.ins serial).isSome = true then 0 else 11
/-- one scan of the law: a number below 256 -/
noncomputable def stepW (key : ByteArray) (p : GSt × Int) (c : Nat) : GSt × Int :=
  let t := p.2 + ((c / 8 : Nat) : Int)
  let s := 10001 + ((c % 4 : Nat) : Int)
  if 5 ≤ c % 8 then (p.1.leave s t, t) else (p.1.scan 2 2 s key t, t)
noncomputable def playW (key : ByteArray) (ws : List Nat) (l : List Nat) : GSt × Int := l.foldl (stepW key) (((GSt.new 1 1000).sync 2 2 ws 0), 0)
theorem playW_snoc (key : ByteArray) (ws : List Nat) (l : List Nat) (c : Nat) : playW key ws (l ++ [c]) = stepW key (playW key ws l) c := by simp [playW]
def bare (s : SV) : SV := { s with owner := ⟨#[]⟩ }
/-- two gates differ in owners' keys alone -/
structure Alike (x y : GSt × Int) (n : Nat) : Prop where
  now : x.2 = y.2
  t : 0 ≤ x.2 ∧ x.2 ≤ 32 * (n : Int)
  gnow : x.1.now = y.1.now ∧ 0 ≤ x.1.now ∧ x.1.now ≤ x.2
  id : x.1.id = y.1.id
  stale : x.1.stale = 1000 ∧ y.1.stale = 1000
  sy : x.1.synced = true ∧ y.1.synced = true
  since : x.1.since = 0 ∧ y.1.since = 0
  f1 : x.1.bits = 128 ∧ y.1.bits = 128 ∧ x.1.hs = 2 ∧ y.1.hs = 2
  ws : x.1.ws = y.1.ws
  ins : ∀ s, (x.1.ins s).isSome = (y.1.ins s).isSome
  insD : ∀ s o, (x.1.ins s = some o ∨ y.1.ins s = some o) → isD o = true
  log : x.1.log.map bare = y.1.log.map bare
  logD : ∀ s ∈ x.1.log ++ y.1.log, isD s.owner = true
  len : x.1.log.length ≤ n
theorem Alike.llen {x y : GSt × Int} {n : Nat} (h : Alike x y n) : x.1.log.length = y.1.log.length := by
  have := congrArg List.length h.log; simpa using this
theorem Alike.write {x y : GSt × Int} {n : Nat} (h : Alike x y n) (kind serial : Int) (o1 o2 : ByteArray) (ix iy : Int → Option ByteArray) (t : Int) (ht : x.2 ≤ t ∧ t ≤ 32 * ((n + 1 : Nat) : Int)) (ho : isD o1 = true ∧ isD o2 = true)
    (hi : ∀ s, (ix s).isSome = (iy s).isSome) (hid : ∀ s o, (ix s = some o ∨ iy s = some o) → isD o = true) :
    Alike ((({ x.1 with ins := ix } : GSt).write kind serial o1 t), t) ((({ y.1 with ins := iy } : GSt).write kind serial o2 t), t) (n + 1) := by
  have h1 := h.t
  have h2 := h.gnow
  refine ⟨rfl, by dsimp only; omega, ⟨rfl, by show 0 ≤ t; omega, Int.le_refl _⟩, h.id, h.stale, h.sy, h.since, h.f1, h.ws, hi, hid, ?_, ?_, ?_⟩
  · show (x.1.log ++ [_]).map bare = (y.1.log ++ [_]).map bare
    rw [List.map_append, List.map_append, h.log]
    congr 1
    simp only [List.map_cons, List.map_nil, bare, h.id, h.llen]
  · intro s hs
    rcases List.mem_append.1 hs with hs | hs
    · rcases List.mem_append.1 (show s ∈ x.1.log ++ [_] from hs) with hs | hs
      · exact h.logD s (List.mem_append_left _ hs)
      · rw [List.mem_singleton.1 hs]; exact ho.1
    · rcases List.mem_append.1 (show s ∈ y.1.log ++ [_] from hs) with hs | hs
      · exact h.logD s (List.mem_append_right _ hs)
      · rw [List.mem_singleton.1 hs]; exact ho.2
  · show (x.1.log ++ [_]).length ≤ n + 1
    have := h.len; simp; omega
theorem Alike.later {x y : GSt × Int} {n : Nat} (h : Alike x y n) (t : Int) (ht : x.2 ≤ t ∧ t ≤ 32 * ((n + 1 : Nat) : Int)) : Alike (x.1, t) (y.1, t) (n + 1) := by
  have h1 := h.t
  have h2 := h.gnow
  exact ⟨rfl, by dsimp only; omega, ⟨h.gnow.1, h.gnow.2.1, by show x.1.now ≤ t; omega⟩, h.id, h.stale, h.sy, h.since, h.f1, h.ws, h.ins, h.insD, h.log, h.logD, by have := h.len; show x.1.log.length ≤ n + 1; omega⟩
theorem Alike.scanR {x y : GSt × Int} {n : Nat} (h : Alike x y n) (q p : Nat) (s t : Int) : x.1.scanR q p s t = y.1.scanR q p s t := by
  unfold GSt.scanR
  rw [h.sy.1, h.sy.2, h.since.1, h.since.2, h.stale.1, h.stale.2, h.ws, h.ins s]
theorem Alike.leaveR {x y : GSt × Int} {n : Nat} (h : Alike x y n) (s : Int) : x.1.leaveR s = y.1.leaveR s := by
  unfold GSt.leaveR; rw [h.ins s]
theorem Alike.step {x y : GSt × Int} {n : Nat} (h : Alike x y n) {k1 k2 : ByteArray} (hk : isD k1 = true ∧ isD k2 = true) {c : Nat} (hc : c < 256) : Alike (stepW k1 x c) (stepW k2 y c) (n + 1) := by
  have h1 := h.t
  obtain ⟨t, ht⟩ : ∃ t, t = x.2 + ((c / 8 : Nat) : Int) := ⟨_, rfl⟩
  have ht2 : x.2 ≤ t ∧ t ≤ 32 * ((n + 1 : Nat) : Int) := by omega
  obtain ⟨s, hs⟩ : ∃ s, s = 10001 + ((c % 4 : Nat) : Int) := ⟨_, rfl⟩
  unfold stepW
  rw [← h.now, ← ht, ← hs]
  dsimp only
  by_cases h5 : 5 ≤ c % 8
  · rw [if_pos h5, if_pos h5]
    unfold GSt.leave
    have hi := h.ins s
    cases hx : x.1.ins s with
    | none =>
      rw [hx] at hi
      cases hy : y.1.ins s with
      | none => exact h.later t ht2
      | some o => rw [hy] at hi; cases hi
    | some o =>
      rw [hx] at hi
      cases hy : y.1.ins s with
      | none => rw [hy] at hi; cases hi
      | some o2 =>
        refine h.write 2 s o o2 (delK x.1.ins s) (delK y.1.ins s) t ht2 ⟨h.insD s o (.inl hx), h.insD s o2 (.inr hy)⟩ (fun r => ?_) (fun r p hp => ?_)
        · unfold delK; split; rfl; exact h.ins r
        · unfold delK at hp
          split at hp
          · rcases hp with hp | hp <;> cases hp
          · exact h.insD r p hp
  · rw [if_neg h5, if_neg h5]
    unfold GSt.scan
    have c1 : (y.1.synced = false ∨ t - y.1.since > y.1.stale) ↔ (x.1.synced = false ∨ t - x.1.since > x.1.stale) := by rw [h.sy.1, h.sy.2, h.since.1, h.since.2, h.stale.1, h.stale.2]
    have c2 : ((y.1.ins s).isSome = true ∨ hasF 2 2 y.1.ws s = true) ↔ ((x.1.ins s).isSome = true ∨ hasF 2 2 x.1.ws s = true) := by rw [h.ws, h.ins s]
    by_cases b1 : x.1.synced = false ∨ t - x.1.since > x.1.stale
    · rw [if_pos b1, if_pos (c1.2 b1)]; exact h.later t ht2
    · rw [if_neg b1, if_neg (fun b => b1 (c1.1 b))]
      by_cases b2 : (x.1.ins s).isSome = true ∨ hasF 2 2 x.1.ws s = true
      · rw [if_pos b2, if_pos (c2.2 b2)]
        exact h.write 3 s k1 k2 x.1.ins y.1.ins t ht2 hk h.ins h.insD
      · rw [if_neg b2, if_neg (fun b => b2 (c2.1 b))]
        refine h.write 1 s k1 k2 (upd x.1.ins s k1) (upd y.1.ins s k2) t ht2 hk (fun r => ?_) (fun r p hp => ?_)
        · unfold upd; split; rfl; exact h.ins r
        · unfold upd at hp
          split at hp
          · rcases hp with hp | hp <;> (cases hp; first | exact hk.1 | exact hk.2)
          · exact h.insD r p hp
theorem Alike.start (k1 k2 : ByteArray) (ws : List Nat) : Alike (playW k1 ws []) (playW k2 ws []) 0 := by
  refine ⟨rfl, ⟨Int.le_refl _, by show (0 : Int) ≤ _; omega⟩, ⟨rfl, Int.le_refl _, Int.le_refl _⟩, rfl, ⟨rfl, rfl⟩, ⟨rfl, rfl⟩, ⟨rfl, rfl⟩, ⟨rfl, rfl, rfl, rfl⟩, rfl, fun _ => rfl, fun s o h => ?_, rfl, fun s hs => ?_, Nat.le_refl _⟩
  · rcases h with h | h <;> cases h
  · simp [playW, GSt.new, GSt.sync] at hs
theorem playW_alike {k1 k2 : ByteArray} (hk : isD k1 = true ∧ isD k2 = true) (ws : List Nat) : ∀ (n : Nat) (l : List Nat), l.length = n → (∀ c ∈ l, c < 256) → Alike (playW k1 ws l) (playW k2 ws l) n
  | 0, l, hl, _ => by
    have : l = [] := List.eq_nil_of_length_eq_zero hl
    subst this; exact Alike.start k1 k2 ws
  | n + 1, l, hl, h => by
    rcases List.eq_nil_or_concat l with rfl | ⟨l', c, rfl⟩
    · simp at hl
    · rw [List.concat_eq_append] at hl h ⊢
      rw [playW_snoc, playW_snoc]
      exact (playW_alike hk ws n l' (by simpa using hl) (fun x hx => h x (by simp [hx]))).step hk (h c (by simp))
end Go.Proofs.YtjdbggnhdeaflaaGreatDoor
end
section
namespace Go.Proofs.YtjdbggnhdeaflaaGreatDoor
open Go Go.Gw
set_option linter.unusedVariables false
set_option linter.unusedSimpArgs false
theorem lower_spec (c : Nat) (h : 97 ≤ c ∧ c ≤ 102) (w : World) : Ret Tryz.prog 136 #[.int .u8 (c : Int)] w (fun u w' => u = .int .u8 (c : Int) ∧ Ext w w') := by
  refine Calls.mono (Tryz.internal_strconv_lower c w) fun e w' ⟨h1, h2⟩ => ⟨_, h1, ?_, h2 ▸ Ext.refl w⟩
  have hc : c = 97 ∨ c = 98 ∨ c = 99 ∨ c = 100 ∨ c = 101 ∨ c = 102 := by omega
  rcases hc with rfl | rfl | rfl | rfl | rfl | rfl <;> rfl
section
variable {P : Program} {o : Oper} {n : Sz} {fl : Slots} {a : Act} {w : World}
theorem y_shlX {T U : TypeId} {x y : Operand} {k2 : IntKind} {m q : Nat} {r : Int} (ho : o.op = .binOp .shl T x y U) (S : St n fl a) (hx : ev fl x = some (.int .u64 (m : Int))) (hy : ev fl y = some (.int k2 (q : Int))) (hq : q ≤ 64) (hr : IntKind.u64.wrap ((m : Int) * 2 ^ q) = r) : Yld P o a w (.int .u64 r) := by
  unfold Yld execOp; rw [ho]; simp only [S.ev hx, S.ev hy]
  have e : min (q : Int).toNat IntKind.u64.bits = q := by
    show min (q : Int).toNat 64 = q
    omega
  simp [eqGuard, binOp, Op.shift, e, hr]
/-- sums, differences, products whose value is known -/
theorem y_binW {op : BinOp} {T U : TypeId} {x y : Operand} {k : IntKind} {m q r : Int} (ho : o.op = .binOp op T x y U) (S : St n fl a) (hx : ev fl x = some (.int k m)) (hy : ev fl y = some (.int k q)) (hv : intOp op k m q = some (.int k r)) : Yld P o a w (.int k r) := y_bin ho S hx hy hv
end
theorem wr8 {m q : Int} {r : Int} (h : m - q = r) (h2 : 0 ≤ r ∧ r < 256) : intOp .sub .u8 m q = some (.int .u8 r) := by
  show some (Value.int .u8 (IntKind.u8.wrap (m - q))) = _
  rw [h]; congr 2
  simp [IntKind.wrap, IntKind.bits, IntKind.signed]; omega
theorem wr8a {m q : Int} {r : Int} (h : m + q = r) (h2 : 0 ≤ r ∧ r < 256) : intOp .add .u8 m q = some (.int .u8 r) := by
  show some (Value.int .u8 (IntKind.u8.wrap (m + q))) = _
  rw [h]; congr 2
  simp [IntKind.wrap, IntKind.bits, IntKind.signed]; omega
theorem wr64m {m q : Int} {r : Int} (h : m * q = r) (h2 : 0 ≤ r ∧ r < 18446744073709551616) : intOp .mul .u64 m q = some (.int .u64 r) := by
  show some (Value.int .u64 (IntKind.u64.wrap (m * q))) = _
  rw [h]; congr 2
  simp [IntKind.wrap, IntKind.bits, IntKind.signed]; omega
theorem wr64a {m q : Int} {r : Int} (h : m + q = r) (h2 : 0 ≤ r ∧ r < 18446744073709551616) : intOp .add .u64 m q = some (.int .u64 r) := by
  show some (Value.int .u64 (IntKind.u64.wrap (m + q))) = _
  rw [h]; congr 2
  simp [IntKind.wrap, IntKind.bits, IntKind.signed]; omega
set_option maxHeartbeats 2000000 in
/-- internal/strconv.ParseUint -/
theorem puint_spec (t : ByteArray) (w0 : World) (hs : 0 < t.size ∧ t.size ≤ 15) (hh : ∀ c ∈ t.data.toList, hexB c) :
    Ret Tryz.prog 121 #[.string t, .int .i64 16, .int .i64 64] w0 (fun u w => u = .tuple #[.int .u64 ((hexN t.data.toList : Nat) : Int), .nilIface] ∧ Ext w0 w) := by
 refine ret_of_wp (nt := 172) Tryz.func121 rfl rfl rfl (fl := [(0, .string t), (1, .int .i64 16), (2, .int .i64 64)]) rfl (fun a S => ?_)
 have H := HSat.start w0
 have hlt : t.data.toList.length = t.size := Array.length_toList
 refine gsr ?_
 refine ga S fun a S => ?_
 refine ga S fun a S => ?_
 refine gnt ?_
 refine g_seq ?_
 refine gsr ?_
 refine gm S fun a S => ?_
 refine gy rfl rfl rfl S (y_eqs rfl Tryz.underlying9 S rfl rfl) fun a S => ?_
 refine gnt ?_
 refine c_if S rfl (fun h1 => ?_) (fun h1 => ?_)
 ·have h1p := h1; try simp only [DL] at h1p
  all_goals (
    exfalso
    have h := h1p
    rw [h] at hs
    exact absurd hs.1 (by decide))
 ·have h1p := h1; try simp only [DL] at h1p
  refine g_skip ?_
  refine n_then ?_
  refine gsr ?_
  refine gm S fun a S => ?_
  refine gy rfl rfl rfl S (y_bin rfl S rfl rfl rfl) fun a S => ?_
  refine ga S fun a S => ?_
  refine gnt ?_
  have S := (((((S.nil.cons S 2 rfl).cons S 1 rfl).cons S 0 rfl).cons S 6 rfl).cons S 7 rfl).cons S 8 rfl
  refine gsr ?_
  refine gm S fun a S => ?_
  refine ga S fun a S => ?_
  refine gnt ?_
  refine g_seq ?_
  refine g_block ?_
  refine gsr ?_
  refine gm S fun a S => ?_
  refine gy rfl rfl rfl S (y_bin rfl S rfl rfl rfl) fun a S => ?_
  refine gm S fun a S => ?_
  refine gz 28 rfl S rfl rfl rfl rfl rfl rfl (y_move rfl S rfl) fun a S => ?_
  refine gz 28 rfl S rfl rfl rfl rfl rfl rfl (y_bin rfl S rfl rfl rfl) fun a S => ?_
  refine gy rfl rfl rfl S (y_and' rfl rfl S rfl rfl) fun a S => ?_
  refine ga S fun a S => ?_
  refine gnt ?_
  have S := (((((((S.nil.cons S 2 rfl).cons S 1 rfl).cons S 0 rfl).cons S 6 rfl).cons S 7 rfl).cons S 8 rfl).cons S 9 rfl).cons S 25 rfl
  refine c_if S rfl (fun h3 => ?_) (fun h3 => ?_)
  ·have h3p := h3; try simp only [DL] at h3p
   refine g_skip ?_
   refine n_block ?_
   refine n_then ?_
   refine g_seq ?_
   refine gsr ?_
   refine gm S fun a S => ?_
   refine gy rfl rfl rfl S (y_bin rfl S rfl rfl rfl) fun a S => ?_
   refine gnt ?_
   refine c_if S rfl (fun h4 => ?_) (fun h4 => ?_)
   ·have h4p := h4; try simp only [DL] at h4p
    all_goals (
      exact absurd h4 (by simp))
   ·have h4p := h4; try simp only [DL] at h4p
    refine gsr ?_
    refine gm S fun a S => ?_
    refine gy rfl rfl rfl S (y_bin rfl S rfl rfl rfl) fun a S => ?_
    refine gm S fun a S => ?_
    refine gz 80 rfl S rfl rfl rfl rfl rfl rfl (y_move rfl S rfl) fun a S => ?_
    refine gz 80 rfl S rfl rfl rfl rfl rfl rfl (y_bin rfl S rfl rfl rfl) fun a S => ?_
    refine gy rfl rfl rfl S (y_or' rfl rfl S rfl rfl) fun a S => ?_
    refine gnt ?_
    have S := (((((((S.nil.cons S 2 rfl).cons S 1 rfl).cons S 0 rfl).cons S 6 rfl).cons S 7 rfl).cons S 8 rfl).cons S 9 rfl).cons S 83 rfl
    refine c_if S rfl (fun h6 => ?_) (fun h6 => ?_)
    ·have h6p := h6; try simp only [DL] at h6p
     all_goals (
       exact absurd h6 (by simp))
    ·have h6p := h6; try simp only [DL] at h6p
     refine g_skip ?_
     refine n_then ?_
     refine gsr ?_
     refine ga S fun a S => ?_
     refine gnt ?_
     refine g_seq ?_
     refine gsr ?_
     refine gm S fun a S => ?_
     refine gnt ?_
     refine g_block ?_
     refine gsr ?_
     refine gy rfl rfl rfl S (y_bin rfl S rfl rfl rfl) fun a S => ?_
     refine ga S fun a S => ?_
     refine gnt ?_
     refine c_if S rfl (fun h7 => ?_) (fun h7 => ?_)
     ·have h7p := h7; try simp only [DL] at h7p
      all_goals (
        exact absurd h7 (by simp))
     ·have h7p := h7; try simp only [DL] at h7p
      refine gsr ?_
      refine gy rfl rfl rfl S (y_bin rfl S rfl rfl rfl) fun a S => ?_
      refine ga S fun a S => ?_
      refine gnt ?_
      have S := ((((((((S.nil.cons S 2 rfl).cons S 1 rfl).cons S 0 rfl).cons S 6 rfl).cons S 7 rfl).cons S 8 rfl).cons S 9 rfl).cons S 10 rfl).cons S 92 rfl
      refine c_if S rfl (fun h8 => ?_) (fun h8 => ?_)
      ·have h8p := h8; try simp only [DL] at h8p
       refine g_region ?_
       refine ga S fun a S => ?_
       refine gl_nil ?_
       refine n_block ?_
       refine n_then ?_
       refine gsr ?_
       refine gm S fun a S => ?_
       refine gy rfl rfl rfl S (y_convg (r := 64) rfl Tryz.underlying3 Tryz.underlying138 S rfl (by rfl)) fun a S => ?_
       refine gy rfl rfl rfl S ((y_shlX (m := 1) (q := 64) (r := 0) rfl S rfl rfl (by decide) rfl)) fun a S => ?_
       refine gy rfl rfl rfl S ((y_binW (r := 18446744073709551615) rfl S rfl rfl rfl)) fun a S => ?_
       refine ga S fun a S => ?_
       refine gnt ?_
       have S := (((((((S.nil.cons S 1 rfl).cons S 0 rfl).cons S 6 rfl).cons S 7 rfl).cons S 8 rfl).cons S 9 rfl).cons S 10 rfl).cons S 11 rfl
       refine gsr ?_
       refine ga S fun a S => ?_
       refine gnt ?_
       refine gsr ?_
       refine ga S fun a S => ?_
       refine gnt ?_
       refine g_seq ?_
       refine gsr ?_
       refine gm S fun a S => ?_
       refine wl_of (op_strBytes (wn rfl) rfl rfl rfl Tryz.underlying9 Tryz.underlying24 Tryz.underlying5 S H rfl (by omega) fun v99 a w S H => ?_)
       refine gy rfl rfl rfl S (y_lens rfl Tryz.underlying24 S H rfl) fun a S => ?_
       refine gm S fun a S => ?_
       refine gnt ?_
       refine g_block ?_
       have SU := ((((((S.nil.cons S 1 rfl).cons S 8 rfl).cons S 9 rfl).cons S 10 rfl).cons S 11 rfl).cons S 99 rfl).cons S 100 rfl
       refine loop_k (X := Nat) SU (fun k => [(12, .bool false), (13, .int .u64 ((hexN (t.data.toList.take k) : Nat) : Int)), (101, .int .i64 (k : Int))]) (fun k => k ≤ t.data.toList.length) (fun k => t.data.toList.length - k) 0 (((S.nil.cons S 101 rfl).cons S 13 rfl).cons S 12 rfl) H (by omega) (fun k a w S H hi => ?_)
       simp only [List.cons_append, List.nil_append] at S hi
       refine gsr ?_
       refine gy rfl rfl rfl S (y_bin rfl S rfl rfl rfl) fun a S => ?_
       refine gnt ?_
       refine g_seq ?_
       refine c_if S rfl (fun h9 => ?_) (fun h9 => ?_)
       ·have h9p := h9; try simp only [DL] at h9p
        have hkl : k < t.data.toList.length := by omega
        have hck := hh _ (List.getElem_mem hkl)
        have hdk := digB_lt hck
        have hdd : digB t.data.toList[k] = if (t.data.toList[k]).toNat ≤ 57 then (t.data.toList[k]).toNat - 48 else (t.data.toList[k]).toNat - 87 := rfl
        have hxk : hexN (t.data.toList.take k) < 72057594037927936 := Nat.lt_of_lt_of_le (hexN_lt hh k (by omega)) (Nat.pow_le_pow_right (by decide) (show k ≤ 14 by omega))
        have hxs := hexN_take hkl
        refine g_skip ?_
        refine n_then ?_
        refine g_seq ?_
        refine g_block ?_
        refine gsr ?_
        refine gy rfl rfl rfl S (y_iaddrn rfl Tryz.underlying24 Fsiz5 S H rfl rfl (by first | assumption | omega | (simp only [LL]; omega))) fun a S => ?_
        refine gy rfl rfl rfl S (y_loads _ rfl Fsca5 S H rfl (by first | assumption | omega | (simp only [LL]; omega)) rfl) fun a S => ?_
        refine ga S fun a S => ?_
        refine gnt ?_
        refine gsr ?_
        refine ga S fun a S => ?_
        refine gnt ?_
        refine g_seq ?_
        refine g_block ?_
        refine gsr ?_
        refine gm S fun a S => ?_
        refine gy rfl rfl rfl S (y_bin rfl S rfl rfl rfl) fun a S => ?_
        refine gm S fun a S => ?_
        refine' wl_and 1 109 rfl S H rfl rfl rfl rfl rfl rfl rfl (fun _ S => (wn rfl)) (fun h10 kk => ?yh10) (fun a w S H => ?_)
        case yh10 =>
         have h10p := h10; try simp only [DL] at h10p
         refine gz 109 h10 S rfl rfl rfl rfl rfl rfl (y_move rfl S rfl) fun a S => ?_
         refine gy rfl rfl rfl S (y_and' rfl h10 S rfl rfl) fun a S => ?_
         exact kk _ _ (S.join 2 111 rfl rfl) H
        refine ga S fun a S => ?_
        refine gnt ?_
        have S := ((((((((((((S.nil.cons S 1 rfl).cons S 8 rfl).cons S 9 rfl).cons S 10 rfl).cons S 11 rfl).cons S 99 rfl).cons S 100 rfl).cons S 101 rfl).cons S 13 rfl).cons S 12 rfl).cons S 15 rfl).cons S 16 rfl).cons S 106 rfl
        refine c_if S rfl (fun h11 => ?_) (fun h11 => ?_)
        ·have h11p := h11; try simp only [DL] at h11p
         all_goals (
           exact absurd h11 (by simp))
        ·have h11p := h11; try simp only [DL] at h11p
         refine gsr ?_
         refine gm S fun a S => ?_
         refine gy rfl rfl rfl S (y_bin rfl S rfl rfl rfl) fun a S => ?_
         refine gm S fun a S => ?_
         refine' wl_and 2 115 rfl S H rfl rfl rfl rfl rfl rfl rfl (fun _ S => (wn rfl)) (fun h12 kk => ?yh12) (fun a w S H => ?_)
         case yh12 =>
          have h12p := h12; try simp only [DL] at h12p
          refine gz 115 h12 S rfl rfl rfl rfl rfl rfl (y_move rfl S rfl) fun a S => ?_
          refine gz 115 h12 S rfl rfl rfl rfl rfl rfl (y_bin rfl S rfl rfl rfl) fun a S => ?_
          refine gy rfl rfl rfl S (y_and' rfl h12 S rfl rfl) fun a S => ?_
          exact kk _ _ (S.join 3 118 rfl rfl) H
         refine ga S fun a S => ?_
         refine gnt ?_
         have S := ((((((((((((S.nil.cons S 1 rfl).cons S 8 rfl).cons S 9 rfl).cons S 10 rfl).cons S 11 rfl).cons S 99 rfl).cons S 100 rfl).cons S 101 rfl).cons S 13 rfl).cons S 12 rfl).cons S 15 rfl).cons S 16 rfl).cons S 112 rfl
         refine c_if S rfl (fun h13 => ?_) (fun h13 => ?_)
         ·have h13p := h13; try simp only [DL] at h13p
          refine g_region ?_
          refine gm S fun a S => ?_
          refine gy rfl rfl rfl S ((y_binW (r := (digB t.data.toList[k] : Int)) rfl S rfl rfl (wr8 (by have h9 := h13p; rw [if_pos (by omega)] at hdd; omega) (by omega)))) fun a S => ?_
          refine ga S fun a S => ?_
          refine gl_nil ?_
          refine n_block ?_
          refine n_then ?_
          have S := ((((((((((S.nil.cons S 1 rfl).cons S 8 rfl).cons S 9 rfl).cons S 10 rfl).cons S 11 rfl).cons S 99 rfl).cons S 100 rfl).cons S 101 rfl).cons S 13 rfl).cons S 12 rfl).cons S 16 rfl
          refine g_seq ?_
          refine gsr ?_
          refine gm S fun a S => ?_
          refine gm S fun a S => ?_
          refine gy rfl rfl rfl S (y_convg (r := 16) rfl Tryz.underlying3 Tryz.underlying5 S rfl (by rfl)) fun a S => ?_
          refine gy rfl rfl rfl S (y_bin rfl S rfl rfl rfl) fun a S => ?_
          refine gnt ?_
          refine c_if S rfl (fun h14 => ?_) (fun h14 => ?_)
          ·have h14p := h14; try simp only [DL] at h14p
           all_goals (
             exfalso
             have h := h14p
             omega)
          ·have h14p := h14; try simp only [DL] at h14p
           refine g_skip ?_
           refine n_then ?_
           have S := ((((((((((S.nil.cons S 1 rfl).cons S 8 rfl).cons S 9 rfl).cons S 10 rfl).cons S 11 rfl).cons S 99 rfl).cons S 100 rfl).cons S 101 rfl).cons S 13 rfl).cons S 12 rfl).cons S 16 rfl
           refine g_seq ?_
           refine gsr ?_
           refine gm S fun a S => ?_
           refine gm S fun a S => ?_
           refine gy rfl rfl rfl S (y_bin rfl S rfl rfl rfl) fun a S => ?_
           refine gnt ?_
           refine c_if S rfl (fun h15 => ?_) (fun h15 => ?_)
           ·have h15p := h15; try simp only [DL] at h15p
            all_goals (
              exfalso
              have h := h15p
              omega)
           ·have h15p := h15; try simp only [DL] at h15p
            refine g_skip ?_
            refine n_then ?_
            refine gsr ?_
            refine gm S fun a S => ?_
            refine gm S fun a S => ?_
            refine gy rfl rfl rfl S (y_convg (r := 16) rfl Tryz.underlying3 Tryz.underlying70 S rfl (by rfl)) fun a S => ?_
            refine gy rfl rfl rfl S ((y_binW (r := ((hexN (t.data.toList.take k) * 16 : Nat) : Int)) rfl S rfl rfl (wr64m (by omega) (by omega)))) fun a S => ?_
            refine ga S fun a S => ?_
            refine gnt ?_
            have S := ((((((((((S.nil.cons S 1 rfl).cons S 8 rfl).cons S 9 rfl).cons S 10 rfl).cons S 11 rfl).cons S 99 rfl).cons S 100 rfl).cons S 101 rfl).cons S 12 rfl).cons S 16 rfl).cons S 13 rfl
            refine gsr ?_
            refine gm S fun a S => ?_
            refine gm S fun a S => ?_
            refine gy rfl rfl rfl S (y_convg (r := (digB t.data.toList[k] : Int)) rfl Tryz.underlying5 Tryz.underlying70 S rfl (by rw [IntKind.wrap_u64]; omega)) fun a S => ?_
            refine gy rfl rfl rfl S ((y_binW (r := ((hexN (t.data.toList.take (k + 1)) : Nat) : Int)) rfl S rfl rfl (wr64a (by omega) (by omega)))) fun a S => ?_
            refine ga S fun a S => ?_
            refine gnt ?_
            have S := ((((((((((S.nil.cons S 1 rfl).cons S 8 rfl).cons S 9 rfl).cons S 10 rfl).cons S 11 rfl).cons S 99 rfl).cons S 100 rfl).cons S 101 rfl).cons S 12 rfl).cons S 13 rfl).cons S 17 rfl
            refine g_seq ?_
            refine gsr ?_
            refine gm S fun a S => ?_
            refine gm S fun a S => ?_
            refine gy rfl rfl rfl S (y_bin rfl S rfl rfl rfl) fun a S => ?_
            refine gm S fun a S => ?_
            refine' wl_or 3 155 rfl S H rfl rfl rfl rfl rfl rfl rfl (fun _ S => (wn rfl)) (fun h16 kk => ?yh16) (fun a w S H => ?_)
            case yh16 =>
             have h16p := h16; try simp only [DL] at h16p
             refine gz 155 h16 S rfl rfl rfl rfl rfl rfl (y_move rfl S rfl) fun a S => ?_
             refine gz 155 h16 S rfl rfl rfl rfl rfl rfl (y_move rfl S rfl) fun a S => ?_
             refine gz 155 h16 S rfl rfl rfl rfl rfl rfl (y_bin rfl S rfl rfl rfl) fun a S => ?_
             refine gy rfl rfl rfl S (y_or' rfl h16 S rfl rfl) fun a S => ?_
             exact kk _ _ (S.join 4 159 rfl rfl) H
            refine gnt ?_
            have S := (((((((((((S.nil.cons S 1 rfl).cons S 8 rfl).cons S 9 rfl).cons S 10 rfl).cons S 11 rfl).cons S 99 rfl).cons S 100 rfl).cons S 101 rfl).cons S 12 rfl).cons S 13 rfl).cons S 17 rfl).cons S 159 rfl
            refine c_if S rfl (fun h17 => ?_) (fun h17 => ?_)
            ·have h17p := h17; try simp only [DL] at h17p
             all_goals (
               exfalso
               have h := h17p
               omega)
            ·have h17p := h17; try simp only [DL] at h17p
             refine g_skip ?_
             refine n_then ?_
             refine g_region ?_
             refine gm S fun a S => ?_
             refine ga S fun a S => ?_
             refine gl_nil ?_
             refine n_block ?_
             refine n_then ?_
             have S := (((((((((S.nil.cons S 1 rfl).cons S 8 rfl).cons S 9 rfl).cons S 10 rfl).cons S 11 rfl).cons S 99 rfl).cons S 100 rfl).cons S 101 rfl).cons S 12 rfl).cons S 13 rfl
             refine g_region ?_
             refine gy rfl rfl rfl S (y_add rfl S rfl rfl (by omega)) fun a S => ?_
             refine gm S fun a S => ?_
             refine gnt ?_
             refine ⟨k + 1, ((S.nil.cons S 101 rfl).cons S 13 rfl).cons S 12 rfl, ((((((S.nil.cons S 1 rfl).cons S 8 rfl).cons S 9 rfl).cons S 10 rfl).cons S 11 rfl).cons S 99 rfl).cons S 100 rfl, H, ?_, ?_⟩
             · omega
             · omega
         ·have h13p := h13; try simp only [DL] at h13p
          refine gsr ?_
          refine gm S fun a S => ?_
          refine wl_of (op_call (wn rfl) rfl rfl S (co_func rfl Tryz.call136 S rfl) (lower_spec (t.data.toList[k]).toNat (by unfold hexB at hck; have h9 := h13p; omega) _) fun v w hc a S => ?_)
          obtain ⟨rfl, he⟩ := hc
          have H := H.ext he
          refine gy rfl rfl rfl S (y_bin rfl S rfl rfl rfl) fun a S => ?_
          refine gm S fun a S => ?_
          refine' wl_and 3 125 rfl S H rfl rfl rfl rfl rfl rfl rfl (fun _ S => (wn rfl)) (fun h18 kk => ?yh18) (fun a w S H => ?_)
          case yh18 =>
           have h18p := h18; try simp only [DL] at h18p
           refine gz 125 h18 S rfl rfl rfl rfl rfl rfl (y_move rfl S rfl) fun a S => ?_
           refine wl_of (op_call (wg' 125 rfl rfl S rfl h18 rfl) rfl rfl S (co_func rfl Tryz.call136 S rfl) (lower_spec (t.data.toList[k]).toNat (by unfold hexB at hck; have h9 := h13p; omega) _) fun v w hc a S => ?_)
           obtain ⟨rfl, he⟩ := hc
           have H := H.ext he
           refine gz 125 h18 S rfl rfl rfl rfl rfl rfl (y_bin rfl S rfl rfl rfl) fun a S => ?_
           refine gy rfl rfl rfl S (y_and' rfl h18 S rfl rfl) fun a S => ?_
           exact kk _ _ (S.join 4 129 rfl rfl) H
          refine ga S fun a S => ?_
          refine gnt ?_
          have S := ((((((((((((S.nil.cons S 1 rfl).cons S 8 rfl).cons S 9 rfl).cons S 10 rfl).cons S 11 rfl).cons S 99 rfl).cons S 100 rfl).cons S 101 rfl).cons S 13 rfl).cons S 12 rfl).cons S 15 rfl).cons S 16 rfl).cons S 121 rfl
          refine c_if S rfl (fun h19 => ?_) (fun h19 => ?_)
          ·have h19p := h19; try simp only [DL] at h19p
           refine g_region ?_
           refine gm S fun a S => ?_
           refine wl_of (op_call (wn rfl) rfl rfl S (co_func rfl Tryz.call136 S rfl) (lower_spec (t.data.toList[k]).toNat (by unfold hexB at hck; have h9 := h13p; omega) _) fun v w hc a S => ?_)
           obtain ⟨rfl, he⟩ := hc
           have H := H.ext he
           refine gy rfl rfl rfl S ((y_binW (r := (((t.data.toList[k]).toNat - 97 : Nat) : Int)) rfl S rfl rfl (wr8 (by unfold hexB at hck; have h9 := h13p; omega) (by omega)))) fun a S => ?_
           refine gy rfl rfl rfl S ((y_binW (r := (digB t.data.toList[k] : Int)) rfl S rfl rfl (wr8a (by unfold hexB at hck; have h9 := h13p; rw [if_neg (by omega)] at hdd; omega) (by omega)))) fun a S => ?_
           refine ga S fun a S => ?_
           refine gl_nil ?_
           refine n_block ?_
           refine n_then ?_
           have S := ((((((((((S.nil.cons S 1 rfl).cons S 8 rfl).cons S 9 rfl).cons S 10 rfl).cons S 11 rfl).cons S 99 rfl).cons S 100 rfl).cons S 101 rfl).cons S 13 rfl).cons S 12 rfl).cons S 16 rfl
           refine g_seq ?_
           refine gsr ?_
           refine gm S fun a S => ?_
           refine gm S fun a S => ?_
           refine gy rfl rfl rfl S (y_convg (r := 16) rfl Tryz.underlying3 Tryz.underlying5 S rfl (by rfl)) fun a S => ?_
           refine gy rfl rfl rfl S (y_bin rfl S rfl rfl rfl) fun a S => ?_
           refine gnt ?_
           refine c_if S rfl (fun h20 => ?_) (fun h20 => ?_)
           ·have h20p := h20; try simp only [DL] at h20p
            all_goals (
              exfalso
              have h := h20p
              omega)
           ·have h20p := h20; try simp only [DL] at h20p
            refine g_skip ?_
            refine n_then ?_
            have S := ((((((((((S.nil.cons S 1 rfl).cons S 8 rfl).cons S 9 rfl).cons S 10 rfl).cons S 11 rfl).cons S 99 rfl).cons S 100 rfl).cons S 101 rfl).cons S 13 rfl).cons S 12 rfl).cons S 16 rfl
            refine g_seq ?_
            refine gsr ?_
            refine gm S fun a S => ?_
            refine gm S fun a S => ?_
            refine gy rfl rfl rfl S (y_bin rfl S rfl rfl rfl) fun a S => ?_
            refine gnt ?_
            refine c_if S rfl (fun h21 => ?_) (fun h21 => ?_)
            ·have h21p := h21; try simp only [DL] at h21p
             all_goals (
               exfalso
               have h := h21p
               omega)
            ·have h21p := h21; try simp only [DL] at h21p
             refine g_skip ?_
             refine n_then ?_
             refine gsr ?_
             refine gm S fun a S => ?_
             refine gm S fun a S => ?_
             refine gy rfl rfl rfl S (y_convg (r := 16) rfl Tryz.underlying3 Tryz.underlying70 S rfl (by rfl)) fun a S => ?_
             refine gy rfl rfl rfl S ((y_binW (r := ((hexN (t.data.toList.take k) * 16 : Nat) : Int)) rfl S rfl rfl (wr64m (by omega) (by omega)))) fun a S => ?_
             refine ga S fun a S => ?_
             refine gnt ?_
             have S := ((((((((((S.nil.cons S 1 rfl).cons S 8 rfl).cons S 9 rfl).cons S 10 rfl).cons S 11 rfl).cons S 99 rfl).cons S 100 rfl).cons S 101 rfl).cons S 12 rfl).cons S 16 rfl).cons S 13 rfl
             refine gsr ?_
             refine gm S fun a S => ?_
             refine gm S fun a S => ?_
             refine gy rfl rfl rfl S (y_convg (r := (digB t.data.toList[k] : Int)) rfl Tryz.underlying5 Tryz.underlying70 S rfl (by rw [IntKind.wrap_u64]; omega)) fun a S => ?_
             refine gy rfl rfl rfl S ((y_binW (r := ((hexN (t.data.toList.take (k + 1)) : Nat) : Int)) rfl S rfl rfl (wr64a (by omega) (by omega)))) fun a S => ?_
             refine ga S fun a S => ?_
             refine gnt ?_
             have S := ((((((((((S.nil.cons S 1 rfl).cons S 8 rfl).cons S 9 rfl).cons S 10 rfl).cons S 11 rfl).cons S 99 rfl).cons S 100 rfl).cons S 101 rfl).cons S 12 rfl).cons S 13 rfl).cons S 17 rfl
             refine g_seq ?_
             refine gsr ?_
             refine gm S fun a S => ?_
             refine gm S fun a S => ?_
             refine gy rfl rfl rfl S (y_bin rfl S rfl rfl rfl) fun a S => ?_
             refine gm S fun a S => ?_
             refine' wl_or 3 155 rfl S H rfl rfl rfl rfl rfl rfl rfl (fun _ S => (wn rfl)) (fun h22 kk => ?yh22) (fun a w S H => ?_)
             case yh22 =>
              have h22p := h22; try simp only [DL] at h22p
              refine gz 155 h22 S rfl rfl rfl rfl rfl rfl (y_move rfl S rfl) fun a S => ?_
              refine gz 155 h22 S rfl rfl rfl rfl rfl rfl (y_move rfl S rfl) fun a S => ?_
              refine gz 155 h22 S rfl rfl rfl rfl rfl rfl (y_bin rfl S rfl rfl rfl) fun a S => ?_
              refine gy rfl rfl rfl S (y_or' rfl h22 S rfl rfl) fun a S => ?_
              exact kk _ _ (S.join 4 159 rfl rfl) H
             refine gnt ?_
             have S := (((((((((((S.nil.cons S 1 rfl).cons S 8 rfl).cons S 9 rfl).cons S 10 rfl).cons S 11 rfl).cons S 99 rfl).cons S 100 rfl).cons S 101 rfl).cons S 12 rfl).cons S 13 rfl).cons S 17 rfl).cons S 159 rfl
             refine c_if S rfl (fun h23 => ?_) (fun h23 => ?_)
             ·have h23p := h23; try simp only [DL] at h23p
              all_goals (
                exfalso
                have h := h23p
                omega)
             ·have h23p := h23; try simp only [DL] at h23p
              refine g_skip ?_
              refine n_then ?_
              refine g_region ?_
              refine gm S fun a S => ?_
              refine ga S fun a S => ?_
              refine gl_nil ?_
              refine n_block ?_
              refine n_then ?_
              have S := (((((((((S.nil.cons S 1 rfl).cons S 8 rfl).cons S 9 rfl).cons S 10 rfl).cons S 11 rfl).cons S 99 rfl).cons S 100 rfl).cons S 101 rfl).cons S 12 rfl).cons S 13 rfl
              refine g_region ?_
              refine gy rfl rfl rfl S (y_add rfl S rfl rfl (by omega)) fun a S => ?_
              refine gm S fun a S => ?_
              refine gnt ?_
              refine ⟨k + 1, ((S.nil.cons S 101 rfl).cons S 13 rfl).cons S 12 rfl, ((((((S.nil.cons S 1 rfl).cons S 8 rfl).cons S 9 rfl).cons S 10 rfl).cons S 11 rfl).cons S 99 rfl).cons S 100 rfl, H, ?_, ?_⟩
              · omega
              · omega
          ·have h19p := h19; try simp only [DL] at h19p
           all_goals (
             exfalso
             have h := h19p
             have h9 := h13p
             unfold hexB at hck
             omega)
       ·have h9p := h9; try simp only [DL] at h9p
        obtain rfl : k = t.data.toList.length := by omega
        rw [List.take_length] at S
        refine g_exit ?_
        refine x_then (x_then (x_eq ?_))
        refine n_then ?_
        have S := ((S.nil.cons S 9 rfl).cons S 13 rfl).cons S 12 rfl
        refine g_seq ?_
        refine gsr ?_
        refine gm S fun a S => ?_
        refine gm S fun a S => ?_
        refine' wl_and (B2 := false) 3 165 rfl S H rfl rfl rfl rfl rfl rfl rfl (fun _ S => (wn rfl)) (fun h24 kk => ?yh24) (fun a w S H => ?_)
        case yh24 => exact absurd h24 (by simp)
        refine gnt ?_
        have S := (S.nil.cons S 13 rfl).cons S 169 rfl
        refine c_if S rfl (fun h25 => ?_) (fun h25 => ?_)
        ·have h25p := h25; try simp only [DL] at h25p
         all_goals (
           exact absurd h25 (by simp))
        ·have h25p := h25; try simp only [DL] at h25p
         refine g_skip ?_
         refine n_then ?_
         refine gsr ?_
         refine gm S fun a S => ?_
         refine ga S fun a S => ?_
         refine ga S fun a S => ?_
         refine gnt ?_
         refine g_ret ?_
         refine ret2 rfl S rfl rfl ?_
         exact ⟨rfl, H.toExt⟩
      ·have h8p := h8; try simp only [DL] at h8p
       all_goals (
         exact absurd h8 (by simp))
  ·have h3p := h3; try simp only [DL] at h3p
   all_goals (
     exact absurd h3 (by simp))
end Go.Proofs.YtjdbggnhdeaflaaGreatDoor
end
section
namespace Go.Proofs.YtjdbggnhdeaflaaGreatDoor
open Go Go.Gw
set_option linter.unusedVariables false
set_option linter.unusedSimpArgs false
section
variable {P : Program} {o : Oper} {n : Sz} {fl : Slots} {a : Act} {w : World}
theorem eq_nils {T : TypeId} {ms : Array (String × TypeId)} (hT : P.underlying T = some (.interface ms)) (n : Nat) : (Op.equalIn (n + 1) T .nilIface .nilIface).run P w = .ok true w := by simp [Op.equalIn, run_underlying hT]
theorem y_nenil {T U : TypeId} {x : Operand} {ms : Array (String × TypeId)} (ho : o.op = .binOp .neq T x (.const .nilIface) U) (hT : P.underlying T = some (.interface ms)) (S : St n fl a) (hx : ev fl x = some .nilIface) : Yld P o a w (.bool false) := by
  have h := eq_nils (w := w) hT 9999
  unfold Yld execOp; rw [ho]; simp only [S.ev hx]
  simp [eqGuard, binOp, Op.equal, Act.eval]
  rw [show Op.maxDepth = 9999 + 1 from rfl, h]
  rfl
end
set_option maxHeartbeats 2000000 in
/-- internal/strconv.ParseInt -/
theorem pint_spec (t : ByteArray) (w0 : World) (hs : 0 < t.size ∧ t.size ≤ 15) (hh : ∀ c ∈ t.data.toList, hexB c) :
    Ret Tryz.prog 103 #[.string t, .int .i64 16, .int .i64 64] w0 (fun u w => u = .tuple #[.int .i64 ((hexN t.data.toList : Nat) : Int), .nilIface] ∧ Ext w0 w) := by
 refine ret_of_wp (nt := 73) Tryz.func103 rfl rfl rfl (fl := [(0, .string t), (1, .int .i64 16), (2, .int .i64 64)]) rfl (fun a S => ?_)
 have H := HSat.start w0
 have hxk : hexN t.data.toList < 1152921504606846976 := by
   have h := hexN_lt hh t.data.toList.length (Nat.le_refl _)
   rw [List.take_length] at h
   have hlt : t.data.toList.length = t.size := Array.length_toList
   exact Nat.lt_of_lt_of_le h (Nat.pow_le_pow_right (by decide) (show t.data.toList.length ≤ 15 by omega))
 have hc0 : ∀ h : 0 < t.size, hexB (t[0]'h) := fun h => hh _ (by rw [ByteArray.getElem_eq_getElem_data]; exact Array.getElem_mem_toList _)
 have hc0 := hc0 hs.1
 unfold hexB at hc0
 refine gsr ?_
 refine ga S fun a S => ?_
 refine ga S fun a S => ?_
 refine gnt ?_
 refine g_seq ?_
 refine gsr ?_
 refine gm S fun a S => ?_
 refine gy rfl rfl rfl S (y_eqs rfl Tryz.underlying9 S rfl rfl) fun a S => ?_
 refine gnt ?_
 refine c_if S rfl (fun h1 => ?_) (fun h1 => ?_)
 ·have h1p := h1; try simp only [DL] at h1p
  all_goals (
    exfalso
    have h := h1p
    rw [h] at hs
    exact absurd hs.1 (by decide))
 ·have h1p := h1; try simp only [DL] at h1p
  refine g_skip ?_
  refine n_then ?_
  refine gsr ?_
  refine ga S fun a S => ?_
  refine gnt ?_
  refine g_seq ?_
  refine gsr ?_
  refine gm S fun a S => ?_
  refine gy rfl rfl rfl S (y_idxstr rfl Tryz.underlying9 S rfl rfl (by first | assumption | omega | (simp only [LL]; omega))) fun a S => ?_
  refine gnt ?_
  refine g_block ?_
  refine gsr ?_
  refine gy rfl rfl rfl S (y_bin rfl S rfl rfl rfl) fun a S => ?_
  refine ga S fun a S => ?_
  refine gnt ?_
  have S := (((((((S.nil.cons S 2 rfl).cons S 1 rfl).cons S 0 rfl).cons S 6 rfl).cons S 7 rfl).cons S 8 rfl).cons S 16 rfl).cons S 17 rfl
  refine c_if S rfl (fun h2 => ?_) (fun h2 => ?_)
  ·have h2p := h2; try simp only [DL] at h2p
   all_goals (
     exfalso
     have h := h2p
     omega)
  ·have h2p := h2; try simp only [DL] at h2p
   refine gsr ?_
   refine gy rfl rfl rfl S (y_bin rfl S rfl rfl rfl) fun a S => ?_
   refine ga S fun a S => ?_
   refine gnt ?_
   refine c_if S rfl (fun h3 => ?_) (fun h3 => ?_)
   ·have h3p := h3; try simp only [DL] at h3p
    all_goals (
      exfalso
      have h := h3p
      omega)
   ·have h3p := h3; try simp only [DL] at h3p
    refine g_skip ?_
    refine n_block ?_
    refine n_then ?_
    have S := (((((S.nil.cons S 2 rfl).cons S 1 rfl).cons S 0 rfl).cons S 6 rfl).cons S 7 rfl).cons S 8 rfl
    refine gsr ?_
    refine ga S fun a S => ?_
    refine gnt ?_
    refine gsr ?_
    refine gm S fun a S => ?_
    refine gm S fun a S => ?_
    refine gm S fun a S => ?_
    refine wl_of (op_call (wn rfl) rfl rfl S (co_func rfl Tryz.call121 S rfl) (puint_spec t _ hs hh) fun v w hc a S => ?_)
    obtain ⟨rfl, he⟩ := hc
    have H := H.ext he
    refine gm S fun a S => ?_
    refine gy rfl rfl rfl S (y_extract rfl S rfl rfl) fun a S => ?_
    refine gy rfl rfl rfl S (y_extract rfl S rfl rfl) fun a S => ?_
    refine ga S fun a S => ?_
    refine ga S fun a S => ?_
    refine gnt ?_
    have S := ((((S.nil.cons S 2 rfl).cons S 6 rfl).cons S 8 rfl).cons S 9 rfl).cons S 7 rfl
    refine g_seq ?_
    refine gsr ?_
    refine gm S fun a S => ?_
    refine gy rfl rfl rfl S ((y_nenil rfl Tryz.underlying119 S rfl)) fun a S => ?_
    refine gm S fun a S => ?_
    refine' wl_and (B2 := false) 3 34 rfl S H rfl rfl rfl rfl rfl rfl rfl (fun _ S => (wn rfl)) (fun h4 kk => ?yh4) (fun a w S H => ?_)
    case yh4 => exact absurd h4 (by simp)
    refine gnt ?_
    refine c_if S rfl (fun h5 => ?_) (fun h5 => ?_)
    ·have h5p := h5; try simp only [DL] at h5p
     all_goals (
       exact absurd h5 (by simp))
    ·have h5p := h5; try simp only [DL] at h5p
     refine g_skip ?_
     refine n_then ?_
     have S := ((((S.nil.cons S 2 rfl).cons S 6 rfl).cons S 8 rfl).cons S 9 rfl).cons S 7 rfl
     refine g_seq ?_
     refine gsr ?_
     refine gm S fun a S => ?_
     refine gy rfl rfl rfl S (y_bin rfl S rfl rfl rfl) fun a S => ?_
     refine gnt ?_
     refine c_if S rfl (fun h6 => ?_) (fun h6 => ?_)
     ·have h6p := h6; try simp only [DL] at h6p
      all_goals (
        exact absurd h6 (by simp))
     ·have h6p := h6; try simp only [DL] at h6p
      refine g_skip ?_
      refine n_then ?_
      refine gsr ?_
      refine gm S fun a S => ?_
      refine gy rfl rfl rfl S ((y_binW (r := 63) rfl S rfl rfl rfl)) fun a S => ?_
      refine gy rfl rfl rfl S (y_convg (r := 63) rfl Tryz.underlying3 Tryz.underlying138 S rfl (by rfl)) fun a S => ?_
      refine gy rfl rfl rfl S ((y_shlX (m := 1) (q := 63) (r := 9223372036854775808) rfl S rfl rfl (by decide) rfl)) fun a S => ?_
      refine ga S fun a S => ?_
      refine gnt ?_
      have S := ((((S.nil.cons S 6 rfl).cons S 8 rfl).cons S 9 rfl).cons S 7 rfl).cons S 10 rfl
      refine g_seq ?_
      refine gsr ?_
      refine gm S fun a S => ?_
      refine gy rfl rfl rfl S (y_not rfl S rfl) fun a S => ?_
      refine gm S fun a S => ?_
      refine gz 48 rfl S rfl rfl rfl rfl rfl rfl (y_move rfl S rfl) fun a S => ?_
      refine gz 48 rfl S rfl rfl rfl rfl rfl rfl (y_move rfl S rfl) fun a S => ?_
      refine gz 48 rfl S rfl rfl rfl rfl rfl rfl (y_bin rfl S rfl rfl rfl) fun a S => ?_
      refine gy rfl rfl rfl S (y_and' rfl rfl S rfl rfl) fun a S => ?_
      refine gnt ?_
      have S := (((((S.nil.cons S 6 rfl).cons S 8 rfl).cons S 9 rfl).cons S 7 rfl).cons S 10 rfl).cons S 52 rfl
      refine c_if S rfl (fun h8 => ?_) (fun h8 => ?_)
      ·have h8p := h8; try simp only [DL] at h8p
       all_goals (
         exfalso
         have h := h8p
         omega)
      ·have h8p := h8; try simp only [DL] at h8p
       refine g_skip ?_
       refine n_then ?_
       refine g_seq ?_
       refine gsr ?_
       refine gm S fun a S => ?_
       refine gm S fun a S => ?_
       refine' wl_and (B2 := false) 3 58 rfl S H rfl rfl rfl rfl rfl rfl rfl (fun _ S => (wn rfl)) (fun h9 kk => ?yh9) (fun a w S H => ?_)
       case yh9 => exact absurd h9 (by simp)
       refine gnt ?_
       refine c_if S rfl (fun h10 => ?_) (fun h10 => ?_)
       ·have h10p := h10; try simp only [DL] at h10p
        all_goals (
          exact absurd h10 (by simp))
       ·have h10p := h10; try simp only [DL] at h10p
        refine g_skip ?_
        refine n_then ?_
        have S := (((S.nil.cons S 6 rfl).cons S 8 rfl).cons S 9 rfl).cons S 7 rfl
        refine gsr ?_
        refine gm S fun a S => ?_
        refine gy rfl rfl rfl S (y_convg (r := ((hexN t.data.toList) : Int)) rfl Tryz.underlying70 Tryz.underlying2 S rfl (by exact wrap_in (by omega) (by omega))) fun a S => ?_
        refine ga S fun a S => ?_
        refine gnt ?_
        refine g_seq ?_
        refine gsr ?_
        refine gm S fun a S => ?_
        refine gnt ?_
        have S := (((S.nil.cons S 6 rfl).cons S 7 rfl).cons S 11 rfl).cons S 69 rfl
        refine c_if S rfl (fun h11 => ?_) (fun h11 => ?_)
        ·have h11p := h11; try simp only [DL] at h11p
         all_goals (
           exact absurd h11 (by simp))
        ·have h11p := h11; try simp only [DL] at h11p
         refine g_skip ?_
         refine n_then ?_
         refine gsr ?_
         refine gm S fun a S => ?_
         refine ga S fun a S => ?_
         refine ga S fun a S => ?_
         refine gnt ?_
         have S := (S.nil.cons S 6 rfl).cons S 7 rfl
         refine g_ret ?_
         refine ret2 rfl S rfl rfl ?_
         exact ⟨rfl, H.toExt⟩
/-- strconv.ParseInt -/
theorem sint_spec (t : ByteArray) (w0 : World) (hs : 0 < t.size ∧ t.size ≤ 15) (hh : ∀ c ∈ t.data.toList, hexB c) :
    Ret Tryz.prog 80 #[.string t, .int .i64 16, .int .i64 64] w0 (fun u w => u = .tuple #[.int .i64 ((hexN t.data.toList : Nat) : Int), .nilIface] ∧ Ext w0 w) := by
 refine ret_of_wp (nt := 25) Tryz.func80 rfl rfl rfl (fl := [(0, .string t), (1, .int .i64 16), (2, .int .i64 64)]) rfl (fun a S => ?_)
 have H := HSat.start w0
 refine gsr ?_
 refine ga S fun a S => ?_
 refine ga S fun a S => ?_
 refine gnt ?_
 refine gsr ?_
 refine gm S fun a S => ?_
 refine gm S fun a S => ?_
 refine gm S fun a S => ?_
 refine wl_of (op_call (wn rfl) rfl rfl S (co_func rfl Tryz.call103 S rfl) (pint_spec t _ hs hh) fun v w hc a S => ?_)
 obtain ⟨rfl, he⟩ := hc
 have H := H.ext he
 refine gm S fun a S => ?_
 refine gy rfl rfl rfl S (y_extract rfl S rfl rfl) fun a S => ?_
 refine gy rfl rfl rfl S (y_extract rfl S rfl rfl) fun a S => ?_
 refine ga S fun a S => ?_
 refine ga S fun a S => ?_
 refine gnt ?_
 have S := (((((S.nil.cons S 2 rfl).cons S 1 rfl).cons S 0 rfl).cons S 6 rfl).cons S 8 rfl).cons S 7 rfl
 refine g_seq ?_
 refine gsr ?_
 refine gm S fun a S => ?_
 refine gy rfl rfl rfl S ((y_nenil rfl Tryz.underlying119 S rfl)) fun a S => ?_
 refine gnt ?_
 refine c_if S rfl (fun h1 => ?_) (fun h1 => ?_)
 ·have h1p := h1; try simp only [DL] at h1p
  all_goals (
    exact absurd h1 (by simp))
 ·have h1p := h1; try simp only [DL] at h1p
  refine g_skip ?_
  refine n_then ?_
  have S := ((S.nil.cons S 6 rfl).cons S 8 rfl).cons S 7 rfl
  refine gsr ?_
  refine gm S fun a S => ?_
  refine ga S fun a S => ?_
  refine ga S fun a S => ?_
  refine gnt ?_
  have S := (S.nil.cons S 6 rfl).cons S 7 rfl
  refine g_ret ?_
  refine ret2 rfl S rfl rfl ?_
  exact ⟨rfl, H.toExt⟩
end Go.Proofs.YtjdbggnhdeaflaaGreatDoor
end
section
namespace Go.Proofs.YtjdbggnhdeaflaaGreatDoor
open Go Go.Gw
set_option linter.unusedVariables false
set_option linter.unusedSimpArgs false
section
variable {P : Program} {o : Oper} {n : Sz} {fl : Slots} {a : Act} {w : World}
theorem y_slicestrH {T : TypeId} {x hi : Operand} {k2 : IntKind} {j : Nat} {s r : ByteArray} (ho : o.op = .slice T x none (some hi) none) (hT : P.underlying T = some .string) (S : St n fl a) (hx : ev fl x = some (.string s)) (hh : ev fl hi = some (.int k2 (j : Int))) (hj : j ≤ s.size) (hr : s.extract 0 j = r) : Yld P o a w (.string r) := by
  subst hr
  unfold Yld execOp; rw [ho]
  simp only [Option.map_some, Option.map_none, S.ev hx, S.ev hh]
  have h := run_slice_string_to_if (P := P) w T s k2 (j : Int) hT
  rw [if_pos (by omega)] at h
  simp only [Int.toNat_natCast] at h
  simp only [Sem.run_bind, run_sliceAt_string (P := P) w T _ _ _ _ hT, h, Result.andThen_ok, Sem.run_pure]
end
/-- foyer/digest.Below -/
theorem below_spec (t : ByteArray) (n : Nat) (w0 : World) (hn : 1 ≤ n ∧ n ≤ 65536) (hd : isD t = true) :
    Ret Tryz.prog 52 #[.string t, .int .i64 (n : Int)] w0 (fun u w => u = .int .i64 ((belowN t n : Nat) : Int) ∧ Ext w0 w) := by
 refine ret_of_wp (nt := 23) Tryz.func52 rfl rfl rfl (fl := [(0, .string t), (1, .int .i64 (n : Int))]) rfl (fun a S => ?_)
 have H := HSat.start w0
 have hsz := isD_size hd
 have h15 := ext15 t hsz
 refine gsr ?_
 refine ga S fun a S => ?_
 refine gnt ?_
 refine g_seq ?_
 refine gsr ?_
 refine gm S fun a S => ?_
 refine gy rfl rfl rfl S (y_bin rfl S rfl rfl rfl) fun a S => ?_
 refine gm S fun a S => ?_
 refine' wl_or 3 9 rfl S H rfl rfl rfl rfl rfl rfl rfl (fun _ S => (wn rfl)) (fun h1 kk => ?yh1) (fun a w S H => ?_)
 case yh1 =>
  have h1p := h1; try simp only [DL] at h1p
  refine gz 9 h1 S rfl rfl rfl rfl rfl rfl (y_move rfl S rfl) fun a S => ?_
  refine wl_of (op_call (wg' 9 rfl rfl S rfl h1 rfl) rfl rfl S (co_func rfl Tryz.call18 S rfl) (is_spec t _ (by omega)) fun v w hc a S => ?_)
  obtain ⟨rfl, he⟩ := hc
  have H := H.ext he
  refine gz 9 h1 S rfl rfl rfl rfl rfl rfl (y_not rfl S rfl) fun a S => ?_
  refine gy rfl rfl rfl S (y_or' rfl h1 S rfl rfl) fun a S => ?_
  exact kk _ _ (S.join 4 13 rfl rfl) H
 refine gnt ?_
 refine c_if S rfl (fun h2 => ?_) (fun h2 => ?_)
 ·have h2p := h2; try simp only [DL] at h2p
  all_goals (
    exfalso
    have h := h2p
    rw [hd] at h
    simp at h
    omega)
 ·have h2p := h2; try simp only [DL] at h2p
  refine g_skip ?_
  refine n_then ?_
  have S := ((S.nil.cons S 1 rfl).cons S 0 rfl).cons S 4 rfl
  refine gsr ?_
  refine gm S fun a S => ?_
  refine gy rfl rfl rfl S ((y_slicestrH (j := 15) rfl Tryz.underlying9 S rfl rfl (by omega) rfl)) fun a S => ?_
  refine wl_of (op_call (wn rfl) rfl rfl S (co_func rfl Tryz.call80 S rfl) (sint_spec (t.extract 0 15) _ (by omega) (fun c hc => isD_hex hd c (ext15_mem c hc))) fun v w hc a S => ?_)
  obtain ⟨rfl, he⟩ := hc
  have H := H.ext he
  refine gm S fun a S => ?_
  refine gy rfl rfl rfl S (y_extract rfl S rfl rfl) fun a S => ?_
  refine gy rfl rfl rfl S (y_extract rfl S rfl rfl) fun a S => ?_
  refine ga S fun a S => ?_
  refine ga S fun a S => ?_
  refine gnt ?_
  have S := ((S.nil.cons S 1 rfl).cons S 4 rfl).cons S 5 rfl
  refine gsr ?_
  refine gm S fun a S => ?_
  refine gm S fun a S => ?_
  refine gy rfl rfl rfl S (y_remn rfl S rfl rfl (by omega) (by omega)) fun a S => ?_
  refine ga S fun a S => ?_
  refine gnt ?_
  have S := S.nil.cons S 4 rfl
  refine g_ret ?_
  refine ret1 rfl S rfl ?_
  exact ⟨rfl, H.toExt⟩
end Go.Proofs.YtjdbggnhdeaflaaGreatDoor
end
section
namespace Go.Proofs.YtjdbggnhdeaflaaGreatDoor
open Go Go.Gw
set_option linter.unusedVariables false
set_option linter.unusedSimpArgs false
/-- foyer/filter.form -/
theorem form_spec (fq fh : Nat) (w0 : World) (hfq : 1 ≤ fq ∧ fq ≤ 64) (hfh : 1 ≤ fh ∧ fh ≤ 8) :
    Ret Tryz.prog 26 #[.int .i64 ((64 * fq : Nat) : Int), .int .i64 (fh : Int)] w0 (fun u w => u = .bool true ∧ Ext w0 w) := by
 refine ret_of_wp (nt := 24) Tryz.func26 rfl rfl rfl (fl := [(0, .int .i64 ((64 * fq : Nat) : Int)), (1, .int .i64 (fh : Int))]) rfl (fun a S => ?_)
 have H := HSat.start w0
 refine gsr ?_
 refine ga S fun a S => ?_
 refine gnt ?_
 refine gsr ?_
 refine gm S fun a S => ?_
 refine gy rfl rfl rfl S (y_bin rfl S rfl rfl rfl) fun a S => ?_
 refine gm S fun a S => ?_
 refine wl_of (op_y (wg' 7 rfl rfl S rfl (by simp only [decide_eq_true_eq, Bool.and_eq_true, beq_iff_eq]; omega) rfl) rfl rfl S (y_move rfl S rfl) fun a S => ?_)
 refine wl_of (op_y (wg' 7 rfl rfl S rfl (by simp only [decide_eq_true_eq, Bool.and_eq_true, beq_iff_eq]; omega) rfl) rfl rfl S (y_bin rfl S rfl rfl rfl) fun a S => ?_)
 refine gy rfl rfl rfl S (y_and' rfl (by simp only [decide_eq_true_eq, Bool.and_eq_true, beq_iff_eq]; omega) S rfl rfl) fun a S => ?_
 refine gm S fun a S => ?_
 refine wl_of (op_y (wg' 11 rfl rfl S rfl (by simp only [decide_eq_true_eq, Bool.and_eq_true, beq_iff_eq]; omega) rfl) rfl rfl S (y_move rfl S rfl) fun a S => ?_)
 refine wl_of (op_y (wg' 11 rfl rfl S rfl (by simp only [decide_eq_true_eq, Bool.and_eq_true, beq_iff_eq]; omega) rfl) rfl rfl S ((y_remN (m := 64 * fq) (q := 64) rfl S rfl rfl (by decide))) fun a S => ?_)
 refine wl_of (op_y (wg' 11 rfl rfl S rfl (by simp only [decide_eq_true_eq, Bool.and_eq_true, beq_iff_eq]; omega) rfl) rfl rfl S (y_bin rfl S rfl rfl rfl) fun a S => ?_)
 refine gy rfl rfl rfl S (y_and' rfl (by simp only [decide_eq_true_eq, Bool.and_eq_true, beq_iff_eq]; omega) S rfl rfl) fun a S => ?_
 refine gm S fun a S => ?_
 refine wl_of (op_y (wg' 16 rfl rfl S rfl (by simp only [decide_eq_true_eq, Bool.and_eq_true, beq_iff_eq]; omega) rfl) rfl rfl S (y_move rfl S rfl) fun a S => ?_)
 refine wl_of (op_y (wg' 16 rfl rfl S rfl (by simp only [decide_eq_true_eq, Bool.and_eq_true, beq_iff_eq]; omega) rfl) rfl rfl S (y_bin rfl S rfl rfl rfl) fun a S => ?_)
 refine gy rfl rfl rfl S (y_and' rfl (by simp only [decide_eq_true_eq, Bool.and_eq_true, beq_iff_eq]; omega) S rfl rfl) fun a S => ?_
 refine gm S fun a S => ?_
 refine wl_of (op_y (wg' 20 rfl rfl S rfl (by simp only [decide_eq_true_eq, Bool.and_eq_true, beq_iff_eq]; omega) rfl) rfl rfl S (y_move rfl S rfl) fun a S => ?_)
 refine wl_of (op_y (wg' 20 rfl rfl S rfl (by simp only [decide_eq_true_eq, Bool.and_eq_true, beq_iff_eq]; omega) rfl) rfl rfl S (y_bin rfl S rfl rfl rfl) fun a S => ?_)
 refine gy rfl rfl rfl S (y_and' rfl (by simp only [decide_eq_true_eq, Bool.and_eq_true, beq_iff_eq]; omega) S rfl rfl) fun a S => ?_
 refine ga S fun a S => ?_
 refine gnt ?_
 have S := S.nil.cons S 4 rfl
 refine g_ret ?_
 refine ret1 rfl S rfl ?_
 exact ⟨congrArg Value.bool (by simp only [decide_eq_true_eq, Bool.and_eq_true, beq_iff_eq]; omega), H.toExt⟩
/-- foyer/filter.positions -/
theorem positions_spec (serial bits hashes : Int) (w0 : World) :
    Ret Tryz.prog 28 #[.int .i64 serial, .int .i64 bits, .int .i64 hashes] w0 (fun u w => ∃ b5 b3 b4, u = .func (.func 51) #[] #[.pointer (some ⟨b5, 0, none⟩), .pointer (some ⟨b3, 0, none⟩), .pointer (some ⟨b4, 0, none⟩)] ∧ HSat No w0 [Cel b5 3 [.int .i64 hashes], Cel b4 3 [.int .i64 bits], Cel b3 3 [.int .i64 serial]] w) := by
 refine ret_of_wp (nt := 8) Tryz.func28 rfl rfl rfl (fl := [(0, .int .i64 serial), (1, .int .i64 bits), (2, .int .i64 hashes)]) rfl (fun a S => ?_)
 have H := HSat.start w0
 refine gsr ?_
 refine wl_of (op_box1 (wn rfl) rfl rfl rfl S H rfl rfl fun b3 a w S H => ?_)
 refine wl_of (op_box1 (wn rfl) rfl rfl rfl S H rfl rfl fun b4 a w S H => ?_)
 refine wl_of (op_box1 (wn rfl) rfl rfl rfl S H rfl rfl fun b5 a w S H => ?_)
 refine ga S fun a S => ?_
 refine gnt ?_
 refine gsr ?_
 refine gy rfl rfl rfl S (y_makeFunc rfl S rfl rfl) fun a S => ?_
 refine ga S fun a S => ?_
 refine gnt ?_
 have S := S.nil.cons S 6 rfl
 refine g_ret ?_
 refine ret1 rfl S rfl ?_
 exact ⟨_, _, _, rfl, H⟩
set_option maxHeartbeats 1000000 in
/-- foyer/filter.positions$1 -/
theorem pos_iter {M : Nat → Prop} {u0 : World} {Z : Type} (L : Nat → Z → List Atom) (LS : Z → List Atom) (lb c1 c2 c3 : Nat) (serial : Int) (bits hashes : Nat) (w0 : World) (hser : -9223372036854775808 ≤ serial ∧ serial ≤ 9223372036854775807) (hb : 1 ≤ bits ∧ bits ≤ 65536) (hha : hashes ≤ 8)
    (hround : ∀ k, k < hashes → ∀ z w, HSat M u0 (Atom.ro (Cel c1 3 [.int .i64 ((hashes : Nat) : Int)]) :: Atom.ro (Cel c2 3 [.int .i64 serial]) :: Atom.ro (Cel c3 3 [.int .i64 ((bits : Nat) : Int)]) :: TabsA :: L k z) w → YieldRet Tryz.prog lb #[.int .i64 ((posN serial bits k : Nat) : Int)] w (fun u w' => ∃ b, u = .bool b ∧ ∃ z, HSat M u0 (Atom.ro (Cel c1 3 [.int .i64 ((hashes : Nat) : Int)]) :: Atom.ro (Cel c2 3 [.int .i64 serial]) :: Atom.ro (Cel c3 3 [.int .i64 ((bits : Nat) : Int)]) :: TabsA :: cond b (L (k + 1) z) (LS z)) w')) (h0 : ∃ z, HSat M u0 (Atom.ro (Cel c1 3 [.int .i64 ((hashes : Nat) : Int)]) :: Atom.ro (Cel c2 3 [.int .i64 serial]) :: Atom.ro (Cel c3 3 [.int .i64 ((bits : Nat) : Int)]) :: TabsA :: L 0 z) w0) :
    Ret Tryz.prog 51 #[.func (.yield lb) #[] #[], .pointer (some ⟨c1, 0, none⟩), .pointer (some ⟨c2, 0, none⟩), .pointer (some ⟨c3, 0, none⟩)] w0 (fun u w => (∃ z, HSat M u0 (Atom.ro (Cel c1 3 [.int .i64 ((hashes : Nat) : Int)]) :: Atom.ro (Cel c2 3 [.int .i64 serial]) :: Atom.ro (Cel c3 3 [.int .i64 ((bits : Nat) : Int)]) :: TabsA :: L hashes z) w) ∨ (∃ z, HSat M u0 (Atom.ro (Cel c1 3 [.int .i64 ((hashes : Nat) : Int)]) :: Atom.ro (Cel c2 3 [.int .i64 serial]) :: Atom.ro (Cel c3 3 [.int .i64 ((bits : Nat) : Int)]) :: TabsA :: LS z) w)) := by
 refine ret_of_wp (nt := 22) Tryz.func51 rfl rfl rfl (fl := [(0, .func (.yield lb) #[] #[]), (1, .pointer (some ⟨c1, 0, none⟩)), (2, .pointer (some ⟨c2, 0, none⟩)), (3, .pointer (some ⟨c3, 0, none⟩))]) rfl (fun a S => ?_)
 obtain ⟨z0, H⟩ := h0
 refine gsr ?_
 refine gy rfl rfl rfl S (y_load rfl Fsca3 S H rfl rfl) fun a S => ?_
 refine gm S fun a S => ?_
 refine gnt ?_
 refine g_block ?_
 have SU := (((S.nil.cons S 3 rfl).cons S 2 rfl).cons S 0 rfl).cons S 6 rfl
 refine loopW (X := Nat) SU (fun k => [(7, .int .i64 (k : Int))]) (fun k w => k ≤ hashes ∧ ∃ z, HSat M u0 (Atom.ro (Cel c1 3 [.int .i64 ((hashes : Nat) : Int)]) :: Atom.ro (Cel c2 3 [.int .i64 serial]) :: Atom.ro (Cel c3 3 [.int .i64 ((bits : Nat) : Int)]) :: TabsA :: L k z) w) (fun k => hashes - k) 0 (S.nil.cons S 7 rfl) (⟨by omega, z0, H⟩) (fun k a w S hW => ?_)
 simp only [List.cons_append, List.nil_append] at S
 obtain ⟨hk, z, H⟩ := hW
 refine gsr ?_
 refine gy rfl rfl rfl S (y_bin rfl S rfl rfl rfl) fun a S => ?_
 refine gnt ?_
 refine g_seq ?_
 refine c_if S rfl (fun h1 => ?_) (fun h1 => ?_)
 ·have h1p := h1; try simp only [DL] at h1p
  refine g_skip ?_
  refine n_then ?_
  refine g_seq ?_
  refine g_block ?_
  refine gsr ?_
  refine gm S fun a S => ?_
  refine ga S fun a S => ?_
  refine gnt ?_
  refine g_seq ?_
  refine region_st (loud := [5, 9]) (tails := [9]) (free := []) [0, 1, 2, 3, 4, 7, 5, 6, 8, 9, 10] [] Fmo (by kernel_rfl) (by kernel_rfl) rfl H ?_
  refine m_w rfl rfl (wn rfl) rfl rfl S (fun w H => y_move rfl S rfl) fun a S => ?_
  refine m_w rfl rfl (wn rfl) rfl rfl S (fun w H => y_load rfl Fsca3 S H rfl rfl) fun a S => ?_
  refine m_c rfl rfl (wn rfl) rfl rfl S (fun w => co_func rfl Tryz.call53 S rfl) (fun w H => itoa_t serial hser.1 hser.2 _ H.tabs) fun a S => ?_
  refine m_w rfl rfl (wn rfl) rfl rfl S (fun w H => y_move rfl S rfl) fun a S => ?_
  refine m_c rfl rfl (wn rfl) rfl rfl S (fun w => co_func rfl Tryz.call53 S rfl) (fun w H => itoa_t (k : Int) (by omega) (by omega) _ H.tabs) fun a S => ?_
  refine m_w rfl rfl (wn rfl) rfl rfl S (fun w H => y_load rfl Fsca3 S H rfl rfl) fun a S => ?_
  refine m_l rfl rfl (fun w H => op_buildSlice (wn rfl) rfl rfl rfl Tryz.underlying22 Finf9 S H (idx := [0, 1]) rfl rfl rfl (z := [.string ⟨#[]⟩, .string ⟨#[]⟩]) (by kernel_rfl) (cs := [.string (itoaS serial), .string (itoaS (k : Int))]) (by kernel_rfl) fun b15 a w S H => m_next H (List.sublist_cons_self _ _) ?_)
  refine m_c rfl rfl (wn rfl) rfl rfl S (fun w => co_func rfl Tryz.call43 S rfl) (fun w H => list_t _ [itoaS serial, itoaS (k : Int)] _ H.tabs (H.slb b15 _ encS 1 rfl rfl (by simp [encS]) (by decide)) (list_ok (by intro x hx; simp only [List.mem_cons, List.not_mem_nil, or_false] at hx; rcases hx with rfl | rfl; have := itoaS_size serial hser.1 hser.2; omega; have := itoaS_size (k : Int) (by omega) (by omega); omega) (by simp))) fun a S => ?_
  refine m_c rfl rfl (wn rfl) rfl rfl S (fun w => co_func rfl Tryz.call52 S rfl) (fun w H => below_spec (listS [itoaS serial, itoaS (k : Int)]) bits _ hb (isD_listS _)) fun a S => ?_
  refine m_l rfl rfl (fun w H => op_yield (wn rfl) rfl rfl rfl S rfl rfl (hround k (by omega) z _ H.tail) fun u w hc a S => ?_)
  obtain ⟨b, rfl, z2, H⟩ := hc
  refine m_tail H rfl ?_
  refine m_w rfl rfl (wn rfl) rfl rfl S (fun w H => y_not rfl S rfl) fun a S => ?_
  refine m_nil (fun w H => ?_)
  refine n_then ?_
  have S := (((((S.nil.cons S 3 rfl).cons S 2 rfl).cons S 0 rfl).cons S 6 rfl).cons S 7 rfl).cons S 20 rfl
  refine c_if S rfl (fun h2 => ?_) (fun h2 => ?_)
  ·have h2p := h2; try simp only [DL] at h2p
   refine g_ret ?_
   refine r_block (r_then (r_then (r_block (ret0 rfl S ?_))))
   obtain rfl : b = false := by simpa using h2
   exact .inr ⟨z2, H⟩
  ·have h2p := h2; try simp only [DL] at h2p
   refine g_skip ?_
   refine n_block ?_
   refine n_then ?_
   refine g_region ?_
   refine gy rfl rfl rfl S (y_add rfl S rfl rfl (by omega)) fun a S => ?_
   refine gm S fun a S => ?_
   refine gnt ?_
   obtain rfl : b = true := by simpa using h2
   exact ⟨k + 1, S.nil.cons S 7 rfl, (((S.nil.cons S 3 rfl).cons S 2 rfl).cons S 0 rfl).cons S 6 rfl, ⟨by omega, z2, H⟩, by omega⟩
 ·have h1p := h1; try simp only [DL] at h1p
  obtain rfl : k = hashes := by omega
  refine g_exit ?_
  refine x_then (x_then (x_eq ?_))
  refine ret0n rfl S ?_
  exact .inl ⟨z, H⟩
/-- foyer/filter.valid -/
theorem fvalid_spec (fq fh : Nat) (wv : Value) (ws : List Nat) (w0 : World) (hfq : 1 ≤ fq ∧ fq ≤ 64) (hfh : 1 ≤ fh ∧ fh ≤ 8) (hw : IsSl w0 wv 1 encU ws) (hl : ws.length = fq) :
    Ret Tryz.prog 54 #[.agg (encF fq fh wv).toArray] w0 (fun u w => u = .bool true ∧ Ext w0 w) := by
 refine ret_of_wp (nt := 17) Tryz.func54 rfl rfl rfl (fl := [(0, .agg (encF fq fh wv).toArray)]) rfl (fun a S => ?_)
 have H := HSat.start w0
 have H := H.ro0 (Sl wv 1 encU ws) rfl (hw)
 obtain ⟨pw, cw, hpw⟩ := hw.shape
 refine gsr ?_
 refine wl_of (op_boxa (wn rfl) rfl rfl rfl S H (by rw [hpw]; rfl) fun b1 a w S H => ?_)
 rw [← hpw] at H
 refine ga S fun a S => ?_
 refine gnt ?_
 refine gsr ?_
 refine gy rfl rfl rfl S (y_faddrb rfl Ffo40_0 S rfl) fun a S => ?_
 refine gy rfl rfl rfl S (y_load rfl Fsca3 S H rfl rfl) fun a S => ?_
 refine gy rfl rfl rfl S (y_faddrb rfl Ffo40_1 S rfl) fun a S => ?_
 refine gy rfl rfl rfl S (y_load rfl Fsca3 S H rfl rfl) fun a S => ?_
 refine wl_of (op_call (wn rfl) rfl rfl S (co_func rfl Tryz.call26 S rfl) (form_spec fq fh _ hfq hfh) fun v w hc a S => ?_)
 obtain ⟨rfl, he⟩ := hc
 have H := H.ext he
 refine gm S fun a S => ?_
 refine gz 8 rfl S rfl rfl rfl rfl rfl rfl (y_faddrb rfl Ffo40_2 S rfl) fun a S => ?_
 refine gz 8 rfl S rfl rfl rfl rfl rfl rfl (y_load rfl Fsca38 S H rfl rfl) fun a S => ?_
 refine gz 8 rfl S rfl rfl rfl rfl rfl rfl (y_lens rfl Tryz.underlying38 S H rfl) fun a S => ?_
 refine gz 8 rfl S rfl rfl rfl rfl rfl rfl (y_faddrb rfl Ffo40_0 S rfl) fun a S => ?_
 refine gz 8 rfl S rfl rfl rfl rfl rfl rfl (y_load rfl Fsca3 S H rfl rfl) fun a S => ?_
 refine gz 8 rfl S rfl rfl rfl rfl rfl rfl ((y_quon (m := ((64 * fq : Nat) : Int)) (q := 64) rfl S rfl rfl (by omega) (by omega) (by omega))) fun a S => ?_
 refine gz 8 rfl S rfl rfl rfl rfl rfl rfl (y_bin rfl S rfl rfl rfl) fun a S => ?_
 refine gy rfl rfl rfl S (y_and' rfl rfl S rfl rfl) fun a S => ?_
 refine ga S fun a S => ?_
 refine gnt ?_
 have S := S.nil.cons S 2 rfl
 refine g_ret ?_
 refine ret1 rfl S rfl ?_
 exact ⟨congrArg Value.bool (by rw [hl]; simp), H.toExt⟩
end Go.Proofs.YtjdbggnhdeaflaaGreatDoor
end
section
namespace Go.Proofs.YtjdbggnhdeaflaaGreatDoor
open Go Go.Gw
set_option linter.unusedVariables false
set_option linter.unusedSimpArgs false
theorem ret2ctM {P : Program} {fl : Slots} {a : Act} {w w0 : World} {v : Value} {M : Nat → Prop} {l : List Atom} {fn : Func} {R : Value → World → Prop} {t u T b : Nat} {cs : List Value} {T' : TypeId} {fz : Nat × Nat} {m : Nat} {ds : List Nat} (hr : fn.results = #[.cell u T, .tmp t]) (S : St ⟨m, ds⟩ fl a) (H : HSat M w0 (DefsA ds :: l) w) (hu : fl.lookup u = some (.pointer (some ⟨b, 0, none⟩))) (hv : fl.lookup t = some v)
    [h : HasRd l b (.cells cs.toArray T' fz)] (hT : aggB P T cs.length = true) (hR : ∀ w, HSat M w0 l w → R (.tuple #[.agg cs.toArray, v]) w) : endP P fn R .ret a w := by
  show LeavesInM Fence.wide 0 P fn a.tmps _ a.defers .returning w
  rw [S.defers]
  refine leavesM (fun w H => ?_) hR ds w H
  have hl := run_loadVar_agg (P := P) (w := w) (p := ⟨b, 0, none⟩) hT (fun j u hu => by rw [add_plain, H.cell h]; simpa using hu)
  have hu' : a.tmps[u]?.getD undef = .pointer (some ⟨b, 0, none⟩) := by rw [← Array.getD_eq_getD_getElem?]; exact S.get u _ hu
  have h1 : a.tmps[t]?.getD undef = v := by rw [← Array.getD_eq_getD_getElem?]; exact S.get t _ hv
  simp [results, hr, hu', h1, asAddr, hl]
/-- foyer/filter.Make$1 -/
theorem set_spec {M : Nat → Prop} {u0 : World} {l : List Atom} (c1 : Nat) (wv : Value) (ws : List Nat) (n : Nat) (fq fh : Nat) (w0 : World) (h0 : HSat M u0 (Cel c1 40 (encF fq fh wv) :: OSl 70 wv 1 encU (ws) :: l) w0) (hw : WOk fq ws) (hn : n < 64 * fq) (hfq64 : fq ≤ 64) :
    Ret Tryz.prog 27 #[.int .i64 (n : Int), .pointer (some ⟨c1, 0, none⟩)] w0 (fun u w => u = .tuple #[] ∧ HSat M u0 (Cel c1 40 (encF fq fh wv) :: OSl 70 wv 1 encU (setW ws n) :: l) w) := by
 refine ret_of_wp (nt := 14) Tryz.func27 rfl rfl rfl (fl := [(0, .int .i64 (n : Int)), (1, .pointer (some ⟨c1, 0, none⟩))]) rfl (fun a S => ?_)
 have H := h0
 have hl := hw.len
 have hi : n / 64 < ws.length := by omega
 have hg : ws.getD (n / 64) 0 = ws[n / 64] := by rw [List.getD_eq_getElem?_getD, List.getElem?_eq_getElem hi]; rfl
 refine region_st (loud := [11]) (tails := [11]) (free := []) [0, 1, 2, 3, 4, 5, 6, 7, 8, 9, 10, 11] [] Fmo (by kernel_rfl) (by kernel_rfl) rfl H ?_
 refine m_w rfl rfl (wn rfl) rfl rfl S (fun w H => y_faddrb rfl Ffo40_2 S rfl) fun a S => ?_
 refine m_w rfl rfl (wn rfl) rfl rfl S (fun w H => y_load rfl Fsca38 S H rfl rfl) fun a S => ?_
 refine m_w rfl rfl (wn rfl) rfl rfl S (fun w H => y_move rfl S rfl) fun a S => ?_
 refine m_w rfl rfl (wn rfl) rfl rfl S (fun w H => (y_quon (m := n) (q := 64) rfl S rfl rfl (by omega) (by omega) (by omega))) fun a S => ?_
 refine m_w rfl rfl (wn rfl) rfl rfl S (fun w H => y_iaddrn rfl Tryz.underlying38 Fsiz70 S H rfl rfl (by first | assumption | omega | (simp only [LL]; omega))) fun a S => ?_
 refine m_loads _ rfl rfl (wn rfl) rfl rfl S rfl Fsca70 rfl (by first | assumption | omega | (simp only [LL]; omega)) rfl fun a S => ?_
 refine m_w rfl rfl (wn rfl) rfl rfl S (fun w H => y_move rfl S rfl) fun a S => ?_
 refine m_w rfl rfl (wn rfl) rfl rfl S (fun w H => (y_remn (m := n) (q := 64) rfl S rfl rfl (by omega) (by omega))) fun a S => ?_
 refine m_w rfl rfl (wn rfl) rfl rfl S (fun w H => (y_shlu (m := 1) (q := n % 64) (r := 1 <<< (n % 64)) rfl S rfl rfl (by omega) rfl (bit_lt n))) fun a S => ?_
 refine m_w rfl rfl (wn rfl) rfl rfl S (fun w H => (y_oru (m := ws[n / 64]) (q := 1 <<< (n % 64)) rfl S rfl rfl (hw.at hi) (bit_lt n) rfl)) fun a S => ?_
 refine m_w rfl rfl (wn rfl) rfl rfl S (fun w H => y_iaddrn rfl Tryz.underlying38 Fsiz70 S H rfl rfl (by first | assumption | omega | (simp only [LL]; omega))) fun a S => ?_
 refine m_l rfl rfl (fun w H => op_store1 _ ((ws[n / 64] ||| (1 <<< (n % 64)))) (wn rfl) rfl rfl S H rfl rfl rfl rfl Fsiz70 (by first | assumption | omega | (simp only [LL]; omega)) (by exact rfl) fun a w S H => m_tail H rfl ?_)
 refine m_nil (fun w H => ?_)
 refine ret0n rfl S ?_
 refine ⟨rfl, ?_⟩
 unfold setW
 rw [hg]
 exact H
set_option maxHeartbeats 2000000 in
/-- foyer/filter.Make -/
theorem make_spec (fq fh : Nat) (v : Value) (ns : List Int) (w0 : World) (hfq : 1 ≤ fq ∧ fq ≤ 64) (hfh : 1 ≤ fh ∧ fh ≤ 8) (hv : IsSl w0 v 1 encI ns) (hns : ∀ s ∈ ns, -9223372036854775808 ≤ s ∧ s ≤ 9223372036854775807) (hT : Tabs w0) :
    Ret Tryz.prog 11 #[v, .int .i64 ((64 * fq : Nat) : Int), .int .i64 (fh : Int)] w0 (fun u w => ∃ wv, u = .tuple #[.agg (encF fq fh wv).toArray, .int .i64 0] ∧ HSat No w0 [OSl 70 wv 1 encU (makeW fq fh ns)] w) := by
 refine ret_of_wp (nt := 41) Tryz.func11 rfl rfl rfl (fl := [(0, v), (1, .int .i64 ((64 * fq : Nat) : Int)), (2, .int .i64 (fh : Int))]) rfl (fun a S => ?_)
 have H := HSat.start w0
 have H := H.ro0 (TabsA) rfl (hT)
 have H := H.ro0 (Sl v 1 encI ns) rfl (hv)
 have hlen := hv.len
 refine gsr ?_
 refine wl_of (op_alloc (wn rfl) rfl rfl rfl S H Fzer40 fun b6 a w S H => ?_)
 refine ga S fun a S => ?_
 refine gnt ?_
 refine g_seq ?_
 refine gsr ?_
 refine gm S fun a S => ?_
 refine gm S fun a S => ?_
 refine wl_of (op_call (wn rfl) rfl rfl S (co_func rfl Tryz.call26 S rfl) (form_spec fq fh _ hfq hfh) fun v w hc a S => ?_)
 obtain ⟨rfl, he⟩ := hc
 have H := H.ext he
 refine gy rfl rfl rfl S (y_not rfl S rfl) fun a S => ?_
 refine gnt ?_
 refine c_if S rfl (fun h1 => ?_) (fun h1 => ?_)
 ·have h1p := h1; try simp only [DL] at h1p
  all_goals (
    exact absurd h1 (by simp))
 ·have h1p := h1; try simp only [DL] at h1p
  refine g_skip ?_
  refine n_then ?_
  have S := ((((S.nil.cons S 2 rfl).cons S 1 rfl).cons S 0 rfl).cons S 6 rfl).cons S 7 rfl
  refine gsr ?_
  refine gm S fun a S => ?_
  refine gm S fun a S => ?_
  refine gm S fun a S => ?_
  refine gy rfl rfl rfl S ((y_quon (m := ((64 * fq : Nat) : Int)) (q := 64) rfl S rfl rfl (by omega) (by omega) (by omega))) fun a S => ?_
  rw [show (((64 * fq : Nat) : Int) / 64) = (fq : Int) by omega] at S
  refine wl_of (op_make (encU) (0) (wn rfl) rfl rfl rfl Tryz.underlying38 Finf70 rfl rfl S H rfl rfl rfl (by omega) (by omega) fun b22 a w S H => ?_)
  refine gy rfl rfl rfl S (y_buildf rfl Fbld40 S rfl (idx := [0, 1, 2]) rfl (cs := [.int .i64 ((64 * fq : Nat) : Int), .int .i64 (fh : Int), (.slice (some ⟨b22, 0, none⟩) fq fq)]) (by kernel_rfl)) fun a S => ?_
  refine wl_of (op_alloc (wn rfl) rfl rfl rfl S H Fzer40 fun b8 a w S H => ?_)
  refine wl_of (op_storea (wn rfl) rfl rfl S H rfl rfl rfl Fsiz40 rfl (cs' := encF fq fh (.slice (some ⟨b22, 0, none⟩) fq fq)) rfl fun a w S H => ?_)
  refine gnt ?_
  have S := (((((S.nil.cons S 2 rfl).cons S 1 rfl).cons S 0 rfl).cons S 6 rfl).cons S 7 rfl).cons S 8 rfl
  refine gsr ?_
  refine gy rfl rfl rfl S (y_makeFunc rfl S rfl rfl) fun a S => ?_
  refine wl_of (op_alloc (wn rfl) rfl rfl rfl S H Fzer71 fun b9 a w S H => ?_)
  refine wl_of (op_store (wn rfl) rfl rfl S H rfl rfl rfl Fsiz71 rfl fun a w S H => ?_)
  dsimp only [List.set, Nat.zero_add, Nat.reduceAdd] at H
  refine gnt ?_
  refine g_seq ?_
  refine gsr ?_
  refine gm S fun a S => ?_
  refine gy rfl rfl rfl S (y_lens rfl Tryz.underlying27 S H rfl) fun a S => ?_
  refine gm S fun a S => ?_
  refine gnt ?_
  refine g_block ?_
  have H := ((H.front (Cel b9 71 [.func (.func 27) #[] #[.pointer (some ⟨b8, 0, none⟩)]])).freeze.defs0).take [DefsA [], Cel b8 40 (encF fq fh (.slice (some ⟨b22, 0, none⟩) fq fq)), OSl 70 (.slice (some ⟨b22, 0, none⟩) fq fq) 1 encU (List.replicate fq 0), Atom.ro (Cel b9 71 [.func (.func 27) #[] #[.pointer (some ⟨b8, 0, none⟩)]]), Cel b6 40 [.int .i64 0, .int .i64 0, .slice none 0 0], Sl v 1 encI ns, TabsA]
  have SU := (((((((S.nil.cons S 2 rfl).cons S 1 rfl).cons S 6 rfl).cons S 7 rfl).cons S 8 rfl).cons S 9 rfl).cons S 25 rfl).cons S 26 rfl
  refine loopD (X := Nat × List Nat) (fun x => x.2) (fun x => [(27, .int .i64 (x.1 : Int))]) (fun x w => x.1 ≤ ns.length ∧ HSat No w0 [DefsA x.2, Cel b8 40 (encF fq fh (.slice (some ⟨b22, 0, none⟩) fq fq)), OSl 70 (.slice (some ⟨b22, 0, none⟩) fq fq) 1 encU (makeW fq fh (ns.take x.1)), Atom.ro (Cel b9 71 [.func (.func 27) #[] #[.pointer (some ⟨b8, 0, none⟩)]]), Cel b6 40 [.int .i64 0, .int .i64 0, .slice none 0 0], Sl v 1 encI ns, TabsA] w) (fun x => ns.length - x.1) (0, []) SU (S.nil.cons S 27 rfl) (⟨Nat.zero_le _, H⟩) (fun x a w S hW => ?_)
  simp only [List.cons_append, List.nil_append] at S
  obtain ⟨i, ds⟩ := x
  obtain ⟨hi, H⟩ := hW
  dsimp only at S H hi
  refine gsr ?_
  refine gy rfl rfl rfl S (y_bin rfl S rfl rfl rfl) fun a S => ?_
  refine gnt ?_
  refine g_seq ?_
  refine c_if S rfl (fun h2 => ?_) (fun h2 => ?_)
  ·have h2p := h2; try simp only [DL] at h2p
   have hil : i < ns.length := by omega
   have hsn := hns _ (List.getElem_mem hil)
   refine g_skip ?_
   refine n_then ?_
   refine g_seq ?_
   refine g_block ?_
   refine gsr ?_
   refine gy rfl rfl rfl S (y_iaddrn rfl Tryz.underlying27 Fsiz3 S H rfl rfl (by first | assumption | omega | (simp only [LL]; omega))) fun a S => ?_
   refine gy rfl rfl rfl S (y_loads _ rfl Fsca3 S H rfl (by first | assumption | omega | (simp only [LL]; omega)) rfl) fun a S => ?_
   refine ga S fun a S => ?_
   refine gnt ?_
   refine gsr ?_
   refine gm S fun a S => ?_
   refine gm S fun a S => ?_
   refine gm S fun a S => ?_
   refine wl_of (op_call (wn rfl) rfl rfl S (co_func rfl Tryz.call28 S rfl) (positions_spec ns[i] ((64 * fq : Nat) : Int) (fh : Int) _) fun v w hc a S => ?_)
   obtain ⟨b5, b3, b4, rfl, H1⟩ := hc
   have H := H.call H1 (by simp [Blk])
   simp only [List.cons_append, List.nil_append] at H
   have H := ((H.freeze.front (Cel b4 3 [.int .i64 ((64 * fq : Nat) : Int)])).freeze.front (Cel b3 3 [.int .i64 ns[i]])).freeze
   refine gnt ?_
   have S := (((((((((S.nil.cons S 2 rfl).cons S 1 rfl).cons S 6 rfl).cons S 7 rfl).cons S 8 rfl).cons S 9 rfl).cons S 25 rfl).cons S 26 rfl).cons S 27 rfl).cons S 34 rfl
   refine g_block ?_
   refine g_range (Φ := fun p l2 => p = none ∧ l2 = [Cel b8 40 (encF fq fh (.slice (some ⟨b22, 0, none⟩) fq fq)), OSl 70 (.slice (some ⟨b22, 0, none⟩) fq fq) 1 encU (setP fq (makeW fq fh (ns.take i)) ns[i] (fh)), Atom.ro (Cel b9 71 [.func (.func 27) #[] #[.pointer (some ⟨b8, 0, none⟩)]]), Cel b6 40 [.int .i64 0, .int .i64 0, .slice none 0 0], Sl v 1 encI ns, TabsA]) S (H.take [DefsA ds, Atom.ro (Cel b5 3 [.int .i64 (fh : Int)]), Atom.ro (Cel b3 3 [.int .i64 ns[i]]), Atom.ro (Cel b4 3 [.int .i64 ((64 * fq : Nat) : Int)]), TabsA, Cel b8 40 (encF fq fh (.slice (some ⟨b22, 0, none⟩) fq fq)), OSl 70 (.slice (some ⟨b22, 0, none⟩) fq fq) 1 encU (makeW fq fh (ns.take i)), Atom.ro (Cel b9 71 [.func (.func 27) #[] #[.pointer (some ⟨b8, 0, none⟩)]]), Cel b6 40 [.int .i64 0, .int .i64 0, .slice none 0 0], Sl v 1 encI ns]) rfl Tryz.call51 (fun R lb w1 hrec H1 => ?_) ?_
   ·have SR := S.recd
    refine Ret.mono (pos_iter (M := No) (u0 := w0) (Z := Unit) (fun k _ => Blk lb (.loop R) :: DefsA (R.defers :: ds) :: Cel b8 40 (encF fq fh (.slice (some ⟨b22, 0, none⟩) fq fq)) :: OSl 70 (.slice (some ⟨b22, 0, none⟩) fq fq) 1 encU (setP fq (makeW fq fh (ns.take i)) ns[i] (k)) :: Atom.ro (Cel b9 71 [.func (.func 27) #[] #[.pointer (some ⟨b8, 0, none⟩)]]) :: Cel b6 40 [.int .i64 0, .int .i64 0, .slice none 0 0] :: Sl v 1 encI ns :: []) (fun _ => [PureA False]) lb b5 b3 b4 ns[i] (64 * fq) fh w1 hsn (by omega) (by omega) (fun k hk z w H => ?_) ⟨(), by have h := H1.take (Atom.ro (Cel b5 3 [.int .i64 (fh : Int)]) :: Atom.ro (Cel b3 3 [.int .i64 ns[i]]) :: Atom.ro (Cel b4 3 [.int .i64 ((64 * fq : Nat) : Int)]) :: TabsA :: Blk lb (.loop R) :: DefsA (R.defers :: ds) :: Cel b8 40 (encF fq fh (.slice (some ⟨b22, 0, none⟩) fq fq)) :: OSl 70 (.slice (some ⟨b22, 0, none⟩) fq fq) 1 encU (makeW fq fh (ns.take i)) :: Atom.ro (Cel b9 71 [.func (.func 27) #[] #[.pointer (some ⟨b8, 0, none⟩)]]) :: Cel b6 40 [.int .i64 0, .int .i64 0, .slice none 0 0] :: Sl v 1 encI ns :: []); exact h⟩) ?_
    ·skip
     skip
     refine yield1 hrec SR H rfl (fun a S => ?_)
     refine g_region ?_
     refine ga S fun a S => ?_
     refine gnt ?_
     refine r_begin hrec H (fun w H => ?_)
     refine g_block ?_
     refine g_region ?_
     refine gy rfl rfl rfl S (y_load rfl Fsca71 S H rfl rfl) fun a S => ?_
     refine gm S fun a S => ?_
     refine wl_of (op_call (wn rfl) rfl rfl S (co_value rfl Tryz.call27 S rfl rfl) (set_spec b8 (.slice (some ⟨b22, 0, none⟩) fq fq) (setP fq (makeW fq fh (ns.take i)) ns[i] (k)) (posN ns[i] (64 * fq) k) fq fh _ (H.front2 (Cel b8 40 (encF fq fh (.slice (some ⟨b22, 0, none⟩) fq fq))) (OSl 70 (.slice (some ⟨b22, 0, none⟩) fq fq) 1 encU (setP fq (makeW fq fh (ns.take i)) ns[i] (k)))) ((makeW_ok (by omega) _ _).setP (by omega) _ k) (posN_lt _ (by omega) k) hfq.2) fun v w hc a S => ?_)
     obtain ⟨rfl, H⟩ := hc
     
     refine gl_nil ?_
     refine n_block ?_
     refine r_end hrec H (fun w H => ?_)
     rw [show setW (setP fq (makeW fq fh (ns.take i)) ns[i] (k)) (posN ns[i] (64 * fq) k) = setP fq (makeW fq fh (ns.take i)) ns[i] (k + 1) from rfl] at H
     exact ⟨true, rfl, (), H.take (Atom.ro (Cel b5 3 [.int .i64 (fh : Int)]) :: Atom.ro (Cel b3 3 [.int .i64 ns[i]]) :: Atom.ro (Cel b4 3 [.int .i64 ((64 * fq : Nat) : Int)]) :: TabsA :: Blk lb (.loop R) :: DefsA (R.defers :: ds) :: Cel b8 40 (encF fq fh (.slice (some ⟨b22, 0, none⟩) fq fq)) :: OSl 70 (.slice (some ⟨b22, 0, none⟩) fq fq) 1 encU (setP fq (makeW fq fh (ns.take i)) ns[i] (k + 1)) :: Atom.ro (Cel b9 71 [.func (.func 27) #[] #[.pointer (some ⟨b8, 0, none⟩)]]) :: Cel b6 40 [.int .i64 0, .int .i64 0, .slice none 0 0] :: Sl v 1 encI ns :: [])⟩
    ·rintro _ w2 (⟨_, H2⟩ | ⟨_, H2⟩)
     · exact ⟨.ready, none, _, by simp, ⟨rfl, rfl⟩, by rw [hrec.same]; exact H2.take [Blk lb (.loop R), DefsA (R.defers :: ds), Cel b8 40 (encF fq fh (.slice (some ⟨b22, 0, none⟩) fq fq)), OSl 70 (.slice (some ⟨b22, 0, none⟩) fq fq) 1 encU (setP fq (makeW fq fh (ns.take i)) ns[i] (fh)), Atom.ro (Cel b9 71 [.func (.func 27) #[] #[.pointer (some ⟨b8, 0, none⟩)]]), Cel b6 40 [.int .i64 0, .int .i64 0, .slice none 0 0], Sl v 1 encI ns, TabsA]⟩
     · exact (H2.take [PureA False]).fact.elim
   ·intro bd a w pend l2 S H hΦ
    obtain ⟨rfl, rfl⟩ := hΦ
    refine n_block ?_
    refine n_block ?_
    refine n_then ?_
    refine g_region ?_
    refine gy rfl rfl rfl S (y_add rfl S rfl rfl (by omega)) fun a S => ?_
    refine gm S fun a S => ?_
    refine gnt ?_
    exact ⟨(i + 1, bd :: ds), S.nil.cons S 27 rfl, (((((((S.nil.cons S 2 rfl).cons S 1 rfl).cons S 6 rfl).cons S 7 rfl).cons S 8 rfl).cons S 9 rfl).cons S 25 rfl).cons S 26 rfl, ⟨by dsimp only; omega, by dsimp only; rw [List.take_succ_eq_append_getElem hil, makeW_snoc]; exact H.take [DefsA (bd :: ds), Cel b8 40 (encF fq fh (.slice (some ⟨b22, 0, none⟩) fq fq)), OSl 70 (.slice (some ⟨b22, 0, none⟩) fq fq) 1 encU (setP fq (makeW fq fh (ns.take i)) ns[i] (fh)), Atom.ro (Cel b9 71 [.func (.func 27) #[] #[.pointer (some ⟨b8, 0, none⟩)]]), Cel b6 40 [.int .i64 0, .int .i64 0, .slice none 0 0], Sl v 1 encI ns, TabsA]⟩, by dsimp only; omega⟩
  ·have h2p := h2; try simp only [DL] at h2p
   obtain rfl : i = ns.length := by omega
   rw [List.take_length] at H
   refine g_exit ?_
   refine x_then (x_then (x_eq ?_))
   refine n_then ?_
   have S := ((S.nil.cons S 6 rfl).cons S 7 rfl).cons S 8 rfl
   refine gsr ?_
   refine gy rfl rfl rfl S (y_load0 rfl S H rfl (by exact Fagg40)) fun a S => ?_
   refine wl_of (op_storea (wn rfl) rfl rfl S H rfl rfl rfl Fsiz40 rfl (cs' := [_, _, _]) rfl fun a w S H => ?_)
   refine ga S fun a S => ?_
   refine gnt ?_
   refine g_ret ?_
   refine ret2ctM rfl S (H.front (DefsA ds)) rfl rfl (by exact Fagg40) (fun w H => ?_)
   exact ⟨_, rfl, H.take [OSl 70 (.slice (some ⟨b22, 0, none⟩) fq fq) 1 encU (makeW fq fh ns)]⟩
end Go.Proofs.YtjdbggnhdeaflaaGreatDoor
end
section
namespace Go.Proofs.YtjdbggnhdeaflaaGreatDoor
open Go Go.Gw
set_option linter.unusedVariables false
set_option linter.unusedSimpArgs false
theorem and1 (x : Nat) : x &&& 1 = x % 2 := Nat.and_one_is_mod x
set_option maxHeartbeats 2000000 in
/-- foyer/filter.Has -/
theorem has_spec (fq fh : Nat) (wv : Value) (ws : List Nat) (serial : Int) (w0 : World) (hfq : 1 ≤ fq ∧ fq ≤ 64) (hfh : 1 ≤ fh ∧ fh ≤ 8) (hw : IsSl w0 wv 1 encU ws) (hok : WOk fq ws) (hser : -9223372036854775808 ≤ serial ∧ serial ≤ 9223372036854775807) (hT : Tabs w0) :
    Ret Tryz.prog 37 #[.agg (encF fq fh wv).toArray, .int .i64 serial] w0 (fun u w => u = .bool (hasF fq fh ws serial) ∧ Ext w0 w) := by
 refine ret_of_wp (nt := 27) Tryz.func37 rfl rfl rfl (fl := [(0, .agg (encF fq fh wv).toArray), (1, .int .i64 serial)]) rfl (fun a S => ?_)
 have H := HSat.start w0
 have H := H.ro0 (TabsA) rfl (hT)
 have H := H.ro0 (Sl wv 1 encU ws) rfl (hw)
 obtain ⟨pw, cw, hpw⟩ := hw.shape
 have hl := hok.len
 refine gsr ?_
 refine wl_of (op_boxa (wn rfl) rfl rfl rfl S H (by rw [hpw]; rfl) fun b2 a w S H => ?_)
 rw [← hpw] at H
 refine wl_of (op_alloc (wn rfl) rfl rfl rfl S H Fzer4 fun b4 a w S H => ?_)
 refine gnt ?_
 refine g_seq ?_
 refine gsr ?_
 refine gy rfl rfl rfl S (y_load0 rfl S H rfl (by exact Fagg40)) fun a S => ?_
 refine wl_of (op_call (wn rfl) rfl rfl S (co_func rfl Tryz.call54 S rfl) (fvalid_spec fq fh wv ws _ hfq hfh (H.sl wv) hl) fun v w hc a S => ?_)
 obtain ⟨rfl, he⟩ := hc
 have H := H.ext he
 refine gy rfl rfl rfl S (y_not rfl S rfl) fun a S => ?_
 refine gnt ?_
 refine c_if S rfl (fun h1 => ?_) (fun h1 => ?_)
 ·have h1p := h1; try simp only [DL] at h1p
  all_goals (
    exact absurd h1 (by simp))
 ·have h1p := h1; try simp only [DL] at h1p
  refine g_skip ?_
  refine n_then ?_
  have S := ((S.nil.cons S 1 rfl).cons S 2 rfl).cons S 4 rfl
  refine g_seq ?_
  refine gsr ?_
  refine gm S fun a S => ?_
  refine gy rfl rfl rfl S (y_faddrb rfl Ffo40_0 S rfl) fun a S => ?_
  refine gy rfl rfl rfl S (y_load rfl Fsca3 S H rfl rfl) fun a S => ?_
  refine gy rfl rfl rfl S (y_faddrb rfl Ffo40_1 S rfl) fun a S => ?_
  refine gy rfl rfl rfl S (y_load rfl Fsca3 S H rfl rfl) fun a S => ?_
  refine wl_of (op_call (wn rfl) rfl rfl S (co_func rfl Tryz.call28 S rfl) (positions_spec serial ((64 * fq : Nat) : Int) (fh : Int) _) fun v w hc a S => ?_)
  obtain ⟨b5, b3, b4p, rfl, H1⟩ := hc
  have H := H.call H1 (by simp [Blk])
  simp only [List.cons_append, List.nil_append] at H
  have H := ((H.freeze.front (Cel b4p 3 [.int .i64 ((64 * fq : Nat) : Int)])).freeze.front (Cel b3 3 [.int .i64 serial])).freeze
  have H := (H.laid (p := ∀ i, i < 0 → bitW ws (posN serial (64 * fq) i) = true) (fun i h => absurd h (by omega))).defs0
  refine gnt ?_
  have S := ((S.nil.cons S 2 rfl).cons S 4 rfl).cons S 14 rfl
  refine g_block ?_
  refine g_range (Φ := fun p l2 => l2 = [Cel b4 4 [.bool false]] ∧ ((p = none ∧ ∀ i, i < fh → bitW ws (posN serial (64 * fq) i) = true) ∨ (p = some .ret ∧ ∃ i, i < fh ∧ bitW ws (posN serial (64 * fq) i) = false))) S (H.take [DefsA [], PureA (∀ i, i < 0 → bitW ws (posN serial (64 * fq) i) = true), Atom.ro (Cel b5 3 [.int .i64 (fh : Int)]), Atom.ro (Cel b3 3 [.int .i64 serial]), Atom.ro (Cel b4p 3 [.int .i64 ((64 * fq : Nat) : Int)]), TabsA, Cel b4 4 [.bool false], Cel b2 40 (encF fq fh wv), Sl wv 1 encU ws]) rfl Tryz.call51 (fun R lb w1 hrec H1 => ?_) ?_
  ·have SR := S.recd
   refine Ret.mono (pos_iter (M := No) (u0 := w0) (Z := Unit) (fun k _ => Blk lb (.loop R) :: DefsA [R.defers] :: Cel b4 4 [.bool false] :: Cel b2 40 (encF fq fh wv) :: Sl wv 1 encU ws :: PureA (∀ i, i < k → bitW ws (posN serial (64 * fq) i) = true) :: []) (fun _ => Blk lb (.loop { R with state := .done, pending := some .ret }) :: DefsA [R.defers] :: Cel b4 4 [.bool false] :: PureA (∃ i, i < fh ∧ bitW ws (posN serial (64 * fq) i) = false) :: []) lb b5 b3 b4p serial (64 * fq) fh w1 hser (by omega) (by omega) (fun k hk z w H => ?_) ⟨(), H1.take (Atom.ro (Cel b5 3 [.int .i64 (fh : Int)]) :: Atom.ro (Cel b3 3 [.int .i64 serial]) :: Atom.ro (Cel b4p 3 [.int .i64 ((64 * fq : Nat) : Int)]) :: TabsA :: Blk lb (.loop R) :: DefsA [R.defers] :: Cel b4 4 [.bool false] :: Cel b2 40 (encF fq fh wv) :: Sl wv 1 encU ws :: PureA (∀ i, i < 0 → bitW ws (posN serial (64 * fq) i) = true) :: [])⟩) ?_
   ·have hpl := posN_lt serial (bits := 64 * fq) (by omega) k
    obtain ⟨m, hm⟩ : ∃ m, m = posN serial (64 * fq) k := ⟨_, rfl⟩
    rw [← hm] at hpl ⊢
    refine yield1 hrec SR H rfl (fun a S => ?_)
    refine g_region ?_
    refine ga S fun a S => ?_
    refine gnt ?_
    refine r_begin hrec H (fun w H => ?_)
    refine g_block ?_
    refine gsr ?_
    refine gy rfl rfl rfl S (y_faddrb rfl Ffo40_2 S rfl) fun a S => ?_
    refine gy rfl rfl rfl S (y_load rfl Fsca38 S H rfl rfl) fun a S => ?_
    refine gm S fun a S => ?_
    refine gy rfl rfl rfl S ((y_quon (m := m) (q := 64) rfl S rfl rfl (by omega) (by omega) (by omega))) fun a S => ?_
    refine gy rfl rfl rfl S (y_iaddrn rfl Tryz.underlying38 Fsiz70 S H rfl rfl (by first | assumption | omega | (simp only [LL]; omega))) fun a S => ?_
    refine gy rfl rfl rfl S (y_loads _ rfl Fsca70 S H rfl (by first | assumption | omega | (simp only [LL]; omega)) rfl) fun a S => ?_
    refine gm S fun a S => ?_
    refine gy rfl rfl rfl S ((y_remn (m := m) (q := 64) rfl S rfl rfl (by omega) (by omega))) fun a S => ?_
    refine gy rfl rfl rfl S ((y_shru (m := ws[m / 64]) (q := m % 64) rfl S rfl rfl (by omega) rfl)) fun a S => ?_
    refine gy rfl rfl rfl S ((y_andu (m := ws[m / 64] >>> (m % 64)) (q := 1) rfl S rfl rfl (shr_lt (hok.at (by omega))) (by decide) (and1 _))) fun a S => ?_
    refine gy rfl rfl rfl S (y_bin rfl S rfl rfl rfl) fun a S => ?_
    refine gnt ?_
    have S := (S.nil.cons S 4 rfl).cons S 26 rfl
    refine c_if S rfl (fun h2 => ?_) (fun h2 => ?_)
    ·have h2p := h2; try simp only [DL] at h2p
     have hst : bitW ws (posN serial (64 * fq) k) = false := by rw [← hm, bitW_at (by omega), decide_eq_false_iff_not]; have h := h2p; omega
     refine gsr ?_
     refine wl_of (op_store (wn rfl) rfl rfl S H rfl rfl rfl Fsiz4 rfl fun a w S H => ?_)
     dsimp only [List.set, Nat.zero_add, Nat.reduceAdd] at H
     refine gnt ?_
     refine g_ret ?_
     refine r_block (r_ret H (fun w H => ?_))
     exact ⟨false, rfl, (), by have h := (H.laid (p := ∃ i, i < fh ∧ bitW ws (posN serial (64 * fq) i) = false) ⟨k, hk, hst⟩).take (Atom.ro (Cel b5 3 [.int .i64 (fh : Int)]) :: Atom.ro (Cel b3 3 [.int .i64 serial]) :: Atom.ro (Cel b4p 3 [.int .i64 ((64 * fq : Nat) : Int)]) :: TabsA :: Blk lb (.loop { R with state := .done, pending := some .ret }) :: DefsA [R.defers] :: Cel b4 4 [.bool false] :: PureA (∃ i, i < fh ∧ bitW ws (posN serial (64 * fq) i) = false) :: []); exact h⟩
    ·have h2p := h2; try simp only [DL] at h2p
     have hst : bitW ws (posN serial (64 * fq) k) = true := by rw [← hm, bitW_at (by omega), decide_eq_true_eq]; have h := h2p; omega
     refine g_skip ?_
     refine n_block ?_
     refine r_end hrec H (fun w H => ?_)
     exact ⟨true, rfl, (), by have h := (H.laid (p := ∀ i, i < k + 1 → bitW ws (posN serial (64 * fq) i) = true) (fun i hi => by by_cases hik : i < k; exact (H.take [PureA (∀ i, i < k → bitW ws (posN serial (64 * fq) i) = true)]).fact i hik; (obtain rfl : i = k := by omega); exact hst)).take (Atom.ro (Cel b5 3 [.int .i64 (fh : Int)]) :: Atom.ro (Cel b3 3 [.int .i64 serial]) :: Atom.ro (Cel b4p 3 [.int .i64 ((64 * fq : Nat) : Int)]) :: TabsA :: Blk lb (.loop R) :: DefsA [R.defers] :: Cel b4 4 [.bool false] :: Cel b2 40 (encF fq fh wv) :: Sl wv 1 encU ws :: PureA (∀ i, i < k + 1 → bitW ws (posN serial (64 * fq) i) = true) :: []); exact h⟩
   ·rintro _ w2 (⟨_, H2⟩ | ⟨_, H2⟩)
    · have hf := (H2.take [PureA (∀ i, i < fh → bitW ws (posN serial (64 * fq) i) = true)]).fact
      exact ⟨.ready, none, _, by simp, ⟨rfl, .inl ⟨rfl, hf⟩⟩, by rw [hrec.same]; exact H2.take [Blk lb (.loop R), DefsA [R.defers], Cel b4 4 [.bool false]]⟩
    · have hf := (H2.take [PureA (∃ i, i < fh ∧ bitW ws (posN serial (64 * fq) i) = false)]).fact
      exact ⟨.done, some .ret, _, by simp, ⟨rfl, .inr ⟨rfl, hf⟩⟩, H2.take [Blk lb (.loop { R with state := .done, pending := some .ret }), DefsA [R.defers], Cel b4 4 [.bool false]]⟩
  ·intro bd a w pend l2 S H hΦ
   obtain ⟨rfl, hΦ⟩ := hΦ
   rcases hΦ with ⟨rfl, hall⟩ | ⟨rfl, hbad⟩
   rotate_left
   ·skip
    refine g_ret ?_
    refine r_block (r_then (retcsM rfl S (H.front (DefsA [bd])) rfl Fsca4 rfl (fun w H => ?_)))
    obtain ⟨i, hi, hb⟩ := hbad
    exact ⟨congrArg Value.bool (by unfold hasF; rw [List.all_eq_false.2 ⟨i, List.mem_range.2 hi, by rw [hb]; simp⟩]), H.toExt⟩
   refine n_block ?_
   refine n_then ?_
   refine gsr ?_
   refine wl_of (op_store (wn rfl) rfl rfl S H rfl rfl rfl Fsiz4 rfl fun a w S H => ?_)
   dsimp only [List.set, Nat.zero_add, Nat.reduceAdd] at H
   refine gnt ?_
   refine g_ret ?_
   refine retcsM rfl S (H.front (DefsA [bd])) rfl Fsca4 rfl (fun w H => ?_)
   exact ⟨congrArg Value.bool (by unfold hasF; rw [List.all_eq_true.2 fun i hi => hall i (List.mem_range.1 hi)]), H.toExt⟩
end Go.Proofs.YtjdbggnhdeaflaaGreatDoor
end
section
namespace Go.Proofs.YtjdbggnhdeaflaaGreatDoor
open Go Go.Gw
set_option linter.unusedVariables false
set_option linter.unusedSimpArgs false
theorem y_negW {P : Program} {o : Oper} {n : Sz} {fl : Slots} {a : Act} {w : World} {T : TypeId} {x : Operand} {k : IntKind} {m r : Int} (ho : o.op = .unOp .neg T x) (S : St n fl a) (hx : ev fl x = some (.int k m)) (hr : k.wrap (-m) = r) : Yld P o a w (.int k r) := by
  unfold Yld execOp; rw [ho]; simp [S.ev hx, Op.unary, Op.intArith, hr]
theorem y_and1615 {P : Program} {o : Oper} {n : Sz} {fl : Slots} {a : Act} {w : World} {T U : TypeId} {x y : Operand} (ho : o.op = .binOp .and T x y U) (S : St n fl a) (hx : ev fl x = some (.int .i64 16)) (hy : ev fl y = some (.int .i64 15)) : Yld P o a w (.int .i64 0) := by
  unfold Yld execOp; rw [ho]; simp only [S.ev hx, S.ev hy]; rfl
theorem tsz (t : List UInt8) : (ByteArray.mk t.toArray).size = t.length := by simp [ByteArray.size]
def dbZ : List Nat := [0, 1, 56, 2, 57, 49, 28, 3, 61, 58, 42, 50, 38, 29, 17, 4, 62, 47, 59, 36, 45, 43, 51, 22, 53, 39, 33, 30, 24, 18, 12, 5, 63, 55, 48, 27, 60, 41, 37, 16, 46, 35, 44, 21, 52, 32, 23, 11, 54, 26, 40, 15, 34, 20, 31, 10, 25, 14, 19, 9, 13, 8, 7, 6]
def dbV : List Value := dbZ.map fun n : Nat => Value.int .u8 (n : Int)
def TabBs (w : World) : Prop := ∃ T fz, w.heap[8]? = some (.cells dbV.toArray T fz)
/-- the table, read alone -/
def TabB : Atom where
  own := false
  fp := (· = 8)
  ok := TabBs
  loc := fun w w' h ⟨T, fz, hk⟩ => ⟨T, fz, (h 8 rfl).trans hk⟩
  lt := fun w b ⟨T, fz, hk⟩ hb => by subst hb; exact (Array.getElem?_eq_some_iff.1 hk).1
instance ROs.tabB (r : List Atom) [h : ROs r] : ROs (TabB :: r) := ⟨by simpa [TabB] using h.all⟩
theorem tabB_of {M : Nat → Prop} {w0 w : World} {l : List Atom} (H : HSat M w0 l w) [h : HasAt l TabB] : TabBs w := H.ok TabB h.mem
theorem TabBs.ext {w w' : World} (e : Ext w w') (h : TabBs w) : TabBs w' := TabB.loc w w' (fun b hb => e.block (TabB.lt w b h hb)) h
/-- math/bits.TrailingZeros64 -/
theorem tz64_spec (w0 : World) (T0 : TypeId) (fz : Nat × Nat) (hG : w0.heap[8]? = some (.cells dbV.toArray T0 fz)) :
    Ret Tryz.prog 141 #[.int .u64 16] w0 (fun u w => u = .int .i64 4 ∧ Ext w0 w) := by
 refine ret_of_wp (nt := 14) Tryz.func141 rfl rfl rfl (fl := [(0, .int .u64 16)]) rfl (fun a S => ?_)
 have H := HSat.start w0
 have H := H.ro0 (Atom.ro (Blk 8 (.cells dbV.toArray T0 fz))) rfl (hG)
 refine gsr ?_
 refine ga S fun a S => ?_
 refine gnt ?_
 refine g_seq ?_
 refine gsr ?_
 refine gm S fun a S => ?_
 refine gy rfl rfl rfl S (y_bin rfl S rfl rfl rfl) fun a S => ?_
 refine gnt ?_
 refine c_if S rfl (fun h1 => ?_) (fun h1 => ?_)
 ·have h1p := h1; try simp only [DL] at h1p
  all_goals (
    exact absurd h1 (by simp))
 ·have h1p := h1; try simp only [DL] at h1p
  refine g_skip ?_
  refine n_then ?_
  refine gsr ?_
  refine gm S fun a S => ?_
  refine gm S fun a S => ?_
  refine gy rfl rfl rfl S ((y_negW (r := 18446744073709551600) rfl S rfl rfl)) fun a S => ?_
  refine gy rfl rfl rfl S ((y_andu (m := 16) (q := 18446744073709551600) rfl S rfl rfl (by decide) (by decide) rfl)) fun a S => ?_
  refine gy rfl rfl rfl S ((y_binW (r := 4573923408821661840) rfl S rfl rfl rfl)) fun a S => ?_
  refine gy rfl rfl rfl S ((y_shru (m := 4573923408821661840) (q := 58) rfl S rfl rfl (by decide) rfl)) fun a S => ?_
  refine gy rfl rfl rfl S (y_iaddra rfl Tryz.underlying205 Fsiz5 S rfl rfl (by omega)) fun a S => ?_
  refine gy rfl rfl rfl S ((y_load (v := .int .u8 4) rfl Fsca5 S H rfl rfl)) fun a S => ?_
  refine gy rfl rfl rfl S (y_convg (r := 4) rfl Tryz.underlying5 Tryz.underlying3 S rfl (by rfl)) fun a S => ?_
  refine ga S fun a S => ?_
  refine gnt ?_
  have S := S.nil.cons S 2 rfl
  refine g_ret ?_
  refine ret1 rfl S rfl ?_
  exact ⟨rfl, H.toExt⟩
/-- internal/strconv.isPowerOfTwo -/
theorem pow2_spec (w0 : World) :
    Ret Tryz.prog 129 #[.int .i64 16] w0 (fun u w => u = .bool true ∧ Ext w0 w) := by
 refine ret_of_wp (nt := 8) Tryz.func129 rfl rfl rfl (fl := [(0, .int .i64 16)]) rfl (fun a S => ?_)
 have H := HSat.start w0
 refine gsr ?_
 refine ga S fun a S => ?_
 refine gnt ?_
 refine gsr ?_
 refine gm S fun a S => ?_
 refine gm S fun a S => ?_
 refine gy rfl rfl rfl S ((y_binW (r := 15) rfl S rfl rfl rfl)) fun a S => ?_
 refine gy rfl rfl rfl S ((y_and1615 rfl S rfl rfl)) fun a S => ?_
 refine gy rfl rfl rfl S (y_bin rfl S rfl rfl rfl) fun a S => ?_
 refine ga S fun a S => ?_
 refine gnt ?_
 have S := S.nil.cons S 2 rfl
 refine g_ret ?_
 refine ret1 rfl S rfl ?_
 exact ⟨rfl, H.toExt⟩
/-- math/bits.TrailingZeros -/
theorem tz_spec (w0 : World) (hB : TabBs w0) :
    Ret Tryz.prog 130 #[.int .u64 16] w0 (fun u w => u = .int .i64 4 ∧ Ext w0 w) := by
 refine ret_of_wp (nt := 8) Tryz.func130 rfl rfl rfl (fl := [(0, .int .u64 16)]) rfl (fun a S => ?_)
 have H := HSat.start w0
 have H := H.ro0 (TabB) rfl (hB)
 refine gsr ?_
 refine ga S fun a S => ?_
 refine gnt ?_
 refine g_seq ?_
 refine c_if S rfl (fun h1 => ?_) (fun h1 => ?_)
 ·have h1p := h1; try simp only [DL] at h1p
  all_goals (
    exact absurd h1 (by simp))
 ·have h1p := h1; try simp only [DL] at h1p
  refine g_skip ?_
  refine n_then ?_
  refine gsr ?_
  refine gm S fun a S => ?_
  refine wl_of (op_call (wn rfl) rfl rfl S (co_func rfl Tryz.call141 S rfl) (Ret.mono (by obtain ⟨T0, fz, hG⟩ := tabB_of H; exact tz64_spec _ T0 fz hG) (fun u w h => h)) fun v w hc a S => ?_)
  obtain ⟨rfl, he⟩ := hc
  have H := H.ext he
  refine ga S fun a S => ?_
  refine gnt ?_
  have S := S.nil.cons S 2 rfl
  refine g_ret ?_
  refine ret1 rfl S rfl ?_
  exact ⟨rfl, H.toExt⟩
theorem shr4 {n k : Nat} : (n >>> (4 * k)) >>> 4 = n >>> (4 * (k + 1)) := by rw [← Nat.shiftRight_add]; rfl
theorem shrlt {n : Nat} (hn : n < 18446744073709551616) {k : Nat} (hk : k ≤ 15) (h : ¬ n >>> (4 * k) < 16) : k ≤ 14 := by
  rcases Nat.lt_or_ge k 15 with h1 | h1
  · omega
  · obtain rfl : k = 15 := by omega
    exfalso; apply h
    rw [Nat.shiftRight_eq_div_pow]; omega
set_option maxHeartbeats 1000000 in
/-- internal/strconv.formatBits -/
theorem fbits_spec (n : Nat) (w0 : World) (hn : n < 18446744073709551616) (hB : TabBs w0) :
    Ret Tryz.prog 109 #[.slice none 0 0, .int .u64 (n : Int), .int .i64 16, .bool false, .bool false] w0 (fun u w => ∃ s : ByteArray, u = .tuple #[.slice none 0 0, .string s] ∧ 1 ≤ s.size ∧ s.size ≤ 16 ∧ Ext w0 w) := by
 refine ret_of_wp (nt := 102) Tryz.func109 rfl rfl rfl (fl := [(0, .slice none 0 0), (1, .int .u64 (n : Int)), (2, .int .i64 16), (3, .bool false), (4, .bool false)]) rfl (fun a S => ?_)
 have H := HSat.start w0
 have H := H.ro0 (TabB) rfl (hB)
 refine gsr ?_
 refine ga S fun a S => ?_
 refine ga S fun a S => ?_
 refine gnt ?_
 refine g_seq ?_
 refine gsr ?_
 refine gm S fun a S => ?_
 refine gy rfl rfl rfl S (y_bin rfl S rfl rfl rfl) fun a S => ?_
 refine gm S fun a S => ?_
 refine gz 21 rfl S rfl rfl rfl rfl rfl rfl (y_move rfl S rfl) fun a S => ?_
 refine gz 21 rfl S rfl rfl rfl rfl rfl rfl (y_bin rfl S rfl rfl rfl) fun a S => ?_
 refine gy rfl rfl rfl S (y_or' rfl rfl S rfl rfl) fun a S => ?_
 refine gm S fun a S => ?_
 refine gz 25 rfl S rfl rfl rfl rfl rfl rfl (y_move rfl S rfl) fun a S => ?_
 refine gz 25 rfl S rfl rfl rfl rfl rfl rfl (y_bin rfl S rfl rfl rfl) fun a S => ?_
 refine gy rfl rfl rfl S (y_or' rfl rfl S rfl rfl) fun a S => ?_
 refine gnt ?_
 have S := (((((((S.nil.cons S 4 rfl).cons S 3 rfl).cons S 2 rfl).cons S 1 rfl).cons S 0 rfl).cons S 10 rfl).cons S 11 rfl).cons S 28 rfl
 refine c_if S rfl (fun h3 => ?_) (fun h3 => ?_)
 ·have h3p := h3; try simp only [DL] at h3p
  all_goals (
    exact absurd h3 (by simp))
 ·have h3p := h3; try simp only [DL] at h3p
  refine g_skip ?_
  refine n_then ?_
  refine gsr ?_
  refine wl_of (op_alloc (wn rfl) rfl rfl rfl S H Fzer187 fun b12 a w S H => ?_)
  refine gnt ?_
  refine gsr ?_
  refine ga S fun a S => ?_
  refine gnt ?_
  refine g_seq ?_
  refine gsr ?_
  refine gm S fun a S => ?_
  refine gnt ?_
  refine c_if S rfl (fun h4 => ?_) (fun h4 => ?_)
  ·have h4p := h4; try simp only [DL] at h4p
   all_goals (
     exact absurd h4 (by simp))
  ·have h4p := h4; try simp only [DL] at h4p
   refine g_skip ?_
   refine n_then ?_
   refine g_seq ?_
   refine gsr ?_
   refine gm S fun a S => ?_
   refine wl_of (op_call (wn rfl) rfl rfl S (co_func rfl Tryz.call129 S rfl) (pow2_spec _) fun v w hc a S => ?_)
   obtain ⟨rfl, he⟩ := hc
   have H := H.ext he
   refine gnt ?_
   refine c_if S rfl (fun h5 => ?_) (fun h5 => ?_)
   ·have h5p := h5; try simp only [DL] at h5p
    refine gsr ?_
    refine gm S fun a S => ?_
    refine gy rfl rfl rfl S (y_convg (r := 16) rfl Tryz.underlying3 Tryz.underlying138 S rfl (by rfl)) fun a S => ?_
    refine wl_of (op_call (wn rfl) rfl rfl S (co_func rfl Tryz.call130 S rfl) (tz_spec _ (tabB_of H)) fun v w hc a S => ?_)
    obtain ⟨rfl, he⟩ := hc
    have H := H.ext he
    refine gy rfl rfl rfl S (y_convg (r := 4) rfl Tryz.underlying3 Tryz.underlying138 S rfl (by rfl)) fun a S => ?_
    refine ga S fun a S => ?_
    refine gnt ?_
    have S := (((((((((S.nil.cons S 4 rfl).cons S 3 rfl).cons S 2 rfl).cons S 1 rfl).cons S 0 rfl).cons S 10 rfl).cons S 11 rfl).cons S 12 rfl).cons S 13 rfl).cons S 14 rfl
    refine gsr ?_
    refine gm S fun a S => ?_
    refine gy rfl rfl rfl S (y_convg (r := 16) rfl Tryz.underlying3 Tryz.underlying70 S rfl (by rfl)) fun a S => ?_
    refine ga S fun a S => ?_
    refine gnt ?_
    refine gsr ?_
    refine gm S fun a S => ?_
    refine gy rfl rfl rfl S (y_convg (r := 16) rfl Tryz.underlying3 Tryz.underlying138 S rfl (by rfl)) fun a S => ?_
    refine gy rfl rfl rfl S ((y_binW (r := 15) rfl S rfl rfl rfl)) fun a S => ?_
    refine ga S fun a S => ?_
    refine gnt ?_
    have S := ((((((((((S.nil.cons S 4 rfl).cons S 3 rfl).cons S 1 rfl).cons S 0 rfl).cons S 10 rfl).cons S 11 rfl).cons S 12 rfl).cons S 13 rfl).cons S 14 rfl).cons S 15 rfl).cons S 16 rfl
    refine g_seq ?_
    refine g_block ?_
    have SU := ((((((((S.nil.cons S 4 rfl).cons S 3 rfl).cons S 0 rfl).cons S 10 rfl).cons S 11 rfl).cons S 12 rfl).cons S 14 rfl).cons S 15 rfl).cons S 16 rfl
    refine loopW (X := Nat × List UInt8) SU (fun x => [(13, .int .i64 ((65 - x.1 : Nat) : Int)), (1, .int .u64 ((n >>> (4 * x.1) : Nat) : Int))]) (fun x w => x.1 ≤ 15 ∧ x.2.length = 65 ∧ HSat No w0 [Cel b12 187 (x.2.map u8V), TabB] w) (fun x => 15 - x.1) (0, List.replicate 65 0) ((S.nil.cons S 1 rfl).cons S 13 rfl) (⟨by decide, by rfl, H⟩) (fun x a w S hW => ?_)
    simp only [List.cons_append, List.nil_append] at S
    obtain ⟨k, bs⟩ := x
    obtain ⟨hk, hl, H⟩ := hW
    dsimp only at S H hk hl
    refine g_seq ?_
    refine gsr ?_
    refine gm S fun a S => ?_
    refine gm S fun a S => ?_
    refine gy rfl rfl rfl S (y_bin rfl S rfl rfl rfl) fun a S => ?_
    refine gnt ?_
    refine c_if S rfl (fun h6 => ?_) (fun h6 => ?_)
    ·have h6p := h6; try simp only [DL] at h6p
     have hk2 := shrlt hn hk (by have h := h6p; omega)
     refine g_skip ?_
     refine n_then ?_
     refine g_block ?_
     refine gsr ?_
     refine gm S fun a S => ?_
     refine gy rfl rfl rfl S ((y_subn (m := 65 - (k + 1)) rfl S rfl rfl (by omega) (by omega))) fun a S => ?_
     refine ga S fun a S => ?_
     refine gnt ?_
     have S := ((((((((((S.nil.cons S 4 rfl).cons S 3 rfl).cons S 0 rfl).cons S 10 rfl).cons S 11 rfl).cons S 12 rfl).cons S 14 rfl).cons S 15 rfl).cons S 16 rfl).cons S 1 rfl).cons S 13 rfl
     refine gsr ?_
     refine gm S fun a S => ?_
     refine gm S fun a S => ?_
     refine gm S fun a S => ?_
     refine gy rfl rfl rfl S ((y_andu (m := n >>> (4 * k)) (q := 15) rfl S rfl rfl (shr_lt hn) (by decide) (and15 _))) fun a S => ?_
     refine gy rfl rfl rfl S ((y_idxstr rfl Tryz.underlying9 S rfl rfl (Nat.lt_of_lt_of_le (Nat.mod_lt _ (by decide)) (by decide)))) fun a S => ?_
     refine gy rfl rfl rfl S (y_iaddra rfl Tryz.underlying187 Fsiz5 S rfl rfl (by omega)) fun a S => ?_
     refine wl_of (op_store (wn rfl) rfl rfl S H rfl rfl rfl Fsiz5 (by simp [hl]; omega) fun a w S H => ?_)
     refine gnt ?_
     have S := ((((((((((S.nil.cons S 4 rfl).cons S 3 rfl).cons S 0 rfl).cons S 10 rfl).cons S 11 rfl).cons S 12 rfl).cons S 14 rfl).cons S 15 rfl).cons S 16 rfl).cons S 1 rfl).cons S 13 rfl
     refine g_region ?_
     refine gm S fun a S => ?_
     refine gm S fun a S => ?_
     refine gy rfl rfl rfl S ((y_shru (m := n >>> (4 * k)) (q := 4) rfl S rfl rfl (by omega) shr4)) fun a S => ?_
     refine ga S fun a S => ?_
     refine gl_nil ?_
     refine n_block ?_
     refine n_then ?_
     simp only [Int.toNat_natCast, Nat.zero_add, Nat.mul_one] at H
     exact ⟨(k + 1, bs.set (65 - (k + 1)) _), (S.nil.cons S 1 rfl).cons S 13 rfl, ((((((((S.nil.cons S 4 rfl).cons S 3 rfl).cons S 0 rfl).cons S 10 rfl).cons S 11 rfl).cons S 12 rfl).cons S 14 rfl).cons S 15 rfl).cons S 16 rfl, ⟨by dsimp only; omega, by simpa using hl, u8set H⟩, by dsimp only; omega⟩
    ·have h6p := h6; try simp only [DL] at h6p
     have hlt : n >>> (4 * k) < 16 := by have h := h6p; omega
     refine g_exit ?_
     refine x_then (x_then (x_eq ?_))
     refine n_then ?_
     have S := (((((((S.nil.cons S 4 rfl).cons S 3 rfl).cons S 0 rfl).cons S 10 rfl).cons S 11 rfl).cons S 12 rfl).cons S 1 rfl).cons S 13 rfl
     refine gsr ?_
     refine gm S fun a S => ?_
     refine gy rfl rfl rfl S ((y_subn (m := 64 - k) rfl S rfl rfl (by omega) (by omega))) fun a S => ?_
     refine ga S fun a S => ?_
     refine gnt ?_
     refine g_region ?_
     refine gm S fun a S => ?_
     refine gm S fun a S => ?_
     refine gy rfl rfl rfl S ((y_idxstr rfl Tryz.underlying9 S rfl rfl (Nat.lt_of_lt_of_le (by omega) (by decide)))) fun a S => ?_
     refine gy rfl rfl rfl S (y_iaddra rfl Tryz.underlying187 Fsiz5 S rfl rfl (by omega)) fun a S => ?_
     refine wl_of (op_store (wn rfl) rfl rfl S H rfl rfl rfl Fsiz5 (by simp [hl]; omega) fun a w S H => ?_)
     refine gnt ?_
     have S := ((((((S.nil.cons S 4 rfl).cons S 3 rfl).cons S 0 rfl).cons S 10 rfl).cons S 11 rfl).cons S 12 rfl).cons S 13 rfl
     refine g_seq ?_
     refine g_seq ?_
     simp only [Int.toNat_natCast, Nat.zero_add, Nat.mul_one] at H
     have H := u8set H
     generalize hbs : bs.set (64 - k) _ = bs2 at H
     have hl2 : bs2.length = 65 := by rw [← hbs]; simpa using hl
     clear hbs hl
     generalize bs2 = bs at *
     ·skip
      refine g_region ?_
      refine gm S fun a S => ?_
      refine gnt ?_
      refine c_if S rfl (fun h7 => ?_) (fun h7 => ?_)
      ·have h7p := h7; try simp only [DL] at h7p
       all_goals (
         exact absurd h7 (by simp))
      ·have h7p := h7; try simp only [DL] at h7p
       refine g_skip ?_
       refine n_then ?_
       refine g_seq ?_
       refine gsr ?_
       refine gm S fun a S => ?_
       refine gnt ?_
       refine c_if S rfl (fun h8 => ?_) (fun h8 => ?_)
       ·have h8p := h8; try simp only [DL] at h8p
        all_goals (
          exact absurd h8 (by simp))
       ·have h8p := h8; try simp only [DL] at h8p
        refine g_skip ?_
        refine n_then ?_
        have S := (((S.nil.cons S 10 rfl).cons S 11 rfl).cons S 12 rfl).cons S 13 rfl
        refine gsr ?_
        refine gm S fun a S => ?_
        refine gy rfl rfl rfl S ((y_arrL (i := 64 - k) rfl Tryz.underlying187 Fsiz5 S rfl rfl (by omega))) fun a S => ?_
        refine gy rfl rfl rfl S ((y_bytestrO (bs.drop (64 - k)) rfl Tryz.underlying24 Tryz.underlying5 Tryz.underlying9 S H rfl (by rw [List.length_drop, hl2]) (fun j hj => by have hj2 := hj; rw [List.length_drop, hl2] at hj2; rw [Nat.mul_one, List.getElem?_map, List.getElem?_eq_getElem (by omega), List.getElem_drop]; rfl))) fun a S => ?_
        refine ga S fun a S => ?_
        refine gnt ?_
        have S := (S.nil.cons S 10 rfl).cons S 11 rfl
        refine g_ret ?_
        refine ret2 rfl S rfl rfl ?_
        exact ⟨_, rfl, by rw [tsz, List.length_drop, hl2]; omega, by rw [tsz, List.length_drop, hl2]; omega, H.toExt⟩
   ·have h5p := h5; try simp only [DL] at h5p
    all_goals (
      exact absurd h5 (by simp))
end Go.Proofs.YtjdbggnhdeaflaaGreatDoor
end
section
namespace Go.Proofs.YtjdbggnhdeaflaaGreatDoor
open Go Go.Gw
set_option linter.unusedVariables false
set_option linter.unusedSimpArgs false
theorem lens_le : ∀ {xs : List ByteArray}, (∀ x ∈ xs, x.size ≤ 32) → Go.Lib.lens (xs.map (·.data.toList)) ≤ 32 * xs.length
  | [], _ => by simp [Go.Lib.lens]
  | x :: r, h => by
    have h1 := h x (by simp)
    have h2 := lens_le (xs := r) fun y hy => h y (by simp [hy])
    have e : x.data.toList.length = x.size := Array.length_toList
    simp only [Go.Lib.lens, List.map_cons, List.sum_cons, List.length_cons] at h2 ⊢
    omega
theorem joined {xs : List ByteArray} (h2 : 2 ≤ xs.length) (h : ∀ x ∈ xs, x.size ≤ 32) (hl : xs.length ≤ 1000) : 1 ≤ (Go.Lib.join (xs.map (·.data.toList)) [32]).length ∧ (Go.Lib.join (xs.map (·.data.toList)) [32]).length ≤ 140737488355328 := by
  have hb := lens_le h
  match xs, h2 with
  | x :: y :: r, _ =>
    rw [List.map_cons] at hb ⊢
    rw [Go.Lib.join_length]
    simp only [List.length_cons, List.length_nil, List.length_map] at hl hb ⊢
    omega
theorem join_t {M : Nat → Prop} {u0 w0 : World} {l : List Atom} (v : Value) (xs : List ByteArray) (h0 : HSat M u0 (OSl 9 v 1 encS xs :: l) w0) (h2 : 2 ≤ xs.length) (h : ∀ x ∈ xs, x.size ≤ 32) (hl : xs.length ≤ 1000) :
    Ret Tryz.prog 57 #[v, .string ⟨#[32]⟩] w0 (fun u w => ∃ s : ByteArray, u = .string s ∧ 1 ≤ s.size ∧ Ext w0 w) := by
  obtain ⟨g, c, rfl, hc⟩ := h0.ownG (by omega)
  obtain ⟨j1, j2⟩ := joined h2 h hl
  have ho : IsOSl w0 9 (.slice (some ⟨g, 0, none⟩) xs.length c) 1 encS xs := h0.hd
  have hg : g < w0.heap.size := by
    rcases ho.row.2 with ⟨e, _⟩ | ⟨g', cap, cur, e, _, hg, _⟩
    · cases e
    · simp only [Value.slice.injEq, Option.some.injEq, Addr.mk.injEq, and_true, true_and] at e
      rw [e.1]; exact (Array.getElem?_eq_some_iff.1 hg).1
  refine Calls.mono (Tryz.strings_Join g 0 c xs ⟨#[32]⟩ w0 (fun j x hx => ?_) hg (by omega) hc j2) fun e w' ⟨he, hb⟩ => ⟨_, he, _, rfl, ?_, ext_below hb⟩
  · obtain ⟨hj, rfl⟩ := List.getElem?_eq_some_iff.1 hx
    have := ho.cells 0 j (.string xs[j]) (Nat.zero_le _) (by
      rw [List.drop_zero]
      have := flatMap_at (enc := encS) (sz := 1) (xs := xs) (fun x _ => rfl) j hj 0 (by decide)
      simpa [encS] using this)
    simpa using this
  · show 1 ≤ (Go.Lib.join (xs.map (·.data.toList)) [32]).toArray.size
    simpa using j1
theorem repeat_t (c : Nat) (hc : c ≤ 16) (w0 : World) : Ret Tryz.prog 56 #[.string ⟨#[48]⟩, .int .i64 (c : Int)] w0 (fun u w => ∃ s : ByteArray, u = .string s ∧ s.size = c ∧ Ext w0 w) := by
  refine Calls.mono (Tryz.strings_Repeat ⟨#[48]⟩ c w0 (by omega) (by show 1 * c ≤ _; omega)) fun e w' ⟨he, hb⟩ => ⟨_, he, _, rfl, ?_, ext_below hb⟩
  show (Go.Lib.repeatL [48] c).toArray.size = c
  rw [List.size_toArray, Go.Lib.repeatL_length]; simp
/-- internal/strconv.FormatUint -/
theorem ifuint_spec (n : Nat) (w0 : World) (hn : n < 18446744073709551616) (hB : TabBs w0) :
    Ret Tryz.prog 82 #[.int .u64 (n : Int), .int .i64 16] w0 (fun u w => ∃ s : ByteArray, u = .string s ∧ 1 ≤ s.size ∧ s.size ≤ 16 ∧ Ext w0 w) := by
 refine ret_of_wp (nt := 32) Tryz.func82 rfl rfl rfl (fl := [(0, .int .u64 (n : Int)), (1, .int .i64 16)]) rfl (fun a S => ?_)
 have H := HSat.start w0
 have H := H.ro0 (TabB) rfl (hB)
 refine gsr ?_
 refine ga S fun a S => ?_
 refine gnt ?_
 refine g_seq ?_
 refine gsr ?_
 refine gm S fun a S => ?_
 refine gy rfl rfl rfl S (y_bin rfl S rfl rfl rfl) fun a S => ?_
 refine gnt ?_
 refine c_if S rfl (fun h1 => ?_) (fun h1 => ?_)
 ·have h1p := h1; try simp only [DL] at h1p
  all_goals (
    exact absurd h1 (by simp))
 ·have h1p := h1; try simp only [DL] at h1p
  refine g_skip ?_
  refine n_then ?_
  refine gsr ?_
  refine gm S fun a S => ?_
  refine gm S fun a S => ?_
  refine wl_of (op_call (wn rfl) rfl rfl S (co_func rfl Tryz.call109 S rfl) (fbits_spec n _ hn (tabB_of H)) fun v w hc a S => ?_)
  obtain ⟨s, rfl, hs1, hs2, he⟩ := hc
  have H := H.ext he
  refine gm S fun a S => ?_
  refine gy rfl rfl rfl S (y_extract rfl S rfl rfl) fun a S => ?_
  refine gy rfl rfl rfl S (y_extract rfl S rfl rfl) fun a S => ?_
  refine ga S fun a S => ?_
  refine ga S fun a S => ?_
  refine gnt ?_
  have S := (S.nil.cons S 4 rfl).cons S 8 rfl
  refine gsr ?_
  refine gm S fun a S => ?_
  refine ga S fun a S => ?_
  refine gnt ?_
  refine g_ret ?_
  refine ret1 rfl S rfl ?_
  exact ⟨s, rfl, hs1, hs2, H.toExt⟩
/-- strconv.FormatUint -/
theorem fuint_spec (n : Nat) (w0 : World) (hn : n < 18446744073709551616) (hB : TabBs w0) :
    Ret Tryz.prog 55 #[.int .u64 (n : Int), .int .i64 16] w0 (fun u w => ∃ s : ByteArray, u = .string s ∧ 1 ≤ s.size ∧ s.size ≤ 16 ∧ Ext w0 w) := by
 refine ret_of_wp (nt := 8) Tryz.func55 rfl rfl rfl (fl := [(0, .int .u64 (n : Int)), (1, .int .i64 16)]) rfl (fun a S => ?_)
 have H := HSat.start w0
 have H := H.ro0 (TabB) rfl (hB)
 refine gsr ?_
 refine ga S fun a S => ?_
 refine gnt ?_
 refine gsr ?_
 refine gm S fun a S => ?_
 refine gm S fun a S => ?_
 refine wl_of (op_call (wn rfl) rfl rfl S (co_func rfl Tryz.call82 S rfl) (ifuint_spec n _ hn (tabB_of H)) fun v w hc a S => ?_)
 obtain ⟨s, rfl, hs1, hs2, he⟩ := hc
 have H := H.ext he
 refine ga S fun a S => ?_
 refine gnt ?_
 have S := S.nil.cons S 4 rfl
 refine g_ret ?_
 refine ret1 rfl S rfl ?_
 exact ⟨s, rfl, hs1, hs2, H.toExt⟩
set_option maxHeartbeats 1000000 in
/-- foyer/filter.Text -/
theorem text_ne (fq fh : Nat) (wv : Value) (ws : List Nat) (w0 : World) (hfq : 1 ≤ fq ∧ fq ≤ 64) (hfh : 1 ≤ fh ∧ fh ≤ 8) (hw : IsSl w0 wv 1 encU ws) (hok : WOk fq ws) (hT : Tabs w0) (hB : TabBs w0) :
    Ret Tryz.prog 31 #[.agg (encF fq fh wv).toArray] w0 (fun u w => ∃ s : ByteArray, u = .string s ∧ 1 ≤ s.size ∧ Ext w0 w) := by
 refine ret_of_wp (nt := 40) Tryz.func31 rfl rfl rfl (fl := [(0, .agg (encF fq fh wv).toArray)]) rfl (fun a S => ?_)
 have H := HSat.start w0
 have H := H.ro0 (TabsA) rfl (hT)
 have H := H.ro0 (TabB) rfl (hB)
 have H := H.ro0 (Sl wv 1 encU ws) rfl (hw)
 obtain ⟨pw, cw, hpw⟩ := hw.shape
 have hl := hok.len
 refine gsr ?_
 refine wl_of (op_boxa (wn rfl) rfl rfl rfl S H (by rw [hpw]; rfl) fun b1 a w S H => ?_)
 rw [← hpw] at H
 refine ga S fun a S => ?_
 refine gnt ?_
 refine g_seq ?_
 refine gsr ?_
 refine gy rfl rfl rfl S (y_load0 rfl S H rfl (by exact Fagg40)) fun a S => ?_
 refine wl_of (op_call (wn rfl) rfl rfl S (co_func rfl Tryz.call54 S rfl) (fvalid_spec fq fh wv ws _ hfq hfh (H.sl wv) hl) fun v w hc a S => ?_)
 obtain ⟨rfl, he⟩ := hc
 have H := H.ext he
 refine gy rfl rfl rfl S (y_not rfl S rfl) fun a S => ?_
 refine gnt ?_
 refine c_if S rfl (fun h1 => ?_) (fun h1 => ?_)
 ·have h1p := h1; try simp only [DL] at h1p
  all_goals (
    exact absurd h1 (by simp))
 ·have h1p := h1; try simp only [DL] at h1p
  refine g_skip ?_
  refine n_then ?_
  have S := (S.nil.cons S 1 rfl).cons S 2 rfl
  refine g_seq ?_
  refine region_st (loud := [6]) (tails := []) (free := []) [0, 1, 2, 3, 4, 5, 6, 7] [] Fmo (by kernel_rfl) (by kernel_rfl) rfl H ?_
  refine m_w rfl rfl (wn rfl) rfl rfl S (fun w H => y_faddrb rfl Ffo40_0 S rfl) fun a S => ?_
  refine m_w rfl rfl (wn rfl) rfl rfl S (fun w H => y_load rfl Fsca3 S H rfl rfl) fun a S => ?_
  refine m_c rfl rfl (wn rfl) rfl rfl S (fun w => co_func rfl Tryz.call53 S rfl) (fun w H => itoa_t ((64 * fq : Nat) : Int) (by omega) (by omega) _ H.tabs) fun a S => ?_
  refine m_w rfl rfl (wn rfl) rfl rfl S (fun w H => y_faddrb rfl Ffo40_1 S rfl) fun a S => ?_
  refine m_w rfl rfl (wn rfl) rfl rfl S (fun w H => y_load rfl Fsca3 S H rfl rfl) fun a S => ?_
  refine m_c rfl rfl (wn rfl) rfl rfl S (fun w => co_func rfl Tryz.call53 S rfl) (fun w H => itoa_t (fh : Int) (by omega) (by omega) _ H.tabs) fun a S => ?_
  refine m_l rfl rfl (fun w H => op_buildSlice (wn rfl) rfl rfl rfl Tryz.underlying22 Finf9 S H (idx := [0, 1]) rfl rfl rfl (z := [.string ⟨#[]⟩, .string ⟨#[]⟩]) (by kernel_rfl) (cs := [.string (itoaS ((64 * fq : Nat) : Int)), .string (itoaS (fh : Int))]) rfl fun b15 a w S H => m_next H (List.sublist_cons_self _ _) ?_)
  refine m_w rfl rfl (wn rfl) rfl rfl S (fun w H => y_assign rfl S rfl) fun a S => ?_
  refine m_nil (fun w H => ?_)
  refine n_then ?_
  have S := ((S.nil.cons S 1 rfl).cons S 2 rfl).cons S 3 rfl
  refine g_seq ?_
  refine gsr ?_
  refine gy rfl rfl rfl S (y_faddrb rfl Ffo40_0 S rfl) fun a S => ?_
  refine gy rfl rfl rfl S (y_load rfl Fsca3 S H rfl rfl) fun a S => ?_
  refine gy rfl rfl rfl S ((y_quon (m := ((64 * fq : Nat) : Int)) (q := 64) rfl S rfl rfl (by omega) (by omega) (by omega))) fun a S => ?_
  rw [show (((64 * fq : Nat) : Int) / 64) = (fq : Int) by omega] at S
  refine gm S fun a S => ?_
  refine gnt ?_
  refine g_block ?_
  have H := (H.front (Cel b15 9 [.string (itoaS ((64 * fq : Nat) : Int)), .string (itoaS (fh : Int))])).celO [itoaS ((64 * fq : Nat) : Int), itoaS (fh : Int)] encS 1 (m := 2) rfl (fun _ _ => rfl) rfl (by decide)
  have SU := ((S.nil.cons S 1 rfl).cons S 2 rfl).cons S 18 rfl
  refine loopW (X := Nat × Value × List ByteArray) SU (fun x => [(19, .int .i64 (x.1 : Int)), (3, x.2.1)]) (fun x w => x.1 ≤ fq ∧ x.2.2.length = x.1 + 2 ∧ (∀ y ∈ x.2.2, y.size ≤ 32) ∧ HSat No w0 [OSl 9 x.2.1 1 encS x.2.2, Cel b1 40 (encF fq fh wv), Sl wv 1 encU ws, TabsA, TabB] w) (fun x => fq - x.1) (0, .slice (some ⟨b15, 0, none⟩) 2 2, [itoaS ((64 * fq : Nat) : Int), itoaS (fh : Int)]) ((S.nil.cons S 3 rfl).cons S 19 rfl) (⟨Nat.zero_le _, rfl, fun y hy => by simp only [List.mem_cons, List.not_mem_nil, or_false] at hy; have h1 := itoaS_size ((64 * fq : Nat) : Int) (by omega) (by omega); have h2 := itoaS_size (fh : Int) (by omega) (by omega); rcases hy with rfl | rfl <;> omega, H.take [OSl 9 (.slice (some ⟨b15, 0, none⟩) 2 2) 1 encS [itoaS ((64 * fq : Nat) : Int), itoaS (fh : Int)], Cel b1 40 (encF fq fh wv), Sl wv 1 encU ws, TabsA, TabB]⟩) (fun x a w S hW => ?_)
  simp only [List.cons_append, List.nil_append] at S
  obtain ⟨k, v, xs⟩ := x
  obtain ⟨hk, hxl, hx, H⟩ := hW
  dsimp only at S H hk hxl hx
  refine gsr ?_
  refine gy rfl rfl rfl S (y_bin rfl S rfl rfl rfl) fun a S => ?_
  refine gnt ?_
  refine g_seq ?_
  refine c_if S rfl (fun h2 => ?_) (fun h2 => ?_)
  ·have h2p := h2; try simp only [DL] at h2p
   have hk16 : k < fq := by omega
   refine g_skip ?_
   refine n_then ?_
   refine g_seq ?_
   refine g_block ?_
   refine gsr ?_
   refine gm S fun a S => ?_
   refine ga S fun a S => ?_
   refine gnt ?_
   refine gsr ?_
   refine gy rfl rfl rfl S (y_faddrb rfl Ffo40_2 S rfl) fun a S => ?_
   refine gy rfl rfl rfl S (y_load rfl Fsca38 S H rfl rfl) fun a S => ?_
   refine gm S fun a S => ?_
   refine gy rfl rfl rfl S (y_iaddrn rfl Tryz.underlying38 Fsiz70 S H rfl rfl (by first | assumption | omega | (simp only [LL]; omega))) fun a S => ?_
   refine gy rfl rfl rfl S (y_loads _ rfl Fsca70 S H rfl (by first | assumption | omega | (simp only [LL]; omega)) rfl) fun a S => ?_
   refine wl_of (op_call (wn rfl) rfl rfl S (co_func rfl Tryz.call55 S rfl) (fuint_spec ws[k] _ (hok.at (by omega)) (tabB_of H)) fun v w hc a S => ?_)
   obtain ⟨sd, rfl, hsd1, hsd2, he⟩ := hc
   have H := H.ext he
   refine ga S fun a S => ?_
   refine gnt ?_
   have S := (((((S.nil.cons S 1 rfl).cons S 2 rfl).cons S 18 rfl).cons S 3 rfl).cons S 19 rfl).cons S 5 rfl
   refine g_region ?_
   refine gm S fun a S => ?_
   refine gm S fun a S => ?_
   refine gy rfl rfl rfl S (y_lenstr rfl Tryz.underlying9 S rfl) fun a S => ?_
   refine gy rfl rfl rfl S ((y_subn (p := 16) (q := (sd.size : Int)) (m := 16 - sd.size) rfl S rfl rfl (by omega) (by omega))) fun a S => ?_
   refine wl_of (op_call (wn rfl) rfl rfl S (co_func rfl Tryz.call56 S rfl) (repeat_t (16 - sd.size) (by omega) _) fun v w hc a S => ?_)
   obtain ⟨sr, rfl, hsr, he⟩ := hc
   have H := H.ext he
   refine gm S fun a S => ?_
   refine gy rfl rfl rfl S (y_adds rfl S rfl rfl (by omega)) fun a S => ?_
   refine wl_of (op_buildSlice (wn rfl) rfl rfl rfl Tryz.underlying22 Finf9 S H (idx := [0]) rfl rfl rfl (z := [.string ⟨#[]⟩]) (by kernel_rfl) (cs := [.string (sr ++ sd)]) rfl fun b35 a w S H => ?_)
   refine wl_of (op_append ([sr ++ sd]) (wn rfl) rfl rfl rfl Tryz.underlying22 Finf9 rfl rfl S H rfl rfl rfl rfl (by simp) (by simp [encS]) (by simp [encS, Value.oneCell']) (by simp only [List.length_singleton]; omega) (by simp only [List.length_singleton]; omega) fun u36 a w hn36 S H => ?_)
   refine ga S fun a S => ?_
   refine gl_nil ?_
   refine n_block ?_
   refine n_then ?_
   have S := ((((S.nil.cons S 1 rfl).cons S 2 rfl).cons S 18 rfl).cons S 19 rfl).cons S 3 rfl
   refine g_region ?_
   refine gy rfl rfl rfl S (y_add rfl S rfl rfl (by omega)) fun a S => ?_
   refine gm S fun a S => ?_
   refine gnt ?_
   exact ⟨(k + 1, u36, xs ++ [sr ++ sd]), (S.nil.cons S 3 rfl).cons S 19 rfl, ((S.nil.cons S 1 rfl).cons S 2 rfl).cons S 18 rfl, ⟨by dsimp only; omega, by simp [hxl], fun y hy => by simp only [List.mem_append, List.mem_singleton] at hy; rcases hy with hy | rfl; exact hx y hy; rw [ByteArray.size_append]; omega, H.take [OSl 9 u36 1 encS (xs ++ [sr ++ sd]), Cel b1 40 (encF fq fh wv), Sl wv 1 encU ws, TabsA, TabB]⟩, by dsimp only; omega⟩
  ·have h2p := h2; try simp only [DL] at h2p
   refine g_exit ?_
   refine x_then (x_then (x_eq ?_))
   refine n_then ?_
   have S := (S.nil.cons S 2 rfl).cons S 3 rfl
   refine gsr ?_
   refine gm S fun a S => ?_
   refine wl_of (op_call (wn rfl) rfl rfl S (co_func rfl Tryz.call57 S rfl) (join_t v xs H (by omega) hx (by omega)) fun v w hc a S => ?_)
   obtain ⟨s, rfl, hs, he⟩ := hc
   have H := H.ext he
   refine ga S fun a S => ?_
   refine gnt ?_
   have S := S.nil.cons S 2 rfl
   refine g_ret ?_
   refine ret1 rfl S rfl ?_
   exact ⟨s, rfl, hs, H.toExt⟩
end Go.Proofs.YtjdbggnhdeaflaaGreatDoor
end
