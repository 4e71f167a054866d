/-
 Part of the proof of CourseMovedUpto: what functions of the program and of the statement come to, walked by the rules. No condition beyond those in each theorem.
-/
import Derived.Test.YtifcpjfpjkoicaaGreatTN
import Derived.Test.YtifcpjfpjkoicaaGreatTK
import Derived.Test.YtifcpjfpjkoicaaGreatTL
import Derived.Test.YtifcpjfpjkoicaaGreatRows
import Derived.Test.YtifcpjfpjkoicaaGreatPvE
section
open Go PvL Go.Proofs
set_option linter.unusedSimpArgs false
set_option linter.unusedVariables false
namespace Go.Proofs.YtifcpjfpjkoicaaGreat.C
theorem nb_true {p : Pt} (h : nbB p = true) : NbP 20000 p := by
 classical
 simpa [nbB] using h
theorem nr_true {s : Cr} (h : nrB s = true) : NrS s := by
 unfold nrB midB at h
 rw [Bool.and_eq_true, Bool.and_eq_true, Bool.and_eq_true, Bool.and_eq_true, Bool.and_eq_true] at h
 obtain ⟨⟨⟨⟨⟨h1, h2⟩, h3⟩, h4⟩, h5⟩, h6⟩ := h
 refine ⟨fun l hl => ?_, fun f hf p hp => ?_, fun p hp => ?_, nb_true h6, of_decide_eq_true h1, of_decide_eq_true h2⟩
 ·have := List.all_eq_true.1 h3 l hl
  unfold legB at this
  rw [Bool.and_eq_true] at this
  exact ⟨nb_true this.1, nb_true this.2⟩
 ·exact nb_true (List.all_eq_true.1 (List.all_eq_true.1 h4 f hf) p hp)
 ·exact nb_true (List.all_eq_true.1 h5 p hp)
theorem mv_sh {d : Pt} {s : Cr} (hs : NrS s) (hd : NbP 3000 d) : mvS d s = shS d s := by
 unfold mvS shS
 have e1 : s.lines.map (mvL d) = s.lines.map (shQ d) := List.map_congr_left fun l hl => by
  have := hs.lines l hl
  unfold mvL
  rw [mv_near this.1 hd, mv_near this.2 hd]
 have e2 : s.fields.map (fun f => f.map (mvP d)) = s.fields.map (fun f => f.map (shP d)) := List.map_congr_left fun f hf => List.map_congr_left fun p hp => mv_near (hs.fields f hf p hp) hd
 have e3 : s.buoys.map (mvP d) = s.buoys.map (shP d) := List.map_congr_left fun p hp => mv_near (hs.buoys p hp) hd
 rw [e1, e2, e3, mv_near hs.start hd]
def restF (x m : Int) : Int := if x.tmod m < 0 then x.tmod m + m else x.tmod m
theorem restF_bd {x m : Int} (hm : 1 <= m) : 0 <= restF x m /\ restF x m < m := by
 have h1 := Int.lt_tmod_of_pos x (b := m) (by omega)
 have h2 := Int.tmod_lt_of_pos x (b := m) (by omega)
 unfold restF
 split <;> omega
theorem c_RestM (x m : Int) (hm : 1 <= m /\ m <= 1000000000000000) (M : Mem) : CallOk Tryz.prog 5 [I x, I m] M (fun w M' => w = I (restF x m) /\ M' = M) := by
 have h1 := Int.lt_tmod_of_pos x (b := m) (by omega)
 have h2 := Int.tmod_lt_of_pos x (b := m) (by omega)
 refine call_in kq5 rfl ?_
 dsimp only [xq5, qm, qi, qB, qC, qq, zipE, Nat.reduceAdd]
 (repeat' first|with_reducible intro _|refine sv ?_|refine sc ?_ ?_<;>(intro h;try exact sz h)|refine sg ?_ ?_<;>(intro h;first|exact sz h|refine sy h ?_)|exact sq|fail)
 all_goals (refine kf ?_)
 all_goals refine ⟨?_, rfl⟩
 all_goals unfold restF
 ·rw [if_pos (by omega)]; rfl
 ·rw [if_neg (by omega)]; rfl
theorem rd_int9 {M : Mem} {i : Nat} {own : Bool} {l : List Int} {ty : TypeId} (h : At M i (.cells own (l.flatMap intz) ty)) : SlA 1 intz M (some (i, 0)) l :=
 .inr ⟨i, 0, rfl, fun k hk => rd_flat (enc := intz) h (fun _ _ => rfl) hk⟩
theorem intv_sl {lo : Nat} {M : Mem} {sl : LV} {l : List Int} (h : IntV lo M sl l) : ∃ ax fx ex, sl = .slice ax l.length fx ex /\ SlA 1 intz M ax l := by
 rcases h with ⟨h1, h2⟩ | ⟨i, h1, h2, _⟩
 ·exact ⟨none, true, 0, by rw [h1]; exact h2, .inl h1⟩
 ·exact ⟨some (i, 0), _, _, h1, rd_int9 h2⟩
noncomputable def bstF (s : Cr) : List Nat × Int × Int := by
 classical
 exact if CrOk s then (if endB s < 0 then ([], 0, 4) else ((nextO s (endB s) (allN s) [] (startR s) (allN s)).getD [], endB s, 0)) else ([], 0, 40)
theorem bst_no {s : Cr} (h : ¬ CrOk s) : bstF s = ([], 0, 40) := by unfold bstF; rw [if_neg h]
theorem bst_neg {s : Cr} (h : CrOk s) (h2 : endB s < 0) : bstF s = ([], 0, 4) := by unfold bstF; rw [if_pos h, if_pos h2]
theorem bst_ok {s : Cr} (h : CrOk s) (h2 : ¬ endB s < 0) : bstF s = ((nextO s (endB s) (allN s) [] (startR s) (allN s)).getD [], endB s, 0) := by unfold bstF; rw [if_pos h, if_neg h2]
theorem bst_sh {d : Pt} {s : Cr} (hs : NrS s) (hd : NbP 3000 d) : bstF (shS d s) = bstF s := by
 by_cases h : CrOk s
 ·have h' := (crok_sh hs hd).2 h
  by_cases h2 : endB s < 0
  ·rw [bst_neg h h2, bst_neg h' (by rw [endB_sh hs hd]; exact h2)]
  ·rw [bst_ok h h2, bst_ok h' (by rw [endB_sh hs hd]; exact h2), endB_sh hs hd, all_sh]
   have := nextO_sh hs hd (endB s) (allN s) [] (startR s) (allN s) hs.start
   rw [show startR (shS d s) = shX d (startR s) from rfl, this]
 ·rw [bst_no h, bst_no (fun h' => h ((crok_sh hs hd).1 h'))]
theorem bst_len (s : Cr) : (bstF s).1.length <= 5 := by
 by_cases h : CrOk s
 ·by_cases h2 : endB s < 0
  ·rw [bst_neg h h2]; exact Nat.zero_le _
  ·rw [bst_ok h h2]
   obtain ⟨r, e1, e2, _⟩ := first_own h (by omega)
   rw [e1]
   show r.length <= 5
   rw [e2]; exact h.n5
 ·rw [bst_no h]; exact Nat.zero_le _
theorem c_BestF {A : CrA} {s : Cr} {M : Mem} (hM : CrM M A s) : CallOk Tryz.prog 7 [crv A s] M (fun v M' => ∃ a f e, v = .tup [.slice a (bstF s).1.length f e, I (bstF s).2.1, I (bstF s).2.2] /\ SlA 2 shcc M' a (bstF s).1 /\ Grow M M') := by
 refine (c_Best hM).mono ?_
 rintro v M' ⟨hg, ⟨h, rfl⟩ | ⟨h, h2, rfl⟩ | ⟨h, h2, u, rfl, hu⟩⟩
 ·rw [bst_no h]; exact ⟨none, true, 0, rfl, .inl rfl, hg⟩
 ·rw [bst_neg h h2]; exact ⟨none, true, 0, rfl, .inl rfl, hg⟩
 ·rw [bst_ok h (by omega)]
  obtain ⟨r, e1, _⟩ := first_own h h2
  rw [e1]
  obtain ⟨a, f, e, rfl, h3⟩ := (hu r e1).rd (fun _ _ => rfl)
  exact ⟨a, f, e, rfl, h3, hg⟩
theorem tab_sh2 {d : Pt} {s : Cr} (hs : NrS s) (hd : NbP 3000 d) : TableF (shS d s) = TableF s := by
 unfold TableF
 by_cases h : CrOk s
 ·rw [if_pos h, if_pos ((crok_sh hs hd).2 h), tab_sh hs hd]
 ·rw [if_neg h, if_neg (fun h' => h ((crok_sh hs hd).1 h'))]
theorem table_len (s : Cr) : (TableF s).1.length <= 1000000 := by
 unfold TableF
 split
 ·next hok =>
  have hp2 : 2 ^ s.lines.length <= 32 := Nat.pow_le_pow_right (n := 2) (by omega) hok.n5
  have hN : 2 * s.lines.length * 2 ^ s.lines.length <= 10 * 32 := Nat.mul_le_mul (by have := hok.n5; omega) hp2
  show (tabF s).length <= _
  rw [tab_len]; omega
 ·exact Nat.zero_le _
set_option maxHeartbeats 8000000 in
theorem c_CourseMoved {A : CrA} {s : Cr} {p : Pt} {M : Mem} (hM : CrM M A s) (h1 : s.lines.length <= 20000000000) (h2 : s.fields.length <= 20000000000) (h3 : s.buoys.length <= 20000000000) (h4 : ∀ f ∈ s.fields, f.length <= 20000000000) :
  CallOk Tryz.prog 3 [crv A s, .agg [I p.1, I p.2]] M (fun w _ => w = .bool true) := by
 refine call_in kq3 rfl ?_
 dsimp only [xq3, qm, qf, ql, qL, qi, qb, qe, qc, qa, qn, qB, qC, qg, qS, qo, qk, qK, qq, qZ, qN, zipE, Nat.reduceAdd]
 have r1 := restF_bd (x := p.1) (m := 6001) (by omega)
 have r2 := restF_bd (x := p.2) (m := 6001) (by omega)
 have hd : NbP 3000 (restF p.1 6001 - 3000, restF p.2 6001 - 3000) := by unfold NbP; dsimp only; omega
 have cR := fun x M' => c_RestM x 6001 (by omega) M'
 have cm := fun M' (hg : Grow M M') => c_moved (d := (restF p.1 6001 - 3000, restF p.2 6001 - 3000)) (hM.grow hg) h1 h2 h3 h4
 have cB := fun M' (hg : Grow M M') => c_BestF (hM.grow hg)
 have cT := fun M' (hg : Grow M M') => c_Table (hM.grow hg)
 (repeat' first|with_reducible intro _|refine sv ?_|refine sc ?_ ?_<;>(intro h;try exact sz h)|(with_reducible first|apply x_same|apply d_same|apply d_same0);exact gd;exact rfl;exact rfl;exact cR _ _|refine sg ?_ ?_<;>(intro h;first|exact sz h|refine sy h ?_)|exact sq|fail)
 rename_i n2 M2 N2 e2 f2 n3 M3 N3 e3 f3
 have a2 : At M3 n2 (.cells true (crc A s) 35) := by
  have : At M2 n2 (.cells true (crc A s) 35) := At.new_same N2
  exact xm
 have g3 : Grow M M3 := xg
 refine d_call (by exact gd) rfl rfl (cm M3 g3) ?_
 rintro w4 M4 ⟨B, rfl, hB, g4⟩
 have b2 := At.grow g4 a2
 have gM4 := g3.trans g4
 have hle4 := g4.le
 have hg4 := g4
 cases hb : nrB s with
 | false =>
  (repeat' first|with_reducible intro _|refine sv ?_|refine sc ?_ ?_<;>(intro h;try exact sz h)|(with_reducible first|apply x_same|apply d_same|apply d_same0);exact gd;exact rfl;exact rfl;exact c_works _|refine sg ?_ ?_<;>(intro h;first|exact sz h|refine sy h ?_)|exact sq|fail)
  all_goals try (exfalso; simp_all; done)
  (refine kf ?_)
  rfl
 | true =>
  have hS := nr_true hb
  rw [mv_sh hS hd] at hB ⊢
  (repeat' first|with_reducible intro _|refine sv ?_|refine sc ?_ ?_<;>(intro h;try exact sz h)|refine sg ?_ ?_<;>(intro h;first|exact sz h|refine sy h ?_)|exact sq|fail)
  all_goals try (exfalso; simp_all; done)
  rename_i n5 M5 N5 e5 f5 M6 U6 e6 b5
  have g46 : Grow M4 M6 := xg
  have hB6 := hB.grow g46
  have b26 := At.grow g46 b2
  have gM6 := gM4.trans g46
  clear N5 U6 b2 g46 hB N2 N3 g4 hg4 a2 g3
  have hlen := bst_len s
  have cBm := fun M' (hg : Grow M6 M') => c_BestF (hB6.grow hg)
  rw [bst_sh hS hd] at cBm
  have cTm := fun M' (hg : Grow M6 M') => c_Table (hB6.grow hg)
  rw [tab_sh2 hS hd] at cTm
  have htl := table_len s
  refine x_call gd rfl rfl (cB M6 gM6) ?_
  rintro w7 M7 ⟨aa, fa, ea, rfl, hsa, hg7⟩
  have b27 := At.grow hg7 b26
  have b57 := At.grow hg7 b5
  (repeat' first|with_reducible intro _|refine sv ?_|refine sc ?_ ?_<;>(intro h;try exact sz h)|refine sg ?_ ?_<;>(intro h;first|exact sz h|refine sy h ?_)|exact sq|fail)
  refine x_call gd rfl rfl (cBm M7 hg7) ?_
  rintro w8 M8 ⟨ab, fb, eb, rfl, hsb, hg8⟩
  have hsa8 := hsa.grow hg8
  have b28 := At.grow hg8 b27
  have b58 := At.grow hg8 b57
  have g68 := hg7.trans hg8
  have gM8 := gM6.trans g68
  clear b26 b5 b27 b57 hg7 hg8 gM4 gM6 cB cBm hsa
  generalize (bstF s).1 = L at *
  generalize (bstF s).2.1 = nn at *
  generalize (bstF s).2.2 = en at *
  (repeat' first|with_reducible intro _|refine sv ?_|refine sc ?_ ?_<;>(intro h;try exact sz h)|refine sg ?_ ?_<;>(intro h;first|exact sz h|refine sy h ?_)|exact sq|fail)
  all_goals try (exfalso; omega)
  refine w_loop_ind (fun z E ms M' => ∃ k : Nat, z = L.length - k /\ k <= L.length /\ ms = [] /\ Has E [(2, .ptr (some (n2, 0))), (5, .ptr (some (n5, 0))), (7, .slice aa L.length fa ea), (10, .slice ab L.length fb eb), (13, I k)] /\ M' = M8)
   ?_ (L.length - 0) _ _ _ ⟨0, rfl, Nat.zero_le _, rfl, .cons rfl (.cons rfl (.cons rfl (.cons rfl (.cons rfl .nil)))), rfl⟩
  rintro z E ms M9 ⟨k, rfl, hk, rfl, hE, rfl⟩
  refine w_has hE ?_
  clear hE
  by_cases hlast : k = L.length
  ·subst hlast
   (repeat' first|with_reducible intro _|refine sv ?_|refine sc ?_ ?_<;>(intro h;try exact sz h)|refine sg ?_ ?_<;>(intro h;first|exact sz h|refine sy h ?_)|exact sq|fail)
   refine x_call gd rfl rfl (cT _ gM8) ?_
   rintro w10 M10 ⟨hg10, sl, rfl, hsl⟩
   obtain ⟨ax, fx, ex, rfl, hA⟩ := intv_sl hsl
   have b510 := At.grow hg10 b58
   have g610 := g68.trans hg10
   (repeat' first|with_reducible intro _|refine sv ?_|refine sc ?_ ?_<;>(intro h;try exact sz h)|refine sg ?_ ?_<;>(intro h;first|exact sz h|refine sy h ?_)|exact sq|fail)
   refine x_call gd rfl rfl (cTm _ g610) ?_
   rintro w11 M11 ⟨hg11, sl2, rfl, hsl2⟩
   obtain ⟨ay, fy, ey, rfl, hB2⟩ := intv_sl hsl2
   have hA11 := hA.grow hg11
   clear cT cTm b28 b58 b510 hB6 hA
   generalize (TableF s).1 = T at *
   generalize (TableF s).2 = te at *
   have hal := fun M' (hg : Grow M11 M') => c_alike (fa := fx) (ea := ex) (fb := fy) (eb := ey) (hA11.grow hg) (hB2.grow hg) htl
   (repeat' first|with_reducible intro _|refine sv ?_|refine sc ?_ ?_<;>(intro h;try exact sz h)|(with_reducible first|apply x_same|apply d_same|apply d_same0);exact gd;exact rfl;exact rfl;exact c_works _|(with_reducible first|apply x_pure|apply d_pure|apply d_pure0);exact gd;exact rfl;exact rfl;exact hal _ (xg)|refine sg ?_ ?_<;>(intro h;first|exact sz h|refine sy h ?_)|exact sq|fail)
   all_goals try (exfalso; simp_all; done)
   (refine kf ?_)
   rfl
  have hlt : k < L.length := by omega
  obtain ⟨i1, o1, rfl, hq1⟩ := hsa8.resolve_left (fun h => by rw [h] at hlt; exact absurd hlt (Nat.not_lt_zero _))
  obtain ⟨i2, o2, rfl, hq2⟩ := hsb.resolve_left (fun h => by rw [h] at hlt; exact absurd hlt (Nat.not_lt_zero _))
  have hr1 := hq1 k hlt
  have hr2 := hq2 k hlt
  (have hrd0 := hr1;have hrd1 := hr2;repeat' first|with_reducible intro _|refine sv ?_|refine sc ?_ ?_<;>(intro h;try exact sz h)|refine sg ?_ ?_<;>(intro h;first|exact sz h|refine sy h ?_)|exact sq|fail)
  all_goals try (exfalso; simp_all; done)
  exact k_step (L.length - (k + 1)) (by omega) ⟨k + 1, rfl, by omega, rfl, .cons rfl (.cons rfl (.cons rfl (.cons rfl (.cons rfl .nil)))), rfl⟩
end Go.Proofs.YtifcpjfpjkoicaaGreat.C
end
section
open Go PvL Go.Proofs
set_option linter.unusedVariables false
set_option linter.unusedSimpArgs false
set_option linter.unusedSectionVars false
namespace Go.Proofs.YtifcpjfpjkoicaaGreat.C
open Go.Proofs.YtifcpjfpjkoicaaGreat
section
def okT (P : Program) (G : List TypeId) (R : Nat) (t : TypeId) : Bool := match P.underlying t with
 | some (.slice e) => G.contains e && decide (P.bytesOf e <= R)
 | some (.pointer e) => G.contains e
 | some (.struct fs) => fs.toList.all fun f => G.contains f.type
 | some (.array _ e) => G.contains e
 | some (.map k e) => G.contains e && (decide (P.bytesOf e <= R) && decide (P.bytesOf k <= R))
 | _ => true
variable {H : Type} {P : Program} {G : List TypeId} {R K : Nat} (hb : ∀ t, G.contains t = true -> okT P G R t = true) (hK : 2 * R + 1 <= K)
theorem bulk_one (d : DataW H) : 1 <= Rows.uptoBulk d := by
 cases d with
 | lit l => cases l <;> simp [Rows.uptoBulk]
 | nil => simp [Rows.uptoBulk]
 | ptr d => simp [Rows.uptoBulk]
 | slice elems spare => simp [Rows.uptoBulk]
 | agg parts => simp [Rows.uptoBulk]
 | iface t d => simp [Rows.uptoBulk]
 | map entries => simp [Rows.uptoBulk]
 | held h => simp [Rows.uptoBulk]
theorem bulk_len : ∀ (l : List (DataW H)), l.length <= Rows.uptoBulkAll l
 | [] => Nat.le_refl _
 | x :: r => by
  have h1 := bulk_one x
  have h2 := bulk_len r
  simp only [Rows.uptoBulkAll, List.length_cons]; omega
theorem bulk_ents : ∀ (l : List (Lit × DataW H)), l.length <= Rows.uptoBulkEntries l
 | [] => Nat.le_refl _
 |(k, d) :: r => by
  have h1 := bulk_one d
  have h2 := bulk_ents r
  have h3 : 1 <= Rows.uptoBulkEntry (k, d) := by cases k <;> simp [Rows.uptoBulkEntry] <;> omega
  simp only [Rows.uptoBulkEntries, List.length_cons]; omega
include hb hK
mutual
theorem weights_bulk : ∀ (d : DataW H) (t : TypeId), G.contains t = true -> ∀ n ∈ d.weights P t, n <= Rows.uptoBulk d * K
 | .lit l, t, hG, n, h => by
  cases l with
  | string b =>
   simp only [DataW.weights, List.mem_singleton] at h
   subst h
   simp only [Rows.uptoBulk]
   exact Nat.le_trans (Nat.le_succ _) (Nat.le_mul_of_pos_right _ (by omega))
  | _ => simp [DataW.weights] at h
 | .nil, t, hG, n, h => by simp [DataW.weights] at h
 | .held _, t, hG, n, h => by simp [DataW.weights] at h
 | .iface _ _, t, hG, n, h => by simp [DataW.weights] at h
 | .ptr d, t, hG, n, h => by
  unfold DataW.weights at h
  split at h
  ·rename_i e he
   have hg := hb t hG
   unfold okT at hg
   rw [he] at hg
   have := weights_bulk d e hg n h
   simp only [Rows.uptoBulk]
   exact Nat.le_trans this (Nat.mul_le_mul_right _ (by omega))
  ·cases h
 | .slice el sp, t, hG, n, h => by
  unfold DataW.weights at h
  have e1 : Rows.uptoBulk (.slice el sp) = Rows.uptoBulkAll el + Rows.uptoBulkAll sp + 1 := by simp only [Rows.uptoBulk]
  split at h
  ·rename_i e he
   have hg := hb t hG
   unfold okT at hg
   rw [he] at hg
   simp only [Bool.and_eq_true, decide_eq_true_eq] at hg
   rcases List.mem_cons.1 h with rfl | h
   ·have h1 := bulk_len el
    have h2 := bulk_len sp
    have h3 := hg.2
    exact Nat.mul_le_mul (by omega) (by omega)
   ·rcases List.mem_append.1 h with h | h
    ·have := weights_bulkAll el e hg.1 n h; exact Nat.le_trans this (Nat.mul_le_mul_right _ (by omega))
    ·have := weights_bulkAll sp e hg.1 n h; exact Nat.le_trans this (Nat.mul_le_mul_right _ (by omega))
  ·cases h
 | .agg ps, t, hG, n, h => by
  unfold DataW.weights at h
  have e1 : Rows.uptoBulk (.agg ps) = Rows.uptoBulkAll ps + 1 := by simp only [Rows.uptoBulk]
  have hg := hb t hG
  unfold okT at hg
  split at h
  ·rename_i fs he
   rw [he] at hg
   have := weights_bulkEach ps _ (fun t ht => by
    obtain ⟨f, hf, rfl⟩ := List.mem_map.1 ht
    exact List.all_eq_true.1 hg f hf) n h
   exact Nat.le_trans this (Nat.mul_le_mul_right _ (by omega))
  ·rename_i q e he
   rw [he] at hg
   have := weights_bulkAll ps e hg n h; exact Nat.le_trans this (Nat.mul_le_mul_right _ (by omega))
  ·cases h
 | .map es, t, hG, n, h => by
  unfold DataW.weights at h
  have e1 : Rows.uptoBulk (.map es) = Rows.uptoBulkEntries es + 1 := by simp only [Rows.uptoBulk]
  split at h
  ·rename_i k e he
   have hg := hb t hG
   unfold okT at hg
   rw [he] at hg
   simp only [Bool.and_eq_true, decide_eq_true_eq] at hg
   rcases List.mem_cons.1 h with rfl | h
   ·have h1 := bulk_ents es
    have h3 := hg.2.1
    have h4 := hg.2.2
    exact Nat.mul_le_mul (by omega) (by omega)
   ·have := weights_bulkEnts es e hg.1 n h; exact Nat.le_trans this (Nat.mul_le_mul_right _ (by omega))
  ·cases h
theorem weights_bulkAll : ∀ (l : List (DataW H)) (e : TypeId), G.contains e = true -> ∀ n ∈ DataW.weightsAll P e l, n <= Rows.uptoBulkAll l * K
 | [], e, hG, n, h => by simp [DataW.weightsAll] at h
 | d :: r, e, hG, n, h => by
  unfold DataW.weightsAll at h
  have e1 : Rows.uptoBulkAll (d :: r) = Rows.uptoBulk d + Rows.uptoBulkAll r := by simp only [Rows.uptoBulkAll]
  rcases List.mem_append.1 h with h | h
  ·have := weights_bulk d e hG n h; exact Nat.le_trans this (Nat.mul_le_mul_right _ (by omega))
  ·have := weights_bulkAll r e hG n h; exact Nat.le_trans this (Nat.mul_le_mul_right _ (by omega))
theorem weights_bulkEach : ∀ (l : List (DataW H)) (ts : List TypeId), (∀ t ∈ ts, G.contains t = true) -> ∀ n ∈ DataW.weightsEach P ts l, n <= Rows.uptoBulkAll l * K
 | [], ts, hG, n, h => by cases ts <;> simp [DataW.weightsEach] at h
 | d :: r, [], hG, n, h => by simp [DataW.weightsEach] at h
 | d :: r, t :: ts, hG, n, h => by
  unfold DataW.weightsEach at h
  have e1 : Rows.uptoBulkAll (d :: r) = Rows.uptoBulk d + Rows.uptoBulkAll r := by simp only [Rows.uptoBulkAll]
  rcases List.mem_append.1 h with h | h
  ·have := weights_bulk d t (hG t (by simp)) n h; exact Nat.le_trans this (Nat.mul_le_mul_right _ (by omega))
  ·have := weights_bulkEach r ts (fun q hq => hG q (by simp [hq])) n h; exact Nat.le_trans this (Nat.mul_le_mul_right _ (by omega))
theorem weights_bulkEnts : ∀ (l : List (Lit × DataW H)) (e : TypeId), G.contains e = true -> ∀ n ∈ DataW.weightsEntries P e l, n <= Rows.uptoBulkEntries l * K
 | [], e, hG, n, h => by simp [DataW.weightsEntries] at h
 |(k, d) :: r, e, hG, n, h => by
  unfold DataW.weightsEntries at h
  have e1 : Rows.uptoBulkEntries ((k, d) :: r) = Rows.uptoBulkEntry (k, d) + Rows.uptoBulkEntries r := by simp only [Rows.uptoBulkEntries]
  rcases List.mem_append.1 h with h | h
  ·have h2 : n <= Rows.uptoBulkEntry (k, d) * K := by
    cases k with
    | string b =>
     have e2 : Rows.uptoBulkEntry (.string b, d) = b.length + Rows.uptoBulk d + 1 := by simp only [Rows.uptoBulkEntry]
     have h3 : n ∈ b.length :: d.weights P e := h
     rcases List.mem_cons.1 h3 with rfl | h3
     ·exact Nat.le_trans (show b.length <= b.length + Rows.uptoBulk d + 1 by omega) (Nat.le_trans (Nat.le_mul_of_pos_right _ (show 0 < K by omega)) (Nat.mul_le_mul_right _ (by omega)))
     ·have := weights_bulk d e hG n h3; exact Nat.le_trans this (Nat.mul_le_mul_right _ (by omega))
    | int a b =>
     have := weights_bulk d e hG n h
     simp only [Rows.uptoBulkEntry]
     exact Nat.le_trans this (Nat.mul_le_mul_right _ (by omega))
    | bool b =>
     have := weights_bulk d e hG n h
     simp only [Rows.uptoBulkEntry]
     exact Nat.le_trans this (Nat.mul_le_mul_right _ (by omega))
    | nil =>
     have := weights_bulk d e hG n h
     simp only [Rows.uptoBulkEntry]
     exact Nat.le_trans this (Nat.mul_le_mul_right _ (by omega))
    | float a b =>
     have := weights_bulk d e hG n h
     simp only [Rows.uptoBulkEntry]
     exact Nat.le_trans this (Nat.mul_le_mul_right _ (by omega))
   exact Nat.le_trans h2 (Nat.mul_le_mul_right _ (by omega))
  ·have := weights_bulkEnts r e hG n h; exact Nat.le_trans this (Nat.mul_le_mul_right _ (by omega))
end
end
end Go.Proofs.YtifcpjfpjkoicaaGreat.C
end
