/-
 Part of the proof of CourseMovedUpto: what functions of the program and of the statement come to, walked by the rules. No condition beyond those in each theorem.
-/
import Derived.Test.YtifcpjfpjkoicaaGreatTS
import Derived.Test.YtifcpjfpjkoicaaGreatPvE
import Derived.Test.YtifcpjfpjkoicaaGreatTD
import Derived.Test.YtifcpjfpjkoicaaGreatPvD
section
open Go PvL
set_option linter.unusedVariables false
namespace Go.Proofs.YtifcpjfpjkoicaaGreat.C
abbrev ptSh : Sh := .pair (.int .i64) (.int .i64)
abbrev legSh : Sh := .pair ptSh ptSh
abbrev rgSh : Sh := .pair ptSh (.pair ptSh (.pair ptSh ptSh))
abbrev poseSh : Sh := .pair ptSh (.int .i64)
abbrev crSh : Sh := .pair (.sl legSh) (.pair (.sl (.sl ptSh)) (.pair (.sl ptSh) (.pair rgSh (.pair poseSh (.pair (.int .i64) (.pair (.int .i64) (.sl (.sl ptSh))))))))
def toCr (x : crSh.T) : Cr := ⟨x.1, x.2.1, x.2.2.1, x.2.2.2.1, x.2.2.2.2.1, x.2.2.2.2.2.1, x.2.2.2.2.2.2.1, x.2.2.2.2.2.2.2⟩
theorem enc_int {m : Mem} {x : Int} {c : List LV} (h : Enc m (.int .i64) x c) : c = [I x] := h.1
theorem enc_pt {m : Mem} {x : ptSh.T} {c : List LV} (h : Enc m ptSh x c) : c = [I x.1, I x.2] := by
 obtain ⟨c1, d1, rfl, h1, h2⟩ := h
 rw [enc_int h1, enc_int h2]; rfl
theorem enc_leg {m : Mem} {x : legSh.T} {c : List LV} (h : Enc m legSh x c) : c = legc x := by
 obtain ⟨c1, d1, rfl, h1, h2⟩ := h
 rw [enc_pt h1, enc_pt h2]; rfl
theorem enc_rg {m : Mem} {x : rgSh.T} {c : List LV} (h : Enc m rgSh x c) : c = rgc x := by
 obtain ⟨c1, d1, rfl, h1, c2, d2, rfl, h2, c3, d3, rfl, h3, h4⟩ := h
 rw [enc_pt h1, enc_pt h2, enc_pt h3, enc_pt h4]; rfl
theorem enc_pose {m : Mem} {x : poseSh.T} {c : List LV} (h : Enc m poseSh x c) : c = [I x.1.1, I x.1.2, I x.2] := by
 obtain ⟨c1, d1, rfl, h1, h2⟩ := h
 rw [enc_pt h1, enc_int h2]; rfl
theorem enc_slA {m : Mem} {e : Sh} {enc : e.T -> List LV} (he : ∀ x c, Enc m e x c -> c = enc x) {l : List e.T} {cs : List LV} (h : Enc m (.sl e) l cs) : ∃ a f, cs = [.slice a l.length f e.size] /\ SlA e.size enc m a l /\ l.length <= rB := by
 obtain ⟨a, f, h1, h2, h3⟩ := h
 refine ⟨a, f, h1, ?_, h2⟩
 by_cases hl : l = []
 ·exact .inl hl
 ·obtain ⟨i, o, g1, g2, _, g3⟩ := h3 hl
  refine .inr ⟨i, o, g1, fun k hk => ?_⟩
  obtain ⟨c, g4, g5⟩ := g3 k hk
  rw [he _ _ g5] at g4
  exact ⟨g4, g2⟩
theorem max_le : rB <= 1000000000000000 := by decide
theorem enc_slL {m : Mem} {e : Sh} {enc : e.T -> List LV} (he : ∀ x c, Enc m e x c -> c = enc x) {l : List (List e.T)} {cs : List LV} (h : Enc m (.sl (.sl e)) l cs) : ∃ a f, cs = [.slice a l.length f 1] /\ SlL e.size enc m a l /\ l.length <= rB := by
 obtain ⟨a, f, h1, h2, h3⟩ := h
 refine ⟨a, f, h1, ?_, h2⟩
 by_cases hl : l = []
 ·exact .inl hl
 ·obtain ⟨i, o, g1, g2, _, g3⟩ := h3 hl
  refine .inr ⟨i, o, g1, fun k hk => ?_⟩
  obtain ⟨c, g4, g5⟩ := g3 k hk
  obtain ⟨a', f', rfl, k2, k3⟩ := enc_slA he g5
  refine ⟨a', f', ⟨?_, g2⟩, k2, Nat.le_trans k3 max_le⟩
  have g4 : loadN m i (o + k * 1) 1 = some [.slice a' l[k].length f' e.size] := g4
  unfold loadN atCells at g4
  unfold load1 atCells
  obtain ⟨lb, q1, q2⟩ := ob_eq.1 g4
  rw [q1, ob_some]
  cases lb with
  | cells own cs ty =>
   obtain ⟨q3, q4⟩ := take'_eq.1 (show take' 1 (drop' (o + k * 1) cs) = _ from q2)
   show nth cs (o + k * 1) = _
   rw [drop'_eq] at q4
   rw [nth_eq]
   have : (cs.drop (o + k * 1)).take 1 = [.slice a' l[k].length f' e.size] := q4.symm
   have h0 : ((cs.drop (o + k * 1)).take 1)[0]? = some (.slice a' l[k].length f' e.size) := by rw [this]; rfl
   rw [List.getElem?_take_of_lt (by omega), List.getElem?_drop] at h0
   exact h0
  | _ => cases q2
theorem enc_cr1 {m : Mem} {x : crSh.T} {cs : List LV} (h : Enc m crSh x cs) : ∃ A, cs = crc A (toCr x) /\ CrM m A (toCr x) /\ A.eF = 1 := by
 obtain ⟨c1, d1, rfl, h1, c2, d2, rfl, h2, c3, d3, rfl, h3, c4, d4, rfl, h4, c5, d5, rfl, h5, c6, d6, rfl, h6, c7, d7, rfl, h7, h8⟩ := h
 obtain ⟨aL, fL, rfl, k1, k1'⟩ := enc_slA (enc := legc) (fun _ _ => enc_leg) h1
 obtain ⟨aF, fF, rfl, k2, k2'⟩ := enc_slL (enc := ptc) (fun _ _ => enc_pt) h2
 obtain ⟨aB, fB, rfl, k3, k3'⟩ := enc_slA (enc := ptc) (fun _ _ => enc_pt) h3
 obtain ⟨aO, fO, rfl, k8, k8'⟩ := enc_slL (enc := bdc) (fun _ _ => enc_pt) h8
 rw [enc_rg h4, enc_pose h5, enc_int h6, enc_int h7]
 exact ⟨⟨aL, fL, aF, fF, aB, fB, aO, fO, 1, 4, 2⟩, rfl, ⟨k1, k2.toE, k3, k8, Nat.le_trans k1' max_le, Nat.le_trans k2' max_le, Nat.le_trans k3' max_le, Nat.le_trans k8' max_le⟩, rfl⟩
theorem enc_cr {m : Mem} {x : crSh.T} {cs : List LV} (h : Enc m crSh x cs) : ∃ A, cs = crc A (toCr x) /\ CrM m A (toCr x) := by
 obtain ⟨A, h1, h2, _⟩ := enc_cr1 h
 exact ⟨A, h1, h2⟩
theorem enc_in {m : Mem} {e : Sh} {l : List (List e.T)} {cs : List LV} (h : Enc m (.sl (.sl e)) l cs) : ∀ x ∈ l, x.length <= rB := fun x hx => by
 obtain ⟨a, f, h1, h2, h3⟩ := h
 obtain ⟨i, o, g1, g2, _, g3⟩ := h3 (fun h => by rw [h] at hx; cases hx)
 obtain ⟨k, hk, rfl⟩ := List.getElem_of_mem hx
 obtain ⟨c, g4, a', f', g5, g6, _⟩ := g3 k hk
 exact g6
theorem rb_le : rB <= 20000000000 := by decide
theorem enc_crB {m : Mem} {x : crSh.T} {cs : List LV} (h : Enc m crSh x cs) : ∃ A, cs = crc A (toCr x) /\ CrM m A (toCr x) /\ (toCr x).lines.length <= 20000000000 /\ (toCr x).fields.length <= 20000000000 /\ (toCr x).buoys.length <= 20000000000 /\ ∀ f ∈ (toCr x).fields, f.length <= 20000000000 := by
 obtain ⟨A, e1, e2⟩ := enc_cr h
 obtain ⟨c1, d1, rfl, h1, c2, d2, rfl, h2, c3, d3, rfl, h3, h4⟩ := h
 have hin := enc_in h2
 obtain ⟨_, _, _, k1, _⟩ := h1
 obtain ⟨_, _, _, k2, _⟩ := h2
 obtain ⟨_, _, _, k3, _⟩ := h3
 exact ⟨A, e1, e2, Nat.le_trans k1 rb_le, Nat.le_trans k2 rb_le, Nat.le_trans k3 rb_le, fun f hf => Nat.le_trans (hin f hf) rb_le⟩
end Go.Proofs.YtifcpjfpjkoicaaGreat.C
end
section
open Go PvL Go.Proofs
set_option linter.unusedSimpArgs false
set_option linter.unusedVariables false
namespace Go.Proofs.YtifcpjfpjkoicaaGreat.C
abbrev shv (k : Nat) (w : Int) : LV := .agg [I k, I w]
set_option maxHeartbeats 4000000 in
theorem c_Octant (x y : Int) (hx : -131072 <= x /\ x <= 131072) (hy : -131072 <= y /\ y <= 131072) (M : Mem) : CallOk Tryz.prog 18 [.agg [I x, I y]] M (fun w M' => w = I (octF x y) /\ Grow M M') := by
 refine call_in kq18 rfl ?_
 dsimp only [xq18, qm, qf, ql, qi, qb, qc, qB, qC, qg, qo, qk, qK, qq, qZ, zipE, Nat.reduceAdd]
 (repeat' first|with_reducible intro _|refine sv ?_|refine su ?_|refine sc ?_ ?_<;>(intro h;try exact sz h)|(with_reducible first|apply x_same|apply d_same|apply d_same0);exact gd;exact rfl;exact rfl;exact c_within _ _ _ _|refine sg ?_ ?_<;>(intro h;first|exact sz h|refine sy h ?_)|exact sq|fail)
 all_goals (refine kf ?_)
 all_goals refine ⟨?_, xg⟩
 all_goals unfold octF
 all_goals (repeat' split)
 all_goals first | rfl | (exfalso; omega)
theorem c_way {A : CrA} {s : Cr} {pc pm : Nat} {k : Nat} {w : Int} {M : Mem} (hC : ChM M A s pc pm) (hk : k < s.lines.length) (hw : w = 0 ∨ w = 1) :
  CallOk Tryz.prog 58 [.ptr (some (pc, 0)), shv k w] M (fun v M' => v = wayv (wayF s k w) /\ Grow M M') := by
 obtain ⟨aL, fL, aF, fF, aB, fB, aO, fO, eF, eL, eB⟩ := A
 have hcell := hC.cells
 have hpc := hcell.2
 obtain ⟨i, o, rfl, hr⟩ := (show SlA 4 legc M aL s.lines from hC.cr.lines).resolve_left (fun e => by rw [e] at hk; simp at hk)
 have r1 := hr k hk
 have hi := r1.2
 refine call_in kq58 rfl ?_
 dsimp only [xq58, qm, qf, ql, qL, qb, qa, qC, qS, qo, qk, qK, qq, qZ, zipE, Nat.reduceAdd]
 unfold wayF
 rw [getD_eq hk]
 rcases hw with rfl | rfl
 ·(have hrd0 := r1;repeat' first|with_reducible intro _|refine sv ?_|refine sc ?_ ?_<;>(intro h;try exact sz h)|refine sg ?_ ?_<;>(intro h;first|exact sz h|refine sy h ?_)|exact sq|fail)
  (refine kf ?_)
  exact ⟨rfl, xg⟩
 ·(have hrd0 := r1;repeat' first|with_reducible intro _|refine sv ?_|refine sc ?_ ?_<;>(intro h;try exact sz h)|refine sg ?_ ?_<;>(intro h;first|exact sz h|refine sy h ?_)|exact sq|fail)
  (refine kf ?_)
  exact ⟨rfl, xg⟩
theorem if_list2 {α : Type} {P : α -> Prop} {l : List α} {k : Nat} (h : ∀ j (hj : j < l.length), j < k -> P l[j]) (hk : l.length <= k) : ∀ x ∈ l, P x := fun x hx => by
 obtain ⟨j, hj, rfl⟩ := List.getElem_of_mem hx
 exact h j hj (by omega)
abbrev bdv (b : Bd) : LV := .agg [I b.1, I b.2]
theorem findSome_take {α β : Type} {f : α -> Option β} {l : List α} {k : Nat} (hk : k < l.length) (h : ∀ j (hj : j < l.length), j < k -> f l[j] = none) {b : β} (hb : f l[k] = some b) : l.findSome? f = some b :=
 findSome_at (List.getElem?_eq_getElem hk) (fun t ht => by
  obtain ⟨q, hq1, rfl⟩ := List.getElem_of_mem ht
  rw [List.length_take] at hq1
  rw [List.getElem_take]
  exact h q (by omega) (by omega)) hb
set_option maxHeartbeats 4000000 in
theorem c_shot {A : CrA} {s : Cr} {pc pm : Nat} {k : Nat} {w t : Int} {M : Mem} (hC : ChM M A s pc pm) (hs : CrOk s) (hk : k < s.lines.length) (hw : w = 0 ∨ w = 1) (ht : 0 <= t /\ t <= 1000000000) :
  CallOk Tryz.prog 42 [.ptr (some (pc, 0)), shv k w, I t] M (fun v M' => v = .tup [bdv ((shotF s k w t).getD (0, 0)), .bool (shotF s k w t).isSome] /\ Keep (fun i => i = pm) M M' /\ KnM M' s pm) := by
 have hway := wayF_ok hs hk w
 have hsb := steps_bd hs.speed hway.1 hway.2.1
 have hno := hs.no
 have hk2 : k < s.opn.length := by omega
 have hcell := hC.cells
 have hpc := hcell.2
 have hkn0 := hC.known
 have hpm : pm < M.next := by obtain ⟨L, h1, _⟩ := hkn0; exact h1.2
 obtain ⟨aL, fL, aF, fF, aB, fB, aO, fO, eF, eL, eB⟩ := A
 obtain ⟨i2, o2, rfl, hr2⟩ := (show SlL 2 bdc M aO s.opn from hC.cr.opn).resolve_left (fun e => by rw [e] at hk2; simp at hk2)
 obtain ⟨aw, fw, g1, g2, g3⟩ := hr2 k hk2
 have hi2 := g1.2
 have hne := hC.ne
 have hmM := fun M' (hg : Grow M M') => c_way (hC.grow hg) hk hw
 unfold shotF
 rw [getD_eq hk2]
 generalize hq : wayF s k w = q at *
 refine call_in kq42 rfl ?_
 dsimp only [xq42, qm, qf, ql, qL, qi, qb, qc, qa, qn, qB, qC, qS, qo, qk, qK, qq, qZ, zipE, Nat.reduceAdd]
 (repeat' first|with_reducible intro _|refine sv ?_|refine sc ?_ ?_<;>(intro h;try exact sz h)|(with_reducible first|apply x_pure|apply d_pure|apply d_pure0);exact gd;exact rfl;exact rfl;exact hmM _ (xg)|refine sg ?_ ?_<;>(intro h;first|exact sz h|refine sy h ?_)|exact sq|fail)
 rename_i n4 M1 hn4 e1 e2 n6 M2 hn6 e3 e4 M3 hg3 e5 n8 M4 hn8 e6 e7 M5 hu5 e8 a8
 have hg5 : Grow M M5 := xg
 refine x_call (by exact gd) rfl rfl (show AppOk Tryz.prog _ _ M5 _ from c_clear (a := q.1) (b := q.2) (hC.grow hg5)) ?_
 rintro v M6 ⟨rfl, hk6, hkn6⟩
 have hle6 := hk6.le
 cases hcl : clearF s q.1 q.2 with
 | false =>
  rw [if_neg (by decide)]
  (repeat' first|with_reducible intro _|refine sv ?_|refine sc ?_ ?_<;>(intro h;try exact sz h)|refine sg ?_ ?_<;>(intro h;first|exact sz h|refine sy h ?_)|exact sq|fail)
  (refine kf ?_)
  exact ⟨rfl, xk, by obtain ⟨L, h1, h2⟩ := hkn6; exact ⟨L, xm, h2⟩⟩
 | true =>
 rw [if_pos rfl]
 have hcell6 : At M6 pc (.cells true (chc ⟨aL, fL, aF, fF, aB, fB, some (i2, o2), fO, eF, eL, eB⟩ s pm) 82) := (hcell.grow hg5).keep hk6 hne
 have r2 : Rd1 M6 i2 (o2 + k * 1) (.slice aw s.opn[k].length fw 2) := (g1.grow hg5).keep hk6 (by
  intro hh
  obtain ⟨L, h1, _⟩ := hkn0
  have h2 := g1.1
  unfold load1 atCells at h2
  rw [show i2 = pm from hh, h1.1] at h2
  cases h2)
 have hst := fun M' (hg : At M' pc (.cells true (chc ⟨aL, fL, aF, fF, aB, fB, some (i2, o2), fO, eF, eL, eB⟩ s pm) 82)) => c_steps (A := ⟨aL, fL, aF, fF, aB, fB, some (i2, o2), fO, eF, eL, eB⟩) (s := s) (pc := pc) (pm := pm) hg hs.speed hway.1 hway.2.1
 have hp6 := hcell6.2
 (have hrd0 := r2;repeat' first|with_reducible intro _|refine sv ?_|refine sc ?_ ?_<;>(intro h;try exact sz h)|(with_reducible first|apply x_pure|apply d_pure|apply d_pure0);exact gd;exact rfl;exact rfl;exact hst _ (xm)|refine sg ?_ ?_<;>(intro h;first|exact sz h|refine sy h ?_)|exact sq|fail)
 rename_i M7 hg7 e9
 refine w_loop_ind (fun n E ms M' => ∃ (j : Nat), n = s.opn[k].length - j /\ j <= s.opn[k].length /\ ms = [] /\ Has E [(2, I t), (6, .ptr (some (n6, 0))), (9, I (stepsF s.speed q.1 q.2)), (32, .slice aw s.opn[k].length fw 2), (33, I s.opn[k].length), (34, I j)] /\ Grow M7 M' /\ At M' n6 (.cells true [I 0, I 0] 26) /\
   ∀ i (hi : i < s.opn[k].length), i < j -> winO t (stepsF s.speed q.1 q.2) (s.opn[k])[i] = none) ?_ s.opn[k].length _ _ _
  ⟨0, by omega, by omega, rfl, .cons rfl (.cons rfl (.cons rfl (.cons rfl (.cons rfl (.cons rfl .nil))))), xg, xm, fun j hj h => absurd h (Nat.not_lt_zero _)⟩
 rintro n E ms M8 ⟨j, rfl, hj, rfl, hE, hG, a6, hall⟩
 have hle8 := hG.le
 have ha6 := a6.2
 refine w_has hE ?_
 by_cases hlast : j = s.opn[k].length
 ·subst hlast
  have hnone : (s.opn[k]).findSome? (winO t (stepsF s.speed q.1 q.2)) = none := findSome_none fun b hb => if_list2 (P := fun b => winO t (stepsF s.speed q.1 q.2) b = none) (fun i hi h => hall i hi h) (Nat.le_refl _) b hb
  rw [hnone]
  (repeat' first|with_reducible intro _|refine sv ?_|refine sc ?_ ?_<;>(intro h;try exact sz h)|refine sg ?_ ?_<;>(intro h;first|exact sz h|refine sy h ?_)|exact sq|fail)
  (refine kf ?_)
  exact ⟨rfl, xk, by obtain ⟨L, h1, h2⟩ := hkn6; have := h1.2; exact ⟨L, xm, h2⟩⟩
 have hlt : j < s.opn[k].length := by omega
 obtain ⟨i3, o3, rfl, hr3⟩ := g2.resolve_left (fun e => by rw [e] at hlt; simp at hlt)
 have hi3 := (hr3 j hlt).2
 have r3 : Rd M8 i3 (o3 + j * 2) 2 (bdc (s.opn[k])[j]) := (((hr3 j hlt).grow hg5).keep hk6 (by
  intro hh
  obtain ⟨L, h1, _⟩ := hkn0
  have h2 := (hr3 j hlt).1
  unfold loadN atCells at h2
  rw [show i3 = pm from hh, h1.1] at h2
  cases h2)).grow (xg)
 have hwin := (win_iff.1 (hs.opn _ (List.getElem_mem hk2))).2 j hlt
 unfold winAt at hwin
 rw [getD_eq hlt] at hwin
 have hmx : 0 <= iMax t (s.opn[k])[j].1 /\ iMax t (s.opn[k])[j].1 <= 1000000000 := by unfold iMax; omega
 by_cases hh : iMax t (s.opn[k])[j].1 + stepsF s.speed q.1 q.2 <= (s.opn[k])[j].2
 ·rw [findSome_take hlt hall (if_pos hh)]
  (have hrd0 := r3;repeat' first|with_reducible intro _|refine sv ?_|refine sc ?_ ?_<;>(intro h;try exact sz h)|refine sg ?_ ?_<;>(intro h;first|exact sz h|refine sy h ?_)|exact sq|fail)
  (refine kf ?_)
  exact ⟨rfl, xk, by obtain ⟨L, h1, h2⟩ := hkn6; have := h1.2; exact ⟨L, xm, h2⟩⟩
 ·(have hrd0 := r3;repeat' first|with_reducible intro _|refine sv ?_|refine sc ?_ ?_<;>(intro h;try exact sz h)|refine sg ?_ ?_<;>(intro h;first|exact sz h|refine sy h ?_)|exact sq|fail)
  refine k_step (s.opn[k].length - (j + 1)) (by omega) ⟨j + 1, rfl, by omega, rfl, .cons rfl (.cons rfl (.cons rfl (.cons rfl (.cons rfl (.cons rfl .nil))))), xg, xm, fun i hi h => ?_⟩
  by_cases hij : i = j
  ·subst hij; exact if_neg hh
  ·exact hall i hi (by omega)
theorem us_sPt : ∃ e, Tryz.prog.underlying 24 = some (.slice e) := ⟨30, by kernel_rfl⟩
instance : IsSl Tryz.prog 24 := ⟨us_sPt⟩
theorem firstL_pts {i o len : Nat} {f : Bool} {e : Nat} {l : List Pt} {M : Mem} (h : ∀ k (hk : k < l.length), Rd M i (o + k * 2) 2 (ptc l[k])) (hlen : len = l.length) (h0 : 0 < l.length) : firstL 2 l.length (.slice (some (i, o)) len f e) M = some (l.flatMap ptc) := by
 subst hlen
 exact firstL_rd (enc := ptc) (fun x _ => rfl) h
abbrev slp (n : Nat) (p : Nat) : LV := .slice (some (p, 0)) n false 2
theorem flat_pts (l : List Pt) : allFlat (l.flatMap ptc) = true := allFlat_flatMap (fun x _ => rfl)
theorem c_Clone_Pt {i o : Nat} {f : Bool} {e : Nat} {l : List Pt} {M : Mem} (hrd : ∀ k (hk : k < l.length), Rd M i (o + k * 2) 2 (ptc l[k])) (h0 : 0 < l.length) (hlen : l.length <= 1000000) :
  CallOk Tryz.prog 73 [.slice (some (i, o)) l.length f e] M (MkAt (slp l.length) (.cells true (l.flatMap ptc) 30) M) := by
 refine call_in kq73 rfl ?_
 dsimp only [xq73, qm, qo, qq, qZ, qN, zipE, Nat.reduceAdd]
 (repeat' first|with_reducible intro _|refine sv ?_|refine sc ?_ ?_<;>(intro h;try exact sz h)|refine sg ?_ ?_<;>(intro h;first|exact sz h|refine sy h ?_)|exact sq|fail)
 rename_i n5 M1 hn5 e1 e2
 have hw : firstL 2 l.length (.slice (some (i, o)) l.length f e) M1 = some (l.flatMap ptc) := firstL_pts (fun k hk => Rd.new_old hn5 (hrd k hk)) rfl h0
 refine x_app_new (by exact gd) (old := []) rfl rfl rfl h0 (by omega) rfl rfl hw (flat_pts l) (.inr rfl) ?_
 intro n6 M2 hn6 e3 e4
 (repeat' first|with_reducible intro _|refine sv ?_|refine sc ?_ ?_<;>(intro h;try exact sz h)|refine sg ?_ ?_<;>(intro h;first|exact sz h|refine sy h ?_)|exact sq|fail)
 (refine kf ?_)
 exact ⟨n6, by rw [Nat.zero_add]; rfl, At.new_same hn6, by omega, by omega, xg⟩
theorem c_before (a b : Pt) (ha : PlP a) (hb : PlP b) (M : Mem) : CallOk Tryz.prog 76 [ptv a, ptv b] M (fun w M' => w = I (befF a b) /\ Grow M M') := by
 dsimp only [PlP, Pl] at ha hb
 unfold befF
 refine call_in kq76 rfl ?_
 dsimp only [xq76, qm, qf, ql, qi, qb, qB, qq, zipE, Nat.reduceAdd]
 (repeat' first|with_reducible intro _|refine sv ?_|refine sc ?_ ?_<;>(intro h;try exact sz h)|refine sg ?_ ?_<;>(intro h;first|exact sz h|refine sy h ?_)|exact sq|fail)
 all_goals (refine kf ?_)
 all_goals refine ⟨?_, xg⟩
 ·rw [if_pos (by assumption)]; rfl
 ·rw [if_neg (by omega)]; rfl
theorem cmpL_drop {us vs : List Pt} : ∀ k, k <= us.length -> k <= vs.length -> (∀ j (h1 : j < us.length) (h2 : j < vs.length), j < k -> befF us[j] vs[j] = 0) -> cmpL us vs = cmpL (us.drop k) (vs.drop k)
 | 0, _, _, _ => rfl
 | k + 1, h1, h2, h => by
  rw [cmpL_drop k (by omega) (by omega) (fun j a b c => h j a b (by omega))]
  rw [List.drop_eq_getElem_cons (by omega : k < us.length), List.drop_eq_getElem_cons (by omega : k < vs.length)]
  show (if befF us[k] vs[k] ≠ 0 then befF us[k] vs[k] else cmpL (us.drop (k + 1)) (vs.drop (k + 1))) = _
  rw [if_neg (by rw [h k (by omega) (by omega) (by omega)]; simp)]
set_option maxHeartbeats 2000000 in
theorem c_CompareFunc {aa ab : Option (Nat × Nat)} {fa fb : Bool} {us vs : List Pt} {M : Mem} (ha : SlA 2 ptc M aa us) (hb : SlA 2 ptc M ab vs) (hpa : ∀ p ∈ us, PlP p) (hpb : ∀ p ∈ vs, PlP p) (hla : us.length <= 1000000) (hlb : vs.length <= 1000000) :
  CallOk Tryz.prog 75 [.slice aa us.length fa 2, .slice ab vs.length fb 2, .func (.func 76) [] []] M (fun w M' => w = I (cmpL us vs) /\ Grow M M') := by
 refine call_in kq75 rfl ?_
 dsimp only [xq75, qm, qL, qi, qa, qn, qB, qC, qS, qo, qq, qZ, zipE, Nat.reduceAdd]
 (repeat' first|with_reducible intro _|refine sv ?_|refine sc ?_ ?_<;>(intro h;try exact sz h)|refine sg ?_ ?_<;>(intro h;first|exact sz h|refine sy h ?_)|exact sq|fail)
 refine w_loop_ind (fun n E ms M' => ∃ k : Nat, n = us.length - k /\ k <= us.length /\ k <= vs.length /\ ms = [] /\ Has E [(0, .slice aa us.length fa 2), (1, .slice ab vs.length fb 2), (2, .func (.func 76) [] []), (11, .slice aa us.length fa 2), (12, I us.length), (13, I k)] /\ Grow M M' /\
   ∀ j (h1 : j < us.length) (h2 : j < vs.length), j < k -> befF us[j] vs[j] = 0) ?_ us.length _ _ _
  ⟨0, by omega, by omega, by omega, rfl, .cons rfl (.cons rfl (.cons rfl (.cons rfl (.cons rfl (.cons rfl .nil))))), xg, fun j _ _ h => absurd h (Nat.not_lt_zero _)⟩
 rintro n E ms M1 ⟨k, rfl, hk, hkb, rfl, hE, hg, hall⟩
 have hle := hg.le
 refine w_has hE ?_
 have hd := cmpL_drop k hk hkb hall
 by_cases hlast : k = us.length
 ·subst hlast
  rw [List.drop_length] at hd
  (repeat' first|with_reducible intro _|refine sv ?_|refine sc ?_ ?_<;>(intro h;try exact sz h)|refine sg ?_ ?_<;>(intro h;first|exact sz h|refine sy h ?_)|exact sq|fail)
  all_goals (refine kf ?_)
  all_goals refine ⟨?_, xg⟩
  ·rw [hd, List.drop_eq_getElem_cons (by omega)]; rfl
  ·rw [hd, List.drop_eq_nil_of_le (by omega)]; rfl
 have hlt : k < us.length := by omega
 obtain ⟨i, o, rfl, hr⟩ := ha.resolve_left (fun h => by subst h; simp at hlt)
 have r1 := (hr k hlt).grow hg
 by_cases hlb2 : k < vs.length
 rotate_left
 ·(have hrd0 := r1;repeat' first|with_reducible intro _|refine sv ?_|refine sc ?_ ?_<;>(intro h;try exact sz h)|refine sg ?_ ?_<;>(intro h;first|exact sz h|refine sy h ?_)|exact sq|fail)
  all_goals (refine kf ?_)
  refine ⟨?_, xg⟩
  have hv : vs.drop k = [] := List.drop_eq_nil_of_le (by omega)
  rw [hd, hv, List.drop_eq_getElem_cons hlt]; rfl
 obtain ⟨i2, o2, rfl, hr2⟩ := hb.resolve_left (fun h => by subst h; simp at hlb2)
 have r2 := (hr2 k hlb2).grow hg
 have p1 := hpa _ (List.getElem_mem hlt)
 have p2 := hpb _ (List.getElem_mem hlb2)
 have h1 := r1.2
 have h2 := r2.2
 have cb := c_before us[k] vs[k] p1 p2
 (have hrd0 := r1;have hrd1 := r2;repeat' first|with_reducible intro _|refine sv ?_|refine sc ?_ ?_<;>(intro h;try exact sz h)|(with_reducible first|apply x_pure|apply d_pure|apply d_pure0);exact gd;exact rfl;exact rfl;exact cb _|refine sg ?_ ?_<;>(intro h;first|exact sz h|refine sy h ?_)|exact sq|fail)
 ·(refine kf ?_)
  refine ⟨?_, xg⟩
  rw [hd, List.drop_eq_getElem_cons hlt, List.drop_eq_getElem_cons hlb2]
  show _ = I (if befF us[k] vs[k] ≠ 0 then befF us[k] vs[k] else _)
  rw [if_pos (by assumption)]; rfl
 ·refine k_step (us.length - (k + 1)) (by omega) ⟨k + 1, rfl, by omega, by omega, rfl, .cons rfl (.cons rfl (.cons rfl (.cons rfl (.cons rfl (.cons rfl .nil))))), xg, fun j j1 j2 hj => ?_⟩
  by_cases hjk : j = k
  ·subst hjk; assumption
  ·exact hall j j1 j2 (by omega)
theorem c_less {aa ab : Option (Nat × Nat)} {fa fb : Bool} {x y : Psg} {M : Mem} (ha : SlA 2 ptc M aa x.1) (hb : SlA 2 ptc M ab y.1) (hpa : ∀ p ∈ x.1, PlP p) (hpb : ∀ p ∈ y.1, PlP p) (hla : x.1.length <= 1000000) (hlb : y.1.length <= 1000000) :
  CallOk Tryz.prog 57 [.agg [.slice aa x.1.length fa 2, I x.2], .agg [.slice ab y.1.length fb 2, I y.2]] M (fun w M' => w = .bool (lessP x y) /\ Grow M M') := by
 have hc := fun M' (hg : Grow M M') => c_CompareFunc (fa := fa) (fb := fb) (ha.grow hg) (hb.grow hg) hpa hpb hla hlb
 unfold lessP
 refine call_in kq57 rfl ?_
 dsimp only [xq57, qm, qf, ql, qb, qn, qB, qC, qo, qq, zipE, Nat.reduceAdd]
 (repeat' first|with_reducible intro _|refine sv ?_|refine sc ?_ ?_<;>(intro h;try exact sz h)|(with_reducible first|apply x_pure|apply d_pure|apply d_pure0);exact gd;exact rfl;exact rfl;exact hc _ (xg)|refine sg ?_ ?_<;>(intro h;first|exact sz h|refine sy h ?_)|exact sq|fail)
 all_goals (refine kf ?_)
 all_goals refine ⟨?_, xg⟩
 ·rw [if_pos (by assumption)]; rfl
 ·rw [if_neg (by omega), if_pos (by omega)]
  exact congrArg LV.bool (by first | rfl | (rw [Bool.eq_iff_iff]; simp))
 ·rw [if_neg (by omega), if_neg (by omega)]; rfl
theorem c_turned (a b : Int) (ha : 0 <= a /\ a <= 7) (hb : 0 <= b /\ b <= 7) (M : Mem) : CallOk Tryz.prog 37 [I a, I b] M (fun w M' => w = I (trnF a b) /\ M' = M) := by
 refine call_in kq37 rfl ?_
 dsimp only [xq37, qm, qi, qB, qC, qo, qq, zipE, Nat.reduceAdd]
 (repeat' first|with_reducible intro _|refine sv ?_|refine sc ?_ ?_<;>(intro h;try exact sz h)|refine sg ?_ ?_<;>(intro h;first|exact sz h|refine sy h ?_)|exact sq|fail)
 all_goals (refine kf ?_)
 all_goals exact ⟨rfl, rfl⟩
theorem ChM.keep {M M' : Mem} {A : CrA} {s : Cr} {pc pm : Nat} (h : ChM M A s pc pm) {F : Nat -> Prop} (hk : Keep F M M') (hkn : KnM M' s pm) (hcr : CrM M' A s) (hpc : ¬ F pc) : ChM M' A s pc pm := ⟨hcr, h.cells.keep hk hpc, h.ne, hkn⟩
theorem KnM.ne_rd {M : Mem} {s : Cr} {pm i o n : Nat} {l : List LV} (h : KnM M s pm) (hr : Rd M i o n l) : i ≠ pm := by
 rintro rfl
 obtain ⟨L, h1, _⟩ := h
 have h2 := hr.1
 unfold loadN atCells at h2
 rw [h1.1] at h2
 cases h2
theorem KnM.ne_rd1 {M : Mem} {s : Cr} {pm i o : Nat} {v : LV} (h : KnM M s pm) (hr : Rd1 M i o v) : i ≠ pm := by
 rintro rfl
 obtain ⟨L, h1, _⟩ := h
 have h2 := hr.1
 unfold load1 atCells at h2
 rw [h1.1] at h2
 cases h2
theorem KnM.at {M : Mem} {s : Cr} {pm : Nat} (h : KnM M s pm) {M' : Mem} (h1 : M.next <= M'.next) (h2 : M'.get pm = M.get pm) : KnM M' s pm := by
 obtain ⟨L, h3, h4⟩ := h
 exact ⟨L, h3.same h1 h2, h4⟩
theorem KnM.lt {M : Mem} {s : Cr} {pm : Nat} (h : KnM M s pm) : pm < M.next := by obtain ⟨L, h1, _⟩ := h; exact h1.2
theorem SlA.keepN {α : Type} {sz : Nat} {enc : α -> List LV} {M M' : Mem} {a : Option (Nat × Nat)} {l : List α} {F : Nat -> Prop} (h : SlA sz enc M a l) (hk : Keep F M M') (hF : ∀ i o n x, Rd M i o n x -> ¬ F i) : SlA sz enc M' a l :=
 h.imp id fun ⟨i, o, h1, h2⟩ => ⟨i, o, h1, fun k hk' => (h2 k hk').keep hk (hF _ _ _ _ (h2 k hk'))⟩
theorem SlL.keepN {α : Type} {sz : Nat} {enc : α -> List LV} {M M' : Mem} {a : Option (Nat × Nat)} {ll : List (List α)} {F : Nat -> Prop} (h : SlL sz enc M a ll) (hk : Keep F M M') (hF : ∀ i o n x, Rd M i o n x -> ¬ F i) (hF1 : ∀ i o x, Rd1 M i o x -> ¬ F i) : SlL sz enc M' a ll :=
 h.imp id fun ⟨i, o, h1, h2⟩ => ⟨i, o, h1, fun k hk' => by
  obtain ⟨aw, fw, g1, g2, g3⟩ := h2 k hk'
  exact ⟨aw, fw, g1.keep hk (hF1 _ _ _ g1), g2.keepN hk hF, g3⟩⟩
theorem SlE.keepN {α : Type} {sz : Nat} {enc : α -> List LV} {M M' : Mem} {a : Option (Nat × Nat)} {ll : List (List α)} {F : Nat -> Prop} (h : SlE sz enc M a ll) (hk : Keep F M M') (hF : ∀ i o n x, Rd M i o n x -> ¬ F i) (hF1 : ∀ i o x, Rd1 M i o x -> ¬ F i) : SlE sz enc M' a ll :=
 h.imp id fun ⟨i, o, h1, h2⟩ => ⟨i, o, h1, fun k hk' => by
  obtain ⟨aw, fw, qw, g1, g2, g3⟩ := h2 k hk'
  exact ⟨aw, fw, qw, g1.keep hk (hF1 _ _ _ g1), g2.keepN hk hF, g3⟩⟩
theorem CrM.keepN {M M' : Mem} {A : CrA} {s : Cr} (h : CrM M A s) {F : Nat -> Prop} (hk : Keep F M M') (hF : ∀ i o n x, Rd M i o n x -> ¬ F i) (hF1 : ∀ i o x, Rd1 M i o x -> ¬ F i) : CrM M' A s :=
 ⟨h.lines.keepN hk hF, h.fields.keepN hk hF hF1, h.buoys.keepN hk hF, h.opn.keepN hk hF hF1, h.nl, h.nf, h.nb, h.no⟩
theorem ChM.keepm {M M' : Mem} {A : CrA} {s : Cr} {pc pm : Nat} (h : ChM M A s pc pm) (hk : Keep (fun i => i = pm) M M') (hkn : KnM M' s pm) : ChM M' A s pc pm :=
 h.keep hk hkn (h.cr.keepN hk (fun i o n x hr => h.known.ne_rd hr) (fun i o x hr => h.known.ne_rd1 hr)) h.ne
theorem costP_get {s : Cr} {l : List Pt} {o to : Int} (h0 : 0 < l.length) : costP s l o to = costL s to l[0] o (l.drop 1) := by
 cases l with
 | nil => simp at h0
 | cons p l => rfl
set_option maxHeartbeats 8000000 in
theorem c_cost {A : CrA} {s : Cr} {pc pm : Nat} {i off : Nat} {f : Bool} {l : List Pt} {o to : Int} {M : Mem} (hC : ChM M A s pc pm) (hs : CrOk s) (hl : ∀ k (hk : k < l.length), Rd M i (off + k * 2) 2 (ptc l[k])) (h0 : 0 < l.length) (hlen : l.length <= 100)
  (hpl : ∀ p ∈ l, PlP p) (ho : 0 <= o /\ o <= 7) (hto : 0 <= to /\ to <= 7) :
  CallOk Tryz.prog 72 [.ptr (some (pc, 0)), .slice (some (i, off)) l.length f 2, I o, I to] M (fun v M' => v = .tup [I ((costP s l o to).getD 0), .bool (costP s l o to).isSome] /\ Keep (fun i => i = pm) M M' /\ KnM M' s pm) := by
 have hnei : i ≠ pm := hC.known.ne_rd (hl 0 h0)
 have hne := hC.ne
 have htn := hs.turn
 refine call_in kq72 rfl ?_
 dsimp only [xq72, qm, qf, ql, qL, qi, qc, qa, qn, qB, qC, qg, qS, qo, qk, qK, qq, qZ, zipE, Nat.reduceAdd]
 (repeat' first|with_reducible intro _|refine sv ?_|refine sc ?_ ?_<;>(intro h;try exact sz h)|refine sg ?_ ?_<;>(intro h;first|exact sz h|refine sy h ?_)|exact sq|fail)
 refine w_loop_ind (fun n E ms M' => ∃ (k : Nat) (c o1 : Int), n = l.length - k /\ 1 <= k /\ ∃ hk : k <= l.length, ms = [] /\ Has E [(0, .ptr (some (pc, 0))), (1, .slice (some (i, off)) l.length f 2), (2, I o1), (3, I to), (10, I c), (11, I k)] /\ Keep (fun i => i = pm) M M' /\ KnM M' s pm /\
   (0 <= c /\ c <= k * 100000) /\ (0 <= o1 /\ o1 <= 7) /\ costP s l o to = (costL s to (l[k - 1]'(by omega)) o1 (l.drop k)).map (fun n => c + n)) ?_ (l.length - 1) _ _ _
  ⟨1, 0, o, by omega, by omega, by omega, rfl, .cons rfl (.cons rfl (.cons rfl (.cons rfl (.cons rfl (.cons rfl .nil))))), Keep.refl _ _, hC.known, by omega, ho, by rw [costP_get h0]; simp⟩
 rintro n E ms M1 ⟨k, c, o1, rfl, hk1, hk, rfl, hE, hK, hkn, hc, ho1, hcost⟩
 have hC1 : ChM M1 A s pc pm := hC.keepm hK hkn
 have hl1 : ∀ k (hk : k < l.length), Rd M1 i (off + k * 2) 2 (ptc l[k]) := fun k hk => (hl k hk).keep hK hnei
 have hpc := hC1.cells.2
 have hpm := hkn.lt
 have hle := hK.le
 obtain ⟨aL, fL, aF, fF, aB, fB, aO, fO, eF, eL, eB⟩ := A
 have hcell := hC1.cells
 refine w_has hE ?_
 by_cases hlast : k = l.length
 ·subst hlast
  rw [List.drop_length] at hcost
  have hcost : costP s l o to = some (c + s.turn * trnF o1 to) := hcost
  have h4 := trnF_bd o1 to
  have h6 := mul_bd (a := s.turn) (b := trnF o1 to) (A := 1000) (B := 4) (by omega) (by omega)
  rw [hcost]
  (repeat' first|with_reducible intro _|refine sv ?_|refine sc ?_ ?_<;>(intro h;try exact sz h)|(with_reducible first|apply x_same|apply d_same|apply d_same0);exact gd;exact rfl;exact rfl;exact c_turned _ _ ho1 hto _|refine sg ?_ ?_<;>(intro h;first|exact sz h|refine sy h ?_)|exact sq|fail)
  (refine kf ?_)
  exact ⟨rfl, xk, hkn⟩
 have hlt : k < l.length := by omega
 have hlt1 : k - 1 < l.length := by omega
 have r1 := hl1 k hlt
 have r0 := hl1 (k - 1) hlt1
 have hi := r1.2
 have p1 := hpl _ (List.getElem_mem hlt)
 have p0 := hpl _ (List.getElem_mem hlt1)
 have hdr := List.drop_eq_getElem_cons hlt
 rw [hdr] at hcost
 have r0' : Rd M1 i (off + ((k : Int) - 1).toNat * 2) 2 (ptc l[k - 1]) := by rw [show ((k : Int) - 1).toNat = k - 1 by omega]; exact r0
 generalize hq0 : l[k - 1] = q0 at *
 generalize hq1 : l[k] = q1 at *
 have hcl : costL s to q0 o1 (q1 :: l.drop (k + 1)) = if q0 ≠ q1 /\ clearF s q0 q1 = true then (costL s to q1 (octW q0 q1) (l.drop (k + 1))).map (fun n => stepsF s.speed q0 q1 + s.turn * trnF o1 (octW q0 q1) + n) else none := rfl
 rw [hcl] at hcost
 by_cases heq : q0 = q1
 ·rw [if_neg (by rintro ⟨h, _⟩; exact h heq)] at hcost
  have hcost : costP s l o to = none := hcost
  have he : q0.1 = q1.1 /\ q0.2 = q1.2 := by rw [heq]; exact ⟨rfl, rfl⟩
  rw [hcost]
  (have hrd0 := r0';have hrd1 := r1;repeat' first|with_reducible intro _|refine sv ?_|refine sc ?_ ?_<;>(intro h;try exact sz h)|refine sg ?_ ?_<;>(intro h;first|exact sz h|refine sy h ?_)|exact sq|fail)
  all_goals try (exfalso; omega)
  (refine kf ?_)
  exact ⟨rfl, xk, by obtain ⟨L, z1, z2⟩ := hkn; exact ⟨L, xm, z2⟩⟩
 have hne2 : ¬ (q0.1 = q1.1 /\ q0.2 = q1.2) := fun h => heq (Prod.ext h.1 h.2)
 (have hrd0 := r0';have hrd1 := r1;repeat' first|with_reducible intro _|refine sv ?_|refine sc ?_ ?_<;>(intro h;try exact sz h)|refine sg ?_ ?_<;>(intro h;first|exact sz h|refine sy h ?_)|exact sq|fail)
 all_goals try (exfalso; omega)
 rename_i n12 M2 hn12 e1 e2 M3 hu3 e3 a3
 have hC3 : ChM M3 ⟨aL, fL, aF, fF, aB, fB, aO, fO, eF, eL, eB⟩ s pc pm := hC1.grow (xg)
 refine x_call (by exact gd) rfl rfl (show AppOk Tryz.prog _ _ M3 _ from c_clear (a := q0) (b := q1) hC3) ?_
 rintro v M4 ⟨rfl, hK4, hkn4⟩
 have hle4 := hK4.le
 have hcell4 : At M4 pc (.cells true (chc ⟨aL, fL, aF, fF, aB, fB, aO, fO, eF, eL, eB⟩ s pm) 82) := hC3.cells.keep hK4 hne
 have a4 : At M4 n12 (.cells true [I q0.1, I q0.2, I q1.1, I q1.2] 98) := a3.keep hK4 (by omega)
 cases hcv : clearF s q0 q1 with
 | false =>
  rw [if_neg (by rw [hcv]; simp)] at hcost
  have hcost : costP s l o to = none := hcost
  rw [hcost]
  (repeat' first|with_reducible intro _|refine sv ?_|refine sc ?_ ?_<;>(intro h;try exact sz h)|refine sg ?_ ?_<;>(intro h;first|exact sz h|refine sy h ?_)|exact sq|fail)
  (refine kf ?_)
  exact ⟨rfl, xk, by obtain ⟨L, z1, z2⟩ := hkn4; exact ⟨L, xm, z2⟩⟩
 | true =>
  rw [if_pos ⟨heq, hcv⟩] at hcost
  have hst := fun M' (hg : At M' pc (.cells true (chc ⟨aL, fL, aF, fF, aB, fB, aO, fO, eF, eL, eB⟩ s pm) 82)) => c_steps (A := ⟨aL, fL, aF, fF, aB, fB, aO, fO, eF, eL, eB⟩) (s := s) (pc := pc) (pm := pm) hg hs.speed p0 p1
  have hsb := steps_bd hs.speed p0 p1
  have ho2 : 0 <= octW q0 q1 /\ octW q0 q1 <= 7 := octF_bd _ _
  have h4 := trnF_bd o1 (octW q0 q1)
  have h6 := mul_bd (a := s.turn) (b := trnF o1 (octW q0 q1)) (A := 1000) (B := 4) (by omega) (by omega)
  have h7 : 0 <= s.turn * trnF o1 (octW q0 q1) := Int.mul_nonneg (by omega) (by omega)
  have hct := c_turned o1 (octW q0 q1) ho1 ho2
  dsimp only [PlP, Pl] at p0 p1
  have hco := c_Octant (q1.1 - q0.1) (q1.2 - q0.2) (by omega) (by omega)
  rw [show octF (q1.1 - q0.1) (q1.2 - q0.2) = octW q0 q1 from rfl] at hco
  generalize octW q0 q1 = oc at *
  generalize stepsF s.speed q0 q1 = sp at *
  (repeat' first|with_reducible intro _|refine sv ?_|refine sc ?_ ?_<;>(intro h;try exact sz h)|(with_reducible first|apply x_same|apply d_same|apply d_same0);exact gd;exact rfl;exact rfl;exact hct _|(with_reducible first|apply x_pure|apply d_pure|apply d_pure0);exact gd;exact rfl;exact rfl;(first|exact hco _|exact hst _ (xm))|refine sg ?_ ?_<;>(intro h;first|exact sz h|refine sy h ?_)|exact sq|fail)
  refine k_step (l.length - (k + 1)) (by omega) ⟨k + 1, c + (sp + s.turn * trnF o1 oc), oc, rfl, by omega, by omega, rfl, .cons rfl (.cons rfl (.cons rfl (.cons rfl (.cons rfl (.cons rfl .nil))))), xk, by obtain ⟨L, z1, z2⟩ := hkn4; have := z1.2; exact ⟨L, xm, z2⟩, by omega, ho2, ?_⟩
  rw [hcost, show l[k + 1 - 1]'(by omega) = q1 from hq1]
  cases costL s to q1 oc (l.drop (k + 1)) with
  | none => rfl
  | some m =>
   show some (c + (sp + s.turn * trnF o1 oc + m)) = some (c + (sp + s.turn * trnF o1 oc) + m)
   rw [show c + (sp + s.turn * trnF o1 oc + m) = c + (sp + s.turn * trnF o1 oc) + m by omega]
end Go.Proofs.YtifcpjfpjkoicaaGreat.C
end
section
open Go PvL Go.Proofs
set_option linter.unusedVariables false
set_option linter.unusedSimpArgs false
namespace Go.Proofs.YtifcpjfpjkoicaaGreat.C
def Own {α : Type} (b sz : Nat) (ty : TypeId) (enc : α -> List LV) (M : Mem) (v : LV) (l : List α) : Prop := ∃ i f, v = .slice (some (i, 0)) l.length f sz /\ At M i (.cells true (l.flatMap enc) ty) /\ b <= i
theorem Own.app {α : Type} {b sz : Nat} {ty : TypeId} {enc : α -> List LV} {M : Mem} {v : LV} {l : List α} {P : Program} [Orc P] {E : Env} {s x : XO} {by' : Nat} {z : List LV} {l' : List α} {xv : LV} (h : Own b sz ty enc M v l) (hs : xval E s = some v) (hx : xval E x = some xv) (hn : lenOfL xv = some l'.length) (h0 : 0 < l'.length)
  (hb : (2 * (l.length + l'.length) + 2048) * by' <= 140737488355328) (hz : (Nat.ble 1 sz && (Nat.ble 1 by' && Nat.beq z.length sz)) = true) (hw : firstL sz l'.length xv M = some (l'.flatMap enc))
  (henc : ∀ x, (enc x).length = sz) (hfl : ∀ x, allFlat (enc x) = true) (hbM : b <= M.next) :
  ∃ v' M', xstep P (.app ty sz by' z s x) E M = some (.val v' M') /\ Own b sz ty enc M' v' (l ++ l') /\ M'.next = M.next + 1 /\ Keep (fun i => b <= i /\ ∃ o n f e, v = .slice (some (i, o)) n f e) M M' := by
 have hf := allFlat_flatMap (l := l') (enc := enc) (fun x _ => hfl x)
 obtain ⟨i, f, rfl, h2, h3⟩ := h
 have ho : firstL sz l.length (.slice (some (i, 0)) l.length f sz) M = some (l.flatMap enc) := by
  rw [firstL_slice h2 (by rw [flatMap_len (fun x _ => henc x)]; omega), List.drop_zero, List.take_of_length_le (by rw [flatMap_len (fun x _ => henc x)]; omega)]
 cases f with
 | true =>
  refine ⟨_, _, xs_app_new hs hx hn h0 hb hz ho hw hf (.inr rfl), ⟨M.next, false, by rw [List.length_append], ?_, hbM⟩, rfl, ?_⟩
  ·rw [List.flatMap_append]; exact ⟨by rw [Mem.get_push, if_pos rfl], Nat.lt_succ_self _⟩
  ·have hN : New M M.next (.cells true (l.flatMap enc ++ l'.flatMap enc) ty) (M.push (.cells true (l.flatMap enc ++ l'.flatMap enc) ty)) := ⟨rfl, rfl⟩
   exact hN.grow.to_keep _
 | false =>
  have hK : Kill M i M.next (.cells true (l.flatMap enc ++ l'.flatMap enc) ty) ((M.upd i none).push (.cells true (l.flatMap enc ++ l'.flatMap enc) ty)) := ⟨rfl, rfl⟩
  refine ⟨_, _, xs_app_kill hs hx hn h0 hb hz ho hw hf h2, ⟨M.next, false, by rw [List.length_append], ?_, hbM⟩, hK.next, hK.keep.weaken fun j hj => ?_⟩
  ·rw [List.flatMap_append]; exact hK.same
  ·subst hj; exact ⟨h3, _, _, _, _, rfl⟩
section
variable {α : Type} {b q : Nat} {ty : TypeId} {enc : α -> List LV} {M : Mem} {v : LV} {l l' : List α} {P : Program} [Orc P] {sz : Nat} {E : Env} {K : Env -> Mem -> Prop} {ll : List XG} {d : Nat} {g : Option (Nat × Bool)} {s x : XO} {st : List Mem} {k : Nat} {xs : List (Nat × Nat × (Mem -> Prop))} {ld : List (XG × XK)} {by' : Nat} {z : List LV} {xv : LV}
theorem d_vec_app (hg : GOn E g) (hv : Vec b q ty enc M v l) (hs : xval E s = some v) (hx : xval E x = some xv) (hn : lenOfL xv = some l'.length) (h0 : 0 < l'.length) (hb : (2 * (l.length + l'.length) + 2048) * by' <= 140737488355328) (hz : (Nat.ble 1 q && (Nat.ble 1 by' && Nat.beq z.length q)) = true) (hw : firstL q l'.length xv M = some (l'.flatMap enc))
  (henc : ∀ x, (enc x).length = q) (hfl : ∀ x, allFlat (enc x) = true) (hbM : b <= M.next) (hk : ∀ v' M', Vec b q ty enc M' v' (l ++ l') -> M'.next = M.next + 1 -> Keep (fun i => b <= i /\ ∃ o n f e, v = .slice (some (i, o)) n f e) M M' -> XD P sz ld ((d, v') :: E) M' (M' :: st) (k + 1) xs K) : XD P sz ((⟨some d, .app ty q by' z s x, g⟩, .anchor) :: ld) E M st k xs K := by
 obtain ⟨v', M', h1, h2, h3, h4⟩ := hv.app (P := P) hs hx hn h0 hb hz hw henc hfl hbM
 exact d_anch hg h1 (hk v' M' h2 h3 h4)
end
theorem Vec.keep_ne {α : Type} {b q : Nat} {ty : TypeId} {enc : α -> List LV} {M M' : Mem} {v : LV} {l : List α} {F : Nat -> Prop} (h : Vec b q ty enc M v l) (hk : Keep F M M') (hF : ∀ i, At M i (.cells true (l.flatMap enc) ty) -> ¬ F i) : Vec b q ty enc M' v l :=
 h.imp id fun ⟨i, h1, h2, h3⟩ => ⟨i, h1, h2.keep hk (hF i h2), h3⟩
theorem at_ty {M : Mem} {i : Nat} {o o' : Bool} {c c' : List LV} {t t' : TypeId} (h : At M i (.cells o c t)) (h' : At M i (.cells o' c' t')) : t = t' := by
 have := h.1.symm.trans h'.1
 cases this; rfl
end Go.Proofs.YtifcpjfpjkoicaaGreat.C
end
