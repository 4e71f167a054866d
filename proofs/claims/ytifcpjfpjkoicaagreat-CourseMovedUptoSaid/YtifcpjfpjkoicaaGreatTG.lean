/-
 Part of the proof of CourseMovedUpto: what functions of the program and of the statement come to, walked by the rules. No condition beyond those in each theorem.
-/
import Derived.Test.YtifcpjfpjkoicaaGreatTF
import Derived.Test.YtifcpjfpjkoicaaGreatTS
section
open Go PvL Go.Proofs
set_option linter.unusedSimpArgs false
set_option linter.unusedVariables false
namespace Go.Proofs.YtifcpjfpjkoicaaGreat.C
theorem c_passages {pc : Nat} {a b : Pose} (M : Mem) : CallOk Tryz.prog 56 [.ptr (some (pc, 0)), .agg (posc a), .agg (posc b)] M (fun v M' => ∃ nc na nb, v = psgF nc na nb /\ Grow M M' /\ At M' nc (.cells true [.ptr (some (pc, 0))] 74) /\ At M' na (.cells true (posc a) 88) /\ At M' nb (.cells true (posc b) 88)) := by
 refine call_in kq56 rfl ?_
 dsimp only [xq56, qm, qb, qo, qq, zipE, Nat.reduceAdd]
 (repeat' first|with_reducible intro _|refine sv ?_|refine sc ?_ ?_<;>(intro h;try exact sz h)|refine sg ?_ ?_<;>(intro h;first|exact sz h|refine sy h ?_)|exact sq|fail)
 (refine kf ?_)
 exact ⟨_, _, _, rfl, xg, xm, xm, xm⟩
def BestAt (M : Mem) (T : Nat -> Prop) (sl : LV) (c : Int) (o : Option Psg) : Prop :=
 match o with
 | none => sl = .slice none 0 true 0 /\ c = 0
 | some y => c = y.2 /\ ∃ p, sl = slp y.1.length p /\ T p /\ At M p (.cells true (y.1.flatMap ptc) 30)
theorem BestAt.same {M M' : Mem} {T T' : Nat -> Prop} {sl : LV} {c : Int} {o : Option Psg} (h : BestAt M T sl c o) (hle : M.next <= M'.next) (hg : ∀ i, T i -> M'.get i = M.get i) (hT : ∀ i, T i -> T' i) : BestAt M' T' sl c o := by
 cases o with
 | none => exact h
 | some y =>
  obtain ⟨h1, p, h2, h3, h4⟩ := h
  exact ⟨h1, p, h2, hT p h3, h4.same hle (hg p h3)⟩
set_option maxHeartbeats 4000000 in
theorem c_first_psg {gf : FuncId} {ca : List LV} {Wr : Nat -> Prop} {Fin : Mem -> Prop} {items : List Psg} {M0 : Mem} (hy : ∀ M', Grow M0 M' -> YieldsS Tryz.prog gf [] ca (fun i => i < M0.next) Wr Fin items PsgR M') (hWr : ∀ i, Wr i -> i < M0.next)
  (hFin : ∀ M1 M2, Fin M1 -> M1.next <= M2.next -> (∀ i, i < M0.next -> M2.get i = M1.get i) -> Fin M2) (hit : ∀ x ∈ items, (∀ p ∈ x.1, PlP p) /\ x.1.length <= 100) :
  CallOk Tryz.prog 55 [.func (.func gf) [] ca, .func (.func 57) [] []] M0 (fun v M' => Keep Wr M0 M' /\ Fin M' /\ ∃ sl c, v = .tup [.agg [sl, I c], .bool (items.foldl addB none).isSome] /\ BestAt M' (fun p => M0.next <= p) sl c (items.foldl addB none)) := by
 refine call_in kq55 rfl ?_
 dsimp only [xq55, qm, ql, qL, qb, qg, qS, qo, qK, qq, qZ, qN, zipE, Nat.reduceAdd]
 (repeat' first|with_reducible intro _|refine sv ?_|refine sc ?_ ?_<;>(intro h;try exact sz h)|refine sg ?_ ?_<;>(intro h;first|exact sz h|refine sy h ?_)|exact sq|fail)
 rename_i n3 M1 hn3 e1 e2 n4 M2 hn4 e3 e4 n5 M2b hn5 e3b e4b
 apply w_rfun
 exact rfl
 intro lb d l M3 M4 hlb hd e5 e6 hl e7 e8
 have a3 : At M4 n3 (.cells true [.func (.func 57) [] []] 128) := xm
 have a4 : At M4 n4 (.cells true [.slice none 0 true 0, I 0] 105) := xm
 have a5 : At M4 n5 (.cells true [.bool false] 4) := xm
 have ad : At M4 d .defr := At.new_old hl (At.new_same hd)
 have hg4 : Grow M0 M4 := xg
 refine (hy M4 hg4 l (fun i => M0.next <= i /\ i < M4.next) (fun dn T M => ∃ sl c, At M n3 (.cells true [.func (.func 57) [] []] 128) /\ At M n4 (.cells true [sl, I c] 105) /\ At M n5 (.cells true [.bool (dn.foldl addB none).isSome] 4) /\
   At M l (lb .ready none) /\ At M d .defr /\ BestAt M T sl c (dn.foldl addB none)) (fun _ _ => False) ⟨fun i hi => hi.2, ?_, fun T M M' h => h.elim, ?_⟩ (fun i h1 h2 => by omega) ⟨_, _, a3, a4, a5, At.new_same hl, ad, rfl, rfl⟩).mono ?_
 ·rintro dn T M M' ⟨sl, c, h3, h4, h5, h6, h7, h8⟩ hle hg
  have hg2 : ∀ i, M0.next <= i -> i < M4.next -> M'.get i = M.get i := fun i h1 h2 => hg i (.inl ⟨h2, fun hw => by have := hWr i hw; omega⟩)
  exact ⟨sl, c, h3.same hle (hg2 _ (by omega) (by omega)), h4.same hle (hg2 _ (by omega) (by omega)), h5.same hle (hg2 _ (by omega) (by omega)), h6.same hle (hg2 _ (by omega) (by omega)), h7.same hle (hg2 _ (by omega) (by omega)), h8.same hle (fun i hi => hg i (.inr hi)) (fun _ hi => hi)⟩
 ·rintro dn x rest v U T M hits ⟨p, rfl, hU, hp⟩ hN hT hUd ⟨sl, c, h3, h4, h5, h6, h7, h8⟩
  have hx := hit x (by rw [hits]; simp)
  have hfold : (dn ++ [x]).foldl addB none = addB (dn.foldl addB none) x := by rw [List.foldl_append]; rfl
  have hpT := hUd p ((hU p).2 rfl)
  have hxc : 0 <= M.next := Nat.zero_le _
  have hdef := ad.2
  rw [hfold]
  refine round_in hlb h6 rfl ?_
  dsimp only [zipP]
  have hfin : ∀ {M' : Mem} (sl' : LV) (c' : Int) (o' : Option Psg) (T' : Nat -> Prop), Keep (fun i => M0.next <= i /\ i < M4.next) M M' -> At M' n3 (.cells true [.func (.func 57) [] []] 128) -> At M' n4 (.cells true [sl', I c'] 105) -> At M' n5 (.cells true [.bool o'.isSome] 4) ->
    At M' l (lb .ready none) -> At M' d .defr -> BestAt M' T' sl' c' o' -> (∀ i, T' i -> (T i ∨ U i)) -> addB (dn.foldl addB none) x = o' -> Keep (fun i => (M0.next <= i /\ i < M4.next) ∨ T i ∨ U i) M M' /\ ∃ T' : Nat -> Prop, (∀ i, T' i -> (T i ∨ U i ∨ M.next <= i) /\ i < M'.next) /\ ((LV.bool true = .bool true /\ (∃ sl c, At M' n3 (.cells true [.func (.func 57) [] []] 128) /\ At M' n4 (.cells true [sl, I c] 105) /\ At M' n5 (.cells true [.bool (addB (dn.foldl addB none) x).isSome] 4) /\ At M' l (lb .ready none) /\ At M' d .defr /\ BestAt M' T' sl c (addB (dn.foldl addB none) x))) ∨ (LV.bool true = .bool false /\ False)) := by
   intro M' sl' c' o' T' hk q3 q4 q5 q6 q7 q8 hT' ho
   refine ⟨hk.weaken (fun i hi => .inl hi), T', fun i hi => ?_, .inl ⟨rfl, sl', c', q3, q4, by rw [ho]; exact q5, q6, q7, by rw [ho]; exact q8⟩⟩
   have hle := hk.le
   rcases hT' i hi with h | h
   ·exact ⟨.inl h, by have := (hT i h).2; omega⟩
   ·exact ⟨.inr (.inl h), by have := (hUd i h).2.1; omega⟩
  cases hfo : dn.foldl addB none with
  | none =>
   rw [hfo] at h5 h8 hfin
   obtain ⟨rfl, rfl⟩ := h8
   (repeat' first|with_reducible intro _|refine sv ?_|refine sc ?_ ?_<;>(intro h;try exact sz h)|refine sg ?_ ?_<;>(intro h;first|exact sz h|refine sy h ?_)|exact sq|fail)
   exact hfin _ _ (some x) (fun i => i = p) (xk) (xm) (xm) (xm) (xm) (xm) ⟨rfl, p, rfl, rfl, xm⟩ (fun i hi => .inr ((hU i).2 hi)) rfl
  | some y =>
   rw [hfo] at h5 h8 hfin
   obtain ⟨rfl, py, rfl, hTy, hpy⟩ := h8
   have hyi : y ∈ items := by
    have := ((foldB dn none).2 y hfo).2.2.resolve_right (by intro e; cases e)
    rw [hits]; exact List.mem_append_left _ this
   have hpT2 := hT py hTy
   have hless := fun M' (q1 : At M' p (.cells true (x.1.flatMap ptc) 30)) (q2 : At M' py (.cells true (y.1.flatMap ptc) 30)) => c_less (fa := false) (fb := false) (x := x) (y := y) (.inr ⟨p, 0, rfl, rd_pts q1⟩) (.inr ⟨py, 0, rfl, rd_pts q2⟩) hx.1 (hit y hyi).1 (by have := hx.2; omega) (by have := (hit y hyi).2; omega)
   cases hlp : lessP x y with
   | true =>
    rw [hlp] at hless
    (repeat' first|with_reducible intro _|refine sv ?_|refine sc ?_ ?_<;>(intro h;try exact sz h)|(with_reducible first|apply x_pure|apply d_pure|apply d_pure0);exact gd;exact rfl;exact rfl;exact hless _ (xm) (xm)|refine sg ?_ ?_<;>(intro h;first|exact sz h|refine sy h ?_)|exact sq|fail)
    exact hfin _ _ (some x) (fun i => i = p) (xk) (xm) (xm) (xm) (xm) (xm) ⟨rfl, p, rfl, rfl, xm⟩ (fun i hi => .inr ((hU i).2 hi)) (if_pos hlp)
   | false =>
    rw [hlp] at hless
    (repeat' first|with_reducible intro _|refine sv ?_|refine sc ?_ ?_<;>(intro h;try exact sz h)|(with_reducible first|apply x_pure|apply d_pure|apply d_pure0);exact gd;exact rfl;exact rfl;exact hless _ (xm) (xm)|refine sg ?_ ?_<;>(intro h;first|exact sz h|refine sy h ?_)|exact sq|fail)
    exact hfin _ _ (some y) (fun i => i = py) (xk) (xm) (xm) (xm) (xm) (xm) ⟨rfl, py, rfl, rfl, xm⟩ (fun i hi => .inl (by rw [hi]; exact hTy)) (if_neg (by rw [hlp]; decide))
 ·rintro v M5 ⟨hk5, hf5, T5, hT5, ⟨sl, c, h3, h4, h5, h6, h7, h8⟩ | h⟩
  rotate_left
  ·exact h.elim
  have hle5 := hk5.le
  have hk05 : Keep Wr M0 M5 := (hg4.to_keep Wr).trans hk5 (fun i hi => hi.elim (fun h => .inr h.1) .inl)
  have hle4 := hg4.le
  have hdl : d ≠ l := by omega
  refine k_iter h6 (by simp) fun M6 hu e9 a9 => ?_
  have hendd : ∀ {M9 M8 M7 : Mem} (lb7 lb8 : LB), Upd M6 n4 lb7 M7 -> Upd M7 n5 lb8 M8 -> Unmark [d] M8 M9 -> Keep Wr M0 M9 /\ Fin M9 /\ Keep (fun i => M0.next <= i /\ i < M4.next) M5 M9 := by
   intro M9 M8 M7 lb7 lb8 hu7 hu8 hm
   have hkk : Keep (fun i => M0.next <= i /\ i < M4.next) M5 M9 := ((((Keep.refl _ M5).upd hu (.inl ⟨by omega, by omega⟩)).upd hu7 (.inl ⟨by omega, by omega⟩)).upd hu8 (.inl ⟨by omega, by omega⟩)).unmark hm (fun d' hd' => by obtain rfl := List.mem_singleton.1 hd'; exact .inl ⟨by omega, by omega⟩)
   refine ⟨hk05.trans hkk (fun i hi => .inr hi.1), hFin M5 M9 hf5 hkk.le (fun i hi => hkk.old i (by omega) (by omega)), hkk⟩
  cases hfo : items.foldl addB none with
  | none =>
   rw [hfo] at h5 h8
   obtain ⟨rfl, rfl⟩ := h8
   (repeat' first|with_reducible intro _|refine sv ?_|refine sc ?_ ?_<;>(intro h;try exact sz h)|refine sg ?_ ?_<;>(intro h;first|exact sz h|refine sy h ?_)|exact sq|fail)
   refine k_fun_end (.inr rfl) (by simp) (fun d' hd' => by obtain rfl := List.mem_singleton.1 hd'; exact xm) fun M9 hm => ?_
   rename_i M7 hu7 e10 a7 M8 hu8 e11 a8
   obtain ⟨q1, q2, q3⟩ := hendd _ _ hu7 hu8 hm
   have b4 : At M8 n4 (.cells true [.slice none 0 true 0, I 0] 105) := xm
   refine ⟨_, .cellN rfl (Rd.of_at (b4.unmark hm (by simp; omega)) rfl).1 (.cell1 rfl (Rd1.of_at (a8.unmark hm (by simp; omega)) rfl).1 .nil), q1, q2, _, _, rfl, rfl, rfl⟩
  | some y =>
   rw [hfo] at h5 h8
   obtain ⟨rfl, py, rfl, hTy, hpy⟩ := h8
   have hpy5 := hT5 py hTy
   (repeat' first|with_reducible intro _|refine sv ?_|refine sc ?_ ?_<;>(intro h;try exact sz h)|refine sg ?_ ?_<;>(intro h;first|exact sz h|refine sy h ?_)|exact sq|fail)
   refine k_fun_end (.inr rfl) (by simp) (fun d' hd' => by obtain rfl := List.mem_singleton.1 hd'; exact xm) fun M9 hm => ?_
   rename_i M7 hu7 e10 a7 M8 hu8 e11 a8
   obtain ⟨q1, q2, q3⟩ := hendd _ _ hu7 hu8 hm
   have b4 : At M8 n4 (.cells true [slp y.1.length py, I y.2] 105) := xm
   refine ⟨_, .cellN rfl (Rd.of_at (b4.unmark hm (by simp; omega)) rfl).1 (.cell1 rfl (Rd1.of_at (a8.unmark hm (by simp; omega)) rfl).1 .nil), q1, q2, _, _, rfl, rfl, py, rfl, by omega, hpy.keep q3 (by omega)⟩
theorem BestAt.mono {M : Mem} {T T' : Nat -> Prop} {sl : LV} {c : Int} {o : Option Psg} (h : BestAt M T sl c o) (hT : ∀ i, T i -> T' i) : BestAt M T' sl c o := by
 cases o with
 | none => exact h
 | some y => obtain ⟨h1, p, h2, h3, h4⟩ := h; exact ⟨h1, p, h2, hT p h3, h4⟩
set_option maxHeartbeats 4000000 in
theorem c_best {A : CrA} {s : Cr} {a b : Pose} {pc pm : Nat} {M : Mem} (hC : ChM M A s pc pm) (hs : CrOk s) (ha : PoseOk a) (hb : PoseOk b) :
  CallOk Tryz.prog 40 [.ptr (some (pc, 0)), .agg (posc a), .agg (posc b)] M (fun v M' => Keep (fun i => i = pm) M M' /\ KnM M' s pm /\ ∃ sl c, v = .tup [.agg [sl, I c], .bool (bestF s a b).isSome] /\ BestAt M' (fun p => M.next <= p) sl c (bestF s a b)) := by
 refine call_in kq40 rfl ?_
 dsimp only [xq40, qm, qL, qb, qe, qc, qS, qo, qq, qZ, qN, zipE, Nat.reduceAdd]
 (repeat' first|with_reducible intro _|refine sv ?_|refine sc ?_ ?_<;>(intro h;try exact sz h)|refine sg ?_ ?_<;>(intro h;first|exact sz h|refine sy h ?_)|exact sq|fail)
 rename_i n4 M1 hn4 e1 e2 n5 M2 hn5 e3 e4 n6 M3 hn6 e5 e6
 refine x_call (by exact gd) rfl rfl (show AppOk Tryz.prog _ _ M3 _ from c_passages (a := a) (b := b) M3) ?_
 rintro w M4 ⟨nc, na, nb, rfl, hg4, ac, aa, ab⟩
 have hg04 : Grow M M4 := xg
 have hle04 := hg04.le
 have hB : PsB M4 A s a b pc pm na nb nc := ⟨hC.grow hg04, ac, aa, ab⟩
 have hpm := hC.known.lt
 have hf := c_first_psg (gf := 70) (ca := [.ptr (some (nc, 0)), .ptr (some (na, 0)), .ptr (some (nb, 0))]) (Wr := fun i => i = pm) (Fin := fun M' => KnM M' s pm) (items := passL s a b) (M0 := M4)
  (fun M' hg => y_passages hB (hg.to_keep _) (hB.ch.known.at hg.le (hg.old _ hB.ch.known.lt)) hs ha hb) (fun i hi => by subst hi; omega) (fun M1 M2 h1 h2 h3 => h1.at h2 (h3 _ (by omega))) (fun x hx => by have := pass_pl hs ha.1 hb.1 hx; exact ⟨this.1, by omega⟩)
 refine x_call (by exact gd) rfl rfl (show AppOk Tryz.prog _ _ M4 _ from hf) ?_
 rintro w M5 ⟨hk5, hkn5, sl, c, rfl, hba⟩
 have hle5 := hk5.le
 have hk05 : Keep (fun i => i = pm) M M5 := (hg04.to_keep _).trans hk5 (fun i hi => .inl hi)
 have hle4 := hg4.le
 have a6 : At M5 n6 (.cells true [.slice none 0 true 0, I 0] 105) := ((At.new_same hn6).grow hg4).keep hk5 (by omega)
 rw [show (passL s a b).foldl addB none = bestF s a b from rfl] at hba ⊢
 cases hbf : bestF s a b with
 | none =>
  rw [hbf] at hba
  obtain ⟨rfl, rfl⟩ := hba
  (repeat' first|with_reducible intro _|refine sv ?_|refine sc ?_ ?_<;>(intro h;try exact sz h)|refine sg ?_ ?_<;>(intro h;first|exact sz h|refine sy h ?_)|exact sq|fail)
  (refine kf ?_)
  exact ⟨xk, by obtain ⟨L, z1, z2⟩ := hkn5; have := z1.2; exact ⟨L, xm, z2⟩, _, _, rfl, rfl, rfl⟩
 | some y =>
  rw [hbf] at hba
  obtain ⟨rfl, p, rfl, hp, ap⟩ := hba
  have hp : M4.next <= p := hp
  (repeat' first|with_reducible intro _|refine sv ?_|refine sc ?_ ?_<;>(intro h;try exact sz h)|refine sg ?_ ?_<;>(intro h;first|exact sz h|refine sy h ?_)|exact sq|fail)
  (refine kf ?_)
  exact ⟨xk, by obtain ⟨L, z1, z2⟩ := hkn5; have := z1.2; exact ⟨L, xm, z2⟩, _, _, rfl, rfl, p, rfl, by omega, xm⟩
abbrev PtV (b : Nat) (M : Mem) (v : LV) (l : List Pt) : Prop := Vec b 2 30 ptc M v l
abbrev rchc (x : Rch) : List LV := [I x.1.1.1, I x.1.1.2, I x.1.2, I x.2]
abbrev shC (c : Nat) : LV := .agg [I (c / 2 : Nat), I (c % 2 : Nat)]
abbrev planv (pc pk : Nat) : LV := .agg [.ptr (some (pc, 0)), .map (some pk)]
abbrev keyc (q : Pose × Pose) : LV := .agg [I q.1.1.1, I q.1.1.2, I q.1.2, I q.2.1.1, I q.2.1.2, I q.2.2]
theorem ko_key (q : Pose × Pose) : keyOk Tryz.prog 10000 121 (keyc q) = true := by kernel_rfl
theorem eq_pose {D : Nat} (hD : 6 < D) (a b : Pose) : eqL Tryz.prog D 88 (.agg (posc a)) (.agg (posc b)) = some (decide (a = b)) := by
 refine shape_ok 6 D 88 [0, 1, 2] hD (by kernel_rfl) _ _ _ (fun N hN => ?_) ?_
 ·have h4 : szOf Tryz.prog 88 = some 3 := by kernel_rfl
  rw [h4] at hN
  cases hN
  exact ⟨Nat.le_refl _, Nat.le_refl _⟩
 ·show some (decide (a.1.1 = b.1.1) && (decide (a.1.2 = b.1.2) && (decide (a.2 = b.2) && true))) = _
  congr 1
  rw [Bool.eq_iff_iff]
  simp only [Bool.and_eq_true, decide_eq_true_eq, and_true]
  exact ⟨fun ⟨h1, h2, h3⟩ => Prod.ext (Prod.ext h1 h2) h3, fun h => by rw [h]; exact ⟨rfl, rfl, rfl⟩⟩
set_option maxRecDepth 100000 in
theorem eq_key' {D : Nat} (hD : 6 < D) (a b : Pose × Pose) : eqL Tryz.prog (D + 1) 121 (keyc a) (keyc b) = some (decide (a = b)) := by
 have hu : Tryz.prog.underlying 121 = some (.array 2 88) := by kernel_rfl
 have hs : szOf Tryz.prog 88 = some 3 := by kernel_rfl
 have hag : aggSz Tryz.prog 88 = some (some 3) := by kernel_rfl
 have hp : ∀ off x y xs ys, take' 3 (drop' off xs) = some x -> take' 3 (drop' off ys) = some y -> eqPart Tryz.prog (eqL Tryz.prog D) 88 off xs ys = eqL Tryz.prog D 88 (.agg x) (.agg y) := fun off x y xs ys h1 h2 => by
  show ob (aggSz Tryz.prog 88) _ = _
  rw [hag, ob_some]
  show ob (take' 3 (drop' off xs)) _ = _
  rw [h1, ob_some, h2, ob_some]
 have h1 : eqL Tryz.prog (D + 1) 121 (keyc a) (keyc b) = ob (szOf Tryz.prog 88) (fun n => arrEq Tryz.prog (eqL Tryz.prog D) 88 n (posc a.1 ++ posc a.2) (posc b.1 ++ posc b.2) (List.range 2)) := by
  unfold eqL
  rw [hu]
  rfl
 rw [h1, hs, ob_some]
 have h2 : arrEq Tryz.prog (eqL Tryz.prog D) 88 3 (posc a.1 ++ posc a.2) (posc b.1 ++ posc b.2) (List.range 2) = andO (eqPart Tryz.prog (eqL Tryz.prog D) 88 0 (posc a.1 ++ posc a.2) (posc b.1 ++ posc b.2)) (andO (eqPart Tryz.prog (eqL Tryz.prog D) 88 3 (posc a.1 ++ posc a.2) (posc b.1 ++ posc b.2)) (some true)) := rfl
 rw [h2, hp 0 (posc a.1) (posc b.1) _ _ rfl rfl, hp 3 (posc a.2) (posc b.2) _ _ rfl rfl, eq_pose hD, eq_pose hD]
 by_cases h1 : a.1 = b.1
 ·rw [decide_eq_true h1]
  by_cases h2 : a.2 = b.2
  ·rw [decide_eq_true h2, decide_eq_true (p := a = b) (Prod.ext h1 h2)]; rfl
  ·rw [decide_eq_false h2, decide_eq_false (p := a = b) (fun h => h2 (by rw [h]))]; rfl
 ·rw [decide_eq_false h1, decide_eq_false (p := a = b) (fun h => h1 (by rw [h]))]; cases decide (a.2 = b.2) <;> rfl
theorem eq_key (a b : Pose × Pose) : eqL Tryz.prog Op.maxDepth 121 (keyc a) (keyc b) = some (decide (a = b)) := eq_key' (D := Op.maxDepth - 1) (by decide) a b
def KcM (M : Mem) (s : Cr) (pk : Nat) : Prop := ∃ L : List ((Pose × Pose) × Int), At M pk (.map (encM keyc I L)) /\ ∀ p ∈ L, p.2 = costN s p.1.1 p.1.2
structure PlM (M : Mem) (A : CrA) (s : Cr) (pc pm pk : Nat) : Prop where
 ch : ChM M A s pc pm
 kc : KcM M s pk
 nc : pc ≠ pk
 nm : pm ≠ pk
theorem KcM.at {M : Mem} {s : Cr} {pk : Nat} (h : KcM M s pk) {M' : Mem} (h1 : M.next <= M'.next) (h2 : M'.get pk = M.get pk) : KcM M' s pk := by
 obtain ⟨L, h3, h4⟩ := h
 exact ⟨L, h3.same h1 h2, h4⟩
theorem KcM.lt {M : Mem} {s : Cr} {pk : Nat} (h : KcM M s pk) : pk < M.next := by obtain ⟨L, h1, _⟩ := h; exact h1.2
theorem KcM.ne_rd {M : Mem} {s : Cr} {pm i o n : Nat} {l : List LV} (h : KcM M s pm) (hr : Rd M i o n l) : i ≠ pm := by
 rintro rfl
 obtain ⟨L, h1, _⟩ := h
 have h2 := hr.1
 unfold loadN atCells at h2
 rw [h1.1] at h2
 cases h2
theorem KcM.ne_rd1 {M : Mem} {s : Cr} {pm i o : Nat} {v : LV} (h : KcM M s pm) (hr : Rd1 M i o v) : i ≠ pm := by
 rintro rfl
 obtain ⟨L, h1, _⟩ := h
 have h2 := hr.1
 unfold load1 atCells at h2
 rw [h1.1] at h2
 cases h2
theorem KcM.ne_at {M : Mem} {s : Cr} {pm i : Nat} {own : Bool} {cs : List LV} {ty : TypeId} (h : KcM M s pm) (ha : At M i (.cells own cs ty)) : i ≠ pm := by
 rintro rfl
 obtain ⟨L, h1, _⟩ := h
 have h2 := ha.1
 rw [h1.1] at h2
 cases h2
theorem PlM.grow {M M' : Mem} {A : CrA} {s : Cr} {pc pm pk : Nat} (h : PlM M A s pc pm pk) (hg : Grow M M') : PlM M' A s pc pm pk := ⟨h.ch.grow hg, h.kc.at hg.le (hg.old _ h.kc.lt), h.nc, h.nm⟩
theorem PlM.keepm {M M' : Mem} {A : CrA} {s : Cr} {pc pm pk : Nat} (h : PlM M A s pc pm pk) (hk : Keep (fun i => i = pm ∨ i = pk) M M') (hkn : KnM M' s pm) (hkc : KcM M' s pk) : PlM M' A s pc pm pk :=
 ⟨h.ch.keep hk hkn (h.ch.cr.keepN hk (fun i o n x hr hf => hf.elim (h.ch.known.ne_rd hr) (h.kc.ne_rd hr)) (fun i o x hr hf => hf.elim (h.ch.known.ne_rd1 hr) (h.kc.ne_rd1 hr))) (fun hf => hf.elim h.ch.ne h.nc), hkc, h.nc, h.nm⟩
theorem div_lt {n c : Nat} (h : c < 2 * n) : c / 2 < n := by omega
theorem c_endsC {A : CrA} {s : Cr} {pc pm : Nat} {c : Nat} {M : Mem} (hC : ChM M A s pc pm) (hs : CrOk s) (hc : c < 2 * s.lines.length) :
  CallOk Tryz.prog 51 [.ptr (some (pc, 0)), shC c] M (fun v M' => v = .tup [.agg (posc (begC s c)), .agg (posc (endC s c))] /\ Grow M M') := by
 have hway := wayC_ok hs (div_lt hc)
 have hw := fun M' (hg : Grow M M') => c_way (hC.grow hg) (div_lt hc) (w := ((c % 2 : Nat) : Int)) (by omega)
 unfold begC endC
 rw [show wayF s (c / 2) ((c % 2 : Nat) : Int) = wayC s c from rfl] at hw
 generalize wayC s c = q at *
 have p1 := hway.1
 have p2 := hway.2.1
 dsimp only [PlP, Pl] at p1 p2
 have hco := c_Octant (q.2.1 - q.1.1) (q.2.2 - q.1.2) (by omega) (by omega)
 rw [show octF (q.2.1 - q.1.1) (q.2.2 - q.1.2) = octW q.1 q.2 from rfl] at hco
 refine call_in kq51 rfl ?_
 dsimp only [xq51, qm, qf, ql, qL, qb, qc, qB, qS, qo, qk, qK, qq, qZ, zipE, Nat.reduceAdd]
 (repeat' first|with_reducible intro _|refine sv ?_|refine sc ?_ ?_<;>(intro h;try exact sz h)|(with_reducible first|apply x_pure|apply d_pure|apply d_pure0);exact gd;exact rfl;exact rfl;(first|exact hw _ (xg)|exact hco _)|refine sg ?_ ?_<;>(intro h;first|exact sz h|refine sy h ?_)|exact sq|fail)
 (refine kf ?_)
 exact ⟨rfl, xg⟩
theorem c_planOf {A : CrA} {s : Cr} {M : Mem} (hM : CrM M A s) : CallOk Tryz.prog 24 [crv A s] M (fun w M' => Grow M M' /\ ((¬ CrOk s /\ ∃ pk, w = .tup [.agg [.ptr none, .map (some pk)], I 40]) ∨ (CrOk s /\ ∃ pc pm pk, w = .tup [planv pc pk, I 0] /\ PlM M' A s pc pm pk /\ M.next <= pc /\ M.next <= pm /\ M.next <= pk))) := by
 refine call_in kq24 rfl ?_
 dsimp only [xq24, qm, qL, qi, qb, qe, qc, qS, qo, qq, zipE, Nat.reduceAdd]
 have hc := fun M' (hg : Grow M M') => c_chartOf (hM.grow hg)
 (repeat' first|with_reducible intro _|refine sv ?_|refine sc ?_ ?_<;>(intro h;try exact sz h)|(with_reducible first|apply x_call|apply d_call|apply x_call0);exact gd;exact rfl;exact rfl;exact hc _ (xg)|refine sg ?_ ?_<;>(intro h;first|exact sz h|refine sy h ?_)|exact sq|fail)
 rename_i n1 M1 hn1 e1 e2 n2 M2 hn2 e3 e4 w M3 hq
 obtain ⟨hg3, ⟨hno, rfl⟩ | ⟨hok, pc, pm, rfl, hch, h1, h2⟩⟩ := hq
 ·have hle3 := hg3.le
  (repeat' first|with_reducible intro _|refine sv ?_|refine sc ?_ ?_<;>(intro h;try exact sz h)|refine sg ?_ ?_<;>(intro h;first|exact sz h|refine sy h ?_)|exact sq|fail)
  (refine kf ?_)
  exact ⟨xg, .inl ⟨hno, _, rfl⟩⟩
 ·have hle3 := hg3.le
  have h3 := hch.cells.2
  have h4 := hch.known.lt
  (repeat' first|with_reducible intro _|refine sv ?_|refine sc ?_ ?_<;>(intro h;try exact sz h)|refine sg ?_ ?_<;>(intro h;first|exact sz h|refine sy h ?_)|exact sq|fail)
  rename_i n12 M4 hn12 e5 e6 M5 hu5 e7 a5
  (refine kf ?_)
  have hpc1 := hch.cells
  obtain ⟨L, hL1, hL2⟩ := hch.known
  exact ⟨xg, .inr ⟨hok, pc, pm, n12, rfl, ⟨⟨hM.grow (xg), xm, hch.ne, L, xm, hL2⟩, ⟨[], xm, fun p hp => by cases hp⟩, by omega, by omega⟩, by omega, by omega, by omega⟩⟩
set_option maxHeartbeats 4000000 in
theorem c_goes {A : CrA} {s : Cr} {pc pm pk : Nat} {x : Rch} {c : Nat} {M : Mem} (hP : PlM M A s pc pm pk) (hs : CrOk s) (hx : PoseOk x.1) (ht : 0 <= x.2 /\ x.2 <= 5000000) (hc : c < 2 * s.lines.length) :
  CallOk Tryz.prog 29 [planv pc pk, .agg (rchc x), shC c] M (fun v M' => v = .tup [bdv ((goF s x c).getD (0, 0)), .bool (goF s x c).isSome] /\ Keep (fun i => i = pm ∨ i = pk) M M' /\ KnM M' s pm /\ KcM M' s pk) := by
 have hbg := begC_ok hs (div_lt hc)
 have hcb := costN_bd hs hx hbg
 have he := fun M' (hg : Grow M M') => c_endsC (hP.ch.grow hg) hs hc
 obtain ⟨L, hL, hkc⟩ := hP.kc
 have hpk := hL.2
 have hpm := hP.ch.known.lt
 have hnm := hP.nm
 have hnc := hP.nc
 have hcell := hP.ch.cells
 have hpc := hcell.2
 refine call_in kq29 rfl ?_
 dsimp only [xq29, qm, qf, ql, qL, qi, qb, qe, qc, qB, qC, qS, qo, qq, qZ, qN, zipE, Nat.reduceAdd]
 (repeat' first|with_reducible intro _|refine sv ?_|refine sc ?_ ?_<;>(intro h;try exact sz h)|(with_reducible first|apply x_pure|apply d_pure|apply d_pure0);exact gd;exact rfl;exact rfl;exact he _ (xg)|refine sg ?_ ?_<;>(intro h;first|exact sz h|refine sy h ?_)|exact sq|fail)
 rename_i n3 M1 hn3 e1 e2 n4 M2 hn4 e3 e4 n5 M3 hn5 e5 e6 n6 M4 hn6 e7 e8 M5 hg5 e9 n8 M6 hn8 e10 e11 n9 M7 hn9 e12 e13 M8 hu8 e14 a8 M9 hu9 e15 a9 n10 M10 hn10 e16 e17 M11 hu11 e18 a10
 have hL11 : At M11 pk (.map (encM keyc I L)) := xm
 have hP11 : PlM M11 A s pc pm pk := hP.grow (xg)
 have b3 : At M11 n3 (.cells true [.ptr (some (pc, 0)), .map (some pk)] 77) := xm
 have b4 : At M11 n4 (.cells true (rchc x) 90) := xm
 have b5 : At M11 n5 (.cells true [I (c / 2 : Nat), I (c % 2 : Nat)] 45) := xm
 have b6 : At M11 n6 (.cells true [I 0, I 0] 26) := xm
 have b8 : At M11 n8 (.cells true (posc (begC s c)) 88) := xm
 have b10 : At M11 n10 (.cells true [I x.1.1.1, I x.1.1.2, I x.1.2, I (begC s c).1.1, I (begC s c).1.2, I (begC s c).2] 121) := xm
 have hg11 : Grow M M11 := xg
 have hpc3 : pc < n3 := by omega
 have hpm3 : pm < n3 := by omega
 have hpk3 : pk < n3 := by omega
 have hK11 : Keep (fun i => i = pm ∨ i = pk) M M11 := hg11.to_keep _
 have hsh := fun M' (hC : ChM M' A s pc pm) (hcost : ¬ costN s x.1 (begC s c) < 0) => c_shot hC hs (div_lt hc) (w := ((c % 2 : Nat) : Int)) (by omega) (t := x.2 + costN s x.1 (begC s c)) (by omega)
 have hgo0 : costN s x.1 (begC s c) < 0 -> goF s x c = none := fun h => by unfold goF; rw [if_pos h]
 have hgo1 : ¬ costN s x.1 (begC s c) < 0 -> goF s x c = shotF s (c / 2) ((c % 2 : Nat) : Int) (x.2 + costN s x.1 (begC s c)) := fun h => by unfold goF; rw [if_neg h]; rfl
 rcases findL_enc (P := Tryz.prog) (ek := keyc) (ev := I) eq_key (x.1, begC s c) L 0 with ⟨hf, hnew⟩ | ⟨j, v, hf, hin⟩
 rotate_left
 ·obtain rfl : v = costN s x.1 (begC s c) := hkc _ hin
  refine x_gen (by exact gd) (xs_lkp_some rfl rfl (ko_key (x.1, begC s c)) hL11 hf) ?_
  by_cases hneg : costN s x.1 (begC s c) < 0
  ·rw [hgo0 hneg]
   (repeat' first|with_reducible intro _|refine sv ?_|refine sc ?_ ?_<;>(intro h;try exact sz h)|refine sg ?_ ?_<;>(intro h;first|exact sz h|refine sy h ?_)|exact sq|fail)
   all_goals try (exfalso; omega)
   (refine kf ?_)
   exact ⟨rfl, xk, by obtain ⟨L', z1, z2⟩ := hP11.ch.known; exact ⟨L', xm, z2⟩, ⟨L, xm, hkc⟩⟩
  ·rw [hgo1 hneg]
   (repeat' first|with_reducible intro _|refine sv ?_|refine sc ?_ ?_<;>(intro h;try exact sz h)|refine sg ?_ ?_<;>(intro h;first|exact sz h|refine sy h ?_)|exact sq|fail)
   all_goals try (exfalso; omega)
   refine x_call (by exact gd) rfl rfl (show AppOk Tryz.prog _ _ M11 _ from hsh M11 hP11.ch hneg) ?_
   rintro w MY ⟨rfl, hkY, hknY⟩
   have hleY := hkY.le
   have b6Y := b6.keep hkY (by omega)
   have hpmY := hknY.lt
   have hLY := hL11.keep hkY (by omega)
   have hpkY := hLY.2
   have hKY : Keep (fun i => i = pm ∨ i = pk) M MY := hK11.trans hkY (fun i hi => .inl (.inl hi))
   cases hsf : shotF s (c / 2) ((c % 2 : Nat) : Int) (x.2 + costN s x.1 (begC s c)) with
   | none =>
    (repeat' first|with_reducible intro _|refine sv ?_|refine sc ?_ ?_<;>(intro h;try exact sz h)|refine sg ?_ ?_<;>(intro h;first|exact sz h|refine sy h ?_)|exact sq|fail)
    (refine kf ?_)
    exact ⟨rfl, xk, by obtain ⟨L', z1, z2⟩ := hknY; exact ⟨L', xm, z2⟩, ⟨_, xm, hkc⟩⟩
   | some b =>
    (repeat' first|with_reducible intro _|refine sv ?_|refine sc ?_ ?_<;>(intro h;try exact sz h)|refine sg ?_ ?_<;>(intro h;first|exact sz h|refine sy h ?_)|exact sq|fail)
    (refine kf ?_)
    exact ⟨rfl, xk, by obtain ⟨L', z1, z2⟩ := hknY; exact ⟨L', xm, z2⟩, ⟨_, xm, hkc⟩⟩
 ·refine x_gen (by exact gd) (xs_lkp_none rfl rfl (ko_key (x.1, begC s c)) hL11 hf) ?_
  have hv := c_valid x.1
  have hx' := hx
  unfold PoseOk at hx'
  (repeat' first|with_reducible intro _|refine sv ?_|refine sc ?_ ?_<;>(intro h;try exact sz h)|(with_reducible first|apply x_pure|apply d_pure|apply d_pure0);exact gd;exact rfl;exact rfl;exact hv _|refine sg ?_ ?_<;>(intro h;first|exact sz h|refine sy h ?_)|exact sq|fail)
  all_goals try (exact absurd hx' (by assumption))
  rename_i M12 hg12 e19
  have hle12 := hg12.le
  refine x_call (by exact gd) rfl rfl (show AppOk Tryz.prog _ _ M12 _ from c_best (hP11.ch.grow hg12) hs hx hbg) ?_
  rintro w M13 ⟨hk13, hkn13, sl, cc, rfl, hba⟩
  have hle13 := hk13.le
  have c3 : At M13 n3 (.cells true [.ptr (some (pc, 0)), .map (some pk)] 77) := (b3.grow hg12).keep hk13 (by omega)
  have c4 := (b4.grow hg12).keep hk13 (by omega)
  have c5 := (b5.grow hg12).keep hk13 (by omega)
  have c6 := (b6.grow hg12).keep hk13 (by omega)
  have c10 := (b10.grow hg12).keep hk13 (by omega)
  have hL13 := (hL11.grow hg12).keep hk13 (by omega)
  have hK13 : Keep (fun i => i = pm ∨ i = pk) M M13 := (hK11.grow hg12).trans hk13 (fun i hi => .inl (.inl hi))
  have hpm13 := hkn13.lt
  have hpk13 := hL13.2
  have hkcn : ∀ p ∈ L ++ [((x.1, begC s c), costN s x.1 (begC s c))], p.2 = costN s p.1.1 p.1.2 := fun p hp => by
   rcases List.mem_append.1 hp with hp | hp
   ·exact hkc p hp
   ·obtain rfl := List.mem_singleton.1 hp; rfl
  cases hbf : bestF s x.1 (begC s c) with
  | none =>
   have hcost : costN s x.1 (begC s c) = -1 := by unfold costN; rw [hbf]
   rw [hbf] at hba
   obtain ⟨rfl, rfl⟩ := hba
   rw [hgo0 (by omega)]
   (repeat' first|with_reducible intro _|refine sv ?_|refine sc ?_ ?_<;>(intro h;try exact sz h)|refine sg ?_ ?_<;>(intro h;first|exact sz h|refine sy h ?_)|exact sq|fail)
   all_goals try (exfalso; omega)
   refine x_mset_none (by exact gd) rfl rfl rfl (ko_key (x.1, begC s c)) (xm) hf ?_
   intro M15 hu15 e25 a15
   rw [show [((keyc (x.1, begC s c)), LV.int IntKind.i64 (-1))] = [(keyc (x.1, begC s c), I (costN s x.1 (begC s c)))] by rw [hcost]] at hu15 a15
   rw [encM_append] at hu15 a15
   (repeat' first|with_reducible intro _|refine sv ?_|refine sc ?_ ?_<;>(intro h;try exact sz h)|refine sg ?_ ?_<;>(intro h;first|exact sz h|refine sy h ?_)|exact sq|fail)
   all_goals try (exfalso; omega)
   (refine kf ?_)
   exact ⟨rfl, xk, by obtain ⟨L', z1, z2⟩ := hkn13; exact ⟨L', xm, z2⟩, ⟨_, xm, hkcn⟩⟩
  | some y =>
   have hcost : costN s x.1 (begC s c) = y.2 := by unfold costN; rw [hbf]
   have hyb := pass_pl hs hx.1 hbg.1 (best_some hbf).1
   have hneg : ¬ costN s x.1 (begC s c) < 0 := by omega
   rw [hbf] at hba
   obtain ⟨rfl, p, rfl, hp, ap⟩ := hba
   have hp : M12.next <= p := hp
   rw [hgo1 hneg]
   (repeat' first|with_reducible intro _|refine sv ?_|refine sc ?_ ?_<;>(intro h;try exact sz h)|refine sg ?_ ?_<;>(intro h;first|exact sz h|refine sy h ?_)|exact sq|fail)
   all_goals try (exfalso; omega)
   refine x_mset_none (by exact gd) rfl rfl rfl (ko_key (x.1, begC s c)) (xm) hf ?_
   intro M16 hu16 e25 a16
   rw [<- hcost] at hu16 a16
   rw [show encM keyc I L ++ [(keyc (x.1, begC s c), I (costN s x.1 (begC s c)))] = encM keyc I (L ++ [((x.1, begC s c), costN s x.1 (begC s c))]) from encM_append L _ _] at hu16 a16
   have d3 : At M16 n3 (.cells true [.ptr (some (pc, 0)), .map (some pk)] 77) := xm
   have d4 : At M16 n4 (.cells true (rchc x) 90) := xm
   have d5 : At M16 n5 (.cells true [I (c / 2 : Nat), I (c % 2 : Nat)] 45) := xm
   have d6 : At M16 n6 (.cells true [I 0, I 0] 26) := xm
   have hK16 : Keep (fun i => i = pm ∨ i = pk) M M16 := xk
   have hkn16 : KnM M16 s pm := by obtain ⟨L', z1, z2⟩ := hkn13; exact ⟨L', xm, z2⟩
   have hP16 := hP.keepm hK16 hkn16 ⟨_, a16, hkcn⟩
   refine xw_know (t := 11) (v' := I (costN s x.1 (begC s c))) rfl (by rw [hcost]) ?_
   (repeat' first|with_reducible intro _|refine sv ?_|refine sc ?_ ?_<;>(intro h;try exact sz h)|refine sg ?_ ?_<;>(intro h;first|exact sz h|refine sy h ?_)|exact sq|fail)
   all_goals try (exfalso; omega)
   refine x_call (by exact gd) rfl rfl (show AppOk Tryz.prog _ _ M16 _ from hsh M16 hP16.ch hneg) ?_
   rintro w MY ⟨rfl, hkY, hknY⟩
   have hleY := hkY.le
   have b6Y := d6.keep hkY (by omega)
   have hpmY := hknY.lt
   have hLY := a16.keep hkY (by omega)
   have hpkY := hLY.2
   have hKY : Keep (fun i => i = pm ∨ i = pk) M MY := hK16.trans hkY (fun i hi => .inl (.inl hi))
   cases hsf : shotF s (c / 2) ((c % 2 : Nat) : Int) (x.2 + costN s x.1 (begC s c)) with
   | none =>
    (repeat' first|with_reducible intro _|refine sv ?_|refine sc ?_ ?_<;>(intro h;try exact sz h)|refine sg ?_ ?_<;>(intro h;first|exact sz h|refine sy h ?_)|exact sq|fail)
    (refine kf ?_)
    exact ⟨rfl, xk, by obtain ⟨L', z1, z2⟩ := hknY; exact ⟨L', xm, z2⟩, ⟨_, xm, hkcn⟩⟩
   | some b =>
    (repeat' first|with_reducible intro _|refine sv ?_|refine sc ?_ ?_<;>(intro h;try exact sz h)|refine sg ?_ ?_<;>(intro h;first|exact sz h|refine sy h ?_)|exact sq|fail)
    (refine kf ?_)
    exact ⟨rfl, xk, by obtain ⟨L', z1, z2⟩ := hknY; exact ⟨L', xm, z2⟩, ⟨_, xm, hkcn⟩⟩
end Go.Proofs.YtifcpjfpjkoicaaGreat.C
end
