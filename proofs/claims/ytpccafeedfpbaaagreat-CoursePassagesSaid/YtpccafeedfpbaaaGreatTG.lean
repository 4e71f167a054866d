/-
  Part of the proof of CoursePassages: what functions of the program and of the statement come to, walked by the rules. No condition beyond those in each theorem.
-/
import Derived.Test.YtpccafeedfpbaaaGreatTF
open Go PvL Go.Proofs
set_option linter.unusedVariables false
set_option linter.unusedSimpArgs false
namespace Go.Proofs.YtpccafeedfpbaaaGreat.C
theorem c_passages {pc : Nat} {a b : Pose} (M : Mem) : CallOk Tryz.prog 96 [.ptr (some (pc, 0)), .agg (posc a), .agg (posc b)] M (fun v M' => ∃ nc na nb, v = psgF nc na nb ∧ Grow M M' ∧ At M' nc (.cells true [.ptr (some (pc, 0))] 87) ∧ At M' na (.cells true (posc a) 90) ∧ At M' nb (.cells true (posc b) 90)) := by
  refine call_in kq96 rfl ?_
  dsimp only [xq96, zipE, Nat.reduceAdd]
  (repeat' (first | (with_reducible intro _) | refine sv ?_ | (refine sc ?_ ?_ <;> (intro h; try first | exact h.elim | exact absurd rfl h | (exfalso; omega))) | (refine sg ?_ ?_ <;> (intro h; (fail_if_success (have : True := h)); try first | exact h.elim | exact absurd rfl h | (exfalso; omega))) | assumption | exact xm | exact rfl))
  ((with_reducible first | apply k_fun | apply k_fun_norm); exact rx)
  exact ⟨_, _, _, rfl, xg, xm, xm, xm⟩
def BestAt (M : Mem) (T : Nat → Prop) (sl : LV) (c : Int) (o : Option Psg) : Prop :=
  match o with
  | none => sl = .slice none 0 true 0 ∧ c = 0
  | some y => c = y.2 ∧ ∃ p, sl = slp y.1.length p ∧ T p ∧ At M p (.cells true (y.1.flatMap ptc) 30)
theorem BestAt.same {M M' : Mem} {T T' : Nat → Prop} {sl : LV} {c : Int} {o : Option Psg} (h : BestAt M T sl c o) (hle : M.next ≤ M'.next) (hg : ∀ i, T i → M'.get i = M.get i) (hT : ∀ i, T i → T' i) : BestAt M' T' sl c o := by
  cases o with
  | none => exact h
  | some y =>
    obtain ⟨h1, p, h2, h3, h4⟩ := h
    exact ⟨h1, p, h2, hT p h3, h4.same hle (hg p h3)⟩
set_option maxHeartbeats 4000000 in
theorem c_first_psg {gf : FuncId} {ca : List LV} {Wr : Nat → Prop} {Fin : Mem → Prop} {items : List Psg} {M0 : Mem} (hy : ∀ M', Grow M0 M' → YieldsS Tryz.prog gf [] ca (fun i => i < M0.next) Wr Fin items PsgR M') (hWr : ∀ i, Wr i → i < M0.next)
    (hFin : ∀ M1 M2, Fin M1 → M1.next ≤ M2.next → (∀ i, i < M0.next → M2.get i = M1.get i) → Fin M2) (hit : ∀ x ∈ items, (∀ p ∈ x.1, PlP p) ∧ x.1.length ≤ 100) :
    CallOk Tryz.prog 95 [.func (.func gf) [] ca, .func (.func 97) [] []] M0 (fun v M' => Keep Wr M0 M' ∧ Fin M' ∧ ∃ sl c, v = .tup [.agg [sl, I c], .bool (items.foldl addB none).isSome] ∧ BestAt M' (fun p => M0.next ≤ p) sl c (items.foldl addB none)) := by
  refine call_in kq95 rfl ?_
  dsimp only [xq95, zipE, Nat.reduceAdd]
  (repeat' (first | (with_reducible intro _) | refine sv ?_ | (refine sc ?_ ?_ <;> (intro h; try first | exact h.elim | exact absurd rfl h | (exfalso; omega))) | (refine sg ?_ ?_ <;> (intro h; (fail_if_success (have : True := h)); try first | exact h.elim | exact absurd rfl h | (exfalso; omega))) | assumption | exact xm | exact rfl))
  rename_i n3 M1 hn3 e1 e2 n4 M2 hn4 e3 e4 n5 M2b hn5 e3b e4b
  apply w_rfun
  exact rfl
  intro lb d l M3 M4 hlb hd e5 e6 hl e7 e8
  have a3 : At M4 n3 (.cells true [.func (.func 97) [] []] 173) := xm
  have a4 : At M4 n4 (.cells true [.slice none 0 true 0, I 0] 92) := xm
  have a5 : At M4 n5 (.cells true [.bool false] 4) := xm
  have ad : At M4 d .defr := At.new_old hl (At.new_same hd)
  have hg4 : Grow M0 M4 := xg
  refine (hy M4 hg4 l (fun i => M0.next ≤ i ∧ i < M4.next) (fun dn T M => ∃ sl c, At M n3 (.cells true [.func (.func 97) [] []] 173) ∧ At M n4 (.cells true [sl, I c] 92) ∧ At M n5 (.cells true [.bool (dn.foldl addB none).isSome] 4) ∧
      At M l (lb .ready none) ∧ At M d .defr ∧ BestAt M T sl c (dn.foldl addB none)) (fun _ _ => False) ⟨fun i hi => hi.2, ?_, fun T M M' h => h.elim, ?_⟩ (fun i h1 h2 => by omega) ⟨_, _, a3, a4, a5, At.new_same hl, ad, rfl, rfl⟩).mono ?_
  · rintro dn T M M' ⟨sl, c, h3, h4, h5, h6, h7, h8⟩ hle hg
    have hg2 : ∀ i, M0.next ≤ i → i < M4.next → M'.get i = M.get i := fun i h1 h2 => hg i (.inl ⟨h2, fun hw => by have := hWr i hw; omega⟩)
    exact ⟨sl, c, h3.same hle (hg2 _ (by omega) (by omega)), h4.same hle (hg2 _ (by omega) (by omega)), h5.same hle (hg2 _ (by omega) (by omega)), h6.same hle (hg2 _ (by omega) (by omega)), h7.same hle (hg2 _ (by omega) (by omega)), h8.same hle (fun i hi => hg i (.inr hi)) (fun _ hi => hi)⟩
  · rintro dn x rest v U T M hits ⟨p, rfl, hU, hp⟩ hN hT hUd ⟨sl, c, h3, h4, h5, h6, h7, h8⟩
    have hx := hit x (by rw [hits]; simp)
    have hfold : (dn ++ [x]).foldl addB none = addB (dn.foldl addB none) x := by rw [List.foldl_append]; rfl
    have hpT := hUd p ((hU p).2 rfl)
    have hxc : 0 ≤ M.next := Nat.zero_le _
    have hdef := ad.2
    rw [hfold]
    refine round_in hlb h6 rfl ?_
    dsimp only [zipP]
    have hfin : ∀ {M' : Mem} (sl' : LV) (c' : Int) (o' : Option Psg) (T' : Nat → Prop), Keep (fun i => M0.next ≤ i ∧ i < M4.next) M M' → At M' n3 (.cells true [.func (.func 97) [] []] 173) → At M' n4 (.cells true [sl', I c'] 92) → At M' n5 (.cells true [.bool o'.isSome] 4) →
        At M' l (lb .ready none) → At M' d .defr → BestAt M' T' sl' c' o' → (∀ i, T' i → (T i ∨ U i)) → addB (dn.foldl addB none) x = o' → Keep (fun i => (M0.next ≤ i ∧ i < M4.next) ∨ T i ∨ U i) M M' ∧ ∃ T' : Nat → Prop, (∀ i, T' i → (T i ∨ U i ∨ M.next ≤ i) ∧ i < M'.next) ∧ ((LV.bool true = .bool true ∧ (∃ sl c, At M' n3 (.cells true [.func (.func 97) [] []] 173) ∧ At M' n4 (.cells true [sl, I c] 92) ∧ At M' n5 (.cells true [.bool (addB (dn.foldl addB none) x).isSome] 4) ∧ At M' l (lb .ready none) ∧ At M' d .defr ∧ BestAt M' T' sl c (addB (dn.foldl addB none) x))) ∨ (LV.bool true = .bool false ∧ False)) := by
      intro M' sl' c' o' T' hk q3 q4 q5 q6 q7 q8 hT' ho
      refine ⟨hk.weaken (fun i hi => .inl hi), T', fun i hi => ?_, .inl ⟨rfl, sl', c', q3, q4, by rw [ho]; exact q5, q6, q7, by rw [ho]; exact q8⟩⟩
      have hle := hk.le
      rcases hT' i hi with h | h
      · exact ⟨.inl h, by have := (hT i h).2; omega⟩
      · exact ⟨.inr (.inl h), by have := (hUd i h).2.1; omega⟩
    cases hfo : dn.foldl addB none with
    | none =>
      rw [hfo] at h5 h8 hfin
      obtain ⟨rfl, rfl⟩ := h8
      (repeat' (first | (with_reducible intro _) | refine sv ?_ | (refine sc ?_ ?_ <;> (intro h; try first | exact h.elim | exact absurd rfl h | (exfalso; omega))) | (refine sg ?_ ?_ <;> (intro h; (fail_if_success (have : True := h)); try first | exact h.elim | exact absurd rfl h | (exfalso; omega))) | assumption | exact xm | exact rfl))
      exact hfin _ _ (some x) (fun i => i = p) (xk) (xm) (xm) (xm) (xm) (xm) ⟨rfl, p, rfl, rfl, xm⟩ (fun i hi => .inr ((hU i).2 hi)) rfl
    | some y =>
      rw [hfo] at h5 h8 hfin
      obtain ⟨rfl, py, rfl, hTy, hpy⟩ := h8
      have hyi : y ∈ items := by
        have := ((foldB dn none).2 y hfo).2.2.resolve_right (by intro e; cases e)
        rw [hits]; exact List.mem_append_left _ this
      have hpT2 := hT py hTy
      have hless := fun M' (q1 : At M' p (.cells true (x.1.flatMap ptc) 30)) (q2 : At M' py (.cells true (y.1.flatMap ptc) 30)) => c_less (fa := false) (fb := false) (x := x) (y := y) (.inr ⟨p, 0, rfl, rd_pts q1⟩) (.inr ⟨py, 0, rfl, rd_pts q2⟩) hx.1 (hit y hyi).1 (by have := hx.2; omega) (by have := (hit y hyi).2; omega)
      cases hlp : lessP x y with
      | true =>
        rw [hlp] at hless
        (repeat' (first | (with_reducible intro _) | refine sv ?_ | (refine sc ?_ ?_ <;> (intro h; try first | exact h.elim | exact absurd rfl h | (exfalso; omega))) | ((with_reducible first | apply x_pure | apply d_pure | apply d_pure0); exact gd; exact rfl; exact rfl; (first | exact hless _ (xm) (xm))) | (refine sg ?_ ?_ <;> (intro h; (fail_if_success (have : True := h)); try first | exact h.elim | exact absurd rfl h | (exfalso; omega))) | assumption | exact xm | exact rfl))
        exact hfin _ _ (some x) (fun i => i = p) (xk) (xm) (xm) (xm) (xm) (xm) ⟨rfl, p, rfl, rfl, xm⟩ (fun i hi => .inr ((hU i).2 hi)) (if_pos hlp)
      | false =>
        rw [hlp] at hless
        (repeat' (first | (with_reducible intro _) | refine sv ?_ | (refine sc ?_ ?_ <;> (intro h; try first | exact h.elim | exact absurd rfl h | (exfalso; omega))) | ((with_reducible first | apply x_pure | apply d_pure | apply d_pure0); exact gd; exact rfl; exact rfl; (first | exact hless _ (xm) (xm))) | (refine sg ?_ ?_ <;> (intro h; (fail_if_success (have : True := h)); try first | exact h.elim | exact absurd rfl h | (exfalso; omega))) | assumption | exact xm | exact rfl))
        exact hfin _ _ (some y) (fun i => i = py) (xk) (xm) (xm) (xm) (xm) (xm) ⟨rfl, py, rfl, rfl, xm⟩ (fun i hi => .inl (by rw [hi]; exact hTy)) (if_neg (by rw [hlp]; decide))
  · rintro v M5 ⟨hk5, hf5, T5, hT5, ⟨sl, c, h3, h4, h5, h6, h7, h8⟩ | h⟩
    rotate_left
    · exact h.elim
    have hle5 := hk5.le
    have hk05 : Keep Wr M0 M5 := (hg4.to_keep Wr).trans hk5 (fun i hi => hi.elim (fun h => .inr h.1) .inl)
    have hle4 := hg4.le
    have hdl : d ≠ l := by omega
    refine k_iter h6 (by simp) fun M6 hu e9 a9 => ?_
    have hendd : ∀ {M9 M8 M7 : Mem} (lb7 lb8 : LB), Upd M6 n4 lb7 M7 → Upd M7 n5 lb8 M8 → Unmark [d] M8 M9 → Keep Wr M0 M9 ∧ Fin M9 ∧ Keep (fun i => M0.next ≤ i ∧ i < M4.next) M5 M9 := by
      intro M9 M8 M7 lb7 lb8 hu7 hu8 hm
      have hkk : Keep (fun i => M0.next ≤ i ∧ i < M4.next) M5 M9 := ((((Keep.refl _ M5).upd hu (.inl ⟨by omega, by omega⟩)).upd hu7 (.inl ⟨by omega, by omega⟩)).upd hu8 (.inl ⟨by omega, by omega⟩)).unmark hm (fun d' hd' => by obtain rfl := List.mem_singleton.1 hd'; exact .inl ⟨by omega, by omega⟩)
      refine ⟨hk05.trans hkk (fun i hi => .inr hi.1), hFin M5 M9 hf5 hkk.le (fun i hi => hkk.old i (by omega) (by omega)), hkk⟩
    cases hfo : items.foldl addB none with
    | none =>
      rw [hfo] at h5 h8
      obtain ⟨rfl, rfl⟩ := h8
      (repeat' (first | (with_reducible intro _) | refine sv ?_ | (refine sc ?_ ?_ <;> (intro h; try first | exact h.elim | exact absurd rfl h | (exfalso; omega))) | (refine sg ?_ ?_ <;> (intro h; (fail_if_success (have : True := h)); try first | exact h.elim | exact absurd rfl h | (exfalso; omega))) | assumption | exact xm | exact rfl))
      refine k_fun_end (.inr rfl) (by simp) (fun d' hd' => by obtain rfl := List.mem_singleton.1 hd'; exact xm) fun M9 hm => ?_
      rename_i M7 hu7 e10 a7 M8 hu8 e11 a8
      obtain ⟨q1, q2, q3⟩ := hendd _ _ hu7 hu8 hm
      have b4 : At M8 n4 (.cells true [.slice none 0 true 0, I 0] 92) := xm
      refine ⟨_, .cellN rfl (Rd.of_at (b4.unmark hm (by simp; omega)) rfl).1 (.cell1 rfl (Rd1.of_at (a8.unmark hm (by simp; omega)) rfl).1 .nil), q1, q2, _, _, rfl, rfl, rfl⟩
    | some y =>
      rw [hfo] at h5 h8
      obtain ⟨rfl, py, rfl, hTy, hpy⟩ := h8
      have hpy5 := hT5 py hTy
      (repeat' (first | (with_reducible intro _) | refine sv ?_ | (refine sc ?_ ?_ <;> (intro h; try first | exact h.elim | exact absurd rfl h | (exfalso; omega))) | (refine sg ?_ ?_ <;> (intro h; (fail_if_success (have : True := h)); try first | exact h.elim | exact absurd rfl h | (exfalso; omega))) | assumption | exact xm | exact rfl))
      refine k_fun_end (.inr rfl) (by simp) (fun d' hd' => by obtain rfl := List.mem_singleton.1 hd'; exact xm) fun M9 hm => ?_
      rename_i M7 hu7 e10 a7 M8 hu8 e11 a8
      obtain ⟨q1, q2, q3⟩ := hendd _ _ hu7 hu8 hm
      have b4 : At M8 n4 (.cells true [slp y.1.length py, I y.2] 92) := xm
      refine ⟨_, .cellN rfl (Rd.of_at (b4.unmark hm (by simp; omega)) rfl).1 (.cell1 rfl (Rd1.of_at (a8.unmark hm (by simp; omega)) rfl).1 .nil), q1, q2, _, _, rfl, rfl, py, rfl, by omega, hpy.keep q3 (by omega)⟩
theorem BestAt.mono {M : Mem} {T T' : Nat → Prop} {sl : LV} {c : Int} {o : Option Psg} (h : BestAt M T sl c o) (hT : ∀ i, T i → T' i) : BestAt M T' sl c o := by
  cases o with
  | none => exact h
  | some y => obtain ⟨h1, p, h2, h3, h4⟩ := h; exact ⟨h1, p, h2, hT p h3, h4⟩
set_option maxHeartbeats 4000000 in
theorem c_best {A : CrA} {s : Cr} {a b : Pose} {pc pm : Nat} {M : Mem} (hC : ChM M A s pc pm) (hs : CrOk s) (ha : PoseOk a) (hb : PoseOk b) :
    CallOk Tryz.prog 43 [.ptr (some (pc, 0)), .agg (posc a), .agg (posc b)] M (fun v M' => Keep (fun i => i = pm) M M' ∧ KnM M' s pm ∧ ∃ sl c, v = .tup [.agg [sl, I c], .bool (bestF s a b).isSome] ∧ BestAt M' (fun p => M.next ≤ p) sl c (bestF s a b)) := by
  refine call_in kq43 rfl ?_
  dsimp only [xq43, zipE, Nat.reduceAdd]
  (repeat' (first | (with_reducible intro _) | refine sv ?_ | (refine sc ?_ ?_ <;> (intro h; try first | exact h.elim | exact absurd rfl h | (exfalso; omega))) | (refine sg ?_ ?_ <;> (intro h; (fail_if_success (have : True := h)); try first | exact h.elim | exact absurd rfl h | (exfalso; omega))) | assumption | exact xm | exact rfl))
  rename_i n4 M1 hn4 e1 e2 n5 M2 hn5 e3 e4 n6 M3 hn6 e5 e6
  refine x_call (by exact gd) rfl rfl (show AppOk Tryz.prog _ _ M3 _ from c_passages (a := a) (b := b) M3) ?_
  rintro w M4 ⟨nc, na, nb, rfl, hg4, ac, aa, ab⟩
  have hg04 : Grow M M4 := xg
  have hle04 := hg04.le
  have hB : PsB M4 A s a b pc pm na nb nc := ⟨hC.grow hg04, ac, aa, ab⟩
  have hpm := hC.known.lt
  have hf := c_first_psg (gf := 130) (ca := [.ptr (some (nc, 0)), .ptr (some (na, 0)), .ptr (some (nb, 0))]) (Wr := fun i => i = pm) (Fin := fun M' => KnM M' s pm) (items := passL s a b) (M0 := M4)
    (fun M' hg => y_passages hB (hg.to_keep _) (hB.ch.known.at hg.le (hg.old _ hB.ch.known.lt)) hs ha hb) (fun i hi => by subst hi; omega) (fun M1 M2 h1 h2 h3 => h1.at h2 (h3 _ (by omega))) (fun x hx => by have := pass_pl hs ha.1 hb.1 hx; exact ⟨this.1, by omega⟩)
  refine x_call (by exact gd) rfl rfl (show AppOk Tryz.prog _ _ M4 _ from hf) ?_
  rintro w M5 ⟨hk5, hkn5, sl, c, rfl, hba⟩
  have hle5 := hk5.le
  have hk05 : Keep (fun i => i = pm) M M5 := (hg04.to_keep _).trans hk5 (fun i hi => .inl hi)
  have hle4 := hg4.le
  have a6 : At M5 n6 (.cells true [.slice none 0 true 0, I 0] 92) := ((At.new_same hn6).grow hg4).keep hk5 (by omega)
  rw [show (passL s a b).foldl addB none = bestF s a b from rfl] at hba ⊢
  cases hbf : bestF s a b with
  | none =>
    rw [hbf] at hba
    obtain ⟨rfl, rfl⟩ := hba
    (repeat' (first | (with_reducible intro _) | refine sv ?_ | (refine sc ?_ ?_ <;> (intro h; try first | exact h.elim | exact absurd rfl h | (exfalso; omega))) | (refine sg ?_ ?_ <;> (intro h; (fail_if_success (have : True := h)); try first | exact h.elim | exact absurd rfl h | (exfalso; omega))) | assumption | exact xm | exact rfl))
    ((with_reducible first | apply k_fun | apply k_fun_norm); exact rx)
    exact ⟨xk, by obtain ⟨L, z1, z2⟩ := hkn5; have := z1.2; exact ⟨L, xm, z2⟩, _, _, rfl, rfl, rfl⟩
  | some y =>
    rw [hbf] at hba
    obtain ⟨rfl, p, rfl, hp, ap⟩ := hba
    have hp : M4.next ≤ p := hp
    (repeat' (first | (with_reducible intro _) | refine sv ?_ | (refine sc ?_ ?_ <;> (intro h; try first | exact h.elim | exact absurd rfl h | (exfalso; omega))) | (refine sg ?_ ?_ <;> (intro h; (fail_if_success (have : True := h)); try first | exact h.elim | exact absurd rfl h | (exfalso; omega))) | assumption | exact xm | exact rfl))
    ((with_reducible first | apply k_fun | apply k_fun_norm); exact rx)
    exact ⟨xk, by obtain ⟨L, z1, z2⟩ := hkn5; have := z1.2; exact ⟨L, xm, z2⟩, _, _, rfl, rfl, p, rfl, by omega, xm⟩
/-- a list of places, in a block of its own, or none -/
abbrev PtV (b : Nat) (M : Mem) (v : LV) (l : List Pt) : Prop := Vec b 2 30 ptc M v l
set_option maxHeartbeats 4000000 in
theorem c_Passage {A : CrA} {s : Cr} {a b : Pose} {M : Mem} (hM : CrM M A s) :
    CallOk Tryz.prog 13 [crv A s, .agg (posc a), .agg (posc b)] M (fun v M' => Grow M M' ∧ ∃ sl, v = .tup [sl, I (PassageF s a b).1.2, I (PassageF s a b).2] ∧ PtV M.next M' sl (PassageF s a b).1.1) := by
  refine call_in kq13 rfl ?_
  dsimp only [xq13, zipE, Nat.reduceAdd]
  have hc := fun M' (hg : Grow M M') => c_chartOf (hM.grow hg)
  unfold PassageF
  (repeat' (first | (with_reducible intro _) | refine sv ?_ | (refine sc ?_ ?_ <;> (intro h; try first | exact h.elim | exact absurd rfl h | (exfalso; omega))) | ((with_reducible first | apply x_call | apply d_call | apply x_call0); exact gd; exact rfl; exact rfl; (first | exact hc _ (xg))) | (refine sg ?_ ?_ <;> (intro h; (fail_if_success (have : True := h)); try first | exact h.elim | exact absurd rfl h | (exfalso; omega))) | assumption | exact xm | exact rfl))
  rename_i n3 M1 hn3 e1 e2 n4 M2 hn4 e3 e4 n5 M3 hn5 e5 e6 w M4 hq
  obtain ⟨hg4, ⟨hno, rfl⟩ | ⟨hok, pc, pm, rfl, hch, h1, h2⟩⟩ := hq
  · have hle4 := hg4.le
    rw [if_neg hno]
    (repeat' (first | (with_reducible intro _) | refine sv ?_ | (refine sc ?_ ?_ <;> (intro h; try first | exact h.elim | exact absurd rfl h | (exfalso; omega))) | (refine sg ?_ ?_ <;> (intro h; (fail_if_success (have : True := h)); try first | exact h.elim | exact absurd rfl h | (exfalso; omega))) | assumption | exact xm | exact rfl))
    ((with_reducible first | apply k_fun | apply k_fun_norm); exact rx)
    exact ⟨xg, _, rfl, .nil⟩
  have hle4 := hg4.le
  rw [if_pos hok]
  have hv1 := c_valid a
  have hv2 := c_valid b
  by_cases hp : PoseOk a ∧ PoseOk b
  rotate_left
  · rw [if_neg hp]
    unfold PoseOk at hp
    (repeat' (first | (with_reducible intro _) | refine sv ?_ | (refine sc ?_ ?_ <;> (intro h; try first | exact h.elim | exact absurd rfl h | (exfalso; omega))) | ((with_reducible first | apply x_pure | apply d_pure | apply d_pure0); exact gd; exact rfl; exact rfl; (first | exact hv1 _ | exact hv2 _)) | (refine sg ?_ ?_ <;> (intro h; (fail_if_success (have : True := h)); try first | exact h.elim | exact absurd rfl h | (exfalso; omega))) | assumption | exact xm | exact rfl))
    all_goals first
      | (exact absurd ⟨by assumption, by assumption⟩ hp)
      | (((with_reducible first | apply k_fun | apply k_fun_norm); exact rx)
         exact ⟨xg, _, rfl, .nil⟩)
  rw [if_pos hp]
  have hp' := hp
  unfold PoseOk at hp'
  (repeat' (first | (with_reducible intro _) | refine sv ?_ | (refine sc ?_ ?_ <;> (intro h; try first | exact h.elim | exact absurd rfl h | (exfalso; omega))) | ((with_reducible first | apply x_pure | apply d_pure | apply d_pure0); exact gd; exact rfl; exact rfl; (first | exact hv1 _ | exact hv2 _)) | (refine sg ?_ ?_ <;> (intro h; (fail_if_success (have : True := h)); try first | exact h.elim | exact absurd rfl h | (exfalso; omega))) | assumption | exact xm | exact rfl))
  all_goals try (exact absurd hp'.1 (by assumption))
  all_goals try (exact absurd hp'.2 (by assumption))
  rename_i M5 hg5 hle5 hx4 M6 hg6 hle6
  have hg46 : Grow M4 M6 := hg5.trans hg6
  have hcb := c_best (hch.grow hg46) hok hp.1 hp.2
  clear hg46
  refine x_call (by exact gd) rfl rfl (show AppOk Tryz.prog _ _ M6 _ from hcb) ?_
  rintro w M7 ⟨hk7, hkn7, sl, c, rfl, hba⟩
  have hle7 := hk7.le
  have hkn7' := hkn7.lt
  cases hbf : bestF s a b with
  | none =>
    rw [hbf] at hba
    obtain ⟨rfl, rfl⟩ := hba
    (repeat' (first | (with_reducible intro _) | refine sv ?_ | (refine sc ?_ ?_ <;> (intro h; try first | exact h.elim | exact absurd rfl h | (exfalso; omega))) | (refine sg ?_ ?_ <;> (intro h; (fail_if_success (have : True := h)); try first | exact h.elim | exact absurd rfl h | (exfalso; omega))) | assumption | exact xm | exact rfl))
    ((with_reducible first | apply k_fun | apply k_fun_norm); exact rx)
    exact ⟨xg, _, rfl, .nil⟩
  | some y =>
    rw [hbf] at hba
    obtain ⟨rfl, p, rfl, hp, ap⟩ := hba
    have hp : M6.next ≤ p := hp
    have hpl := ap.2
    (repeat' (first | (with_reducible intro _) | refine sv ?_ | (refine sc ?_ ?_ <;> (intro h; try first | exact h.elim | exact absurd rfl h | (exfalso; omega))) | (refine sg ?_ ?_ <;> (intro h; (fail_if_success (have : True := h)); try first | exact h.elim | exact absurd rfl h | (exfalso; omega))) | assumption | exact xm | exact rfl))
    ((with_reducible first | apply k_fun | apply k_fun_norm); exact rx)
    refine ⟨xg, _, rfl, .inr ⟨p, rfl, ?_, by omega⟩⟩
    show At _ p (.cells true (y.1.flatMap ptc) 30)
    exact xm
end Go.Proofs.YtpccafeedfpbaaaGreat.C
