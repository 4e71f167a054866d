/-
  Part of the proof of CourseCheapest: what functions of the program and of the statement come to, walked by the rules. No condition beyond those in each theorem.
-/
import Derived.Test.YtpccafeedfpbaaaGreatVF
import Derived.Test.YtpccafeedfpbaaaGreatSC
section
open Go PvL Go.Proofs
set_option linter.unusedVariables false
set_option linter.unusedSimpArgs false
namespace Go.Proofs.YtpccafeedfpbaaaGreat.C
theorem c_passages {pc : Nat} {a b : Pose} (M : Mem) : CallOk Tryz.prog 96 [.ptr (some (pc, 0)), .agg (posc a), .agg (posc b)] M (fun v M' => ∃ nc na nb, v = psgF nc na nb ∧ Grow M M' ∧ At M' nc (.cells true [.ptr (some (pc, 0))] 87) ∧ At M' na (.cells true (posc a) 90) ∧ At M' nb (.cells true (posc b) 90)) := by
  refine call_in k96 rfl ?_
  dsimp only [x96, zipE, Nat.reduceAdd]
  (repeat' (first | (with_reducible intro _) | refine sv ?_ | (refine sc ?_ ?_ <;> (intro h; try first | exact h.elim | exact absurd rfl h | (exfalso; omega))) | (refine sg ?_ ?_ <;> (intro h; (fail_if_success (have : True := h)); try first | exact h.elim | exact absurd rfl h | (exfalso; omega))) | assumption | exact xm | exact rfl))
  ((with_reducible first | apply k_fun | apply k_fun_norm); exact rx)
  exact ⟨_, _, _, rfl, xg, xm, xm, xm⟩
def BestAt (M : Mem) (T : Nat → Prop) (sl : LV) (c : Int) (o : Option Psg) : Prop :=
  match o with
  | none => sl = .slice none 0 true 0 ∧ c = 0
  | some y => c = y.2 ∧ ∃ p, sl = slp y.1.length p ∧ T p ∧ At M p (.cells true (y.1.flatMap ptc) 30)
theorem BestAt.same {M M' : Mem} {T T' : Nat → Prop} {sl : LV} {c : Int} {o : Option Psg} (h : BestAt M T sl c o) (hle : M.next ≤ M'.next) (hg : ∀ i, T i → M'.get i = M.get i) (hT : ∀ i, T i → T' i) : BestAt M' T' sl c o := by
  cases o with
  | none => exact h
  | some y =>
    obtain ⟨h1, p, h2, h3, h4⟩ := h
    exact ⟨h1, p, h2, hT p h3, h4.same hle (hg p h3)⟩
set_option maxHeartbeats 4000000 in
theorem c_first_psg {gf : FuncId} {ca : List LV} {Wr : Nat → Prop} {Fin : Mem → Prop} {items : List Psg} {M0 : Mem} (hy : ∀ M', Grow M0 M' → YieldsS Tryz.prog gf [] ca (fun i => i < M0.next) Wr Fin items PsgR M') (hWr : ∀ i, Wr i → i < M0.next)
    (hFin : ∀ M1 M2, Fin M1 → M1.next ≤ M2.next → (∀ i, i < M0.next → M2.get i = M1.get i) → Fin M2) (hit : ∀ x ∈ items, (∀ p ∈ x.1, PlP p) ∧ x.1.length ≤ 100) :
    CallOk Tryz.prog 95 [.func (.func gf) [] ca, .func (.func 97) [] []] M0 (fun v M' => Keep Wr M0 M' ∧ Fin M' ∧ ∃ sl c, v = .tup [.agg [sl, I c], .bool (items.foldl addB none).isSome] ∧ BestAt M' (fun p => M0.next ≤ p) sl c (items.foldl addB none)) := by
  refine call_in k95 rfl ?_
  dsimp only [x95, zipE, Nat.reduceAdd]
  (repeat' (first | (with_reducible intro _) | refine sv ?_ | (refine sc ?_ ?_ <;> (intro h; try first | exact h.elim | exact absurd rfl h | (exfalso; omega))) | (refine sg ?_ ?_ <;> (intro h; (fail_if_success (have : True := h)); try first | exact h.elim | exact absurd rfl h | (exfalso; omega))) | assumption | exact xm | exact rfl))
  rename_i n3 M1 hn3 e1 e2 n4 M2 hn4 e3 e4 n5 M2b hn5 e3b e4b
  apply w_rfun
  exact rfl
  intro lb d l M3 M4 hlb hd e5 e6 hl e7 e8
  have a3 : At M4 n3 (.cells true [.func (.func 97) [] []] 173) := xm
  have a4 : At M4 n4 (.cells true [.slice none 0 true 0, I 0] 92) := xm
  have a5 : At M4 n5 (.cells true [.bool false] 4) := xm
  have ad : At M4 d .defr := At.new_old hl (At.new_same hd)
  have hg4 : Grow M0 M4 := xg
  refine (hy M4 hg4 l (fun i => M0.next ≤ i ∧ i < M4.next) (fun dn T M => ∃ sl c, At M n3 (.cells true [.func (.func 97) [] []] 173) ∧ At M n4 (.cells true [sl, I c] 92) ∧ At M n5 (.cells true [.bool (dn.foldl addB none).isSome] 4) ∧
      At M l (lb .ready none) ∧ At M d .defr ∧ BestAt M T sl c (dn.foldl addB none)) (fun _ _ => False) ⟨fun i hi => hi.2, ?_, fun T M M' h => h.elim, ?_⟩ (fun i h1 h2 => by omega) ⟨_, _, a3, a4, a5, At.new_same hl, ad, rfl, rfl⟩).mono ?_
  · rintro dn T M M' ⟨sl, c, h3, h4, h5, h6, h7, h8⟩ hle hg
    exact ⟨sl, c, h3.same hle (hg _ (.inl (by omega))), h4.same hle (hg _ (.inl (by omega))), h5.same hle (hg _ (.inl (by omega))), h6.same hle (hg _ (.inl (by omega))), h7.same hle (hg _ (.inl (by omega))), h8.same hle (fun i hi => hg i (.inr hi)) (fun _ hi => hi)⟩
  · rintro dn x rest v U T M hits ⟨p, rfl, hU, hp⟩ hN hT hUd ⟨sl, c, h3, h4, h5, h6, h7, h8⟩
    have hx := hit x (by rw [hits]; simp)
    have hfold : (dn ++ [x]).foldl addB none = addB (dn.foldl addB none) x := by rw [List.foldl_append]; rfl
    have hpT := hUd p ((hU p).2 rfl)
    have hxc : 0 ≤ M.next := Nat.zero_le _
    have hdef := ad.2
    rw [hfold]
    refine round_in hlb h6 rfl ?_
    dsimp only [zipP]
    have hfin : ∀ {M' : Mem} (sl' : LV) (c' : Int) (o' : Option Psg) (T' : Nat → Prop), Keep (fun i => M0.next ≤ i ∧ i < M4.next) M M' → At M' n3 (.cells true [.func (.func 97) [] []] 173) → At M' n4 (.cells true [sl', I c'] 92) → At M' n5 (.cells true [.bool o'.isSome] 4) →
        At M' l (lb .ready none) → At M' d .defr → BestAt M' T' sl' c' o' → (∀ i, T' i → (T i ∨ U i)) → addB (dn.foldl addB none) x = o' → Keep (fun i => (M0.next ≤ i ∧ i < M4.next) ∨ T i ∨ U i) M M' ∧ ∃ T' : Nat → Prop, (∀ i, T' i → (T i ∨ U i ∨ M.next ≤ i) ∧ i < M'.next) ∧ ((LV.bool true = .bool true ∧ (∃ sl c, At M' n3 (.cells true [.func (.func 97) [] []] 173) ∧ At M' n4 (.cells true [sl, I c] 92) ∧ At M' n5 (.cells true [.bool (addB (dn.foldl addB none) x).isSome] 4) ∧ At M' l (lb .ready none) ∧ At M' d .defr ∧ BestAt M' T' sl c (addB (dn.foldl addB none) x))) ∨ (LV.bool true = .bool false ∧ False)) := by
      intro M' sl' c' o' T' hk q3 q4 q5 q6 q7 q8 hT' ho
      refine ⟨hk.weaken (fun i hi => .inl hi), T', fun i hi => ?_, .inl ⟨rfl, sl', c', q3, q4, by rw [ho]; exact q5, q6, q7, by rw [ho]; exact q8⟩⟩
      have hle := hk.le
      rcases hT' i hi with h | h
      · exact ⟨.inl h, by have := (hT i h).2; omega⟩
      · exact ⟨.inr (.inl h), by have := (hUd i h).2.1; omega⟩
    cases hfo : dn.foldl addB none with
    | none =>
      rw [hfo] at h5 h8 hfin
      obtain ⟨rfl, rfl⟩ := h8
      (repeat' (first | (with_reducible intro _) | refine sv ?_ | (refine sc ?_ ?_ <;> (intro h; try first | exact h.elim | exact absurd rfl h | (exfalso; omega))) | (refine sg ?_ ?_ <;> (intro h; (fail_if_success (have : True := h)); try first | exact h.elim | exact absurd rfl h | (exfalso; omega))) | assumption | exact xm | exact rfl))
      exact hfin _ _ (some x) (fun i => i = p) (xk) (xm) (xm) (xm) (xm) (xm) ⟨rfl, p, rfl, rfl, xm⟩ (fun i hi => .inr ((hU i).2 hi)) rfl
    | some y =>
      rw [hfo] at h5 h8 hfin
      obtain ⟨rfl, py, rfl, hTy, hpy⟩ := h8
      have hyi : y ∈ items := by
        have := ((foldB dn none).2 y hfo).2.2.resolve_right (by intro e; cases e)
        rw [hits]; exact List.mem_append_left _ this
      have hpT2 := hT py hTy
      have hless := fun M' (q1 : At M' p (.cells true (x.1.flatMap ptc) 30)) (q2 : At M' py (.cells true (y.1.flatMap ptc) 30)) => c_less (fa := false) (fb := false) (x := x) (y := y) (.inr ⟨p, 0, rfl, rd_pts q1⟩) (.inr ⟨py, 0, rfl, rd_pts q2⟩) hx.1 (hit y hyi).1 (by have := hx.2; omega) (by have := (hit y hyi).2; omega)
      cases hlp : lessP x y with
      | true =>
        rw [hlp] at hless
        (repeat' (first | (with_reducible intro _) | refine sv ?_ | (refine sc ?_ ?_ <;> (intro h; try first | exact h.elim | exact absurd rfl h | (exfalso; omega))) | ((with_reducible first | apply x_pure | apply d_pure); exact gd; exact rfl; exact rfl; (first | exact hless _ (xm) (xm))) | (refine sg ?_ ?_ <;> (intro h; (fail_if_success (have : True := h)); try first | exact h.elim | exact absurd rfl h | (exfalso; omega))) | assumption | exact xm | exact rfl))
        exact hfin _ _ (some x) (fun i => i = p) (xk) (xm) (xm) (xm) (xm) (xm) ⟨rfl, p, rfl, rfl, xm⟩ (fun i hi => .inr ((hU i).2 hi)) (if_pos hlp)
      | false =>
        rw [hlp] at hless
        (repeat' (first | (with_reducible intro _) | refine sv ?_ | (refine sc ?_ ?_ <;> (intro h; try first | exact h.elim | exact absurd rfl h | (exfalso; omega))) | ((with_reducible first | apply x_pure | apply d_pure); exact gd; exact rfl; exact rfl; (first | exact hless _ (xm) (xm))) | (refine sg ?_ ?_ <;> (intro h; (fail_if_success (have : True := h)); try first | exact h.elim | exact absurd rfl h | (exfalso; omega))) | assumption | exact xm | exact rfl))
        exact hfin _ _ (some y) (fun i => i = py) (xk) (xm) (xm) (xm) (xm) (xm) ⟨rfl, py, rfl, rfl, xm⟩ (fun i hi => .inl (by rw [hi]; exact hTy)) (if_neg (by rw [hlp]; decide))
  · rintro v M5 ⟨hk5, hf5, T5, hT5, ⟨sl, c, h3, h4, h5, h6, h7, h8⟩ | h⟩
    rotate_left
    · exact h.elim
    have hle5 := hk5.le
    have hk05 : Keep Wr M0 M5 := (hg4.to_keep Wr).trans hk5 (fun i hi => hi.elim (fun h => .inr h.1) .inl)
    have hle4 := hg4.le
    have hdl : d ≠ l := by omega
    refine k_iter h6 (by simp) fun M6 hu e9 a9 => ?_
    have hendd : ∀ {M9 M8 M7 : Mem} (lb7 lb8 : LB), Upd M6 n4 lb7 M7 → Upd M7 n5 lb8 M8 → Unmark [d] M8 M9 → Keep Wr M0 M9 ∧ Fin M9 ∧ Keep (fun i => M0.next ≤ i ∧ i < M4.next) M5 M9 := by
      intro M9 M8 M7 lb7 lb8 hu7 hu8 hm
      have hkk : Keep (fun i => M0.next ≤ i ∧ i < M4.next) M5 M9 := ((((Keep.refl _ M5).upd hu (.inl ⟨by omega, by omega⟩)).upd hu7 (.inl ⟨by omega, by omega⟩)).upd hu8 (.inl ⟨by omega, by omega⟩)).unmark hm (fun d' hd' => by obtain rfl := List.mem_singleton.1 hd'; exact .inl ⟨by omega, by omega⟩)
      refine ⟨hk05.trans hkk (fun i hi => .inr hi.1), hFin M5 M9 hf5 hkk.le (fun i hi => hkk.old i (by omega) (by omega)), hkk⟩
    cases hfo : items.foldl addB none with
    | none =>
      rw [hfo] at h5 h8
      obtain ⟨rfl, rfl⟩ := h8
      (repeat' (first | (with_reducible intro _) | refine sv ?_ | (refine sc ?_ ?_ <;> (intro h; try first | exact h.elim | exact absurd rfl h | (exfalso; omega))) | (refine sg ?_ ?_ <;> (intro h; (fail_if_success (have : True := h)); try first | exact h.elim | exact absurd rfl h | (exfalso; omega))) | assumption | exact xm | exact rfl))
      refine k_fun_end (.inr rfl) (by simp) (fun d' hd' => by obtain rfl := List.mem_singleton.1 hd'; exact xm) fun M9 hm => ?_
      rename_i M7 hu7 e10 a7 M8 hu8 e11 a8
      obtain ⟨q1, q2, q3⟩ := hendd _ _ hu7 hu8 hm
      have b4 : At M8 n4 (.cells true [.slice none 0 true 0, I 0] 92) := xm
      refine ⟨_, .cellN rfl (Rd.of_at (b4.unmark hm (by simp; omega)) rfl).1 (.cell1 rfl (Rd1.of_at (a8.unmark hm (by simp; omega)) rfl).1 .nil), q1, q2, _, _, rfl, rfl, rfl⟩
    | some y =>
      rw [hfo] at h5 h8
      obtain ⟨rfl, py, rfl, hTy, hpy⟩ := h8
      have hpy5 := hT5 py hTy
      (repeat' (first | (with_reducible intro _) | refine sv ?_ | (refine sc ?_ ?_ <;> (intro h; try first | exact h.elim | exact absurd rfl h | (exfalso; omega))) | (refine sg ?_ ?_ <;> (intro h; (fail_if_success (have : True := h)); try first | exact h.elim | exact absurd rfl h | (exfalso; omega))) | assumption | exact xm | exact rfl))
      refine k_fun_end (.inr rfl) (by simp) (fun d' hd' => by obtain rfl := List.mem_singleton.1 hd'; exact xm) fun M9 hm => ?_
      rename_i M7 hu7 e10 a7 M8 hu8 e11 a8
      obtain ⟨q1, q2, q3⟩ := hendd _ _ hu7 hu8 hm
      have b4 : At M8 n4 (.cells true [slp y.1.length py, I y.2] 92) := xm
      refine ⟨_, .cellN rfl (Rd.of_at (b4.unmark hm (by simp; omega)) rfl).1 (.cell1 rfl (Rd1.of_at (a8.unmark hm (by simp; omega)) rfl).1 .nil), q1, q2, _, _, rfl, rfl, py, rfl, by omega, hpy.keep q3 (by omega)⟩
theorem BestAt.mono {M : Mem} {T T' : Nat → Prop} {sl : LV} {c : Int} {o : Option Psg} (h : BestAt M T sl c o) (hT : ∀ i, T i → T' i) : BestAt M T' sl c o := by
  cases o with
  | none => exact h
  | some y => obtain ⟨h1, p, h2, h3, h4⟩ := h; exact ⟨h1, p, h2, hT p h3, h4⟩
set_option maxHeartbeats 4000000 in
theorem c_best {A : CrA} {s : Cr} {a b : Pose} {pc pm : Nat} {M : Mem} (hC : ChM M A s pc pm) (hs : CrOk s) (ha : PoseOk a) (hb : PoseOk b) :
    CallOk Tryz.prog 43 [.ptr (some (pc, 0)), .agg (posc a), .agg (posc b)] M (fun v M' => Keep (fun i => i = pm) M M' ∧ KnM M' s pm ∧ ∃ sl c, v = .tup [.agg [sl, I c], .bool (bestF s a b).isSome] ∧ BestAt M' (fun p => M.next ≤ p) sl c (bestF s a b)) := by
  refine call_in k43 rfl ?_
  dsimp only [x43, zipE, Nat.reduceAdd]
  (repeat' (first | (with_reducible intro _) | refine sv ?_ | (refine sc ?_ ?_ <;> (intro h; try first | exact h.elim | exact absurd rfl h | (exfalso; omega))) | (refine sg ?_ ?_ <;> (intro h; (fail_if_success (have : True := h)); try first | exact h.elim | exact absurd rfl h | (exfalso; omega))) | assumption | exact xm | exact rfl))
  rename_i n4 M1 hn4 e1 e2 n5 M2 hn5 e3 e4 n6 M3 hn6 e5 e6
  refine x_call (by exact gd) rfl rfl (show AppOk Tryz.prog _ _ M3 _ from c_passages (a := a) (b := b) M3) ?_
  rintro w M4 ⟨nc, na, nb, rfl, hg4, ac, aa, ab⟩
  have hg04 : Grow M M4 := xg
  have hle04 := hg04.le
  have hB : PsB M4 A s a b pc pm na nb nc := ⟨hC.grow hg04, ac, aa, ab⟩
  have hpm := hC.known.lt
  have hf := c_first_psg (gf := 130) (ca := [.ptr (some (nc, 0)), .ptr (some (na, 0)), .ptr (some (nb, 0))]) (Wr := fun i => i = pm) (Fin := fun M' => KnM M' s pm) (items := passL s a b) (M0 := M4)
    (fun M' hg => y_passages hB (hg.to_keep _) (hB.ch.known.at hg.le (hg.old _ hB.ch.known.lt)) hs ha hb) (fun i hi => by subst hi; omega) (fun M1 M2 h1 h2 h3 => h1.at h2 (h3 _ (by omega))) (fun x hx => by have := pass_pl hs ha.1 hb.1 hx; exact ⟨this.1, by omega⟩)
  refine x_call (by exact gd) rfl rfl (show AppOk Tryz.prog _ _ M4 _ from hf) ?_
  rintro w M5 ⟨hk5, hkn5, sl, c, rfl, hba⟩
  have hle5 := hk5.le
  have hk05 : Keep (fun i => i = pm) M M5 := (hg04.to_keep _).trans hk5 (fun i hi => .inl hi)
  have hle4 := hg4.le
  have a6 : At M5 n6 (.cells true [.slice none 0 true 0, I 0] 92) := ((At.new_same hn6).grow hg4).keep hk5 (by omega)
  rw [show (passL s a b).foldl addB none = bestF s a b from rfl] at hba ⊢
  cases hbf : bestF s a b with
  | none =>
    rw [hbf] at hba
    obtain ⟨rfl, rfl⟩ := hba
    (repeat' (first | (with_reducible intro _) | refine sv ?_ | (refine sc ?_ ?_ <;> (intro h; try first | exact h.elim | exact absurd rfl h | (exfalso; omega))) | (refine sg ?_ ?_ <;> (intro h; (fail_if_success (have : True := h)); try first | exact h.elim | exact absurd rfl h | (exfalso; omega))) | assumption | exact xm | exact rfl))
    ((with_reducible first | apply k_fun | apply k_fun_norm); exact rx)
    exact ⟨xk, by obtain ⟨L, z1, z2⟩ := hkn5; have := z1.2; exact ⟨L, xm, z2⟩, _, _, rfl, rfl, rfl⟩
  | some y =>
    rw [hbf] at hba
    obtain ⟨rfl, p, rfl, hp, ap⟩ := hba
    have hp : M4.next ≤ p := hp
    (repeat' (first | (with_reducible intro _) | refine sv ?_ | (refine sc ?_ ?_ <;> (intro h; try first | exact h.elim | exact absurd rfl h | (exfalso; omega))) | (refine sg ?_ ?_ <;> (intro h; (fail_if_success (have : True := h)); try first | exact h.elim | exact absurd rfl h | (exfalso; omega))) | assumption | exact xm | exact rfl))
    ((with_reducible first | apply k_fun | apply k_fun_norm); exact rx)
    exact ⟨xk, by obtain ⟨L, z1, z2⟩ := hkn5; have := z1.2; exact ⟨L, xm, z2⟩, _, _, rfl, rfl, p, rfl, by omega, xm⟩
/-- a list of places, in a block of its own, or none -/
abbrev PtV (b : Nat) (M : Mem) (v : LV) (l : List Pt) : Prop := Vec b 2 30 ptc M v l
set_option maxHeartbeats 4000000 in
theorem c_Passage {A : CrA} {s : Cr} {a b : Pose} {M : Mem} (hM : CrM M A s) :
    CallOk Tryz.prog 13 [crv A s, .agg (posc a), .agg (posc b)] M (fun v M' => Grow M M' ∧ ∃ sl, v = .tup [sl, I (PassageF s a b).1.2, I (PassageF s a b).2] ∧ PtV M.next M' sl (PassageF s a b).1.1) := by
  refine call_in k13 rfl ?_
  dsimp only [x13, zipE, Nat.reduceAdd]
  have hc := fun M' (hg : Grow M M') => c_chartOf (hM.grow hg)
  unfold PassageF
  (repeat' (first | (with_reducible intro _) | refine sv ?_ | (refine sc ?_ ?_ <;> (intro h; try first | exact h.elim | exact absurd rfl h | (exfalso; omega))) | ((with_reducible first | apply x_call | apply d_call | apply x_call0); exact gd; exact rfl; exact rfl; (first | exact hc _ (xg))) | (refine sg ?_ ?_ <;> (intro h; (fail_if_success (have : True := h)); try first | exact h.elim | exact absurd rfl h | (exfalso; omega))) | assumption | exact xm | exact rfl))
  rename_i n3 M1 hn3 e1 e2 n4 M2 hn4 e3 e4 n5 M3 hn5 e5 e6 w M4 hq
  obtain ⟨hg4, ⟨hno, rfl⟩ | ⟨hok, pc, pm, rfl, hch, h1, h2⟩⟩ := hq
  · have hle4 := hg4.le
    rw [if_neg hno]
    (repeat' (first | (with_reducible intro _) | refine sv ?_ | (refine sc ?_ ?_ <;> (intro h; try first | exact h.elim | exact absurd rfl h | (exfalso; omega))) | (refine sg ?_ ?_ <;> (intro h; (fail_if_success (have : True := h)); try first | exact h.elim | exact absurd rfl h | (exfalso; omega))) | assumption | exact xm | exact rfl))
    ((with_reducible first | apply k_fun | apply k_fun_norm); exact rx)
    exact ⟨xg, _, rfl, .nil⟩
  have hle4 := hg4.le
  rw [if_pos hok]
  have hv1 := c_valid a
  have hv2 := c_valid b
  by_cases hp : PoseOk a ∧ PoseOk b
  rotate_left
  · rw [if_neg hp]
    unfold PoseOk at hp
    (repeat' (first | (with_reducible intro _) | refine sv ?_ | (refine sc ?_ ?_ <;> (intro h; try first | exact h.elim | exact absurd rfl h | (exfalso; omega))) | ((with_reducible first | apply x_pure | apply d_pure); exact gd; exact rfl; exact rfl; (first | exact hv1 _ | exact hv2 _)) | (refine sg ?_ ?_ <;> (intro h; (fail_if_success (have : True := h)); try first | exact h.elim | exact absurd rfl h | (exfalso; omega))) | assumption | exact xm | exact rfl))
    all_goals first
      | (exact absurd ⟨by assumption, by assumption⟩ hp)
      | (((with_reducible first | apply k_fun | apply k_fun_norm); exact rx)
         exact ⟨xg, _, rfl, .nil⟩)
  rw [if_pos hp]
  have hp' := hp
  unfold PoseOk at hp'
  (repeat' (first | (with_reducible intro _) | refine sv ?_ | (refine sc ?_ ?_ <;> (intro h; try first | exact h.elim | exact absurd rfl h | (exfalso; omega))) | ((with_reducible first | apply x_pure | apply d_pure); exact gd; exact rfl; exact rfl; (first | exact hv1 _ | exact hv2 _)) | (refine sg ?_ ?_ <;> (intro h; (fail_if_success (have : True := h)); try first | exact h.elim | exact absurd rfl h | (exfalso; omega))) | assumption | exact xm | exact rfl))
  all_goals try (exact absurd hp'.1 (by assumption))
  all_goals try (exact absurd hp'.2 (by assumption))
  rename_i M5 hg5 hle5 hx4 M6 hg6 hle6
  have hg46 : Grow M4 M6 := hg5.trans hg6
  have hcb := c_best (hch.grow hg46) hok hp.1 hp.2
  clear hg46
  refine x_call (by exact gd) rfl rfl (show AppOk Tryz.prog _ _ M6 _ from hcb) ?_
  rintro w M7 ⟨hk7, hkn7, sl, c, rfl, hba⟩
  have hle7 := hk7.le
  have hkn7' := hkn7.lt
  cases hbf : bestF s a b with
  | none =>
    rw [hbf] at hba
    obtain ⟨rfl, rfl⟩ := hba
    (repeat' (first | (with_reducible intro _) | refine sv ?_ | (refine sc ?_ ?_ <;> (intro h; try first | exact h.elim | exact absurd rfl h | (exfalso; omega))) | (refine sg ?_ ?_ <;> (intro h; (fail_if_success (have : True := h)); try first | exact h.elim | exact absurd rfl h | (exfalso; omega))) | assumption | exact xm | exact rfl))
    ((with_reducible first | apply k_fun | apply k_fun_norm); exact rx)
    exact ⟨xg, _, rfl, .nil⟩
  | some y =>
    rw [hbf] at hba
    obtain ⟨rfl, p, rfl, hp, ap⟩ := hba
    have hp : M6.next ≤ p := hp
    have hpl := ap.2
    (repeat' (first | (with_reducible intro _) | refine sv ?_ | (refine sc ?_ ?_ <;> (intro h; try first | exact h.elim | exact absurd rfl h | (exfalso; omega))) | (refine sg ?_ ?_ <;> (intro h; (fail_if_success (have : True := h)); try first | exact h.elim | exact absurd rfl h | (exfalso; omega))) | assumption | exact xm | exact rfl))
    ((with_reducible first | apply k_fun | apply k_fun_norm); exact rx)
    refine ⟨xg, _, rfl, .inr ⟨p, rfl, ?_, by omega⟩⟩
    show At _ p (.cells true (y.1.flatMap ptc) 30)
    exact xm
end Go.Proofs.YtpccafeedfpbaaaGreat.C
end
section
open Go PvL Go.Proofs
set_option linter.unusedVariables false
set_option linter.unusedSimpArgs false
namespace Go.Proofs.YtpccafeedfpbaaaGreat.C
open Classical in
noncomputable def pricedF (s : Cr) (a b : Pose) (l : List Pt) : Option Int := if l.head? = some a.1 ∧ l.getLast? = some b.1 then costP s l a.2 b.2 else none
theorem c_Turned (a b : Int) (ha : 0 ≤ a ∧ a ≤ 7) (hb : 0 ≤ b ∧ b ≤ 7) (M : Mem) : CallOk Tryz.prog 49 [I a, I b] M (fun w M' => w = .tup [I (trnF a b), I 0] ∧ M' = M) := by
  refine call_in k49 rfl ?_
  dsimp only [x49, zipE, Nat.reduceAdd]
  (repeat' (first | (with_reducible intro _) | refine sv ?_ | (refine sc ?_ ?_ <;> (intro h; try first | exact h.elim | exact absurd rfl h | (exfalso; omega))) | ((with_reducible first | apply x_same | apply d_same); exact gd; exact rfl; exact rfl; (first | exact c_within _ _ _ _ | exact c_turned _ _ ha hb _)) | (refine sg ?_ ?_ <;> (intro h; (fail_if_success (have : True := h)); try first | exact h.elim | exact absurd rfl h | (exfalso; omega))) | assumption | exact xm | exact rfl))
  all_goals ((with_reducible first | apply k_fun | apply k_fun_norm); exact rx)
  all_goals exact ⟨rfl, rfl⟩
theorem askE_ok2 {s : Cr} {a b : Pt} (hc : CrOk s) (ha : PlP a) (hb : PlP b) : StepsF s a b = (stepsF s.speed a b, 0) ∧ ClearF s a b = (clearF s a b, 0) := by
  unfold StepsF ClearF; rw [askE_ok hc ha hb]; exact ⟨rfl, rfl⟩
set_option maxHeartbeats 16000000 in
theorem c_priced {A : CrA} {s : Cr} {a b : Pose} {i off : Nat} {f : Bool} {l : List Pt} {M : Mem} (hM : CrM M A s) (hs : CrOk s) (ha : PoseOk a) (hb : PoseOk b) (hl : ∀ k (hk : k < l.length), Rd M i (off + k * 2) 2 (ptc l[k])) (h0 : 0 < l.length) (hlen : l.length ≤ 100) (hpl : ∀ p ∈ l, PlP p) :
    CallOk Tryz.prog 27 [crv A s, .agg [I a.1.1, I a.1.2, I a.2], .agg [I b.1.1, I b.1.2, I b.2], .slice (some (i, off)) l.length f 2] M (fun v M' => v = .tup [I ((pricedF s a b l).getD 0), .bool (pricedF s a b l).isSome] ∧ Grow M M') := by
  have htn := hs.turn
  have hi := (hl 0 h0).2
  have hhead : l.head? = some l[0] := List.head?_eq_getElem? .. ▸ List.getElem?_eq_getElem h0
  have hlastq : l.getLast? = some (l[l.length - 1]'(by omega)) := by rw [List.getLast?_eq_getElem?, List.getElem?_eq_getElem (by omega)]
  have r0 := hl 0 h0
  have rL := hl (l.length - 1) (by omega)
  have rL' : Rd M i (off + ((l.length : Int) - 1).toNat * 2) 2 (ptc (l[l.length - 1]'(by omega))) := by rw [show ((l.length : Int) - 1).toNat = l.length - 1 by omega]; exact rL
  have r0' : Rd M i (off + (0 : Int).toNat * 2) 2 (ptc l[0]) := r0
  unfold pricedF
  rw [hhead, hlastq]
  refine call_in k27 rfl ?_
  dsimp only [x27, zipE, Nat.reduceAdd]
  by_cases hq : l[0] = a.1 ∧ l[l.length - 1]'(by omega) = b.1
  rotate_left
  · rw [if_neg (fun h => hq ⟨Option.some.inj h.1, Option.some.inj h.2⟩)]
    have hq' : ¬ ((l[0].1 = a.1.1 ∧ l[0].2 = a.1.2) ∧ (l[l.length - 1]'(by omega)).1 = b.1.1 ∧ (l[l.length - 1]'(by omega)).2 = b.1.2) := fun h => hq ⟨Prod.ext h.1.1 h.1.2, Prod.ext h.2.1 h.2.2⟩
    generalize l[0] = x0 at *
    generalize l[l.length - 1]'(by omega) = xL at *
    (have hrd0 := r0'; have hrd1 := rL'; repeat' (first | (with_reducible intro _) | refine sv ?_ | (refine sc ?_ ?_ <;> (intro h; try first | exact h.elim | exact absurd rfl h | (exfalso; omega))) | (refine sg ?_ ?_ <;> (intro h; (fail_if_success (have : True := h)); try first | exact h.elim | exact absurd rfl h | (exfalso; omega))) | assumption | exact xm | exact rfl))
    all_goals first
      | (exfalso; omega)
      | (((with_reducible first | apply k_fun | apply k_fun_norm); exact rx)
         exact ⟨rfl, xg⟩)
  rw [if_pos ⟨congrArg some hq.1, congrArg some hq.2⟩]
  have hq' : (l[0].1 = a.1.1 ∧ l[0].2 = a.1.2) ∧ (l[l.length - 1]'(by omega)).1 = b.1.1 ∧ (l[l.length - 1]'(by omega)).2 = b.1.2 := by rw [hq.1, hq.2]; exact ⟨⟨rfl, rfl⟩, rfl, rfl⟩
  (have hrd0 := r0'; have hrd1 := rL'; repeat' (first | (with_reducible intro _) | refine sv ?_ | (refine sc ?_ ?_ <;> (intro h; try first | exact h.elim | exact absurd rfl h | (exfalso; omega))) | (refine sg ?_ ?_ <;> (intro h; (fail_if_success (have : True := h)); try first | exact h.elim | exact absurd rfl h | (exfalso; omega))) | assumption | exact xm | exact rfl))
  all_goals try (exfalso; omega)
  rename_i n4 M1 hn4 e1 e2 n5 M2 hn5 e3 e4 n6 M3 hn6 e5 e6 hx1 hx2
  have hob := hb.2
  refine w_loop_ind (fun n E ms M' => ∃ (k : Nat) (c o1 : Int), n = l.length - k ∧ 1 ≤ k ∧ ∃ hk : k ≤ l.length, ms = [] ∧ Has E [(3, .slice (some (i, off)) l.length f 2), (4, .ptr (some (n4, 0))), (6, .ptr (some (n6, 0))), (10, I c), (11, I o1), (12, I k)] ∧ Grow M M' ∧ M3.next ≤ M'.next ∧ At M' n4 (.cells true (crc A s) 35) ∧ At M' n6 (.cells true [I b.1.1, I b.1.2, I b.2] 32) ∧
      (0 ≤ c ∧ c ≤ k * 100000) ∧ (0 ≤ o1 ∧ o1 ≤ 7) ∧ costP s l a.2 b.2 = (costL s b.2 (l[k - 1]'(by omega)) o1 (l.drop k)).map (fun n => c + n)) ?_ (l.length - 1) _ _ _
    ⟨1, 0, a.2, by omega, by omega, by omega, rfl, .cons rfl (.cons rfl (.cons rfl (.cons rfl (.cons rfl (.cons rfl .nil))))), xg, by omega, xm, xm, by omega, ha.2, by rw [costP_get h0]; simp⟩
  rintro n E ms M4 ⟨k, c, o1, rfl, hk1, hk, rfl, hE, hG, hle4, a4, a6, hc, ho1, hcost⟩
  have hle := hG.le
  refine w_has hE ?_
  by_cases hlast : k = l.length
  · subst hlast
    rw [List.drop_length] at hcost
    have hcost : costP s l a.2 b.2 = some (c + s.turn * trnF o1 b.2) := hcost
    have h4 := trnF_bd o1 b.2
    have h6 := mul_bd (a := s.turn) (b := trnF o1 b.2) (A := 1000) (B := 4) (by omega) (by omega)
    rw [hcost]
    (repeat' (first | (with_reducible intro _) | refine sv ?_ | (refine sc ?_ ?_ <;> (intro h; try first | exact h.elim | exact absurd rfl h | (exfalso; omega))) | ((with_reducible first | apply x_same | apply d_same); exact gd; exact rfl; exact rfl; (first | exact c_Turned _ _ ho1 hob _)) | (refine sg ?_ ?_ <;> (intro h; (fail_if_success (have : True := h)); try first | exact h.elim | exact absurd rfl h | (exfalso; omega))) | assumption | exact xm | exact rfl))
    all_goals ((with_reducible first | apply k_fun | apply k_fun_norm); exact rx)
    all_goals exact ⟨rfl, xg⟩
  have hlt : k < l.length := by omega
  have hlt1 : k - 1 < l.length := by omega
  have r1 := (hl k hlt).grow hG
  have rk := (hl (k - 1) hlt1).grow hG
  have p1 := hpl _ (List.getElem_mem hlt)
  have p0 := hpl _ (List.getElem_mem hlt1)
  have hdr := List.drop_eq_getElem_cons hlt
  rw [hdr] at hcost
  have rk' : Rd M4 i (off + ((k : Int) - 1).toNat * 2) 2 (ptc l[k - 1]) := by rw [show ((k : Int) - 1).toNat = k - 1 by omega]; exact rk
  clear hq hq' hx1 hx2 r0 rL rL' r0' hhead hlastq
  generalize hq0 : l[k - 1] = q0 at *
  generalize hq1 : l[k] = q1 at *
  have hcl : costL s b.2 q0 o1 (q1 :: l.drop (k + 1)) = if q0 ≠ q1 ∧ clearF s q0 q1 = true then (costL s b.2 q1 (octW q0 q1) (l.drop (k + 1))).map (fun n => stepsF s.speed q0 q1 + s.turn * trnF o1 (octW q0 q1) + n) else none := rfl
  rw [hcl] at hcost
  have hst := fun M' (hg : Grow M M') => c_Steps (a := q0) (b := q1) (hM.grow hg)
  have hcr := fun M' (hg : Grow M M') => c_Clear (a := q0) (b := q1) (hM.grow hg)
  rw [(askE_ok2 hs p0 p1).1] at hst
  rw [(askE_ok2 hs p0 p1).2] at hcr
  dsimp only at hst hcr
  have hsb := steps_bd hs.speed p0 p1
  have ho2 : 0 ≤ octW q0 q1 ∧ octW q0 q1 ≤ 7 := octF_bd _ _
  have h4 := trnF_bd o1 (octW q0 q1)
  have h6 := mul_bd (a := s.turn) (b := trnF o1 (octW q0 q1)) (A := 1000) (B := 4) (by omega) (by omega)
  have h7 : 0 ≤ s.turn * trnF o1 (octW q0 q1) := Int.mul_nonneg (by omega) (by omega)
  have hct := c_Turned o1 (octW q0 q1) ho1 ho2
  have hpp0 := p0
  have hpp1 := p1
  dsimp only [PlP, Pl] at p0 p1
  have hco := c_Octant (q1.1 - q0.1) (q1.2 - q0.2) (by omega) (by omega)
  rw [show octF (q1.1 - q0.1) (q1.2 - q0.2) = octW q0 q1 from rfl] at hco
  have hne : q0 ≠ q1 ∨ (q0.1 = q1.1 ∧ q0.2 = q1.2) := by
    by_cases h : q0 = q1
    · right; rw [h]; exact ⟨rfl, rfl⟩
    · exact .inl h
  have hne2 : q0 ≠ q1 → ¬ (q1.1 = q0.1 ∧ q1.2 = q0.2) := fun h h' => h (Prod.ext h'.1.symm h'.2.symm)
  cases hcv : clearF s q0 q1 with
  | false =>
    rw [if_neg (by rw [hcv]; simp)] at hcost
    have hcost : costP s l a.2 b.2 = none := hcost
    rw [hcv] at hcr
    rw [hcost]
    generalize octW q0 q1 = oc at *
    generalize stepsF s.speed q0 q1 = sp at *
    (have hrd0 := rk'; have hrd1 := r1; have hrd2 := rk'.nth (j := 0) rfl; have hrd3 := rk'.nth (j := 1) rfl; have hrd4 := r1.nth (j := 0) rfl; have hrd5 := r1.nth (j := 1) rfl; repeat' (first | (with_reducible intro _) | refine sv ?_ | (refine sc ?_ ?_ <;> (intro h; try first | exact h.elim | exact absurd rfl h | (exfalso; omega))) | ((with_reducible first | apply x_same | apply d_same); exact gd; exact rfl; exact rfl; (first | exact hct _)) | ((with_reducible first | apply x_pure | apply d_pure); exact gd; exact rfl; exact rfl; (first | exact hco _ | exact hst _ (xg) | exact hcr _ (xg))) | (refine sg ?_ ?_ <;> (intro h; (fail_if_success (have : True := h)); try first | exact h.elim | exact absurd rfl h | (exfalso; omega))) | assumption | exact xm | exact rfl))
    all_goals (((with_reducible first | apply k_fun | apply k_fun_norm); exact rx); exact ⟨rfl, xg⟩)
  | true =>
    rw [hcv] at hcr
    rcases hne with hne | hne
    · rw [if_pos ⟨hne, hcv⟩] at hcost
      have hne3 := hne2 hne
      generalize octW q0 q1 = oc at *
      generalize stepsF s.speed q0 q1 = sp at *
      (have hrd0 := rk'; have hrd1 := r1; have hrd2 := rk'.nth (j := 0) rfl; have hrd3 := rk'.nth (j := 1) rfl; have hrd4 := r1.nth (j := 0) rfl; have hrd5 := r1.nth (j := 1) rfl; repeat' (first | (with_reducible intro _) | refine sv ?_ | (refine sc ?_ ?_ <;> (intro h; try first | exact h.elim | exact absurd rfl h | (exfalso; omega))) | ((with_reducible first | apply x_same | apply d_same); exact gd; exact rfl; exact rfl; (first | exact hct _)) | ((with_reducible first | apply x_pure | apply d_pure); exact gd; exact rfl; exact rfl; (first | exact hco _ | exact hst _ (xg) | exact hcr _ (xg))) | (refine sg ?_ ?_ <;> (intro h; (fail_if_success (have : True := h)); try first | exact h.elim | exact absurd rfl h | (exfalso; omega))) | assumption | exact xm | exact rfl))
      all_goals try (exfalso; omega)
      refine k_step (l.length - (k + 1)) (by omega) ⟨k + 1, c + sp + s.turn * trnF o1 oc, oc, rfl, by omega, by omega, rfl, .cons rfl (.cons rfl (.cons rfl (.cons rfl (.cons rfl (.cons rfl .nil))))), xg, by omega, xm, xm, by omega, ho2, ?_⟩
      rw [hcost, show l[k + 1 - 1]'(by omega) = q1 from hq1]
      cases costL s b.2 q1 oc (l.drop (k + 1)) with
      | none => rfl
      | some m =>
        show some (c + (sp + s.turn * trnF o1 oc + m)) = some (c + sp + s.turn * trnF o1 oc + m)
        rw [show c + (sp + s.turn * trnF o1 oc + m) = c + sp + s.turn * trnF o1 oc + m by omega]
    · rw [if_neg (fun h => h.1 (Prod.ext hne.1 hne.2))] at hcost
      have hcost : costP s l a.2 b.2 = none := hcost
      rw [hcost]
      generalize octW q0 q1 = oc at *
      generalize stepsF s.speed q0 q1 = sp at *
      (have hrd0 := rk'; have hrd1 := r1; have hrd2 := rk'.nth (j := 0) rfl; have hrd3 := rk'.nth (j := 1) rfl; have hrd4 := r1.nth (j := 0) rfl; have hrd5 := r1.nth (j := 1) rfl; repeat' (first | (with_reducible intro _) | refine sv ?_ | (refine sc ?_ ?_ <;> (intro h; try first | exact h.elim | exact absurd rfl h | (exfalso; omega))) | ((with_reducible first | apply x_same | apply d_same); exact gd; exact rfl; exact rfl; (first | exact hct _)) | ((with_reducible first | apply x_pure | apply d_pure); exact gd; exact rfl; exact rfl; (first | exact hco _ | exact hst _ (xg) | exact hcr _ (xg))) | (refine sg ?_ ?_ <;> (intro h; (fail_if_success (have : True := h)); try first | exact h.elim | exact absurd rfl h | (exfalso; omega))) | assumption | exact xm | exact rfl))
      all_goals try (exfalso; omega)
      all_goals (((with_reducible first | apply k_fun | apply k_fun_norm); exact rx); exact ⟨rfl, xg⟩)
end Go.Proofs.YtpccafeedfpbaaaGreat.C
end
section
open Go PvL Go.Proofs
set_option linter.unusedVariables false
set_option linter.unusedSimpArgs false
namespace Go.Proofs.YtpccafeedfpbaaaGreat.C
def restF (x m : Int) : Int := if x.tmod m < 0 then x.tmod m + m else x.tmod m
theorem restF_bd {x m : Int} (hm : 1 ≤ m) : 0 ≤ restF x m ∧ restF x m < m := by
  have h1 := Int.lt_tmod_of_pos x (b := m) (by omega)
  have h2 := Int.tmod_lt_of_pos x (b := m) (by omega)
  unfold restF
  split <;> omega
theorem c_RestM (x m : Int) (hm : 1 ≤ m ∧ m ≤ 1000000000000000) (M : Mem) : CallOk Tryz.prog 28 [I x, I m] M (fun w M' => w = I (restF x m) ∧ M' = M) := by
  have h1 := Int.lt_tmod_of_pos x (b := m) (by omega)
  have h2 := Int.tmod_lt_of_pos x (b := m) (by omega)
  refine call_in k28 rfl ?_
  dsimp only [x28, zipE, Nat.reduceAdd]
  (repeat' (first | (with_reducible intro _) | refine sv ?_ | (refine sc ?_ ?_ <;> (intro h; try first | exact h.elim | exact absurd rfl h | (exfalso; omega))) | (refine sg ?_ ?_ <;> (intro h; (fail_if_success (have : True := h)); try first | exact h.elim | exact absurd rfl h | (exfalso; omega))) | assumption | exact xm | exact rfl))
  all_goals ((with_reducible first | apply k_fun | apply k_fun_norm); exact rx)
  all_goals refine ⟨?_, rfl⟩
  all_goals unfold restF
  · rw [if_pos (by omega)]; rfl
  · rw [if_neg (by omega)]; rfl
/-- a list in a block of its own, full or not -/
def Own {α : Type} (b sz : Nat) (ty : TypeId) (enc : α → List LV) (M : Mem) (v : LV) (l : List α) : Prop := ∃ i f, v = .slice (some (i, 0)) l.length f sz ∧ At M i (.cells true (l.flatMap enc) ty) ∧ b ≤ i
theorem Own.app {α : Type} {b sz : Nat} {ty : TypeId} {enc : α → List LV} {M : Mem} {v : LV} {l : List α} {P : Program} [Orc P] {E : Env} {s x : XO} {by' : Nat} {z : List LV} {l' : List α} {xv : LV} (h : Own b sz ty enc M v l) (hs : xval E s = some v) (hx : xval E x = some xv) (hn : lenOfL xv = some l'.length) (h0 : 0 < l'.length)
    (hb : (2 * (l.length + l'.length) + 2048) * by' ≤ 140737488355328) (hz : (Nat.ble 1 sz && (Nat.ble 1 by' && Nat.beq z.length sz)) = true) (hw : firstL sz l'.length xv M = some (l'.flatMap enc))
    (henc : ∀ x, (enc x).length = sz) (hfl : ∀ x, allFlat (enc x) = true) (hbM : b ≤ M.next) :
    ∃ v' M', xstep P (.app ty sz by' z s x) E M = some (.val v' M') ∧ Own b sz ty enc M' v' (l ++ l') ∧ M'.next = M.next + 1 ∧ Keep (fun i => b ≤ i ∧ ∃ o n f e, v = .slice (some (i, o)) n f e) M M' := by
  have hf := allFlat_flatMap (l := l') (enc := enc) (fun x _ => hfl x)
  obtain ⟨i, f, rfl, h2, h3⟩ := h
  have ho : firstL sz l.length (.slice (some (i, 0)) l.length f sz) M = some (l.flatMap enc) := by
    rw [firstL_slice h2 (by rw [flatMap_len (fun x _ => henc x)]; omega), List.drop_zero, List.take_of_length_le (by rw [flatMap_len (fun x _ => henc x)]; omega)]
  cases f with
  | true =>
    refine ⟨_, _, xs_app_new hs hx hn h0 hb hz ho hw hf (.inr rfl), ⟨M.next, false, by rw [List.length_append], ?_, hbM⟩, rfl, ?_⟩
    · rw [List.flatMap_append]; exact ⟨by rw [Mem.get_push, if_pos rfl], Nat.lt_succ_self _⟩
    · have hN : New M M.next (.cells true (l.flatMap enc ++ l'.flatMap enc) ty) (M.push (.cells true (l.flatMap enc ++ l'.flatMap enc) ty)) := ⟨rfl, rfl⟩
      exact hN.grow.to_keep _
  | false =>
    have hK : Kill M i M.next (.cells true (l.flatMap enc ++ l'.flatMap enc) ty) ((M.upd i none).push (.cells true (l.flatMap enc ++ l'.flatMap enc) ty)) := ⟨rfl, rfl⟩
    refine ⟨_, _, xs_app_kill hs hx hn h0 hb hz ho hw hf h2, ⟨M.next, false, by rw [List.length_append], ?_, hbM⟩, hK.next, hK.keep.weaken fun j hj => ?_⟩
    · rw [List.flatMap_append]; exact hK.same
    · subst hj; exact ⟨h3, _, _, _, _, rfl⟩
section
variable {α : Type} {b q : Nat} {ty : TypeId} {enc : α → List LV} {M : Mem} {v : LV} {l l' : List α} {P : Program} [Orc P] {sz : Nat} {E : Env} {K : Env → Mem → Prop} {ll : List XG} {d : Nat} {g : Option (Nat × Bool)} {s x : XO} {st : List Mem} {k : Nat} {xs : List (Nat × Nat × (Mem → Prop))} {ld : List (XG × XK)} {by' : Nat} {z : List LV} {xv : LV}
theorem x_own_app (hg : GOn E g) (hv : Own b q ty enc M v l) (hs : xval E s = some v) (hx : xval E x = some xv) (hn : lenOfL xv = some l'.length) (h0 : 0 < l'.length) (hb : (2 * (l.length + l'.length) + 2048) * by' ≤ 140737488355328) (hz : (Nat.ble 1 q && (Nat.ble 1 by' && Nat.beq z.length q)) = true) (hw : firstL q l'.length xv M = some (l'.flatMap enc))
    (henc : ∀ x, (enc x).length = q) (hfl : ∀ x, allFlat (enc x) = true) (hbM : b ≤ M.next) (hk : ∀ v' M', Own b q ty enc M' v' (l ++ l') → M'.next = M.next + 1 → Keep (fun i => b ≤ i ∧ ∃ o n f e, v = .slice (some (i, o)) n f e) M M' → XW P sz ll ((d, v') :: E) M' K) : XW P sz (⟨some d, .app ty q by' z s x, g⟩ :: ll) E M K := by
  obtain ⟨v', M', h1, h2, h3, h4⟩ := hv.app (P := P) hs hx hn h0 hb hz hw henc hfl hbM
  exact x_gen hg h1 (hk v' M' h2 h3 h4)
theorem d_own_app (hg : GOn E g) (hv : Own b q ty enc M v l) (hs : xval E s = some v) (hx : xval E x = some xv) (hn : lenOfL xv = some l'.length) (h0 : 0 < l'.length) (hb : (2 * (l.length + l'.length) + 2048) * by' ≤ 140737488355328) (hz : (Nat.ble 1 q && (Nat.ble 1 by' && Nat.beq z.length q)) = true) (hw : firstL q l'.length xv M = some (l'.flatMap enc))
    (henc : ∀ x, (enc x).length = q) (hfl : ∀ x, allFlat (enc x) = true) (hbM : b ≤ M.next) (hk : ∀ v' M', Own b q ty enc M' v' (l ++ l') → M'.next = M.next + 1 → Keep (fun i => b ≤ i ∧ ∃ o n f e, v = .slice (some (i, o)) n f e) M M' → XD P sz ld ((d, v') :: E) M' (M' :: st) (k + 1) xs K) : XD P sz ((⟨some d, .app ty q by' z s x, g⟩, .anchor) :: ld) E M st k xs K := by
  obtain ⟨v', M', h1, h2, h3, h4⟩ := hv.app (P := P) hs hx hn h0 hb hz hw henc hfl hbM
  exact d_anch hg h1 (hk v' M' h2 h3 h4)
theorem x_vec_app (hg : GOn E g) (hv : Vec b q ty enc M v l) (hs : xval E s = some v) (hx : xval E x = some xv) (hn : lenOfL xv = some l'.length) (h0 : 0 < l'.length) (hb : (2 * (l.length + l'.length) + 2048) * by' ≤ 140737488355328) (hz : (Nat.ble 1 q && (Nat.ble 1 by' && Nat.beq z.length q)) = true) (hw : firstL q l'.length xv M = some (l'.flatMap enc))
    (henc : ∀ x, (enc x).length = q) (hfl : ∀ x, allFlat (enc x) = true) (hbM : b ≤ M.next) (hk : ∀ v' M', Vec b q ty enc M' v' (l ++ l') → M'.next = M.next + 1 → Keep (fun i => b ≤ i ∧ ∃ o n f e, v = .slice (some (i, o)) n f e) M M' → XW P sz ll ((d, v') :: E) M' K) : XW P sz (⟨some d, .app ty q by' z s x, g⟩ :: ll) E M K := by
  obtain ⟨v', M', h1, h2, h3, h4⟩ := hv.app (P := P) hs hx hn h0 hb hz hw henc hfl hbM
  exact x_gen hg h1 (hk v' M' h2 h3 h4)
theorem d_vec_app (hg : GOn E g) (hv : Vec b q ty enc M v l) (hs : xval E s = some v) (hx : xval E x = some xv) (hn : lenOfL xv = some l'.length) (h0 : 0 < l'.length) (hb : (2 * (l.length + l'.length) + 2048) * by' ≤ 140737488355328) (hz : (Nat.ble 1 q && (Nat.ble 1 by' && Nat.beq z.length q)) = true) (hw : firstL q l'.length xv M = some (l'.flatMap enc))
    (henc : ∀ x, (enc x).length = q) (hfl : ∀ x, allFlat (enc x) = true) (hbM : b ≤ M.next) (hk : ∀ v' M', Vec b q ty enc M' v' (l ++ l') → M'.next = M.next + 1 → Keep (fun i => b ≤ i ∧ ∃ o n f e, v = .slice (some (i, o)) n f e) M M' → XD P sz ld ((d, v') :: E) M' (M' :: st) (k + 1) xs K) : XD P sz ((⟨some d, .app ty q by' z s x, g⟩, .anchor) :: ld) E M st k xs K := by
  obtain ⟨v', M', h1, h2, h3, h4⟩ := hv.app (P := P) hs hx hn h0 hb hz hw henc hfl hbM
  exact d_anch hg h1 (hk v' M' h2 h3 h4)
end
theorem Vec.keep_ne {α : Type} {b q : Nat} {ty : TypeId} {enc : α → List LV} {M M' : Mem} {v : LV} {l : List α} {F : Nat → Prop} (h : Vec b q ty enc M v l) (hk : Keep F M M') (hF : ∀ i, At M i (.cells true (l.flatMap enc) ty) → ¬ F i) : Vec b q ty enc M' v l :=
  h.imp id fun ⟨i, h1, h2, h3⟩ => ⟨i, h1, h2.keep hk (hF i h2), h3⟩
theorem at_ty {M : Mem} {i : Nat} {o o' : Bool} {c c' : List LV} {t t' : TypeId} (h : At M i (.cells o c t)) (h' : At M i (.cells o' c' t')) : t = t' := by
  have := h.1.symm.trans h'.1
  cases this; rfl
theorem byB_app {s : Cr} {u : List Nat} {k : Nat} (hk : k < s.buoys.length) (a : Pt) : [a] ++ byB s (u ++ [k]) = [a] ++ byB s u ++ [s.buoys[k]] := by
  unfold byB
  rw [List.map_append, List.append_assoc, List.map_singleton, getD_eq hk]
abbrev intc (n : Nat) : List LV := [I n]
theorem c_Index {b : Nat} {ty : TypeId} {v : LV} {l : List Nat} {k : Nat} {M : Mem} (hv : Vec b 1 ty intc M v l) (hlen : l.length ≤ 1000) : CallOk Tryz.prog 29 [v, I k] M (fun w M' => M' = M ∧ ∃ r : Int, w = I r ∧ (0 ≤ r ↔ k ∈ l) ∧ -1 ≤ r) := by
  obtain ⟨a, f, e, rfl, hr⟩ := hv.rd (fun x _ => rfl)
  refine call_in k29 rfl ?_
  dsimp only [x29, zipE, Nat.reduceAdd]
  (repeat' (first | (with_reducible intro _) | refine sv ?_ | (refine sc ?_ ?_ <;> (intro h; try first | exact h.elim | exact absurd rfl h | (exfalso; omega))) | (refine sg ?_ ?_ <;> (intro h; (fail_if_success (have : True := h)); try first | exact h.elim | exact absurd rfl h | (exfalso; omega))) | assumption | exact xm | exact rfl))
  refine w_loop_ind (fun n E ms M' => ∃ j : Nat, n = l.length - j ∧ j ≤ l.length ∧ ms = [] ∧ Has E [(0, .slice a l.length f e), (1, I k), (5, I j)] ∧ M' = M ∧ ∀ i (hi : i < l.length), i < j → l[i] ≠ k) ?_ l.length _ _ _
    ⟨0, by omega, by omega, rfl, .cons rfl (.cons rfl (.cons rfl .nil)), rfl, fun i _ h => absurd h (Nat.not_lt_zero _)⟩
  rintro n E ms M1 ⟨j, rfl, hj, rfl, hE, rfl, hall⟩
  refine w_has hE ?_
  by_cases hlast : j = l.length
  · subst hlast
    (repeat' (first | (with_reducible intro _) | refine sv ?_ | (refine sc ?_ ?_ <;> (intro h; try first | exact h.elim | exact absurd rfl h | (exfalso; omega))) | (refine sg ?_ ?_ <;> (intro h; (fail_if_success (have : True := h)); try first | exact h.elim | exact absurd rfl h | (exfalso; omega))) | assumption | exact xm | exact rfl))
    ((with_reducible first | apply k_fun | apply k_fun_norm); exact rx)
    refine ⟨rfl, -1, rfl, ⟨fun h => by omega, fun h => ?_⟩, by omega⟩
    obtain ⟨i, hi, e⟩ := List.getElem_of_mem h
    exact absurd e (hall i hi hi)
  have hlt : j < l.length := by omega
  obtain ⟨i, o, rfl, hr2⟩ := hr.resolve_left (fun h => by rw [h] at hlt; simp at hlt)
  have r1 : Rd1 M1 i (o + j * 1) (I l[j]) := (hr2 j hlt).nth (j := 0) rfl
  have hmem : l[j] ∈ l := List.getElem_mem hlt
  by_cases hq : l[j] = k
  · rw [hq] at hmem r1
    (have hrd0 := r1; repeat' (first | (with_reducible intro _) | refine sv ?_ | (refine sc ?_ ?_ <;> (intro h; try first | exact h.elim | exact absurd rfl h | (exfalso; omega))) | (refine sg ?_ ?_ <;> (intro h; (fail_if_success (have : True := h)); try first | exact h.elim | exact absurd rfl h | (exfalso; omega))) | assumption | exact xm | exact rfl))
    all_goals try (exfalso; omega)
    ((with_reducible first | apply k_fun | apply k_fun_norm); exact rx)
    exact ⟨rfl, j, rfl, ⟨fun _ => hmem, fun _ => by omega⟩, by omega⟩
  · have hq' : ¬ (l[j] : Int) = k := by omega
    have hq2 := hq
    generalize hx : l[j] = x at *
    (have hrd0 := r1; repeat' (first | (with_reducible intro _) | refine sv ?_ | (refine sc ?_ ?_ <;> (intro h; try first | exact h.elim | exact absurd rfl h | (exfalso; omega))) | (refine sg ?_ ?_ <;> (intro h; (fail_if_success (have : True := h)); try first | exact h.elim | exact absurd rfl h | (exfalso; omega))) | assumption | exact xm | exact rfl))
    all_goals try (exfalso; omega)
    refine k_step (l.length - (j + 1)) (by omega) ⟨j + 1, rfl, by omega, rfl, .cons rfl (.cons rfl (.cons rfl .nil)), rfl, fun i hi h => ?_⟩
    by_cases hij : i = j
    · subst hij; rw [hx]; exact hq2
    · exact hall i hi (by omega)
/-! the buoys that numbers choose -/
def byStep (s : Cr) (u : List Nat) (x : Int) : List Nat := if (restF x 4).toNat < s.buoys.length ∧ (restF x 4).toNat ∉ u then u ++ [(restF x 4).toNat] else u
structure UsOk (s : Cr) (u : List Nat) : Prop where
  nd : u.Nodup
  lt : ∀ k ∈ u, k < s.buoys.length
theorem UsOk.step {s : Cr} {u : List Nat} (h : UsOk s u) (x : Int) : UsOk s (byStep s u x) := by
  unfold byStep
  split
  · rename_i hc
    refine ⟨List.nodup_append.2 ⟨h.nd, List.nodup_cons.2 ⟨List.not_mem_nil, List.nodup_nil⟩, fun a ha b hb => ?_⟩, fun k hk => ?_⟩
    · obtain rfl := List.mem_singleton.1 hb
      rintro rfl; exact hc.2 ha
    · rcases List.mem_append.1 hk with hk | hk
      · exact h.lt k hk
      · obtain rfl := List.mem_singleton.1 hk; exact hc.1
  · exact h
theorem UsOk.le {s : Cr} {u : List Nat} (h : UsOk s u) (hs : CrOk s) : u.length ≤ 4 := by
  have := nodup_lt _ _ h.nd h.lt
  have := hs.nb
  omega
theorem take_foldl {α β : Type} {f : β → α → β} {b : β} {l : List α} {k : Nat} (hk : k < l.length) : (l.take (k + 1)).foldl f b = f ((l.take k).foldl f b) l[k] := by
  rw [List.take_succ_eq_append_getElem hk, List.foldl_append]; rfl
end Go.Proofs.YtpccafeedfpbaaaGreat.C
end
