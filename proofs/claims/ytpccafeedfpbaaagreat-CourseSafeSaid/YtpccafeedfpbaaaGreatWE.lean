/-
  Part of the proof of CourseSafe: what functions of the program and of the statement come to, walked by the rules. No condition beyond those in each theorem.
-/
import Derived.Test.YtpccafeedfpbaaaGreatSA
import Derived.Test.YtpccafeedfpbaaaGreatPvE
import Derived.Test.YtpccafeedfpbaaaGreatWA
import Derived.Test.YtpccafeedfpbaaaGreatWD
section
open Go PvL
set_option linter.unusedVariables false
namespace Go.Proofs.YtpccafeedfpbaaaGreat.C
abbrev ptSh : Sh := .pair (.int .i64) (.int .i64)
abbrev legSh : Sh := .pair ptSh ptSh
abbrev rgSh : Sh := .pair ptSh (.pair ptSh (.pair ptSh ptSh))
abbrev poseSh : Sh := .pair ptSh (.int .i64)
abbrev crSh : Sh := .pair (.sl legSh) (.pair (.sl (.sl ptSh)) (.pair (.sl ptSh) (.pair rgSh (.pair poseSh (.pair (.int .i64) (.pair (.int .i64) (.sl (.sl ptSh))))))))
def toCr (x : crSh.T) : Cr := ⟨x.1, x.2.1, x.2.2.1, x.2.2.2.1, x.2.2.2.2.1, x.2.2.2.2.2.1, x.2.2.2.2.2.2.1, x.2.2.2.2.2.2.2⟩
theorem enc_int {m : Mem} {x : Int} {c : List LV} (h : Enc m (.int .i64) x c) : c = [I x] := h.1
theorem enc_pt {m : Mem} {x : ptSh.T} {c : List LV} (h : Enc m ptSh x c) : c = [I x.1, I x.2] := by
  obtain ⟨c1, d1, rfl, h1, h2⟩ := h
  rw [enc_int h1, enc_int h2]; rfl
theorem enc_leg {m : Mem} {x : legSh.T} {c : List LV} (h : Enc m legSh x c) : c = legc x := by
  obtain ⟨c1, d1, rfl, h1, h2⟩ := h
  rw [enc_pt h1, enc_pt h2]; rfl
theorem enc_rg {m : Mem} {x : rgSh.T} {c : List LV} (h : Enc m rgSh x c) : c = rgc x := by
  obtain ⟨c1, d1, rfl, h1, c2, d2, rfl, h2, c3, d3, rfl, h3, h4⟩ := h
  rw [enc_pt h1, enc_pt h2, enc_pt h3, enc_pt h4]; rfl
theorem enc_pose {m : Mem} {x : poseSh.T} {c : List LV} (h : Enc m poseSh x c) : c = [I x.1.1, I x.1.2, I x.2] := by
  obtain ⟨c1, d1, rfl, h1, h2⟩ := h
  rw [enc_pt h1, enc_int h2]; rfl
theorem enc_slA {m : Mem} {e : Sh} {enc : e.T → List LV} (he : ∀ x c, Enc m e x c → c = enc x) {l : List e.T} {cs : List LV} (h : Enc m (.sl e) l cs) : ∃ a f, cs = [.slice a l.length f e.size] ∧ SlA e.size enc m a l ∧ l.length ≤ reachBytes := by
  obtain ⟨a, f, h1, h2, h3⟩ := h
  refine ⟨a, f, h1, ?_, h2⟩
  by_cases hl : l = []
  · exact .inl hl
  · obtain ⟨i, o, g1, g2, _, g3⟩ := h3 hl
    refine .inr ⟨i, o, g1, fun k hk => ?_⟩
    obtain ⟨c, g4, g5⟩ := g3 k hk
    rw [he _ _ g5] at g4
    exact ⟨g4, g2⟩
theorem max_le : reachBytes ≤ 1000000000000000 := by decide
theorem enc_slL {m : Mem} {e : Sh} {enc : e.T → List LV} (he : ∀ x c, Enc m e x c → c = enc x) {l : List (List e.T)} {cs : List LV} (h : Enc m (.sl (.sl e)) l cs) : ∃ a f, cs = [.slice a l.length f 1] ∧ SlL e.size enc m a l ∧ l.length ≤ reachBytes := by
  obtain ⟨a, f, h1, h2, h3⟩ := h
  refine ⟨a, f, h1, ?_, h2⟩
  by_cases hl : l = []
  · exact .inl hl
  · obtain ⟨i, o, g1, g2, _, g3⟩ := h3 hl
    refine .inr ⟨i, o, g1, fun k hk => ?_⟩
    obtain ⟨c, g4, g5⟩ := g3 k hk
    obtain ⟨a', f', rfl, k2, k3⟩ := enc_slA he g5
    refine ⟨a', f', ⟨?_, g2⟩, k2, Nat.le_trans k3 max_le⟩
    have g4 : loadN m i (o + k * 1) 1 = some [.slice a' l[k].length f' e.size] := g4
    unfold loadN atCells at g4
    unfold load1 atCells
    obtain ⟨lb, q1, q2⟩ := ob_eq.1 g4
    rw [q1, ob_some]
    cases lb with
    | cells own cs ty =>
      obtain ⟨q3, q4⟩ := take'_eq.1 (show take' 1 (drop' (o + k * 1) cs) = _ from q2)
      show nth cs (o + k * 1) = _
      rw [drop'_eq] at q4
      rw [nth_eq]
      have : (cs.drop (o + k * 1)).take 1 = [.slice a' l[k].length f' e.size] := q4.symm
      have h0 : ((cs.drop (o + k * 1)).take 1)[0]? = some (.slice a' l[k].length f' e.size) := by rw [this]; rfl
      rw [List.getElem?_take_of_lt (by omega), List.getElem?_drop] at h0
      exact h0
    | _ => cases q2
theorem enc_cr {m : Mem} {x : crSh.T} {cs : List LV} (h : Enc m crSh x cs) : ∃ A, cs = crc A (toCr x) ∧ CrM m A (toCr x) := by
  obtain ⟨c1, d1, rfl, h1, c2, d2, rfl, h2, c3, d3, rfl, h3, c4, d4, rfl, h4, c5, d5, rfl, h5, c6, d6, rfl, h6, c7, d7, rfl, h7, h8⟩ := h
  obtain ⟨aL, fL, rfl, k1, k1'⟩ := enc_slA (enc := legc) (fun _ _ => enc_leg) h1
  obtain ⟨aF, fF, rfl, k2, k2'⟩ := enc_slL (enc := ptc) (fun _ _ => enc_pt) h2
  obtain ⟨aB, fB, rfl, k3, k3'⟩ := enc_slA (enc := ptc) (fun _ _ => enc_pt) h3
  obtain ⟨aO, fO, rfl, k8, k8'⟩ := enc_slL (enc := bdc) (fun _ _ => enc_pt) h8
  rw [enc_rg h4, enc_pose h5, enc_int h6, enc_int h7]
  exact ⟨⟨aL, fL, aF, fF, aB, fB, aO, fO⟩, rfl, ⟨k1, k2, k3, k8, Nat.le_trans k1' max_le, Nat.le_trans k2' max_le, Nat.le_trans k3' max_le, Nat.le_trans k8' max_le⟩⟩
end Go.Proofs.YtpccafeedfpbaaaGreat.C
end
section
open Go PvL
set_option linter.unusedVariables false
namespace Go.Proofs.YtpccafeedfpbaaaGreat.C
theorem enc_3pt {m : Mem} {x : (Sh.pair ptSh (.pair ptSh ptSh)).T} {c : List LV} (h : Enc m (.pair ptSh (.pair ptSh ptSh)) x c) : c = [I x.1.1, I x.1.2, I x.2.1.1, I x.2.1.2, I x.2.2.1, I x.2.2.2] := by
  obtain ⟨c1, d1, rfl, h1, c2, d2, rfl, h2, h3⟩ := h
  rw [enc_pt h1, enc_pt h2, enc_pt h3]; rfl
theorem enc_2pose {m : Mem} {x : (Sh.pair poseSh poseSh).T} {c : List LV} (h : Enc m (.pair poseSh poseSh) x c) : c = [I x.1.1.1, I x.1.1.2, I x.1.2, I x.2.1.1, I x.2.1.2, I x.2.2] := by
  obtain ⟨c1, d1, rfl, h1, h2⟩ := h
  rw [enc_pose h1, enc_pose h2]; rfl
end Go.Proofs.YtpccafeedfpbaaaGreat.C
end
section
open Go PvL Go.Proofs
set_option linter.unusedVariables false
set_option linter.unusedSimpArgs false
namespace Go.Proofs.YtpccafeedfpbaaaGreat.C
theorem c_cut (a a' b b' : Int) (M : Mem) : CallOk Tryz.prog 91 [.agg [I a, I a'], .agg [I b, I b']] M (fun w M' => w = .agg [I (iMax a b), I (iMin a' b')] ∧ Grow M M') := by
  refine call_in k91 rfl ?_
  dsimp only [x91, zipE, Nat.reduceAdd]
  (repeat' (first | (with_reducible intro _) | refine sv ?_ | (refine sc ?_ ?_ <;> (intro h; try first | exact h.elim | exact absurd rfl h | (exfalso; omega))) | (refine sg ?_ ?_ <;> (intro h; (fail_if_success (have : True := h)); try first | exact h.elim | exact absurd rfl h | (exfalso; omega))) | assumption | exact xm | exact rfl))
  ((with_reducible first | apply k_fun | apply k_fun_norm); exact rx)
  exact ⟨rfl, xg⟩
theorem c_combined_cut (r q : Rg) (M : Mem) : CallOk Tryz.prog 89 [rgv r, rgv q, .func (.func 91) [] []] M (fun w M' => w = rgv (map4 meetB r q) ∧ Grow M M') := by
  refine call_in k89 rfl ?_
  dsimp only [x89, zipE, Nat.reduceAdd]
  (repeat' (first | (with_reducible intro _) | refine sv ?_ | refine su ?_ | (refine sc ?_ ?_ <;> (intro h; try first | exact h.elim | exact absurd rfl h | (exfalso; omega))) | ((with_reducible first | apply x_pure | apply d_pure); exact gd; exact rfl; exact rfl; (first | exact c_cut _ _ _ _ _)) | (refine sg ?_ ?_ <;> (intro h; (fail_if_success (have : True := h)); try first | exact h.elim | exact absurd rfl h | (exfalso; omega))) | assumption | exact xm | exact rfl))
  ((with_reducible first | apply k_fun | apply k_fun_norm); exact rx)
  exact ⟨rfl, xg⟩
theorem meet_sm {B : Int} {a b : Rg} (ha : Sm B a) (hb : Sm B b) : Sm B (map4 meetB a b) := by
  unfold Sm at *
  unfold map4 meetB iMax iMin
  dsimp only
  omega
end Go.Proofs.YtpccafeedfpbaaaGreat.C
end
section
open Go PvL Go.Proofs
set_option linter.unusedVariables false
set_option linter.unusedSimpArgs false
namespace Go.Proofs.YtpccafeedfpbaaaGreat.C
theorem c_works (M : Mem) : CallOk Tryz.prog 16 [] M (fun w M' => w = .bool true ∧ M' = M) := ⟨_, _, om_ask rfl M, rfl, rfl⟩
theorem askE_zero {s : Cr} {a b : Pt} (h : askE s a b = 0) : CrOk s ∧ PlP a ∧ PlP b := by
  by_cases hc : CrOk s
  · by_cases hp : PlP a ∧ PlP b
    · exact ⟨hc, hp⟩
    · rw [askE_pt hc hp] at h; cases h
  · rw [askE_no hc] at h; cases h
theorem clearF_eq {s : Cr} {a b : Pt} (h : askE s a b = 0) : ClearF s a b = (clearF s a b, 0) := by unfold ClearF; rw [if_pos h, h]
theorem clearF_ne {s : Cr} {a b : Pt} (h : askE s a b ≠ 0) : ClearF s a b = (false, askE s a b) := by unfold ClearF; rw [if_neg h]
theorem if_list {α : Type} {P : α → Prop} {l : List α} {k : Nat} (h : ∀ j (hj : j < l.length), j < k → P l[j]) (hk : l.length ≤ k) : ∀ x ∈ l, P x := fun x hx => by
  obtain ⟨j, hj, rfl⟩ := List.getElem_of_mem hx
  exact h j hj (by omega)
end Go.Proofs.YtpccafeedfpbaaaGreat.C
end
