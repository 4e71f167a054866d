/-
  Part of the proof of CourseTimely: what functions of the program and of the statement come to, walked by the rules. No condition beyond those in each theorem.
-/
import Derived.Test.YtpccafeedfpbaaaGreatTG
section
open Go PvL Go.Proofs
set_option linter.unusedVariables false
set_option linter.unusedSimpArgs false
namespace Go.Proofs.YtpccafeedfpbaaaGreat.C
/-- items without blocks of their own -/
def PlainR {α : Type} (f : α → LV) (x : α) (v : List LV) (U : Nat → Prop) (_ : Mem) : Prop := v = [f x] ∧ ∀ i, ¬ U i
end Go.Proofs.YtpccafeedfpbaaaGreat.C
end
section
open Go PvL Go.Proofs
set_option linter.unusedVariables false
set_option linter.unusedSimpArgs false
namespace Go.Proofs.YtpccafeedfpbaaaGreat.C
/-- the chart, whatever its map holds -/
structure ChC (M : Mem) (A : CrA) (s : Cr) (pc pm : Nat) : Prop where
  cr : CrM M A s
  cells : At M pc (.cells true (chc A s pm) 128)
theorem ChC.grow {M M' : Mem} {A : CrA} {s : Cr} {pc pm : Nat} (h : ChC M A s pc pm) (hg : Grow M M') : ChC M' A s pc pm := ⟨h.cr.grow hg, h.cells.grow hg⟩
theorem PlM.chc {MB M : Mem} {A : CrA} {s : Cr} {pc pm pk : Nat} (h : PlM MB A s pc pm pk) (hk : Keep (fun i => i = pm ∨ i = pk) MB M) : ChC M A s pc pm :=
  ⟨h.ch.cr.keepN hk (fun i o n x hr hf => hf.elim (h.ch.known.ne_rd hr) (h.kc.ne_rd hr)) (fun i o x hr hf => hf.elim (h.ch.known.ne_rd1 hr) (h.kc.ne_rd1 hr)), h.ch.cells.keep hk (fun hf => hf.elim h.ch.ne h.nc)⟩
theorem c_wayC {A : CrA} {s : Cr} {pc pm : Nat} {k : Nat} {w : Int} {M : Mem} (hC : ChC M A s pc pm) (hk : k < s.lines.length) (hw : w = 0 ∨ w = 1) :
    CallOk Tryz.prog 119 [.ptr (some (pc, 0)), shv k w] M (fun v M' => v = wayv (wayF s k w) ∧ Grow M M') := by
  obtain ⟨aL, fL, aF, fF, aB, fB, aO, fO, eF⟩ := A
  have hcell := hC.cells
  have hpc := hcell.2
  obtain ⟨i, o, rfl, hr⟩ := (show SlA 4 legc M aL s.lines from hC.cr.lines).resolve_left (fun e => by rw [e] at hk; simp at hk)
  have r1 := hr k hk
  have hi := r1.2
  refine call_in k119 rfl ?_
  dsimp only [x119, zipE, Nat.reduceAdd]
  unfold wayF
  rw [getD_eq hk]
  rcases hw with rfl | rfl
  · (have hrd0 := r1; repeat' (first | (with_reducible intro _) | refine sv ?_ | (refine sc ?_ ?_ <;> (intro h; try first | exact h.elim | exact absurd rfl h | (exfalso; omega))) | (refine sg ?_ ?_ <;> (intro h; (fail_if_success (have : True := h)); try first | exact h.elim | exact absurd rfl h | (exfalso; omega))) | assumption | exact xm | exact rfl))
    ((with_reducible first | apply k_fun | apply k_fun_norm); exact rx)
    exact ⟨rfl, xg⟩
  · (have hrd0 := r1; repeat' (first | (with_reducible intro _) | refine sv ?_ | (refine sc ?_ ?_ <;> (intro h; try first | exact h.elim | exact absurd rfl h | (exfalso; omega))) | (refine sg ?_ ?_ <;> (intro h; (fail_if_success (have : True := h)); try first | exact h.elim | exact absurd rfl h | (exfalso; omega))) | assumption | exact xm | exact rfl))
    ((with_reducible first | apply k_fun | apply k_fun_norm); exact rx)
    exact ⟨rfl, xg⟩
theorem c_endsD {A : CrA} {s : Cr} {pc pm : Nat} {c : Nat} {M : Mem} (hC : ChC M A s pc pm) (hs : CrOk s) (hc : c < 2 * s.lines.length) :
    CallOk Tryz.prog 108 [.ptr (some (pc, 0)), shC c] M (fun v M' => v = .tup [.agg (posc (begC s c)), .agg (posc (endC s c))] ∧ Grow M M') := by
  have hway := wayC_ok hs (div_lt hc)
  have hw := fun M' (hg : Grow M M') => c_wayC (hC.grow hg) (div_lt hc) (w := ((c % 2 : Nat) : Int)) (by omega)
  unfold begC endC
  rw [show wayF s (c / 2) ((c % 2 : Nat) : Int) = wayC s c from rfl] at hw
  generalize wayC s c = q at *
  have p1 := hway.1
  have p2 := hway.2.1
  dsimp only [PlP, Pl] at p1 p2
  have hco := c_Octant (q.2.1 - q.1.1) (q.2.2 - q.1.2) (by omega) (by omega)
  rw [show octF (q.2.1 - q.1.1) (q.2.2 - q.1.2) = octW q.1 q.2 from rfl] at hco
  refine call_in k108 rfl ?_
  dsimp only [x108, zipE, Nat.reduceAdd]
  (repeat' (first | (with_reducible intro _) | refine sv ?_ | (refine sc ?_ ?_ <;> (intro h; try first | exact h.elim | exact absurd rfl h | (exfalso; omega))) | ((with_reducible first | apply x_pure | apply d_pure); exact gd; exact rfl; exact rfl; (first | exact hw _ (xg) | exact hco _)) | (refine sg ?_ ?_ <;> (intro h; (fail_if_success (have : True := h)); try first | exact h.elim | exact absurd rfl h | (exfalso; omega))) | assumption | exact xm | exact rfl))
  ((with_reducible first | apply k_fun | apply k_fun_norm); exact rx)
  exact ⟨rfl, xg⟩
theorem c_startD {A : CrA} {s : Cr} {pc pm pk : Nat} {M : Mem} (hC : ChC M A s pc pm) : CallOk Tryz.prog 54 [planv pc pk] M (fun v M' => v = .agg (rchc (startR s)) ∧ Grow M M') := by
  have hcell := hC.cells
  have hpc := hcell.2
  refine call_in k54 rfl ?_
  dsimp only [x54, zipE, Nat.reduceAdd]
  (repeat' (first | (with_reducible intro _) | refine sv ?_ | (refine sc ?_ ?_ <;> (intro h; try first | exact h.elim | exact absurd rfl h | (exfalso; omega))) | (refine sg ?_ ?_ <;> (intro h; (fail_if_success (have : True := h)); try first | exact h.elim | exact absurd rfl h | (exfalso; omega))) | assumption | exact xm | exact rfl))
  ((with_reducible first | apply k_fun | apply k_fun_norm); exact rx)
  exact ⟨rfl, xg⟩
theorem c_afterD {A : CrA} {s : Cr} {pc pm pk : Nat} {c : Nat} {t : Int} {M : Mem} (hC : ChC M A s pc pm) (hs : CrOk s) (hc : c < 2 * s.lines.length) : CallOk Tryz.prog 56 [planv pc pk, shC c, I t] M (fun v M' => v = .agg (rchc (rchF s c t)) ∧ Grow M M') := by
  have he := fun M' (hg : Grow M M') => c_endsD (hC.grow hg) hs hc
  unfold rchF
  refine call_in k56 rfl ?_
  dsimp only [x56, zipE, Nat.reduceAdd]
  (repeat' (first | (with_reducible intro _) | refine sv ?_ | (refine sc ?_ ?_ <;> (intro h; try first | exact h.elim | exact absurd rfl h | (exfalso; omega))) | ((with_reducible first | apply x_pure | apply d_pure); exact gd; exact rfl; exact rfl; (first | exact he _ (xg))) | (refine sg ?_ ?_ <;> (intro h; (fail_if_success (have : True := h)); try first | exact h.elim | exact absurd rfl h | (exfalso; omega))) | assumption | exact xm | exact rfl))
  ((with_reducible first | apply k_fun | apply k_fun_norm); exact rx)
  exact ⟨rfl, xg⟩
abbrev shtF (np ns : Nat) : LV := .func (.func 114) [] [.ptr (some (np, 0)), .ptr (some (ns, 0))]
abbrev intz (n : Int) : List LV := [I n]
noncomputable abbrev befF2 (s : Cr) (tab : List Int) (rest y : Nat) : Option Rch := if tab.getD (plN s rest y) 0 ≠ -1 then some (rchF s y (tab.getD (plN s rest y) 0)) else none
end Go.Proofs.YtpccafeedfpbaaaGreat.C
end
