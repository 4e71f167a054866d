/-
 Part of the proof of CourseMovedUpto: what functions of the program and of the statement come to, walked by the rules. No condition beyond those in each theorem.
-/
import Derived.Test.YtifcpjfpjkoicaaGreatTJ
import Derived.Test.YtifcpjfpjkoicaaGreatTE
import Derived.Test.YtifcpjfpjkoicaaGreatTD
section
open Go PvL Go.Proofs
set_option linter.unusedSimpArgs false
set_option linter.unusedVariables false
namespace Go.Proofs.YtifcpjfpjkoicaaGreat.C
open Classical in
noncomputable def TableF (s : Cr) : List Int × Int := if CrOk s then (tabF s, 0) else ([], 40)
def IntV (b : Nat) (M : Mem) (v : LV) (l : List Int) : Prop := (l = [] /\ v = .slice none 0 true 0) ∨ ∃ i, v = .slice (some (i, 0)) l.length true 1 /\ At M i (.cells true (l.flatMap intz) 3) /\ b <= i
theorem c_Table {A : CrA} {s : Cr} {M : Mem} (hM : CrM M A s) : CallOk Tryz.prog 8 [crv A s] M (fun v M' => Grow M M' /\ ∃ sl, v = .tup [sl, I (TableF s).2] /\ IntV M.next M' sl (TableF s).1) := by
 refine call_in kq8 rfl ?_
 dsimp only [xq8, qm, qL, qi, qb, qe, qc, qC, qS, qo, qq, qN, zipE, Nat.reduceAdd]
 have hc := fun M' (hg : Grow M M') => c_planOf (hM.grow hg)
 unfold TableF
 (repeat' first|with_reducible intro _|refine sv ?_|refine sc ?_ ?_<;>(intro h;try exact sz h)|(with_reducible first|apply x_call|apply d_call|apply x_call0);exact gd;exact rfl;exact rfl;exact hc _ (xg)|refine sg ?_ ?_<;>(intro h;first|exact sz h|refine sy h ?_)|exact sq|fail)
 rename_i n1 M1 hn1 e1 e2 w M3 hq
 obtain ⟨hg3, ⟨hno, pk, rfl⟩ | ⟨hok, pc, pm, pk, rfl, hpl, h1, h2, h3⟩⟩ := hq
 ·have hle3 := hg3.le
  rw [if_neg hno]
  (repeat' first|with_reducible intro _|refine sv ?_|refine sc ?_ ?_<;>(intro h;try exact sz h)|refine sg ?_ ?_<;>(intro h;first|exact sz h|refine sy h ?_)|exact sq|fail)
  (refine kf ?_)
  exact ⟨xg, _, rfl, .inl ⟨rfl, rfl⟩⟩
 ·have hle3 := hg3.le
  rw [if_pos hok]
  have hpm := hpl.ch.known.lt
  have hpk := hpl.kc.lt
  (repeat' first|with_reducible intro _|refine sv ?_|refine sc ?_ ?_<;>(intro h;try exact sz h)|refine sg ?_ ?_<;>(intro h;first|exact sz h|refine sy h ?_)|exact sq|fail)
  rename_i n4 M4 hn4 e3 e4 M5 hu5 e5 a5
  have hg5 : Grow M3 M5 := xg
  refine x_call (by exact gd) rfl rfl (show AppOk Tryz.prog _ _ M5 _ from c_table (hpl.grow hg5) hok) ?_
  rintro w M6 ⟨hk6, hkn6, hkc6, iT, rfl, hiT, aT⟩
  have hle6 := hk6.le
  (repeat' first|with_reducible intro _|refine sv ?_|refine sc ?_ ?_<;>(intro h;try exact sz h)|refine sg ?_ ?_<;>(intro h;first|exact sz h|refine sy h ?_)|exact sq|fail)
  (refine kf ?_)
  exact ⟨xg, _, rfl, .inr ⟨iT, rfl, aT, by omega⟩⟩
abbrev shtc (x : Int × Int) : List LV := [I x.1, I x.2]
def metN (l : List (Int × Int)) : Nat := l.foldl (fun m x => m ||| 2 ^ x.1.toNat) 0
theorem c_works (M : Mem) : CallOk Tryz.prog 6 [] M (fun w M' => w = .bool true /\ M' = M) := ⟨_, _, om_ask rfl M, rfl, rfl⟩
def swF (q : Pt × Pt) (w : Int) : Pt × Pt := if w = 1 then (q.2, q.1) else q
end Go.Proofs.YtifcpjfpjkoicaaGreat.C
end
