/-
 Part of the proof of CourseMovedUpto: what functions of the program and of the statement come to, walked by the rules. No condition beyond those in each theorem.
-/
import Derived.Test.YtifcpjfpjkoicaaGreatTG
section
open Go PvL Go.Proofs
set_option linter.unusedSimpArgs false
set_option linter.unusedVariables false
namespace Go.Proofs.YtifcpjfpjkoicaaGreat.C
def PlainR {α : Type} (f : α -> LV) (x : α) (v : List LV) (U : Nat -> Prop) (_ : Mem) : Prop := v = [f x] /\ ∀ i, ¬ U i
theorem filter_split {p : Nat -> Bool} {n k : Nat} (hk : k < n) : (List.range n).filter p = (List.range k).filter p ++ ((if p k then [k] else []) ++ ((List.range n).drop (k + 1)).filter p) := by
 have h1 : List.range n = List.range k ++ ([k] ++ (List.range n).drop (k + 1)) := by
  have h2 := List.take_append_drop (k + 1) (List.range n)
  rw [List.take_range, Nat.min_eq_left (by omega), List.range_succ] at h2
  rw [<- List.append_assoc]; exact h2.symm
 rw [h1, List.filter_append, List.filter_append]
 congr 1
 have h3 : (List.range k ++ ([k] ++ (List.range n).drop (k + 1))).drop (k + 1) = (List.range n).drop (k + 1) := by rw [<- h1]
 rw [h3]
 congr 1
 cases hp : p k with
 | true => rw [List.filter_cons_of_pos hp]; rfl
 | false => rw [List.filter_cons_of_neg (by rw [hp]; decide)]; rfl
theorem filter_succ {p : Nat -> Bool} {k : Nat} : (List.range (k + 1)).filter p = (List.range k).filter p ++ (if p k then [k] else []) := by
 rw [List.range_succ, List.filter_append]
 cases hp : p k with
 | true => rw [List.filter_cons_of_pos hp]; rfl
 | false => rw [List.filter_cons_of_neg (by rw [hp]; decide)]; rfl
set_option maxHeartbeats 4000000 in
theorem y_shoots {A : CrA} {s : Cr} {pc pm pk np ns set : Nat} {M0 : Mem} (hC : At M0 pc (.cells true (chc A s pm) 82)) (hnp : At M0 np (.cells true [.ptr (some (pc, 0)), .map (some pk)] 77)) (hns : At M0 ns (.cells true [I set] 3)) (hn5 : s.lines.length <= 5) (hset : set < 1048576) :
  YieldsS Tryz.prog 50 [] [.ptr (some (np, 0)), .ptr (some (ns, 0))] (fun i => i = np ∨ i = ns ∨ i = pc) (fun _ => False) (fun _ => True) (shootsL s set) (PlainR shC) M0 := by
 intro l AA II DD tk hS hI0
 have hAnp : ¬ AA np := hS _ (.inl rfl)
 have hAns : ¬ AA ns := hS _ (.inr (.inl rfl))
 have hApc : ¬ AA pc := hS _ (.inr (.inr rfl))
 have hAlt := tk.lt
 have l1 := hC.2
 have l2 := hnp.2
 have l3 := hns.2
 refine call_in kq50 rfl ?_
 dsimp only [xq50, qm, qf, ql, qi, qn, qB, qC, qg, qo, qk, qK, qq, qZ, zipE, Nat.reduceAdd, List.nil_append, List.cons_append]
 (repeat' first|with_reducible intro _|refine sv ?_|refine sc ?_ ?_<;>(intro h;try exact sz h)|refine sg ?_ ?_<;>(intro h;first|exact sz h|refine sy h ?_)|exact sq|fail)
 refine w_loop_ind (fun n E ms M' => ∃ (i : Nat) (T : Nat -> Prop), n = s.lines.length - i /\ i <= s.lines.length /\ ms = [] /\ Has E [(0, .func (.yield l) [] []), (1, .ptr (some (np, 0))), (2, .ptr (some (ns, 0))), (12, I s.lines.length), (13, I i)] /\ Keep AA M0 M' /\ (∀ j, T j -> M0.next <= j /\ j < M'.next) /\ II ((List.range (2 * i)).filter fun c => set.testBit (c / 2)) T M') ?_ s.lines.length _ _ _
  ⟨0, fun _ => False, by omega, by omega, rfl, .cons rfl (.cons rfl (.cons rfl (.cons rfl (.cons rfl .nil)))), Keep.refl _ _, fun j hj => hj.elim, hI0⟩
 rintro n E ms M1 ⟨i, T1, rfl, hi, rfl, hE, hk1, hT1, hI1⟩
 refine w_has hE ?_
 by_cases hlast : i = s.lines.length
 ·subst hlast
  (repeat' first|with_reducible intro _|refine sv ?_|refine sc ?_ ?_<;>(intro h;try exact sz h)|refine sg ?_ ?_<;>(intro h;first|exact sz h|refine sy h ?_)|exact sq|fail)
  (refine kf ?_)
  exact ⟨hk1.weaken (fun j hj => .inl hj), trivial, T1, hT1, .inl hI1⟩
 have hlt : i < s.lines.length := by omega
 (repeat' first|with_reducible intro _|refine sv ?_|refine sc ?_ ?_<;>(intro h;try exact sz h)|refine sg ?_ ?_<;>(intro h;first|exact sz h|refine sy h ?_)|exact sq|fail)
 refine w_loop_ind (fun n E ms M' => ∃ (j : Nat) (T : Nat -> Prop), n = 2 - j /\ j <= 2 /\ ms = [] /\ Has E [(0, .func (.yield l) [] []), (1, .ptr (some (np, 0))), (2, .ptr (some (ns, 0))), (4, I i), (12, I s.lines.length), (13, I i), (16, I j)] /\ Keep AA M0 M' /\ (∀ j, T j -> M0.next <= j /\ j < M'.next) /\ II ((List.range (2 * i + j)).filter fun c => set.testBit (c / 2)) T M') ?_ 2 _ _ _
  ⟨0, T1, by omega, by omega, rfl, .cons rfl (.cons rfl (.cons rfl (.cons rfl (.cons rfl (.cons rfl (.cons rfl .nil)))))), hk1, hT1, hI1⟩
 rintro n E ms M2 ⟨j, T2, rfl, hj, rfl, hE2, hk2, hT2, hI2⟩
 refine w_has hE2 ?_
 have hle2 := hk2.le
 by_cases hlast2 : j = 2
 ·subst hlast2
  (repeat' first|with_reducible intro _|refine sv ?_|refine sc ?_ ?_<;>(intro h;try exact sz h)|refine sg ?_ ?_<;>(intro h;first|exact sz h|refine sy h ?_)|exact sq|fail)
  refine k_step (s.lines.length - (i + 1)) (by omega) ⟨i + 1, T2, rfl, by omega, rfl, .cons rfl (.cons rfl (.cons rfl (.cons rfl (.cons rfl .nil)))), hk2, hT2, hI2⟩
 have hj2 : j < 2 := by omega
 have hd2 : (2 * i + j) / 2 = i := by omega
 have hm2 : (2 * i + j) % 2 = j := by omega
 have hns2 := hns.keep hk2 hAns
 have l4 := hns2.2
 have hsb := shl_one_bd (k := i) (by omega)
 have hsucc := filter_succ (p := fun c => set.testBit (c / 2)) (k := 2 * i + j)
 have hsplit := filter_split (p := fun c => set.testBit (c / 2)) (n := 2 * s.lines.length) (k := 2 * i + j) (by omega)
 rw [hd2] at hsucc hsplit
 cases hb : set.testBit i with
 | false =>
  have hz : andZ (set : Int) (shlZ 1 (i : Int)) = 0 := (andZ_nat _ _).2 hb
  rw [hb, if_neg (by decide), List.append_nil] at hsucc
  (repeat' first|with_reducible intro _|refine sv ?_|refine sc ?_ ?_<;>(intro h;try exact sz h)|refine sg ?_ ?_<;>(intro h;first|exact sz h|refine sy h ?_)|exact sq|fail)
  refine k_step (2 - (j + 1)) (by omega) ⟨j + 1, T2, rfl, by omega, rfl, .cons rfl (.cons rfl (.cons rfl (.cons rfl (.cons rfl (.cons rfl (.cons rfl .nil)))))), hk2, hT2, by rw [show 2 * i + (j + 1) = 2 * i + j + 1 by omega, hsucc]; exact hI2⟩
 | true =>
  have hz : ¬ andZ (set : Int) (shlZ 1 (i : Int)) = 0 := fun h => by rw [andZ_nat, hb] at h; cases h
  rw [hb, if_pos rfl] at hsucc hsplit
  have hst := tk.step _ (2 * i + j) _ [shC (2 * i + j)] (fun _ => False) T2 M2 hsplit ⟨rfl, fun _ h => h⟩ hle2 hT2 (fun _ h => h.elim) hI2
  rw [show shC (2 * i + j) = .agg [I i, I j] by unfold shC; rw [hd2, hm2]] at hst
  (repeat' first|with_reducible intro _|refine sv ?_|refine sc ?_ ?_<;>(intro h;try exact sz h)|refine sg ?_ ?_<;>(intro h;first|exact sz h|refine sy h ?_)|exact sq|fail)
  refine d_call (by exact gd) rfl rfl (show AppOk Tryz.prog (.func (.yield l) [] []) _ M2 _ from hst) ?_
  rintro w M3 ⟨hk3, T3, hT3, hres⟩
  have hle3 := hk3.le
  have hk03 : Keep AA M0 M3 := hk2.trans hk3 (fun q hq => by
   rcases hq with hq | hq | hq
   ·exact .inl hq
   ·exact .inr (hT2 q hq).1
   ·exact hq.elim)
  have hT3' : ∀ q, T3 q -> M0.next <= q /\ q < M3.next := fun q hq => by
   obtain ⟨h1, h2⟩ := hT3 q hq
   rcases h1 with h1 | h1 | h1
   ·exact ⟨(hT2 q h1).1, h2⟩
   ·exact h1.elim
   ·exact ⟨by omega, h2⟩
  rcases hres with ⟨rfl, hI3⟩ | ⟨rfl, hD3⟩
  ·(repeat' first|with_reducible intro _|refine sv ?_|refine sc ?_ ?_<;>(intro h;try exact sz h)|refine sg ?_ ?_<;>(intro h;first|exact sz h|refine sy h ?_)|exact sq|fail)
   refine k_step (2 - (j + 1)) (by omega) ⟨j + 1, T3, rfl, by omega, rfl, .cons rfl (.cons rfl (.cons rfl (.cons rfl (.cons rfl (.cons rfl (.cons rfl .nil)))))), hk03, hT3', by rw [show 2 * i + (j + 1) = 2 * i + j + 1 by omega, hsucc]; exact hI3⟩
  ·(repeat' first|with_reducible intro _|refine sv ?_|refine sc ?_ ?_<;>(intro h;try exact sz h)|refine sg ?_ ?_<;>(intro h;first|exact sz h|refine sy h ?_)|exact sq|fail)
   (refine kf ?_)
   exact ⟨hk03.weaken (fun j hj => .inl hj), trivial, T3, hT3', .inr hD3⟩
theorem andn_rest (u k : Nat) : andnZ (u : Int) (shlZ 1 (k : Int)) = ((restN u k : Nat) : Int) := by
 unfold andnZ restN
 rw [shl_one]
 show (u : Int) - ((u &&& 2 ^ k : Nat) : Int) = _
 rw [Int.ofNat_sub Nat.and_le_left]
structure ChC (M : Mem) (A : CrA) (s : Cr) (pc pm : Nat) : Prop where
 cr : CrM M A s
 cells : At M pc (.cells true (chc A s pm) 82)
theorem ChC.grow {M M' : Mem} {A : CrA} {s : Cr} {pc pm : Nat} (h : ChC M A s pc pm) (hg : Grow M M') : ChC M' A s pc pm := ⟨h.cr.grow hg, h.cells.grow hg⟩
theorem PlM.chc {MB M : Mem} {A : CrA} {s : Cr} {pc pm pk : Nat} (h : PlM MB A s pc pm pk) (hk : Keep (fun i => i = pm ∨ i = pk) MB M) : ChC M A s pc pm :=
 ⟨h.ch.cr.keepN hk (fun i o n x hr hf => hf.elim (h.ch.known.ne_rd hr) (h.kc.ne_rd hr)) (fun i o x hr hf => hf.elim (h.ch.known.ne_rd1 hr) (h.kc.ne_rd1 hr)), h.ch.cells.keep hk (fun hf => hf.elim h.ch.ne h.nc)⟩
theorem c_wayC {A : CrA} {s : Cr} {pc pm : Nat} {k : Nat} {w : Int} {M : Mem} (hC : ChC M A s pc pm) (hk : k < s.lines.length) (hw : w = 0 ∨ w = 1) :
  CallOk Tryz.prog 58 [.ptr (some (pc, 0)), shv k w] M (fun v M' => v = wayv (wayF s k w) /\ Grow M M') := by
 obtain ⟨aL, fL, aF, fF, aB, fB, aO, fO, eF, eL, eB⟩ := A
 have hcell := hC.cells
 have hpc := hcell.2
 obtain ⟨i, o, rfl, hr⟩ := (show SlA 4 legc M aL s.lines from hC.cr.lines).resolve_left (fun e => by rw [e] at hk; simp at hk)
 have r1 := hr k hk
 have hi := r1.2
 refine call_in kq58 rfl ?_
 dsimp only [xq58, qm, qf, ql, qL, qb, qa, qC, qS, qo, qk, qK, qq, qZ, zipE, Nat.reduceAdd]
 unfold wayF
 rw [getD_eq hk]
 rcases hw with rfl | rfl
 ·(have hrd0 := r1;repeat' first|with_reducible intro _|refine sv ?_|refine sc ?_ ?_<;>(intro h;try exact sz h)|refine sg ?_ ?_<;>(intro h;first|exact sz h|refine sy h ?_)|exact sq|fail)
  (refine kf ?_)
  exact ⟨rfl, xg⟩
 ·(have hrd0 := r1;repeat' first|with_reducible intro _|refine sv ?_|refine sc ?_ ?_<;>(intro h;try exact sz h)|refine sg ?_ ?_<;>(intro h;first|exact sz h|refine sy h ?_)|exact sq|fail)
  (refine kf ?_)
  exact ⟨rfl, xg⟩
theorem c_endsD {A : CrA} {s : Cr} {pc pm : Nat} {c : Nat} {M : Mem} (hC : ChC M A s pc pm) (hs : CrOk s) (hc : c < 2 * s.lines.length) :
  CallOk Tryz.prog 51 [.ptr (some (pc, 0)), shC c] M (fun v M' => v = .tup [.agg (posc (begC s c)), .agg (posc (endC s c))] /\ Grow M M') := by
 have hway := wayC_ok hs (div_lt hc)
 have hw := fun M' (hg : Grow M M') => c_wayC (hC.grow hg) (div_lt hc) (w := ((c % 2 : Nat) : Int)) (by omega)
 unfold begC endC
 rw [show wayF s (c / 2) ((c % 2 : Nat) : Int) = wayC s c from rfl] at hw
 generalize wayC s c = q at *
 have p1 := hway.1
 have p2 := hway.2.1
 dsimp only [PlP, Pl] at p1 p2
 have hco := c_Octant (q.2.1 - q.1.1) (q.2.2 - q.1.2) (by omega) (by omega)
 rw [show octF (q.2.1 - q.1.1) (q.2.2 - q.1.2) = octW q.1 q.2 from rfl] at hco
 refine call_in kq51 rfl ?_
 dsimp only [xq51, qm, qf, ql, qL, qb, qc, qB, qS, qo, qk, qK, qq, qZ, zipE, Nat.reduceAdd]
 (repeat' first|with_reducible intro _|refine sv ?_|refine sc ?_ ?_<;>(intro h;try exact sz h)|(with_reducible first|apply x_pure|apply d_pure|apply d_pure0);exact gd;exact rfl;exact rfl;(first|exact hw _ (xg)|exact hco _)|refine sg ?_ ?_<;>(intro h;first|exact sz h|refine sy h ?_)|exact sq|fail)
 (refine kf ?_)
 exact ⟨rfl, xg⟩
theorem c_startD {A : CrA} {s : Cr} {pc pm pk : Nat} {M : Mem} (hC : ChC M A s pc pm) : CallOk Tryz.prog 32 [planv pc pk] M (fun v M' => v = .agg (rchc (startR s)) /\ Grow M M') := by
 have hcell := hC.cells
 have hpc := hcell.2
 refine call_in kq32 rfl ?_
 dsimp only [xq32, qf, ql, qL, qb, qS, qo, qq, qZ, zipE, Nat.reduceAdd]
 (repeat' first|with_reducible intro _|refine sv ?_|refine sc ?_ ?_<;>(intro h;try exact sz h)|refine sg ?_ ?_<;>(intro h;first|exact sz h|refine sy h ?_)|exact sq|fail)
 (refine kf ?_)
 exact ⟨rfl, xg⟩
theorem c_afterD {A : CrA} {s : Cr} {pc pm pk : Nat} {c : Nat} {t : Int} {M : Mem} (hC : ChC M A s pc pm) (hs : CrOk s) (hc : c < 2 * s.lines.length) : CallOk Tryz.prog 31 [planv pc pk, shC c, I t] M (fun v M' => v = .agg (rchc (rchF s c t)) /\ Grow M M') := by
 have he := fun M' (hg : Grow M M') => c_endsD (hC.grow hg) hs hc
 unfold rchF
 refine call_in kq31 rfl ?_
 dsimp only [xq31, qm, qf, ql, qL, qb, qe, qc, qS, qo, qq, qZ, zipE, Nat.reduceAdd]
 (repeat' first|with_reducible intro _|refine sv ?_|refine sc ?_ ?_<;>(intro h;try exact sz h)|(with_reducible first|apply x_pure|apply d_pure|apply d_pure0);exact gd;exact rfl;exact rfl;exact he _ (xg)|refine sg ?_ ?_<;>(intro h;first|exact sz h|refine sy h ?_)|exact sq|fail)
 (refine kf ?_)
 exact ⟨rfl, xg⟩
theorem pl_int {s : Cr} {set c : Nat} : ((plN s set c : Nat) : Int) = 2 * (s.lines.length : Int) * (set : Int) + 2 * ((c / 2 : Nat) : Int) + ((c % 2 : Nat) : Int) := by
 unfold plN
 have : 2 * (c / 2) + c % 2 = c := Nat.div_add_mod c 2
 rw [Int.natCast_add, Int.natCast_mul, Int.natCast_mul]
 have h2 : ((c : Nat) : Int) = 2 * ((c / 2 : Nat) : Int) + ((c % 2 : Nat) : Int) := by omega
 rw [h2]
 show 2 * (s.lines.length : Int) * (set : Int) + (2 * ((c / 2 : Nat) : Int) + ((c % 2 : Nat) : Int)) = _
 rw [Int.add_assoc]
theorem c_placeD {A : CrA} {s : Cr} {pc pm pk : Nat} {set c : Nat} {M : Mem} (hC : ChC M A s pc pm) (hn5 : s.lines.length <= 5) (hset : set <= 1000) (hc : c <= 1000) : CallOk Tryz.prog 27 [planv pc pk, I set, shC c] M (fun v M' => v = I (plN s set c : Nat) /\ Grow M M') := by
 have hcell := hC.cells
 have hpc := hcell.2
 have hm := mul_bd (a := 2 * (s.lines.length : Int)) (b := (set : Int)) (A := 10) (B := 1000) (by omega) (by omega)
 rw [pl_int]
 refine call_in kq27 rfl ?_
 dsimp only [xq27, qm, qf, ql, qi, qb, qn, qB, qo, qk, qK, qq, zipE, Nat.reduceAdd]
 (repeat' first|with_reducible intro _|refine sv ?_|refine sc ?_ ?_<;>(intro h;try exact sz h)|refine sg ?_ ?_<;>(intro h;first|exact sz h|refine sy h ?_)|exact sq|fail)
 (refine kf ?_)
 exact ⟨rfl, xg⟩
abbrev shtF (np ns : Nat) : LV := .func (.func 50) [] [.ptr (some (np, 0)), .ptr (some (ns, 0))]
theorem c_shoots {pc pk : Nat} {set : Int} (M : Mem) : CallOk Tryz.prog 26 [planv pc pk, I set] M (fun v M' => ∃ np ns, v = shtF np ns /\ Grow M M' /\ M.next <= np /\ M.next <= ns /\ At M' np (.cells true [.ptr (some (pc, 0)), .map (some pk)] 77) /\ At M' ns (.cells true [I set] 3)) := by
 refine call_in kq26 rfl ?_
 dsimp only [xq26, qm, qb, qo, qq, zipE, Nat.reduceAdd]
 (repeat' first|with_reducible intro _|refine sv ?_|refine sc ?_ ?_<;>(intro h;try exact sz h)|refine sg ?_ ?_<;>(intro h;first|exact sz h|refine sy h ?_)|exact sq|fail)
 (refine kf ?_)
 exact ⟨_, _, rfl, xg, by omega, by omega, xm, xm⟩
abbrev intz (n : Int) : List LV := [I n]
theorem shoots_all {s : Cr} : shootsL s (2 ^ s.lines.length - 1) = List.range (2 * s.lines.length) := by
 unfold shootsL
 rw [List.filter_eq_self]
 intro c hc
 exact all_bit (by have := List.mem_range.1 hc; omega)
noncomputable abbrev befF2 (s : Cr) (tab : List Int) (rest y : Nat) : Option Rch := if tab.getD (plN s rest y) 0 ≠ -1 then some (rchF s y (tab.getD (plN s rest y) 0)) else none
set_option maxHeartbeats 8000000 in
theorem y_before {MB M0 : Mem} {A : CrA} {s : Cr} {pc pm pk nq ne nx nt set c : Nat} {aT : Option (Nat × Nat)} {fT : Bool} {tab : List Int} (hpl : PlM MB A s pc pm pk) (htab : SlA 1 intz MB aT tab) (hK : Keep (fun i => i = pm ∨ i = pk) MB M0)
  (hq0 : At M0 nq (.cells true [.ptr (some (pc, 0)), .map (some pk)] 77)) (he0 : At M0 ne (.cells true [I set] 3)) (hx0 : At M0 nx (.cells true [I (c / 2 : Nat), I (c % 2 : Nat)] 45)) (ht0 : At M0 nt (.cells true [.slice aT tab.length fT 1] 46))
  (hs : CrOk s) (hc : c < 2 * s.lines.length) (hset : set < 2 ^ s.lines.length) (htl : tab.length = 2 * s.lines.length * 2 ^ s.lines.length) (htb : ∀ v ∈ tab, -1 <= v /\ v <= 5000000) :
  YieldsS Tryz.prog 77 [] [.ptr (some (ne, 0)), .ptr (some (nx, 0)), .ptr (some (nq, 0)), .ptr (some (nt, 0))] (fun i => i = nq ∨ i = nt ∨ (i < MB.next /\ i ≠ pm /\ i ≠ pk)) (fun _ => False) (fun _ => True) (befL s tab set c) (PlainR fun x => .agg (rchc x)) M0 := by
 intro l AA II DD tk hS hI0
 have hn5 := hs.n5
 have hp2 : 2 ^ s.lines.length <= 32 := Nat.pow_le_pow_right (n := 2) (by omega) hn5
 have l1 := hq0.2
 have l2 := he0.2
 have l3 := hx0.2
 have l4 := ht0.2
 have hch0 := hpl.chc hK
 have hcell := hch0.cells
 have l5 := hcell.2
 have hAlt := tk.lt
 have hAm : ∀ i, AA i -> i = pm ∨ i = pk ∨ MB.next <= i := fun i hi => by
  by_cases h1 : i = pm
  ·exact .inl h1
  ·by_cases h2 : i = pk
   ·exact .inr (.inl h2)
   ·exact .inr (.inr (by
     rcases Nat.lt_or_ge i MB.next with h3 | h3
     ·exact absurd hi (hS i (.inr (.inr ⟨h3, h1, h2⟩)))
     ·exact h3))
 have hstab : ∀ {d M M'}, II d (fun _ => False) M -> Grow M M' -> M0.next <= M.next -> II d (fun _ => False) M' := fun {d M M'} hI hg hle => tk.stab _ _ _ _ hI hg.le fun i hi => hg.old i (by rcases hi with hi | hi; omega; exact hi.elim)
 have hsb := shl_one_bd (k := c / 2) (by omega)
 have hsb2 := shl_one_bd (k := s.lines.length) (by omega)
 refine call_in kq77 rfl ?_
 dsimp only [xq77, qm, qf, ql, qL, qb, qc, qa, qn, qB, qC, qg, qS, qo, qk, qK, qq, qZ, zipE, Nat.reduceAdd, List.nil_append, List.cons_append]
 have hrest := andn_rest set (c / 2)
 have hrle : restN set (c / 2) <= set := by unfold restN; omega
 by_cases hr0 : restN set (c / 2) = 0
 ·have hrz : andnZ (set : Int) (shlZ 1 ((c / 2 : Nat) : Int)) = 0 := by rw [hrest, hr0]; rfl
  have hitems : befL s tab set c = [] ++ startR s :: [] := by unfold befL; rw [if_pos hr0]; rfl
  (repeat' first|with_reducible intro _|refine sv ?_|refine sc ?_ ?_<;>(intro h;try exact sz h)|(with_reducible first|apply x_pure|apply d_pure|apply d_pure0);exact gd;exact rfl;exact rfl;exact c_startD (hch0.grow (xg))|refine sg ?_ ?_<;>(intro h;first|exact sz h|refine sy h ?_)|exact sq|fail)
  rename_i ny M1 hny e1 e2 n6 M2 hn6 e3 e4 M3 hu3 e5 a6 M4 hg4 e6
  have hg04 : Grow M0 M4 := xg
  have hst := tk.step [] (startR s) [] [.agg (rchc (startR s))] (fun _ => False) (fun _ => False) M4 hitems ⟨rfl, fun _ h => h⟩ hg04.le (fun _ h => h.elim) (fun _ h => h.elim) (hstab hI0 hg04 (Nat.le_refl _))
  refine d_call (by exact gd) rfl rfl (show AppOk Tryz.prog (.func (.yield l) [] []) _ M4 _ from hst) ?_
  rintro w M5 ⟨hk5, T5, hT5, hres⟩
  have hle5 := hk5.le
  have hk05 : Keep AA M0 M5 := (hg04.to_keep AA).trans hk5 (fun q hq => by
   rcases hq with hq | hq | hq
   ·exact .inl hq
   ·exact hq.elim
   ·exact hq.elim)
  have hT5' : ∀ q, T5 q -> M0.next <= q /\ q < M5.next := fun q hq => by
   obtain ⟨h1, h2⟩ := hT5 q hq
   rcases h1 with h1 | h1 | h1
   ·exact h1.elim
   ·exact h1.elim
   ·exact ⟨by have := hg04.le; omega, h2⟩
  clear hg04
  (repeat' first|with_reducible intro _|refine sv ?_|refine sc ?_ ?_<;>(intro h;try exact sz h)|refine sg ?_ ?_<;>(intro h;first|exact sz h|refine sy h ?_)|exact sq|fail)
  (refine kf ?_)
  exact ⟨hk05.weaken (fun q hq => .inl hq), trivial, T5, hT5', hitems ▸ hres.imp (fun h => h.2) (fun h => h.2)⟩
 ·have hrz : ¬ andnZ (set : Int) (shlZ 1 ((c / 2 : Nat) : Int)) = 0 := by rw [hrest]; omega
  have hall : shlZ 1 (s.lines.length : Int) - 1 = ((2 ^ s.lines.length - 1 : Nat) : Int) := by rw [shl_one]; have := Nat.two_pow_pos s.lines.length; omega
  have hitems : befL s tab set c = (List.range (2 * s.lines.length)).filterMap (befF2 s tab (restN set (c / 2))) := by unfold befL; rw [if_neg hr0]
  (repeat' first|with_reducible intro _|refine sv ?_|refine sc ?_ ?_<;>(intro h;try exact sz h)|refine sg ?_ ?_<;>(intro h;first|exact sz h|refine sy h ?_)|exact sq|fail)
  rename_i ny M1 hny e1 e2 n6 M2 hn6 e3 e4 M3 hu3 e5 a6
  have hg03 : Grow M0 M3 := xg
  have hle03 := hg03.le
  refine d_call (by exact gd) rfl rfl (show AppOk Tryz.prog _ _ M3 _ from c_shoots (pc := pc) (pk := pk) (set := shlZ 1 (s.lines.length : Int) - 1) M3) ?_
  rintro w M4 ⟨np2, ns2, rfl, hg4, hp4, hs4, a4, b4⟩
  have hle4 := hg4.le
  rw [hall] at b4
  have q4 := a4.2
  have q5 := b4.2
  (repeat' first|with_reducible intro _|refine sv ?_|refine sc ?_ ?_<;>(intro h;try exact sz h)|refine sg ?_ ?_<;>(intro h;first|exact sz h|refine sy h ?_)|exact sq|fail)
  apply w_rfun
  exact rfl
  intro lb d l2 M5 M6 hlb hd e7 e8 hl e9 e10
  have hg06 : Grow M0 M6 := ((hg03.trans hg4).new hd).new hl
  have hle06 := hg06.le
  have hg46 : Grow M4 M6 := hd.grow.trans hl.grow
  have hy := y_shoots (A := A) (s := s) (pc := pc) (pm := pm) (pk := pk) (np := np2) (ns := ns2) (set := 2 ^ s.lines.length - 1) (M0 := M6) (hcell.grow hg06) (a4.grow hg46) (b4.grow hg46) hn5 (by omega)
  rw [shoots_all] at hy
  have by6 : At M6 ny (.cells true [.func (.yield l) [] []] 150) := At.grow hg46 (At.grow hg4 (xm))
  have b66 : At M6 n6 (.cells true [I (restN set (c / 2) : Nat)] 3) := by rw [<- hrest]; exact At.grow hg46 (At.grow hg4 a6)
  have bd6 : At M6 d .defr := At.new_old hl (At.new_same hd)
  have hII6 := hstab hI0 hg06 (Nat.le_refl _)
  refine (hy l2 (fun i => AA i ∨ i = l2) (fun dn T M => Keep AA M0 M /\ (∀ i, T i -> M0.next <= i /\ i < M.next) /\ II (dn.filterMap (befF2 s tab (restN set (c / 2)))) T M /\ At M ny (.cells true [.func (.yield l) [] []] 150) /\ At M n6 (.cells true [I (restN set (c / 2) : Nat)] 3) /\ At M l2 (lb .ready none) /\ At M d .defr)
   (fun T M => Keep AA M0 M /\ (∀ i, T i -> M0.next <= i /\ i < M.next) /\ DD T M /\ At M l2 (lb .done (some .ret)) /\ At M d .defr) ⟨?_, ?_, ?_, ?_⟩ ?_ ⟨hg06.to_keep _, fun _ h => h.elim, hII6, by6, b66, At.new_same hl, bd6⟩).mono ?_
  ·rintro i (hi | hi)
   ·have := hAlt i hi; omega
   ·omega
  ·rintro dn T M M' ⟨h1, h2, h3, h4, h5, h6, h7⟩ hle hg
   have hgo : ∀ i, i < M6.next -> M'.get i = M.get i := fun i hi => hg i (.inl ⟨hi, id⟩)
   exact ⟨⟨Nat.le_trans h1.le hle, fun i hi hf => by rw [hgo i (by omega)]; exact h1.old i hi hf⟩, fun i hi => by have := h2 i hi; omega, tk.stab _ _ _ _ h3 hle (fun i hi => by
    rcases hi with hi | hi
    ·exact hgo i (by omega)
    ·exact hg i (.inr hi)), h4.same hle (hgo _ by6.2), h5.same hle (hgo _ b66.2), h6.same hle (hgo _ (by omega)), h7.same hle (hgo _ bd6.2)⟩
  ·rintro T M M' ⟨h1, h2, h3, h4, h5⟩ hle hg
   have hgo : ∀ i, i < M6.next -> M'.get i = M.get i := fun i hi => hg i (.inl ⟨hi, id⟩)
   exact ⟨⟨Nat.le_trans h1.le hle, fun i hi hf => by rw [hgo i (by omega)]; exact h1.old i hi hf⟩, fun i hi => by have := h2 i hi; omega, tk.stabD _ _ _ h3 hle (fun i hi => by
    rcases hi with hi | hi
    ·exact hgo i (by omega)
    ·exact hg i (.inr hi)), h4.same hle (hgo _ (by omega)), h5.same hle (hgo _ bd6.2)⟩
  ·rintro dn y rest v U T M hits ⟨rfl, hU⟩ hN hT hUd ⟨h1, h2, h3, h4, h5, h6, h7⟩
   have hKB : Keep (fun i => i = pm ∨ i = pk) MB M := hK.trans h1 (fun i hi => by
    rcases hAm i hi with h | h | h
    ·exact .inl (.inl h)
    ·exact .inl (.inr h)
    ·exact .inr h)
   have hleK := hK.le
   have hle1 := h1.le
   have hq1 := hq0.keep h1 (hS _ (.inl rfl))
   have ht1 := ht0.keep h1 (hS _ (.inr (.inl rfl)))
   have htb1 : SlA 1 intz M aT tab := htab.keepN hKB (fun i o n x hr hf => hf.elim (hpl.ch.known.ne_rd hr) (hpl.kc.ne_rd hr))
   have hy2 : y < 2 * s.lines.length := List.mem_range.1 (by rw [hits]; simp)
   have hidx : plN s (restN set (c / 2)) y < tab.length := by rw [htl]; exact pl_lt (by omega) hy2
   obtain ⟨iT, oT, rfl, hrT⟩ := htb1.resolve_left (fun h => by rw [h] at hidx; simp at hidx)
   have rT : Rd1 M iT (oT + plN s (restN set (c / 2)) y * 1) (I tab[plN s (restN set (c / 2)) y]) := (hrT _ hidx).nth (j := 0) rfl
   have hiT := rT.2
   have hlq := hq1.2
   have hlt2 := ht1.2
   have hl2M := h6.2
   have hdM := h7.2
   have hniT : iT ≠ l2 := by
    have := (show SlA 1 intz MB (some (iT, oT)) tab from htab).resolve_left (fun h => by rw [h] at hidx; simp at hidx)
    obtain ⟨i', o', e, hr'⟩ := this
    cases e
    have := (hr' _ hidx).2
    omega
   have hgD : tab.getD (plN s (restN set (c / 2)) y) 0 = tab[plN s (restN set (c / 2)) y] := getD_eq hidx
   have hub := htb _ (List.getElem_mem hidx)
   have hchk : ∀ M', Keep (fun i => i = l2) M M' -> ChC M' A s pc pm := fun M' hk' => hpl.chc (hKB.trans hk' (fun i hi => .inr (by omega)))
   have hplc := fun M' (hk' : Keep (fun i => i = l2) M M') => c_placeD (pk := pk) (set := restN set (c / 2)) (c := y) (hchk M' hk') hn5 (by omega) (by omega)
   have hfm : (dn ++ [y]).filterMap (befF2 s tab (restN set (c / 2))) = dn.filterMap (befF2 s tab (restN set (c / 2))) ++ (befF2 s tab (restN set (c / 2)) y).toList := by
    rw [List.filterMap_append]
    congr 1
   have hsameT : ∀ M', Keep (fun i => i = l2) M M' -> II (dn.filterMap (befF2 s tab (restN set (c / 2)))) T M' := fun M' hk' => tk.stab _ _ _ _ h3 hk'.le (fun i hi => hk'.old i (by
    rcases hi with hi | hi
    ·omega
    ·exact (hT i hi).2) (by
    rcases hi with hi | hi
    ·omega
    ·have := (hT i hi).1; omega))
   have hbf : befF2 s tab (restN set (c / 2)) y = if tab[plN s (restN set (c / 2)) y] ≠ -1 then some (rchF s y tab[plN s (restN set (c / 2)) y]) else none := by unfold befF2; rw [hgD]
   rw [hfm]
   generalize tab[plN s (restN set (c / 2)) y] = u at *
   by_cases hu : u = -1
   ·rw [if_neg (fun h => h hu)] at hbf
    rw [hbf]
    refine round_in hlb h6 rfl ?_
    dsimp only [zipP]
    (have hrd0 := rT;repeat' first|with_reducible intro _|refine sv ?_|refine sc ?_ ?_<;>(intro h;try exact sz h)|(with_reducible first|apply x_pure|apply d_pure|apply d_pure0);exact gd;exact rfl;exact rfl;exact hplc _ (xk)|refine sg ?_ ?_<;>(intro h;first|exact sz h|refine sy h ?_)|exact sq|fail)
    rename_i n7 MA hnA e11 e12 MX huX e13 aX MC huC e14 aC MD hgD2 e15 hx ME huE e16 aE
    have hkE : Keep (fun i => i = l2) M ME := xk
    exact ⟨hkE.weaken (fun i hi => .inl (.inr hi)), T, fun i hi => ⟨.inl hi, by have := hT i hi; omega⟩, .inl ⟨rfl, h1.trans hkE (fun i hi => .inr (by omega)), fun i hi => by have := h2 i hi; omega, by show II (_ ++ []) T ME; rw [List.append_nil]; exact hsameT ME hkE, h4.keep hkE (by omega), h5.keep hkE (by omega), aE, h7.keep hkE (by omega)⟩⟩
   ·rw [if_pos hu] at hbf
    rw [hbf]
    have haft := fun M' (hk' : Keep (fun i => i = l2) M M') => c_afterD (pk := pk) (c := y) (t := u) (hchk M' hk') hs hy2
    refine round_in hlb h6 rfl ?_
    dsimp only [zipP]
    (have hrd0 := rT;repeat' first|with_reducible intro _|refine sv ?_|refine sc ?_ ?_<;>(intro h;try exact sz h)|(with_reducible first|apply x_pure|apply d_pure|apply d_pure0);exact gd;exact rfl;exact rfl;(first|exact hplc _ (xk)|exact haft _ (xk))|refine sg ?_ ?_<;>(intro h;first|exact sz h|refine sy h ?_)|exact sq|fail)
    rename_i n7 MA hnA e11 e12 MX huX e13 aX MC huC e14 aC MD hgD2 e15 ME hgE e16
    have hkE : Keep (fun i => i = l2) M ME := xk
    have hits2 : befL s tab set c = dn.filterMap (befF2 s tab (restN set (c / 2))) ++ rchF s y u :: rest.filterMap (befF2 s tab (restN set (c / 2))) := by rw [hitems, hits, List.filterMap_append, List.filterMap_cons, hbf]
    have hst := tk.step _ _ _ [.agg (rchc (rchF s y u))] (fun _ => False) T ME hits2 ⟨rfl, fun _ h => h⟩ (by omega) (fun i hi => by have := h2 i hi; omega) (fun _ h => h.elim) (hsameT ME hkE)
    have aE : At ME l2 (lb .busy none) := xm
    refine d_call (by exact gd) rfl rfl (show AppOk Tryz.prog (.func (.yield l) [] []) _ ME _ from hst) ?_
    rintro w MF ⟨hkF, TF, hTF, hres⟩
    have hleF := hkF.le
    have hl2out : ¬ (AA l2 ∨ T l2 ∨ False) := by
     rintro (h | h | h)
     ·have := hAlt _ h; omega
     ·have := (hT _ h).1; omega
     ·exact h
    have aF : At MF l2 (lb .busy none) := aE.keep hkF hl2out
    have hkM : Keep (fun i => (AA i ∨ i = l2) ∨ T i ∨ U i) M MF := hkE.weaken (fun i hi => .inl (.inr hi)) |>.trans hkF (fun i hi => by
     rcases hi with hi | hi | hi
     ·exact .inl (.inl (.inl hi))
     ·exact .inl (.inr (.inl hi))
     ·exact hi.elim)
    have hk0F : Keep AA M0 MF := (h1.trans hkE (fun i hi => .inr (by omega))).trans hkF (fun i hi => by
     rcases hi with hi | hi | hi
     ·exact .inl hi
     ·exact .inr (h2 i hi).1
     ·exact hi.elim)
    have hTF' : ∀ i, TF i -> (T i ∨ U i ∨ M.next <= i) /\ i < MF.next := fun i hi => by
     obtain ⟨q1, q2⟩ := hTF i hi
     refine ⟨?_, q2⟩
     rcases q1 with q1 | q1 | q1
     ·exact .inl q1
     ·exact q1.elim
     ·exact .inr (.inr (by omega))
    have hTFl : ∀ i, TF i -> M0.next <= i /\ i ≠ l2 := fun i hi => by
     rcases (hTF i hi).1 with q1 | q1 | q1
     ·have := hT i q1; have := h2 i q1; omega
     ·exact q1.elim
     ·omega
    have hout : ∀ j, M0.next <= j -> j < M6.next -> ¬ (AA j ∨ T j ∨ False) := fun j j1 j2 h => by
     rcases h with h | h | h
     ·have := hAlt _ h; omega
     ·have := (hT _ h).1; omega
     ·exact h
    have hnyF := (h4.keep hkE (by omega)).keep hkF (hout ny (by omega) (by omega))
    have hn6F := (h5.keep hkE (by omega)).keep hkF (hout n6 (by omega) (by omega))
    have hdF := (h7.keep hkE (by omega)).keep hkF (hout d (by omega) (by omega))
    have hl2F : M0.next <= l2 := by omega
    have hdl2 : d ≠ l2 := by omega
    have hnyl2 : ny ≠ l2 := by omega
    have hn6l2 : n6 ≠ l2 := by omega
    rcases hres with ⟨rfl, hIF⟩ | ⟨rfl, hDF⟩
    ·(repeat' first|with_reducible intro _|refine sv ?_|refine sc ?_ ?_<;>(intro h;try exact sz h)|refine sg ?_ ?_<;>(intro h;first|exact sz h|refine sy h ?_)|exact sq|fail)
     rename_i hx2 MG huG e17 aG
     have hGo : ∀ i, i ≠ l2 -> MG.get i = MF.get i := fun i hi => upd_get_ne huG hi
     exact ⟨hkM.upd huG (.inl (.inl (.inr rfl))), TF, fun i hi => by have := hTF' i hi; rw [e17]; exact this, .inl ⟨rfl, hk0F.upd huG (.inr hl2F), fun i hi => by have := hTFl i hi; have := (hTF' i hi).2; omega, tk.stab _ _ _ _ hIF (by omega) (fun i hi => hGo i (by
      rcases hi with hi | hi
      ·omega
      ·exact (hTFl i hi).2)), hnyF.upd_ne huG hnyl2, hn6F.upd_ne huG hn6l2, aG, hdF.upd_ne huG hdl2⟩⟩
    ·(repeat' first|with_reducible intro _|refine sv ?_|refine sc ?_ ?_<;>(intro h;try exact sz h)|refine sg ?_ ?_<;>(intro h;first|exact sz h|refine sy h ?_)|exact sq|fail)
     rename_i hx2 MG huG e17 aG
     have hGo : ∀ i, i ≠ l2 -> MG.get i = MF.get i := fun i hi => upd_get_ne huG hi
     exact ⟨hkM.upd huG (.inl (.inl (.inr rfl))), TF, fun i hi => by have := hTF' i hi; rw [e17]; exact this, .inr ⟨rfl, hk0F.upd huG (.inr hl2F), fun i hi => by have := hTFl i hi; have := (hTF' i hi).2; omega, tk.stabD _ _ _ hDF (by omega) (fun i hi => hGo i (by
      rcases hi with hi | hi
      ·omega
      ·exact (hTFl i hi).2)), aG, hdF.upd_ne huG hdl2⟩⟩
  ·rintro i (rfl | rfl | rfl) (hi | hi)
   ·have := hAlt _ hi; omega
   ·omega
   ·have := hAlt _ hi; omega
   ·omega
   ·rcases hAm _ hi with h | h | h
    ·exact absurd h hpl.ch.ne
    ·exact absurd h hpl.nc
    ·have := hpl.ch.cells.2; omega
   ·omega
  ·rintro v M7 ⟨hk7, _, T7, hT7, ⟨h1, h2, h3, h4, h5, h6, h7⟩ | ⟨h1, h2, h3, h4, h5⟩⟩
   ·refine k_iter h6 (by simp) fun M8 hu8 e11 a8 => ?_
    have hle8 := hu8.next
    (repeat' first|with_reducible intro _|refine sv ?_|refine sc ?_ ?_<;>(intro h;try exact sz h)|refine sg ?_ ?_<;>(intro h;first|exact sz h|refine sy h ?_)|exact sq|fail)
    refine k_fun_end (.inl rfl) (by simp) (fun d' hd' => by obtain rfl := List.mem_singleton.1 hd'; exact xm) fun M9 hm => ?_
    have hk9 : Keep (fun i => i = l2 ∨ i = d) M7 M9 := ((Keep.refl _ M7).upd hu8 (.inl (.inl rfl))).unmark hm (fun d' hd' => by obtain rfl := List.mem_singleton.1 hd'; exact .inl (.inr rfl))
    refine ⟨_, .nil, (h1.trans hk9 (fun i hi => .inr (by omega))).weaken (fun i hi => .inl hi), trivial, T7, fun i hi => ⟨(h2 i hi).1, by have := (h2 i hi).2; have := hk9.le; omega⟩, .inl ?_⟩
    rw [hitems]
    exact tk.stab _ _ _ _ h3 hk9.le (fun i hi => hk9.old i (by
     rcases hi with hi | hi
     ·have := h1.le; omega
     ·exact (h2 i hi).2) (by
     rcases hi with hi | hi
     ·omega
     ·have := (hT7 i hi).1; omega))
   ·refine k_iter_ret h4 (by simp) fun M8 hu8 e11 a8 => ?_
    (repeat' first|with_reducible intro _|refine sv ?_|refine sc ?_ ?_<;>(intro h;try exact sz h)|refine sg ?_ ?_<;>(intro h;first|exact sz h|refine sy h ?_)|exact sq|fail)
    refine k_fun_end (.inr rfl) (by simp) (fun d' hd' => by obtain rfl := List.mem_singleton.1 hd'; exact xm) fun M9 hm => ?_
    have hk9 : Keep (fun i => i = l2 ∨ i = d) M7 M9 := ((Keep.refl _ M7).upd hu8 (.inl (.inl rfl))).unmark hm (fun d' hd' => by obtain rfl := List.mem_singleton.1 hd'; exact .inl (.inr rfl))
    refine ⟨_, .nil, (h1.trans hk9 (fun i hi => .inr (by omega))).weaken (fun i hi => .inl hi), trivial, T7, fun i hi => ⟨(h2 i hi).1, by have := (h2 i hi).2; have := hk9.le; omega⟩, .inr ?_⟩
    exact tk.stabD _ _ _ h3 hk9.le (fun i hi => hk9.old i (by
     rcases hi with hi | hi
     ·have := h1.le; omega
     ·exact (h2 i hi).2) (by
     rcases hi with hi | hi
     ·omega
     ·have := (hT7 i hi).1; omega))
end Go.Proofs.YtifcpjfpjkoicaaGreat.C
end
