/-
 Part of the proof of CourseMovedUpto: what functions of the program and of the statement come to, walked by the rules. No condition beyond those in each theorem.
-/
import Derived.Test.YtifcpjfpjkoicaaGreatTM
section
open Go PvL Go.Proofs
set_option linter.unusedSimpArgs false
set_option linter.unusedVariables false
namespace Go.Proofs.YtifcpjfpjkoicaaGreat.C
theorem Rd.sub {M : Mem} {i o n : Nat} {l : List LV} (h : Rd M i o n l) {j m : Nat} (hjm : j + m <= n) : Rd M i (o + j) m ((l.drop j).take m) := by
 refine ⟨?_, h.2⟩
 have h1 := h.1
 unfold loadN atCells at h1 ⊢
 obtain ⟨lb, h2, h3⟩ := ob_eq.1 h1
 rw [h2, ob_some]
 cases lb with
 | cells own cs ty =>
  have h3 : take' n (drop' o cs) = some l := h3
  show take' m (drop' (o + j) cs) = _
  obtain ⟨h5, h6⟩ := take'_eq.1 h3
  rw [drop'_eq] at h5 h6
  rw [List.length_drop] at h5
  refine take'_eq.2 ⟨by rw [drop'_eq, List.length_drop]; omega, ?_⟩
  rw [drop'_eq, h6, List.drop_take, List.take_take, List.drop_drop, Nat.min_eq_left (by omega)]
 | _ => cases h3
theorem leg_first {m : Nat} {x : Pt × Pt} {M M' : Mem} {ty : TypeId} (hn : New M m (.cells true (legc x) ty) M') : firstL 4 1 (.slice (some (m, 0)) 1 true 4) M' = some ([x].flatMap legc) :=
 firstL_rd (enc := legc) (l := [x]) (fun _ _ => rfl) (fun k' hk' => rd_flat (enc := legc) (l := [x]) (At.new_same hn) (fun _ _ => rfl) hk')
theorem pt_first {m : Nat} {x : Pt} {M M' : Mem} {ty : TypeId} (hn : New M m (.cells true (ptc x) ty) M') : firstL 2 1 (.slice (some (m, 0)) 1 true 2) M' = some ([x].flatMap ptc) :=
 firstL_rd (enc := ptc) (l := [x]) (fun _ _ => rfl) (fun k' hk' => rd_flat (enc := ptc) (l := [x]) (At.new_same hn) (fun _ _ => rfl) hk')
theorem slc_first {m : Nat} {x : SlT} {M M' : Mem} {ty : TypeId} (hn : New M m (.cells true (slc x) ty) M') : firstL 1 1 (.slice (some (m, 0)) 1 true 1) M' = some ([x].flatMap slc) :=
 firstL_rd (enc := slc) (l := [x]) (fun _ _ => rfl) (fun k' hk' => rd_flat (enc := slc) (l := [x]) (At.new_same hn) (fun _ _ => rfl) hk')
theorem py_of {b : Nat} {ty : TypeId} {M : Mem} {v : LV} {f : List Pt} {N : Nat -> Prop} (h : Vec b 2 ty ptc M v f) (hN : ∀ i, N i -> i < b) (hl : f.length <= 1000000000000000) : ∃ x : SlT, v = .slice x.1 x.2.1 x.2.2.1 x.2.2.2 /\ PyN N M x f := by
 rcases h with ⟨rfl, rfl⟩ | ⟨i, rfl, h2, h3⟩
 ·exact ⟨(none, 0, true, 0), rfl, rfl, hl, .inl rfl⟩
 ·exact ⟨(some (i, 0), f.length, false, 2), rfl, rfl, hl, .inr ⟨i, 0, rfl, fun hn => by have := hN i hn; omega, fun k hk => rd_flat (enc := ptc) h2 (fun _ _ => rfl) hk⟩⟩
abbrev mvL (d : Pt) (l : Pt × Pt) : Pt × Pt := (mvP d l.1, mvP d l.2)
def mvS (d : Pt) (s : Cr) : Cr := { s with lines := s.lines.map (mvL d), fields := s.fields.map (fun f => f.map (mvP d)), buoys := s.buoys.map (mvP d), start := (mvP d s.start.1, s.start.2) }
noncomputable def midB (s : Cr) : Bool := decide (-5000 <= s.spread.1.1 /\ s.spread.1.2 <= 5000) && decide (-5000 <= s.spread.2.1.1 /\ s.spread.2.1.2 <= 5000)
noncomputable def legB (l : Pt × Pt) : Bool := nbB l.1 && nbB l.2
noncomputable def nrB (s : Cr) : Bool := (((midB s && s.lines.all legB) && s.fields.all (fun f => f.all nbB)) && s.buoys.all nbB) && nbB s.start.1
abbrev outc (A : CrA) (s : Cr) (vL vF vB : LV) (st : Pt × Int) : List LV := [vL, vF, vB, I s.spread.1.1, I s.spread.1.2, I s.spread.2.1.1, I s.spread.2.1.2, I s.spread.2.2.1.1, I s.spread.2.2.1.2, I s.spread.2.2.2.1, I s.spread.2.2.2.2,
 I st.1.1, I st.1.2, I st.2, I s.speed, I s.turn, .slice A.aO s.opn.length A.fO 1]
set_option maxHeartbeats 8000000 in
theorem c_moved {A : CrA} {s : Cr} {d : Pt} {M : Mem} (hM : CrM M A s) (h1 : s.lines.length <= 20000000000) (h2 : s.fields.length <= 20000000000) (h3 : s.buoys.length <= 20000000000) (h4 : ∀ f ∈ s.fields, f.length <= 20000000000) :
  CallOk Tryz.prog 4 [crv A s, .agg [I d.1, I d.2]] M (fun w M' => ∃ B, w = .tup [crv B (mvS d s), .bool (nrB s)] /\ CrM M' B (mvS d s) /\ Grow M M') := by
 obtain ⟨aL, fL, aF, fF, aB, fB, aO, fO, eF, eL, eB⟩ := A
 have hlin : SlA 4 legc M aL s.lines := hM.lines
 have hfie : SlE 2 ptc M aF s.fields := hM.fields
 have hbuo : SlA 2 ptc M aB s.buoys := hM.buoys
 refine call_in kq4 rfl ?_
 dsimp only [xq4, qm, qf, ql, qL, qi, qb, qc, qa, qn, qB, qC, qg, qS, qo, qk, qK, qq, qZ, qN, zipE, Nat.reduceAdd]
 have cx := fun M' => c_middle s.spread.1 M'
 have cy := fun M' => c_middle s.spread.2.1 M'
 rcases hm1 : decide (-5000 <= s.spread.1.1 /\ s.spread.1.2 <= 5000) with _ | _
 all_goals rw [hm1] at cx
 (repeat' first|with_reducible intro _|refine sv ?_|refine sc ?_ ?_<;>(intro h;try exact sz h)|(with_reducible first|apply x_pure|apply d_pure|apply d_pure0);exact gd;exact rfl;exact rfl;exact cx _|refine sg ?_ ?_<;>(intro h;first|exact sz h|refine sy h ?_)|exact sq|fail)
 rename_i n2 M2 N2 e2 f2 n3 M3 N3 e3 f3 n4 M4 N4 e4 f4 n6 M5 N6 e6 f6 M6 U6 e6' A6 M7 G7 l7 n8 M8 N8 e8 f8 M9 U9 e9 a8
 have a2 : At M9 n2 (.cells true (crc ⟨aL, fL, aF, fF, aB, fB, aO, fO, eF, eL, eB⟩ s) 35) := by
  have : At M2 n2 (.cells true (crc ⟨aL, fL, aF, fF, aB, fB, aO, fO, eF, eL, eB⟩ s) 35) := At.new_same N2
  exact xm
 have a4 : At M9 n4 (.cells true [.slice none 0 true 0, .slice none 0 true 0, .slice none 0 true 0, I 0, I 0, I 0, I 0, I 0, I 0, I 0, I 0, I 0, I 0, I 0, I 0, I 0, .slice none 0 true 0] 35) := by
  have := At.new_same N4
  exact xm
 have a6 : At M9 n6 (.cells true (outc ⟨aL, fL, aF, fF, aB, fB, aO, fO, eF, eL, eB⟩ s (.slice none 0 true 0) (.slice none 0 true 0) (.slice none 0 true 0) ((0, 0), 0)) 35) := by
  have : At M6 n6 (.cells true (outc ⟨aL, fL, aF, fF, aB, fB, aO, fO, eF, eL, eB⟩ s (.slice none 0 true 0) (.slice none 0 true 0) (.slice none 0 true 0) ((0, 0), 0)) 35) := A6
  exact xm
 have g9 : Grow M M9 := xg
 have o3 : n2 < n4 := by omega
 have o4 : n4 < n6 := by omega
 have o6 : n6 < n8 := by have := G7.le; omega
 have o2 : M.next <= n2 := by omega
 clear N2 N3 N4 N6 U6 A6 G7 N8 U9 cx cy
 rotate_left
 (repeat' first|with_reducible intro _|refine sv ?_|refine sc ?_ ?_<;>(intro h;try exact sz h)|(with_reducible first|apply x_pure|apply d_pure|apply d_pure0);exact gd;exact rfl;exact rfl;(first|exact cx _|exact cy _)|refine sg ?_ ?_<;>(intro h;first|exact sz h|refine sy h ?_)|exact sq|fail)
 rename_i n2 M2 N2 e2 f2 n3 M3 N3 e3 f3 n4 M4 N4 e4 f4 n6 M5 N6 e6 f6 M6 U6 e6' A6 M7 G7 l7 M7b G7b l7b n8 M8 N8 e8 f8 M9 U9 e9 a8
 have a2 : At M9 n2 (.cells true (crc ⟨aL, fL, aF, fF, aB, fB, aO, fO, eF, eL, eB⟩ s) 35) := by
  have : At M2 n2 (.cells true (crc ⟨aL, fL, aF, fF, aB, fB, aO, fO, eF, eL, eB⟩ s) 35) := At.new_same N2
  exact xm
 have a4 : At M9 n4 (.cells true [.slice none 0 true 0, .slice none 0 true 0, .slice none 0 true 0, I 0, I 0, I 0, I 0, I 0, I 0, I 0, I 0, I 0, I 0, I 0, I 0, I 0, .slice none 0 true 0] 35) := by
  have := At.new_same N4
  exact xm
 have a6 : At M9 n6 (.cells true (outc ⟨aL, fL, aF, fF, aB, fB, aO, fO, eF, eL, eB⟩ s (.slice none 0 true 0) (.slice none 0 true 0) (.slice none 0 true 0) ((0, 0), 0)) 35) := by
  have : At M6 n6 (.cells true (outc ⟨aL, fL, aF, fF, aB, fB, aO, fO, eF, eL, eB⟩ s (.slice none 0 true 0) (.slice none 0 true 0) (.slice none 0 true 0) ((0, 0), 0)) 35) := A6
  exact xm
 have g9 : Grow M M9 := xg
 have o3 : n2 < n4 := by omega
 have o4 : n4 < n6 := by omega
 have o6 : n6 < n8 := by have := G7.le; omega
 have o2 : M.next <= n2 := by omega
 clear N2 N3 N4 N6 U6 A6 G7 G7b N8 U9 cx cy
 all_goals
  refine w_loop_ind (fun z E ms M' => ∃ (k : Nat) (vL : LV), z = s.lines.length - k /\ k <= s.lines.length /\ ms = [] /\ Has E [(2, .ptr (some (n2, 0))), (4, .ptr (some (n4, 0))), (6, .ptr (some (n6, 0))), (7, .bool (midB s && (s.lines.take k).all legB)), (8, .ptr (some (n8, 0))), (9, I k)] /\
    Vec M9.next 4 56 legc M' vL ((s.lines.take k).map (mvL d)) /\ At M' n6 (.cells true (outc ⟨aL, fL, aF, fF, aB, fB, aO, fO, eF, eL, eB⟩ s vL (.slice none 0 true 0) (.slice none 0 true 0) ((0, 0), 0)) 35) /\ At M' n2 (.cells true (crc ⟨aL, fL, aF, fF, aB, fB, aO, fO, eF, eL, eB⟩ s) 35) /\
    At M' n4 (.cells true [.slice none 0 true 0, .slice none 0 true 0, .slice none 0 true 0, I 0, I 0, I 0, I 0, I 0, I 0, I 0, I 0, I 0, I 0, I 0, I 0, I 0, .slice none 0 true 0] 35) /\ At M' n8 (.cells true [I d.1, I d.2] 53) /\ Grow M M' /\ M9.next <= M'.next)
   ?_ (s.lines.length - 0) _ _ _ ⟨0, _, rfl, Nat.zero_le _, rfl, .cons rfl (.cons rfl (.cons rfl (.cons (congrArg (fun b => some (LV.bool b)) (by unfold midB; rw [hm1]; simp)) (.cons rfl (.cons rfl .nil))))), Vec.nil, a6, a2, a4, a8, g9, Nat.le_refl _⟩
  rintro z E ms N ⟨k, vL, rfl, hk, rfl, hE, hv, b6, b2, b4, b8, hg, hle⟩
  refine w_has hE ?_
  clear hE
  by_cases hlast : k = s.lines.length
  ·subst hlast
   rw [List.take_length] at hv ⊢
   have w6 : n6 < M9.next := a6.2
   have hvn6 : ¬ NV vL n6 := fun hn => by
    obtain ⟨o', n', f', e', hn⟩ := hn
    rcases hv with ⟨_, hx⟩ | ⟨j, hx, _, hj⟩
    ·rw [hx] at hn; cases hn
    ·rw [hx] at hn; cases hn; omega
   have hvlt : ∀ i, NV vL i -> i < N.next := fun i hi => NV.lt hv hi
   generalize hF1 : (midB s && s.lines.all legB) = F1
   have hg9 := g9.le
   clear a2 a4 a6 a8
   (repeat' first|with_reducible intro _|refine sv ?_|refine sc ?_ ?_<;>(intro h;try exact sz h)|refine sg ?_ ?_<;>(intro h;first|exact sz h|refine sy h ?_)|exact sq|fail)
   refine w_loop_ind (fun z E ms M' => ∃ (k : Nat) (vF : LV) (xs : List SlT), z = s.fields.length - k /\ k <= s.fields.length /\ ms = [] /\ Has E [(2, .ptr (some (n2, 0))), (4, .ptr (some (n4, 0))), (6, .ptr (some (n6, 0))), (7, .bool (F1 && (s.fields.take k).all (fun f => f.all nbB))), (8, .ptr (some (n8, 0))), (10, I k)] /\
     Vec N.next 1 24 slc M' vF xs /\ PyL (fun i => NV vF i ∨ i < N.next) M' xs ((s.fields.take k).map (fun f => f.map (mvP d))) /\ Vec M9.next 4 56 legc M' vL (s.lines.map (mvL d)) /\
     At M' n6 (.cells true (outc ⟨aL, fL, aF, fF, aB, fB, aO, fO, eF, eL, eB⟩ s vL vF (.slice none 0 true 0) ((0, 0), 0)) 35) /\ At M' n2 (.cells true (crc ⟨aL, fL, aF, fF, aB, fB, aO, fO, eF, eL, eB⟩ s) 35) /\
     At M' n4 (.cells true [.slice none 0 true 0, .slice none 0 true 0, .slice none 0 true 0, I 0, I 0, I 0, I 0, I 0, I 0, I 0, I 0, I 0, I 0, I 0, I 0, I 0, .slice none 0 true 0] 35) /\ At M' n8 (.cells true [I d.1, I d.2] 53) /\ Grow M M' /\ N.next <= M'.next)
    ?_ (s.fields.length - 0) _ _ _ ⟨0, _, [], rfl, Nat.zero_le _, rfl, .cons rfl (.cons rfl (.cons rfl (.cons (congrArg (fun b => some (LV.bool b)) (by simp)) (.cons rfl (.cons rfl .nil))))), Vec.nil, .nil, hv, b6, b2, b4, b8, hg, Nat.le_refl _⟩
   rintro z E ms K ⟨k, vF, xs, rfl, hkf, rfl, hE, vf0, py0, vl0, c6, c2, c4, c8, gK, leK⟩
   refine w_has hE ?_
   have w8 : n8 < N.next := b8.2
   clear hE hv b6 b2 b4 b8
   have gKl := gK.le
   by_cases hlast2 : k = s.fields.length
   ·subst hlast2
    rw [List.take_length] at py0 ⊢
    (repeat' first|with_reducible intro _|refine sv ?_|refine sc ?_ ?_<;>(intro h;try exact sz h)|refine sg ?_ ?_<;>(intro h;first|exact sz h|refine sy h ?_)|exact sq|fail)
    generalize hF2 : (F1 && s.fields.all (fun f => f.all nbB)) = F2
    have hvfn6 : ¬ NV vF n6 := fun hn => by
     obtain ⟨o', n', f', e', hn⟩ := hn
     rcases vf0 with ⟨_, hx⟩ | ⟨j, hx, _, hj⟩
     ·rw [hx] at hn; cases hn
     ·rw [hx] at hn; cases hn; omega
    have nvF : ∀ i, NV vF i -> i < K.next := fun i hi => NV.lt vf0 hi
    have py0 := py0.ge (N' := fun i => (NV vF i ∨ i < N.next) ∨ K.next <= i) (fun i hi => hi)
    have x2 := c2.2
    have x4 := c4.2
    have x8 := c8.2
    refine w_loop_ind (fun z E ms M' => ∃ (k : Nat) (vB : LV), z = s.buoys.length - k /\ k <= s.buoys.length /\ ms = [] /\ Has E [(2, .ptr (some (n2, 0))), (4, .ptr (some (n4, 0))), (6, .ptr (some (n6, 0))), (7, .bool (F2 && (s.buoys.take k).all nbB)), (8, .ptr (some (n8, 0))), (13, I k)] /\
      Vec K.next 2 30 ptc M' vB ((s.buoys.take k).map (mvP d)) /\ Vec M9.next 4 56 legc M' vL (s.lines.map (mvL d)) /\ Vec N.next 1 24 slc M' vF xs /\ PyL (fun i => (NV vF i ∨ i < N.next) ∨ K.next <= i) M' xs (s.fields.map (fun f => f.map (mvP d))) /\
      At M' n6 (.cells true (outc ⟨aL, fL, aF, fF, aB, fB, aO, fO, eF, eL, eB⟩ s vL vF vB ((0, 0), 0)) 35) /\ At M' n2 (.cells true (crc ⟨aL, fL, aF, fF, aB, fB, aO, fO, eF, eL, eB⟩ s) 35) /\
      At M' n4 (.cells true [.slice none 0 true 0, .slice none 0 true 0, .slice none 0 true 0, I 0, I 0, I 0, I 0, I 0, I 0, I 0, I 0, I 0, I 0, I 0, I 0, I 0, .slice none 0 true 0] 35) /\ At M' n8 (.cells true [I d.1, I d.2] 53) /\ Grow M M' /\ K.next <= M'.next)
     ?_ (s.buoys.length - 0) _ _ _ ⟨0, _, rfl, Nat.zero_le _, rfl, .cons rfl (.cons rfl (.cons rfl (.cons (congrArg (fun b => some (LV.bool b)) (by simp)) (.cons rfl (.cons rfl .nil))))), Vec.nil, vl0, vf0, py0, c6, c2, c4, c8, gK, Nat.le_refl _⟩
    clear c6 c2 c4 c8 gK vl0 vf0 py0
    rintro z E ms Q ⟨k, vB, rfl, hk, rfl, hE, hv, vl0, vf0, py0, b6, b2, b4, b8, hg, hle⟩
    refine w_has hE ?_
    clear hE
    by_cases hlast : k = s.buoys.length
    ·subst hlast
     rw [List.take_length] at hv ⊢
     (repeat' first|with_reducible intro _|refine sv ?_|refine sc ?_ ?_<;>(intro h;try exact sz h)|refine sg ?_ ?_<;>(intro h;first|exact sz h|refine sy h ?_)|exact sq|fail)
     generalize hF3 : (F2 && s.buoys.all nbB) = F3
     have cA := fun p M' => c_shadd d p M'
     have nA := fun M' => c_near s.start.1 M'
     obtain ⟨lA, lF, lE, rfl⟩ := vl0.shape
     obtain ⟨fA, fF', fE, rfl, -⟩ := py_vec vf0 py0
     obtain ⟨bA, bF, bE, rfl⟩ := hv.shape
     have hvb : ∀ i, i < K.next -> ¬ NV (.slice bA (s.buoys.map (mvP d)).length bF bE) i := fun i h1 h2 => by have := NV.ge hv h2; omega
     have hvf : ∀ i, i < N.next -> ¬ NV (.slice fA (s.fields.map (fun f => f.map (mvP d))).length fF' fE) i := fun i h1 h2 => by have := NV.ge vf0 h2; omega
     have hvl4 : ∀ i, i < M9.next -> ¬ NV (.slice lA (s.lines.map (mvL d)).length lF lE) i := fun i h1 h2 => by have := NV.ge vl0 h2; omega
     cases F3
     ·(repeat' first|with_reducible intro _|refine sv ?_|refine sc ?_ ?_<;>(intro h;try exact sz h)|(with_reducible first|apply x_pure|apply d_pure|apply d_pure0);exact gd;exact rfl;exact rfl;exact cA _ _|refine sg ?_ ?_<;>(intro h;first|exact sz h|refine sy h ?_)|exact sq|fail)
      rename_i P1 g1 l1 P2 U2 r2 t2 P4 U4 r4 t4
      have g3 : Grow P2 P2 := Grow.refl _
      have hnr : nrB s = false := by unfold nrB; rw [hF1, hF2, hF3]; rfl
      have hu2 : Keep (fun i => i = n6) P1 P2 := (Keep.refl (fun i => i = n6) P1).upd U2 (.inl rfl)
      have hu4 : Keep (fun i => i = n4) P2 P4 := (Keep.refl (fun i => i = n4) P2).upd U4 (.inl rfl)
      have vl4 := Vec.keepN (Vec.keepN (vl0.grow g1) hu2 (fun i hi hn => by subst hi; exact hvl4 _ (by omega) hn) |>.grow g3) hu4 (fun i hi hn => by subst hi; exact hvl4 _ (by omega) hn)
      have vf4 := Vec.keepN (Vec.keepN (vf0.grow g1) hu2 (fun i hi hn => by subst hi; exact hvf _ (by omega) hn) |>.grow g3) hu4 (fun i hi hn => by subst hi; exact hvf _ (by omega) hn)
      have vb4 := Vec.keepN (Vec.keepN (hv.grow g1) hu2 (fun i hi hn => by subst hi; exact hvb _ (by omega) hn) |>.grow g3) hu4 (fun i hi hn => by subst hi; exact hvb _ (by omega) hn)
      have py4 := (((py0.keep (g1.to_keep (fun _ => False)) (fun _ h => h.elim)).keep hu2 (fun i hi => .inl (.inr (by subst hi; omega)))).keep (g3.to_keep (fun _ => False)) (fun _ h => h.elim)).keep hu4 (fun i hi => .inl (.inr (by subst hi; omega)))
      have gE : Grow M P4 := Keep.to_grow' ((Keep.to_grow' (hg.trans g1) hu2 (fun i hi => by omega)).trans g3) hu4 (fun i hi => by omega)
      obtain ⟨a1, f1, e1, hx1, hL4⟩ := vl4.rd (fun _ _ => rfl)
      cases hx1
      obtain ⟨a2, f2, e2, hx2, hF4⟩ := py_vec vf4 py4
      cases hx2
      obtain ⟨a3, f3, e3, hx3, hB4⟩ := vb4.rd (fun _ _ => rfl)
      cases hx3
      (refine kf ?_)
      refine ⟨⟨lA, lF, fA, fF', bA, bF, aO, fO, fE, lE, bE⟩, ?_, ⟨hL4, hF4, hB4, hM.opn.grow gE, ?_, ?_, ?_, hM.no⟩, gE⟩
      ·rw [hnr]; rfl
      ·show (s.lines.map (mvL d)).length <= _; rw [List.length_map]; omega
      ·show (s.fields.map (fun f => f.map (mvP d))).length <= _; rw [List.length_map]; omega
      ·show (s.buoys.map (mvP d)).length <= _; rw [List.length_map]; omega
     ·(repeat' first|with_reducible intro _|refine sv ?_|refine sc ?_ ?_<;>(intro h;try exact sz h)|(with_reducible first|apply x_pure|apply d_pure|apply d_pure0);exact gd;exact rfl;exact rfl;(first|exact cA _ _|exact nA _)|refine sg ?_ ?_<;>(intro h;first|exact sz h|refine sy h ?_)|exact sq|fail)
      rename_i P1 g1 l1 P2 U2 r2 t2 P3 g3 l3 P4 U4 r4 t4
      have hnr : nrB s = nbB s.start.1 := by unfold nrB; rw [hF1, hF2, hF3]; rfl
      have hu2 : Keep (fun i => i = n6) P1 P2 := (Keep.refl (fun i => i = n6) P1).upd U2 (.inl rfl)
      have hu4 : Keep (fun i => i = n4) P3 P4 := (Keep.refl (fun i => i = n4) P3).upd U4 (.inl rfl)
      have vl4 := Vec.keepN (Vec.keepN (vl0.grow g1) hu2 (fun i hi hn => by subst hi; exact hvl4 _ (by omega) hn) |>.grow g3) hu4 (fun i hi hn => by subst hi; exact hvl4 _ (by omega) hn)
      have vf4 := Vec.keepN (Vec.keepN (vf0.grow g1) hu2 (fun i hi hn => by subst hi; exact hvf _ (by omega) hn) |>.grow g3) hu4 (fun i hi hn => by subst hi; exact hvf _ (by omega) hn)
      have vb4 := Vec.keepN (Vec.keepN (hv.grow g1) hu2 (fun i hi hn => by subst hi; exact hvb _ (by omega) hn) |>.grow g3) hu4 (fun i hi hn => by subst hi; exact hvb _ (by omega) hn)
      have py4 := (((py0.keep (g1.to_keep (fun _ => False)) (fun _ h => h.elim)).keep hu2 (fun i hi => .inl (.inr (by subst hi; omega)))).keep (g3.to_keep (fun _ => False)) (fun _ h => h.elim)).keep hu4 (fun i hi => .inl (.inr (by subst hi; omega)))
      have gE : Grow M P4 := Keep.to_grow' ((Keep.to_grow' (hg.trans g1) hu2 (fun i hi => by omega)).trans g3) hu4 (fun i hi => by omega)
      obtain ⟨a1, f1, e1, hx1, hL4⟩ := vl4.rd (fun _ _ => rfl)
      cases hx1
      obtain ⟨a2, f2, e2, hx2, hF4⟩ := py_vec vf4 py4
      cases hx2
      obtain ⟨a3, f3, e3, hx3, hB4⟩ := vb4.rd (fun _ _ => rfl)
      cases hx3
      (refine kf ?_)
      refine ⟨⟨lA, lF, fA, fF', bA, bF, aO, fO, fE, lE, bE⟩, ?_, ⟨hL4, hF4, hB4, hM.opn.grow gE, ?_, ?_, ?_, hM.no⟩, gE⟩
      ·rw [hnr]; rfl
      ·show (s.lines.map (mvL d)).length <= _; rw [List.length_map]; omega
      ·show (s.fields.map (fun f => f.map (mvP d))).length <= _; rw [List.length_map]; omega
      ·show (s.buoys.map (mvP d)).length <= _; rw [List.length_map]; omega
    have hlt : k < s.buoys.length := by omega
    obtain ⟨i, o, rfl, hq0⟩ := hbuo.resolve_left (fun h => by rw [h] at hlt; exact absurd hlt (Nat.not_lt_zero _))
    have hrp := (hq0 k hlt).grow hg
    have cA := fun p M' => c_shadd d p M'
    have hvl : ((s.buoys.take k).map (mvP d)).length = k := by rw [List.length_map, List.length_take]; omega
    have hi1 : i < M.next := (hq0 k hlt).2
    (have hrd0 := hrp;repeat' first|with_reducible intro _|refine sv ?_|refine sc ?_ ?_<;>(intro h;try exact sz h)|(with_reducible first|apply x_pure|apply d_pure|apply d_pure0);exact gd;exact rfl;exact rfl;exact cA _ _|refine sg ?_ ?_<;>(intro h;first|exact sz h|refine sy h ?_)|exact sq|fail)
    rename_i P1 q1 r1 m3 P3 q3 r3 t3
    have gP3 : Grow Q P3 := xg
    have hfw := pt_first (x := mvP d s.buoys[k]) q3
    have v3 := hv.grow gP3
    have vl3 := vl0.grow gP3
    have vf3 := vf0.grow gP3
    have py3 := py0.keep (gP3.to_keep (fun _ => False)) (fun _ h => h.elim)
    have gN3 := hg.trans gP3
    have c6 := At.grow gP3 b6
    have c2 := At.grow gP3 b2
    have c4 := At.grow gP3 b4
    have c8 := At.grow gP3 b8
    have hle3 : K.next <= P3.next := by have := gP3.le; omega
    refine d_vec_appx (by exact gd) (l' := [mvP d s.buoys[k]]) v3 rfl rfl rfl (by simp) (by rw [hvl]; simp; omega) rfl hfw (fun _ => rfl) (fun _ => rfl) hle3 ?_
    rintro v5 P5 hv5 e5 k5 ⟨n5, f5, q5, rfl⟩
    have d6 := c6.keep k5 (fun h => by have := h.1; omega)
    have d2 := c2.keep k5 (fun h => by have := h.1; omega)
    have d4 := c4.keep k5 (fun h => by have := h.1; omega)
    have d8 := c8.keep k5 (fun h => by have := h.1; omega)
    have vl5 := Vec.keepN vl3 k5 (fun i hi hn => by have := hvlt i hn; have := hi.1; omega)
    have vf5 := Vec.keepN vf3 k5 (fun i hi hn => by have := nvF i hn; have := hi.1; omega)
    have py5 := py3.keep k5 (fun i hi => .inr hi.1)
    have hrp5 := (hrp.grow gP3).keep k5 (fun h => by have := h.1; omega)
    have gP5 : Grow M P5 := Keep.to_grow' gN3 k5 (fun i hi => by have := hi.1; omega)
    have htk : (s.buoys.take (k + 1)).map (mvP d) = (s.buoys.take k).map (mvP d) ++ [mvP d s.buoys[k]] := by
     rw [List.take_succ_eq_append_getElem hlt, List.map_append]; rfl
    obtain ⟨j, hj1, hj2, hj3⟩ := hv5.resolve_left (fun h => by have := congrArg List.length h.1; rw [List.length_append] at this; simp at this)
    obtain rfl : j = P3.next := NV.some (j := P3.next) (o := 0) (n := n5) (f := f5) (e := q5) ⟨_, _, _, _, hj1⟩
    have hstep : (F2 && (s.buoys.take (k + 1)).all nbB) = ((F2 && (s.buoys.take k).all nbB) && nbB s.buoys[k]) := by
     rw [List.take_succ_eq_append_getElem hlt, List.all_append, Bool.and_assoc]; simp
    have nA := fun M' => c_near s.buoys[k] M'
    generalize (F2 && (s.buoys.take k).all nbB) = fl at *
    cases fl
    all_goals
     (have hrd0 := hrp;repeat' first|with_reducible intro _|refine sv ?_|refine sc ?_ ?_<;>(intro h;try exact sz h)|refine sg ?_ ?_<;>(intro h;first|exact sz h|refine sy h ?_)|exact sq|fail)
     rename_i P6 U6 r6 t6
     have hu6 : Keep (fun i => i = n6) P5 P6 := (Keep.refl (fun i => i = n6) P5).upd U6 (.inl rfl)
     have vl6 := Vec.keepN vl5 hu6 (fun i hi hn => by subst hi; exact hvn6 hn)
     have vf6 := Vec.keepN vf5 hu6 (fun i hi hn => by subst hi; exact hvfn6 hn)
     have py6 := py5.keep hu6 (fun i hi => .inl (.inr (by subst hi; omega)))
    ·refine k_step (s.buoys.length - (k + 1)) (by omega) ⟨k + 1, _, rfl, by omega, rfl, .cons rfl (.cons rfl (.cons rfl (.cons (congrArg (fun b => some (LV.bool b)) (by rw [hstep]; simp)) (.cons rfl (.cons rfl .nil))))), by rw [htk]; exact .inr ⟨P3.next, hj1, xm, hj3⟩, vl6, vf6, py6, xm, xm, xm, xm, xg, by omega⟩
    ·have hrp6 := hrp5.keep hu6 (by omega)
     clear hrp hrp5 b6 b2 b4 b8 c6 c2 c4 c8
     (have hrd0 := hrp6;repeat' first|with_reducible intro _|refine sv ?_|refine sc ?_ ?_<;>(intro h;try exact sz h)|(with_reducible first|apply x_pure|apply d_pure|apply d_pure0);exact gd;exact rfl;exact rfl;exact nA _|refine sg ?_ ?_<;>(intro h;first|exact sz h|refine sy h ?_)|exact sq|fail)
     rename_i P7 g7 l7
     refine k_step (s.buoys.length - (k + 1)) (by omega) ⟨k + 1, _, rfl, by omega, rfl, .cons rfl (.cons rfl (.cons rfl (.cons (congrArg (fun b => some (LV.bool b)) (by rw [hstep]; simp)) (.cons rfl (.cons rfl .nil))))), by rw [htk]; exact .inr ⟨P3.next, hj1, xm, hj3⟩, vl6.grow g7, vf6.grow g7, py6.keep (g7.to_keep (fun _ => False)) (fun _ h => h.elim), xm, xm, xm, xm, xg, by omega⟩
   have hltF : k < s.fields.length := by omega
   obtain ⟨i, o, rfl, hqF⟩ := hfie.resolve_left (fun h => by rw [h] at hltF; exact absurd hltF (Nat.not_lt_zero _))
   obtain ⟨aP, fP, qP, hqr, hsP, hlP⟩ := hqF k hltF
   have hr1 := hqr.grow gK
   have hfl := h4 _ (List.getElem_mem hltF)
   have hstF : (F1 && (s.fields.take (k + 1)).all (fun f => f.all nbB)) = ((F1 && (s.fields.take k).all (fun f => f.all nbB)) && s.fields[k].all nbB) := by
    rw [List.take_succ_eq_append_getElem hltF, List.all_append, Bool.and_assoc]; simp
   have htF : (s.fields.take (k + 1)).map (fun f => f.map (mvP d)) = (s.fields.take k).map (fun f => f.map (mvP d)) ++ [s.fields[k].map (mvP d)] := by
    rw [List.take_succ_eq_append_getElem hltF, List.map_append]; rfl
   generalize hFk : (F1 && (s.fields.take k).all (fun f => f.all nbB)) = Fk at *
   have hcF : Rd1 K n2 (0 + 1) (.slice (some (i, o)) s.fields.length fF eF) := Rd1.of_at c2 rfl
   (have hrd0 := hr1;repeat' first|with_reducible intro _|refine sv ?_|refine sc ?_ ?_<;>(intro h;try exact sz h)|refine sg ?_ ?_<;>(intro h;first|exact sz h|refine sy h ?_)|exact sq|fail)
   refine w_loop_ind (fun z E ms M' => ∃ (j : Nat) (vp : LV), z = s.fields[k].length - j /\ j <= s.fields[k].length /\ ms = [] /\ Has E [(2, .ptr (some (n2, 0))), (4, .ptr (some (n4, 0))), (6, .ptr (some (n6, 0))), (7, .bool (Fk && (s.fields[k].take j).all nbB)), (8, .ptr (some (n8, 0))), (10, I k), (11, vp), (12, I j)] /\
     Vec K.next 2 30 ptc M' vp ((s.fields[k].take j).map (mvP d)) /\ Grow K M')
    ?_ (s.fields[k].length - 0) _ _ _ ⟨0, _, rfl, Nat.zero_le _, rfl, .cons rfl (.cons rfl (.cons rfl (.cons (congrArg (fun b => some (LV.bool b)) (by simp)) (.cons rfl (.cons rfl (.cons rfl (.cons rfl .nil))))))), Vec.nil, Grow.refl _⟩
   rintro z E ms J ⟨j, vp, rfl, hj, rfl, hE, vp0, gJ⟩
   refine w_has hE ?_
   clear hE
   have e2 := At.grow gJ c2
   have e8 := At.grow gJ c8
   have e6 := At.grow gJ c6
   have e4 := At.grow gJ c4
   have hr1J := hr1.grow gJ
   have gMJ := gK.trans gJ
   have gJl := gJ.le
   by_cases hlastj : j = s.fields[k].length
   ·subst hlastj
    rw [List.take_length] at vp0 ⊢
    obtain ⟨⟨xa, xn, xf, xe⟩, rfl, hpx⟩ := py_of vp0 (N := fun i => NV vF i ∨ i < N.next) (fun i hi => hi.elim (fun h => NV.lt vf0 h) (fun h => by omega)) (by rw [List.length_map]; omega)
    have vfJ := vf0.grow gJ
    have vlJ := vl0.grow gJ
    have pyJ := py0.keep (gJ.to_keep (fun _ => False)) (fun _ h => h.elim)
    (have hrd0 := hr1J;repeat' first|with_reducible intro _|refine sv ?_|refine sc ?_ ?_<;>(intro h;try exact sz h)|refine sg ?_ ?_<;>(intro h;first|exact sz h|refine sy h ?_)|exact sq|fail)
    all_goals try (exfalso; omega)
    rename_i m5 J5 q5 r5 t5
    have gJ5 : Grow J J5 := q5.grow
    have hfw := slc_first (x := (xa, xn, xf, xe)) q5
    have vf5 := vfJ.grow gJ5
    have vl5 := vlJ.grow gJ5
    have py5 := (pyJ.snoc hpx).keep (gJ5.to_keep (fun _ => False)) (fun _ h => h.elim)
    have g2 := At.grow gJ5 e2
    have g4 := At.grow gJ5 e4
    have g6 := At.grow gJ5 e6
    have g8 := At.grow gJ5 e8
    have gM5 := gMJ.trans gJ5
    have hxl := py0.len
    have leJ5 : N.next <= J5.next := by have := gJ5.le; omega
    rw [List.length_map, List.length_take] at hxl
    clear q5 vfJ vlJ pyJ e2 e4 e6 e8 gJ vf0 py0 vl0 c2 c4 c6 c8 gK gMJ hr1J hr1 hqr hcF
    refine x_vec_appx (by exact gd) (l' := [((xa, xn, xf, xe) : SlT)]) vf5 rfl rfl rfl (by simp) (by simp; omega) rfl hfw (fun _ => rfl) (fun _ => rfl) leJ5 ?_
    rintro v6 J6 hv6 e6' k6 ⟨n6', f6', q6', rfl⟩
    have d2 := g2.keep k6 (fun h => by have := h.1; omega)
    have d4 := g4.keep k6 (fun h => by have := h.1; omega)
    have d6 := g6.keep k6 (fun h => by have := h.1; omega)
    have d8 := g8.keep k6 (fun h => by have := h.1; omega)
    have vl6 := Vec.keepN vl5 k6 (fun i hi hn => by have := hvlt i hn; have := hi.1; omega)
    have py6 : PyL (fun i => NV (.slice (some (J5.next, 0)) n6' f6' q6') i ∨ i < N.next) J6 (xs ++ [((xa, xn, xf, xe) : SlT)]) ((s.fields.take (k + 1)).map (fun f => f.map (mvP d))) := by
     rw [htF]
     exact ((py5.ge (N' := fun i => (NV vF i ∨ i < N.next) ∨ i = J5.next) (fun i hi => hi.imp id fun h => by omega)).keep k6 (fun i hi => .inl (.inl hi.2))).ge (fun i hi => .inl (hi.elim (fun h => .inr (NV.some h)) (fun h => .inl (.inr h))))
    have gM6 : Grow M J6 := Keep.to_grow' gM5 k6 (fun i hi => by have := hi.1; omega)
    clear py5 vf5 vl5 g2 g4 g6 g8 gJ5 k6 gM5
    (repeat' first|with_reducible intro _|refine sv ?_|refine sc ?_ ?_<;>(intro h;try exact sz h)|refine sg ?_ ?_<;>(intro h;first|exact sz h|refine sy h ?_)|exact sq|fail)
    rename_i J7 U7 r7 t7
    have hu7 : Keep (fun i => i = n6) J6 J7 := (Keep.refl (fun i => i = n6) J6).upd U7 (.inl rfl)
    have nv6 : n6 ≠ J5.next := by omega
    refine k_step (s.fields.length - (k + 1)) (by omega) ⟨k + 1, _, _, rfl, by omega, rfl, .cons rfl (.cons rfl (.cons rfl (.cons (congrArg (fun b => some (LV.bool b)) hstF.symm) (.cons rfl (.cons rfl .nil))))), Vec.keepN hv6 hu7 (fun i hi hn => by have := NV.some hn; omega), py6.keep hu7 (fun i hi => .inr (by subst hi; omega)), Vec.keepN vl6 hu7 (fun i hi hn => by subst hi; exact hvn6 hn), xm, xm, xm, xm, xg, by omega⟩
   have hjl : j < s.fields[k].length := by omega
   obtain ⟨i2, o2, rfl, hq2⟩ := hsP.resolve_left (fun h => by rw [h] at hjl; exact absurd hjl (Nat.not_lt_zero _))
   have hrp := (hq2 j hjl).grow gMJ
   have cA := fun p M' => c_shadd d p M'
   have hvl : ((s.fields[k].take j).map (mvP d)).length = j := by rw [List.length_map, List.length_take]; omega
   (have hrd0 := hrp;have hrd1 := hr1J;repeat' first|with_reducible intro _|refine sv ?_|refine sc ?_ ?_<;>(intro h;try exact sz h)|(with_reducible first|apply x_pure|apply d_pure|apply d_pure0);exact gd;exact rfl;exact rfl;exact cA _ _|refine sg ?_ ?_<;>(intro h;first|exact sz h|refine sy h ?_)|exact sq|fail)
   all_goals try (exfalso; omega)
   rename_i P1 q1 r1 m3 P3 q3 r3 t3
   have gP3 : Grow J P3 := xg
   have hfw := pt_first (x := mvP d s.fields[k][j]) q3
   have v3 := vp0.grow gP3
   have leP3 : K.next <= P3.next := by have := gP3.le; omega
   have hi2 : i2 < M.next := (hq2 j hjl).2
   have hi1 : i < M.next := hqr.2
   have x2 := c2.2
   have x8 := c8.2
   refine d_vec_appx (by exact gd) (l' := [mvP d s.fields[k][j]]) v3 rfl rfl rfl (by simp) (by rw [hvl]; simp; omega) rfl hfw (fun _ => rfl) (fun _ => rfl) leP3 ?_
   rintro v5 P5 hv5 e5 k5 ⟨n5, f5, q5, rfl⟩
   have d2 := (At.grow gP3 e2).keep k5 (fun h => by have := h.1; omega)
   have hrp5 := (hrp.grow gP3).keep k5 (fun h => by have := h.1; omega)
   have hr15 := (hr1J.grow gP3).keep k5 (fun h => by have := h.1; omega)
   have gK5 : Grow K P5 := Keep.to_grow' (gJ.trans gP3) k5 (fun i hi => hi.1)
   have nA := fun M' => c_near s.fields[k][j] M'
   have htj : (s.fields[k].take (j + 1)).map (mvP d) = (s.fields[k].take j).map (mvP d) ++ [mvP d s.fields[k][j]] := by
    rw [List.take_succ_eq_append_getElem hjl, List.map_append]; rfl
   have hstj : (Fk && (s.fields[k].take (j + 1)).all nbB) = ((Fk && (s.fields[k].take j).all nbB) && nbB s.fields[k][j]) := by
    rw [List.take_succ_eq_append_getElem hjl, List.all_append, Bool.and_assoc]; simp
   obtain ⟨jj, hj1, hj2, hj3⟩ := hv5.resolve_left (fun h => by have := congrArg List.length h.1; rw [List.length_append] at this; simp at this)
   obtain rfl : jj = P3.next := NV.some (j := P3.next) (o := 0) (n := n5) (f := f5) (e := q5) ⟨_, _, _, _, hj1⟩
   generalize (Fk && (s.fields[k].take j).all nbB) = Fj at *
   cases Fj
   all_goals
    (have hrd0 := hrp;have hrd1 := hr1J;have hrd2 := hrp5;have hrd3 := hr15;repeat' first|with_reducible intro _|refine sv ?_|refine sc ?_ ?_<;>(intro h;try exact sz h)|(with_reducible first|apply x_pure|apply d_pure|apply d_pure0);exact gd;exact rfl;exact rfl;exact nA _|refine sg ?_ ?_<;>(intro h;first|exact sz h|refine sy h ?_)|exact sq|fail)
   all_goals
    refine k_step (s.fields[k].length - (j + 1)) (by omega) ⟨j + 1, _, rfl, by omega, rfl, .cons rfl (.cons rfl (.cons rfl (.cons (congrArg (fun b => some (LV.bool b)) (by rw [hstj]; simp)) (.cons rfl (.cons rfl (.cons rfl (.cons rfl .nil))))))), by rw [htj]; exact .inr ⟨P3.next, hj1, xm, hj3⟩, xg⟩
  have hlt : k < s.lines.length := by omega
  obtain ⟨i, o, rfl, hq0⟩ := hlin.resolve_left (fun h => by rw [h] at hlt; exact absurd hlt (Nat.not_lt_zero _))
  have hrd := (hq0 k hlt).grow hg
  have hrA : Rd N i (o + k * 4 + 0) 2 [I s.lines[k].1.1, I s.lines[k].1.2] := Rd.sub hrd (j := 0) (m := 2) (by omega)
  have hrB : Rd N i (o + k * 4 + 2) 2 [I s.lines[k].2.1, I s.lines[k].2.2] := Rd.sub hrd (j := 2) (m := 2) (by omega)
  have cA := fun p M' => c_shadd d p M'
  have hvl : ((s.lines.take k).map (mvL d)).length = k := by rw [List.length_map, List.length_take]; omega
  have ho6 : n6 < M9.next := a6.2
  (have hrd0 := hrA;have hrd1 := hrB;repeat' first|with_reducible intro _|refine sv ?_|refine sc ?_ ?_<;>(intro h;try exact sz h)|(with_reducible first|apply x_pure|apply d_pure|apply d_pure0);exact gd;exact rfl;exact rfl;exact cA _ _|refine sg ?_ ?_<;>(intro h;first|exact sz h|refine sy h ?_)|exact sq|fail)
  rename_i P1 q1 r1 P2 q2 r2 m3 P3 q3 r3 t3
  have gP3 : Grow N P3 := xg
  have hfw := leg_first (x := mvL d s.lines[k]) q3
  have v3 := hv.grow gP3
  have gN3 := hg.trans gP3
  have c6 := At.grow gP3 b6
  have c2 := At.grow gP3 b2
  have c4 := At.grow gP3 b4
  have c8 := At.grow gP3 b8
  have hle3 : M9.next <= P3.next := by have := gP3.le; omega
  refine d_vec_appx (by exact gd) (l' := [mvL d s.lines[k]]) v3 rfl rfl rfl (by simp) (by rw [hvl]; simp; omega) rfl hfw (fun _ => rfl) (fun _ => rfl) hle3 ?_
  rintro v5 P5 hv5 e5 k5 ⟨n5, f5, q5, rfl⟩
  have d6 := c6.keep k5 (fun h => by have := h.1; omega)
  have d2 := c2.keep k5 (fun h => by have := h.1; omega)
  have d4 := c4.keep k5 (fun h => by have := h.1; omega)
  have d8 := c8.keep k5 (fun h => by have := h.1; omega)
  have him : i < M.next := (hq0 k hlt).2
  have hg9 := g9.le
  have hrA5 := (hrA.grow gP3).keep k5 (fun h => by have := h.1; omega)
  have hrB5 := (hrB.grow gP3).keep k5 (fun h => by have := h.1; omega)
  have gP5 : Grow M P5 := Keep.to_grow' gN3 k5 (fun i hi => by have := hi.1; omega)
  have htk : (s.lines.take (k + 1)).map (mvL d) = (s.lines.take k).map (mvL d) ++ [mvL d s.lines[k]] := by
   rw [List.take_succ_eq_append_getElem hlt, List.map_append]; rfl
  obtain ⟨j, hj1, hj2, hj3⟩ := hv5.resolve_left (fun h => by have := congrArg List.length h.1; rw [List.length_append] at this; simp at this)
  obtain rfl : j = P3.next := NV.some (j := P3.next) (o := 0) (n := n5) (f := f5) (e := q5) ⟨_, _, _, _, hj1⟩
  have fnl : ∀ (b : Bool), b = (midB s && (s.lines.take (k + 1)).all legB) -> some (LV.bool b) = some (LV.bool (midB s && (s.lines.take (k + 1)).all legB)) := fun b hb => by rw [hb]
  have hstep : (midB s && (s.lines.take (k + 1)).all legB) = ((midB s && (s.lines.take k).all legB) && legB s.lines[k]) := by
   rw [List.take_succ_eq_append_getElem hlt, List.all_append, Bool.and_assoc]; simp
  have nA := fun M' => c_near s.lines[k].1 M'
  have nB := fun M' => c_near s.lines[k].2 M'
  have hlg : legB s.lines[k] = (nbB s.lines[k].1 && nbB s.lines[k].2) := rfl
  generalize (midB s && (s.lines.take k).all legB) = fl at *
  generalize nbB s.lines[k].1 = fa at *
  generalize nbB s.lines[k].2 = fb at *
  cases fl <;> cases fa
  all_goals
   (have hrd0 := hrA5;have hrd1 := hrB5;repeat' first|with_reducible intro _|refine sv ?_|refine sc ?_ ?_<;>(intro h;try exact sz h)|(with_reducible first|apply x_pure|apply d_pure|apply d_pure0);exact gd;exact rfl;exact rfl;(first|exact nA _|exact nB _)|refine sg ?_ ?_<;>(intro h;first|exact sz h|refine sy h ?_)|exact sq|fail)
  all_goals
   refine k_step (s.lines.length - (k + 1)) (by omega) ⟨k + 1, _, rfl, by omega, rfl, .cons rfl (.cons rfl (.cons rfl (.cons (fnl _ (by rw [hstep, hlg]; simp)) (.cons rfl (.cons rfl .nil))))), by rw [htk]; exact .inr ⟨P3.next, hj1, xm, hj3⟩, xm, xm, xm, xm, xg, by omega⟩
end Go.Proofs.YtifcpjfpjkoicaaGreat.C
end
