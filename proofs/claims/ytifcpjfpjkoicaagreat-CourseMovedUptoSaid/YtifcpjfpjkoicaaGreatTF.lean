/-
 Part of the proof of CourseMovedUpto: what functions of the program and of the statement come to, walked by the rules. No condition beyond those in each theorem.
-/
import Derived.Test.YtifcpjfpjkoicaaGreatTE
section
open Go PvL Go.Proofs
set_option linter.unusedVariables false
set_option linter.unusedSimpArgs false
namespace Go.Proofs.YtifcpjfpjkoicaaGreat.C
abbrev offV (nc na nb ny : Nat) : LV := .func (.func 71) [] [.ptr (some (nc, 0)), .ptr (some (na, 0)), .ptr (some (nb, 0)), .ptr (some (ny, 0))]
abbrev nxtV (nof nb nc nnx : Nat) : LV := .func (.func 74) [] [.ptr (some (nof, 0)), .ptr (some (nb, 0)), .ptr (some (nc, 0)), .ptr (some (nnx, 0))]
abbrev posc (p : Pose) : List LV := [I p.1.1, I p.1.2, I p.2]
theorem rd_pts {M : Mem} {p : Nat} {own : Bool} {l : List Pt} {ty : TypeId} (h : At M p (.cells own (l.flatMap ptc) ty)) : ∀ k (hk : k < l.length), Rd M p (0 + k * 2) 2 (ptc l[k]) := fun k hk => rd_flat h (fun x _ => rfl) hk
theorem KnM.ne_at {M : Mem} {s : Cr} {pm i : Nat} {own : Bool} {cs : List LV} {ty : TypeId} (h : KnM M s pm) (ha : At M i (.cells own cs ty)) : i ≠ pm := by
 rintro rfl
 obtain ⟨L, h1, _⟩ := h
 have h2 := ha.1
 rw [h1.1] at h2
 cases h2
structure PsB (M : Mem) (A : CrA) (s : Cr) (a b : Pose) (pc pm na nb nc : Nat) : Prop where
 ch : ChM M A s pc pm
 c : At M nc (.cells true [.ptr (some (pc, 0))] 74)
 a : At M na (.cells true (posc a) 88)
 b : At M nb (.cells true (posc b) 88)
theorem PsB.keepm {M M' : Mem} {A : CrA} {s : Cr} {a b : Pose} {pc pm na nb nc : Nat} (h : PsB M A s a b pc pm na nb nc) (hk : Keep (fun i => i = pm) M M') (hkn : KnM M' s pm) : PsB M' A s a b pc pm na nb nc :=
 ⟨h.ch.keepm hk hkn, h.c.keep hk (h.ch.known.ne_at h.c), h.a.keep hk (h.ch.known.ne_at h.a), h.b.keep hk (h.ch.known.ne_at h.b)⟩
def PsgR (x : Psg) (v : List LV) (U : Nat -> Prop) (M : Mem) : Prop := ∃ p, v = [.agg [slp x.1.length p, I x.2]] /\ (∀ i, U i ↔ i = p) /\ At M p (.cells true (x.1.flatMap ptc) 30)
structure PsX (MB : Mem) (A : CrA) (s : Cr) (a b : Pose) (pc pm na nb nc : Nat) (items : List Psg) (ll : Nat) (AA : Nat -> Prop) (II : List Psg -> (Nat -> Prop) -> Mem -> Prop) (DD : (Nat -> Prop) -> Mem -> Prop) (N0 : Nat) : Prop where
 pb : PsB MB A s a b pc pm na nb nc
 hs : CrOk s
 ha : PoseOk a
 hb : PoseOk b
 tk : Taker Tryz.prog items PsgR ll AA (fun i => i = pm) II DD N0
 ab : ∀ i, AA i -> MB.next <= i
 n0 : MB.next <= N0
section
variable {MB : Mem} {A : CrA} {s : Cr} {a b : Pose} {pc pm na nb nc : Nat} {items : List Psg} {ll : Nat} {AA : Nat -> Prop} {II : List Psg -> (Nat -> Prop) -> Mem -> Prop} {DD : (Nat -> Prop) -> Mem -> Prop} {N0 : Nat}
theorem PsX.still (X : PsX MB A s a b pc pm na nb nc items ll AA II DD N0) {T : Nat -> Prop} {d : List Psg} {M M' : Mem} (hN : N0 <= M.next) (hT : ∀ i, T i -> N0 <= i /\ i < M.next) (hI : II d T M) {F : Nat -> Prop} (hk : Keep F M M') (hF : ∀ i, F i -> i = pm) : II d T M' :=
 X.tk.stab _ _ _ _ hI hk.le fun i hi => hk.old i (by
  rcases hi with hi | hi
  ·omega
  ·exact (hT i hi).2) fun hf => by
   have hp := hF i hf
   rcases hi with hi | hi
   ·exact hi.2 hp
   ·have h1 := X.pb.ch.known.lt
    have h2 := X.n0
    have := (hT i hi).1
    omega
theorem PsX.pm_out (X : PsX MB A s a b pc pm na nb nc items ll AA II DD N0) {T : Nat -> Prop} {M : Mem} (hT : ∀ i, T i -> N0 <= i /\ i < M.next) : ¬ AA pm /\ ¬ T pm := by
 have h1 := X.pb.ch.known.lt
 have h2 := X.n0
 exact ⟨fun h => by have := X.ab _ h; omega, fun h => by have := (hT _ h).1; omega⟩
set_option maxHeartbeats 4000000 in
theorem c_offer (X : PsX MB A s a b pc pm na nb nc items ll AA II DD N0) {M : Mem} {ny : Nat} {T : Nat -> Prop} {done rest : List Psg} {i off : Nat} {f : Bool} {l : List Pt}
  (hK : Keep (fun i => i = pm) MB M) (hkn : KnM M s pm) (hN : N0 <= M.next) (hny : At M ny (.cells true [.func (.yield ll) [] []] 129)) (hT : ∀ i, T i -> N0 <= i /\ i < M.next)
  (hit : items = done ++ (offerL s a b l ++ rest)) (hI : II done T M) (hrd : ∀ k (hk : k < l.length), Rd M i (off + k * 2) 2 (ptc l[k])) (h0 : 0 < l.length) (hpl : ∀ p ∈ l, PlP p) (hlen : l.length <= 100) :
  CallOk Tryz.prog 71 [.slice (some (i, off)) l.length f 2, .ptr (some (nc, 0)), .ptr (some (na, 0)), .ptr (some (nb, 0)), .ptr (some (ny, 0))] M (Took AA (fun i => i = pm) T (fun M' => KnM M' s pm) II DD (done ++ offerL s a b l) M) := by
 have hP := X.pb.keepm hK hkn
 have hpo := X.pm_out hT
 have hc1 := hP.c
 have ha1 := hP.a
 have hb1 := hP.b
 have hnei := hkn.ne_rd (hrd 0 h0)
 have hney := hkn.ne_at hny
 have hcc := c_cost (f := f) hP.ch X.hs hrd h0 hlen hpl X.ha.2 X.hb.2
 refine call_in kq71 rfl ?_
 dsimp only [xq71, qm, qf, ql, qe, qc, qg, qo, qk, qK, qq, qZ, qN, zipE, Nat.reduceAdd]
 unfold offerL at *
 cases hc : costP s l a.2 b.2 with
 | none =>
  rw [hc] at hcc hit
  (repeat' first|with_reducible intro _|refine sv ?_|refine sc ?_ ?_<;>(intro h;try exact sz h)|refine sg ?_ ?_<;>(intro h;first|exact sz h|refine sy h ?_)|exact sq|fail)
  refine x_call (by exact gd) rfl rfl (show AppOk Tryz.prog _ _ M _ from hcc) ?_
  rintro v M1 ⟨rfl, hK1, hkn1⟩
  have hle1 := hK1.le
  (repeat' first|with_reducible intro _|refine sv ?_|refine sc ?_ ?_<;>(intro h;try exact sz h)|refine sg ?_ ?_<;>(intro h;first|exact sz h|refine sy h ?_)|exact sq|fail)
  (refine kf ?_)
  exact ⟨hK1.weaken (fun i hi => .inr (.inr hi)), hkn1, T, fun i hi => ⟨.inl hi, by have := (hT i hi).2; omega⟩, .inl ⟨rfl, by rw [List.append_nil]; exact X.still hN hT hI hK1 (fun i hi => hi)⟩⟩
 | some n =>
  rw [hc] at hcc hit
  (repeat' first|with_reducible intro _|refine sv ?_|refine sc ?_ ?_<;>(intro h;try exact sz h)|refine sg ?_ ?_<;>(intro h;first|exact sz h|refine sy h ?_)|exact sq|fail)
  refine x_call (by exact gd) rfl rfl (show AppOk Tryz.prog _ _ M _ from hcc) ?_
  rintro v M1 ⟨rfl, hK1, hkn1⟩
  have hle1 := hK1.le
  have hI1 := X.still hN hT hI hK1 (fun i hi => hi)
  have hny1 := hny.keep hK1 hney
  have hrd1 : ∀ k (hk : k < l.length), Rd M1 i (off + k * 2) 2 (ptc l[k]) := fun k hk => (hrd k hk).keep hK1 hnei
  (repeat' first|with_reducible intro _|refine sv ?_|refine sc ?_ ?_<;>(intro h;try exact sz h)|(with_reducible first|apply x_mkat|apply d_mkat);exact gd;exact rfl;exact rfl;exact c_Clone_Pt hrd1 h0 (by omega)|refine sg ?_ ?_<;>(intro h;first|exact sz h|refine sy h ?_)|exact sq|fail)
  rename_i p M2 ap hp1 hp2 hg2 hle2
  have hit' : items = done ++ (l, n) :: rest := hit
  have hI2 := X.still (by omega) (fun i hi => by have := hT i hi; omega) hI1 (hg2.to_keep (fun _ => False)) (fun i hi => hi.elim)
  have hst := X.tk.step done (l, n) rest [.agg [slp l.length p, I n]] (fun i => i = p) T M2 hit' ⟨p, rfl, fun i => Iff.rfl, ap⟩ (by omega) (fun i hi => by have := hT i hi; omega) (fun i hi => by
   subst hi
   exact ⟨by omega, hp2, fun h => by have := (hT _ h).2; omega⟩) hI2
  refine d_call (by exact gd) rfl rfl (show AppOk Tryz.prog (.func (.yield ll) [] []) _ M2 _ from hst) ?_
  rintro w M3 ⟨hk3, T', hT', hres⟩
  have hle3 := hk3.le
  have hpm1 := hkn1.lt
  have hkall : Keep (fun i => AA i ∨ T i ∨ i = pm) M M3 := ((hK1.weaken (fun i hi => .inr (.inr hi))).grow hg2).trans hk3 (fun i hi => by
   rcases hi with hi | hi | hi
   ·exact .inl (.inl hi)
   ·exact .inl (.inr (.inl hi))
   ·exact .inr (by subst hi; omega))
  have hkn3 : KnM M3 s pm := (hkn1.at hg2.le (hg2.old _ hkn1.lt)).at hk3.le (hk3.old _ (by omega) (by
   rintro (h | h | h)
   ·exact hpo.1 h
   ·exact hpo.2 h
   ·omega))
  have hT3 : ∀ i, T' i -> (T i ∨ M.next <= i) /\ i < M3.next := fun i hi => by
   obtain ⟨h1, h2⟩ := hT' i hi
   refine ⟨?_, h2⟩
   rcases h1 with h1 | h1 | h1
   ·exact .inl h1
   ·exact .inr (by subst h1; omega)
   ·exact .inr (by omega)
  rcases hres with ⟨rfl, hI3⟩ | ⟨rfl, hD3⟩
  ·(repeat' first|with_reducible intro _|refine sv ?_|refine sc ?_ ?_<;>(intro h;try exact sz h)|refine sg ?_ ?_<;>(intro h;first|exact sz h|refine sy h ?_)|exact sq|fail)
   (refine kf ?_)
   exact ⟨hkall, hkn3, T', hT3, .inl ⟨rfl, hI3⟩⟩
  ·(repeat' first|with_reducible intro _|refine sv ?_|refine sc ?_ ?_<;>(intro h;try exact sz h)|refine sg ?_ ?_<;>(intro h;first|exact sz h|refine sy h ?_)|exact sq|fail)
   (refine kf ?_)
   exact ⟨hkall, hkn3, T', hT3, .inr ⟨rfl, hD3⟩⟩
set_option maxHeartbeats 8000000 in
theorem c_next_step (X : PsX MB A s a b pc pm na nb nc items ll AA II DD N0) {M : Mem} {ny nof nnx : Nat} {T : Nat -> Prop} {done rest : List Psg} {i off : Nat} {f : Bool} {l : List Pt} {used : Nat} (G : Nat -> List Psg)
  (hus : used < 1024) (hK : Keep (fun i => i = pm) MB M) (hkn : KnM M s pm) (hN : N0 <= M.next) (hny : At M ny (.cells true [.func (.yield ll) [] []] 129))
  (hnof : At M nof (.cells true [offV nc na nb ny] 140)) (hnx : At M nnx (.cells true [nxtV nof nb nc nnx] 147)) (hN3 : N0 <= ny /\ N0 <= nof /\ N0 <= nnx) (hT3 : ¬ T ny /\ ¬ T nof /\ ¬ T nnx)
  (hT : ∀ i, T i -> N0 <= i /\ i < M.next) (hit : items = done ++ ((offerL s a b (l ++ [b.1]) ++ (List.range s.buoys.length).flatMap fun k => if used.testBit k then [] else G k) ++ rest)) (hI : II done T M)
  (hrd : ∀ k (hk : k < l.length), Rd M i (off + k * 2) 2 (ptc l[k])) (h0 : 0 < l.length) (hi : N0 <= i /\ ¬ T i) (hpl : ∀ p ∈ l, PlP p) (hlen : l.length <= 50)
  (IH : ∀ k (hk : k < s.buoys.length), used.testBit k = false -> ∀ (M' : Mem) (T' : Nat -> Prop) (done' rest' : List Psg) (i' : Nat), Keep (fun i => i = pm) MB M' -> KnM M' s pm -> N0 <= M'.next ->
   At M' ny (.cells true [.func (.yield ll) [] []] 129) -> At M' nof (.cells true [offV nc na nb ny] 140) -> At M' nnx (.cells true [nxtV nof nb nc nnx] 147) ->
   (¬ T' ny /\ ¬ T' nof /\ ¬ T' nnx) -> (∀ i, T' i -> N0 <= i /\ i < M'.next) -> items = done' ++ (G k ++ rest') -> II done' T' M' -> At M' i' (.cells true (l.flatMap ptc ++ ptc s.buoys[k]) 30) -> (N0 <= i' /\ ¬ T' i') ->
   CallOk Tryz.prog 74 [.slice (some (i', 0)) (l.length + 1) false 2, I (used ||| 2 ^ k : Nat), .ptr (some (nof, 0)), .ptr (some (nb, 0)), .ptr (some (nc, 0)), .ptr (some (nnx, 0))] M' (Took AA (fun i => i = pm) T' (fun M' => KnM M' s pm) II DD (done' ++ G k) M')) :
  CallOk Tryz.prog 74 [.slice (some (i, off)) l.length f 2, I used, .ptr (some (nof, 0)), .ptr (some (nb, 0)), .ptr (some (nc, 0)), .ptr (some (nnx, 0))] M (Took AA (fun i => i = pm) T (fun M' => KnM M' s pm) II DD (done ++ (offerL s a b (l ++ [b.1]) ++ (List.range s.buoys.length).flatMap fun k => if used.testBit k then [] else G k)) M) := by
 have hP := X.pb.keepm hK hkn
 have hpo := X.pm_out hT
 have hc1 := hP.c
 have ha1 := hP.a
 have hb1 := hP.b
 have hnb := X.hs.nb
 have hpmM := hkn.lt
 have hin := (hrd 0 h0).2
 refine call_in kq74 rfl ?_
 dsimp only [xq74, qm, qf, ql, qL, qi, qc, qa, qn, qB, qC, qg, qS, qo, qk, qK, qq, qZ, zipE, Nat.reduceAdd]
 have e1 := hny.2
 have e2 := hnof.2
 have e3 := hnx.2
 have hnei := hkn.ne_rd (hrd 0 h0)
 have hne1 := hkn.ne_at hny
 have hne2 := hkn.ne_at hnof
 have hne3 := hkn.ne_at hnx
 have hMB := X.n0
 have hAlt := X.tk.lt
 have hpmB := X.pb.ch.known.lt
 have hassoc : done ++ ((offerL s a b (l ++ [b.1]) ++ (List.range s.buoys.length).flatMap fun k => if used.testBit k then [] else G k) ++ rest) = done ++ (offerL s a b (l ++ [b.1]) ++ (((List.range s.buoys.length).flatMap fun k => if used.testBit k then [] else G k) ++ rest)) := by rw [List.append_assoc]
 rw [hassoc] at hit
 (repeat' first|with_reducible intro _|refine sv ?_|refine sc ?_ ?_<;>(intro h;try exact sz h)|(with_reducible first|apply x_mkat|apply d_mkat);exact gd;exact rfl;exact rfl;exact c_Clone_Pt hrd h0 (by omega)|refine sg ?_ ?_<;>(intro h;first|exact sz h|refine sy h ?_)|exact sq|fail)
 rename_i p M1 ap hp1 hp2 hg1 hle1 n16 M2 hn16 e4 e5
 have ap2 := At.new_old hn16 ap
 have hw : firstL 2 l.length (.slice (some (p, 0)) l.length false 2) M2 = some (l.flatMap ptc) := firstL_pts (rd_pts ap2) rfl h0
 refine d_app_kill (by exact gd) rfl rfl rfl (by omega) (by omega) rfl hw (new := ptc b.1) (firstL_pts (l := [b.1]) (rd_pts (At.new_same hn16)) rfl (by simp)) rfl ap2 ?_
 intro m M3 hk3 e6 e7 am
 have hg3 : Grow M M3 := xg
 have hkn3 : KnM M3 s pm := hkn.at hg3.le (hg3.old _ hpmM)
 have hT3M : ∀ i, T i -> N0 <= i /\ i < M3.next := fun i hi => by have := hT i hi; omega
 have hI3 := X.still hN hT hI (hg3.to_keep (fun _ => False)) (fun i hi => hi.elim)
 have hat3 : At M3 m (.cells true ((l ++ [b.1]).flatMap ptc) 30) := by rw [List.flatMap_append, List.flatMap_singleton]; exact am
 have hco := c_offer X (f := false) (l := l ++ [b.1]) (hK.grow hg3) hkn3 (by omega) (hny.grow hg3) hT3M hit hI3 (rd_pts hat3) (by simp) (fun q hq => by
  rcases List.mem_append.1 hq with hq | hq
  ·exact hpl q hq
  ·obtain rfl := List.mem_singleton.1 hq; exact X.hb.1) (by rw [List.length_append, List.length_singleton]; omega)
 rw [List.length_append, List.length_singleton] at hco
 refine d_call (by exact gd) rfl rfl (show AppOk Tryz.prog _ _ M3 _ from hco) ?_
 rintro w M4 ⟨hk4, hkn4, T4, hT4, hres⟩
 have hle4 := hk4.le
 have hkall4 : Keep (fun i => AA i ∨ T i ∨ i = pm) M M4 := ((hg3.to_keep (fun _ => False)).weaken (fun i hi => hi.elim)).trans hk4 (fun i hi => .inl hi)
 have hT4' : ∀ i, T4 i -> (T i ∨ M.next <= i) /\ i < M4.next := fun i hi => by
  obtain ⟨h1, h2⟩ := hT4 i hi
  exact ⟨h1.imp id (fun h => by omega), h2⟩
 have r11 : Rd1 M1 nof 0 (offV nc na nb ny) := (Rd1.of_at hnof rfl).grow hg1
 have r11' : Rd1 M3 nof 0 (offV nc na nb ny) := (Rd1.of_at hnof rfl).grow hg3
 rcases hres with ⟨rfl, hI4⟩ | ⟨rfl, hD4⟩
 rotate_left
 ·(repeat' first|with_reducible intro _|refine sv ?_|refine sc ?_ ?_<;>(intro h;try exact sz h)|refine sg ?_ ?_<;>(intro h;first|exact sz h|refine sy h ?_)|exact sq|fail)
  (refine kf ?_)
  exact ⟨hkall4, hkn4, T4, hT4', .inr ⟨rfl, hD4⟩⟩
 obtain ⟨aL, fL, aF, fF, aB, fB, aO, fO, eF, eL, eB⟩ := A
 have hnot : ∀ j, N0 <= j -> ¬ T j -> j ≠ pm -> ¬ (AA j ∨ T j ∨ j = pm) := fun j h1 h2 h3 h => by
  rcases h with h | h | h
  ·have := hAlt j h; omega
  ·exact h2 h
  ·exact h3 h
 have hKB : ∀ {M'}, Keep (fun i => AA i ∨ T i ∨ i = pm) M M' -> Keep (fun i => i = pm) MB M' := fun {M'} hk => hK.trans hk (fun i hi => by
  rcases hi with hi | hi | hi
  ·exact .inr (X.ab i hi)
  ·exact .inr (by have := (hT i hi).1; omega)
  ·exact .inl hi)
 have hP4 := X.pb.keepm (hKB hkall4) hkn4
 have hc4 := hP4.c
 have hcell4 := hP4.ch.cells
 have hpc4 := hcell4.2
 (repeat' first|with_reducible intro _|refine sv ?_|refine sc ?_ ?_<;>(intro h;try exact sz h)|refine sg ?_ ?_<;>(intro h;first|exact sz h|refine sy h ?_)|exact sq|fail)
 refine w_loop_ind (fun n E ms M' => ∃ (k : Nat) (T' : Nat -> Prop), n = s.buoys.length - k /\ k <= s.buoys.length /\ ms = [] /\ Has E [(0, .slice (some (i, off)) l.length f 2), (1, I used), (2, .ptr (some (nof, 0))), (3, .ptr (some (nb, 0))), (4, .ptr (some (nc, 0))), (5, .ptr (some (nnx, 0))), (24, .slice aB s.buoys.length fB eB), (25, I s.buoys.length), (26, I k)] /\
   Keep (fun i => AA i ∨ T i ∨ i = pm) M M' /\ KnM M' s pm /\ (∀ i, T' i -> (T i ∨ M.next <= i) /\ i < M'.next) /\ II (done ++ (offerL s a b (l ++ [b.1]) ++ (List.range k).flatMap fun k => if used.testBit k then [] else G k)) T' M') ?_ s.buoys.length _ _ _
  ⟨0, T4, by omega, by omega, rfl, .cons rfl (.cons rfl (.cons rfl (.cons rfl (.cons rfl (.cons rfl (.cons rfl (.cons rfl (.cons rfl .nil)))))))), hkall4, hkn4, hT4', by rw [List.range_zero, List.flatMap_nil, List.append_nil]; exact hI4⟩
 rintro n E ms M5 ⟨k, T5, rfl, hk, rfl, hE, hk5, hkn5, hT5, hI5⟩
 refine w_has hE ?_
 have hle5 := hk5.le
 by_cases hlast : k = s.buoys.length
 ·subst hlast
  (repeat' first|with_reducible intro _|refine sv ?_|refine sc ?_ ?_<;>(intro h;try exact sz h)|refine sg ?_ ?_<;>(intro h;first|exact sz h|refine sy h ?_)|exact sq|fail)
  (refine kf ?_)
  exact ⟨hk5, hkn5, T5, hT5, .inl ⟨rfl, hI5⟩⟩
 have hlt : k < s.buoys.length := by omega
 have hP5 := X.pb.keepm (hKB hk5) hkn5
 have hny5 := hny.keep hk5 (hnot _ hN3.1 hT3.1 hne1)
 have hnof5 := hnof.keep hk5 (hnot _ hN3.2.1 hT3.2.1 hne2)
 have hnx5 := hnx.keep hk5 (hnot _ hN3.2.2 hT3.2.2 hne3)
 have hrd5 : ∀ k (hk : k < l.length), Rd M5 i (off + k * 2) 2 (ptc l[k]) := fun k hk => (hrd k hk).keep hk5 (hnot _ hi.1 hi.2 hnei)
 have hT5' : ∀ i, T5 i -> N0 <= i /\ i < M5.next := fun i hi => by
  obtain ⟨h1, h2⟩ := hT5 i hi
  exact ⟨by rcases h1 with h1 | h1; exact (hT i h1).1; omega, h2⟩
 obtain ⟨iB, oB, rfl, hrB⟩ := (show SlA 2 ptc M5 aB s.buoys from hP5.ch.cr.buoys).resolve_left (fun h => by rw [h] at hlt; simp at hlt)
 have rB := hrB k hlt
 have hiB := rB.2
 have hsh := shl_one_bd (k := k) (by omega)
 have hrange : (List.range (k + 1)).flatMap (fun k => if used.testBit k then [] else G k) = (List.range k).flatMap (fun k => if used.testBit k then [] else G k) ++ (if used.testBit k then [] else G k) := by rw [List.range_succ, List.flatMap_append, List.flatMap_singleton]
 have hl1 := hny5.2
 have hl2 := hnof5.2
 have hl3 := hnx5.2
 have hl4 := (hrd5 0 h0).2
 cases hu : used.testBit k with
 | true =>
  have hz : ¬ andZ (used : Int) (shlZ 1 (k : Int)) = 0 := fun h => by rw [andZ_nat, hu] at h; cases h
  rw [hu, if_pos rfl, List.append_nil] at hrange
  (have hrd0 := rB;repeat' first|with_reducible intro _|refine sv ?_|refine sc ?_ ?_<;>(intro h;try exact sz h)|refine sg ?_ ?_<;>(intro h;first|exact sz h|refine sy h ?_)|exact sq|fail)
  rename_i n10 M6 hn10 e8 e9 M7 hu7 e10 a10 hx
  have hg7 : Grow M5 M7 := xg
  have hle7 := hg7.le
  refine k_step (s.buoys.length - (k + 1)) (by omega) ⟨k + 1, T5, rfl, by omega, rfl, .cons rfl (.cons rfl (.cons rfl (.cons rfl (.cons rfl (.cons rfl (.cons rfl (.cons rfl (.cons rfl .nil)))))))), hk5.grow hg7, hkn5.at hle7 (hg7.old _ hkn5.lt), fun i hi => by have := hT5 i hi; exact ⟨this.1, by omega⟩, ?_⟩
  rw [hrange]
  exact X.still (by omega) hT5' hI5 (hg7.to_keep (fun _ => False)) (fun i hi => hi.elim)
 | false =>
  have hz : andZ (used : Int) (shlZ 1 (k : Int)) = 0 := (andZ_nat _ _).2 hu
  rw [hu, if_neg (by decide)] at hrange
  have hmk := fun M' (hg : Grow M5 M') => c_Clone_Pt (f := f) (e := 2) (fun k hk => (hrd5 k hk).grow hg) h0 (by omega)
  (have hrd0 := rB;repeat' first|with_reducible intro _|refine sv ?_|refine sc ?_ ?_<;>(intro h;try exact sz h)|(with_reducible first|apply x_mkat|apply d_mkat);exact gd;exact rfl;exact rfl;exact hmk _ (xg)|refine sg ?_ ?_<;>(intro h;first|exact sz h|refine sy h ?_)|exact sq|fail)
  rename_i n10 M6 hn10 e8 e9 M7 hu7 e10 a10 hx q M8 aq hq1 hq2 hg8 hle8 n41 M9 hn41 e11 e12
  have aq2 := At.new_old hn41 aq
  have hw : firstL 2 l.length (.slice (some (q, 0)) l.length false 2) M9 = some (l.flatMap ptc) := firstL_pts (rd_pts aq2) rfl h0
  refine d_app_kill (by exact gd) rfl rfl rfl (by omega) (by omega) rfl hw (new := ptc s.buoys[k]) (firstL_pts (l := [s.buoys[k]]) (rd_pts (At.new_same hn41)) rfl (by simp)) rfl aq2 ?_
  intro m2 MA hkA eA1 eA2 amA
  have hgA : Grow M5 MA := xg
  have hleA := hgA.le
  have hknA : KnM MA s pm := hkn5.at hleA (hgA.old _ hkn5.lt)
  have hTA : ∀ i, T5 i -> N0 <= i /\ i < MA.next := fun i hi => by have := hT5' i hi; omega
  have hIA := X.still (by omega) hT5' hI5 (hgA.to_keep (fun _ => False)) (fun i hi => hi.elim)
  have hitA : items = (done ++ (offerL s a b (l ++ [b.1]) ++ (List.range k).flatMap fun k => if used.testBit k then [] else G k)) ++ (G k ++ (((List.range s.buoys.length).drop (k + 1)).flatMap (fun k => if used.testBit k then [] else G k) ++ rest)) := by
   have hsplit : (List.range s.buoys.length).flatMap (fun k => if used.testBit k then [] else G k) = (List.range (k + 1)).flatMap (fun k => if used.testBit k then [] else G k) ++ ((List.range s.buoys.length).drop (k + 1)).flatMap (fun k => if used.testBit k then [] else G k) := by
    rw [<- List.flatMap_append]
    congr 1
    have := List.take_append_drop (k + 1) (List.range s.buoys.length)
    rw [List.take_range, Nat.min_eq_left (by omega)] at this
    exact this.symm
   rw [hit, hsplit, hrange]
   simp only [List.append_assoc]
  have hih := IH k hlt hu MA T5 _ _ m2 ((hKB hk5).grow hgA) hknA (by omega) (hny5.grow hgA) (hnof5.grow hgA) (hnx5.grow hgA) ⟨fun h => by have := (hT5 _ h).1; rcases this with h | h; exact hT3.1 h; omega, fun h => by have := (hT5 _ h).1; rcases this with h | h; exact hT3.2.1 h; omega, fun h => by have := (hT5 _ h).1; rcases this with h | h; exact hT3.2.2 h; omega⟩ hTA hitA hIA amA ⟨by omega, fun h => by have := (hT5' _ h).2; omega⟩
  rw [<- orZ_nat] at hih
  have r37 : Rd1 MA nnx 0 (nxtV nof nb nc nnx) := (Rd1.of_at hnx5 rfl).grow hgA
  (repeat' first|with_reducible intro _|refine sv ?_|refine sc ?_ ?_<;>(intro h;try exact sz h)|refine sg ?_ ?_<;>(intro h;first|exact sz h|refine sy h ?_)|exact sq|fail)
  refine d_call (by exact gd) rfl rfl (show AppOk Tryz.prog _ _ MA _ from hih) ?_
  rintro w MB' ⟨hkB, hknB, TB, hTB, hres⟩
  have hleB := hkB.le
  have hkallB : Keep (fun i => AA i ∨ T i ∨ i = pm) M MB' := (hk5.grow hgA).trans hkB (fun i hi => by
   rcases hi with hi | hi | hi
   ·exact .inl (.inl hi)
   ·exact (hT5 i hi).1.imp (fun h => .inr (.inl h)) id
   ·exact .inl (.inr (.inr hi)))
  have hTB' : ∀ i, TB i -> (T i ∨ M.next <= i) /\ i < MB'.next := fun i hi => by
   obtain ⟨h1, h2⟩ := hTB i hi
   refine ⟨?_, h2⟩
   rcases h1 with h1 | h1
   ·exact (hT5 i h1).1
   ·exact .inr (by omega)
  rcases hres with ⟨rfl, hIB⟩ | ⟨rfl, hDB⟩
  ·(repeat' first|with_reducible intro _|refine sv ?_|refine sc ?_ ?_<;>(intro h;try exact sz h)|refine sg ?_ ?_<;>(intro h;first|exact sz h|refine sy h ?_)|exact sq|fail)
   refine k_step (s.buoys.length - (k + 1)) (by omega) ⟨k + 1, TB, rfl, by omega, rfl, .cons rfl (.cons rfl (.cons rfl (.cons rfl (.cons rfl (.cons rfl (.cons rfl (.cons rfl (.cons rfl .nil)))))))), hkallB, hknB, hTB', ?_⟩
   rw [hrange]
   simp only [List.append_assoc] at hIB ⊢
   exact hIB
  ·(repeat' first|with_reducible intro _|refine sv ?_|refine sc ?_ ?_<;>(intro h;try exact sz h)|refine sg ?_ ?_<;>(intro h;first|exact sz h|refine sy h ?_)|exact sq|fail)
   (refine kf ?_)
   exact ⟨hkallB, hknB, TB, hTB', .inr ⟨rfl, hDB⟩⟩
theorem or_lt2 {u k : Nat} (hu : u < 1024) (hk : k < 10) : u ||| 2 ^ k < 1024 := Nat.or_lt_two_pow (n := 10) hu (Nat.pow_lt_pow_right (by omega) hk)
theorem c_next (X : PsX MB A s a b pc pm na nb nc items ll AA II DD N0) {ny nof nnx : Nat} (hN3 : N0 <= ny /\ N0 <= nof /\ N0 <= nnx) : ∀ (d : Nat) {M : Mem} {T : Nat -> Prop} {done rest : List Psg} {i off : Nat} {f : Bool} {l : List Pt} {used : Nat}
  (huz : ∀ ks : List Nat, ks.Nodup -> (∀ k ∈ ks, k < s.buoys.length /\ used.testBit k = false) -> ks.length <= d)
  (hus : used < 1024) (hK : Keep (fun i => i = pm) MB M) (hkn : KnM M s pm) (hN : N0 <= M.next) (hny : At M ny (.cells true [.func (.yield ll) [] []] 129))
  (hnof : At M nof (.cells true [offV nc na nb ny] 140)) (hnx : At M nnx (.cells true [nxtV nof nb nc nnx] 147)) (hT3 : ¬ T ny /\ ¬ T nof /\ ¬ T nnx)
  (hT : ∀ i, T i -> N0 <= i /\ i < M.next) (hit : items = done ++ (nextL s a b d l used ++ rest)) (hI : II done T M)
  (hrd : ∀ k (hk : k < l.length), Rd M i (off + k * 2) 2 (ptc l[k])) (h0 : 0 < l.length) (hi : N0 <= i /\ ¬ T i) (hpl : ∀ p ∈ l, PlP p) (hlen : l.length + d <= 50),
  CallOk Tryz.prog 74 [.slice (some (i, off)) l.length f 2, I used, .ptr (some (nof, 0)), .ptr (some (nb, 0)), .ptr (some (nc, 0)), .ptr (some (nnx, 0))] M (Took AA (fun i => i = pm) T (fun M' => KnM M' s pm) II DD (done ++ nextL s a b d l used) M)
 | 0, M, T, done, rest, i, off, f, l, used, huz, hus, hK, hkn, hN, hny, hnof, hnx, hT3, hT, hit, hI, hrd, h0, hi, hpl, hlen => by
  have e : nextL s a b 0 l used = offerL s a b (l ++ [b.1]) ++ (List.range s.buoys.length).flatMap fun k => if used.testBit k then [] else (fun _ => ([] : List Psg)) k := by
   have e2 : ((List.range s.buoys.length).flatMap fun k => if used.testBit k then [] else (fun _ => ([] : List Psg)) k) = [] := by
    rw [List.flatMap_eq_nil_iff]; intro k _; split <;> rfl
   rw [e2, List.append_nil]; rfl
  rw [e] at hit ⊢
  exact c_next_step X (fun _ => []) hus hK hkn hN hny hnof hnx hN3 hT3 hT hit hI hrd h0 hi hpl (by omega) (fun k hk hu => by
   have := huz [k] (List.nodup_cons.2 ⟨List.not_mem_nil, List.nodup_nil⟩) (fun j hj => by obtain rfl := List.mem_singleton.1 hj; exact ⟨hk, hu⟩)
   simp at this)
 | d + 1, M, T, done, rest, i, off, f, l, used, huz, hus, hK, hkn, hN, hny, hnof, hnx, hT3, hT, hit, hI, hrd, h0, hi, hpl, hlen => by
  have hnb := X.hs.nb
  refine c_next_step X (fun k => nextL s a b d (l ++ [s.buoys.getD k (0, 0)]) (used ||| 2 ^ k)) hus hK hkn hN hny hnof hnx hN3 hT3 hT hit hI hrd h0 hi hpl (by omega) ?_
  intro k hk hu M' T' done' rest' i' hK' hkn' hN' hny' hnof' hnx' hT3' hT' hit' hI' hat hi'
  rw [getD_eq hk] at hit' ⊢
  have hat2 : At M' i' (.cells true ((l ++ [s.buoys[k]]).flatMap ptc) 30) := by rw [List.flatMap_append, List.flatMap_singleton]; exact hat
  have := c_next X hN3 d (f := false) (l := l ++ [s.buoys[k]]) (used := used ||| 2 ^ k) (fun ks hnd hks => by
    have hnk : k ∉ ks := fun hm => by have := (hks k hm).2; rw [testBit_or2] at this; simp at this
    have := huz (k :: ks) (List.nodup_cons.2 ⟨hnk, hnd⟩) (fun j hj => by
     rcases List.mem_cons.1 hj with rfl | hj
     ·exact ⟨hk, hu⟩
     ·obtain ⟨h1, h2⟩ := hks j hj
      rw [testBit_or2, Bool.or_eq_false_iff] at h2
      exact ⟨h1, h2.1⟩)
    rw [List.length_cons] at this; omega) (or_lt2 hus (by omega)) hK' hkn' hN' hny' hnof' hnx' hT3' hT' hit' hI' (rd_pts hat2) (by simp) hi' (fun p hp => by
     rcases List.mem_append.1 hp with hp | hp
     ·exact hpl p hp
     ·obtain rfl := List.mem_singleton.1 hp; exact X.hs.buoys _ (List.getElem_mem hk)) (by rw [List.length_append, List.length_singleton]; omega)
  rw [List.length_append, List.length_singleton] at this
  exact this
end
end Go.Proofs.YtifcpjfpjkoicaaGreat.C
end
section
open Go PvL Go.Proofs
set_option linter.unusedSimpArgs false
set_option linter.unusedVariables false
namespace Go.Proofs.YtifcpjfpjkoicaaGreat.C
abbrev psgF (nc na nb : Nat) : LV := .func (.func 70) [] [.ptr (some (nc, 0)), .ptr (some (na, 0)), .ptr (some (nb, 0))]
set_option maxHeartbeats 4000000 in
theorem y_passages {MB M0 : Mem} {A : CrA} {s : Cr} {a b : Pose} {pc pm na nb nc : Nat} (hB : PsB MB A s a b pc pm na nb nc) (hK : Keep (fun i => i = pm) MB M0) (hkn : KnM M0 s pm) (hs : CrOk s) (ha : PoseOk a) (hb : PoseOk b) :
  YieldsS Tryz.prog 70 [] [.ptr (some (nc, 0)), .ptr (some (na, 0)), .ptr (some (nb, 0))] (fun i => i < MB.next) (fun i => i = pm) (fun M' => KnM M' s pm) (passL s a b) PsgR M0 := by
 intro l AA II DD tk hS hI0
 have X : PsX MB A s a b pc pm na nb nc (passL s a b) l AA II DD M0.next := ⟨hB, hs, ha, hb, tk, fun i hi => by
  rcases Nat.lt_or_ge i MB.next with h | h
  ·exact absurd hi (hS i h)
  ·exact h, hK.le⟩
 have hP := hB.keepm hK hkn
 have hc1 := hP.c
 have ha1 := hP.a
 have hb1 := hP.b
 have hpmM := hkn.lt
 have l1 := hc1.2
 have l2 := ha1.2
 have l3 := hb1.2
 have hstab : ∀ {d M M'}, II d (fun _ => False) M -> M0.next <= M.next -> Grow M M' -> II d (fun _ => False) M' := fun {d M M'} hI hle hg => X.tk.stab _ _ _ _ hI hg.le fun i hi => hg.old i (by rcases hi with hi | hi; omega; exact hi.elim)
 refine call_in kq70 rfl ?_
 dsimp only [xq70, qm, qf, ql, qL, qb, qg, qS, qo, qq, qZ, zipE, Nat.reduceAdd, List.nil_append, List.cons_append]
 have hnext : ∀ {d : List Psg} {M1 : Mem} {T : Nat -> Prop} {ny nof nnx n25 : Nat}, passL s a b = d ++ nextL s a b s.buoys.length [a.1] 0 -> Keep (fun i => AA i ∨ i = pm) M0 M1 -> KnM M1 s pm -> At M1 ny (.cells true [.func (.yield l) [] []] 129) ->
   At M1 nof (.cells true [offV nc na nb ny] 140) -> At M1 nnx (.cells true [nxtV nof nb nc nnx] 147) -> (M0.next <= ny /\ M0.next <= nof /\ M0.next <= nnx) -> (¬ T ny /\ ¬ T nof /\ ¬ T nnx) -> (∀ i, T i -> M0.next <= i /\ i < M1.next) -> II d T M1 -> At M1 n25 (.cells true [I a.1.1, I a.1.2] 30) -> M0.next <= n25 -> ¬ T n25 ->
   CallOk Tryz.prog 74 [.slice (some (n25, 0)) 1 true 2, I 0, .ptr (some (nof, 0)), .ptr (some (nb, 0)), .ptr (some (nc, 0)), .ptr (some (nnx, 0))] M1 (fun v M' => Took AA (fun i => i = pm) T (fun M' => KnM M' s pm) II DD (passL s a b) M1 v M') := by
  intro d M1 T ny nof nnx n25 hd hk1 hkn1 hny hnof hnx h3 hT3 hT hI ha25 h25 hT25
  have := c_next X h3 s.buoys.length (f := true) (l := [a.1]) (used := 0) (rest := []) (fun ks h1 h2 => nodup_lt _ _ h1 fun k hk => (h2 k hk).1) (by omega) (hK.trans hk1 (fun i hi => by
    rcases hi with hi | hi
    ·exact .inr (X.ab i hi)
    ·exact .inl hi)) hkn1 hk1.le hny hnof hnx hT3 hT (by rw [List.append_nil]; exact hd) hI (rd_pts (l := [a.1]) ha25) (by simp) ⟨h25, hT25⟩ (fun p hp => by obtain rfl := List.mem_singleton.1 hp; exact ha.1) (by have := hs.nb; simp; omega)
  rw [<- hd] at this
  exact this
 by_cases hab : a.1 = b.1
 ·have hq : a.1.1 = b.1.1 /\ a.1.2 = b.1.2 := by rw [hab]; exact ⟨rfl, rfl⟩
  have hit : passL s a b = [] ++ (offerL s a b [a.1] ++ nextL s a b s.buoys.length [a.1] 0) := by rw [List.nil_append]; unfold passL; rw [if_pos hab]
  (repeat' first|with_reducible intro _|refine sv ?_|refine sc ?_ ?_<;>(intro h;try exact sz h)|refine sg ?_ ?_<;>(intro h;first|exact sz h|refine sy h ?_)|exact sq|fail)
  rename_i ny M1 hny e1 e2 nof M2 hnof e3 e4 M3 hu3 e5 aof n17 M4 hn17 e6 e7
  have hg4 : Grow M0 M4 := xg
  have hle4 := hg4.le
  have hkn4 : KnM M4 s pm := hkn.at hg4.le (hg4.old _ hpmM)
  have hny4 : At M4 ny (.cells true [.func (.yield l) [] []] 129) := xm
  have hof4 : At M4 nof (.cells true [offV nc na nb ny] 140) := xm
  have hco := c_offer X (f := true) (l := [a.1]) (T := fun _ => False) (hK.grow hg4) hkn4 hg4.le hny4 (fun i hi => hi.elim) hit (hstab hI0 (Nat.le_refl _) hg4) (rd_pts (l := [a.1]) (At.new_same hn17)) (by simp) (fun p hp => by obtain rfl := List.mem_singleton.1 hp; exact ha.1) (by simp)
  refine x_call (by exact gd) rfl rfl (show AppOk Tryz.prog _ _ M4 _ from hco) ?_
  rintro w M5 ⟨hk5, hkn5, T5, hT5, hres⟩
  have hle5 := hk5.le
  have hk05 : Keep (fun i => AA i ∨ i = pm) M0 M5 := ((Keep.refl _ _).grow hg4).trans hk5 (fun i hi => by
   rcases hi with hi | hi | hi
   ·exact .inl (.inl hi)
   ·exact hi.elim
   ·exact .inl (.inr hi))
  have hT5' : ∀ i, T5 i -> M0.next <= i /\ i < M5.next := fun i hi => by
   obtain ⟨h1, h2⟩ := hT5 i hi
   rcases h1 with h1 | h1
   ·exact h1.elim
   ·exact ⟨by omega, h2⟩
  have hnA : ∀ j, M0.next <= j -> j ≠ pm -> ¬ (AA j ∨ False ∨ j = pm) := fun j h1 h2 h => by
   rcases h with h | h | h
   ·have := tk.lt j h; omega
   ·exact h
   ·exact h2 h
  rcases hres with ⟨rfl, hI5⟩ | ⟨rfl, hD5⟩
  rotate_left
  ·(repeat' first|with_reducible intro _|refine sv ?_|refine sc ?_ ?_<;>(intro h;try exact sz h)|refine sg ?_ ?_<;>(intro h;first|exact sz h|refine sy h ?_)|exact sq|fail)
   (refine kf ?_)
   exact ⟨hk05, hkn5, T5, hT5', .inr hD5⟩
  have hny5 := hny4.keep hk5 (hnA _ (by omega) (by omega))
  have hof5 := hof4.keep hk5 (hnA _ (by omega) (by omega))
  have hb5 := hb1.grow hg4
  have hP5 := hB.keepm (hK.trans hk05 (fun i hi => by
    rcases hi with hi | hi
    ·exact .inr (X.ab i hi)
    ·exact .inl hi)) hkn5
  have hc5 := hP5.c
  have ha5 := hP5.a
  have l5 := ha5.2
  (repeat' first|with_reducible intro _|refine sv ?_|refine sc ?_ ?_<;>(intro h;try exact sz h)|refine sg ?_ ?_<;>(intro h;first|exact sz h|refine sy h ?_)|exact sq|fail)
  rename_i nnx M6 hn6 e8 e9 M7 hu7 e10 anx n25 M8 hn25 e11 e12
  have hg8 : Grow M5 M8 := xg
  have hle8 := hg8.le
  have hcn := hnext (T := T5) (ny := ny) (nof := nof) (nnx := nnx) (by rw [List.nil_append] at hit; exact hit) (hk05.grow hg8) (hkn5.at hg8.le (hg8.old _ hkn5.lt)) (hny5.grow hg8) (hof5.grow hg8) (xm) ⟨by omega, by omega, by omega⟩
   ⟨fun h => by have := (hT5 _ h).1; rcases this with h | h; exact h; have := hny4.2; omega, fun h => by have := (hT5 _ h).1; rcases this with h | h; exact h; have := hof4.2; omega, fun h => by have := (hT5' _ h).2; omega⟩ (fun i hi => by have := hT5' i hi; omega)
   (X.still (by omega) hT5' hI5 (hg8.to_keep (fun _ => False)) (fun i hi => hi.elim)) (At.new_same hn25) (by omega) (fun h => by have := (hT5' _ h).2; omega)
  refine x_call (by exact gd) rfl rfl (show AppOk Tryz.prog _ _ M8 _ from hcn) ?_
  rintro w M9 ⟨hk9, hkn9, T9, hT9, hres⟩
  have hk09 : Keep (fun i => AA i ∨ i = pm) M0 M9 := (hk05.grow hg8).trans hk9 (fun i hi => by
   rcases hi with hi | hi | hi
   ·exact .inl (.inl hi)
   ·exact .inr (hT5' i hi).1
   ·exact .inl (.inr hi))
  have hT9' : ∀ i, T9 i -> M0.next <= i /\ i < M9.next := fun i hi => by
   obtain ⟨h1, h2⟩ := hT9 i hi
   rcases h1 with h1 | h1
   ·exact ⟨(hT5' i h1).1, h2⟩
   ·exact ⟨by omega, h2⟩
  (repeat' first|with_reducible intro _|refine sv ?_|refine sc ?_ ?_<;>(intro h;try exact sz h)|refine sg ?_ ?_<;>(intro h;first|exact sz h|refine sy h ?_)|exact sq|fail)
  (refine kf ?_)
  exact ⟨hk09, hkn9, T9, hT9', hres.imp (fun h => h.2) (fun h => h.2)⟩
 ·have hq : ¬ (a.1.1 = b.1.1 /\ a.1.2 = b.1.2) := fun h => hab (Prod.ext h.1 h.2)
  have hit : passL s a b = [] ++ nextL s a b s.buoys.length [a.1] 0 := by rw [List.nil_append]; unfold passL; rw [if_neg hab]; rfl
  (repeat' first|with_reducible intro _|refine sv ?_|refine sc ?_ ?_<;>(intro h;try exact sz h)|refine sg ?_ ?_<;>(intro h;first|exact sz h|refine sy h ?_)|exact sq|fail)
  rename_i ny M1 hny e1 e2 nof M2 hnof e3 e4 M3 hu3 e5 aof hx1 nnx M6 hn6 e8 e9 M7 hu7 e10 anx n25 M8 hn25 e11 e12
  have hg8 : Grow M0 M8 := xg
  have hle8 := hg8.le
  have hcn := hnext (T := fun _ => False) (ny := ny) (nof := nof) (nnx := nnx) hit ((Keep.refl _ _).grow hg8) (hkn.at hg8.le (hg8.old _ hpmM)) (xm) (xm) (xm) ⟨by omega, by omega, by omega⟩
   ⟨id, id, id⟩ (fun i hi => hi.elim) (hstab hI0 (Nat.le_refl _) hg8) (At.new_same hn25) (by omega) id
  refine x_call (by exact gd) rfl rfl (show AppOk Tryz.prog _ _ M8 _ from hcn) ?_
  rintro w M9 ⟨hk9, hkn9, T9, hT9, hres⟩
  have hk09 : Keep (fun i => AA i ∨ i = pm) M0 M9 := ((Keep.refl _ _).grow hg8).trans hk9 (fun i hi => by
   rcases hi with hi | hi | hi
   ·exact .inl (.inl hi)
   ·exact hi.elim
   ·exact .inl (.inr hi))
  have hT9' : ∀ i, T9 i -> M0.next <= i /\ i < M9.next := fun i hi => by
   obtain ⟨h1, h2⟩ := hT9 i hi
   rcases h1 with h1 | h1
   ·exact h1.elim
   ·exact ⟨by omega, h2⟩
  (repeat' first|with_reducible intro _|refine sv ?_|refine sc ?_ ?_<;>(intro h;try exact sz h)|refine sg ?_ ?_<;>(intro h;first|exact sz h|refine sy h ?_)|exact sq|fail)
  (refine kf ?_)
  exact ⟨hk09, hkn9, T9, hT9', hres.imp (fun h => h.2) (fun h => h.2)⟩
end Go.Proofs.YtifcpjfpjkoicaaGreat.C
end
