/-
 Part of the proof of CourseMovedUpto: what functions of the program and of the statement come to, walked by the rules. No condition beyond those in each theorem.
-/
import Derived.Test.YtifcpjfpjkoicaaGreatTK
import Derived.Test.YtifcpjfpjkoicaaGreatTS
section
open Go PvL Go.Proofs
set_option linter.unusedSimpArgs false
set_option linter.unusedVariables false
namespace Go.Proofs.YtifcpjfpjkoicaaGreat.C
theorem us_sSh : ∃ e, Tryz.prog.underlying 40 = some (.slice e) := ⟨45, by kernel_rfl⟩
instance : IsSl Tryz.prog 40 := ⟨us_sSh⟩
abbrev shcc (c : Nat) : List LV := [I (c / 2 : Nat), I (c % 2 : Nat)]
theorem c_Clone_Sh {b : Nat} {v : LV} {l : List Nat} {M : Mem} (hv : Vec b 2 45 shcc M v l) (hnil : l = [] -> ∀ i, v ≠ .slice (some (i, 0)) 0 false 2) (hlen : l.length <= 1000000) :
  CallOk Tryz.prog 30 [v] M (fun w M' => Vec M.next 2 45 shcc M' w l /\ Grow M M') := by
 refine call_in kq30 rfl ?_
 dsimp only [xq30, qm, qo, qq, qZ, qN, zipE, Nat.reduceAdd]
 rcases hv with ⟨rfl, rfl⟩ | ⟨i, rfl, ai, hb⟩
 ·(repeat' first|with_reducible intro _|refine sv ?_|refine sc ?_ ?_<;>(intro h;try exact sz h)|refine sg ?_ ?_<;>(intro h;first|exact sz h|refine sy h ?_)|exact sq|fail)
  (refine kf ?_)
  exact ⟨.nil, xg⟩
 ·by_cases h0 : l = []
  ·subst h0
   exact absurd rfl (hnil rfl i)
  have h0 : 0 < l.length := List.length_pos_iff.2 h0
  (repeat' first|with_reducible intro _|refine sv ?_|refine sc ?_ ?_<;>(intro h;try exact sz h)|refine sg ?_ ?_<;>(intro h;first|exact sz h|refine sy h ?_)|exact sq|fail)
  rename_i n5 M1 hn5 e1 e2
  have hw : firstL 2 l.length (.slice (some (i, 0)) l.length false 2) M1 = some (l.flatMap shcc) := firstL_rd (enc := shcc) (fun x _ => rfl) (fun k hk => rd_flat (enc := shcc) (At.new_old hn5 ai) (fun x _ => rfl) hk)
  refine x_app_new (by exact gd) (old := []) rfl rfl rfl h0 (by omega) rfl rfl hw (allFlat_flatMap (fun x _ => rfl)) (.inr rfl) ?_
  intro n6 M2 hn6 e3 e4
  (repeat' first|with_reducible intro _|refine sv ?_|refine sc ?_ ?_<;>(intro h;try exact sz h)|refine sg ?_ ?_<;>(intro h;first|exact sz h|refine sy h ?_)|exact sq|fail)
  (refine kf ?_)
  exact ⟨.inr ⟨n6, by rw [Nat.zero_add]; rfl, At.new_same hn6, by omega⟩, xg⟩
noncomputable def nextO (s : Cr) (e : Int) : Nat -> List Nat -> Rch -> Nat -> Option (List Nat)
 | 0, l, x, left => if left = 0 then (if x.2 = e then some l else none) else none
 | f + 1, l, x, left => if left = 0 then (if x.2 = e then some l else none) else
  (shootsL s left).findSome? fun c => match goF s x c with
   | none => none
   | some b => if e < b.2 then none else nextO s e f (l ++ [c]) (rchF s c b.2) (restN left (c / 2))
abbrev bestV (nf ne np nx : Nat) : LV := .func (.func 28) [] [.ptr (some (nf, 0)), .ptr (some (ne, 0)), .ptr (some (np, 0)), .ptr (some (nx, 0))]
def BsPost (s : Cr) (pm pk nf b0 : Nat) (o : Option (List Nat)) (M : Mem) (w : LV) (M' : Mem) : Prop :=
 Keep (fun i => i = pm ∨ i = pk ∨ i = nf) M M' /\ KnM M' s pm /\ KcM M' s pk /\ ∃ u, At M' nf (.cells true [u] 40) /\ ((w = .bool true /\ ∃ r, o = some r /\ Vec b0 2 45 shcc M' u r) ∨ (w = .bool false /\ o = none))
structure BsPre (MB : Mem) (s : Cr) (pc pm pk nf ne np nx : Nat) (e : Int) (b0 : Nat) (l : List Nat) (x : Rch) (left : Nat) (v : LV) (M : Mem) : Prop where
 kp : Keep (fun i => i = pm ∨ i = pk) MB M
 kn : KnM M s pm
 kc : KcM M s pk
 fo : ∃ u, At M nf (.cells true [u] 40)
 en : At M ne (.cells true [I e] 3)
 pl : At M np (.cells true [.ptr (some (pc, 0)), .map (some pk)] 77)
 nx : At M nx (.cells true [bestV nf ne np nx] 87)
 vec : Vec b0 2 45 shcc M v l
 nil : l = [] -> ∀ i, v ≠ .slice (some (i, 0)) 0 false 2
 len : l.length + left <= 100
 pos : PoseOk x.1
 tim : 0 <= x.2 /\ x.2 <= 5000000
set_option maxHeartbeats 8000000 in
theorem c_bnext_zero {MB : Mem} {A : CrA} {s : Cr} {pc pm pk nf ne np nx b0 : Nat} {e : Int} (hpl : PlM MB A s pc pm pk) (hs : CrOk s) (he : -1 <= e /\ e <= 5000000) (hnf : MB.next <= nf) {M : Mem} {l : List Nat} {x : Rch} {v : LV} (h : BsPre MB s pc pm pk nf ne np nx e b0 l x 0 v M) :
  CallOk Tryz.prog 28 [v, .agg (rchc x), I 0, .ptr (some (nf, 0)), .ptr (some (ne, 0)), .ptr (some (np, 0)), .ptr (some (nx, 0))] M (BsPost s pm pk nf b0 (if x.2 = e then some l else none) M) := by
 obtain ⟨hk, hkn, hkc, ⟨u, hf⟩, hen, hp, hx, hv, hnil, hlen, hpo, htm⟩ := h
 obtain ⟨ao, fo, eo, rfl⟩ := hv.shape
 have l1 := hf.2
 have l2 := hen.2
 have l3 := hkn.lt
 have l4 := hkc.lt
 have l5 := hkn.ne_at hf
 have l6 := hkc.ne_at hf
 have l7 : ne ≠ nf := fun h => by subst h; exact absurd (at_ty hf hen) (by decide)
 refine call_in kq28 rfl ?_
 dsimp only [xq28, qm, qf, ql, qL, qb, qe, qc, qB, qC, qg, qS, qo, qk, qK, qq, qZ, zipE, Nat.reduceAdd]
 (repeat' first|with_reducible intro _|refine sv ?_|refine sc ?_ ?_<;>(intro h;try exact sz h)|refine sg ?_ ?_<;>(intro h;first|exact sz h|refine sy h ?_)|exact sq|fail)
 rename_i n7 M1 hn7 e1 e2 n8 M2 hn8 e3 e4 n9 M3 hn9 e5 e6 n10 M4 hn10 e7 e8 M5 hu5 e9 a5 M6 hu6 e10 a6
 have hk6 : Keep (fun i => i = pm ∨ i = pk ∨ i = nf) M M6 := xk
 have hgo : ∀ i, i < M.next -> i ≠ nf -> M6.get i = M.get i := fun i hi hne => by rw [upd_get_ne hu6 (by omega), upd_get_ne hu5 hne, hn10.grow.old i (by omega), hn9.grow.old i (by omega), hn8.grow.old i (by omega), hn7.grow.old i hi]
 have hv6 := Vec.keep_ne hv hk6 (fun i hi hf2 => hf2.elim (fun h => hkn.ne_at hi h) (fun h => h.elim (fun h => hkc.ne_at hi h) (fun h => by subst h; exact absurd (at_ty hf hi) (by decide))))
 (refine kf ?_)
 refine ⟨hk6, hkn.at hk6.le (hgo _ (by omega) (by omega)), hkc.at hk6.le (hgo _ (by omega) (by omega)), _, xm, ?_⟩
 by_cases hx : x.2 = e
 ·rw [if_pos hx, decide_eq_true hx]
  exact .inl ⟨rfl, l, rfl, hv6⟩
 ·rw [if_neg hx, decide_eq_false hx]
  exact .inr ⟨rfl, rfl⟩
noncomputable def stepG (s : Cr) (e : Int) (G : List Nat -> Rch -> Nat -> Option (List Nat)) (l : List Nat) (x : Rch) (left c : Nat) : Option (List Nat) :=
 match goF s x c with | none => none | some b => if e < b.2 then none else G (l ++ [c]) (rchF s c b.2) (restN left (c / 2))
set_option maxHeartbeats 16000000 in
theorem c_bnext_step {MB : Mem} {A : CrA} {s : Cr} {pc pm pk nf ne np nx b0 : Nat} {e : Int} (G : List Nat -> Rch -> Nat -> Option (List Nat)) (hpl : PlM MB A s pc pm pk) (hs : CrOk s) (he : -1 <= e /\ e <= 5000000) (hnf : MB.next <= nf) {left : Nat}
  (IH : ∀ (M' : Mem) (b' : Nat) (l' : List Nat) (x' : Rch) (left' : Nat) (v' : LV), left' < left -> b' <= M'.next -> BsPre MB s pc pm pk nf ne np nx e b' l' x' left' v' M' ->
   CallOk Tryz.prog 28 [v', .agg (rchc x'), I left', .ptr (some (nf, 0)), .ptr (some (ne, 0)), .ptr (some (np, 0)), .ptr (some (nx, 0))] M' (BsPost s pm pk nf b' (G l' x' left') M'))
  {M : Mem} {l : List Nat} {x : Rch} {v : LV} (hb0 : b0 <= M.next) (hl0 : left ≠ 0) (hl1 : left < 2 ^ s.lines.length) (h : BsPre MB s pc pm pk nf ne np nx e b0 l x left v M) :
  CallOk Tryz.prog 28 [v, .agg (rchc x), I left, .ptr (some (nf, 0)), .ptr (some (ne, 0)), .ptr (some (np, 0)), .ptr (some (nx, 0))] M (BsPost s pm pk nf b0 ((shootsL s left).findSome? (stepG s e G l x left)) M) := by
 obtain ⟨hk, hkn, hkc, ⟨u, hf⟩, hen, hp, hx, hv, hnil, hlen, hpo, htm⟩ := h
 obtain ⟨ao, fo, eo, rfl⟩ := hv.shape
 have hn5 := hs.n5
 have hp2 : 2 ^ s.lines.length <= 32 := Nat.pow_le_pow_right (n := 2) (by omega) hn5
 have l1 := hf.2
 have l2 := hen.2
 have l3 := hkn.lt
 have l4 := hkc.lt
 have l5 := hkn.ne_at hf
 have l6 := hkc.ne_at hf
 have l7 : ne ≠ nf := fun h => by subst h; exact absurd (at_ty hf hen) (by decide)
 have l8 : np ≠ nf := fun h => by subst h; exact absurd (at_ty hf hp) (by decide)
 have l9 : nx ≠ nf := fun h => by subst h; exact absurd (at_ty hf hx) (by decide)
 have l10 := hp.2
 have l11 := hx.2
 have l12 := hkn.ne_at hen
 have l13 := hkc.ne_at hen
 have l14 := hkn.ne_at hp
 have l15 := hkc.ne_at hp
 have l16 := hkn.ne_at hx
 have l17 := hkc.ne_at hx
 refine call_in kq28 rfl ?_
 dsimp only [xq28, qm, qf, ql, qL, qb, qe, qc, qB, qC, qg, qS, qo, qk, qK, qq, qZ, zipE, Nat.reduceAdd]
 (repeat' first|with_reducible intro _|refine sv ?_|refine sc ?_ ?_<;>(intro h;try exact sz h)|refine sg ?_ ?_<;>(intro h;first|exact sz h|refine sy h ?_)|exact sq|fail)
 rename_i n7 M1 hn7 e1 e2 n8 M2 hn8 e3 e4 n9 M3 hn9 e5 e6 n10 M4 hn10 e7 e8
 have hg4 : Grow M M4 := xg
 refine x_call (by exact gd) rfl rfl (show AppOk Tryz.prog _ _ M4 _ from c_shoots (pc := pc) (pk := pk) (set := (left : Int)) M4) ?_
 rintro w M5 ⟨np2, ns2, rfl, hg5, hp5, hs5, a5, b5⟩
 have hle5 := hg5.le
 have q1 := a5.2
 have q2 := b5.2
 (repeat' first|with_reducible intro _|refine sv ?_|refine sc ?_ ?_<;>(intro h;try exact sz h)|refine sg ?_ ?_<;>(intro h;first|exact sz h|refine sy h ?_)|exact sq|fail)
 apply w_rfun
 exact rfl
 intro lb d ll M6 M7 hlb hd e10 e11 hl e12 e13
 have hg47 : Grow M4 M7 := (hg5.trans hd.grow).trans hl.grow
 have hg57 : Grow M5 M7 := hd.grow.trans hl.grow
 have hg7 : Grow M M7 := hg4.trans hg47
 have hle7 := hg7.le
 have hleK := hk.le
 have b7 : At M7 n7 (.cells true [.slice ao l.length fo eo] 40) := At.grow hg47 (xm)
 have b8 : At M7 n8 (.cells true (rchc x) 90) := At.grow hg47 (xm)
 have b9 : At M7 n9 (.cells true [I left] 3) := At.grow hg47 (xm)
 have b10 : At M7 n10 (.cells true [.bool false] 4) := At.grow hg47 (xm)
 have bd : At M7 d .defr := At.new_old hl (At.new_same hd)
 have hch7 := hpl.chc ((hk.grow hg7))
 have hy := y_shoots (A := A) (s := s) (pc := pc) (pm := pm) (pk := pk) (np := np2) (ns := ns2) (set := left) (M0 := M7) hch7.cells (a5.grow hg57) (b5.grow hg57) hn5 (by omega)
 have k1 : pm < MB.next := hpl.ch.known.lt
 have k2 : pk < MB.next := hpl.kc.lt
 have hdne : d ≠ n10 /\ d ≠ nf /\ d ≠ pm /\ d ≠ pk /\ d ≠ ll /\ n10 < d /\ n10 ≠ ll /\ n10 ≠ nf /\ n10 ≠ pm /\ n10 ≠ pk := by omega
 let KF : Nat -> Prop := fun i => i = pm ∨ i = pk ∨ i = nf ∨ i = n10 ∨ i = ll
 refine (hy ll KF (fun dn T M' => Keep (fun i => i = pm ∨ i = pk ∨ i = nf ∨ i = ll) M7 M' /\ KnM M' s pm /\ KcM M' s pk /\ (∃ u, At M' nf (.cells true [u] 40)) /\ At M' ll (lb .ready none) /\ dn.findSome? (stepG s e G l x left) = none)
  (fun T M' => Keep KF M7 M' /\ KnM M' s pm /\ KcM M' s pk /\ At M' n10 (.cells true [.bool true] 4) /\ At M' ll (lb .done (some .ret)) /\ ∃ u r, At M' nf (.cells true [u] 40) /\ (shootsL s left).findSome? (stepG s e G l x left) = some r /\ Vec M7.next 2 45 shcc M' u r /\ ∀ i o n f e, u = .slice (some (i, o)) n f e -> T i) ⟨?_, ?_, ?_, ?_⟩ ?_ ⟨Keep.refl _ _, hkn.at hg7.le (hg7.old _ l3), hkc.at hg7.le (hg7.old _ l4), ⟨u, hf.grow hg7⟩, At.new_same hl, rfl⟩).mono ?_
 ·rintro i (rfl | rfl | rfl | rfl | rfl) <;> omega
 ·rintro dn T Mx My ⟨h1, h2, h3, ⟨u', h4⟩, h5, h6⟩ hle hg
  have hgo : ∀ i, i < M7.next -> My.get i = Mx.get i := fun i hi => hg i (.inl ⟨hi, id⟩)
  exact ⟨⟨Nat.le_trans h1.le hle, fun i hi hf => by rw [hgo i (by omega)]; exact h1.old i hi hf⟩, h2.at hle (hgo _ (by omega)), h3.at hle (hgo _ (by omega)), ⟨u', h4.same hle (hgo _ (by omega))⟩, h5.same hle (hgo _ (by omega)), h6⟩
 ·rintro T Mx My ⟨h1, h2, h3, h4, h5, u', r, h6, h7, h8, h9⟩ hle hg
  have hgo : ∀ i, i < M7.next -> My.get i = Mx.get i := fun i hi => hg i (.inl ⟨hi, id⟩)
  exact ⟨⟨Nat.le_trans h1.le hle, fun i hi hf => by rw [hgo i (by omega)]; exact h1.old i hi hf⟩, h2.at hle (hgo _ (by omega)), h3.at hle (hgo _ (by omega)), h4.same hle (hgo _ (by omega)), h5.same hle (hgo _ (by omega)), u', r, h6.same hle (hgo _ (by omega)), h7, h8.imp id (fun ⟨i, z1, z2, z3⟩ => ⟨i, z1, z2.same hle (hg i (.inr (h9 _ _ _ _ _ z1))), z3⟩), h9⟩
 ·rintro dn c rest vv U T Mx hits ⟨rfl, hU⟩ hN0 hT hUd ⟨h1, h2, h3, ⟨u', h4⟩, h5, h6⟩
  have hcm := mem_shoots.1 (show c ∈ shootsL s left by rw [hits]; simp)
  have hc2 : c < 2 * s.lines.length := hcm.1
  have hle1 := h1.le
  have hlM := h5.2
  have hkMx : Keep (fun i => i = pm ∨ i = pk ∨ i = nf) M Mx := (hg7.to_keep (fun i => i = pm ∨ i = pk ∨ i = nf)).trans h1 (fun i hi => (by
    rcases hi with hi | hi | hi | hi
    ·exact .inl (.inl hi)
    ·exact .inl (.inr (.inl hi))
    ·exact .inl (.inr (.inr hi))
    ·exact .inr (by omega)))
  have hvx : Vec b0 2 45 shcc Mx (.slice ao l.length fo eo) l := Vec.keep_ne hv hkMx (fun i hi hf2 => hf2.elim (fun h => hkn.ne_at hi h) (fun h => h.elim (fun h => hkc.ne_at hi h) (fun h => by subst h; exact absurd (at_ty hf hi) (by decide))))
  have x7 := b7.keep h1 (by omega)
  have x8 := b8.keep h1 (by omega)
  have x9 := b9.keep h1 (by omega)
  have xe := hen.keep hkMx (by rintro (h | h | h); exact hkn.ne_at hen h; exact hkc.ne_at hen h; exact l7 h)
  have xp := hp.keep hkMx (by rintro (h | h | h); exact hkn.ne_at hp h; exact hkc.ne_at hp h; exact l8 h)
  have xx := hx.keep hkMx (by rintro (h | h | h); exact hkn.ne_at hx h; exact hkc.ne_at hx h; exact l9 h)
  have hkBx : Keep (fun i => i = pm ∨ i = pk) MB Mx := hk.trans hkMx (fun i hi => by omega)
  have xch := hpl.keepm hkBx h2 h3
  have r1 := h4.2
  have r2 := h2.lt
  have r3 := h3.lt
  have r4 := xe.2
  have r5 := xp.2
  have r6 := xx.2
  have r7 := x7.2
  have hgo := fun M' (hg : Grow Mx M') => c_goes (x := x) (c := c) (xch.grow hg) hs hpo htm hc2
  refine round_in hlb h5 rfl ?_
  dsimp only [zipP]
  clear hgo
  (repeat' first|with_reducible intro _|refine sv ?_|refine sc ?_ ?_<;>(intro h;try exact sz h)|refine sg ?_ ?_<;>(intro h;first|exact sz h|refine sy h ?_)|exact sq|fail)
  rename_i n11 MA hnA e14 e15 MX huX e16 aX MC huC e17 aC
  have hkC : Keep (fun i => i = ll) Mx MC := xk
  have hleC := hkC.le
  have xchC : PlM MC A s pc pm pk := hpl.keepm (hkBx.trans hkC (fun i hi => .inr (by omega))) (h2.at hleC (hkC.old _ r2 (by omega))) (h3.at hleC (hkC.old _ r3 (by omega)))
  have aXC : At MC n11 (.cells true (shcc c) 45) := xm
  refine x_call (by exact gd) rfl rfl (show AppOk Tryz.prog _ _ MC _ from c_goes (x := x) (c := c) xchC hs hpo htm hc2) ?_
  rintro w MD ⟨rfl, hkD, hknD, hkcD⟩
  have hleD := hkD.le
  have hkxD : Keep (fun i => i = pm ∨ i = pk ∨ i = ll) Mx MD := (hkC.weaken (fun i hi => .inr (.inr hi))).trans hkD (fun i hi => .inl (hi.elim .inl (fun h => .inr (.inl h))))
  have hkMD : Keep (fun i => i = pm ∨ i = pk ∨ i = nf) M MD := hkMx.trans hkxD (fun i hi => by omega)
  have hkBD : Keep (fun i => i = pm ∨ i = pk) MB MD := hkBx.trans hkxD (fun i hi => by omega)
  have hvD : Vec b0 2 45 shcc MD (.slice ao l.length fo eo) l := Vec.keep_ne hv hkMD (fun i hi hf2 => hf2.elim (fun h => hkn.ne_at hi h) (fun h => h.elim (fun h => hkc.ne_at hi h) (fun h => by subst h; exact absurd (at_ty hf hi) (by decide))))
  have y7 := x7.keep hkxD (by omega)
  have y8 := x8.keep hkxD (by omega)
  have y9 := x9.keep hkxD (by omega)
  have ye := xe.keep hkxD (by omega)
  have yp := xp.keep hkxD (by omega)
  have yx := xx.keep hkxD (by omega)
  have yf := h4.keep hkxD (by omega)
  have yl := aC.keep hkD (by omega)
  have y11 := aXC.keep hkD (by omega)
  have y10 := (b10.keep h1 (by omega)).keep hkxD (by omega)
  have yd := (bd.keep h1 (by omega)).keep hkxD (by omega)
  have hs7 : (dn ++ [c]).findSome? (stepG s e G l x left) = stepG s e G l x left c := by rw [List.findSome?_append, h6]; show Option.or none _ = _; rw [Option.none_or, List.findSome?_cons]; cases stepG s e G l x left c <;> rfl
  have hs8 : ∀ r, stepG s e G l x left c = some r -> (shootsL s left).findSome? (stepG s e G l x left) = some r := fun r hr => by rw [hits, List.findSome?_append, h6, List.findSome?_cons, hr]; rfl
  have hskip : ∀ {MF MG : Mem}, Keep (fun i => False) MD MF -> Upd MF ll (lb .ready none) MG -> At MG ll (lb .ready none) -> stepG s e G l x left c = none ->
    Keep (fun i => KF i ∨ T i ∨ U i) Mx MG /\ ∃ T' : Nat -> Prop, (∀ i, T' i -> (T i ∨ U i ∨ Mx.next <= i) /\ i < MG.next) /\ ((LV.bool true = .bool true /\ Keep (fun i => i = pm ∨ i = pk ∨ i = nf ∨ i = ll) M7 MG /\ KnM MG s pm /\ KcM MG s pk /\ (∃ u, At MG nf (.cells true [u] 40)) /\ At MG ll (lb .ready none) /\ (dn ++ [c]).findSome? (stepG s e G l x left) = none) ∨ (LV.bool true = .bool false /\
     (Keep KF M7 MG /\ KnM MG s pm /\ KcM MG s pk /\ At MG n10 (.cells true [.bool true] 4) /\ At MG ll (lb .done (some .ret)) /\ ∃ u r, At MG nf (.cells true [u] 40) /\ (shootsL s left).findSome? (stepG s e G l x left) = some r /\ Vec M7.next 2 45 shcc MG u r /\ ∀ i o n f e, u = .slice (some (i, o)) n f e -> T' i))) := by
   intro MF MG hkF huG aG hst
   have hkG : Keep (fun i => i = ll) MD MG := (hkF.weaken (fun i hi => hi.elim)).upd huG (.inl rfl)
   have hkxG : Keep (fun i => i = pm ∨ i = pk ∨ i = nf ∨ i = ll) Mx MG := (hkxD.weaken (fun i hi => by omega)).trans hkG (fun i hi => by omega)
   have z1 := hknD.lt
   have z2 := hkcD.lt
   exact ⟨hkxG.weaken (fun i hi => .inl (by show i = pm ∨ i = pk ∨ i = nf ∨ i = n10 ∨ i = ll; omega)), fun _ => False, fun i hi => hi.elim, .inl ⟨rfl, h1.trans hkxG (fun i hi => .inl hi), hknD.at hkG.le (hkG.old _ z1 (by omega)), hkcD.at hkG.le (hkG.old _ z2 (by omega)), ⟨u', yf.keep hkG (by omega)⟩, aG, by rw [hs7, hst]⟩⟩
  cases hgf : goF s x c with
  | none =>
   (repeat' first|with_reducible intro _|refine sv ?_|refine sc ?_ ?_<;>(intro h;try exact sz h)|refine sg ?_ ?_<;>(intro h;first|exact sz h|refine sy h ?_)|exact sq|fail)
   rename_i n12 ME hnE e18 e19 MF huF e20 aF MG huG e21 aG
   exact hskip (xk) huG aG (by unfold stepG; rw [hgf])
  | some b =>
   have hgb := goF_bd hs (div_lt hc2) hgf
   have hbe : ((some b).getD (0, 0)).2 = b.2 := rfl
   by_cases heb : e < b.2
   ·(repeat' first|with_reducible intro _|refine sv ?_|refine sc ?_ ?_<;>(intro h;try exact sz h)|refine sg ?_ ?_<;>(intro h;first|exact sz h|refine sy h ?_)|exact sq|fail)
    all_goals try (exfalso; omega)
    rename_i n12 ME hnE e18 e19 MF huF e20 aF MG huG e21 aG
    exact hskip (xk) huG aG (by unfold stepG; rw [hgf]; exact if_pos heb)
   ·(repeat' first|with_reducible intro _|refine sv ?_|refine sc ?_ ?_<;>(intro h;try exact sz h)|refine sg ?_ ?_<;>(intro h;first|exact sz h|refine sy h ?_)|exact sq|fail)
    all_goals try (exfalso; omega)
    rename_i n12 ME hnE e18 e19 MF huF e20 aF
    have hkF : Keep (fun i => False) MD MF := xk
    have hleF := hkF.le
    have hvF : Vec b0 2 45 shcc MF (.slice ao l.length fo eo) l := Vec.keep_ne hvD hkF (fun i hi h => h)
    refine d_call (by exact gd) rfl rfl (show AppOk Tryz.prog _ _ MF _ from c_Clone_Sh hvF hnil (by omega)) ?_
    rintro w MG ⟨hvG, hgG⟩
    have hleG := hgG.le
    obtain ⟨ag, fg, eg, rfl⟩ := Vec.shape hvG
    have w11 : At MG n11 (.cells true (shcc c) 45) := (y11.keep hkF (fun h => h)).grow hgG
    have w12 : At MG n12 (.cells true [I b.1, I b.2] 26) := aF.grow hgG
    (repeat' first|with_reducible intro _|refine sv ?_|refine sc ?_ ?_<;>(intro h;try exact sz h)|refine sg ?_ ?_<;>(intro h;first|exact sz h|refine sy h ?_)|exact sq|fail)
    rename_i n44 MH hnH e22 e23
    have hvH : Vec MF.next 2 45 shcc MH (.slice ag l.length fg eg) l := Or.imp id (fun ⟨i, z1, z2, z3⟩ => ⟨i, z1, At.new_old hnH z2, z3⟩) hvG
    have hwH : firstL 2 1 (.slice (some (n44, 0)) 1 true 2) MH = some ([c].flatMap shcc) := firstL_rd (enc := shcc) (l := [c]) (fun _ _ => rfl) (fun k hk => rd_flat (enc := shcc) (l := [c]) (At.new_same hnH) (fun _ _ => rfl) hk)
    refine d_vec_app (by exact gd) (l' := [c]) hvH rfl rfl rfl (by simp) (by rw [List.length_singleton]; omega) rfl hwH (fun _ => rfl) (fun _ => rfl) (by omega) ?_
    intro v45 MI hvI e24 hkI
    have hleI := hkI.le
    have hkDI : Keep (fun i => False) MD MI := ((hkF.grow hgG).new hnH).trans hkI (fun i hi => .inr (by omega))
    have z9 := y9.keep hkDI (fun h => h)
    have z11 := y11.keep hkDI (fun h => h)
    have zp := yp.keep hkDI (fun h => h)
    have zx := yx.keep hkDI (fun h => h)
    have z12 : At MI n12 (.cells true [I b.1, I b.2] 26) := (At.new_old hnH w12).keep hkI (fun h => by have := w12.2; omega)
    have hkBI : Keep (fun i => i = pm ∨ i = pk) MB MI := hkBD.trans hkDI (fun i hi => hi.elim)
    have haf := fun M' (hg : Grow MI M') => c_afterD (pk := pk) (c := c) (t := b.2) ((hpl.chc hkBI).grow hg) hs hc2
    have hsb := shl_one_bd (k := c / 2) (by omega)
    (repeat' first|with_reducible intro _|refine sv ?_|refine sc ?_ ?_<;>(intro h;try exact sz h)|(with_reducible first|apply x_pure|apply d_pure|apply d_pure0);exact gd;exact rfl;exact rfl;exact haf _ (xg)|refine sg ?_ ?_<;>(intro h;first|exact sz h|refine sy h ?_)|exact sq|fail)
    rename_i MJ hgJ hleJ
    have hkDJ := hkDI.grow hgJ
    have hkBJ := hkBI.grow hgJ
    have hvJ : Vec MF.next 2 45 shcc MJ v45 (l ++ [c]) := Or.imp id (fun ⟨i, z1, z2, z3⟩ => ⟨i, z1, z2.grow hgJ, z3⟩) hvI
    have hrl := rest_lt hcm.2
    have hmd := hknD.lt
    have hkd := hkcD.lt
    have hih := IH MJ MF.next (l ++ [c]) (rchF s c b.2) (restN left (c / 2)) v45 hrl (by omega) ⟨hkBJ, hknD.at hkDJ.le (hkDJ.old _ hmd (fun h => h)), hkcD.at hkDJ.le (hkDJ.old _ hkd (fun h => h)), ⟨u', yf.keep hkDJ (fun h => h)⟩, ye.keep hkDJ (fun h => h), yp.keep hkDJ (fun h => h), yx.keep hkDJ (fun h => h), hvJ, fun h => by simp at h, by rw [List.length_append, List.length_singleton]; omega, endC_ok hs (div_lt hc2), by show 0 <= b.2 /\ b.2 <= 5000000; omega⟩
    rw [<- andn_rest left (c / 2)] at hih
    have q9 := (yl.keep hkDJ (fun h => h)).2
    have q10 := (y10.keep hkDJ (fun h => h)).2
    have qd := (yd.keep hkDJ (fun h => h)).2
    have hleDJ := hkDJ.le
    have hstep : stepG s e G l x left c = G (l ++ [c]) (rchF s c b.2) (restN left (c / 2)) := by unfold stepG; rw [hgf]; exact if_neg heb
    refine d_call (by exact gd) rfl rfl (show AppOk Tryz.prog (bestV nf ne np nx) _ MJ _ from hih) ?_
    rintro w MK ⟨hkK, hknK, hkcK, u2, hfK, hres⟩
    have hleKK := hkK.le
    have hlK := (yl.keep hkDJ (fun h => h)).keep hkK (by omega)
    have h10K := (y10.keep hkDJ (fun h => h)).keep hkK (by omega)
    have hdK := (yd.keep hkDJ (fun h => h)).keep hkK (by omega)
    have qm := hknK.lt
    have qk := hkcK.lt
    have qf := hfK.2
    have hkxK : Keep (fun i => i = pm ∨ i = pk ∨ i = nf ∨ i = ll) Mx MK := ((hkxD.weaken (fun i hi => by omega)).trans hkDJ (fun i hi => hi.elim)).trans hkK (fun i hi => by omega)
    have hlenx : Mx.next <= MF.next := by omega
    rcases hres with ⟨rfl, r, hr, hvK⟩ | ⟨rfl, hr⟩
    ·(repeat' first|with_reducible intro _|refine sv ?_|refine sc ?_ ?_<;>(intro h;try exact sz h)|refine sg ?_ ?_<;>(intro h;first|exact sz h|refine sy h ?_)|exact sq|fail)
     rename_i MP huP e25 aP MQ huQ e26 aQ
     have hkP : Keep (fun i => i = n10 ∨ i = ll) MK MQ := ((Keep.refl _ MK).upd huP (.inl (.inl rfl))).upd huQ (.inl (.inr rfl))
     have hkxQ : Keep KF Mx MQ := (hkxK.weaken (fun i hi => by show i = pm ∨ i = pk ∨ i = nf ∨ i = n10 ∨ i = ll; omega)).trans hkP (fun i hi => .inl (by show i = pm ∨ i = pk ∨ i = nf ∨ i = n10 ∨ i = ll; omega))
     refine ⟨hkxQ.weaken (fun i hi => .inl hi), fun i => ∃ o n f e, u2 = .slice (some (i, o)) n f e, fun i hi => ?_, .inr ⟨rfl, (h1.weaken (fun i hi => by show i = pm ∨ i = pk ∨ i = nf ∨ i = n10 ∨ i = ll; omega)).trans hkxQ (fun i hi => .inl hi), hknK.at hkP.le (hkP.old _ qm (by omega)), hkcK.at hkP.le (hkP.old _ qk (by omega)), aP.upd_ne huQ (by omega), aQ, u2, r, hfK.keep hkP (by omega), hs8 r (by rw [hstep]; exact hr), Or.imp id (fun ⟨i, z1, z2, z3⟩ => ⟨i, z1, z2.keep hkP (by omega), by omega⟩) hvK, fun i o n f e h => ⟨o, n, f, e, h⟩⟩⟩
     obtain ⟨o, n, f, e', h⟩ := hi
     rcases hvK with ⟨_, z1⟩ | ⟨i', z1, z2, z3⟩
     ·rw [z1] at h; cases h
     ·rw [z1] at h; cases h
      have := z2.2
      exact ⟨.inr (.inr (by omega)), by omega⟩
    ·(repeat' first|with_reducible intro _|refine sv ?_|refine sc ?_ ?_<;>(intro h;try exact sz h)|refine sg ?_ ?_<;>(intro h;first|exact sz h|refine sy h ?_)|exact sq|fail)
     rename_i MQ huQ e26 aQ
     have hkP : Keep (fun i => i = ll) MK MQ := (Keep.refl _ MK).upd huQ (.inl rfl)
     have hkxQ : Keep (fun i => i = pm ∨ i = pk ∨ i = nf ∨ i = ll) Mx MQ := hkxK.trans hkP (fun i hi => by omega)
     exact ⟨hkxQ.weaken (fun i hi => .inl (by show i = pm ∨ i = pk ∨ i = nf ∨ i = n10 ∨ i = ll; omega)), fun _ => False, fun i hi => hi.elim, .inl ⟨rfl, h1.trans hkxQ (fun i hi => .inl hi), hknK.at hkP.le (hkP.old _ qm (by omega)), hkcK.at hkP.le (hkP.old _ qk (by omega)), ⟨u2, hfK.keep hkP (by omega)⟩, aQ, by rw [hs7, hstep]; exact hr⟩⟩
 ·rintro i (rfl | rfl | rfl) (hi | hi | hi | hi | hi)
  all_goals first
   | omega
   |(exact absurd hi hpl.ch.ne)
   |(exact absurd hi hpl.nc)
   |(have := hpl.ch.cells.2; omega)
 ·rintro v M8 ⟨hk8, _, T8, hT8, ⟨h1, h2, h3, ⟨u', h4⟩, h5, h6⟩ | ⟨h1, h2, h3, h4, h5, u', r, h6, h7, h8, h9⟩⟩
  ·have hd8 : At M8 d .defr := bd.keep h1 (by omega)
   have c10 : At M8 n10 (.cells true [.bool false] 4) := b10.keep h1 (by omega)
   have r1 := h4.2
   have r2 := h2.lt
   have r3 := h3.lt
   have r4 := c10.2
   have r5 := hd8.2
   refine k_iter h5 (by simp) fun M9 hu9 e14 a9 => ?_
   (repeat' first|with_reducible intro _|refine sv ?_|refine sc ?_ ?_<;>(intro h;try exact sz h)|refine sg ?_ ?_<;>(intro h;first|exact sz h|refine sy h ?_)|exact sq|fail)
   rename_i M10 hu10 e15 a10
   refine k_fun_end (.inr rfl) (by simp) (fun d' hd' => by obtain rfl := List.mem_singleton.1 hd'; exact xm) fun M11 hm => ?_
   have hk11 : Keep (fun i => i = ll ∨ i = n10 ∨ i = d) M8 M11 := (((Keep.refl _ M8).upd hu9 (.inl (.inl rfl))).upd hu10 (.inl (.inr (.inl rfl)))).unmark hm (fun d' hd' => by obtain rfl := List.mem_singleton.1 hd'; exact .inl (.inr (.inr rfl)))
   have d10 : At M11 n10 (.cells true [.bool false] 4) := by
    have hku : Keep (fun i => i = d) M10 M11 := (Keep.refl _ M10).unmark hm (fun d' hd' => by obtain rfl := List.mem_singleton.1 hd'; exact .inl rfl)
    exact a10.keep hku (by omega)
   have hkM : Keep (fun i => i = pm ∨ i = pk ∨ i = nf) M M11 := ((hg7.to_keep (fun i => i = pm ∨ i = pk ∨ i = nf)).trans h1 (fun i hi => (by
    rcases hi with hi | hi | hi | hi
    ·exact .inl (.inl hi)
    ·exact .inl (.inr (.inl hi))
    ·exact .inl (.inr (.inr hi))
    ·exact .inr (by omega)))).trans hk11 (fun i hi => .inr (by omega))
   exact ⟨_, .cell1 rfl (Rd1.of_at d10 rfl).1 .nil, hkM, h2.at hk11.le (hk11.old _ r2 (by omega)), h3.at hk11.le (hk11.old _ r3 (by omega)), u', h4.keep hk11 (by omega), .inr ⟨rfl, h6⟩⟩
  ·have hd8 : At M8 d .defr := bd.keep h1 (by omega)
   have r1 := h6.2
   have r2 := h2.lt
   have r3 := h3.lt
   have r4 := h4.2
   have r5 := hd8.2
   refine k_iter_ret h5 (by simp) fun M9 hu9 e14 a9 => ?_
   (repeat' first|with_reducible intro _|refine sv ?_|refine sc ?_ ?_<;>(intro h;try exact sz h)|refine sg ?_ ?_<;>(intro h;first|exact sz h|refine sy h ?_)|exact sq|fail)
   refine k_fun_end (.inr rfl) (by simp) (fun d' hd' => by obtain rfl := List.mem_singleton.1 hd'; exact xm) fun M11 hm => ?_
   have hk11 : Keep (fun i => i = ll ∨ i = d) M8 M11 := ((Keep.refl _ M8).upd hu9 (.inl (.inl rfl))).unmark hm (fun d' hd' => by obtain rfl := List.mem_singleton.1 hd'; exact .inl (.inr rfl))
   have hkM : Keep (fun i => i = pm ∨ i = pk ∨ i = nf) M M11 := ((hg7.to_keep (fun i => i = pm ∨ i = pk ∨ i = nf)).trans h1 (fun i hi => (by
    rcases hi with hi | hi | hi | hi | hi
    ·exact .inl (.inl hi)
    ·exact .inl (.inr (.inl hi))
    ·exact .inl (.inr (.inr hi))
    ·exact .inr (by omega)
    ·exact .inr (by omega)))).trans hk11 (fun i hi => .inr (by omega))
   have hfin : Vec b0 2 45 shcc M11 u' r := h8.imp id (fun ⟨i, z1, z2, z3⟩ => ⟨i, z1, z2.keep hk11 (by omega), by omega⟩)
   exact ⟨_, .cell1 rfl (Rd1.of_at (h4.keep hk11 (by omega)) rfl).1 .nil, hkM, h2.at hk11.le (hk11.old _ r2 (by omega)), h3.at hk11.le (hk11.old _ r3 (by omega)), u', h6.keep hk11 (by omega), .inl ⟨rfl, r, h7, hfin⟩⟩
theorem stepG_next (s : Cr) (e : Int) (f : Nat) (l : List Nat) (x : Rch) (left : Nat) (h : left ≠ 0) : nextO s e (f + 1) l x left = (shootsL s left).findSome? (stepG s e (nextO s e f) l x left) := by
 show (if left = 0 then _ else _) = _
 rw [if_neg h]
 congr 1
theorem c_bnext {MB : Mem} {A : CrA} {s : Cr} {pc pm pk nf ne np nx : Nat} {e : Int} (hpl : PlM MB A s pc pm pk) (hs : CrOk s) (he : -1 <= e /\ e <= 5000000) (hnf : MB.next <= nf) :
  ∀ (f : Nat) (M : Mem) (b0 : Nat) (l : List Nat) (x : Rch) (left : Nat) (v : LV), left <= f -> left < 2 ^ s.lines.length -> b0 <= M.next -> BsPre MB s pc pm pk nf ne np nx e b0 l x left v M ->
  CallOk Tryz.prog 28 [v, .agg (rchc x), I left, .ptr (some (nf, 0)), .ptr (some (ne, 0)), .ptr (some (np, 0)), .ptr (some (nx, 0))] M (BsPost s pm pk nf b0 (nextO s e f l x left) M) := by
 intro f
 induction f with
 | zero =>
  intro M b0 l x left v hf _ hb h
  obtain rfl : left = 0 := by omega
  exact c_bnext_zero hpl hs he hnf h
 | succ f ih =>
  intro M b0 l x left v hf hl hb h
  by_cases h0 : left = 0
  ·subst h0
   exact c_bnext_zero hpl hs he hnf h
  ·rw [stepG_next s e f l x left h0]
   exact c_bnext_step (nextO s e f) hpl hs he hnf (fun M' b' l' x' left' v' hlt hb' h' => ih M' b' l' x' left' v' (by omega) (by omega) hb' h') hb h0 hl h
noncomputable def allN (s : Cr) : Nat := 2 ^ s.lines.length - 1
noncomputable def endS (s : Cr) (e : Int) (c : Nat) : Int := if 0 <= TT s (allN s) c /\ (e < 0 ∨ TT s (allN s) c < e) then TT s (allN s) c else e
noncomputable def endB (s : Cr) : Int := (shootsL s (allN s)).foldl (endS s) (-1)
theorem end_bd {s : Cr} (hs : CrOk s) : ∀ (l : List Nat) (e : Int), (-1 <= e /\ e <= 1048576) -> (∀ c ∈ l, c < 2 * s.lines.length) -> -1 <= l.foldl (endS s) e /\ l.foldl (endS s) e <= 1048576
 | [], e, h, _ => h
 | c :: l, e, h, hl => by
  rw [List.foldl_cons]
  refine end_bd hs l _ ?_ fun d hd => hl d (List.mem_cons_of_mem _ hd)
  have hb : -1 <= TT s (allN s) c /\ TT s (allN s) c <= 1048576 := by
   have h1 : plN s (allN s) c < (tabF s).length := by rw [tab_len]; exact pl_lt (by unfold allN; have := Nat.two_pow_pos s.lines.length; omega) (hl c (List.mem_cons_self ..))
   unfold TT
   rw [getD_eq h1]
   exact (TbOk.rows hs _).2 _ (List.getElem_mem h1)
  unfold endS
  split
  ·exact hb
  ·exact h
set_option maxHeartbeats 16000000 in
theorem c_Best {A : CrA} {s : Cr} {M : Mem} (hM : CrM M A s) : CallOk Tryz.prog 7 [crv A s] M (fun v M' => Grow M M' /\ ((¬ CrOk s /\ v = .tup [.slice none 0 true 0, I 0, I 40]) ∨ (CrOk s /\ endB s < 0 /\ v = .tup [.slice none 0 true 0, I 0, I 4]) ∨
  (CrOk s /\ 0 <= endB s /\ ∃ u, v = .tup [u, I (endB s), I 0] /\ ∀ r, nextO s (endB s) (allN s) [] (startR s) (allN s) = some r -> Vec M.next 2 45 shcc M' u r))) := by
 refine call_in kq7 rfl ?_
 dsimp only [xq7, qm, qf, ql, qL, qi, qb, qe, qc, qa, qn, qC, qg, qS, qo, qk, qK, qq, qZ, qN, zipE, Nat.reduceAdd]
 have hc := fun M' (hg : Grow M M') => c_planOf (hM.grow hg)
 (repeat' first|with_reducible intro _|refine sv ?_|refine sc ?_ ?_<;>(intro h;try exact sz h)|(with_reducible first|apply x_call|apply d_call|apply x_call0);exact gd;exact rfl;exact rfl;exact hc _ (xg)|refine sg ?_ ?_<;>(intro h;first|exact sz h|refine sy h ?_)|exact sq|fail)
 rename_i n1 M1 hn1 e1 e2 n3 M2 hn3 e3 e4 w M3 hq
 obtain ⟨hg3, ⟨hno, pk, rfl⟩ | ⟨hok, pc, pm, pk, rfl, hpl, h1, h2, h3⟩⟩ := hq
 ·have hle3 := hg3.le
  (repeat' first|with_reducible intro _|refine sv ?_|refine sc ?_ ?_<;>(intro h;try exact sz h)|refine sg ?_ ?_<;>(intro h;first|exact sz h|refine sy h ?_)|exact sq|fail)
  (refine kf ?_)
  exact ⟨xg, .inl ⟨hno, rfl⟩⟩
 ·have hle3 := hg3.le
  have hpm := hpl.ch.known.lt
  have hpk := hpl.kc.lt
  have hcell := hpl.ch.cells
  have hpc := hcell.2
  have hn5 := hok.n5
  have hn1' := hok.n1
  have hp2 : 2 ^ s.lines.length <= 32 := Nat.pow_le_pow_right (n := 2) (by omega) hn5
  have hsb := shl_one_bd (k := s.lines.length) (by omega)
  have hall : shlZ 1 (s.lines.length : Int) - 1 = ((allN s : Nat) : Int) := by rw [shl_one]; unfold allN; have := Nat.two_pow_pos s.lines.length; omega
  (repeat' first|with_reducible intro _|refine sv ?_|refine sc ?_ ?_<;>(intro h;try exact sz h)|refine sg ?_ ?_<;>(intro h;first|exact sz h|refine sy h ?_)|exact sq|fail)
  rename_i n5 M4 hn5' e5 e6 M5 hu5 e7 a5 n6 M6 hn6 e8 e9 M7 hu7 e10 a7
  have hg7 : Grow M3 M7 := xg
  have b5 : At M7 n5 (.cells true [.ptr (some (pc, 0)), .map (some pk)] 77) := xm
  have b3 : At M7 n3 (.cells true [I 0] 3) := xm
  have b6 : At M7 n6 (.cells true [I (allN s : Nat)] 3) := by rw [<- hall]; exact a7
  have hle7 := hg7.le
  have hn3M : n3 < M3.next := by omega
  refine x_call (by exact gd) rfl rfl (show AppOk Tryz.prog _ _ M7 _ from c_table (hpl.grow hg7) hok) ?_
  rintro w M8 ⟨hk8, hkn8, hkc8, iT, rfl, hiT, aT⟩
  have hle8 := hk8.le
  have c5 := b5.keep hk8 (by omega)
  have c3 := b3.keep hk8 (by omega)
  have c6 := b6.keep hk8 (by omega)
  have q1 := aT.2
  have q2 := hkn8.lt
  have q3 := hkc8.lt
  (repeat' first|with_reducible intro _|refine sv ?_|refine sc ?_ ?_<;>(intro h;try exact sz h)|refine sg ?_ ?_<;>(intro h;first|exact sz h|refine sy h ?_)|exact sq|fail)
  rename_i n7 M9 hn9 e11 e12 M10 hu10 e13 a10 M11 hu11 e14 a11
  have hk811 : Keep (fun i => i = n3) M8 M11 := xk
  refine x_call (by exact gd) rfl rfl (show AppOk Tryz.prog _ _ M11 _ from c_shoots (pc := pc) (pk := pk) (set := ((allN s : Nat) : Int)) M11) ?_
  rintro w M12 ⟨np2, ns2, rfl, hg12, hp12, hs12, a12, b12⟩
  have hle12 := hg12.le
  have q4 := a12.2
  have q5 := b12.2
  (repeat' first|with_reducible intro _|refine sv ?_|refine sc ?_ ?_<;>(intro h;try exact sz h)|refine sg ?_ ?_<;>(intro h;first|exact sz h|refine sy h ?_)|exact sq|fail)
  apply w_rfun
  exact rfl
  intro lb d l M13 M14 hlb hd e15 e16 hl e17 e18
  have hg14 : Grow M11 M14 := (hg12.trans hd.grow).trans hl.grow
  have hg1214 : Grow M12 M14 := hd.grow.trans hl.grow
  have hle14 := hg14.le
  have hle811 := hk811.le
  have hk814 : Keep (fun i => i = n3) M8 M14 := hk811.grow hg14
  have d5 := c5.keep hk814 (by omega)
  have d6 := c6.keep hk814 (by omega)
  have dT := aT.keep hk814 (by omega)
  have d3 : At M14 n3 (.cells true [I (-1)] 3) := a11.grow hg14
  have d7 : At M14 n7 (.cells true [.slice (some (iT, 0)) (tabF s).length true 1] 46) := At.grow hg14 (xm)
  have hkn14 := hkn8.at hk814.le (hk814.old _ q2 (by omega))
  have hkc14 := hkc8.at hk814.le (hk814.old _ q3 (by omega))
  have bd : At M14 d .defr := At.new_old hl (At.new_same hd)
  have hk314 : Keep (fun i => i = pm ∨ i = pk ∨ i = n3) M3 M14 := (((hg7.to_keep (fun i => i = pm ∨ i = pk ∨ i = n3)).trans hk8 (fun i hi => by omega))).trans hk814 (fun i hi => by omega)
  have z1 := hpl.ch.ne
  have z2 := hpl.nc
  have z3 := hpl.nm
  have hg03 : Grow M M3 := xg
  have hle03 := hg03.le
  have hg014 : Grow M M14 := Keep.to_grow' hg03 hk314 (fun i hi => by omega)
  have hC14 : At M14 pc (.cells true (chc A s pm) 82) := hcell.keep hk314 (by omega)
  have q6 := hC14.2
  have hy := y_shoots (A := A) (s := s) (pc := pc) (pm := pm) (pk := pk) (np := np2) (ns := ns2) (set := allN s) (M0 := M14) hC14 (a12.grow hg1214) (b12.grow hg1214) hn5 (by unfold allN; omega)
  have htl : (tabF s).length = 2 * s.lines.length * 2 ^ s.lines.length := tab_len s
  have hTb : TbOk s (tabF s) := TbOk.rows hok _
  have hN : 2 * s.lines.length * 2 ^ s.lines.length <= 10 * 32 := Nat.mul_le_mul (by omega) hp2
  refine (hy l (fun i => i = n3 ∨ i = l) (fun dn T M' => Keep (fun i => i = n3 ∨ i = l) M14 M' /\ At M' n3 (.cells true [I (dn.foldl (endS s) (-1))] 3) /\ At M' l (lb .ready none)) (fun _ _ => False) ⟨?_, ?_, fun T M M' h => h.elim, ?_⟩ ?_ ⟨Keep.refl _ _, d3, At.new_same hl⟩).mono ?_
  ·rintro i (rfl | rfl) <;> omega
  ·rintro dn T Mx My ⟨h1, h2, h3⟩ hle hg
   have hgo : ∀ i, i < M14.next -> My.get i = Mx.get i := fun i hi => hg i (.inl ⟨hi, id⟩)
   exact ⟨⟨Nat.le_trans h1.le hle, fun i hi hf => by rw [hgo i (by omega)]; exact h1.old i hi hf⟩, h2.same hle (hgo _ (by omega)), h3.same hle (hgo _ (by omega))⟩
  ·rintro dn c rest vv U T Mx hits ⟨rfl, hU⟩ hN0 hT hUd ⟨k1, k2, k3⟩
   have hcm := mem_shoots.1 (show c ∈ shootsL s (allN s) by rw [hits]; simp)
   have hc2 : c < 2 * s.lines.length := hcm.1
   have hidx : plN s (allN s) c < (tabF s).length := by rw [htl]; exact pl_lt (by unfold allN; have := Nat.two_pow_pos s.lines.length; omega) hc2
   have aTx := dT.keep k1 (by omega)
   have rT : Rd1 Mx iT (0 + plN s (allN s) c * 1) (I (tabF s)[plN s (allN s) c]) := (rd_flat (enc := intz) aTx (fun _ _ => rfl) hidx).nth (j := 0) rfl
   have hTT : TT s (allN s) c = (tabF s)[plN s (allN s) c] := getD_eq hidx
   have hub := hTb.2 _ (List.getElem_mem hidx)
   have hfold : (dn ++ [c]).foldl (endS s) (-1) = endS s (dn.foldl (endS s) (-1)) c := by rw [List.foldl_append]; rfl
   have heb := end_bd hok dn (-1) (by omega) (fun y hy => (mem_shoots.1 (show y ∈ shootsL s (allN s) by rw [hits]; simp [hy])).1)
   have hle1 := k1.le
   have f5 := d5.keep k1 (by omega)
   have f6 := d6.keep k1 (by omega)
   have f7 := d7.keep k1 (by omega)
   have hgx : Grow M Mx := Keep.to_grow' hg014 k1 (fun i hi => by omega)
   have hCx : ChC Mx A s pc pm := ⟨hM.grow hgx, hC14.keep k1 (by omega)⟩
   have p1 := hCx.cells.2
   have hplc := fun M' (hk' : Keep (fun i => i = l) Mx M') => c_placeD (pk := pk) (set := allN s) (c := c) (ChC.mk (A := A) (hM.grow (Keep.to_grow' hgx hk' (fun i hi => by omega))) (hCx.cells.keep hk' (by omega))) hn5 (by unfold allN; omega) (by omega)
   have hend : endS s (dn.foldl (endS s) (-1)) c = if 0 <= (tabF s)[plN s (allN s) c] /\ (dn.foldl (endS s) (-1) < 0 ∨ (tabF s)[plN s (allN s) c] < dn.foldl (endS s) (-1)) then (tabF s)[plN s (allN s) c] else dn.foldl (endS s) (-1) := by unfold endS; rw [hTT]
   generalize dn.foldl (endS s) (-1) = en at *
   generalize (tabF s)[plN s (allN s) c] = tv at *
   refine round_in hlb k3 rfl ?_
   dsimp only [zipP]
   (have hrd0 := rT;repeat' first|with_reducible intro _|refine sv ?_|refine sc ?_ ?_<;>(intro h;try exact sz h)|(with_reducible first|apply x_pure|apply d_pure|apply d_pure0);exact gd;exact rfl;exact rfl;exact hplc _ (xk)|refine sg ?_ ?_<;>(intro h;first|exact sz h|refine sy h ?_)|exact sq|fail)
   all_goals first
    |(rename_i MZ huZ e30 aZ MY huY e31 aY
      have hkY : Keep (fun i => i = n3 ∨ i = l) Mx MY := xk
      refine ⟨hkY.weaken (fun i hi => .inl hi), fun _ => False, fun i hi => hi.elim, .inl ⟨rfl, k1.trans hkY (fun i hi => .inl hi), ?_, aY⟩⟩
      rw [hfold, hend, if_pos (by omega)]
      exact aZ.upd_ne huY (by omega))
    |(rename_i MY huY e31 aY
      have hkY : Keep (fun i => i = l) Mx MY := xk
      refine ⟨hkY.weaken (fun i hi => .inl (.inr hi)), fun _ => False, fun i hi => hi.elim, .inl ⟨rfl, k1.trans hkY (fun i hi => .inl (.inr hi)), ?_, aY⟩⟩
      rw [hfold, hend, if_neg (by omega)]
      exact k2.keep hkY (by omega))
  ·rintro i (rfl | rfl | rfl) (hi | hi)
   all_goals omega
  ·rintro v M15 ⟨hk15, _, T15, hT15, ⟨k1, k2, k3⟩ | h⟩
   rotate_left
   ·exact h.elim
   have heb : -1 <= endB s /\ endB s <= 1048576 := end_bd hok _ (-1) (by omega) (fun y hy => (mem_shoots.1 hy).1)
   have k2 : At M15 n3 (.cells true [I (endB s)] 3) := k2
   have hle15 := k1.le
   refine k_iter k3 (by simp) fun M16 hu16 e19 a16 => ?_
   have hk16 : Keep (fun i => i = n3 ∨ i = l) M14 M16 := k1.upd hu16 (.inl (.inr rfl))
   have hle16 := hk16.le
   have f3 := k2.upd_ne hu16 (show n3 ≠ l by omega)
   have f5 := d5.keep hk16 (by omega)
   have f6 := d6.keep hk16 (by omega)
   have fd := bd.keep hk16 (by omega)
   have r3 := f3.2
   have r5 := f5.2
   have r6 := f6.2
   have rd := fd.2
   have hg016 : Grow M M16 := Keep.to_grow' hg014 hk16 (fun i hi => by omega)
   have hC16 : At M16 pc (.cells true (chc A s pm) 82) := hC14.keep hk16 (by omega)
   have q7 := hC16.2
   have q8 := hkn14.lt
   have q9 := hkc14.lt
   have hkn16 := hkn14.at hk16.le (hk16.old _ q8 (by omega))
   have hkc16 := hkc14.at hk16.le (hk16.old _ q9 (by omega))
   have hP16 : PlM M16 A s pc pm pk := ⟨⟨hM.grow hg016, hC16, z1, hkn16⟩, hkc16, z2, z3⟩
   have hst := fun M' (hg : Grow M16 M') => c_startD (pk := pk) (ChC.mk (hM.grow (hg016.trans hg)) (hC16.grow hg))
   by_cases hneg : endB s < 0
   ·(repeat' first|with_reducible intro _|refine sv ?_|refine sc ?_ ?_<;>(intro h;try exact sz h)|refine sg ?_ ?_<;>(intro h;first|exact sz h|refine sy h ?_)|exact sq|fail)
    rename_i M17 hu17 e20 a17
    refine k_fun_end (.inr rfl) (by simp) (fun d' hd' => by obtain rfl := List.mem_singleton.1 hd'; exact xm) fun M18 hm => ?_
    have hk17 : Keep (fun i => i = n3) M16 M17 := (Keep.refl _ _).upd hu17 (.inl rfl)
    have hk18 : Keep (fun i => i = d) M17 M18 := (Keep.refl _ M17).unmark hm (fun d' hd' => by obtain rfl := List.mem_singleton.1 hd'; exact .inl rfl)
    have f18 := a17.keep hk18 (by omega)
    exact ⟨_, .tmp rfl (.cell1 rfl (Rd1.of_at f18 rfl).1 (.tmp rfl .nil)), Keep.to_grow' (Keep.to_grow' hg016 hk17 (fun i hi => by omega)) hk18 (fun i hi => by omega), .inr (.inl ⟨hok, hneg, rfl⟩)⟩
   ·(repeat' first|with_reducible intro _|refine sv ?_|refine sc ?_ ?_<;>(intro h;try exact sz h)|(with_reducible first|apply x_pure|apply d_pure|apply d_pure0);exact gd;exact rfl;exact rfl;exact hst _ (xg)|refine sg ?_ ?_<;>(intro h;first|exact sz h|refine sy h ?_)|exact sq|fail)
    rename_i n10 M17 hn10 e20 e21 n11 M18 hn11 e22 e23 M19 hu19 e24 a19 M20 hg20 e25
    have hg1620 : Grow M16 M20 := xg
    have hle20 := hg1620.le
    have g3 := f3.grow hg1620
    have g5 := f5.grow hg1620
    have g6 := f6.grow hg1620
    have gd' := fd.grow hg1620
    have g10 : At M20 n10 (.cells true [.slice none 0 true 0] 40) := At.grow hg20 (xm)
    have g11 : At M20 n11 (.cells true [bestV n10 n3 n5 n11] 87) := At.grow hg20 (xm)
    have r10 := g10.2
    have r11 := g11.2
    have w1 := hkn16.lt
    have w2 := hkc16.lt
    have hsz : allN s < 2 ^ s.lines.length := by unfold allN; have := Nat.two_pow_pos s.lines.length; omega
    have hb := c_bnext hP16 hok (e := endB s) (nf := n10) (ne := n3) (np := n5) (nx := n11) (by omega) (by omega) (allN s) M20 M20.next [] (startR s) (allN s) (.slice none 0 true 0) (Nat.le_refl _) hsz (Nat.le_refl _) ⟨hg1620.to_keep _, hkn16.at hg1620.le (hg1620.old _ w1), hkc16.at hg1620.le (hg1620.old _ w2), ⟨_, g10⟩, g3, g5, g11, .inl ⟨rfl, rfl⟩, (fun _ i h => by cases h), by show 0 + allN s <= 100; omega, hok.start, ⟨Int.le_refl 0, show (0 : Int) <= 5000000 by decide⟩⟩
    refine d_call (by exact gd) rfl rfl (show AppOk Tryz.prog (bestV n10 n3 n5 n11) _ M20 _ from hb) ?_
    rintro w M21 ⟨hk21, hkn21, hkc21, u, hf21, hres⟩
    have hle21 := hk21.le
    have y3 := g3.keep hk21 (by omega)
    have y6 := g6.keep hk21 (by omega)
    have yd := gd'.keep hk21 (by omega)
    have r21 := hf21.2
    (repeat' first|with_reducible intro _|refine sv ?_|refine sc ?_ ?_<;>(intro h;try exact sz h)|refine sg ?_ ?_<;>(intro h;first|exact sz h|refine sy h ?_)|exact sq|fail)
    rename_i M22 hu22 e26 a22
    refine k_fun_end (.inr rfl) (by simp) (fun d' hd' => by obtain rfl := List.mem_singleton.1 hd'; exact xm) fun M23 hm => ?_
    have hk22 : Keep (fun i => i = n3) M21 M22 := (Keep.refl _ _).upd hu22 (.inl rfl)
    have hk23 : Keep (fun i => i = d) M22 M23 := (Keep.refl _ M22).unmark hm (fun d' hd' => by obtain rfl := List.mem_singleton.1 hd'; exact .inl rfl)
    have f23 := a22.keep hk23 (by omega)
    have hgE : Grow M M23 := Keep.to_grow' (Keep.to_grow' (Keep.to_grow' (hg016.trans hg1620) hk21 (fun i hi => by omega)) hk22 (fun i hi => by omega)) hk23 (fun i hi => by omega)
    refine ⟨_, .tmp rfl (.cell1 rfl (Rd1.of_at f23 rfl).1 (.tmp rfl .nil)), hgE, .inr (.inr ⟨hok, by omega, u, rfl, fun r hr => ?_⟩)⟩
    rcases hres with ⟨_, r', hr', hv⟩ | ⟨_, hno⟩
    ·rw [hr] at hr'
     cases hr'
     exact Or.imp id (fun ⟨i, y1, y2, y3⟩ => ⟨i, y1, (y2.keep hk22 (by omega)).keep hk23 (by omega), by omega⟩) hv
    ·rw [hr] at hno; cases hno
end Go.Proofs.YtifcpjfpjkoicaaGreat.C
end
section
open PvL
set_option linter.unusedVariables false
namespace Go.Proofs.YtifcpjfpjkoicaaGreat.C
theorem run_le {s : Cr} (hs : CrOk s) : ∀ (l : List Nat) (x y : Rch), (∀ c ∈ l, c < 2 * s.lines.length) -> runE s x l = some y -> x.2 <= y.2
 | [], x, y, _, h => by cases h; exact Int.le_refl _
 | c :: l, x, y, hl, h => by
  have e : runE s x (c :: l) = match goF s x c with | none => none | some b => runE s (rchF s c b.2) l := rfl
  rw [e] at h
  cases hg : goF s x c with
  | none => rw [hg] at h; cases h
  | some b =>
   rw [hg] at h
   have h1 := goF_bd hs (c := c) (by have := hl c (List.mem_cons_self ..); omega) hg
   have h2 := run_le hs l _ y (fun d hd => hl d (List.mem_cons_of_mem _ hd)) h
   have h2 : b.2 <= y.2 := h2
   omega
theorem cov_mem {s : Cr} : ∀ (l : List Nat) (set : Nat), Cov s set l -> ∀ c ∈ l, c < 2 * s.lines.length
 | [], _, _, c, hc => by cases hc
 | a :: l, set, h, c, hc => by
  rcases List.mem_cons.1 hc with rfl | hc
  ·exact h.1
  ·exact cov_mem l _ h.2.2 c hc
theorem nextO_sound {s : Cr} {e : Int} : ∀ (f : Nat) (l : List Nat) (x : Rch) (left : Nat) (r : List Nat), nextO s e f l x left = some r -> ∃ r' y, r = l ++ r' /\ Cov s left r' /\ runE s x r' = some y /\ y.2 = e := by
 intro f
 have h0 : ∀ (l : List Nat) (x : Rch) (r : List Nat), (if x.2 = e then some l else none) = some r -> ∃ r' y, r = l ++ r' /\ Cov s 0 r' /\ runE s x r' = some y /\ y.2 = e := fun l x r h => by
  split at h
  ·cases h
   exact ⟨[], x, (List.append_nil _).symm, rfl, rfl, by assumption⟩
  ·cases h
 induction f with
 | zero =>
  intro l x left r h
  unfold nextO at h
  split at h
  ·rename_i hl; subst hl; exact h0 l x r h
  ·cases h
 | succ f ih =>
  intro l x left r h
  by_cases hl : left = 0
  ·subst hl
   have e1 : nextO s e (f + 1) l x 0 = if x.2 = e then some l else none := rfl
   rw [e1] at h
   exact h0 l x r h
  ·rw [stepG_next s e f l x left hl] at h
   obtain ⟨c, hc, h⟩ := findSome_mem h
   unfold stepG at h
   cases hg : goF s x c with
   | none => rw [hg] at h; cases h
   | some b =>
    rw [hg] at h
    dsimp only at h
    split at h
    ·cases h
    ·obtain ⟨r', y, h1, h2, h3, h4⟩ := ih _ _ _ _ h
     have hm := mem_shoots.1 hc
     refine ⟨c :: r', y, by rw [h1, List.append_assoc]; rfl, ⟨hm.1, hm.2, h2⟩, ?_, h4⟩
     show (match goF s x c with | none => none | some b => runE s (rchF s c b.2) r') = _
     rw [hg]; exact h3
theorem nextO_complete {s : Cr} (hs : CrOk s) {e : Int} : ∀ (f : Nat) (l : List Nat) (x : Rch) (left : Nat) (r : List Nat) (y : Rch), left <= f -> Cov s left r -> runE s x r = some y -> y.2 = e -> nextO s e f l x left ≠ none := by
 intro f
 have h0 : ∀ (l : List Nat) (x : Rch) (r : List Nat) (y : Rch), Cov s 0 r -> runE s x r = some y -> y.2 = e -> (if x.2 = e then some l else none) ≠ none := fun l x r y h1 h2 h3 => by
  cases r with
  | nil => cases h2; rw [if_pos h3]; exact fun h => by cases h
  | cons c r => have := h1.2.1; rw [Nat.zero_testBit] at this; cases this
 induction f with
 | zero =>
  intro l x left r y hf h1 h2 h3
  obtain rfl : left = 0 := by omega
  exact h0 l x r y h1 h2 h3
 | succ f ih =>
  intro l x left r y hf h1 h2 h3
  by_cases hl : left = 0
  ·subst hl
   exact h0 l x r y h1 h2 h3
  ·rw [stepG_next s e f l x left hl]
   cases r with
   | nil => exact absurd h1 hl
   | cons c r =>
    intro h
    have h4 := List.findSome?_eq_none_iff.1 h c (mem_shoots.2 ⟨h1.1, h1.2.1⟩)
    have e1 : runE s x (c :: r) = match goF s x c with | none => none | some b => runE s (rchF s c b.2) r := rfl
    rw [e1] at h2
    unfold stepG at h4
    cases hg : goF s x c with
    | none => rw [hg] at h2; cases h2
    | some b =>
     rw [hg] at h2 h4
     dsimp only at h2 h4
     have hle := run_le hs r _ y (cov_mem r _ h1.2.2) h2
     have hle : b.2 <= y.2 := hle
     rw [if_neg (by omega)] at h4
     have := rest_lt h1.2.1
     exact ih _ _ _ r y (by omega) h1.2.2 h2 h3 h4
theorem end_fold {s : Cr} : ∀ (l : List Nat) (e : Int), -1 <= e -> (l.foldl (endS s) e = e ∨ ∃ c ∈ l, l.foldl (endS s) e = TT s (allN s) c /\ 0 <= TT s (allN s) c) /\ (0 <= e -> 0 <= l.foldl (endS s) e /\ l.foldl (endS s) e <= e) /\ ∀ c ∈ l, 0 <= TT s (allN s) c -> 0 <= l.foldl (endS s) e /\ l.foldl (endS s) e <= TT s (allN s) c
 | [], e, _ => ⟨.inl rfl, fun h => ⟨h, Int.le_refl _⟩, fun c hc => by cases hc⟩
 | a :: l, e, he => by
  rw [List.foldl_cons]
  have hst : (endS s e a = e /\ (0 <= TT s (allN s) a -> 0 <= e /\ e <= TT s (allN s) a)) ∨ (endS s e a = TT s (allN s) a /\ 0 <= TT s (allN s) a /\ (0 <= e -> TT s (allN s) a <= e)) := by
   unfold endS
   split
   ·rename_i h; exact .inr ⟨rfl, h.1, fun _ => by omega⟩
   ·rename_i h; exact .inl ⟨rfl, fun h' => by omega⟩
  obtain ⟨h1, h2, h3⟩ := end_fold l (endS s e a) (by rcases hst with h | h <;> omega)
  refine ⟨?_, fun h => ?_, fun c hc h => ?_⟩
  ·rcases h1 with h1 | ⟨c, hc, h1⟩
   ·rcases hst with h | h
    ·exact .inl (by rw [h1, h.1])
    ·exact .inr ⟨a, List.mem_cons_self .., by rw [h1, h.1], h.2.1⟩
   ·exact .inr ⟨c, List.mem_cons_of_mem _ hc, h1⟩
  ·have := h2 (by rcases hst with h | h <;> omega)
   rcases hst with h | h <;> omega
  ·rcases List.mem_cons.1 hc with rfl | hc
   ·have := h2 (by rcases hst with h' | h' <;> omega)
    rcases hst with h' | h' <;> omega
   ·exact h3 c hc h
theorem all_lt (s : Cr) : allN s < 2 ^ s.lines.length := by unfold allN; have := Nat.two_pow_pos s.lines.length; omega
theorem best_found {s : Cr} (hs : CrOk s) (h : 0 <= endB s) : ∃ r y, nextO s (endB s) (allN s) [] (startR s) (allN s) = some r /\ Cov s (allN s) r /\ runE s (startR s) r = some y /\ y.2 = endB s := by
 rcases (end_fold (s := s) (shootsL s (allN s)) (-1) (by omega)).1 with h1 | ⟨c, hc, h1, h2⟩
 ·unfold endB at h; omega
 ·obtain ⟨l, h3, h4⟩ := TT_run hs (allN s) (allN s) c (Nat.le_refl _) (all_lt s) (mem_shoots.1 hc).1 (by omega)
  have h5 : (rchF s c (TT s (allN s) c)).2 = endB s := by unfold endB; rw [h1]; rfl
  cases hn : nextO s (endB s) (allN s) [] (startR s) (allN s) with
  | none => exact absurd hn (nextO_complete hs _ _ _ _ _ _ (Nat.le_refl _) h3 h4 h5)
  | some r =>
   obtain ⟨r', y, g1, g2, g3, g4⟩ := nextO_sound _ _ _ _ _ hn
   obtain rfl : r = r' := g1
   exact ⟨r, y, rfl, g2, g3, g4⟩
theorem cov_props {s : Cr} (hn : s.lines.length <= 5) : ∀ (l : List Nat) (set : Nat), set < 1048576 -> Cov s set l -> (l.map (· / 2)).Nodup /\ ∀ k, set.testBit k = true ↔ k ∈ l.map (· / 2)
 | [], set, _, h => by
  obtain rfl : set = 0 := h
  exact ⟨List.nodup_nil, fun k => ⟨fun h => (by rw [Nat.zero_testBit] at h; cases h), fun h => (by cases h)⟩⟩
 | c :: l, set, hs, h => by
  obtain ⟨h1, h2, h3⟩ := h
  have hle := rest_le (a := set) (k := c / 2)
  obtain ⟨g1, g2⟩ := cov_props hn l _ (by omega) h3
  have hb := fun j => rest_bit (set := set) (k := c / 2) (j := j) hs (by omega)
  refine ⟨List.nodup_cons.2 ⟨fun hm => ?_, g1⟩, fun k => ?_⟩
  ·have := (g2 _).2 hm
   rw [hb] at this
   simp at this
  ·rw [List.map_cons, List.mem_cons, <- g2 k, hb, Bool.and_eq_true]
   constructor
   ·intro h
    by_cases hk : c / 2 = k
    ·exact .inl hk.symm
    ·exact .inr ⟨h, by rw [decide_eq_false hk]; rfl⟩
   ·rintro (rfl | h)
    ·exact h2
    ·exact h.1
def unN (c : Nat) : Int × Int := ((c / 2 : Nat), (c % 2 : Nat))
theorem sh_un (c : Nat) : shN (unN c) = c := by unfold shN unN; dsimp only; omega
theorem ord_cov {s : Cr} (hs : CrOk s) {l : List Nat} (h : Cov s (allN s) l) : OrdOk s (l.map unN) /\ l.length = s.lines.length /\ (l.map unN).map shN = l := by
 have hn5 := hs.n5
 have hp2 : 2 ^ s.lines.length <= 32 := Nat.pow_le_pow_right (n := 2) (by omega) hn5
 obtain ⟨h1, h2⟩ := cov_props hn5 l _ (by unfold allN; omega) h
 refine ⟨⟨fun x hx => ?_, ?_⟩, ?_, ?_⟩
 ·obtain ⟨c, hc, rfl⟩ := List.mem_map.1 hx
  have := cov_mem l _ h c hc
  unfold rightP unN
  dsimp only
  omega
 ·rw [List.map_map]
  have e : ((fun x : Int × Int => x.1) ∘ unN) = (fun k : Nat => (k : Int)) ∘ (fun c : Nat => c / 2) := rfl
  rw [e, <- List.map_map]
  exact List.pairwise_map.2 (List.Pairwise.imp (fun {a b} hab => by omega) h1)
 ·have g1 := nodup_lt s.lines.length _ h1 (fun k hk => bit_lt (all_lt s) ((h2 k).2 hk))
  have g2 : s.lines.length <= l.length := by
   have hsub : List.range s.lines.length ⊆ l.map (· / 2) := fun k hk => (h2 k).1 (by unfold allN; exact all_bit (List.mem_range.1 hk))
   have := (List.nodup_range (n := s.lines.length)).length_le_of_subset hsub
   rw [List.length_range, List.length_map] at this
   exact this
  rw [List.length_map] at g1
  omega
 ·rw [List.map_map]
  have : (shN ∘ unN) = id := funext sh_un
  rw [this, List.map_id]
theorem last_get {bs : List Bd} {n : Nat} (h : bs.length = n) (h0 : 0 < n) {d : Int} : (bs.getLast?.map (·.2)).getD d = (bs[n - 1]'(by omega)).2 := by
 subst h
 rw [List.getLast?_eq_getElem?, List.getElem?_eq_getElem (by omega)]; rfl
theorem first_own {s : Cr} (hs : CrOk s) (h : 0 <= endB s) : ∃ r, nextO s (endB s) (allN s) [] (startR s) (allN s) = some r /\ r.length = s.lines.length /\ (TimesF s (r.map unN)).2 = 0 /\ (TimesF s (r.map unN)).1.length = s.lines.length /\ ∀ (hi : s.lines.length - 1 < (TimesF s (r.map unN)).1.length), ((TimesF s (r.map unN)).1[s.lines.length - 1]).2 = endB s := by
 obtain ⟨r, y, h1, h2, h3, h4⟩ := best_found hs h
 obtain ⟨g1, g2, g3⟩ := ord_cov hs h2
 have hn1 := hs.n1
 cases ht : timesG s (startR s) r with
 | none => rw [(run_times s _ _).1.1 ht] at h3; cases h3
 | some bs =>
  obtain ⟨hlen, z, hr, hz⟩ := (run_times s _ _).2 bs ht
  rw [h3] at hr
  cases hr
  have he : TimesF s (r.map unN) = (bs, 0) := by unfold TimesF; rw [if_pos hs, if_pos g1, g3, ht]
  rw [last_get (show bs.length = s.lines.length by omega) (by omega)] at hz
  refine ⟨r, h1, g2, by rw [he], by rw [he]; show bs.length = _; omega, fun hi => ?_⟩
  simp only [he]
  omega
theorem bef_zero {a b : Pt} : befF a b = 0 ↔ a = b := by
 obtain ⟨a1, a2⟩ := a
 obtain ⟨b1, b2⟩ := b
 unfold befF
 dsimp only
 rw [Prod.mk.injEq]
 split <;> omega
theorem bef_anti {a b : Pt} : befF a b < 0 ↔ 0 < befF b a := by
 unfold befF
 split <;> split <;> omega
theorem cmp_cons (a b : Pt) (as1 bs : List Pt) : cmpL (a :: as1) (b :: bs) = if befF a b ≠ 0 then befF a b else cmpL as1 bs := rfl
theorem cmp_zero : ∀ {a b : List Pt}, cmpL a b = 0 -> a = b
 | [], [], _ => rfl
 | [], _ :: _, h => (by cases h)
 | _ :: _, [], h => (by cases h)
 | a :: as1, b :: bs, h => by
  rw [cmp_cons] at h
  split at h
  ·exact absurd h (by assumption)
  ·rename_i hz
   have hz : befF a b = 0 := Classical.not_not.1 hz
   rw [bef_zero.1 hz, cmp_zero h]
theorem cmp_anti : ∀ {a b : List Pt}, cmpL a b < 0 ↔ 0 < cmpL b a
 | [], [] => by simp [cmpL]
 | [], _ :: _ => by simp [cmpL]
 | _ :: _, [] => by simp [cmpL]
 | a :: as1, b :: bs => by
  rw [cmp_cons, cmp_cons]
  have h1 := @bef_anti a b
  have h2 := @bef_anti b a
  have ih := @cmp_anti as1 bs
  split <;> split <;> omega
theorem less_iff {x y : Psg} : lessP x y = true ↔ x.2 < y.2 ∨ (x.2 = y.2 /\ (x.1.length < y.1.length ∨ (x.1.length = y.1.length /\ cmpL x.1 y.1 < 0))) := by
 unfold lessP
 split
 ·rw [decide_eq_true_iff]; omega
 ·split
  ·rw [decide_eq_true_iff]; omega
  ·rw [decide_eq_true_iff]; omega
theorem less_tot {x y : Psg} (h1 : lessP x y = false) (h2 : lessP y x = false) : x = y := by
 rw [<- Bool.not_eq_true, less_iff] at *
 have h3 := @cmp_anti x.1 y.1
 have h3' := @cmp_anti y.1 x.1
 have h4 := @cmp_zero x.1 y.1
 have h5 : cmpL x.1 y.1 = 0 := by omega
 exact Prod.ext (h4 h5) (by omega)
def BestOf (S : Psg -> Prop) (o : Option Psg) : Prop := match o with | none => ∀ x, ¬ S x | some y => S y /\ ∀ x, S x -> lessP x y = false
theorem BestOf.uniq {S : Psg -> Prop} {o o' : Option Psg} (h : BestOf S o) (h' : BestOf S o') : o = o' := by
 cases o with
 | none =>
  cases o' with
  | none => rfl
  | some y => exact absurd h'.1 (h y)
 | some x =>
  cases o' with
  | none => exact absurd h.1 (h' x)
  | some y => rw [less_tot (h'.2 x h.1) (h.2 y h'.1)]
theorem BestOf.congr {S T : Psg -> Prop} {o : Option Psg} (h : BestOf S o) (e : ∀ x, S x ↔ T x) : BestOf T o := by
 have : S = T := funext fun x => propext (e x)
 rw [<- this]; exact h
def addO (best next : Option Psg) : Option Psg := match next with | none => best | some x => addB best x
def befR : List Pt -> List Pt -> Bool
 | a :: as1, b :: bs => if a ≠ b then decide (a.1 < b.1 ∨ (a.1 = b.1 /\ a.2 < b.2)) else befR as1 bs
 | _, _ => false
def lessR (x y : Psg) : Bool := if x.2 ≠ y.2 then decide (x.2 < y.2) else if x.1.length ≠ y.1.length then decide (x.1.length < y.1.length) else befR x.1 y.1
noncomputable def nxR (s : Cr) (p q : Pt) (o : Int) (so : Psg) : Psg := (so.1 ++ [q], so.2 + stepsF s.speed p q + s.turn * trnF o (octW p q))
noncomputable def stR (s : Cr) (P : List Pt) (to : Nat) (last : Int) (rec : Nat -> Int -> List Nat -> Psg -> Option Psg) (at_ : Nat) (o : Int) (used : List Nat) (so : Psg) (best : Option Psg) (k : Nat) : Option Psg :=
 if ((P.getD at_ (0, 0) ≠ P.getD k (0, 0) /\ clearF s (P.getD at_ (0, 0)) (P.getD k (0, 0)) = true) /\ (k = to ∨ k < s.buoys.length)) /\ ¬ (k < s.buoys.length /\ k ∈ used) then
  addO best (if k = to then some ((nxR s (P.getD at_ (0, 0)) (P.getD k (0, 0)) o so).1, (nxR s (P.getD at_ (0, 0)) (P.getD k (0, 0)) o so).2 + s.turn * trnF (octW (P.getD at_ (0, 0)) (P.getD k (0, 0))) last)
   else rec k (octW (P.getD at_ (0, 0)) (P.getD k (0, 0))) (k :: used) (nxR s (P.getD at_ (0, 0)) (P.getD k (0, 0)) o so))
 else best
noncomputable def goR (s : Cr) (P : List Pt) (to : Nat) (last : Int) : Nat -> Nat -> Int -> List Nat -> Psg -> Option Psg
 | 0, _, _, _, _ => none
 | d + 1, at_, o, used, so => (List.range P.length).foldl (stR s P to last (goR s P to last d) at_ o used so) none
def OnP (s : Cr) (d : Nat) (pto : Pt) (last : Int) (p : Pt) (o : Int) (used : List Nat) (so : Psg) (x : Psg) : Prop :=
 ∃ (ks : List Nat) (n : Int), ks.length < d /\ ks.Nodup /\ (∀ k ∈ ks, k < s.buoys.length /\ k ∉ used) /\ x.1 = so.1 ++ byB s ks ++ [pto] /\ costL s last p o (byB s ks ++ [pto]) = some n /\ x.2 = so.2 + n
noncomputable def passR (s : Cr) (P : List Pt) (from_ : Nat) (a : Int) (to : Nat) (b : Int) : Option Psg :=
 if P.getD from_ (0, 0) = P.getD to (0, 0) then addO (goR s P to b (s.buoys.length + 1) from_ a [] ([P.getD from_ (0, 0)], 0)) (some ([P.getD from_ (0, 0)], s.turn * trnF a b))
 else goR s P to b (s.buoys.length + 1) from_ a [] ([P.getD from_ (0, 0)], 0)
abbrev shP (d p : Pt) : Pt := (p.1 + d.1, p.2 + d.2)
def shR (d : Pt) (r : Rg) : Rg := map4 plusB r (ofP d)
abbrev shT (d : Pt) (t : Int × Int × Int) : Int × Int × Int := (t.1 + d.1, t.2.1 + d.2, t.2.2 + d.2)
theorem row_sh (d : Pt) (r : Rg) (x : Int) : rowOf (shR d r) (x + d.1) = shT d (rowOf r x) := by
 unfold rowOf shR map4 plusB ofP shT iMax iMin
 dsimp only
 refine Prod.ext rfl (Prod.ext ?_ ?_) <;> dsimp only <;> omega
theorem rows_sh (d : Pt) (r : Rg) : rowsL (shR d r) = (rowsL r).map (shT d) := by
 unfold rowsL rowsK rowsFrom
 have hn : rowsN (shR d r) = rowsN r := by
  unfold rowsN shR map4 plusB ofP
  dsimp only
  congr 1; omega
 rw [hn]
 have : ∀ l : List Nat, ((l.map fun j => rowOf (shR d r) ((shR d r).1.1 + ((0 + j : Nat) : Int))).filter okRow) = ((l.map fun j => rowOf r (r.1.1 + ((0 + j : Nat) : Int))).filter okRow).map (shT d) := by
  intro l
  induction l with
  | nil => rfl
  | cons j l ih =>
   have e : rowOf (shR d r) ((shR d r).1.1 + ((0 + j : Nat) : Int)) = shT d (rowOf r (r.1.1 + ((0 + j : Nat) : Int))) := by
    rw [<- row_sh]
    congr 1
    unfold shR map4 plusB ofP
    dsimp only; omega
   have ho : okRow (shT d (rowOf r (r.1.1 + ((0 + j : Nat) : Int)))) = okRow (rowOf r (r.1.1 + ((0 + j : Nat) : Int))) := by
    unfold okRow shT
    dsimp only
    exact decide_eq_decide.2 (by omega)
   rw [List.map_cons, List.map_cons, e, List.filter_cons, List.filter_cons, ho]
   split
   ·rw [List.map_cons, ih]
   ·exact ih
 exact this _
theorem ends1_sh (d : Pt) (t : Int × Int × Int) : ends1 (shT d t) = (ends1 t).map (shP d) := by
 unfold ends1 shT shP
 dsimp only
 by_cases h : t.2.1 = t.2.2
 ·rw [if_pos h, if_pos (by omega)]; rfl
 ·rw [if_neg h, if_neg (by omega)]; rfl
theorem ends_sh (d : Pt) (r : Rg) : endsL (shR d r) = (endsL r).map (shP d) := by
 unfold endsL endsOf
 rw [rows_sh]
 generalize rowsL r = l
 induction l with
 | nil => rfl
 | cons t l ih => rw [List.map_cons, List.flatMap_cons, List.flatMap_cons, List.map_append, ih, ends1_sh]
theorem of_sh (d p : Pt) : ofP (shP d p) = shR d (ofP p) := by
 unfold ofP shR map4 plusB shP
 dsimp only
 refine Prod.ext rfl (Prod.ext rfl (Prod.ext (Prod.ext ?_ ?_) (Prod.ext ?_ ?_))) <;> dsimp only [ofP] <;> omega
theorem span_sh (d : Pt) (a b : Rg) : map4 spanB (shR d a) (shR d b) = shR d (map4 spanB a b) := by
 unfold shR map4 plusB spanB ofP iMin iMax
 dsimp only
 refine Prod.ext (Prod.ext ?_ ?_) (Prod.ext (Prod.ext ?_ ?_) (Prod.ext (Prod.ext ?_ ?_) (Prod.ext ?_ ?_))) <;> dsimp only <;> omega
theorem hull_sh (d : Pt) : ∀ (l : List Pt) (o : Option Rg), hullO (o.map (shR d)) (l.map (shP d)) = (hullO o l).map (shR d)
 | [], o => rfl
 | p :: l, o => by
  have e : hstep (o.map (shR d)) (shP d p) = (hstep o p).map (shR d) := by
   unfold hstep
   cases o with
   | none => show some (map4 spanB (ofP (shP d p)) (ofP (shP d p))) = some (shR d (map4 spanB (ofP p) (ofP p))); rw [of_sh, span_sh]
   | some r => show some (map4 spanB (shR d r) (ofP (shP d p))) = some (shR d (map4 spanB r (ofP p))); rw [of_sh, span_sh]
  unfold hullO
  rw [List.map_cons, List.foldl_cons, List.foldl_cons, e]
  exact hull_sh d l (hstep o p)
def NbR (B : Int) (r : Rg) : Prop := fitsP B r.1 /\ fitsP B r.2.1 /\ fitsP (2 * B) r.2.2.1 /\ fitsP (2 * B) r.2.2.2
def NbP (B : Int) (p : Pt) : Prop := (-B <= p.1 /\ p.1 <= B) /\ (-B <= p.2 /\ p.2 <= B)
theorem hull_nb {B : Int} : ∀ (l : List Pt) (o : Option Rg), (∀ r, o = some r -> NbR B r) -> (∀ p ∈ l, NbP B p) -> ∀ r, hullO o l = some r -> NbR B r
 | [], o, ho, _, r, h => ho r h
 | p :: l, o, ho, hl, r, h => by
  refine hull_nb l (hstep o p) (fun r' hr' => ?_) (fun q hq => hl q (List.mem_cons_of_mem _ hq)) r h
  have hp := hl p (List.mem_cons_self ..)
  unfold hstep at hr'
  cases hr'
  unfold NbP at hp
  cases o with
  | none =>
   unfold NbR fitsP map4 spanB ofP iMin iMax
   dsimp only [Option.getD]
   omega
  | some r0 =>
   have := ho r0 rfl
   unfold NbR fitsP at *
   unfold map4 spanB ofP iMin iMax
   dsimp only [Option.getD]
   omega
theorem ends_in {r : Rg} {p : Pt} (h : p ∈ endsL r) : (r.1.1 <= p.1 /\ p.1 <= r.1.2) /\ (r.2.1.1 <= p.2 /\ p.2 <= r.2.1.2) := by
 unfold endsL endsOf at h
 obtain ⟨t, ht, hp⟩ := List.mem_flatMap.1 h
 unfold rowsL rowsK rowsFrom at ht
 obtain ⟨ht1, ht2⟩ := List.mem_filter.1 ht
 obtain ⟨j, hj, rfl⟩ := List.mem_map.1 ht1
 have hj := List.mem_range.1 hj
 have ht2 := of_decide_eq_true ht2
 unfold rowsN at hj
 unfold ends1 at hp
 unfold rowOf iMax iMin at ht2 hp
 dsimp only at ht2 hp
 split at hp
 ·obtain rfl := List.mem_singleton.1 hp
  dsimp only; omega
 ·rcases List.mem_cons.1 hp with rfl | hp
  ·dsimp only; omega
  ·obtain rfl := List.mem_singleton.1 hp
   dsimp only; omega
theorem tight_nb {B : Int} {r t : Rg} (h1 : -B <= r.1.1 /\ r.1.2 <= B) (h2 : -B <= r.2.1.1 /\ r.2.1.2 <= B) (h : tightO r = some t) : NbR B t :=
 hull_nb (endsL r) none (fun r h => by cases h) (fun p hp => by have := ends_in hp; unfold NbP; omega) t h
theorem sh_sh (d p : Pt) (t : Rg) : shR (shP d p) t = shR d (shR p t) := by
 unfold shR map4 plusB ofP shP
 dsimp only
 refine Prod.ext (Prod.ext ?_ ?_) (Prod.ext (Prod.ext ?_ ?_) (Prod.ext (Prod.ext ?_ ?_) (Prod.ext ?_ ?_))) <;> dsimp only <;> omega
theorem nb_sh {B C : Int} {d : Pt} {t : Rg} (h : NbR B t) (hd : NbP C d) : NbR (B + C) (shR d t) := by
 unfold NbR fitsP NbP at *
 unfold shR map4 plusB ofP
 dsimp only
 omega
theorem nb_ok {B : Int} {t : Rg} (h : NbR B t) (hB : B <= 32768) : RgOk t := by
 unfold NbR fitsP at h
 dsimp only [RgOk, fitsP]
 omega
def NrR (r : Rg) : Prop := (-5000 <= r.1.1 /\ r.1.2 <= 5000) /\ (-5000 <= r.2.1.1 /\ r.2.1.2 <= 5000)
theorem move_eq {r : Rg} {p : Pt} (hr : NrR r) (hp : NbP 23000 p) : moveF r p = if RgOk r then (match tightO r with | some t => ((shR p t, 0) : Rg × Int) | none => (zRg, 4)) else (zRg, 11) := by
 unfold moveF
 split
 ·rw [if_pos (by unfold NbP at hp; unfold SmP; omega)]
  cases h : tightO r with
  | none => rfl
  | some t =>
   have h1 := nb_sh (tight_nb hr.1 hr.2 h) hp
   unfold NbR fitsP at h1
   show insideF (shR p t) = (shR p t, 0)
   unfold insideF
   rw [if_pos (by dsimp only [fitsP]; omega)]
 ·rfl
theorem join_sh {B : Int} {d : Pt} {a b : Rg} (hB : B <= 29000) (ha : NbR B a) (hb : NbR B b) (hd : NbP 3000 d) : (joinF (shR d a) (shR d b)).2 = (joinF a b).2 /\ ((joinF a b).2 = 0 -> (joinF (shR d a) (shR d b)).1 = shR d (joinF a b).1 /\ NbR B (joinF a b).1) := by
 have o1 : RgOk a /\ RgOk b := ⟨nb_ok ha (by omega), nb_ok hb (by omega)⟩
 have o2 : RgOk (shR d a) /\ RgOk (shR d b) := ⟨nb_ok (B := B + 3000) (nb_sh ha hd) (by omega), nb_ok (B := B + 3000) (nb_sh hb hd) (by omega)⟩
 unfold joinF
 rw [if_pos o1, if_pos o2, ends_sh, ends_sh, <- List.map_append]
 have e := hull_sh d (endsL a ++ endsL b) none
 rw [show (none : Option Rg).map (shR d) = none from rfl] at e
 rw [e]
 cases h : hullO none (endsL a ++ endsL b) with
 | none => exact ⟨rfl, fun h => by cases h⟩
 | some t =>
  refine ⟨rfl, fun _ => ⟨rfl, ?_⟩⟩
  refine hull_nb _ none (fun r h => by cases h) (fun p hp => ?_) t h
  unfold NbR fitsP at ha hb
  rcases List.mem_append.1 hp with hp | hp
  ·have := ends_in hp; unfold NbP; omega
  ·have := ends_in hp; unfold NbP; omega
theorem swept_sh {d : Pt} {r : Rg} {p q : Pt} (hr : NrR r) (hp : NbP 20000 p) (hq : NbP 20000 q) (hd : NbP 3000 d) : (sweptF r (shP d p) (shP d q)).2 = (sweptF r p q).2 /\ ((sweptF r p q).2 = 0 -> (sweptF r (shP d p) (shP d q)).1 = shR d (sweptF r p q).1 /\ NbR 25000 (sweptF r p q).1) := by
 have near : ∀ {x : Pt}, NbP 20000 x -> NbP 23000 x /\ NbP 23000 (shP d x) := fun {x} hx => by
  unfold NbP shP at *
  dsimp only at *
  omega
 have e1 := move_eq hr (near hp).1
 have e2 := move_eq hr (near hp).2
 have e3 := move_eq hr (near hq).1
 have e4 := move_eq hr (near hq).2
 unfold sweptF
 rw [e1, e2, e3, e4]
 by_cases ho : RgOk r
 ·rw [if_pos ho, if_pos ho, if_pos ho, if_pos ho]
  cases h : tightO r with
  | none => exact ⟨rfl, fun h => absurd (show (4 : Int) = 0 from h) (by decide)⟩
  | some t =>
   dsimp only
   rw [if_pos rfl, if_pos rfl, if_pos rfl, if_pos rfl, sh_sh, sh_sh]
   have ht := tight_nb hr.1 hr.2 h
   exact join_sh (B := 25000) (by omega) (nb_sh ht hp) (nb_sh ht hq) hd
 ·rw [if_neg ho, if_neg ho, if_neg ho, if_neg ho]
  exact ⟨rfl, fun h => absurd (show (11 : Int) = 0 from h) (by decide)⟩
theorem turn_sh (d a b c : Pt) : turnP (shP d a) (shP d b) (shP d c) = turnP a b c := by
 unfold turnP shP
 dsimp only
 rw [show b.1 + d.1 - (a.1 + d.1) = b.1 - a.1 by omega, show c.2 + d.2 - (a.2 + d.2) = c.2 - a.2 by omega, show b.2 + d.2 - (a.2 + d.2) = b.2 - a.2 by omega, show c.1 + d.1 - (a.1 + d.1) = c.1 - a.1 by omega]
theorem field_sh {d : Pt} {l : List Pt} (hl : ∀ p ∈ l, NbP 20000 p) (hd : NbP 3000 d) : FieldOk (l.map (shP d)) ↔ FieldOk l := by
 unfold FieldOk
 have h1 : ∀ p ∈ l, PlP p := fun p hp => by have := hl p hp; unfold NbP at this; dsimp only [PlP, Pl]; omega
 have h2 : ∀ p ∈ l.map (shP d), PlP p := fun p hp => by
  obtain ⟨q, hq, rfl⟩ := List.mem_map.1 hp
  have := hl q hq
  unfold NbP at this hd
  dsimp only [PlP, Pl, shP]; omega
 constructor
 ·rintro ⟨g1, g2, _, g4⟩
  rw [List.length_map] at g1 g2
  refine ⟨g1, g2, h1, fun i j hi hj h3 h4 => ?_⟩
  have := g4 i j (by rw [List.length_map]; exact hi) (by rw [List.length_map]; exact hj) h3 (by rw [List.length_map]; exact h4)
  simp only [List.getElem_map, List.length_map, turn_sh] at this
  exact this
 ·rintro ⟨g1, g2, _, g4⟩
  refine ⟨by rw [List.length_map]; exact g1, by rw [List.length_map]; exact g2, h2, fun i j hi hj h3 h4 => ?_⟩
  have := g4 i j (by rw [List.length_map] at hi; exact hi) (by rw [List.length_map] at hj; exact hj) h3 (by rw [List.length_map] at h4; exact h4)
  simp only [List.getElem_map, List.length_map, turn_sh]
  exact this
abbrev shQ (d : Pt) (q : Pt × Pt) : Pt × Pt := (shP d q.1, shP d q.2)
theorem at_sh {d : Pt} {l : List Pt} {k : Nat} (h : k < l.length) : atP (l.map (shP d)) k = shP d (atP l k) := by
 rw [atP_eq h, atP_eq (by rw [List.length_map]; exact h), List.getElem_map]
theorem sides_sh (d : Pt) (l : List Pt) : sidesL (l.map (shP d)) = (sidesL l).map (shQ d) := by
 unfold sidesL
 rw [List.map_map, List.length_map]
 refine List.map_congr_left fun k hk => ?_
 have hk := List.mem_range.1 hk
 show (atP _ _, atP _ _) = (shP d _, shP d _)
 rw [at_sh hk, at_sh (Nat.mod_lt _ (by omega))]
theorem clip_sh (d : Pt) (x : Int) (t : Int × Int) (q : Pt × Pt) : clip1 (x + d.1) (t.1 + d.2, t.2 + d.2) (shQ d q) = ((clip1 x t q).1 + d.2, (clip1 x t q).2 + d.2) := by
 have hK : sideK (shQ d q) = sideK q := by unfold sideK shQ shP; dsimp only; omega
 have hN : sideN (x + d.1) (shQ d q) = sideN x q + sideK q * d.2 := by
  unfold sideN sideK shQ shP
  dsimp only
  rw [show q.2.1 + d.1 - (q.1.1 + d.1) = q.2.1 - q.1.1 by omega, show q.2.2 + d.2 - (q.1.2 + d.2) = q.2.2 - q.1.2 by omega, show x + d.1 - (q.1.1 + d.1) = x - q.1.1 by omega, Int.mul_add]
  omega
 unfold clip1
 rw [hK, hN]
 generalize sideN x q = n
 generalize sideK q = k
 by_cases h1 : 0 < k
 ·rw [if_pos h1, if_pos h1]
  have e : (-(n + k * d.2)) / k = (-n) / k + (-d.2) := by
   rw [show -(n + k * d.2) = -n + k * (-d.2) by rw [Int.mul_neg]; omega, Int.add_mul_ediv_left _ _ (by omega)]
  rw [e]
  unfold iMax
  refine Prod.ext ?_ rfl
  dsimp only; omega
 ·rw [if_neg h1, if_neg h1]
  by_cases h2 : k < 0
  ·rw [if_pos h2, if_pos h2]
   have e : (-(n + k * d.2)) / (-k) = (-n) / (-k) + d.2 := by
    rw [show -(n + k * d.2) = -n + (-k) * d.2 by rw [Int.neg_mul]; omega, Int.add_mul_ediv_left _ _ (by omega)]
   rw [e]
   unfold iMin
   refine Prod.ext rfl ?_
   dsimp only; omega
  ·rw [if_neg h2, if_neg h2]
   obtain rfl : k = 0 := by omega
   rw [Int.zero_mul, Int.add_zero]
   split
   ·refine Prod.ext rfl ?_
    dsimp only; omega
   ·rfl
theorem clips_sh (d : Pt) (x : Int) : ∀ (qs : List (Pt × Pt)) (t : Int × Int), clips (x + d.1) (t.1 + d.2, t.2 + d.2) (qs.map (shQ d)) = ((clips x t qs).1 + d.2, (clips x t qs).2 + d.2)
 | [], t => rfl
 | q :: qs, t => by
  unfold clips
  rw [List.map_cons, List.foldl_cons, List.foldl_cons, clip_sh]
  exact clips_sh d x qs (clip1 x t q)
theorem hitRow_sh (d : Pt) (l : List Pt) (t : Int × Int × Int) : hitRow (l.map (shP d)) (shT d t) = (hitRow l t).map (shP d) := by
 unfold hitRow
 have e := clips_sh d t.1 (sidesL l) (t.2.1, t.2.2)
 rw [sides_sh]
 show (if (clips (t.1 + d.1) (t.2.1 + d.2, t.2.2 + d.2) _).1 <= (clips (t.1 + d.1) (t.2.1 + d.2, t.2.2 + d.2) _).2 then some (t.1 + d.1, (clips (t.1 + d.1) (t.2.1 + d.2, t.2.2 + d.2) _).1) else none) = _
 rw [e]
 generalize clips t.1 (t.2.1, t.2.2) (sidesL l) = c
 by_cases h : c.1 <= c.2
 ·rw [if_pos h, if_pos (by dsimp only; omega)]; rfl
 ·rw [if_neg h, if_neg (by dsimp only; omega)]; rfl
theorem hitsO_sh (d : Pt) (l : List Pt) (r : Rg) : hitsO (l.map (shP d)) (shR d r) = (hitsO l r).map (shP d) := by
 unfold hitsO
 rw [rows_sh]
 generalize rowsL r = rs
 induction rs with
 | nil => rfl
 | cons t rs ih =>
  rw [List.map_cons, List.findSome?_cons, List.findSome?_cons, hitRow_sh, ih]
  cases hitRow l t <;> rfl
theorem hits_sh {d : Pt} {l : List Pt} {r : Rg} (hl : ∀ p ∈ l, NbP 20000 p) (hd : NbP 3000 d) (hr : NbR 25000 r) : (hitsF (l.map (shP d)) (shR d r)).2 = (hitsF l r).2 := by
 unfold hitsF
 by_cases hf : FieldOk l
 ·rw [if_pos hf, if_pos ((field_sh hl hd).2 hf), if_pos (nb_ok hr (by omega)), if_pos (nb_ok (nb_sh hr hd) (by omega)), hitsO_sh]
  cases hitsO l r <;> rfl
 ·rw [if_neg hf, if_neg (fun h => hf ((field_sh hl hd).1 h))]
def shS (d : Pt) (s : Cr) : Cr := { s with lines := s.lines.map (shQ d), fields := s.fields.map (fun f => f.map (shP d)), buoys := s.buoys.map (shP d), start := (shP d s.start.1, s.start.2) }
structure NrS (s : Cr) : Prop where
 lines : ∀ l ∈ s.lines, NbP 20000 l.1 /\ NbP 20000 l.2
 fields : ∀ f ∈ s.fields, ∀ p ∈ f, NbP 20000 p
 buoys : ∀ p ∈ s.buoys, NbP 20000 p
 start : NbP 20000 s.start.1
 spread : NrR s.spread
theorem clear_sh {d : Pt} {s : Cr} {p q : Pt} (hs : NrS s) (hd : NbP 3000 d) (hp : NbP 20000 p) (hq : NbP 20000 q) : clearF (shS d s) (shP d p) (shP d q) = clearF s p q := by
 obtain ⟨h1, h2⟩ := swept_sh hs.spread hp hq hd
 unfold clearF
 show (decide ((sweptF s.spread (shP d p) (shP d q)).2 = 0) && !((s.fields.map fun f => f.map (shP d)).any fun f => decide ((hitsF f (sweptF s.spread (shP d p) (shP d q)).1).2 = 0))) = _
 rw [h1]
 by_cases h0 : (sweptF s.spread p q).2 = 0
 ·obtain ⟨h3, h4⟩ := h2 h0
  rw [h3]
  congr 2
  have : ∀ L : List (List Pt), (∀ f ∈ L, ∀ p ∈ f, NbP 20000 p) -> (L.map fun f => f.map (shP d)).any (fun f => decide ((hitsF f (shR d (sweptF s.spread p q).1)).2 = 0)) = L.any fun f => decide ((hitsF f (sweptF s.spread p q).1).2 = 0) := by
   intro L
   induction L with
   | nil => intro _; rfl
   | cons f L ih =>
    intro hL
    rw [List.map_cons, List.any_cons, List.any_cons, hits_sh (hL f (List.mem_cons_self ..)) hd h4, ih fun g hg => hL g (List.mem_cons_of_mem _ hg)]
  exact this _ hs.fields
 ·rw [decide_eq_false h0, Bool.false_and, Bool.false_and]
end Go.Proofs.YtifcpjfpjkoicaaGreat.C
end
section
open PvL
set_option linter.unusedSectionVars false
set_option linter.unusedVariables false
namespace Go.Proofs.YtifcpjfpjkoicaaGreat.C
abbrev shO (d : Pt) (a : Pose) : Pose := (shP d a.1, a.2)
abbrev shG (d : Pt) (x : Psg) : Psg := (x.1.map (shP d), x.2)
abbrev shX (d : Pt) (x : Rch) : Rch := (shO d x.1, x.2)
theorem shP_inj {d p q : Pt} : shP d p = shP d q ↔ p = q := by
 refine ⟨fun h => ?_, fun h => by rw [h]⟩
 have h1 := congrArg Prod.fst h
 have h2 := congrArg Prod.snd h
 dsimp only [shP] at h1 h2
 exact Prod.ext (by omega) (by omega)
theorem oct_sh (d a b : Pt) : octW (shP d a) (shP d b) = octW a b := by
 unfold octW shP
 dsimp only
 rw [show b.1 + d.1 - (a.1 + d.1) = b.1 - a.1 by omega, show b.2 + d.2 - (a.2 + d.2) = b.2 - a.2 by omega]
theorem steps_sh (v : Int) (d a b : Pt) : stepsF v (shP d a) (shP d b) = stepsF v a b := by
 unfold stepsF distF shP
 dsimp only
 rw [show b.1 + d.1 - (a.1 + d.1) = b.1 - a.1 by omega, show b.2 + d.2 - (a.2 + d.2) = b.2 - a.2 by omega]
theorem getD_sh {d : Pt} {l : List Pt} {k : Nat} (h : k < l.length) : (l.map (shP d)).getD k (0, 0) = shP d (l.getD k (0, 0)) := by
 rw [getD_eq h, getD_eq (by rw [List.length_map]; exact h), List.getElem_map]
theorem costL_sh {d : Pt} {s : Cr} (hs : NrS s) (hd : NbP 3000 d) (to : Int) : ∀ (l : List Pt) (p : Pt) (o : Int), NbP 20000 p -> (∀ q ∈ l, NbP 20000 q) -> costL (shS d s) to (shP d p) o (l.map (shP d)) = costL s to p o l
 | [], p, o, _, _ => rfl
 | q :: l, p, o, hp, hl => by
  have hq := hl q (List.mem_cons_self ..)
  have ih := costL_sh hs hd to l q (octW p q) hq fun x hx => hl x (List.mem_cons_of_mem _ hx)
  rw [List.map_cons]
  unfold costL
  rw [clear_sh hs hd hp hq, oct_sh, steps_sh, ih]
  by_cases h : p ≠ q /\ clearF s p q = true
  ·rw [if_pos h, if_pos ⟨fun e => h.1 (shP_inj.1 e), h.2⟩]; rfl
  ·rw [if_neg h, if_neg (fun h' => h ⟨fun e => h'.1 (by rw [e]), h'.2⟩)]
theorem costP_sh {d : Pt} {s : Cr} (hs : NrS s) (hd : NbP 3000 d) {l : List Pt} (hl : ∀ q ∈ l, NbP 20000 q) (o to : Int) : costP (shS d s) (l.map (shP d)) o to = costP s l o to := by
 cases l with
 | nil => rfl
 | cons p l => exact costL_sh hs hd to l p o (hl p (List.mem_cons_self ..)) fun x hx => hl x (List.mem_cons_of_mem _ hx)
theorem offer_sh {d : Pt} {s : Cr} (hs : NrS s) (hd : NbP 3000 d) {l : List Pt} (hl : ∀ q ∈ l, NbP 20000 q) (a b : Pose) : offerL (shS d s) (shO d a) (shO d b) (l.map (shP d)) = (offerL s a b l).map (shG d) := by
 unfold offerL
 rw [costP_sh hs hd hl]
 cases costP s l a.2 b.2 <;> rfl
theorem buoy_nb {d : Pt} {s : Cr} (hs : NrS s) (hd : NbP 3000 d) {i : Nat} (h : i < s.buoys.length) : NbP 20000 (s.buoys.getD i (0, 0)) := by rw [getD_eq h]; exact hs.buoys _ (List.getElem_mem h)
theorem next_sh {d : Pt} {s : Cr} (hs : NrS s) (hd : NbP 3000 d) {a b : Pose} (hb : NbP 20000 b.1) : ∀ (n : Nat) (l : List Pt) (used : Nat), (∀ q ∈ l, NbP 20000 q) -> nextL (shS d s) (shO d a) (shO d b) n (l.map (shP d)) used = (nextL s a b n l used).map (shG d)
 | 0, l, used, hl => by
  unfold nextL
  rw [<- offer_sh hs hd (l := l ++ [b.1]) (fun q hq => by
   rcases List.mem_append.1 hq with hq | hq
   ·exact hl q hq
   ·obtain rfl := List.mem_singleton.1 hq; exact hb), List.map_append]
  rfl
 | n + 1, l, used, hl => by
  unfold nextL
  rw [List.map_append, <- offer_sh hs hd (l := l ++ [b.1]) (fun q hq => by
   rcases List.mem_append.1 hq with hq | hq
   ·exact hl q hq
   ·obtain rfl := List.mem_singleton.1 hq; exact hb), List.map_append, List.map_flatMap]
  congr 1
  have hlen : (shS d s).buoys.length = s.buoys.length := List.length_map ..
  rw [hlen]
  have : ∀ L : List Nat, (∀ i ∈ L, i < s.buoys.length) -> (L.flatMap fun i => if used.testBit i then [] else nextL (shS d s) (shO d a) (shO d b) n (l.map (shP d) ++ [(shS d s).buoys.getD i (0, 0)]) (used ||| 2 ^ i)) = L.flatMap fun i => (if used.testBit i then [] else nextL s a b n (l ++ [s.buoys.getD i (0, 0)]) (used ||| 2 ^ i)).map (shG d) := by
   intro L
   induction L with
   | nil => intro _; rfl
   | cons i L ih =>
    intro hL
    have hi := hL i (List.mem_cons_self ..)
    rw [List.flatMap_cons, List.flatMap_cons, ih fun j hj => hL j (List.mem_cons_of_mem _ hj)]
    congr 1
    cases used.testBit i with
    | true => rfl
    | false =>
     rw [if_neg (by decide), if_neg (by decide), <- next_sh hs hd hb n (l ++ [s.buoys.getD i (0, 0)]) (used ||| 2 ^ i) (fun q hq => by
      rcases List.mem_append.1 hq with hq | hq
      ·exact hl q hq
      ·obtain rfl := List.mem_singleton.1 hq; exact buoy_nb hs hd hi), List.map_append]
     have e : (shS d s).buoys.getD i (0, 0) = shP d (s.buoys.getD i (0, 0)) := getD_sh hi
     rw [e]; rfl
  exact this _ fun i hi => List.mem_range.1 hi
theorem pass_sh {d : Pt} {s : Cr} (hs : NrS s) (hd : NbP 3000 d) {a b : Pose} (ha : NbP 20000 a.1) (hb : NbP 20000 b.1) : passL (shS d s) (shO d a) (shO d b) = (passL s a b).map (shG d) := by
 unfold passL
 have hlen : (shS d s).buoys.length = s.buoys.length := List.length_map ..
 have h1 : ∀ q ∈ [a.1], NbP 20000 q := fun q hq => by obtain rfl := List.mem_singleton.1 hq; exact ha
 rw [List.map_append, hlen, <- next_sh hs hd hb _ [a.1] 0 h1]
 congr 1
 by_cases h : a.1 = b.1
 ·rw [if_pos h, if_pos (shP_inj.2 h), <- offer_sh hs hd h1]; rfl
 ·rw [if_neg h, if_neg (fun h' => h (shP_inj.1 h'))]; rfl
theorem cmp_sh (d : Pt) : ∀ a b : List Pt, cmpL (a.map (shP d)) (b.map (shP d)) = cmpL a b
 | [], [] => rfl
 | [], _ :: _ => rfl
 | _ :: _, [] => rfl
 | a :: al, b :: bl => by
  have e : befF (shP d a) (shP d b) = befF a b := by
   unfold befF shP
   dsimp only
   split <;> split <;> omega
  rw [List.map_cons, List.map_cons]
  unfold cmpL
  rw [e, cmp_sh d al bl]
theorem less_sh (d : Pt) (x y : Psg) : lessP (shG d x) (shG d y) = lessP x y := by
 unfold lessP shG
 dsimp only
 rw [List.length_map, List.length_map, cmp_sh]
theorem fold_sh (d : Pt) : ∀ (l : List Psg) (o : Option Psg), (l.map (shG d)).foldl addB (o.map (shG d)) = (l.foldl addB o).map (shG d)
 | [], o => rfl
 | x :: l, o => by
  have e : addB (o.map (shG d)) (shG d x) = (addB o x).map (shG d) := by
   cases o with
   | none => rfl
   | some y =>
    show (if lessP (shG d x) (shG d y) = true then some (shG d x) else some (shG d y)) = (if lessP x y = true then some x else some y).map (shG d)
    rw [less_sh]
    split <;> rfl
  rw [List.map_cons, List.foldl_cons, List.foldl_cons, e]
  exact fold_sh d l (addB o x)
theorem best_sh {d : Pt} {s : Cr} (hs : NrS s) (hd : NbP 3000 d) {a b : Pose} (ha : NbP 20000 a.1) (hb : NbP 20000 b.1) : bestF (shS d s) (shO d a) (shO d b) = (bestF s a b).map (shG d) := by
 unfold bestF
 rw [pass_sh hs hd ha hb]
 exact fold_sh d _ none
theorem costN_sh {d : Pt} {s : Cr} (hs : NrS s) (hd : NbP 3000 d) {a b : Pose} (ha : NbP 20000 a.1) (hb : NbP 20000 b.1) : costN (shS d s) (shO d a) (shO d b) = costN s a b := by
 unfold costN
 rw [best_sh hs hd ha hb]
 cases bestF s a b <;> rfl
theorem way_sh {d : Pt} {s : Cr} (hs : NrS s) (hd : NbP 3000 d) {c : Nat} (hc : c / 2 < s.lines.length) : wayC (shS d s) c = shQ d (wayC s c) := by
 unfold wayC wayF
 have e : (shS d s).lines.getD (c / 2) ((0, 0), (0, 0)) = shQ d (s.lines.getD (c / 2) ((0, 0), (0, 0))) := by
  rw [getD_eq hc, getD_eq (by show c / 2 < (s.lines.map (shQ d)).length; rw [List.length_map]; exact hc)]
  exact List.getElem_map ..
 rw [e]
 split <;> rfl
theorem way_nb {d : Pt} {s : Cr} (hs : NrS s) (hd : NbP 3000 d) {c : Nat} (hc : c / 2 < s.lines.length) : NbP 20000 (wayC s c).1 /\ NbP 20000 (wayC s c).2 := by
 have h := hs.lines _ (List.getElem_mem hc)
 unfold wayC wayF
 rw [getD_eq hc]
 split
 ·exact ⟨h.2, h.1⟩
 ·exact h
theorem beg_sh {d : Pt} {s : Cr} (hs : NrS s) (hd : NbP 3000 d) {c : Nat} (hc : c / 2 < s.lines.length) : begC (shS d s) c = shO d (begC s c) := by
 unfold begC
 rw [way_sh hs hd hc, oct_sh]
theorem end_sh {d : Pt} {s : Cr} (hs : NrS s) (hd : NbP 3000 d) {c : Nat} (hc : c / 2 < s.lines.length) : endC (shS d s) c = shO d (endC s c) := by
 unfold endC
 rw [way_sh hs hd hc, oct_sh]
theorem shot_sh {d : Pt} {s : Cr} (hs : NrS s) (hd : NbP 3000 d) {c : Nat} (hc : c / 2 < s.lines.length) (t : Int) : shotC (shS d s) c t = shotC s c t := by
 have hn := way_nb hs hd hc
 have e1 : wayF (shS d s) (c / 2) ((c % 2 : Nat) : Int) = shQ d (wayC s c) := way_sh hs hd hc
 have e2 : wayF s (c / 2) ((c % 2 : Nat) : Int) = wayC s c := rfl
 unfold shotC shotF
 rw [e1, e2]
 dsimp only [shQ]
 rw [clear_sh hs hd hn.1 hn.2, steps_sh]
 rfl
theorem go_sh {d : Pt} {s : Cr} (hs : NrS s) (hd : NbP 3000 d) {x : Rch} {c : Nat} (hx : NbP 20000 x.1.1) (hc : c / 2 < s.lines.length) : goF (shS d s) (shX d x) c = goF s x c := by
 have hn := way_nb hs hd hc
 unfold goF
 rw [beg_sh hs hd hc, costN_sh hs hd hx (show NbP 20000 (begC s c).1 from hn.1), shot_sh hs hd hc]
theorem rch_sh {d : Pt} {s : Cr} (hs : NrS s) (hd : NbP 3000 d) {c : Nat} (hc : c / 2 < s.lines.length) (t : Int) : rchF (shS d s) c t = shX d (rchF s c t) := by
 unfold rchF
 rw [end_sh hs hd hc]
end Go.Proofs.YtifcpjfpjkoicaaGreat.C
end
section
open PvL
set_option linter.unusedVariables false
namespace Go.Proofs.YtifcpjfpjkoicaaGreat.C
theorem nl_sh (d : Pt) (s : Cr) : (shS d s).lines.length = s.lines.length := List.length_map ..
theorem pl_sh (d : Pt) (s : Cr) (set c : Nat) : plN (shS d s) set c = plN s set c := by unfold plN; rw [nl_sh]
theorem all_sh (d : Pt) (s : Cr) : allN (shS d s) = allN s := by unfold allN; rw [nl_sh]
theorem shoots_sh (d : Pt) (s : Cr) (set : Nat) : shootsL (shS d s) set = shootsL s set := by unfold shootsL; rw [nl_sh]
theorem end_nb {d : Pt} {s : Cr} (hs : NrS s) (hd : NbP 3000 d) {c : Nat} (hc : c / 2 < s.lines.length) : NbP 20000 (endC s c).1 := (way_nb hs hd hc).2
theorem bef_sh {d : Pt} {s : Cr} (hs : NrS s) (hd : NbP 3000 d) (tab : List Int) (set c : Nat) : befL (shS d s) tab set c = (befL s tab set c).map (shX d) := by
 unfold befL
 rw [nl_sh]
 split
 ·rfl
 ·rw [List.map_filterMap]
  refine fm_congr fun y hy => ?_
  have hy := List.mem_range.1 hy
  rw [pl_sh]
  split
  ·rw [rch_sh hs hd (by omega)]; rfl
  ·rfl
theorem bef_nb {d : Pt} {s : Cr} (hs : NrS s) (hd : NbP 3000 d) {tab : List Int} {set c : Nat} {x : Rch} (h : x ∈ befL s tab set c) : NbP 20000 x.1.1 := by
 rcases mem_bef.1 h with ⟨_, rfl⟩ | ⟨_, y, hy, _, rfl⟩
 ·exact hs.start
 ·exact end_nb hs hd (c := y) (by omega)
theorem ear_sh {d : Pt} {s : Cr} (hs : NrS s) (hd : NbP 3000 d) {tab : List Int} {set c : Nat} (hc : c / 2 < s.lines.length) : earL (shS d s) tab set c = earL s tab set c := by
 unfold earL
 rw [bef_sh hs hd, List.filterMap_map]
 refine fm_congr fun x hx => ?_
 show (goF (shS d s) (shX d x) c).map (·.2) = _
 rw [go_sh hs hd (bef_nb hs hd hx) hc]
theorem step_sh {d : Pt} {s : Cr} (hs : NrS s) (hd : NbP 3000 d) {tab : List Int} {set c : Nat} (hc : c / 2 < s.lines.length) : tabStep (shS d s) set tab c = tabStep s set tab c := by
 unfold tabStep
 rw [ear_sh hs hd hc, pl_sh]
theorem foldl_cg2 {α β : Type} {g h : β -> α -> β} : ∀ {l : List α} {z : β}, (∀ z a, a ∈ l -> g z a = h z a) -> l.foldl g z = l.foldl h z
 | [], z, _ => rfl
 | a :: l, z, hh => by rw [List.foldl_cons, List.foldl_cons, hh z a (List.mem_cons_self ..), foldl_cg2 fun z b hb => hh z b (List.mem_cons_of_mem _ hb)]
theorem tab_sh {d : Pt} {s : Cr} (hs : NrS s) (hd : NbP 3000 d) : tabF (shS d s) = tabF s := by
 unfold tabF
 have e0 : tab0 (shS d s) = tab0 s := by unfold tab0; rw [nl_sh]
 rw [e0, nl_sh]
 refine foldl_cg2 fun t set _ => ?_
 unfold tabSet
 rw [shoots_sh]
 refine foldl_cg2 fun t' c hc => ?_
 have := (mem_shoots.1 hc).1
 exact step_sh hs hd (by omega)
theorem TT_sh {d : Pt} {s : Cr} (hs : NrS s) (hd : NbP 3000 d) (set c : Nat) : TT (shS d s) set c = TT s set c := by unfold TT; rw [tab_sh hs hd, pl_sh]
theorem endB_sh {d : Pt} {s : Cr} (hs : NrS s) (hd : NbP 3000 d) : endB (shS d s) = endB s := by
 unfold endB
 rw [all_sh, shoots_sh]
 refine foldl_cg2 fun e c _ => ?_
 unfold endS
 rw [TT_sh hs hd, all_sh]
theorem fs_cg2 {α β : Type} {g h : α -> Option β} : ∀ {l : List α}, (∀ a ∈ l, g a = h a) -> l.findSome? g = l.findSome? h
 | [], _ => rfl
 | a :: l, hh => by rw [List.findSome?_cons, List.findSome?_cons, hh a (List.mem_cons_self ..), fs_cg2 fun b hb => hh b (List.mem_cons_of_mem _ hb)]
theorem nextO_sh {d : Pt} {s : Cr} (hs : NrS s) (hd : NbP 3000 d) (e : Int) : ∀ (f : Nat) (l : List Nat) (x : Rch) (left : Nat), NbP 20000 x.1.1 -> nextO (shS d s) e f l (shX d x) left = nextO s e f l x left
 | 0, l, x, left, _ => rfl
 | f + 1, l, x, left, hx => by
  unfold nextO
  rw [shoots_sh]
  split
  ·rfl
  ·refine fs_cg2 fun c hc => ?_
   have hc := (mem_shoots.1 hc).1
   rw [go_sh hs hd hx (by omega)]
   cases goF s x c with
   | none => rfl
   | some b =>
    dsimp only
    split
    ·rfl
    ·rw [rch_sh hs hd (by omega)]
     exact nextO_sh hs hd e f _ _ _ (end_nb hs hd (c := c) (by omega))
theorem near_pl {p : Pt} (h : NbP 23000 p) : PlP p := by unfold NbP at h; dsimp only [PlP, Pl]; omega
theorem nb_near {d p : Pt} (hd : NbP 3000 d) (h : NbP 20000 p) : NbP 23000 p /\ NbP 23000 (shP d p) := by
 unfold NbP shP at *
 dsimp only at *
 omega
theorem crok_sh {d : Pt} {s : Cr} (hs : NrS s) (hd : NbP 3000 d) : CrOk (shS d s) ↔ CrOk s := by
 have hP : ∀ {p : Pt}, NbP 20000 p -> PlP p /\ PlP (shP d p) := fun {p} h => ⟨near_pl (nb_near hd h).1, near_pl (nb_near hd h).2⟩
 constructor
 ·intro h
  refine ⟨by have := h.n1; rw [nl_sh] at this; exact this, by have := h.n5; rw [nl_sh] at this; exact this, ?_, ?_, ?_, fun l hl => ?_, h.opn, fun f hf => ?_, fun p hp => (hP (hs.buoys p hp)).1, h.spread, ⟨(hP hs.start).1, h.start.2⟩, h.speed, h.turn⟩
  ·have : (s.fields.map fun f => f.map (shP d)).length <= 4 := h.nf
   rw [List.length_map] at this; exact this
  ·have : (s.buoys.map (shP d)).length <= 4 := h.nb
   rw [List.length_map] at this; exact this
  ·have := h.no
   rw [nl_sh] at this; exact this
  ·have hn := hs.lines l hl
   have := (h.lines (shQ d l) (List.mem_map_of_mem hl)).2.2
   exact ⟨(hP hn.1).1, (hP hn.2).1, fun e => this (by show shP d l.1 = shP d l.2; rw [e])⟩
  ·exact (field_sh (hs.fields f hf) hd).1 (h.fields _ (List.mem_map_of_mem (f := fun f => f.map (shP d)) hf))
 ·intro h
  refine ⟨by rw [nl_sh]; exact h.n1, by rw [nl_sh]; exact h.n5, ?_, ?_, ?_, fun l hl => ?_, h.opn, fun f hf => ?_, fun p hp => ?_, h.spread, ⟨(hP hs.start).2, h.start.2⟩, h.speed, h.turn⟩
  ·show (s.fields.map fun f => f.map (shP d)).length <= 4
   rw [List.length_map]; exact h.nf
  ·show (s.buoys.map (shP d)).length <= 4
   rw [List.length_map]; exact h.nb
  ·rw [nl_sh]; exact h.no
  ·obtain ⟨k, hk, rfl⟩ := List.mem_map.1 hl
   have hn := hs.lines k hk
   exact ⟨(hP hn.1).2, (hP hn.2).2, fun e => (h.lines k hk).2.2 (shP_inj.1 e)⟩
  ·obtain ⟨k, hk, rfl⟩ := List.mem_map.1 hf
   exact (field_sh (hs.fields k hk) hd).2 (h.fields k hk)
  ·obtain ⟨k, hk, rfl⟩ := List.mem_map.1 hp
   exact (hP (hs.buoys k hk)).2
end Go.Proofs.YtifcpjfpjkoicaaGreat.C
end
