/-
 Part of the proof of CourseBests: what functions of the program and of the statement come to, walked by the rules. No condition beyond those in each theorem.
-/
import Derived.Test.YtpccafeedfpbaaaGreatUK
import Derived.Test.YtpccafeedfpbaaaGreatUS
section
open Go PvL Go.Proofs
set_option linter.unusedSimpArgs false
set_option linter.unusedVariables false
namespace Go.Proofs.YtpccafeedfpbaaaGreat.C
theorem zod : ∃ e, Tryz.prog.underlying 42 = some (.slice e) := ⟨50, by kernel_rfl⟩
instance : IsSl Tryz.prog 42 := ⟨zod⟩
abbrev shcc (c : Nat) : List LV := [I (c / 2 : Nat), I (c % 2 : Nat)]
theorem zev {b : Nat} {v : LV} {l : List Nat} {M : Mem} (hv : Vec b 2 50 shcc M v l) (hnil : l = [] -> ∀ i, v ≠ .slice (some (i, 0)) 0 false 2) (hlen : l.length <= 1000000) :
  CallOk Tryz.prog 66 [v] M (fun w M' => Vec M.next 2 50 shcc M' w l /\ Grow M M') := by
 refine z6 kq66 rfl ?_
 dsimp only [xq66, qm, qo, qq, qZ, qN, zipE, Nat.reduceAdd]
 rcases hv with ⟨rfl, rfl⟩ | ⟨i, rfl, ai, hb⟩
 ·(repeat' first|with_reducible intro _|refine sv ?_|refine sc ?_ ?_<;>(intro h;try exact sz h)|refine sg ?_ ?_<;>(intro h;first|exact sz h|refine sy h ?_)|exact sq|fail)
  (refine kf ?_)
  exact ⟨.nil, xg⟩
 ·by_cases h0 : l = []
  ·subst h0
   exact absurd rfl (hnil rfl i)
  have h0 : 0 < l.length := List.length_pos_iff.2 h0
  (repeat' first|with_reducible intro _|refine sv ?_|refine sc ?_ ?_<;>(intro h;try exact sz h)|refine sg ?_ ?_<;>(intro h;first|exact sz h|refine sy h ?_)|exact sq|fail)
  rename_i n5 M1 hn5 e1 e2
  have hw : firstL 2 l.length (.slice (some (i, 0)) l.length false 2) M1 = some (l.flatMap shcc) := zm (enc := shcc) (fun x _ => rfl) (fun k hk => zl (enc := shcc) (At.new_old hn5 ai) (fun x _ => rfl) hk)
  refine z2n (by exact gd) (old := []) rfl rfl rfl h0 (by omega) rfl rfl hw (zy (fun x _ => rfl)) (.inr rfl) ?_
  intro n6 M2 hn6 e3 e4
  (repeat' first|with_reducible intro _|refine sv ?_|refine sc ?_ ?_<;>(intro h;try exact sz h)|refine sg ?_ ?_<;>(intro h;first|exact sz h|refine sy h ?_)|exact sq|fail)
  (refine kf ?_)
  exact ⟨.inr ⟨n6, by rw [Nat.zero_add]; rfl, At.new_same hn6, by omega⟩, xg⟩
noncomputable def nextO (s : Cr) (e : Int) : Nat -> List Nat -> Rch -> Nat -> Option (List Nat)
 | 0, l, x, left => if left = 0 then (if x.2 = e then some l else none) else none
 | f + 1, l, x, left => if left = 0 then (if x.2 = e then some l else none) else
  (shootsL s left).findSome? fun c => match goF s x c with
   | none => none
   | some b => if e < b.2 then none else nextO s e f (l ++ [c]) (rchF s c b.2) (restN left (c / 2))
abbrev bestV (nf ne np nx : Nat) : LV := .func (.func 65) [] [.ptr (some (nf, 0)), .ptr (some (ne, 0)), .ptr (some (np, 0)), .ptr (some (nx, 0))]
def BsPost (s : Cr) (pm pk nf b0 : Nat) (o : Option (List Nat)) (M : Mem) (w : LV) (M' : Mem) : Prop :=
 Keep (fun i => i = pm ∨ i = pk ∨ i = nf) M M' /\ KnM M' s pm /\ KcM M' s pk /\ ∃ u, At M' nf (.cells true [u] 42) /\ ((w = .bool true /\ ∃ r, o = some r /\ Vec b0 2 50 shcc M' u r) ∨ (w = .bool false /\ o = none))
structure BsPre (MB : Mem) (s : Cr) (pc pm pk nf ne np nx : Nat) (e : Int) (b0 : Nat) (l : List Nat) (x : Rch) (left : Nat) (v : LV) (M : Mem) : Prop where
 kp : Keep (fun i => i = pm ∨ i = pk) MB M
 kn : KnM M s pm
 kc : KcM M s pk
 fo : ∃ u, At M nf (.cells true [u] 42)
 en : At M ne (.cells true [I e] 3)
 pl : At M np (.cells true [.ptr (some (pc, 0)), .map (some pk)] 109)
 nx : At M nx (.cells true [bestV nf ne np nx] 133)
 vec : Vec b0 2 50 shcc M v l
 nil : l = [] -> ∀ i, v ≠ .slice (some (i, 0)) 0 false 2
 len : l.length + left <= 100
 pos : PoseOk x.1
 tim : 0 <= x.2 /\ x.2 <= 5000000
set_option maxHeartbeats 8000000 in
theorem z55 {MB : Mem} {A : CrA} {s : Cr} {pc pm pk nf ne np nx b0 : Nat} {e : Int} (hpl : PlM MB A s pc pm pk) (hs : CrOk s) (he : -1 <= e /\ e <= 5000000) (hnf : MB.next <= nf) {M : Mem} {l : List Nat} {x : Rch} {v : LV} (h : BsPre MB s pc pm pk nf ne np nx e b0 l x 0 v M) :
  CallOk Tryz.prog 65 [v, .agg (rchc x), I 0, .ptr (some (nf, 0)), .ptr (some (ne, 0)), .ptr (some (np, 0)), .ptr (some (nx, 0))] M (BsPost s pm pk nf b0 (if x.2 = e then some l else none) M) := by
 obtain ⟨hk, hkn, hkc, ⟨u, hf⟩, hen, hp, hx, hv, hnil, hlen, hpo, htm⟩ := h
 obtain ⟨ao, fo, eo, rfl⟩ := hv.shape
 have l1 := hf.2
 have l2 := hen.2
 have l3 := hkn.lt
 have l4 := hkc.lt
 have l5 := hkn.ne_at hf
 have l6 := hkc.ne_at hf
 have l7 : ne ≠ nf := fun h => by subst h; exact absurd (z3n hf hen) (by decide)
 refine z6 kq65 rfl ?_
 dsimp only [xq65, qm, qf, ql, qL, qb, qe, qc, qB, qC, qg, qS, qo, qk, qK, qq, qZ, zipE, Nat.reduceAdd]
 (repeat' first|with_reducible intro _|refine sv ?_|refine sc ?_ ?_<;>(intro h;try exact sz h)|refine sg ?_ ?_<;>(intro h;first|exact sz h|refine sy h ?_)|exact sq|fail)
 rename_i n7 M1 hn7 e1 e2 n8 M2 hn8 e3 e4 n9 M3 hn9 e5 e6 n10 M4 hn10 e7 e8 M5 hu5 e9 a5 M6 hu6 e10 a6
 have hk6 : Keep (fun i => i = pm ∨ i = pk ∨ i = nf) M M6 := xk
 have hgo : ∀ i, i < M.next -> i ≠ nf -> M6.get i = M.get i := fun i hi hne => by rw [zq hu6 (by omega), zq hu5 hne, hn10.grow.old i (by omega), hn9.grow.old i (by omega), hn8.grow.old i (by omega), hn7.grow.old i hi]
 have hv6 := Vec.keep_ne hv hk6 (fun i hi hf2 => hf2.elim (fun h => hkn.ne_at hi h) (fun h => h.elim (fun h => hkc.ne_at hi h) (fun h => by subst h; exact absurd (z3n hf hi) (by decide))))
 (refine kf ?_)
 refine ⟨hk6, hkn.at hk6.le (hgo _ (by omega) (by omega)), hkc.at hk6.le (hgo _ (by omega) (by omega)), _, xm, ?_⟩
 by_cases hx : x.2 = e
 ·rw [if_pos hx, decide_eq_true hx]
  exact .inl ⟨rfl, l, rfl, hv6⟩
 ·rw [if_neg hx, decide_eq_false hx]
  exact .inr ⟨rfl, rfl⟩
noncomputable def stepG (s : Cr) (e : Int) (G : List Nat -> Rch -> Nat -> Option (List Nat)) (l : List Nat) (x : Rch) (left c : Nat) : Option (List Nat) :=
 match goF s x c with | none => none | some b => if e < b.2 then none else G (l ++ [c]) (rchF s c b.2) (restN left (c / 2))
set_option maxHeartbeats 16000000 in
theorem za7 {MB : Mem} {A : CrA} {s : Cr} {pc pm pk nf ne np nx b0 : Nat} {e : Int} (G : List Nat -> Rch -> Nat -> Option (List Nat)) (hpl : PlM MB A s pc pm pk) (hs : CrOk s) (he : -1 <= e /\ e <= 5000000) (hnf : MB.next <= nf) {left : Nat}
  (IH : ∀ (M' : Mem) (b' : Nat) (l' : List Nat) (x' : Rch) (left' : Nat) (v' : LV), left' < left -> b' <= M'.next -> BsPre MB s pc pm pk nf ne np nx e b' l' x' left' v' M' ->
   CallOk Tryz.prog 65 [v', .agg (rchc x'), I left', .ptr (some (nf, 0)), .ptr (some (ne, 0)), .ptr (some (np, 0)), .ptr (some (nx, 0))] M' (BsPost s pm pk nf b' (G l' x' left') M'))
  {M : Mem} {l : List Nat} {x : Rch} {v : LV} (hb0 : b0 <= M.next) (hl0 : left ≠ 0) (hl1 : left < 2 ^ s.lines.length) (h : BsPre MB s pc pm pk nf ne np nx e b0 l x left v M) :
  CallOk Tryz.prog 65 [v, .agg (rchc x), I left, .ptr (some (nf, 0)), .ptr (some (ne, 0)), .ptr (some (np, 0)), .ptr (some (nx, 0))] M (BsPost s pm pk nf b0 ((shootsL s left).findSome? (stepG s e G l x left)) M) := by
 obtain ⟨hk, hkn, hkc, ⟨u, hf⟩, hen, hp, hx, hv, hnil, hlen, hpo, htm⟩ := h
 obtain ⟨ao, fo, eo, rfl⟩ := hv.shape
 have hn5 := hs.n5
 have hp2 : 2 ^ s.lines.length <= 32 := Nat.pow_le_pow_right (n := 2) (by omega) hn5
 have l1 := hf.2
 have l2 := hen.2
 have l3 := hkn.lt
 have l4 := hkc.lt
 have l5 := hkn.ne_at hf
 have l6 := hkc.ne_at hf
 have l7 : ne ≠ nf := fun h => by subst h; exact absurd (z3n hf hen) (by decide)
 have l8 : np ≠ nf := fun h => by subst h; exact absurd (z3n hf hp) (by decide)
 have l9 : nx ≠ nf := fun h => by subst h; exact absurd (z3n hf hx) (by decide)
 have l10 := hp.2
 have l11 := hx.2
 have l12 := hkn.ne_at hen
 have l13 := hkc.ne_at hen
 have l14 := hkn.ne_at hp
 have l15 := hkc.ne_at hp
 have l16 := hkn.ne_at hx
 have l17 := hkc.ne_at hx
 refine z6 kq65 rfl ?_
 dsimp only [xq65, qm, qf, ql, qL, qb, qe, qc, qB, qC, qg, qS, qo, qk, qK, qq, qZ, zipE, Nat.reduceAdd]
 (repeat' first|with_reducible intro _|refine sv ?_|refine sc ?_ ?_<;>(intro h;try exact sz h)|refine sg ?_ ?_<;>(intro h;first|exact sz h|refine sy h ?_)|exact sq|fail)
 rename_i n7 M1 hn7 e1 e2 n8 M2 hn8 e3 e4 n9 M3 hn9 e5 e6 n10 M4 hn10 e7 e8
 have hg4 : Grow M M4 := xg
 refine zn (by exact gd) rfl rfl (show AppOk Tryz.prog _ _ M4 _ from z5p (pc := pc) (pk := pk) (set := (left : Int)) M4) ?_
 rintro w M5 ⟨np2, ns2, rfl, hg5, hp5, hs5, a5, b5⟩
 have hle5 := hg5.le
 have q1 := a5.2
 have q2 := b5.2
 (repeat' first|with_reducible intro _|refine sv ?_|refine sc ?_ ?_<;>(intro h;try exact sz h)|refine sg ?_ ?_<;>(intro h;first|exact sz h|refine sy h ?_)|exact sq|fail)
 apply z35
 exact rfl
 intro lb d ll M6 M7 hlb hd e10 e11 hl e12 e13
 have hg47 : Grow M4 M7 := (hg5.trans hd.grow).trans hl.grow
 have hg57 : Grow M5 M7 := hd.grow.trans hl.grow
 have hg7 : Grow M M7 := hg4.trans hg47
 have hle7 := hg7.le
 have hleK := hk.le
 have b7 : At M7 n7 (.cells true [.slice ao l.length fo eo] 42) := At.grow hg47 (xm)
 have b8 : At M7 n8 (.cells true (rchc x) 114) := At.grow hg47 (xm)
 have b9 : At M7 n9 (.cells true [I left] 3) := At.grow hg47 (xm)
 have b10 : At M7 n10 (.cells true [.bool false] 4) := At.grow hg47 (xm)
 have bd : At M7 d .defr := At.new_old hl (At.new_same hd)
 have hch7 := hpl.chc ((hk.grow hg7))
 have hy := z60 (A := A) (s := s) (pc := pc) (pm := pm) (pk := pk) (np := np2) (ns := ns2) (set := left) (M0 := M7) hch7.cells (a5.grow hg57) (b5.grow hg57) hn5 (by omega)
 have k1 : pm < MB.next := hpl.ch.known.lt
 have k2 : pk < MB.next := hpl.kc.lt
 have hdne : d ≠ n10 /\ d ≠ nf /\ d ≠ pm /\ d ≠ pk /\ d ≠ ll /\ n10 < d /\ n10 ≠ ll /\ n10 ≠ nf /\ n10 ≠ pm /\ n10 ≠ pk := by omega
 let KF : Nat -> Prop := fun i => i = pm ∨ i = pk ∨ i = nf ∨ i = n10 ∨ i = ll
 refine (hy ll KF (fun dn T M' => Keep (fun i => i = pm ∨ i = pk ∨ i = nf ∨ i = ll) M7 M' /\ KnM M' s pm /\ KcM M' s pk /\ (∃ u, At M' nf (.cells true [u] 42)) /\ At M' ll (lb .ready none) /\ dn.findSome? (stepG s e G l x left) = none)
  (fun T M' => Keep KF M7 M' /\ KnM M' s pm /\ KcM M' s pk /\ At M' n10 (.cells true [.bool true] 4) /\ At M' ll (lb .done (some .ret)) /\ ∃ u r, At M' nf (.cells true [u] 42) /\ (shootsL s left).findSome? (stepG s e G l x left) = some r /\ Vec M7.next 2 50 shcc M' u r /\ ∀ i o n f e, u = .slice (some (i, o)) n f e -> T i) ⟨?_, ?_, ?_, ?_⟩ ?_ ⟨Keep.refl _ _, hkn.at hg7.le (hg7.old _ l3), hkc.at hg7.le (hg7.old _ l4), ⟨u, hf.grow hg7⟩, At.new_same hl, rfl⟩).mono ?_
 ·rintro i (rfl | rfl | rfl | rfl | rfl) <;> omega
 ·rintro dn T Mx My ⟨h1, h2, h3, ⟨u', h4⟩, h5, h6⟩ hle hg
  have hgo : ∀ i, i < M7.next -> My.get i = Mx.get i := fun i hi => hg i (.inl ⟨hi, id⟩)
  exact ⟨⟨Nat.le_trans h1.le hle, fun i hi hf => by rw [hgo i (by omega)]; exact h1.old i hi hf⟩, h2.at hle (hgo _ (by omega)), h3.at hle (hgo _ (by omega)), ⟨u', h4.same hle (hgo _ (by omega))⟩, h5.same hle (hgo _ (by omega)), h6⟩
 ·rintro T Mx My ⟨h1, h2, h3, h4, h5, u', r, h6, h7, h8, h9⟩ hle hg
  have hgo : ∀ i, i < M7.next -> My.get i = Mx.get i := fun i hi => hg i (.inl ⟨hi, id⟩)
  exact ⟨⟨Nat.le_trans h1.le hle, fun i hi hf => by rw [hgo i (by omega)]; exact h1.old i hi hf⟩, h2.at hle (hgo _ (by omega)), h3.at hle (hgo _ (by omega)), h4.same hle (hgo _ (by omega)), h5.same hle (hgo _ (by omega)), u', r, h6.same hle (hgo _ (by omega)), h7, h8.imp id (fun ⟨i, z1, z2, z3⟩ => ⟨i, z1, z2.same hle (hg i (.inr (h9 _ _ _ _ _ z1))), z3⟩), h9⟩
 ·rintro dn c rest vv U T Mx hits ⟨rfl, hU⟩ hN0 hT hUd ⟨h1, h2, h3, ⟨u', h4⟩, h5, h6⟩
  have hcm := zo.1 (show c ∈ shootsL s left by rw [hits]; simp)
  have hc2 : c < 2 * s.lines.length := hcm.1
  have hle1 := h1.le
  have hlM := h5.2
  have hkMx : Keep (fun i => i = pm ∨ i = pk ∨ i = nf) M Mx := (hg7.to_keep (fun i => i = pm ∨ i = pk ∨ i = nf)).trans h1 (fun i hi => (by
    rcases hi with hi | hi | hi | hi
    ·exact .inl (.inl hi)
    ·exact .inl (.inr (.inl hi))
    ·exact .inl (.inr (.inr hi))
    ·exact .inr (by omega)))
  have hvx : Vec b0 2 50 shcc Mx (.slice ao l.length fo eo) l := Vec.keep_ne hv hkMx (fun i hi hf2 => hf2.elim (fun h => hkn.ne_at hi h) (fun h => h.elim (fun h => hkc.ne_at hi h) (fun h => by subst h; exact absurd (z3n hf hi) (by decide))))
  have x7 := b7.keep h1 (by omega)
  have x8 := b8.keep h1 (by omega)
  have x9 := b9.keep h1 (by omega)
  have xe := hen.keep hkMx (by rintro (h | h | h); exact hkn.ne_at hen h; exact hkc.ne_at hen h; exact l7 h)
  have xp := hp.keep hkMx (by rintro (h | h | h); exact hkn.ne_at hp h; exact hkc.ne_at hp h; exact l8 h)
  have xx := hx.keep hkMx (by rintro (h | h | h); exact hkn.ne_at hx h; exact hkc.ne_at hx h; exact l9 h)
  have hkBx : Keep (fun i => i = pm ∨ i = pk) MB Mx := hk.trans hkMx (fun i hi => by omega)
  have xch := hpl.keepm hkBx h2 h3
  have r1 := h4.2
  have r2 := h2.lt
  have r3 := h3.lt
  have r4 := xe.2
  have r5 := xp.2
  have r6 := xx.2
  have r7 := x7.2
  have hgo := fun M' (hg : Grow Mx M') => zgj (x := x) (c := c) (xch.grow hg) hs hpo htm hc2
  refine z0h hlb h5 rfl ?_
  dsimp only [zipP]
  clear hgo
  (repeat' first|with_reducible intro _|refine sv ?_|refine sc ?_ ?_<;>(intro h;try exact sz h)|refine sg ?_ ?_<;>(intro h;first|exact sz h|refine sy h ?_)|exact sq|fail)
  rename_i n11 MA hnA e14 e15 MX huX e16 aX MC huC e17 aC
  have hkC : Keep (fun i => i = ll) Mx MC := xk
  have hleC := hkC.le
  have xchC : PlM MC A s pc pm pk := hpl.keepm (hkBx.trans hkC (fun i hi => .inr (by omega))) (h2.at hleC (hkC.old _ r2 (by omega))) (h3.at hleC (hkC.old _ r3 (by omega)))
  have aXC : At MC n11 (.cells true (shcc c) 50) := xm
  refine zn (by exact gd) rfl rfl (show AppOk Tryz.prog _ _ MC _ from zgj (x := x) (c := c) xchC hs hpo htm hc2) ?_
  rintro w MD ⟨rfl, hkD, hknD, hkcD⟩
  have hleD := hkD.le
  have hkxD : Keep (fun i => i = pm ∨ i = pk ∨ i = ll) Mx MD := (hkC.weaken (fun i hi => .inr (.inr hi))).trans hkD (fun i hi => .inl (hi.elim .inl (fun h => .inr (.inl h))))
  have hkMD : Keep (fun i => i = pm ∨ i = pk ∨ i = nf) M MD := hkMx.trans hkxD (fun i hi => by omega)
  have hkBD : Keep (fun i => i = pm ∨ i = pk) MB MD := hkBx.trans hkxD (fun i hi => by omega)
  have hvD : Vec b0 2 50 shcc MD (.slice ao l.length fo eo) l := Vec.keep_ne hv hkMD (fun i hi hf2 => hf2.elim (fun h => hkn.ne_at hi h) (fun h => h.elim (fun h => hkc.ne_at hi h) (fun h => by subst h; exact absurd (z3n hf hi) (by decide))))
  have y7 := x7.keep hkxD (by omega)
  have y8 := x8.keep hkxD (by omega)
  have y9 := x9.keep hkxD (by omega)
  have ye := xe.keep hkxD (by omega)
  have yp := xp.keep hkxD (by omega)
  have yx := xx.keep hkxD (by omega)
  have yf := h4.keep hkxD (by omega)
  have yl := aC.keep hkD (by omega)
  have y11 := aXC.keep hkD (by omega)
  have y10 := (b10.keep h1 (by omega)).keep hkxD (by omega)
  have yd := (bd.keep h1 (by omega)).keep hkxD (by omega)
  have hs7 : (dn ++ [c]).findSome? (stepG s e G l x left) = stepG s e G l x left c := by rw [List.findSome?_append, h6]; show Option.or none _ = _; rw [Option.none_or, List.findSome?_cons]; cases stepG s e G l x left c <;> rfl
  have hs8 : ∀ r, stepG s e G l x left c = some r -> (shootsL s left).findSome? (stepG s e G l x left) = some r := fun r hr => by rw [hits, List.findSome?_append, h6, List.findSome?_cons, hr]; rfl
  have hskip : ∀ {MF MG : Mem}, Keep (fun i => False) MD MF -> Upd MF ll (lb .ready none) MG -> At MG ll (lb .ready none) -> stepG s e G l x left c = none ->
    Keep (fun i => KF i ∨ T i ∨ U i) Mx MG /\ ∃ T' : Nat -> Prop, (∀ i, T' i -> (T i ∨ U i ∨ Mx.next <= i) /\ i < MG.next) /\ ((LV.bool true = .bool true /\ Keep (fun i => i = pm ∨ i = pk ∨ i = nf ∨ i = ll) M7 MG /\ KnM MG s pm /\ KcM MG s pk /\ (∃ u, At MG nf (.cells true [u] 42)) /\ At MG ll (lb .ready none) /\ (dn ++ [c]).findSome? (stepG s e G l x left) = none) ∨ (LV.bool true = .bool false /\
     (Keep KF M7 MG /\ KnM MG s pm /\ KcM MG s pk /\ At MG n10 (.cells true [.bool true] 4) /\ At MG ll (lb .done (some .ret)) /\ ∃ u r, At MG nf (.cells true [u] 42) /\ (shootsL s left).findSome? (stepG s e G l x left) = some r /\ Vec M7.next 2 50 shcc MG u r /\ ∀ i o n f e, u = .slice (some (i, o)) n f e -> T' i))) := by
   intro MF MG hkF huG aG hst
   have hkG : Keep (fun i => i = ll) MD MG := (hkF.weaken (fun i hi => hi.elim)).upd huG (.inl rfl)
   have hkxG : Keep (fun i => i = pm ∨ i = pk ∨ i = nf ∨ i = ll) Mx MG := (hkxD.weaken (fun i hi => by omega)).trans hkG (fun i hi => by omega)
   have z1 := hknD.lt
   have z2 := hkcD.lt
   exact ⟨hkxG.weaken (fun i hi => .inl (by show i = pm ∨ i = pk ∨ i = nf ∨ i = n10 ∨ i = ll; omega)), fun _ => False, fun i hi => hi.elim, .inl ⟨rfl, h1.trans hkxG (fun i hi => .inl hi), hknD.at hkG.le (hkG.old _ z1 (by omega)), hkcD.at hkG.le (hkG.old _ z2 (by omega)), ⟨u', yf.keep hkG (by omega)⟩, aG, by rw [hs7, hst]⟩⟩
  cases hgf : goF s x c with
  | none =>
   (repeat' first|with_reducible intro _|refine sv ?_|refine sc ?_ ?_<;>(intro h;try exact sz h)|refine sg ?_ ?_<;>(intro h;first|exact sz h|refine sy h ?_)|exact sq|fail)
   rename_i n12 ME hnE e18 e19 MF huF e20 aF MG huG e21 aG
   exact hskip (xk) huG aG (by unfold stepG; rw [hgf])
  | some b =>
   have hgb := zar hs (z2b hc2) hgf
   have hbe : ((some b).getD (0, 0)).2 = b.2 := rfl
   by_cases heb : e < b.2
   ·(repeat' first|with_reducible intro _|refine sv ?_|refine sc ?_ ?_<;>(intro h;try exact sz h)|refine sg ?_ ?_<;>(intro h;first|exact sz h|refine sy h ?_)|exact sq|fail)
    all_goals try (exfalso; omega)
    rename_i n12 ME hnE e18 e19 MF huF e20 aF MG huG e21 aG
    exact hskip (xk) huG aG (by unfold stepG; rw [hgf]; exact if_pos heb)
   ·(repeat' first|with_reducible intro _|refine sv ?_|refine sc ?_ ?_<;>(intro h;try exact sz h)|refine sg ?_ ?_<;>(intro h;first|exact sz h|refine sy h ?_)|exact sq|fail)
    all_goals try (exfalso; omega)
    rename_i n12 ME hnE e18 e19 MF huF e20 aF
    have hkF : Keep (fun i => False) MD MF := xk
    have hleF := hkF.le
    have hvF : Vec b0 2 50 shcc MF (.slice ao l.length fo eo) l := Vec.keep_ne hvD hkF (fun i hi h => h)
    refine z04 (by exact gd) rfl rfl (show AppOk Tryz.prog _ _ MF _ from zev hvF hnil (by omega)) ?_
    rintro w MG ⟨hvG, hgG⟩
    have hleG := hgG.le
    obtain ⟨ag, fg, eg, rfl⟩ := Vec.shape hvG
    have w11 : At MG n11 (.cells true (shcc c) 50) := (y11.keep hkF (fun h => h)).grow hgG
    have w12 : At MG n12 (.cells true [I b.1, I b.2] 26) := aF.grow hgG
    (repeat' first|with_reducible intro _|refine sv ?_|refine sc ?_ ?_<;>(intro h;try exact sz h)|refine sg ?_ ?_<;>(intro h;first|exact sz h|refine sy h ?_)|exact sq|fail)
    rename_i n44 MH hnH e22 e23
    have hvH : Vec MF.next 2 50 shcc MH (.slice ag l.length fg eg) l := Or.imp id (fun ⟨i, z1, z2, z3⟩ => ⟨i, z1, At.new_old hnH z2, z3⟩) hvG
    have hwH : firstL 2 1 (.slice (some (n44, 0)) 1 true 2) MH = some ([c].flatMap shcc) := zm (enc := shcc) (l := [c]) (fun _ _ => rfl) (fun k hk => zl (enc := shcc) (l := [c]) (At.new_same hnH) (fun _ _ => rfl) hk)
    refine z0l (by exact gd) (l' := [c]) hvH rfl rfl rfl (by simp) (by rw [List.length_singleton]; omega) rfl hwH (fun _ => rfl) (fun _ => rfl) (by omega) ?_
    intro v45 MI hvI e24 hkI
    have hleI := hkI.le
    have hkDI : Keep (fun i => False) MD MI := ((hkF.grow hgG).new hnH).trans hkI (fun i hi => .inr (by omega))
    have z9 := y9.keep hkDI (fun h => h)
    have z11 := y11.keep hkDI (fun h => h)
    have zp := yp.keep hkDI (fun h => h)
    have zx := yx.keep hkDI (fun h => h)
    have z12 : At MI n12 (.cells true [I b.1, I b.2] 26) := (At.new_old hnH w12).keep hkI (fun h => by have := w12.2; omega)
    have hkBI : Keep (fun i => i = pm ∨ i = pk) MB MI := hkBD.trans hkDI (fun i hi => hi.elim)
    have haf := fun M' (hg : Grow MI M') => zdb (pk := pk) (c := c) (t := b.2) ((hpl.chc hkBI).grow hg) hs hc2
    have hsb := z0q (k := c / 2) (by omega)
    (repeat' first|with_reducible intro _|refine sv ?_|refine sc ?_ ?_<;>(intro h;try exact sz h)|(with_reducible first|apply za|apply z8|apply z5);exact gd;exact rfl;exact rfl;exact haf _ (xg)|refine sg ?_ ?_<;>(intro h;first|exact sz h|refine sy h ?_)|exact sq|fail)
    rename_i MJ hgJ hleJ
    have hkDJ := hkDI.grow hgJ
    have hkBJ := hkBI.grow hgJ
    have hvJ : Vec MF.next 2 50 shcc MJ v45 (l ++ [c]) := Or.imp id (fun ⟨i, z1, z2, z3⟩ => ⟨i, z1, z2.grow hgJ, z3⟩) hvI
    have hrl := z4t hcm.2
    have hmd := hknD.lt
    have hkd := hkcD.lt
    have hih := IH MJ MF.next (l ++ [c]) (rchF s c b.2) (restN left (c / 2)) v45 hrl (by omega) ⟨hkBJ, hknD.at hkDJ.le (hkDJ.old _ hmd (fun h => h)), hkcD.at hkDJ.le (hkDJ.old _ hkd (fun h => h)), ⟨u', yf.keep hkDJ (fun h => h)⟩, ye.keep hkDJ (fun h => h), yp.keep hkDJ (fun h => h), yx.keep hkDJ (fun h => h), hvJ, fun h => by simp at h, by rw [List.length_append, List.length_singleton]; omega, zc3 hs (z2b hc2), by show 0 <= b.2 /\ b.2 <= 5000000; omega⟩
    rw [<- z9x left (c / 2)] at hih
    have q9 := (yl.keep hkDJ (fun h => h)).2
    have q10 := (y10.keep hkDJ (fun h => h)).2
    have qd := (yd.keep hkDJ (fun h => h)).2
    have hleDJ := hkDJ.le
    have hstep : stepG s e G l x left c = G (l ++ [c]) (rchF s c b.2) (restN left (c / 2)) := by unfold stepG; rw [hgf]; exact if_neg heb
    refine z04 (by exact gd) rfl rfl (show AppOk Tryz.prog (bestV nf ne np nx) _ MJ _ from hih) ?_
    rintro w MK ⟨hkK, hknK, hkcK, u2, hfK, hres⟩
    have hleKK := hkK.le
    have hlK := (yl.keep hkDJ (fun h => h)).keep hkK (by omega)
    have h10K := (y10.keep hkDJ (fun h => h)).keep hkK (by omega)
    have hdK := (yd.keep hkDJ (fun h => h)).keep hkK (by omega)
    have qm := hknK.lt
    have qk := hkcK.lt
    have qf := hfK.2
    have hkxK : Keep (fun i => i = pm ∨ i = pk ∨ i = nf ∨ i = ll) Mx MK := ((hkxD.weaken (fun i hi => by omega)).trans hkDJ (fun i hi => hi.elim)).trans hkK (fun i hi => by omega)
    have hlenx : Mx.next <= MF.next := by omega
    rcases hres with ⟨rfl, r, hr, hvK⟩ | ⟨rfl, hr⟩
    ·(repeat' first|with_reducible intro _|refine sv ?_|refine sc ?_ ?_<;>(intro h;try exact sz h)|refine sg ?_ ?_<;>(intro h;first|exact sz h|refine sy h ?_)|exact sq|fail)
     rename_i MP huP e25 aP MQ huQ e26 aQ
     have hkP : Keep (fun i => i = n10 ∨ i = ll) MK MQ := ((Keep.refl _ MK).upd huP (.inl (.inl rfl))).upd huQ (.inl (.inr rfl))
     have hkxQ : Keep KF Mx MQ := (hkxK.weaken (fun i hi => by show i = pm ∨ i = pk ∨ i = nf ∨ i = n10 ∨ i = ll; omega)).trans hkP (fun i hi => .inl (by show i = pm ∨ i = pk ∨ i = nf ∨ i = n10 ∨ i = ll; omega))
     refine ⟨hkxQ.weaken (fun i hi => .inl hi), fun i => ∃ o n f e, u2 = .slice (some (i, o)) n f e, fun i hi => ?_, .inr ⟨rfl, (h1.weaken (fun i hi => by show i = pm ∨ i = pk ∨ i = nf ∨ i = n10 ∨ i = ll; omega)).trans hkxQ (fun i hi => .inl hi), hknK.at hkP.le (hkP.old _ qm (by omega)), hkcK.at hkP.le (hkP.old _ qk (by omega)), aP.upd_ne huQ (by omega), aQ, u2, r, hfK.keep hkP (by omega), hs8 r (by rw [hstep]; exact hr), Or.imp id (fun ⟨i, z1, z2, z3⟩ => ⟨i, z1, z2.keep hkP (by omega), by omega⟩) hvK, fun i o n f e h => ⟨o, n, f, e, h⟩⟩⟩
     obtain ⟨o, n, f, e', h⟩ := hi
     rcases hvK with ⟨_, z1⟩ | ⟨i', z1, z2, z3⟩
     ·rw [z1] at h; cases h
     ·rw [z1] at h; cases h
      have := z2.2
      exact ⟨.inr (.inr (by omega)), by omega⟩
    ·(repeat' first|with_reducible intro _|refine sv ?_|refine sc ?_ ?_<;>(intro h;try exact sz h)|refine sg ?_ ?_<;>(intro h;first|exact sz h|refine sy h ?_)|exact sq|fail)
     rename_i MQ huQ e26 aQ
     have hkP : Keep (fun i => i = ll) MK MQ := (Keep.refl _ MK).upd huQ (.inl rfl)
     have hkxQ : Keep (fun i => i = pm ∨ i = pk ∨ i = nf ∨ i = ll) Mx MQ := hkxK.trans hkP (fun i hi => by omega)
     exact ⟨hkxQ.weaken (fun i hi => .inl (by show i = pm ∨ i = pk ∨ i = nf ∨ i = n10 ∨ i = ll; omega)), fun _ => False, fun i hi => hi.elim, .inl ⟨rfl, h1.trans hkxQ (fun i hi => .inl hi), hknK.at hkP.le (hkP.old _ qm (by omega)), hkcK.at hkP.le (hkP.old _ qk (by omega)), ⟨u2, hfK.keep hkP (by omega)⟩, aQ, by rw [hs7, hstep]; exact hr⟩⟩
 ·rintro i (rfl | rfl | rfl) (hi | hi | hi | hi | hi)
  all_goals first
   | omega
   |(exact absurd hi hpl.ch.ne)
   |(exact absurd hi hpl.nc)
   |(have := hpl.ch.cells.2; omega)
 ·rintro v M8 ⟨hk8, _, T8, hT8, ⟨h1, h2, h3, ⟨u', h4⟩, h5, h6⟩ | ⟨h1, h2, h3, h4, h5, u', r, h6, h7, h8, h9⟩⟩
  ·have hd8 : At M8 d .defr := bd.keep h1 (by omega)
   have c10 : At M8 n10 (.cells true [.bool false] 4) := b10.keep h1 (by omega)
   have r1 := h4.2
   have r2 := h2.lt
   have r3 := h3.lt
   have r4 := c10.2
   have r5 := hd8.2
   refine z2g h5 (by simp) fun M9 hu9 e14 a9 => ?_
   (repeat' first|with_reducible intro _|refine sv ?_|refine sc ?_ ?_<;>(intro h;try exact sz h)|refine sg ?_ ?_<;>(intro h;first|exact sz h|refine sy h ?_)|exact sq|fail)
   rename_i M10 hu10 e15 a10
   refine zt (.inr rfl) (by simp) (fun d' hd' => by obtain rfl := List.mem_singleton.1 hd'; exact xm) fun M11 hm => ?_
   have hk11 : Keep (fun i => i = ll ∨ i = n10 ∨ i = d) M8 M11 := (((Keep.refl _ M8).upd hu9 (.inl (.inl rfl))).upd hu10 (.inl (.inr (.inl rfl)))).unmark hm (fun d' hd' => by obtain rfl := List.mem_singleton.1 hd'; exact .inl (.inr (.inr rfl)))
   have d10 : At M11 n10 (.cells true [.bool false] 4) := by
    have hku : Keep (fun i => i = d) M10 M11 := (Keep.refl _ M10).unmark hm (fun d' hd' => by obtain rfl := List.mem_singleton.1 hd'; exact .inl rfl)
    exact a10.keep hku (by omega)
   have hkM : Keep (fun i => i = pm ∨ i = pk ∨ i = nf) M M11 := ((hg7.to_keep (fun i => i = pm ∨ i = pk ∨ i = nf)).trans h1 (fun i hi => (by
    rcases hi with hi | hi | hi | hi
    ·exact .inl (.inl hi)
    ·exact .inl (.inr (.inl hi))
    ·exact .inl (.inr (.inr hi))
    ·exact .inr (by omega)))).trans hk11 (fun i hi => .inr (by omega))
   exact ⟨_, .cell1 rfl (Rd1.of_at d10 rfl).1 .nil, hkM, h2.at hk11.le (hk11.old _ r2 (by omega)), h3.at hk11.le (hk11.old _ r3 (by omega)), u', h4.keep hk11 (by omega), .inr ⟨rfl, h6⟩⟩
  ·have hd8 : At M8 d .defr := bd.keep h1 (by omega)
   have r1 := h6.2
   have r2 := h2.lt
   have r3 := h3.lt
   have r4 := h4.2
   have r5 := hd8.2
   refine z1q h5 (by simp) fun M9 hu9 e14 a9 => ?_
   (repeat' first|with_reducible intro _|refine sv ?_|refine sc ?_ ?_<;>(intro h;try exact sz h)|refine sg ?_ ?_<;>(intro h;first|exact sz h|refine sy h ?_)|exact sq|fail)
   refine zt (.inr rfl) (by simp) (fun d' hd' => by obtain rfl := List.mem_singleton.1 hd'; exact xm) fun M11 hm => ?_
   have hk11 : Keep (fun i => i = ll ∨ i = d) M8 M11 := ((Keep.refl _ M8).upd hu9 (.inl (.inl rfl))).unmark hm (fun d' hd' => by obtain rfl := List.mem_singleton.1 hd'; exact .inl (.inr rfl))
   have hkM : Keep (fun i => i = pm ∨ i = pk ∨ i = nf) M M11 := ((hg7.to_keep (fun i => i = pm ∨ i = pk ∨ i = nf)).trans h1 (fun i hi => (by
    rcases hi with hi | hi | hi | hi | hi
    ·exact .inl (.inl hi)
    ·exact .inl (.inr (.inl hi))
    ·exact .inl (.inr (.inr hi))
    ·exact .inr (by omega)
    ·exact .inr (by omega)))).trans hk11 (fun i hi => .inr (by omega))
   have hfin : Vec b0 2 50 shcc M11 u' r := h8.imp id (fun ⟨i, z1, z2, z3⟩ => ⟨i, z1, z2.keep hk11 (by omega), by omega⟩)
   exact ⟨_, .cell1 rfl (Rd1.of_at (h4.keep hk11 (by omega)) rfl).1 .nil, hkM, h2.at hk11.le (hk11.old _ r2 (by omega)), h3.at hk11.le (hk11.old _ r3 (by omega)), u', h6.keep hk11 (by omega), .inl ⟨rfl, r, h7, hfin⟩⟩
theorem z4x (s : Cr) (e : Int) (f : Nat) (l : List Nat) (x : Rch) (left : Nat) (h : left ≠ 0) : nextO s e (f + 1) l x left = (shootsL s left).findSome? (stepG s e (nextO s e f) l x left) := by
 show (if left = 0 then _ else _) = _
 rw [if_neg h]
 congr 1
theorem zlg {MB : Mem} {A : CrA} {s : Cr} {pc pm pk nf ne np nx : Nat} {e : Int} (hpl : PlM MB A s pc pm pk) (hs : CrOk s) (he : -1 <= e /\ e <= 5000000) (hnf : MB.next <= nf) :
  ∀ (f : Nat) (M : Mem) (b0 : Nat) (l : List Nat) (x : Rch) (left : Nat) (v : LV), left <= f -> left < 2 ^ s.lines.length -> b0 <= M.next -> BsPre MB s pc pm pk nf ne np nx e b0 l x left v M ->
  CallOk Tryz.prog 65 [v, .agg (rchc x), I left, .ptr (some (nf, 0)), .ptr (some (ne, 0)), .ptr (some (np, 0)), .ptr (some (nx, 0))] M (BsPost s pm pk nf b0 (nextO s e f l x left) M) := by
 intro f
 induction f with
 | zero =>
  intro M b0 l x left v hf _ hb h
  obtain rfl : left = 0 := by omega
  exact z55 hpl hs he hnf h
 | succ f ih =>
  intro M b0 l x left v hf hl hb h
  by_cases h0 : left = 0
  ·subst h0
   exact z55 hpl hs he hnf h
  ·rw [z4x s e f l x left h0]
   exact za7 (nextO s e f) hpl hs he hnf (fun M' b' l' x' left' v' hlt hb' h' => ih M' b' l' x' left' v' (by omega) (by omega) hb' h') hb h0 hl h
noncomputable def allN (s : Cr) : Nat := 2 ^ s.lines.length - 1
noncomputable def endS (s : Cr) (e : Int) (c : Nat) : Int := if 0 <= TT s (allN s) c /\ (e < 0 ∨ TT s (allN s) c < e) then TT s (allN s) c else e
noncomputable def endB (s : Cr) : Int := (shootsL s (allN s)).foldl (endS s) (-1)
theorem zgy {s : Cr} (hs : CrOk s) : ∀ (l : List Nat) (e : Int), (-1 <= e /\ e <= 1048576) -> (∀ c ∈ l, c < 2 * s.lines.length) -> -1 <= l.foldl (endS s) e /\ l.foldl (endS s) e <= 1048576
 | [], e, h, _ => h
 | c :: l, e, h, hl => by
  rw [List.foldl_cons]
  refine zgy hs l _ ?_ fun d hd => hl d (List.mem_cons_of_mem _ hd)
  have hb : -1 <= TT s (allN s) c /\ TT s (allN s) c <= 1048576 := by
   have h1 : plN s (allN s) c < (tabF s).length := by rw [zd0]; exact zfp (by unfold allN; have := Nat.two_pow_pos s.lines.length; omega) (hl c (List.mem_cons_self ..))
   unfold TT
   rw [zg h1]
   exact (TbOk.rows hs _).2 _ (List.getElem_mem h1)
  unfold endS
  split
  ·exact hb
  ·exact h
set_option maxHeartbeats 16000000 in
theorem zn6 {A : CrA} {s : Cr} {M : Mem} (hM : CrM M A s) : CallOk Tryz.prog 19 [crv A s] M (fun v M' => Grow M M' /\ ((¬ CrOk s /\ v = .tup [.slice none 0 true 0, I 0, I 40]) ∨ (CrOk s /\ endB s < 0 /\ v = .tup [.slice none 0 true 0, I 0, I 4]) ∨
  (CrOk s /\ 0 <= endB s /\ ∃ u, v = .tup [u, I (endB s), I 0] /\ ∀ r, nextO s (endB s) (allN s) [] (startR s) (allN s) = some r -> Vec M.next 2 50 shcc M' u r))) := by
 refine z6 kq19 rfl ?_
 dsimp only [xq19, qm, qf, ql, qL, qi, qb, qe, qc, qa, qn, qC, qg, qS, qo, qk, qK, qq, qZ, qN, zipE, Nat.reduceAdd]
 have hc := fun M' (hg : Grow M M') => zja (hM.grow hg)
 (repeat' first|with_reducible intro _|refine sv ?_|refine sc ?_ ?_<;>(intro h;try exact sz h)|(with_reducible first|apply zn|apply z04|apply z0f);exact gd;exact rfl;exact rfl;exact hc _ (xg)|refine sg ?_ ?_<;>(intro h;first|exact sz h|refine sy h ?_)|exact sq|fail)
 rename_i n1 M1 hn1 e1 e2 n3 M2 hn3 e3 e4 w M3 hq
 obtain ⟨hg3, ⟨hno, pk, rfl⟩ | ⟨hok, pc, pm, pk, rfl, hpl, h1, h2, h3⟩⟩ := hq
 ·have hle3 := hg3.le
  (repeat' first|with_reducible intro _|refine sv ?_|refine sc ?_ ?_<;>(intro h;try exact sz h)|refine sg ?_ ?_<;>(intro h;first|exact sz h|refine sy h ?_)|exact sq|fail)
  (refine kf ?_)
  exact ⟨xg, .inl ⟨hno, rfl⟩⟩
 ·have hle3 := hg3.le
  have hpm := hpl.ch.known.lt
  have hpk := hpl.kc.lt
  have hcell := hpl.ch.cells
  have hpc := hcell.2
  have hn5 := hok.n5
  have hn1' := hok.n1
  have hp2 : 2 ^ s.lines.length <= 32 := Nat.pow_le_pow_right (n := 2) (by omega) hn5
  have hsb := z0q (k := s.lines.length) (by omega)
  have hall : shlZ 1 (s.lines.length : Int) - 1 = ((allN s : Nat) : Int) := by rw [z3e]; unfold allN; have := Nat.two_pow_pos s.lines.length; omega
  (repeat' first|with_reducible intro _|refine sv ?_|refine sc ?_ ?_<;>(intro h;try exact sz h)|refine sg ?_ ?_<;>(intro h;first|exact sz h|refine sy h ?_)|exact sq|fail)
  rename_i n5 M4 hn5' e5 e6 M5 hu5 e7 a5 n6 M6 hn6 e8 e9 M7 hu7 e10 a7
  have hg7 : Grow M3 M7 := xg
  have b5 : At M7 n5 (.cells true [.ptr (some (pc, 0)), .map (some pk)] 109) := xm
  have b3 : At M7 n3 (.cells true [I 0] 3) := xm
  have b6 : At M7 n6 (.cells true [I (allN s : Nat)] 3) := by rw [<- hall]; exact a7
  have hle7 := hg7.le
  have hn3M : n3 < M3.next := by omega
  refine zn (by exact gd) rfl rfl (show AppOk Tryz.prog _ _ M7 _ from zls (hpl.grow hg7) hok) ?_
  rintro w M8 ⟨hk8, hkn8, hkc8, iT, rfl, hiT, aT⟩
  have hle8 := hk8.le
  have c5 := b5.keep hk8 (by omega)
  have c3 := b3.keep hk8 (by omega)
  have c6 := b6.keep hk8 (by omega)
  have q1 := aT.2
  have q2 := hkn8.lt
  have q3 := hkc8.lt
  (repeat' first|with_reducible intro _|refine sv ?_|refine sc ?_ ?_<;>(intro h;try exact sz h)|refine sg ?_ ?_<;>(intro h;first|exact sz h|refine sy h ?_)|exact sq|fail)
  rename_i n7 M9 hn9 e11 e12 M10 hu10 e13 a10 M11 hu11 e14 a11
  have hk811 : Keep (fun i => i = n3) M8 M11 := xk
  refine zn (by exact gd) rfl rfl (show AppOk Tryz.prog _ _ M11 _ from z5p (pc := pc) (pk := pk) (set := ((allN s : Nat) : Int)) M11) ?_
  rintro w M12 ⟨np2, ns2, rfl, hg12, hp12, hs12, a12, b12⟩
  have hle12 := hg12.le
  have q4 := a12.2
  have q5 := b12.2
  (repeat' first|with_reducible intro _|refine sv ?_|refine sc ?_ ?_<;>(intro h;try exact sz h)|refine sg ?_ ?_<;>(intro h;first|exact sz h|refine sy h ?_)|exact sq|fail)
  apply z35
  exact rfl
  intro lb d l M13 M14 hlb hd e15 e16 hl e17 e18
  have hg14 : Grow M11 M14 := (hg12.trans hd.grow).trans hl.grow
  have hg1214 : Grow M12 M14 := hd.grow.trans hl.grow
  have hle14 := hg14.le
  have hle811 := hk811.le
  have hk814 : Keep (fun i => i = n3) M8 M14 := hk811.grow hg14
  have d5 := c5.keep hk814 (by omega)
  have d6 := c6.keep hk814 (by omega)
  have dT := aT.keep hk814 (by omega)
  have d3 : At M14 n3 (.cells true [I (-1)] 3) := a11.grow hg14
  have d7 : At M14 n7 (.cells true [.slice (some (iT, 0)) (tabF s).length true 1] 52) := At.grow hg14 (xm)
  have hkn14 := hkn8.at hk814.le (hk814.old _ q2 (by omega))
  have hkc14 := hkc8.at hk814.le (hk814.old _ q3 (by omega))
  have bd : At M14 d .defr := At.new_old hl (At.new_same hd)
  have hk314 : Keep (fun i => i = pm ∨ i = pk ∨ i = n3) M3 M14 := (((hg7.to_keep (fun i => i = pm ∨ i = pk ∨ i = n3)).trans hk8 (fun i hi => by omega))).trans hk814 (fun i hi => by omega)
  have z1 := hpl.ch.ne
  have z2 := hpl.nc
  have z3 := hpl.nm
  have hg03 : Grow M M3 := xg
  have hle03 := hg03.le
  have hg014 : Grow M M14 := Keep.to_grow' hg03 hk314 (fun i hi => by omega)
  have hC14 : At M14 pc (.cells true (chc A s pm) 128) := hcell.keep hk314 (by omega)
  have q6 := hC14.2
  have hy := z60 (A := A) (s := s) (pc := pc) (pm := pm) (pk := pk) (np := np2) (ns := ns2) (set := allN s) (M0 := M14) hC14 (a12.grow hg1214) (b12.grow hg1214) hn5 (by unfold allN; omega)
  have htl : (tabF s).length = 2 * s.lines.length * 2 ^ s.lines.length := zd0 s
  have hTb : TbOk s (tabF s) := TbOk.rows hok _
  have hN : 2 * s.lines.length * 2 ^ s.lines.length <= 10 * 32 := Nat.mul_le_mul (by omega) hp2
  refine (hy l (fun i => i = n3 ∨ i = l) (fun dn T M' => Keep (fun i => i = n3 ∨ i = l) M14 M' /\ At M' n3 (.cells true [I (dn.foldl (endS s) (-1))] 3) /\ At M' l (lb .ready none)) (fun _ _ => False) ⟨?_, ?_, fun T M M' h => h.elim, ?_⟩ ?_ ⟨Keep.refl _ _, d3, At.new_same hl⟩).mono ?_
  ·rintro i (rfl | rfl) <;> omega
  ·rintro dn T Mx My ⟨h1, h2, h3⟩ hle hg
   have hgo : ∀ i, i < M14.next -> My.get i = Mx.get i := fun i hi => hg i (.inl ⟨hi, id⟩)
   exact ⟨⟨Nat.le_trans h1.le hle, fun i hi hf => by rw [hgo i (by omega)]; exact h1.old i hi hf⟩, h2.same hle (hgo _ (by omega)), h3.same hle (hgo _ (by omega))⟩
  ·rintro dn c rest vv U T Mx hits ⟨rfl, hU⟩ hN0 hT hUd ⟨k1, k2, k3⟩
   have hcm := zo.1 (show c ∈ shootsL s (allN s) by rw [hits]; simp)
   have hc2 : c < 2 * s.lines.length := hcm.1
   have hidx : plN s (allN s) c < (tabF s).length := by rw [htl]; exact zfp (by unfold allN; have := Nat.two_pow_pos s.lines.length; omega) hc2
   have aTx := dT.keep k1 (by omega)
   have rT : Rd1 Mx iT (0 + plN s (allN s) c * 1) (I (tabF s)[plN s (allN s) c]) := (zl (enc := intz) aTx (fun _ _ => rfl) hidx).nth (j := 0) rfl
   have hTT : TT s (allN s) c = (tabF s)[plN s (allN s) c] := zg hidx
   have hub := hTb.2 _ (List.getElem_mem hidx)
   have hfold : (dn ++ [c]).foldl (endS s) (-1) = endS s (dn.foldl (endS s) (-1)) c := by rw [List.foldl_append]; rfl
   have heb := zgy hok dn (-1) (by omega) (fun y hy => (zo.1 (show y ∈ shootsL s (allN s) by rw [hits]; simp [hy])).1)
   have hle1 := k1.le
   have f5 := d5.keep k1 (by omega)
   have f6 := d6.keep k1 (by omega)
   have f7 := d7.keep k1 (by omega)
   have hgx : Grow M Mx := Keep.to_grow' hg014 k1 (fun i hi => by omega)
   have hCx : ChC Mx A s pc pm := ⟨hM.grow hgx, hC14.keep k1 (by omega)⟩
   have p1 := hCx.cells.2
   have hplc := fun M' (hk' : Keep (fun i => i = l) Mx M') => z8x (pk := pk) (set := allN s) (c := c) (ChC.mk (A := A) (hM.grow (Keep.to_grow' hgx hk' (fun i hi => by omega))) (hCx.cells.keep hk' (by omega))) hn5 (by unfold allN; omega) (by omega)
   have hend : endS s (dn.foldl (endS s) (-1)) c = if 0 <= (tabF s)[plN s (allN s) c] /\ (dn.foldl (endS s) (-1) < 0 ∨ (tabF s)[plN s (allN s) c] < dn.foldl (endS s) (-1)) then (tabF s)[plN s (allN s) c] else dn.foldl (endS s) (-1) := by unfold endS; rw [hTT]
   generalize dn.foldl (endS s) (-1) = en at *
   generalize (tabF s)[plN s (allN s) c] = tv at *
   refine z0h hlb k3 rfl ?_
   dsimp only [zipP]
   (have hrd0 := rT;repeat' first|with_reducible intro _|refine sv ?_|refine sc ?_ ?_<;>(intro h;try exact sz h)|(with_reducible first|apply za|apply z8|apply z5);exact gd;exact rfl;exact rfl;exact hplc _ (xk)|refine sg ?_ ?_<;>(intro h;first|exact sz h|refine sy h ?_)|exact sq|fail)
   all_goals first
    |(rename_i MZ huZ e30 aZ MY huY e31 aY
      have hkY : Keep (fun i => i = n3 ∨ i = l) Mx MY := xk
      refine ⟨hkY.weaken (fun i hi => .inl hi), fun _ => False, fun i hi => hi.elim, .inl ⟨rfl, k1.trans hkY (fun i hi => .inl hi), ?_, aY⟩⟩
      rw [hfold, hend, if_pos (by omega)]
      exact aZ.upd_ne huY (by omega))
    |(rename_i MY huY e31 aY
      have hkY : Keep (fun i => i = l) Mx MY := xk
      refine ⟨hkY.weaken (fun i hi => .inl (.inr hi)), fun _ => False, fun i hi => hi.elim, .inl ⟨rfl, k1.trans hkY (fun i hi => .inl (.inr hi)), ?_, aY⟩⟩
      rw [hfold, hend, if_neg (by omega)]
      exact k2.keep hkY (by omega))
  ·rintro i (rfl | rfl | rfl) (hi | hi)
   all_goals omega
  ·rintro v M15 ⟨hk15, _, T15, hT15, ⟨k1, k2, k3⟩ | h⟩
   rotate_left
   ·exact h.elim
   have heb : -1 <= endB s /\ endB s <= 1048576 := zgy hok _ (-1) (by omega) (fun y hy => (zo.1 hy).1)
   have k2 : At M15 n3 (.cells true [I (endB s)] 3) := k2
   have hle15 := k1.le
   refine z2g k3 (by simp) fun M16 hu16 e19 a16 => ?_
   have hk16 : Keep (fun i => i = n3 ∨ i = l) M14 M16 := k1.upd hu16 (.inl (.inr rfl))
   have hle16 := hk16.le
   have f3 := k2.upd_ne hu16 (show n3 ≠ l by omega)
   have f5 := d5.keep hk16 (by omega)
   have f6 := d6.keep hk16 (by omega)
   have fd := bd.keep hk16 (by omega)
   have r3 := f3.2
   have r5 := f5.2
   have r6 := f6.2
   have rd := fd.2
   have hg016 : Grow M M16 := Keep.to_grow' hg014 hk16 (fun i hi => by omega)
   have hC16 : At M16 pc (.cells true (chc A s pm) 128) := hC14.keep hk16 (by omega)
   have q7 := hC16.2
   have q8 := hkn14.lt
   have q9 := hkc14.lt
   have hkn16 := hkn14.at hk16.le (hk16.old _ q8 (by omega))
   have hkc16 := hkc14.at hk16.le (hk16.old _ q9 (by omega))
   have hP16 : PlM M16 A s pc pm pk := ⟨⟨hM.grow hg016, hC16, z1, hkn16⟩, hkc16, z2, z3⟩
   have hst := fun M' (hg : Grow M16 M') => zdd (pk := pk) (ChC.mk (hM.grow (hg016.trans hg)) (hC16.grow hg))
   by_cases hneg : endB s < 0
   ·(repeat' first|with_reducible intro _|refine sv ?_|refine sc ?_ ?_<;>(intro h;try exact sz h)|refine sg ?_ ?_<;>(intro h;first|exact sz h|refine sy h ?_)|exact sq|fail)
    rename_i M17 hu17 e20 a17
    refine zt (.inr rfl) (by simp) (fun d' hd' => by obtain rfl := List.mem_singleton.1 hd'; exact xm) fun M18 hm => ?_
    have hk17 : Keep (fun i => i = n3) M16 M17 := (Keep.refl _ _).upd hu17 (.inl rfl)
    have hk18 : Keep (fun i => i = d) M17 M18 := (Keep.refl _ M17).unmark hm (fun d' hd' => by obtain rfl := List.mem_singleton.1 hd'; exact .inl rfl)
    have f18 := a17.keep hk18 (by omega)
    exact ⟨_, .tmp rfl (.cell1 rfl (Rd1.of_at f18 rfl).1 (.tmp rfl .nil)), Keep.to_grow' (Keep.to_grow' hg016 hk17 (fun i hi => by omega)) hk18 (fun i hi => by omega), .inr (.inl ⟨hok, hneg, rfl⟩)⟩
   ·(repeat' first|with_reducible intro _|refine sv ?_|refine sc ?_ ?_<;>(intro h;try exact sz h)|(with_reducible first|apply za|apply z8|apply z5);exact gd;exact rfl;exact rfl;exact hst _ (xg)|refine sg ?_ ?_<;>(intro h;first|exact sz h|refine sy h ?_)|exact sq|fail)
    rename_i n10 M17 hn10 e20 e21 n11 M18 hn11 e22 e23 M19 hu19 e24 a19 M20 hg20 e25
    have hg1620 : Grow M16 M20 := xg
    have hle20 := hg1620.le
    have g3 := f3.grow hg1620
    have g5 := f5.grow hg1620
    have g6 := f6.grow hg1620
    have gd' := fd.grow hg1620
    have g10 : At M20 n10 (.cells true [.slice none 0 true 0] 42) := At.grow hg20 (xm)
    have g11 : At M20 n11 (.cells true [bestV n10 n3 n5 n11] 133) := At.grow hg20 (xm)
    have r10 := g10.2
    have r11 := g11.2
    have w1 := hkn16.lt
    have w2 := hkc16.lt
    have hsz : allN s < 2 ^ s.lines.length := by unfold allN; have := Nat.two_pow_pos s.lines.length; omega
    have hb := zlg hP16 hok (e := endB s) (nf := n10) (ne := n3) (np := n5) (nx := n11) (by omega) (by omega) (allN s) M20 M20.next [] (startR s) (allN s) (.slice none 0 true 0) (Nat.le_refl _) hsz (Nat.le_refl _) ⟨hg1620.to_keep _, hkn16.at hg1620.le (hg1620.old _ w1), hkc16.at hg1620.le (hg1620.old _ w2), ⟨_, g10⟩, g3, g5, g11, .inl ⟨rfl, rfl⟩, (fun _ i h => by cases h), by show 0 + allN s <= 100; omega, hok.start, ⟨Int.le_refl 0, show (0 : Int) <= 5000000 by decide⟩⟩
    refine z04 (by exact gd) rfl rfl (show AppOk Tryz.prog (bestV n10 n3 n5 n11) _ M20 _ from hb) ?_
    rintro w M21 ⟨hk21, hkn21, hkc21, u, hf21, hres⟩
    have hle21 := hk21.le
    have y3 := g3.keep hk21 (by omega)
    have y6 := g6.keep hk21 (by omega)
    have yd := gd'.keep hk21 (by omega)
    have r21 := hf21.2
    (repeat' first|with_reducible intro _|refine sv ?_|refine sc ?_ ?_<;>(intro h;try exact sz h)|refine sg ?_ ?_<;>(intro h;first|exact sz h|refine sy h ?_)|exact sq|fail)
    rename_i M22 hu22 e26 a22
    refine zt (.inr rfl) (by simp) (fun d' hd' => by obtain rfl := List.mem_singleton.1 hd'; exact xm) fun M23 hm => ?_
    have hk22 : Keep (fun i => i = n3) M21 M22 := (Keep.refl _ _).upd hu22 (.inl rfl)
    have hk23 : Keep (fun i => i = d) M22 M23 := (Keep.refl _ M22).unmark hm (fun d' hd' => by obtain rfl := List.mem_singleton.1 hd'; exact .inl rfl)
    have f23 := a22.keep hk23 (by omega)
    have hgE : Grow M M23 := Keep.to_grow' (Keep.to_grow' (Keep.to_grow' (hg016.trans hg1620) hk21 (fun i hi => by omega)) hk22 (fun i hi => by omega)) hk23 (fun i hi => by omega)
    refine ⟨_, .tmp rfl (.cell1 rfl (Rd1.of_at f23 rfl).1 (.tmp rfl .nil)), hgE, .inr (.inr ⟨hok, by omega, u, rfl, fun r hr => ?_⟩)⟩
    rcases hres with ⟨_, r', hr', hv⟩ | ⟨_, hno⟩
    ·rw [hr] at hr'
     cases hr'
     exact Or.imp id (fun ⟨i, y1, y2, y3⟩ => ⟨i, y1, (y2.keep hk22 (by omega)).keep hk23 (by omega), by omega⟩) hv
    ·rw [hr] at hno; cases hno
end Go.Proofs.YtpccafeedfpbaaaGreat.C
end
section
open PvL
set_option linter.unusedVariables false
namespace Go.Proofs.YtpccafeedfpbaaaGreat.C
theorem zi4 {s : Cr} (hs : CrOk s) : ∀ (l : List Nat) (x y : Rch), (∀ c ∈ l, c < 2 * s.lines.length) -> runE s x l = some y -> x.2 <= y.2
 | [], x, y, _, h => by cases h; exact Int.le_refl _
 | c :: l, x, y, hl, h => by
  have e : runE s x (c :: l) = match goF s x c with | none => none | some b => runE s (rchF s c b.2) l := rfl
  rw [e] at h
  cases hg : goF s x c with
  | none => rw [hg] at h; cases h
  | some b =>
   rw [hg] at h
   have h1 := zar hs (c := c) (by have := hl c (List.mem_cons_self ..); omega) hg
   have h2 := zi4 hs l _ y (fun d hd => hl d (List.mem_cons_of_mem _ hd)) h
   have h2 : b.2 <= y.2 := h2
   omega
theorem z6d {s : Cr} : ∀ (l : List Nat) (set : Nat), Cov s set l -> ∀ c ∈ l, c < 2 * s.lines.length
 | [], _, _, c, hc => by cases hc
 | a :: l, set, h, c, hc => by
  rcases List.mem_cons.1 hc with rfl | hc
  ·exact h.1
  ·exact z6d l _ h.2.2 c hc
theorem zco {s : Cr} {e : Int} : ∀ (f : Nat) (l : List Nat) (x : Rch) (left : Nat) (r : List Nat), nextO s e f l x left = some r -> ∃ r' y, r = l ++ r' /\ Cov s left r' /\ runE s x r' = some y /\ y.2 = e := by
 intro f
 have h0 : ∀ (l : List Nat) (x : Rch) (r : List Nat), (if x.2 = e then some l else none) = some r -> ∃ r' y, r = l ++ r' /\ Cov s 0 r' /\ runE s x r' = some y /\ y.2 = e := fun l x r h => by
  split at h
  ·cases h
   exact ⟨[], x, (List.append_nil _).symm, rfl, rfl, by assumption⟩
  ·cases h
 induction f with
 | zero =>
  intro l x left r h
  unfold nextO at h
  split at h
  ·rename_i hl; subst hl; exact h0 l x r h
  ·cases h
 | succ f ih =>
  intro l x left r h
  by_cases hl : left = 0
  ·subst hl
   have e1 : nextO s e (f + 1) l x 0 = if x.2 = e then some l else none := rfl
   rw [e1] at h
   exact h0 l x r h
  ·rw [z4x s e f l x left hl] at h
   obtain ⟨c, hc, h⟩ := z1e h
   unfold stepG at h
   cases hg : goF s x c with
   | none => rw [hg] at h; cases h
   | some b =>
    rw [hg] at h
    dsimp only at h
    split at h
    ·cases h
    ·obtain ⟨r', y, h1, h2, h3, h4⟩ := ih _ _ _ _ h
     have hm := zo.1 hc
     refine ⟨c :: r', y, by rw [h1, List.append_assoc]; rfl, ⟨hm.1, hm.2, h2⟩, ?_, h4⟩
     show (match goF s x c with | none => none | some b => runE s (rchF s c b.2) r') = _
     rw [hg]; exact h3
theorem z7l {s : Cr} (hs : CrOk s) {e : Int} : ∀ (f : Nat) (l : List Nat) (x : Rch) (left : Nat) (r : List Nat) (y : Rch), left <= f -> Cov s left r -> runE s x r = some y -> y.2 = e -> nextO s e f l x left ≠ none := by
 intro f
 have h0 : ∀ (l : List Nat) (x : Rch) (r : List Nat) (y : Rch), Cov s 0 r -> runE s x r = some y -> y.2 = e -> (if x.2 = e then some l else none) ≠ none := fun l x r y h1 h2 h3 => by
  cases r with
  | nil => cases h2; rw [if_pos h3]; exact fun h => by cases h
  | cons c r => have := h1.2.1; rw [Nat.zero_testBit] at this; cases this
 induction f with
 | zero =>
  intro l x left r y hf h1 h2 h3
  obtain rfl : left = 0 := by omega
  exact h0 l x r y h1 h2 h3
 | succ f ih =>
  intro l x left r y hf h1 h2 h3
  by_cases hl : left = 0
  ·subst hl
   exact h0 l x r y h1 h2 h3
  ·rw [z4x s e f l x left hl]
   cases r with
   | nil => exact absurd h1 hl
   | cons c r =>
    intro h
    have h4 := List.findSome?_eq_none_iff.1 h c (zo.2 ⟨h1.1, h1.2.1⟩)
    have e1 : runE s x (c :: r) = match goF s x c with | none => none | some b => runE s (rchF s c b.2) r := rfl
    rw [e1] at h2
    unfold stepG at h4
    cases hg : goF s x c with
    | none => rw [hg] at h2; cases h2
    | some b =>
     rw [hg] at h2 h4
     dsimp only at h2 h4
     have hle := zi4 hs r _ y (z6d r _ h1.2.2) h2
     have hle : b.2 <= y.2 := hle
     rw [if_neg (by omega)] at h4
     have := z4t h1.2.1
     exact ih _ _ _ r y (by omega) h1.2.2 h2 h3 h4
theorem z96 {s : Cr} : ∀ (l : List Nat) (e : Int), -1 <= e -> (l.foldl (endS s) e = e ∨ ∃ c ∈ l, l.foldl (endS s) e = TT s (allN s) c /\ 0 <= TT s (allN s) c) /\ (0 <= e -> 0 <= l.foldl (endS s) e /\ l.foldl (endS s) e <= e) /\ ∀ c ∈ l, 0 <= TT s (allN s) c -> 0 <= l.foldl (endS s) e /\ l.foldl (endS s) e <= TT s (allN s) c
 | [], e, _ => ⟨.inl rfl, fun h => ⟨h, Int.le_refl _⟩, fun c hc => by cases hc⟩
 | a :: l, e, he => by
  rw [List.foldl_cons]
  have hst : (endS s e a = e /\ (0 <= TT s (allN s) a -> 0 <= e /\ e <= TT s (allN s) a)) ∨ (endS s e a = TT s (allN s) a /\ 0 <= TT s (allN s) a /\ (0 <= e -> TT s (allN s) a <= e)) := by
   unfold endS
   split
   ·rename_i h; exact .inr ⟨rfl, h.1, fun _ => by omega⟩
   ·rename_i h; exact .inl ⟨rfl, fun h' => by omega⟩
  obtain ⟨h1, h2, h3⟩ := z96 l (endS s e a) (by rcases hst with h | h <;> omega)
  refine ⟨?_, fun h => ?_, fun c hc h => ?_⟩
  ·rcases h1 with h1 | ⟨c, hc, h1⟩
   ·rcases hst with h | h
    ·exact .inl (by rw [h1, h.1])
    ·exact .inr ⟨a, List.mem_cons_self .., by rw [h1, h.1], h.2.1⟩
   ·exact .inr ⟨c, List.mem_cons_of_mem _ hc, h1⟩
  ·have := h2 (by rcases hst with h | h <;> omega)
   rcases hst with h | h <;> omega
  ·rcases List.mem_cons.1 hc with rfl | hc
   ·have := h2 (by rcases hst with h' | h' <;> omega)
    rcases hst with h' | h' <;> omega
   ·exact h3 c hc h
theorem zd4 (s : Cr) : allN s < 2 ^ s.lines.length := by unfold allN; have := Nat.two_pow_pos s.lines.length; omega
theorem zer {s : Cr} (hs : CrOk s) {l : List Nat} {y : Rch} (h0 : l ≠ []) (h1 : Cov s (allN s) l) (h2 : runE s (startR s) l = some y) : 0 <= endB s /\ endB s <= y.2 := by
 rcases z4w l with rfl | ⟨l', c, rfl⟩
 ·exact absurd rfl h0
 ·obtain ⟨_, h3, h4⟩ := zd2 hs _ l' (allN s) c y rfl (zd4 s) h1 h2
  have hc := z6d _ _ h1 c (by simp)
  have h5 := (z96 (s := s) (shootsL s (allN s)) (-1) (by omega)).2.2 c (zo.2 ⟨hc, by
   unfold allN; exact zbt (by omega)⟩) h3
  unfold endB
  omega
theorem zeq {s : Cr} (hs : CrOk s) (h : 0 <= endB s) : ∃ r y, nextO s (endB s) (allN s) [] (startR s) (allN s) = some r /\ Cov s (allN s) r /\ runE s (startR s) r = some y /\ y.2 = endB s := by
 rcases (z96 (s := s) (shootsL s (allN s)) (-1) (by omega)).1 with h1 | ⟨c, hc, h1, h2⟩
 ·unfold endB at h; omega
 ·obtain ⟨l, h3, h4⟩ := zn1 hs (allN s) (allN s) c (Nat.le_refl _) (zd4 s) (zo.1 hc).1 (by omega)
  have h5 : (rchF s c (TT s (allN s) c)).2 = endB s := by unfold endB; rw [h1]; rfl
  cases hn : nextO s (endB s) (allN s) [] (startR s) (allN s) with
  | none => exact absurd hn (z7l hs _ _ _ _ _ _ (Nat.le_refl _) h3 h4 h5)
  | some r =>
   obtain ⟨r', y, g1, g2, g3, g4⟩ := zco _ _ _ _ _ hn
   obtain rfl : r = r' := g1
   exact ⟨r, y, rfl, g2, g3, g4⟩
theorem zag {s : Cr} (hn : s.lines.length <= 5) : ∀ (l : List Nat) (set : Nat), set < 1048576 -> Cov s set l -> (l.map (· / 2)).Nodup /\ ∀ k, set.testBit k = true ↔ k ∈ l.map (· / 2)
 | [], set, _, h => by
  obtain rfl : set = 0 := h
  exact ⟨List.nodup_nil, fun k => ⟨fun h => (by rw [Nat.zero_testBit] at h; cases h), fun h => (by cases h)⟩⟩
 | c :: l, set, hs, h => by
  obtain ⟨h1, h2, h3⟩ := h
  have hle := zcv (a := set) (k := c / 2)
  obtain ⟨g1, g2⟩ := zag hn l _ (by omega) h3
  have hb := fun j => z0u (set := set) (k := c / 2) (j := j) hs (by omega)
  refine ⟨List.nodup_cons.2 ⟨fun hm => ?_, g1⟩, fun k => ?_⟩
  ·have := (g2 _).2 hm
   rw [hb] at this
   simp at this
  ·rw [List.map_cons, List.mem_cons, <- g2 k, hb, Bool.and_eq_true]
   constructor
   ·intro h
    by_cases hk : c / 2 = k
    ·exact .inl hk.symm
    ·exact .inr ⟨h, by rw [decide_eq_false hk]; rfl⟩
   ·rintro (rfl | h)
    ·exact h2
    ·exact h.1
def unN (c : Nat) : Int × Int := ((c / 2 : Nat), (c % 2 : Nat))
theorem zpm (c : Nat) : shN (unN c) = c := by unfold shN unN; dsimp only; omega
theorem zmh {s : Cr} (hs : CrOk s) {l : List Nat} (h : Cov s (allN s) l) : OrdOk s (l.map unN) /\ l.length = s.lines.length /\ (l.map unN).map shN = l := by
 have hn5 := hs.n5
 have hp2 : 2 ^ s.lines.length <= 32 := Nat.pow_le_pow_right (n := 2) (by omega) hn5
 obtain ⟨h1, h2⟩ := zag hn5 l _ (by unfold allN; omega) h
 refine ⟨⟨fun x hx => ?_, ?_⟩, ?_, ?_⟩
 ·obtain ⟨c, hc, rfl⟩ := List.mem_map.1 hx
  have := z6d l _ h c hc
  unfold rightP unN
  dsimp only
  omega
 ·rw [List.map_map]
  have e : ((fun x : Int × Int => x.1) ∘ unN) = (fun k : Nat => (k : Int)) ∘ (fun c : Nat => c / 2) := rfl
  rw [e, <- List.map_map]
  exact List.pairwise_map.2 (List.Pairwise.imp (fun {a b} hab => by omega) h1)
 ·have g1 := z1h s.lines.length _ h1 (fun k hk => zn5 (zd4 s) ((h2 k).2 hk))
  have g2 : s.lines.length <= l.length := by
   have hsub : List.range s.lines.length ⊆ l.map (· / 2) := fun k hk => (h2 k).1 (by unfold allN; exact zbt (List.mem_range.1 hk))
   have := (List.nodup_range (n := s.lines.length)).length_le_of_subset hsub
   rw [List.length_range, List.length_map] at this
   exact this
  rw [List.length_map] at g1
  omega
 ·rw [List.map_map]
  have : (shN ∘ unN) = id := funext zpm
  rw [this, List.map_id]
end Go.Proofs.YtpccafeedfpbaaaGreat.C
end
