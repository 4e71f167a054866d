/-
  Part of the proof that what the interpreter of YtkkcpebemcbomaaGreatPvL yields, the model's machine comes to. No condition.
-/
import Derived.Test.YtkkcpebemcbomaaGreatPvS10
namespace PvL
open Go

section
variable {P : Program} {rec : Task → Option Out} {ops : Array Oper} {D : Nat → DS} {Pt Pt' : Prot} {ρ0 ρ : Rho} {df : List Deferred} {L : Array Bool} {q : Nat} {U : Tm} {w : World} {a : Act}
  {j : Nat} {o : Oper}

theorem Inv.behind (h : Tr P rec ops D) (hi : Inv ops D Pt ρ0 df L q U Pt' ρ w a) (ho : ops[j]? = some o) (hj : L.getD j false = false) (hk : (isAnchor o.op || isNew o.op) = true) : q ≤ j := by
  rcases Nat.lt_or_ge j q with hl | hl
  · rcases hi.hq with e | ⟨o1, ho1, ha1, hp⟩
    · omega
    · have hs : L.getD (q - 1) false = true := (hi.anch (q - 1) o1 ho1 ha1).2 (by omega)
      by_cases e : j = q - 1
      · subst e; rw [hj] at hs; cases hs
      · have := hi.deps ho1 (hi.down _ _ ho1 hs) (h.ok.anch (q - 1) o1 ho1 ha1 j o (by omega) ho hk)
        rw [hj] at this; cases this
  · exact hl
theorem Inv.turnA (h : Tr P rec ops D) (hi : Inv ops D Pt ρ0 df L q U Pt' ρ w a) (ho : ops[j]? = some o) (hj : L.getD j false = false) (hr : ∀ e ∈ o.after, Region.binds .any e = true → L.getD e.on false = true) (ha : isAnchor o.op = true) :
    q ≤ j ∧ (∀ i oi, ops[i]? = some oi → isAnchor oi.op = true → ((i = j ∨ L.getD i false = true) ↔ i < j + 1)) ∧ ∃ Pt'', Rel Pt'' ρ (D j).m w ∧ Pt.Le Pt'' ∧ News ops D L j Pt Pt'' ρ := by
  have hjn := lt_of_at ho
  have hqj := hi.behind h ho hj (by rw [ha]; rfl)
  have hall : ∀ i oi, i < j → ops[i]? = some oi → (isAnchor oi.op || isNew oi.op) = true → L.getD i false = true := fun i oi hl hoi hk => hi.deps ho hr (h.ok.anch j o ho ha i oi hl hoi hk)
  refine ⟨hqj, fun i oi hoi hai => ⟨fun hor => ?_, fun hl => ?_⟩, ?_⟩
  · rcases hor with e | hs
    · omega
    · have := (hi.anch i oi hoi hai).1 hs; omega
  · by_cases e : i = j
    · exact .inl e
    · exact .inr (hall i oi (by omega) hoi (by rw [hai]; rfl))
  · have := hi.adopt h (j - q) (by omega) fun i oi h1 h2 hoi => ⟨fun hk => hall i oi (by omega) hoi (by rw [hk, Bool.or_true]), by
      cases hai : isAnchor oi.op with
      | false => rfl
      | true =>
        have := (hi.anch i oi hoi hai).1 (hall i oi (by omega) hoi (by rw [hai]; rfl))
        omega⟩
    rw [show q + (j - q) = j by omega] at this
    exact this

theorem Mem.eta (m : Mem) : (⟨m.next, m.tr⟩ : Mem) = m := by cases m; rfl
theorem push_inj {m : Mem} {lb lb' : LB} (h : m.push lb = m.push lb') : lb = lb' := by
  have h1 : (m.push lb).get m.next = some lb := by rw [Mem.get_push, if_pos rfl]
  rw [h, Mem.get_push, if_pos rfl] at h1
  exact (Option.some.inj h1).symm

theorem Inv.step (hrec : RecSim P rec) (hcall : ∀ f as m1 v m2, rec (.call f as m1) = some (.call v m2) → ∃ fn, fnOf P f = some fn) (h : Tr P rec ops D) (hi : Inv ops D Pt ρ0 df L q U Pt' ρ w a)
    (ho : ops[j]? = some o) (hj : L.getD j false = false) (hr : ∀ e ∈ o.after, Region.binds .any e = true → L.getD e.on false = true) (b : Frame) (rest : List Nat) (k : List Item) (cs : List Frame) :
    ∃ q' U' Pt'' ρ' w' a', Inv ops D Pt ρ0 df (L.setIfInBounds j true) q' U' Pt'' ρ' w' a' ∧
      Steps P (lone (b.atR a (.inRegion ops (j :: rest) :: k)) cs w) (lone (b.atR a' (.inRegion ops rest :: k)) cs w') := by
  have hjn := lt_of_at ho
  have hjL : j < L.size := by rw [hi.sizeL]; exact hjn
  have hlook : ∀ t ∈ looks ops.toList o, (D j).T.get t = U.get t := fun t ht => hi.look h ho hj hr ht
  have hsz : U.size = (D j).T.size := by rw [hi.sz, h.size j (by omega)]
  have hwant : ∀ x, wanted ops.toList (D j).T o.guard = some x → Region.wanted o (yielded ops a.tmps) = x := fun x hx => wanted_sim (by rw [← wanted_congr hlook]; exact hx) hi.hT
  have hanch0 : isAnchor o.op = false → ∀ i oi, ops[i]? = some oi → isAnchor oi.op = true → ((i = j ∨ L.getD i false = true) ↔ i < q) := fun hna i oi hoi hai => by
    rw [← hi.anch i oi hoi hai]
    constructor
    · rintro (e | hs)
      · subst e; rw [ho] at hoi; cases hoi; rw [hna] at hai; cases hai
      · exact hs
    · exact .inr
  have hoff : ∀ {T' : Tm}, (D j).T.put o.dst lundef = some T' → ∃ U', U.put o.dst lundef = some U' ∧ Puts U U' o.dst ∧ ∀ t, o.dst = some t → U'.get t = T'.get t := fun hp => by
    obtain ⟨U', hu⟩ := Tm.put_other hp hsz lundef
    exact ⟨U', hu, ⟨(Tm.put_eq hu).1, (Tm.put_eq hu).2.2⟩, fun t e => by rw [(Tm.put_eq hu).2.1 t e, (Tm.put_eq hp).2.1 t e]⟩
  have hskip : Region.wanted o (yielded ops a.tmps) = false → Steps P (lone (b.atR a (.inRegion ops (j :: rest) :: k)) cs w) (lone (b.atR (a.put o.dst undef) (.inRegion ops rest :: k)) cs w) := fun hw => by
    have := stepR_op_skip (P := P) (b := b) (a := a) (k := k) (cs := cs) (w := w) (ops := ops) (i := j) (rest := rest) (by rw [ho]; exact hw)
    rw [ho] at this
    exact .one this
  have hfr := hi.fresh j hjn hj
  have hst := h.step j o ho
  generalize hD' : D (j + 1) = s' at hst
  cases hst with
  | mover hw hop hc =>
    rename_i T' m'
    have hna : isAnchor o.op = false := by simp [isAnchor, hc]
    have hnn : isNew o.op = false := by simp [isNew, hc]
    obtain ⟨v, h1, hp, rfl⟩ := mv_step hc hop
    -- the same value at the memory of now
    have key : ∃ v', op1 P o.op (D j).T (D q).m = some (.val v' (D q).m) ∧ ∀ t, o.dst = some t → v' = T'.get t := by
      obtain ⟨X, hX, hpure⟩ := op1_mv (P := P) (T := (D j).T) o.op hc
      have hXj : X (D j).m = some v := by
        rw [hX] at h1
        obtain ⟨v2, e, h2⟩ := ob_eq.1 h1
        cases h2; exact e
      cases hrd : readsMem o.op with
      | false =>
        refine ⟨v, ?_, fun t e => ((Tm.put_eq hp).2.1 t e).symm⟩
        rw [hX, hpure hrd _ (D j).m, hXj]; rfl
      | true =>
        have hmem : ({ op := o.op, T := (D j).T, v := dstV T' o.dst, lo := anchorsIn ((PvL.deps ops).getD j 0) ops.toList 0, hi := anchorsFree j ops.toList (PvL.deps ops) } : Pend) ∈ (D (j + 1)).ps := by
          rw [hD', hrd]; exact List.mem_cons_self
        have hd0 : (PvL.deps ops).length = 0 + ops.toList.length := by
          unfold PvL.deps
          obtain ⟨_, h2, _⟩ := fold_push (F := fun acc o => o.after.foldl (init := 0) fun s e => if Region.binds .any e then s ||| 2 ^ e.on ||| acc.getD e.on 0 else s) ops.toList #[]
          unfold Region.before
          rw [← Array.foldl_toList]
          simpa using h2
        have hph := h.looked hi.hq hi.qn hjn hmem (by
          rw [h.cnt q hi.qn]
          show anchorsIn _ _ _ ≤ _
          rw [anchorsIn_eq]
          refine acnt_mono _ _ fun i oi hoi hai hb => ?_
          rw [Nat.zero_add] at hb ⊢
          rw [Nat.blt_eq]
          exact (hi.anch i oi (by simpa using hoi) hai).1 (hi.deps ho hr hb)) (by
          rw [h.cnt q hi.qn]
          show _ ≤ anchorsFree j ops.toList (PvL.deps ops)
          have := anchorsFree_eq (m := j) (ds := PvL.deps ops) ops.toList 0 hd0
          rw [List.drop_zero] at this
          rw [this]
          refine acnt_mono _ _ fun i oi hoi hai hb => ?_
          rw [Nat.zero_add] at hb ⊢
          rw [Nat.blt_eq] at hb
          have hoi : ops[i]? = some oi := by simpa using hoi
          have hs := (hi.anch i oi hoi hai).2 hb
          cases ht : Nat.testBit ((PvL.deps ops).getD i 0) j with
          | false => rfl
          | true =>
            have := hi.deps hoi (hi.down i oi hoi hs) ht
            rw [hj] at this; cases this)
        unfold pendHere at hph
        have hph : (match op1 P o.op (D j).T (D q).m with | some (.val v _) => lvEq v (dstV T' o.dst) | _ => false) = true := hph
        rw [hX] at hph ⊢
        cases hx : X (D q).m with
        | none => rw [hx] at hph; cases hph
        | some v' =>
          rw [hx] at hph
          have hph : lvEq v' (dstV T' o.dst) = true := hph
          refine ⟨v', rfl, fun t e => ?_⟩
          rw [lvEq_sound.1 _ _ hph, e]; rfl
    obtain ⟨v', hop', hv'⟩ := key
    rw [op_congr _ hlook] at hop'
    obtain ⟨U', hu⟩ := Tm.put_other hp hsz v'
    obtain ⟨ρ', v'', w', hs, hT', hrel', hsteps⟩ := opStep_sim h.mono hrec ho (.val hop' hu) hcall (b := b) rest k cs (hwant true hw) hi.hT hi.rel (fun i h1 h2 => by omega)
    refine ⟨q, U', Pt', ρ', w', _, ?_, hsteps⟩
    refine hi.fin h ho hr ⟨(Tm.put_eq hu).1, (Tm.put_eq hu).2.2⟩ (fun t e => ?_) (Same.any hs _ _) hi.qn hi.hq (hanch0 hna) hT' (by rw [put_defers]; exact hi.hd) hrel' hi.le
      (News.keep hjL ho hi.news hs.1 fun lb hk => by rw [hnn] at hk; cases hk) (Dist.keep hjL ho hi.news hi.dist (Nat.le_refl _) hs.1 fun lb hk => by rw [hnn] at hk; cases hk)
    rw [(Tm.put_eq hu).2.1 t e, hD']; exact hv' t e
  | new hw hop hc =>
    rename_i T' m'
    have hna : isAnchor o.op = false := by simp [isAnchor, hc]
    have hnn : isNew o.op = true := by simp [isNew, hc]
    have hqj := hi.behind h ho hj (by rw [hnn, Bool.or_true])
    obtain ⟨v, lb, hp, rfl, hro, hM⟩ := new_step hc hop
    have hnx : (D q).m.next ≤ (D j).m.next := by
      have := h.next (j - q) q (by omega)
      rw [show q + (j - q) = j by omega] at this; exact this
    have hop' := hM ⟨(D j).m.next, (D q).m.tr⟩ rfl
    rw [op_congr _ hlook] at hop'
    obtain ⟨U', hu⟩ := Tm.put_other hp hsz v
    have hfr' : Fresh ρ (D j).m.next ((D j).m.next + 1) := by rw [hD'] at hfr; exact hfr
    obtain ⟨ρ', v'', w', hs, hT', hrel', hsteps⟩ := opStep_sim h.mono hrec ho (.val hop' hu) hcall (b := b) rest k cs (hwant true hw) hi.hT (hi.rel.bump hnx) hfr'
    obtain ⟨bb, s, c, ob, k1, k2, k3, k4⟩ := Rel.out (M := ⟨(D j).m.next, (D q).m.tr⟩) (n := (D q).m.next) hnx (fun i lb hg => (hi.rel.live i lb hg).1) hrel' hro
    rw [Mem.eta] at k4
    have k1 : ρ' (D j).m.next = some (bb, s, c) := k1
    have hbb : Pt bb = none := by
      cases hp : Pt bb with
      | none => rfl
      | some o' => rw [hi.le.1 bb o' hp] at k3; cases k3
    refine ⟨q, U', Pt'.hide bb ob, ρ', w', _, ?_, hsteps⟩
    have hle' : Pt.Le (Pt'.hide bb ob) := ⟨fun x o' hx => by
      show (if x = bb then some ob else Pt' x) = some o'
      have hne : x ≠ bb := fun e => by rw [e, hbb] at hx; cases hx
      rw [if_neg hne]; exact hi.le.1 x o' hx, hi.le.2⟩
    have hold : ∀ i oi lb', ops[i]? = some oi → (L.setIfInBounds j true).getD i false = true → i ≠ j → q ≤ i → isNew oi.op = true → (D (i + 1)).m = (D i).m.push lb' →
        ∃ b' s' c' ob', ρ' (D i).m.next = some (b', s', c') ∧ BR ρ' lb' ob' s' c' ∧ Pt' b' = some ob' ∧ Pt b' = none ∧ b' ≠ bb := fun i oi lb' hoi hl hne hqi hk e => by
      rw [getD_set hjL, if_neg hne] at hl
      obtain ⟨b', s', c', ob', l1, l2, l3, l4⟩ := hi.news i oi lb' hoi hl hqi hk e
      exact ⟨b', s', c', ob', hs.1 _ _ l1, l2.mono hs.1, l3, l4, fun e => by rw [e, k3] at l3; cases l3⟩
    refine hi.fin h ho hr ⟨(Tm.put_eq hu).1, (Tm.put_eq hu).2.2⟩ (fun t e => ?_) (by rw [hD']; exact hs) hi.qn hi.hq (hanch0 hna) hT' (by rw [put_defers]; exact hi.hd) k4 hle' ?_ ?_
    · rw [(Tm.put_eq hu).2.1 t e, hD']; exact ((Tm.put_eq hp).2.1 t e).symm
    · intro i oi lb' hoi hl hqi hk e
      by_cases ei : i = j
      · subst ei
        rw [hD'] at e
        have e : (D i).m.push lb = (D i).m.push lb' := e
        cases push_inj e
        refine ⟨bb, s, c, ob, k1, k2, ?_, hbb⟩
        show (if bb = bb then some ob else Pt' bb) = some ob
        rw [if_pos rfl]
      · obtain ⟨b', s', c', ob', l1, l2, l3, l4, l5⟩ := hold i oi lb' hoi hl ei hqi hk e
        refine ⟨b', s', c', ob', l1, l2, ?_, l4⟩
        show (if b' = bb then some ob else Pt' b') = some ob'
        rw [if_neg l5]; exact l3
    · intro i i' oi oi' lb1 lb2 x x' hoi hoi' hl hl' hqi hqi' hk hk' e e' hne hx hx'
      by_cases ei : i = j
      · by_cases ei' : i' = j
        · omega
        · obtain ⟨b', s', c', ob', l1, _, _, _, l5⟩ := hold i' oi' lb2 hoi' hl' ei' hqi' hk' e'
          rw [ei, k1] at hx; cases hx
          rw [l1] at hx'; cases hx'
          exact fun e => l5 e.symm
      · obtain ⟨b', s', c', ob', l1, _, _, _, l5⟩ := hold i oi lb1 hoi hl ei hqi hk e
        by_cases ei' : i' = j
        · rw [ei', k1] at hx'; cases hx'
          rw [l1] at hx; cases hx
          exact l5
        · rw [getD_set hjL, if_neg ei] at hl
          rw [getD_set hjL, if_neg ei'] at hl'
          obtain ⟨b1, s1, c1, ob1, m1, _⟩ := hi.news i oi lb1 hoi hl hqi hk e
          obtain ⟨b2, s2, c2, ob2, m2, _⟩ := hi.news i' oi' lb2 hoi' hl' hqi' hk' e'
          rw [hs.1 _ _ m1] at hx
          rw [hs.1 _ _ m2] at hx'
          cases hx; cases hx'
          exact hi.dist i i' oi oi' lb1 lb2 _ _ hoi hoi' hl hl' hqi hqi' hk hk' e e' hne m1 m2
  | anchor hw hop hc =>
    rename_i T' m'
    have ha : isAnchor o.op = true := by simp [isAnchor, hc]
    have hnn : isNew o.op = false := by simp [isNew, hc]
    obtain ⟨hqj, hanch, Pt2, hr2, hle2, hnews2⟩ := hi.turnA h ho hj hr ha
    obtain ⟨U', hstep, hputs, hval⟩ := hop.congr (op_congr _ hlook) hsz
    rw [hD'] at hfr
    obtain ⟨ρ', v'', w', hs, hT', hrel', hsteps⟩ := opStep_sim h.mono hrec ho hstep hcall (b := b) rest k cs (hwant true hw) hi.hT hr2 hfr
    have hnews3 : News ops D L (j + 1) Pt Pt2 ρ := fun i oi lb g1 g2 g3 => hnews2 i oi lb g1 g2 (by omega)
    refine ⟨j + 1, U', Pt2, ρ', w', _, ?_, hsteps⟩
    exact hi.fin h ho hr hputs (fun t e => by rw [hval t e, hD']) (by rw [hD']; exact hs) (by omega) (.inr ⟨o, ho, ha, by omega⟩) hanch hT' (by rw [put_defers]; exact hi.hd) (by rw [hD']; exact hrel') hle2
      (News.keep hjL ho hnews3 hs.1 fun lb hk => by rw [hnn] at hk; cases hk) (Dist.keep hjL ho hnews3 hi.dist (by omega) hs.1 fun lb hk => by rw [hnn] at hk; cases hk)
  | offA hw hop hc =>
    rename_i T'
    have ha : isAnchor o.op = true := by simp [isAnchor, hc]
    have hnn : isNew o.op = false := by simp [isNew, hc]
    obtain ⟨hqj, hanch, Pt2, hr2, hle2, hnews2⟩ := hi.turnA h ho hj hr ha
    obtain ⟨U', hu, hputs, hval⟩ := hoff hop
    have hnews3 : News ops D L (j + 1) Pt Pt2 ρ := fun i oi lb g1 g2 g3 => hnews2 i oi lb g1 g2 (by omega)
    refine ⟨j + 1, U', Pt2, ρ, w, _, ?_, hskip (hwant false hw)⟩
    exact hi.fin h ho hr hputs (fun t e => by rw [hval t e, hD']) (Same.refl _ _ _) (by omega) (.inr ⟨o, ho, ha, by omega⟩) hanch (hi.hT.put hu (.tup .nil)) (by rw [put_defers]; exact hi.hd) (by rw [hD']; exact hr2) hle2
      (News.keep hjL ho hnews3 (RLe.refl _) fun lb hk => by rw [hnn] at hk; cases hk) (Dist.keep hjL ho hnews3 hi.dist (by omega) (RLe.refl _) fun lb hk => by rw [hnn] at hk; cases hk)
  | off hw hop hc =>
    rename_i T'
    have hna : isAnchor o.op = false := by
      unfold isAnchor
      cases hk : cls o.op <;> first | rfl | exact absurd hk hc
    obtain ⟨U', hu, hputs, hval⟩ := hoff hop
    have hno : ∀ lb, isNew o.op = true → q ≤ j → (D (j + 1)).m ≠ (D j).m.push lb := fun lb _ _ e => by
      rw [hD'] at e
      have : (D j).m.next = (D j).m.next + 1 := congrArg Mem.next (show (D j).m = (D j).m.push lb from e)
      omega
    refine ⟨q, U', Pt', ρ, w, _, ?_, hskip (hwant false hw)⟩
    exact hi.fin h ho hr hputs (fun t e => by rw [hval t e, hD']) (Same.refl _ _ _) hi.qn hi.hq (hanch0 hna) (hi.hT.put hu (.tup .nil)) (by rw [put_defers]; exact hi.hd) hi.rel hi.le
      (News.keep hjL ho hi.news (RLe.refl _) hno) (Dist.keep hjL ho hi.news hi.dist (Nat.le_refl _) (RLe.refl _) hno)
end
end PvL
