/-
  Part of the proof that what the interpreter of YtkkcpebemcbomaaGreatPvL yields, the model's machine comes to. No condition.
-/
import Derived.Test.YtkkcpebemcbomaaGreatPvS6
namespace PvL
open Go

section congr
variable {P : Program} {T U : Tm}
theorem ev_congr {x : Operand} (h : ∀ t, x = .tmp t → T.get t = U.get t) : ev T x = ev U x := by
  cases x with
  | tmp t => show evT T t = evT U t; rw [evT_eq, evT_eq, h t rfl]
  | _ => rfl
theorem evs_congr : ∀ {l : List Operand}, (∀ x ∈ l, ev T x = ev U x) → evs T l = evs U l
  | [], _ => rfl
  | x :: xs, h => by
    show ob (ev T x) _ = ob (ev U x) _
    rw [h x List.mem_cons_self, evs_congr fun y hy => h y (List.mem_cons_of_mem _ hy)]
theorem evParts_congr : ∀ {l : List (Nat × Operand)}, (∀ x ∈ l, ev T x.2 = ev U x.2) → evParts T l = evParts U l
  | [], _ => rfl
  | (i, x) :: xs, h => by
    show ob (ev T x) _ = ob (ev U x) _
    rw [h (i, x) List.mem_cons_self, evParts_congr fun y hy => h y (List.mem_cons_of_mem _ hy)]
theorem evOpt_congr {x : Option Operand} (h : ∀ y, x = some y → ev T y = ev U y) : evOpt T x = evOpt U x := by
  cases x with
  | none => rfl
  | some y => show ob (ev T y) _ = ob (ev U y) _; rw [h y rfl]

theorem op1_congr (o : Op) (m : Mem) (h0 : ∀ t, Operand.tmp t ∈ o.operands → T.get t = U.get t) : op1 P o T m = op1 P o U m := by
  have h : ∀ x ∈ o.operands, ev T x = ev U x := fun x hx => ev_congr fun t e => h0 t (e ▸ hx)
  clear h0
  cases o <;> simp only [Op.operands] at h
  case move x => show oMove x T m = oMove x U m; unfold oMove; rw [h x (by simp)]
  case assign x => show oMove x T m = oMove x U m; unfold oMove; rw [h x (by simp)]
  case pick c a b => show oPick c a b T m = oPick c a b U m; unfold oPick; rw [h c (by simp), h a (by simp), h b (by simp)]
  case alloc t => rfl
  case box t x => show oBox t x T m = oBox t x U m; unfold oBox; rw [h x (by simp)]
  case build t ps => show oBuild P t ps T m = oBuild P t ps U m; unfold oBuild; rw [evParts_congr (fun x hx => h x.2 (by simp; exact ⟨x.1, by simpa using hx⟩))]
  case buildSlice t n ps => show oBuildSlice P t n ps T m = oBuildSlice P t n ps U m; unfold oBuildSlice; rw [evParts_congr (fun x hx => h x.2 (by simp; exact ⟨x.1, by simpa using hx⟩))]
  case load t a => show oLoad P t a T m = oLoad P t a U m; unfold oLoad; rw [h a (by simp)]
  case store t a x => show oStore P t a x T m = oStore P t a x U m; unfold oStore; rw [h a (by simp), h x (by simp)]
  case nilCheck x => show oNilCheck x T m = oNilCheck x U m; unfold oNilCheck; rw [h x (by simp)]
  case binOp op t x y u => show oBin P op t x y u T m = oBin P op t x y u U m; unfold oBin; rw [h x (by simp), h y (by simp)]
  case unOp op t x => show oUn op t x T m = oUn op t x U m; unfold oUn; rw [h x (by simp)]
  case convert s d x => show oConv P s d x T m = oConv P s d x U m; unfold oConv; rw [h x (by simp)]
  case makeFunc fn a b => show oMakeFunc fn a b T m = oMakeFunc fn a b U m; unfold oMakeFunc; rw [evs_congr (l := a.toList) fun x hx => h x (by simp at hx ⊢; exact .inl hx), evs_congr (l := b.toList) fun x hx => h x (by simp at hx ⊢; exact .inr hx)]
  case makeMap t r => rfl
  case makeSlice t l c => show oMakeSlice P t l c T m = oMakeSlice P t l c U m; unfold oMakeSlice; rw [h l (by simp), h c (by simp)]
  case slice t x lo hi mx =>
    show oSlice P t x lo hi mx T m = oSlice P t x lo hi mx U m
    unfold oSlice
    rw [h x (by simp), evOpt_congr (x := lo) fun y e => h y (by simp [e]), evOpt_congr (x := hi) fun y e => h y (by simp [e]), evOpt_congr (x := mx) fun y e => h y (by simp [e])]
  case fieldAddr t x f => show oFieldAddr P t x f T m = oFieldAddr P t x f U m; unfold oFieldAddr; rw [h x (by simp)]
  case field t x f => show oField P t x f T m = oField P t x f U m; unfold oField; rw [h x (by simp)]
  case indexAddr t x i => show oIndexAddr P t x i T m = oIndexAddr P t x i U m; unfold oIndexAddr; rw [h x (by simp), h i (by simp)]
  case index t x i => show oIndex P t x i T m = oIndex P t x i U m; unfold oIndex; rw [h x (by simp), h i (by simp)]
  case lookup t x i ok => show oLookup P t x i ok T m = oLookup P t x i ok U m; unfold oLookup; rw [h x (by simp), h i (by simp)]
  case mapUpdate t x k v => show oMapUpdate P t x k v T m = oMapUpdate P t x k v U m; unfold oMapUpdate; rw [h x (by simp), h k (by simp), h v (by simp)]
  case extract x i => show oExtract x i T m = oExtract x i U m; unfold oExtract; rw [h x (by simp)]
  case call c =>
    show oCall P c T m = oCall P c U m
    obtain ⟨callee, args, ats⟩ := c
    have ha : evs T args.toList = evs U args.toList := evs_congr fun x hx => h x (by simp at hx; simp [Call.operands, hx])
    unfold oCall
    show ob (evs T args.toList) _ = ob (evs U args.toList) _
    rw [ha]
    congr 1
    funext as
    cases callee with
    | value f => show ob (ev T f) _ = ob (ev U f) _; rw [h f (by simp [Call.operands])]
    | invoke r n => rfl
    | builtin b => rfl
  all_goals rfl
end congr

section kinds
variable {P : Program} {T : Tm} {m : Mem}
theorem ob_assoc {α β γ : Type} {x : Option α} {f : α → Option β} {g : β → Option γ} : ob (ob x f) g = ob x (fun a => ob (f a) g) := by cases x <;> rfl

/-- what a mover is: a look at the memory, and no turn of it -/
def Mv (P : Program) (T : Tm) (o : Op) : Prop := ∃ X : Mem → Option LV, (∀ m, op1 P o T m = ob (X m) (rv m)) ∧ (readsMem o = false → ∀ m m', X m = X m')
theorem mv_none {o : Op} (h : ∀ m, op1 P o T m = none) : Mv P T o := ⟨fun _ => none, h, fun _ _ _ => rfl⟩
theorem mv_pure {o : Op} (X : Option LV) (h : ∀ m, op1 P o T m = ob X (rv m)) : Mv P T o := ⟨fun _ => X, h, fun _ _ _ => rfl⟩
theorem mv_reads {o : Op} (hr : readsMem o = true) (X : Mem → Option LV) (h : ∀ m, op1 P o T m = ob (X m) (rv m)) : Mv P T o := ⟨X, h, fun e => by rw [hr] at e; cases e⟩
theorem op1_mv (o : Op) (hc : cls o = .mover) : Mv P T o := by
  cases o <;> first | (cases hc; done) | skip
  case move x => exact mv_pure (ev T x) fun m => rfl
  case assign x => exact mv_pure (ev T x) fun m => rfl
  case pick c a b =>
    refine mv_pure (ob (ev T c) fun c => asBool c fun c => ifb c (ev T a) (ev T b)) fun m => ?_
    rw [ob_assoc]
    show ob (ev T c) _ = _
    congr 1
    funext v
    cases v <;> try rfl
    rename_i b; cases b <;> rfl
  case build t ps => exact mv_pure (ob (evParts T ps.toList) fun ps => buildL P t ps) fun m => by rw [ob_assoc]; rfl
  case load t a => exact mv_reads rfl (fun m => ob (ev T a) fun a => loadT P t m a) fun m => by rw [ob_assoc]; rfl
  case nilCheck x => exact mv_pure (ob (ev T x) fun v => nilCheckL v) fun m => by rw [ob_assoc]; rfl
  case binOp op t x y u => exact mv_pure (ob (ev T x) fun a => ob (ev T y) fun b => binL P op t a b) fun m => by simp only [ob_assoc]; rfl
  case unOp op t x => exact mv_pure (ob (ev T x) fun a => unL op a) fun m => by simp only [ob_assoc]; rfl
  case convert s d x => exact mv_pure (ob (ev T x) fun a => convL P s d a) fun m => by simp only [ob_assoc]; rfl
  case makeFunc fn a b =>
    refine mv_pure (fnFunc fn fun g => ob (evs T a.toList) fun a => ob (evs T b.toList) fun b => some (.func (.func g) a b)) fun m => ?_
    cases fn <;> first | rfl | skip
    show ob (evs T a.toList) _ = ob (ob (evs T a.toList) _) _
    simp only [ob_assoc]
    rfl
  case slice t x lo hi mx => exact mv_pure (ob (ev T x) fun x => ob (evOpt T lo) fun lo => ob (evOpt T hi) fun hi => ob (evOpt T mx) fun mx => sliceL P t x lo hi mx) fun m => by simp only [ob_assoc]; rfl
  case fieldAddr t x f => exact mv_pure (ob (ev T x) fun v => fieldAddrL P t v f) fun m => by simp only [ob_assoc]; rfl
  case field t x f => exact mv_pure (ob (ev T x) fun v => fieldL P t v f) fun m => by simp only [ob_assoc]; rfl
  case indexAddr t x i => exact mv_pure (ob (ev T x) fun v => ob (ev T i) fun i => indexAddrL P t v i) fun m => by simp only [ob_assoc]; rfl
  case index t x i => exact mv_pure (ob (ev T x) fun v => ob (ev T i) fun i => indexL P t v i) fun m => by simp only [ob_assoc]; rfl
  case lookup t x i ok => exact mv_reads rfl (fun m => ob (ev T x) fun v => ob (ev T i) fun i => lookupL P t v i ok m) fun m => by simp only [ob_assoc]; rfl
  case extract x i =>
    refine mv_pure (ob (ev T x) fun v => asTup v fun vs => nth vs i) fun m => ?_
    rw [ob_assoc]
    show ob (ev T x) _ = _
    congr 1
    funext v
    cases v <;> rfl
  case call c =>
    obtain ⟨callee, args, ats⟩ := c
    cases callee with
    | value f => cases hc
    | invoke r n => cases hc
    | builtin b =>
      cases b <;> first | (cases hc; done) | skip
      · refine mv_reads rfl (fun m => ob (evs T args.toList) fun as => lE ats.toList none fun t _ => lE as none fun x _ => lenL P t x m) fun m => ?_
        rw [ob_assoc]
        show ob (evs T args.toList) _ = _
        congr 1
        funext as
        cases ats.toList <;> cases as <;> rfl
      all_goals (
        first
        | (refine mv_reads rfl (fun m => ob (evs T args.toList) fun as => lE as none fun x xs => foldL max2L xs x) fun m => ?_
           rw [ob_assoc]
           show ob (evs T args.toList) _ = _
           congr 1
           funext as
           cases as <;> rfl)
        | (refine mv_reads rfl (fun m => ob (evs T args.toList) fun as => lE as none fun x xs => foldL min2L xs x) fun m => ?_
           rw [ob_assoc]
           show ob (evs T args.toList) _ = _
           congr 1
           funext as
           cases as <;> rfl))
  all_goals exact mv_none fun m => rfl

/-- what makes a block: it hangs on the next name alone -/
theorem op1_new (o : Op) (hc : cls o = .new) {r : R1} (h : op1 P o T m = some r) : ∃ v lb, r = .val v (m.push lb) ∧ isRo lb = false ∧ ∀ M : Mem, M.next = m.next → op1 P o T M = some (.val v (M.push lb)) := by
  cases o <;> first | (cases hc; done) | skip
  case alloc t =>
    obtain ⟨z, hz, h1⟩ := ob_eq.1 (show ob (zeroL P t) _ = some r from h)
    obtain ⟨hf, h2⟩ := guard'_eq.1 h1
    unfold newPtr at h2
    rw [Mem.new_eq] at h2
    cases h2
    refine ⟨_, _, rfl, rfl, fun M hM => ?_⟩
    show ob (zeroL P t) _ = _
    rw [hz]
    show guard' _ _ = _
    rw [hf]
    show newPtr t z M = _
    unfold newPtr
    rw [Mem.new_eq, hM]
  case box t x =>
    obtain ⟨z, hz, h1⟩ := ob_eq.1 (show ob (ev T x) _ = some r from h)
    obtain ⟨hf, h2⟩ := guard'_eq.1 h1
    unfold newPtr at h2
    rw [Mem.new_eq] at h2
    cases h2
    refine ⟨_, _, rfl, rfl, fun M hM => ?_⟩
    show ob (ev T x) _ = _
    rw [hz]
    show guard' _ _ = _
    rw [hf]
    show newPtr t z M = _
    unfold newPtr
    rw [Mem.new_eq, hM]
  case buildSlice t n ps =>
    obtain ⟨parts, hp, h1⟩ := ob_eq.1 (show ob (evParts T ps.toList) _ = some r from h)
    obtain ⟨e, he, h2⟩ := ob_eq.1 (show ob (sliceElem P t) _ = some r from h1)
    obtain ⟨sz, hsz, h3⟩ := ob_eq.1 h2
    obtain ⟨z, hz, h4⟩ := ob_eq.1 h3
    obtain ⟨hg, h5⟩ := guard'_eq.1 h4
    obtain ⟨c, hcc, h6⟩ := ob_eq.1 h5
    rw [Mem.new_eq] at h6
    cases h6
    refine ⟨_, _, rfl, rfl, fun M hM => ?_⟩
    show ob (evParts T ps.toList) _ = _
    rw [hp]
    show buildSliceL P t n parts M rvm = _
    unfold buildSliceL
    rw [he]
    show ob (szOf P e) _ = _
    rw [hsz]
    show ob (zeroL P e) _ = _
    rw [hz]
    show guard' _ _ = _
    rw [hg]
    show ob (fillL _ _ _) _ = _
    rw [hcc]
    show Mem.new M _ _ = _
    rw [Mem.new_eq, hM]
    rfl
  case call c =>
    obtain ⟨callee, args, ats⟩ := c
    cases callee with
    | builtin b => cases b <;> cases hc
    | _ => cases hc
end kinds
end PvL
