/-
 Part of the proof of TapeRicher: what functions of the program and of the statement come to,walked by the rules. No condition beyond those in each theorem.
-/
import Derived.Test.YtbfnnllgdioccaaGreatDoorTQ
import Derived.Test.YtbfnnllgdioccaaGreatDoorTX
section
open Go PvL
set_option linter.unusedVariables false
namespace Go.Proofs.YtbfnnllgdioccaaGreatDoor.C
theorem z66 {L:List Fr} {sm:Nat} {s c:Int}:∀ {n:Nat},goodB L sm s n c=true ↔ ∃ k,k < n /\ gdS sm (fe L k)=true /\ mtB s c (fe L k)=true
 | 0=>⟨fun h=>(by cases h),fun ⟨k,h,_⟩=>absurd h (Nat.not_lt_zero _)⟩
 | n+1=>by
  rw [z8l,Bool.or_eq_true,Bool.and_eq_true,z66]
  constructor
  ·rintro (⟨k,h1,h2⟩|h)
   ·exact ⟨k,by omega,h2⟩
   ·exact ⟨n,by omega,h⟩
  ·rintro ⟨k,h1,h2⟩
   by_cases hk:k=n
   ·subst hk;exact .inr h2
   ·exact .inl ⟨k,by omega,h2⟩
theorem zem {L L':List Fr} {sm:Nat} {s:Int} {n n':Nat} (h:∀ c:Nat,goodB L sm s n c=true->goodB L' sm s n' c=true):∀ c:Nat,badN L' sm s n' c<=badN L sm s n c
 | 0=>Int.le_refl _
 | c+1=>by
  have ih:=zem h c
  rw [z5l,z5l]
  cases h1:goodB L sm s n c with
  | false=>split<;>simp<;>omega
  | true=>rw [h c h1];simpa using ih
theorem zc2 {l:List Int}:∀ {n:Nat},allK l n=true ↔ ∀ k,k < n->knB (getG l k)=true
 | 0=>⟨fun _ k h=>absurd h (Nat.not_lt_zero _),fun _=>rfl⟩
 | n+1=>by
  rw [zj4,Bool.and_eq_true,zc2]
  constructor
  ·rintro ⟨h1,h2⟩ k hk
   by_cases he:k=n
   ·subst he;exact h2
   ·exact h1 k (by omega)
  ·intro h;exact ⟨fun k hk=>h k (by omega),h n (by omega)⟩
theorem zdr {u v:Int} (hv:knB v=true) (hu:u ≠ 40001) (h:joinI u v=u):knB u=true:=by
 have hv2:v ≠ 40000:=by rintro rfl;exact absurd hv (by decide)
 unfold joinI at h
 split at h
 ·rename_i h1
  rcases h1 with h1|h1
  ·rw [h1];exact hv
  ·exact absurd h1 hv2
 ·split at h
  ·rename_i h1 h2
   exact absurd (by rw [h,h2]) hv2
  ·exact absurd h.symm hu
theorem zeh {y f:List Int} {n:Nat} (hf:allK f n=true) (hb:bothL y f=y) (ht:40001 ∉ y):allK y n=true:=by
 rw [zc2] at hf ⊢
 intro k hk
 refine zdr (hf k hk) (fun h=>?_) (by rw [<-z1o,hb])
 by_cases hl:k < y.length
 ·rw [z4n hl] at h
  exact ht (by rw [<-h];exact List.getElem_mem hl)
 ·rw [z4m (by omega)] at h;exact absurd h (by decide)
theorem zkq {a b:List Fr} {w:Wn} {s:Int} (ha:GdL a) (hb:GdL b) (hw:wnB w=true) (ht:∀ y ∈ jnL a b,40001 ∉ y.2.2) (h:pq (jnL a b) w s=true):pq a w s=true:=by
 have hj:=(zcf ha hb).1
 rw [zme (hj.rlK _ (Nat.le_refl _)) hw,decide_eq_true_eq] at h
 rw [zme (ha.rlK _ (Nat.le_refl _)) hw,decide_eq_true_eq]
 have:=zem (L:=a) (L':=jnL a b) (sm:=w.2.2.2.1.toNat) (s:=s) (n:=a.length) (n':=(jnL a b).length) (fun c hc=>by
  obtain ⟨k,hk,h1,h2⟩:=z66.1 hc
  have hm:fe a k ∈ a:=by rw [z2d hk];exact List.getElem_mem hk
  obtain ⟨y,hy,hky,hby⟩:=zkb ha hb hm
  obtain ⟨n,hn,rfl⟩:=List.mem_iff_getElem.1 hy
  refine z66.2 ⟨n,hn,?_,?_⟩
  ·rw [z2d hn]
   exact zeh h1 hby (ht _ hy)
  ·rw [z2d hn]
   unfold mtB at h2 ⊢
   simp only [Bool.and_eq_true,decide_eq_true_eq] at h2 ⊢
   have e1:(fky (jnL a b)[n]).1=(fky (fe a k)).1:=congrArg Prod.fst hky
   have e2:(fky (jnL a b)[n]).2=(fky (fe a k)).2:=congrArg Prod.snd hky
   dsimp only at e1 e2
   omega) w.2.2.1.toNat
 omega
theorem z6p {L:List Fr} {w:Wn} {s:Int}:∀ {n:Nat},s ∈ poorL L w n ↔ ∃ i:Nat,i < n /\ s=w.1+i /\ pq L w s=true
 | 0=>⟨fun h=>absurd h List.not_mem_nil,fun ⟨i,h,_⟩=>absurd h (Nat.not_lt_zero _)⟩
 | n+1=>by
  rw [zbq,List.mem_append,z6p]
  constructor
  ·rintro (⟨i,h1,h2⟩|h)
   ·exact ⟨i,by omega,h2⟩
   ·split at h
    ·rename_i hp
     have:s=w.1+n:=by simpa using h
     exact ⟨n,by omega,this,by rw [this];exact hp⟩
    ·exact absurd h List.not_mem_nil
  ·rintro ⟨i,h1,h2,h3⟩
   by_cases hi:i=n
   ·subst hi
    right
    rw [if_pos (by rw [<-h2];exact h3),h2];simp
   ·exact .inl ⟨i,by omega,h2,h3⟩
theorem zgb {x y:Rl} {w:Wn} (h:mgOk x y) (hw:wnB w=true) (ht:∀ z ∈ jnL x.2 y.2,40001 ∉ z.2.2):∀ s ∈ (poorF (x.1,jnL x.2 y.2) w).1,s ∈ (poorF x w).1:=by
 intro s hs
 unfold poorF at *
 rw [if_pos (zfy h),if_pos hw] at hs
 rw [if_pos h.1,if_pos hw]
 obtain ⟨i,h1,h2,h3⟩:=z6p.1 hs
 exact z6p.2 ⟨i,h1,h2,zkq (err0 h.1).2.2 (err0 h.2.1).2.2 hw ht h3⟩
theorem zia {x:Rl} {w:Wn} (h:(poorF x w).2=0):errRl x=0 /\ wnB w=true:=by
 unfold poorF at h
 by_cases h1:errRl x=0
 case neg=>rw [if_neg h1] at h;exact absurd h h1
 rw [if_pos h1] at h
 cases hw:wnB w with
 | true=>exact ⟨h1,rfl⟩
 | false =>
  rw [hw] at h
  have h:(84:Int)=0:=h
  exact absurd h (by decide)
theorem zi9 {x:Rl} {w:Wn} (h:errRl x=0) (hw:wnB w=true):(poorF x w).2=0:=by
 unfold poorF
 rw [if_pos h,if_pos hw]
end Go.Proofs.YtbfnnllgdioccaaGreatDoor.C
end
section
open Go PvL Go.Proofs
variable {μ:Md}
set_option linter.unusedVariables false
set_option linter.unusedSimpArgs false
namespace Go.Proofs.YtbfnnllgdioccaaGreatDoor.C
section
variable {β:Type} {ev:β->LV}
def lk:List (Int × β)->Int->Option β
 | [],_=>none
 |(a,b) :: L,k=>if k=a then some b else lk L k
def stM:List (Int × β)->Int->β->List (Int × β)
 | [],k,v=>[(k,v)]
 |(a,b) :: L,k,v=>if k=a then (k,v) :: L else (a,b) :: stM L k v
theorem zm5:∀ (L:List (Int × β)) (k:Int) (v:β) (k':Int),lk (stM L k v) k'=if k'=k then some v else lk L k'
 | [],k,v,k'=>by
  show (if k'=k then some v else none)=_
  rfl
 |(a,b) :: L,k,v,k'=>by
  unfold stM
  by_cases h:k=a
  ·subst h
   rw [if_pos rfl]
   show (if k'=k then some v else lk L k')=if k'=k then some v else (if k'=k then some b else lk L k')
   by_cases h2:k'=k
   ·rw [if_pos h2,if_pos h2]
   ·rw [if_neg h2,if_neg h2,if_neg h2]
  ·rw [if_neg h]
   show (if k'=a then some b else lk (stM L k v) k')=if k'=k then some v else (if k'=a then some b else lk L k')
   rw [zm5 L k v k']
   by_cases h2:k'=a
   ·subst h2
    rw [if_pos rfl,if_neg (fun h3=>h h3.symm),if_pos rfl]
   ·rw [if_neg h2,if_neg h2]
theorem zja (a b:Int):eqL Tryz.prog Op.maxDepth 3 (I a) (I b)=some (decide (a=b)):=by
 show eqL Tryz.prog (Op.maxDepth - 1+1) 3 (I a) (I b)=_
 unfold eqL
 rw [show Tryz.prog.underlying 3=some (.int .i64) by kernel_rfl]
 show guard' (kEq .i64 .i64) (some (ieq a b))=_
 rw [z15.2 rfl,z4,z1p]
 rfl
theorem zbw (a:Int) (b:β) (L:List (Int × β)) (k:Int) (v:β):stM ((a,b) :: L) k v=if k=a then (k,v) :: L else (a,b) :: stM L k v:=rfl
theorem z4k {P:Program} {kt:TypeId} (heq:∀ a b:Int,eqL P Op.maxDepth kt (I a) (I b)=some (decide (a=b))) (k a:Int) (b:β) (L:List (Int × β)) (i:Nat):findL P kt (I k) (encM I ev ((a,b) :: L)) i=if k=a then some (some (i,I a,ev b)) else findL P kt (I k) (encM I ev L) (i+1):=by
 have h:findL P kt (I k) (encM I ev ((a,b) :: L)) i=ob (eqL P Op.maxDepth kt (I k) (I a)) fun b'=>ifb b' (some (some (i,I a,ev b))) (findL P kt (I k) (encM I ev L) (i+1)):=rfl
 rw [h,heq,z0]
 by_cases hab:k=a
 ·rw [decide_eq_true hab,zd,if_pos hab]
 ·rw [decide_eq_false hab,z5,if_neg hab]
theorem z7l {P:Program} {kt:TypeId} (heq:∀ a b:Int,eqL P Op.maxDepth kt (I a) (I b)=some (decide (a=b))) (k:Int):∀ (L:List (Int × β)) (i:Nat),lk L k=none->findL P kt (I k) (encM I ev L) i=some none /\ ∀ v,encM I ev L ++ [(I k,ev v)]=encM I ev (stM L k v)
 | [],i,_=>⟨rfl,fun v=>rfl⟩
 |(a,b) :: L,i,h=>by
  have h:(if k=a then some b else lk L k)=none:=h
  by_cases hka:k=a
  ·rw [if_pos hka] at h;cases h
  ·rw [if_neg hka] at h
   obtain ⟨h1,h2⟩:=z7l heq k L (i+1) h
   constructor
   ·rw [z4k heq,if_neg hka,h1]
   ·intro v
    rw [zbw,if_neg hka]
    show (I a,ev b) :: (encM I ev L ++ [(I k,ev v)])=(I a,ev b) :: encM I ev (stM L k v)
    rw [h2 v]
theorem z7m {P:Program} {kt:TypeId} (heq:∀ a b:Int,eqL P Op.maxDepth kt (I a) (I b)=some (decide (a=b))) (k:Int):∀ (L:List (Int × β)) (i:Nat) (b:β),lk L k=some b->∃ j,findL P kt (I k) (encM I ev L) i=some (some (i+j,I k,ev b)) /\ ∀ v,setVal (encM I ev L) j (I k) (ev v)=encM I ev (stM L k v)
 | [],i,b,h=>by cases h
 |(a,c) :: L,i,b,h=>by
  have h:(if k=a then some c else lk L k)=some b:=h
  by_cases hka:k=a
  ·rw [if_pos hka] at h
   obtain rfl:=Option.some.inj h
   subst hka
   refine ⟨0,?_,fun v=>?_⟩
   ·rw [z4k heq,if_pos rfl,Nat.add_zero]
   ·rw [zbw,if_pos rfl];rfl
  ·rw [if_neg hka] at h
   obtain ⟨j,h1,h2⟩:=z7m heq k L (i+1) b h
   refine ⟨j+1,?_,fun v=>?_⟩
   ·rw [z4k heq,if_neg hka,h1,Nat.add_assoc,Nat.add_comm 1 j]
   ·rw [zbw,if_neg hka]
    show (I a,ev c) :: setVal (encM I ev L) j (I k) (ev v)=(I a,ev c) :: encM I ev (stM L k v)
    rw [h2 v]
theorem z9u (k:Int) (L:List (Int × β)) (i:Nat) (hl:lk L k=none):findL Tryz.prog 3 (I k) (encM I ev L) i=some none /\ ∀ v,encM I ev L ++ [(I k,ev v)]=encM I ev (stM L k v):=z7l zja k L i hl
theorem z9v (k:Int) (L:List (Int × β)) (i:Nat) (b:β) (hl:lk L k=some b):∃ j,findL Tryz.prog 3 (I k) (encM I ev L) i=some (some (i+j,I k,ev b)) /\ ∀ v,setVal (encM I ev L) j (I k) (ev v)=encM I ev (stM L k v):=z7m zja k L i b hl
def MpI (ev:β->LV) (M:Mem) (r:Nat) (L:List (Int × β)):Prop:=∃ bs clk,At M r (.map (encM I ev L) bs clk)
def lkV (ev:β->LV) (z:LV):Option β->LV
 | some b=>ev b
 | none=>z
def lkV2 (ev:β->LV) (z:LV):Option β->LV
 | some b=>.tup [ev b,.bool true]
 | none=>.tup [z,.bool false]
theorem MpI.grow {M M':Mem} {r:Nat} {L:List (Int × β)} (h:MpI ev M r L) (hg:Grow M M'):MpI ev M' r L:=by
 obtain ⟨bs,clk,h⟩:=h
 exact ⟨bs,clk,h.grow hg⟩
theorem MpI.lt {M:Mem} {r:Nat} {L:List (Int × β)} (h:MpI ev M r L):r < M.next:=by
 obtain ⟨bs,clk,h⟩:=h
 exact h.2
theorem MpI.upd {M M':Mem} {r i:Nat} {lb:LB} {L:List (Int × β)} (h:MpI ev M r L) (hu:Upd M i lb M') (hi:r ≠ i):MpI ev M' r L:=by
 obtain ⟨bs,clk,h⟩:=h
 exact ⟨bs,clk,At.upd_ne hu hi h⟩
theorem MpI.keep {M M':Mem} {r:Nat} {F:Nat->Prop} {L:List (Int × β)} (h:MpI ev M r L) (hk:Keep F M M') (hi:¬ F r):MpI ev M' r L:=by
 obtain ⟨bs,clk,h⟩:=h
 exact ⟨bs,clk,h.keep hk hi⟩
theorem zje (k:Int):keyOk Tryz.prog 10000 3 (I k)=true:=by kernel_rfl
variable {E:Env} {M:Mem} {x y z':XO} {r:Nat} {L:List (Int × β)} {k:Int} {z:LV}
theorem MpI.look1 (h:MpI ev M r L) (hx:xval E x=some (.map (some r))) (hy:xval E y=some (I k)):xstep Tryz.prog (.lkp 3 z false x y) E M=some (.val (lkV ev z (lk L k)) M):=by
 obtain ⟨bs,clk,hm⟩:=h
 show ob (xval E x) _=_
 rw [hx,z0,hy,z0,zje,z4]
 show atMap M r _=_
 unfold atMap
 rw [hm.1,z0]
 show ob (findL Tryz.prog 3 (I k) (encM I ev L) 0) _=_
 cases hl:lk L k with
 | none=>rw [(z9u k L 0 hl).1];rfl
 | some b =>
  obtain ⟨j,h1,_⟩:=z9v k L 0 b hl
  rw [h1];rfl
theorem MpI.put {v:β} (h:MpI ev M r L) (hx:xval E x=some (.map (some r))) (hy:xval E y=some (I k)) (hz:xval E z'=some (ev v)):∃ lb M',xstep Tryz.prog (.mset 3 x y z') E M=some (.skip M') /\ Upd M r lb M' /\ MpI ev M' r (stM L k v):=by
 obtain ⟨bs,clk,hm⟩:=h
 have key:∀ R,(ob (findL Tryz.prog 3 (I k) (encM I ev L) 0) fun p=>oe p
   (some (R1.skip (M.upd r (some (.map (encM I ev L ++ [(I k,ev v)]) (bs ++ [clk]) (clk+1))))))
   (fun p=>pr p fun i q=>pr q fun k' _=>guard' (lvEq (I k) k') (some (.skip (M.upd r (some (.map (setVal (encM I ev L) i (I k) (ev v)) bs clk)))))))=some R->xstep Tryz.prog (.mset 3 x y z') E M=some R:=fun R hR=>by
  show ob (xval E x) _=_
  rw [hx,z0,hy,z0,hz,z0,zje,z4]
  show atMap M r _=_
  unfold atMap
  rw [hm.1,z0]
  exact hR
 cases hl:lk L k with
 | none =>
  obtain ⟨h1,h2⟩:=z9u (ev:=ev) k L 0 hl
  refine ⟨_,_,key _ (by rw [h1,z0];rfl),⟨rfl⟩,bs ++ [clk],clk+1,?_⟩
  rw [<-h2 v]
  exact At.upd_same ⟨rfl⟩ hm
 | some b =>
  obtain ⟨j,h1,h2⟩:=z9v (ev:=ev) k L 0 b hl
  refine ⟨_,_,key (.skip (M.upd r (some (.map (setVal (encM I ev L) j (I k) (ev v)) bs clk)))) (by
   rw [h1,z0,Nat.zero_add]
   show guard' (lvEq (I k) (I k)) _=_
   rw [show lvEq (I k) (I k)=true from by show (kEq .i64 .i64 && ieq k k)=true;rw [z15.2 rfl,z1p];simp,z4]),⟨rfl⟩,bs,clk,?_⟩
  rw [<-h2 v]
  exact At.upd_same ⟨rfl⟩ hm
end
section
variable {P:Program} [Orc P] {β:Type} {ev:β->LV} {sz:Nat} {E:Env} {M:Mem} {K:Env->Mem->Prop} {l:List XG} {g:Option (Nat × Bool)} {st:List Mem} {n:Nat} {xs:List (Nat × Nat × (Mem->Prop))} {ld:List (XG × XK)} {x y z':XO} {r:Nat} {L:List (Int × β)} {k:Int} {v:β}
theorem zis [Orc Tryz.prog] (hg:GOn E g) (hm:MpI ev M r L) (hx:xval E x=some (.map (some r))) (hy:xval E y=some (I k)) (hz:xval E z'=some (ev v))
  (hk:∀ lb M',Upd M r lb M'->M'.next=M.next->MpI ev M' r (stM L k v)->XW μ Tryz.prog sz l E M' K):XW μ Tryz.prog sz (⟨none,.mset 3 x y z',g⟩ :: l) E M K:=by
 obtain ⟨lb,M',h1,h2,h3⟩:=MpI.put hm hx hy hz
 exact zh3 hg h1 (hk lb M' h2 (by rw [h2.eq];exact Mem.next_upd _ _ _) h3)
theorem MpI.nil {m:Nat} {M M':Mem} {cl:Nat} (hN:New M m (.map [] [] cl) M'):MpI ev M' m []:=⟨[],cl,At.new_same hN⟩
end
end Go.Proofs.YtbfnnllgdioccaaGreatDoor.C
end
section
open Go PvL Go.Proofs
set_option linter.unusedSimpArgs false
set_option linter.unusedVariables false
namespace Go.Proofs.YtbfnnllgdioccaaGreatDoor.C
def mgZ (n:Int):Int:=if n < 0 then -n else n
theorem zmk {i o len n h:Nat} {f:Bool} (hh:h<=len):∃ o' f',(0 < len->o'=o) /\ sliceSl n (some (i,o)) len f n none (some (.int .i64 (h:Int))) none=some (.slice (some (i,o')) h f' n):=by
 have e1:sliceSl n (some (i,o)) len f n none (some (.int .i64 (h:Int))) none=guard' (Nat.ble h len) (guard' (Nat.beq n n) (ifb (false || (f || (Nat.ble (0+1) len || true))) (fN (ifb (Nat.beq len 0 && (f || false)) o (o+0*n)) fun off'=>fN (h - 0) fun len'=>some (LV.slice (some (i,off')) len' (ifb false (Nat.beq h len) (f && Nat.beq h len)) n)) (some (LV.slice (some (i,o)) 0 false 0)))):=by
  show guard' true (guard' (Nat.ble h len) (guard' (Nat.ble 0 h) _))=_
  rw [z4,Nat.ble_eq_true_of_le (Nat.zero_le h),z4]
  rfl
 rw [e1,z0f,z0f,Nat.ble_eq_true_of_le hh,z4,show Nat.beq n n=true by simp,z4]
 rw [show (false || (f || (Nat.ble (0+1) len || true)))=true by simp,zd]
 refine ⟨_,_,fun h0=>?_,rfl⟩
 have h1:Nat.beq len 0=false:=by cases hb:Nat.beq len 0 with|false=>rfl|true=>have:=Nat.eq_of_beq_eq_true hb;omega
 rw [h1,Bool.false_and,z5,Nat.zero_mul,Nat.add_zero]
theorem zj0 {n:Nat} {a:Option (Nat × Nat)} {len h:Nat} {f:Bool} {v:LV} {E:Env} {M:Mem} {x hi:XO} (hs:sliceSl n a len f n none (some (.int .i64 (h:Int))) none=some v) (hx:xval E x=some (.slice a len f n)) (hh:xval E hi=some (I (h:Int))):xstep Tryz.prog (.slc n x none (some hi) none) E M=some (.val v M):=by
 show ob (xval E x) _=_
 rw [hx,z0]
 show ob (ob (xval E hi) _) _=_
 rw [hh,z0]
 show ob (sliceSl n a len f n none (some (.int .i64 (h:Int))) none) (rv M)=_
 rw [hs];rfl
theorem zih {M:Mem} {a:Option (Nat × Nat)} {L:List Int} {f:Bool} {h:Nat} (hp:SlI M a L) (hh:h<=L.length):∃ a' f' e',sliceSl 1 a L.length f 1 none (some (.int .i64 (h:Int))) none=some (.slice a' h f' e') /\ SlI M a' (L.take h):=by
 have hl:(L.take h).length=h:=by rw [List.length_take];omega
 rcases a with _|⟨i,o⟩
 ·rcases hp with rfl|⟨i,o,h1,_⟩
  ·obtain rfl:h=0:=by simpa using hh
   exact ⟨_,_,_,rfl,.inl rfl⟩
  ·cases h1
 ·obtain ⟨o',f',h1,h2⟩:=zmk (i:=i) (o:=o) (n:=1) (f:=f) hh
  refine ⟨_,_,_,h2,?_⟩
  rcases hp with rfl|⟨i',o2,h3,h4⟩
  ·exact .inl (by simp)
  ·obtain ⟨rfl,rfl⟩:i=i' /\ o=o2:=by injection h3 with q;injection q with q1 q2;exact ⟨q1,q2⟩
   refine .inr ⟨i,o',rfl,fun k hk=>?_⟩
   rw [hl] at hk
   rw [h1 (by omega),List.getElem_take]
   exact h4 k (by omega)
theorem zes (n:Int) (M:Mem):CallOk Tryz.prog 52 [I n] M (fun w M'=>w=.bool (!knB n) /\ M'=M):=by
 refine z9 k52 rfl ?_
 dsimp only [x52,zipE,Nat.reduceAdd]
 (repeat' (first|(with_reducible intro _)|refine sv ?_|(refine sc ?_ ?_<;>(intro h;try first|exact h.elim|exact absurd rfl h|(exfalso;omega)))|((with_reducible first|apply zz|apply zx|apply zi);exact gd;exact rfl;exact rfl;(first|exact zb1 _ _))|(refine sg ?_ ?_<;>(intro h;(fail_if_success (have:True:=h));try first|exact h.elim|exact absurd rfl h|(exfalso;omega)))|assumption|exact xm|exact rfl))
 ((with_reducible first|apply z8|apply z3);exact rx)
 exact ⟨rfl,rfl⟩
theorem zm4 (o:Option Int):lkV (β:=Int) I (I 0) o=I (o.getD 0):=by cases o<;>rfl
set_option maxHeartbeats 16000000 in
theorem zj5 {M:Mem} {v:LV} {r:Rl} {F La Ch Sm Mo:Int} (hv:RlV1 M v r) (hin:RlIn r):CallOk Tryz.prog 17 [v,.agg [I F,I La,I Ch,I Sm,I Mo]] M (fun w M'=>∃ a f e,w=.tup [.slice a (poorF r (F,La,Ch,Sm,Mo)).1.length f e,I (poorF r (F,La,Ch,Sm,Mo)).2] /\ SlI M' a (poorF r (F,La,Ch,Sm,Mo)).1 /\ Grow M M'):=by
 have hv0:=hv
 obtain ⟨a,f,e,rfl,hs⟩:=hv
 refine z9 k17 rfl ?_
 dsimp only [x17,zipE,Nat.reduceAdd]
 have cc:=fun M' (hg:Grow M M')=>z36 (hv0.to.grow hg) hin
 by_cases her:errRl r=0
 case neg =>
  have he:poorF r (F,La,Ch,Sm,Mo)=([],errRl r):=by unfold poorF;rw [if_neg her]
  rw [he]
  generalize errRl r=ER at *
  (repeat' (first|(with_reducible intro _)|refine sv ?_|(refine sc ?_ ?_<;>(intro h;try first|exact h.elim|exact absurd rfl h|(exfalso;omega)))|((with_reducible first|apply zy|apply zw|apply zh);exact gd;exact rfl;exact rfl;(first|exact cc _ (xg)))|(refine sg ?_ ?_<;>(intro h;(fail_if_success (have:True:=h));try first|exact h.elim|exact absurd rfl h|(exfalso;omega)))|assumption|exact xm|exact rfl))
  all_goals try (exfalso;omega)
  ((with_reducible first|apply z8|apply z3);exact rx)
  exact ⟨_,_,_,rfl,.inl rfl,xg⟩
 case pos =>
 rw [her] at cc
 have hE0:wnB (F,La,Ch,Sm,Mo)=false->poorF r (F,La,Ch,Sm,Mo)=([],84):=fun h=>by unfold poorF;rw [if_pos her,h];rfl
 have hE1:wnB (F,La,Ch,Sm,Mo)=true->poorF r (F,La,Ch,Sm,Mo)=(poorL r.2 (F,La,Ch,Sm,Mo) (La - F+1).toNat,0):=fun h=>by unfold poorF;rw [if_pos her,h];rfl
 have hwn:wnB (F,La,Ch,Sm,Mo)=(btB F 0 La && (btB La 0 60000 && (decide (La - F < 1000) && (btB Ch 1 24 && (btB Sm 1 64 && btB Mo 0 24))))):=rfl
 generalize poorF r (F,La,Ch,Sm,Mo)=PF at *
 have cb1:=fun M'=>z1v F 0 La M'
 cases b1:btB F 0 La with
 | false =>
  rw [b1] at hwn cb1
  rw [hE0 (by rw [hwn];try simp)]
  (repeat' (first|(with_reducible intro _)|refine sv ?_|(refine sc ?_ ?_<;>(intro h;try first|exact h.elim|exact absurd rfl h|(exfalso;omega)))|((with_reducible first|apply zz|apply zx|apply zi);exact gd;exact rfl;exact rfl;(first|exact cb1 _))|((with_reducible first|apply zy|apply zw|apply zh);exact gd;exact rfl;exact rfl;(first|exact cc _ (xg)))|(refine sg ?_ ?_<;>(intro h;(fail_if_success (have:True:=h));try first|exact h.elim|exact absurd rfl h|(exfalso;omega)))|assumption|exact xm|exact rfl))
  all_goals try (exfalso;omega)
  all_goals (((with_reducible first|apply z8|apply z3);exact rx);exact ⟨_,_,_,rfl,.inl rfl,xg⟩)
 | true =>
 rw [b1] at cb1 hwn
 rw [Bool.true_and] at hwn
 have cb2:=fun M'=>z1v La 0 60000 M'
 cases b2:btB La 0 60000 with
 | false =>
  rw [b2] at hwn cb2
  rw [hE0 (by rw [hwn];try simp)]
  (repeat' (first|(with_reducible intro _)|refine sv ?_|(refine sc ?_ ?_<;>(intro h;try first|exact h.elim|exact absurd rfl h|(exfalso;omega)))|((with_reducible first|apply zz|apply zx|apply zi);exact gd;exact rfl;exact rfl;(first|exact cb1 _|exact cb2 _))|((with_reducible first|apply zy|apply zw|apply zh);exact gd;exact rfl;exact rfl;(first|exact cc _ (xg)))|(refine sg ?_ ?_<;>(intro h;(fail_if_success (have:True:=h));try first|exact h.elim|exact absurd rfl h|(exfalso;omega)))|assumption|exact xm|exact rfl))
  all_goals try (exfalso;omega)
  all_goals (((with_reducible first|apply z8|apply z3);exact rx);exact ⟨_,_,_,rfl,.inl rfl,xg⟩)
 | true =>
 rw [b2] at cb2 hwn
 rw [Bool.true_and] at hwn
 have bd1:0<=F /\ F<=La:=by unfold btB at b1;exact of_decide_eq_true b1
 have bd2:0<=La /\ La<=60000:=by unfold btB at b2;exact of_decide_eq_true b2
 by_cases b3:La - F < 1000
 case neg =>
  rw [decide_eq_false b3] at hwn
  rw [hE0 (by rw [hwn];try simp)]
  (repeat' (first|(with_reducible intro _)|refine sv ?_|(refine sc ?_ ?_<;>(intro h;try first|exact h.elim|exact absurd rfl h|(exfalso;omega)))|((with_reducible first|apply zz|apply zx|apply zi);exact gd;exact rfl;exact rfl;(first|exact cb1 _|exact cb2 _))|((with_reducible first|apply zy|apply zw|apply zh);exact gd;exact rfl;exact rfl;(first|exact cc _ (xg)))|(refine sg ?_ ?_<;>(intro h;(fail_if_success (have:True:=h));try first|exact h.elim|exact absurd rfl h|(exfalso;omega)))|assumption|exact xm|exact rfl))
  all_goals try (exfalso;omega)
  all_goals (((with_reducible first|apply z8|apply z3);exact rx);exact ⟨_,_,_,rfl,.inl rfl,xg⟩)
 case pos =>
 rw [decide_eq_true b3,Bool.true_and] at hwn
 have cb4:=fun M'=>z1v Ch 1 24 M'
 cases b4:btB Ch 1 24 with
 | false =>
  rw [b4] at hwn cb4
  rw [hE0 (by rw [hwn];try simp)]
  (repeat' (first|(with_reducible intro _)|refine sv ?_|(refine sc ?_ ?_<;>(intro h;try first|exact h.elim|exact absurd rfl h|(exfalso;omega)))|((with_reducible first|apply zz|apply zx|apply zi);exact gd;exact rfl;exact rfl;(first|exact cb1 _|exact cb2 _|exact cb4 _))|((with_reducible first|apply zy|apply zw|apply zh);exact gd;exact rfl;exact rfl;(first|exact cc _ (xg)))|(refine sg ?_ ?_<;>(intro h;(fail_if_success (have:True:=h));try first|exact h.elim|exact absurd rfl h|(exfalso;omega)))|assumption|exact xm|exact rfl))
  all_goals try (exfalso;omega)
  all_goals (((with_reducible first|apply z8|apply z3);exact rx);exact ⟨_,_,_,rfl,.inl rfl,xg⟩)
 | true =>
 rw [b4] at cb4 hwn
 rw [Bool.true_and] at hwn
 have cb5:=fun M'=>z1v Sm 1 64 M'
 cases b5:btB Sm 1 64 with
 | false =>
  rw [b5] at hwn cb5
  rw [hE0 (by rw [hwn];try simp)]
  (repeat' (first|(with_reducible intro _)|refine sv ?_|(refine sc ?_ ?_<;>(intro h;try first|exact h.elim|exact absurd rfl h|(exfalso;omega)))|((with_reducible first|apply zz|apply zx|apply zi);exact gd;exact rfl;exact rfl;(first|exact cb1 _|exact cb2 _|exact cb4 _|exact cb5 _))|((with_reducible first|apply zy|apply zw|apply zh);exact gd;exact rfl;exact rfl;(first|exact cc _ (xg)))|(refine sg ?_ ?_<;>(intro h;(fail_if_success (have:True:=h));try first|exact h.elim|exact absurd rfl h|(exfalso;omega)))|assumption|exact xm|exact rfl))
  all_goals try (exfalso;omega)
  all_goals (((with_reducible first|apply z8|apply z3);exact rx);exact ⟨_,_,_,rfl,.inl rfl,xg⟩)
 | true =>
 rw [b5] at cb5 hwn
 rw [Bool.true_and] at hwn
 have cb6:=fun M'=>z1v Mo 0 24 M'
 cases b6:btB Mo 0 24 with
 | false =>
  rw [b6] at hwn cb6
  rw [hE0 (by rw [hwn];try simp)]
  (repeat' (first|(with_reducible intro _)|refine sv ?_|(refine sc ?_ ?_<;>(intro h;try first|exact h.elim|exact absurd rfl h|(exfalso;omega)))|((with_reducible first|apply zz|apply zx|apply zi);exact gd;exact rfl;exact rfl;(first|exact cb1 _|exact cb2 _|exact cb4 _|exact cb5 _|exact cb6 _))|((with_reducible first|apply zy|apply zw|apply zh);exact gd;exact rfl;exact rfl;(first|exact cc _ (xg)))|(refine sg ?_ ?_<;>(intro h;(fail_if_success (have:True:=h));try first|exact h.elim|exact absurd rfl h|(exfalso;omega)))|assumption|exact xm|exact rfl))
  all_goals try (exfalso;omega)
  all_goals (((with_reducible first|apply z8|apply z3);exact rx);exact ⟨_,_,_,rfl,.inl rfl,xg⟩)
 | true =>
 rw [b6] at cb6 hwn
 have bd4:1<=Ch /\ Ch<=24:=by unfold btB at b4;exact of_decide_eq_true b4
 have bd5:1<=Sm /\ Sm<=64:=by unfold btB at b5;exact of_decide_eq_true b5
 have bd6:0<=Mo /\ Mo<=24:=by unfold btB at b6;exact of_decide_eq_true b6
 rw [hE1 hwn]
 obtain ⟨sm,rfl⟩:∃ sm:Nat,Sm=sm:=⟨Sm.toNat,by omega⟩
 clear hE0 hE1 PF
 have hfr:=fun k (hk:k < r.2.length)=>hin.fr hk
 have hlen:=hin.2.1
 generalize r.2=L at *
 generalize r.1=nm at *
 (repeat' (first|(with_reducible intro _)|refine sv ?_|(refine sc ?_ ?_<;>(intro h;try first|exact h.elim|exact absurd rfl h|(exfalso;omega)))|((with_reducible first|apply zz|apply zx|apply zi);exact gd;exact rfl;exact rfl;(first|exact cb1 _|exact cb2 _|exact cb4 _|exact cb5 _|exact cb6 _))|((with_reducible first|apply zy|apply zw|apply zh);exact gd;exact rfl;exact rfl;(first|exact cc _ (xg)))|(refine sg ?_ ?_<;>(intro h;(fail_if_success (have:True:=h));try first|exact h.elim|exact absurd rfl h|(exfalso;omega)))|assumption|exact xm|exact rfl))
 all_goals try (exfalso;omega)
 rename_i n1 M1 hN1 e1 e2 n2 M2 hN2 e3 e4 M3 hg3 e5 h0 h1 n4 M4 hN4 e6 e7
 have hA2:At M4 n2 (.cells true [I F,I La,I Ch,I sm,I Mo] 26):=xm
 have hg4:Grow M M4:=xg
 have hm4:=MpI.nil (ev:=I) hN4
 have hl1:M.next<=n1 /\ n1 < n4 /\ n2 < n4 /\ n4 < M4.next:=by omega
 clear hN1 hN2 hg3 hN4 cb1 cb2 cb4 cb5 cb6 b1 b2 b4 b5 b6 cc e1 e2 e3 e4 e5 e6 e7 h0 h1
 refine z7 (fun z E ms M'=>∃ (k:Nat) (D:List (Int × Int)),z=L.length - k /\ k<=L.length /\ ms=[] /\ Has E [(3,.ptr (some (n2,0))),(7,.map (some n4)),(57,.slice a L.length f e),(58,I L.length),(59,I k)] /\ Keep (fun i=>i=n4) M4 M' /\ MpI I M' n4 D /\ ∀ c,lk D c=gq L Ch sm k c)
  ?_ L.length _ _ _ ⟨0,[],by omega,by omega,rfl,.cons rfl (.cons rfl (.cons rfl (.cons rfl (.cons rfl .nil)))),Keep.refl _ _,hm4,fun c=>rfl⟩
 rintro z E ms M5 ⟨k,D,rfl,hk,rfl,hE,hk5,hm5,hD⟩
 refine zt hE ?_
 have hle5:=hk5.le
 have hg5:Grow M M5:=Keep.to_grow' hg4 hk5 (fun i hi=>by omega)
 have hB2:At M5 n2 (.cells true [I F,I La,I Ch,I sm,I Mo] 26):=hA2.keep hk5 (by omega)
 have hs5:=hs.grow hg5
 clear hA2 hg4
 by_cases hlast:k=L.length
 ·subst hlast
  have hle9:=hm5.lt
  obtain ⟨N,hN⟩:∃ N:Nat,(N:Int)=La - F+1:=⟨(La - F+1).toNat,by omega⟩
  have hNN:(La - F+1).toNat=N:=by omega
  rw [hNN]
  (repeat' (first|(with_reducible intro _)|refine sv ?_|(refine sc ?_ ?_<;>(intro h;try first|exact h.elim|exact absurd rfl h|(exfalso;omega)))|(refine sg ?_ ?_<;>(intro h;(fail_if_success (have:True:=h));try first|exact h.elim|exact absurd rfl h|(exfalso;omega)))|assumption|exact xm|exact rfl))
  refine z7 (fun z E ms M'=>∃ (c:Nat) (v:LV),z=N - c /\ c<=N /\ ms=[] /\ Has E [(3,.ptr (some (n2,0))),(7,.map (some n4)),(10,v),(11,I (F+c))] /\ Vec M5.next 1 3 intc M' v (poorL L (F,La,Ch,sm,Mo) c) /\ Grow M5 M' /\ M5.next<=M'.next)
   ?_ N _ _ _ ⟨0,_,by omega,by omega,rfl,.cons rfl (.cons rfl (.cons rfl (.cons (by show some (I _)=some (I _);simp) .nil))),Vec.nil,Grow.refl _,Nat.le_refl _⟩
  rintro z E ms M6 ⟨c,v,rfl,hc,rfl,hE,hv6,hg6,hle6⟩
  refine zt hE ?_
  have hB6:=At.grow hg6 hB2
  by_cases hlast:c=N
  ·subst hlast
   (repeat' (first|(with_reducible intro _)|refine sv ?_|(refine sc ?_ ?_<;>(intro h;try first|exact h.elim|exact absurd rfl h|(exfalso;omega)))|(refine sg ?_ ?_<;>(intro h;(fail_if_success (have:True:=h));try first|exact h.elim|exact absurd rfl h|(exfalso;omega)))|assumption|exact xm|exact rfl))
   all_goals try (exfalso;omega)
   ((with_reducible first|apply z8|apply z3);exact rx)
   obtain ⟨a3,f3,e3,rfl,hs3⟩:=SlI.vec hv6
   exact ⟨_,_,_,rfl,hs3,hg5.trans hg6⟩
  have hlt:c < N:=by omega
  have hm6:=hm5.grow hg6
  have hst:=zbq L (F,La,Ch,sm,Mo) c
  have hlen6:=z6o L (F,La,Ch,sm,Mo) c
  have hpq:pq L (F,La,Ch,(sm:Int),Mo) (F+c)=decide (Ch - gqN L Ch sm L.length (F+c) > Mo):=rfl
  have hqb:=zfc L Ch sm (F+c) L.length
  have hlk:lkV (β:=Int) I (I 0) (lk D (F+c))=I (gqN L Ch sm L.length (F+c)):=by rw [zm4,hD];rfl
  rw [hpq] at hst
  generalize gqN L Ch sm L.length (F+c)=Q at *
  (repeat' (first|(with_reducible intro _)|refine sv ?_|(refine sc ?_ ?_<;>(intro h;try first|exact h.elim|exact absurd rfl h|(exfalso;omega)))|(refine sg ?_ ?_<;>(intro h;(fail_if_success (have:True:=h));try first|exact h.elim|exact absurd rfl h|(exfalso;omega)))|assumption|exact xm|exact rfl))
  all_goals try (exfalso;omega)
  refine z70 (by exact gd) (MpI.look1 hm6 rfl rfl) ?_
  rw [hlk]
  by_cases hd9:Ch - Q > Mo
  ·rw [decide_eq_true hd9] at hst
   (repeat' (first|(with_reducible intro _)|refine sv ?_|(refine sc ?_ ?_<;>(intro h;try first|exact h.elim|exact absurd rfl h|(exfalso;omega)))|(refine sg ?_ ?_<;>(intro h;(fail_if_success (have:True:=h));try first|exact h.elim|exact absurd rfl h|(exfalso;omega)))|assumption|exact xm|exact rfl))
   all_goals try (exfalso;omega)
   rename_i m9 M9 hN9 e8 e9
   have hv9:=hv6.grow hN9.grow
   refine z71 (by exact gd) (l':=[F+(c:Int)]) hv9 rfl rfl rfl (by simp) (by rw [List.length_singleton];omega) rfl (zab hN9) (fun _=>rfl) (fun _=>rfl) (by omega) ?_
   intro v' M10 hv10 e10 hk10
   have hg10:Grow M5 M10:=Keep.to_grow' (hg6.trans hN9.grow) hk10 (fun i hi=>hi.1)
   (repeat' (first|(with_reducible intro _)|refine sv ?_|(refine sc ?_ ?_<;>(intro h;try first|exact h.elim|exact absurd rfl h|(exfalso;omega)))|(refine sg ?_ ?_<;>(intro h;(fail_if_success (have:True:=h));try first|exact h.elim|exact absurd rfl h|(exfalso;omega)))|assumption|exact xm|exact rfl))
   refine ze (N - (c+1)) (by omega) ⟨c+1,v',rfl,by omega,rfl,.cons rfl (.cons rfl (.cons rfl (.cons ?_ .nil))),by rw [hst];exact hv10,hg10,by omega⟩
   show some (I _)=some (I _)
   rw [show F+((c+1:Nat):Int)=F+c+1 by omega]
  ·rw [decide_eq_false hd9] at hst
   (repeat' (first|(with_reducible intro _)|refine sv ?_|(refine sc ?_ ?_<;>(intro h;try first|exact h.elim|exact absurd rfl h|(exfalso;omega)))|(refine sg ?_ ?_<;>(intro h;(fail_if_success (have:True:=h));try first|exact h.elim|exact absurd rfl h|(exfalso;omega)))|assumption|exact xm|exact rfl))
   all_goals try (exfalso;omega)
   refine ze (N - (c+1)) (by omega) ⟨c+1,v,rfl,by omega,rfl,.cons rfl (.cons rfl (.cons rfl (.cons ?_ .nil))),by rw [hst];simpa using hv6,hg6,hle6⟩
   show some (I _)=some (I _)
   rw [show F+((c+1:Nat):Int)=F+c+1 by omega]
 have hlt:k < L.length:=by omega
 obtain ⟨i,o,b,g,rfl,hr,hsl⟩:=hs5.rd hlt
 have hfi:=hfr k hlt
 have hst:=gq_s L Ch sm k
 have hgd:gdF Ch sm (fe L k)=(decide ((fe L k).2.1 < Ch) && (decide (sm<=(fe L k).2.2.length) && ((fe L k).2.2.take sm).all knB)):=rfl
 have hqb:=zfc L Ch sm (fe L k).1 k
 have hlk:lkV (β:=Int) I (I 0) (lk D (fe L k).1)=I (gqN L Ch sm k (fe L k).1):=by rw [zm4,hD];rfl
 have hno9:gdF Ch sm (fe L k)=false->∀ c,lk D c=gq L Ch sm (k+1) c:=fun hh c=>by rw [hst,hh,hD];simp
 have hyes9:gdF Ch sm (fe L k)=true->∀ c,lk (stM D (fe L k).1 (gqN L Ch sm k (fe L k).1+1)) c=gq L Ch sm (k+1) c:=fun hh c=>by
  rw [hst,hh,zm5,hD]
  unfold gqN
  by_cases hc:c=(fe L k).1
  ·subst hc;simp
  ·simp [hc]
 clear hst
 generalize gqN L Ch sm k (fe L k).1=Q at *
 generalize gdF Ch sm (fe L k)=GD at *
 obtain ⟨-,-,hS9,-⟩:=hfi
 generalize (fe L k).1=s1 at *
 generalize (fe L k).2.1=s2 at *
 generalize (fe L k).2.2=S at *
 by_cases hc1:s2 < Ch
 case neg =>
  rw [decide_eq_false hc1,Bool.false_and] at hgd
  (have hrd0:=hr;repeat' (first|(with_reducible intro _)|refine sv ?_|(refine sc ?_ ?_<;>(intro h;try first|exact h.elim|exact absurd rfl h|(exfalso;omega)))|(refine sg ?_ ?_<;>(intro h;(fail_if_success (have:True:=h));try first|exact h.elim|exact absurd rfl h|(exfalso;omega)))|assumption|exact xm|exact rfl))
  all_goals try (exfalso;omega)
  rename_i m6 M6 hN6 q1 q2 M7 hU7 q3 hA7 hx9
  have hg7:Grow M5 M7:=xg
  exact ze (L.length - (k+1)) (by omega) ⟨k+1,D,rfl,by omega,rfl,.cons rfl (.cons rfl (.cons rfl (.cons rfl (.cons rfl .nil)))),xk,hm5.grow hg7,hno9 hgd⟩
 rw [decide_eq_true hc1,Bool.true_and] at hgd
 by_cases hc2:sm<=S.length
 case neg =>
  rw [decide_eq_false hc2,Bool.false_and] at hgd
  (have hrd0:=hr;repeat' (first|(with_reducible intro _)|refine sv ?_|(refine sc ?_ ?_<;>(intro h;try first|exact h.elim|exact absurd rfl h|(exfalso;omega)))|(refine sg ?_ ?_<;>(intro h;(fail_if_success (have:True:=h));try first|exact h.elim|exact absurd rfl h|(exfalso;omega)))|assumption|exact xm|exact rfl))
  all_goals try (exfalso;omega)
  rename_i m6 M6 hN6 q1 q2 M7 hU7 q3 hA7 hx8 hx9
  have hg7:Grow M5 M7:=xg
  exact ze (L.length - (k+1)) (by omega) ⟨k+1,D,rfl,by omega,rfl,.cons rfl (.cons rfl (.cons rfl (.cons rfl (.cons rfl .nil)))),xk,hm5.grow hg7,hno9 hgd⟩
 rw [decide_eq_true hc2,Bool.true_and] at hgd
 have hct:∀ M',Grow M5 M'->∀ (b':Option (Nat × Nat)) (g':Bool) (u':Nat),SlI M' b' (S.take sm)->CallOk Tryz.prog 45 [.slice b' sm g' u',.func (.func 52) [] []] M' (fun w M''=>w=.bool (!(S.take sm).all knB) /\ M''=M'):=fun M' hg b' g' u' hsl'=>by
  have hl:(S.take sm).length=sm:=by rw [List.length_take];omega
  have:=z7f (f:=g') (e:=u') (g:=52) (fi:=[]) (ca:=[]) (M:=M') (fun n=>!knB n) (by omega) hsl' (fun n _=>zes n M') (fun n _ M2 _=>zes n M2)
  rw [zej,hl] at this;exact this
 (have hrd0:=hr;repeat' (first|(with_reducible intro _)|refine sv ?_|(refine sc ?_ ?_<;>(intro h;try first|exact h.elim|exact absurd rfl h|(exfalso;omega)))|(refine sg ?_ ?_<;>(intro h;(fail_if_success (have:True:=h));try first|exact h.elim|exact absurd rfl h|(exfalso;omega)))|assumption|exact xm|exact rfl))
 all_goals try (exfalso;omega)
 rename_i m6 M6 hN6 q1 q2 M7 hU7 q3 hA7 hx8
 have hg7:Grow M5 M7:=xg
 obtain ⟨b8,g8,u8,hsc,hst8⟩:=zih (f:=g) (hsl.grow hg7) hc2
 refine z70 (by exact gd) (zj0 hsc rfl rfl) ?_
 have hct7:=hct M7 hg7 b8 g8 u8 hst8
 have hm7:=hm5.grow hg7
 have hk7:Keep (fun i=>i=n4) M4 M7:=xk
 generalize (S.take sm).all knB=A9 at *
 cases A9 with
 | false =>
  (repeat' (first|(with_reducible intro _)|refine sv ?_|(refine sc ?_ ?_<;>(intro h;try first|exact h.elim|exact absurd rfl h|(exfalso;omega)))|((with_reducible first|apply zz|apply zx|apply zi);exact gd;exact rfl;exact rfl;(first|exact hct7))|(refine sg ?_ ?_<;>(intro h;(fail_if_success (have:True:=h));try first|exact h.elim|exact absurd rfl h|(exfalso;omega)))|assumption|exact xm|exact rfl))
  exact ze (L.length - (k+1)) (by omega) ⟨k+1,D,rfl,by omega,rfl,.cons rfl (.cons rfl (.cons rfl (.cons rfl (.cons rfl .nil)))),hk7,hm7,hno9 hgd⟩
 | true =>
  (repeat' (first|(with_reducible intro _)|refine sv ?_|(refine sc ?_ ?_<;>(intro h;try first|exact h.elim|exact absurd rfl h|(exfalso;omega)))|((with_reducible first|apply zz|apply zx|apply zi);exact gd;exact rfl;exact rfl;(first|exact hct7))|(refine sg ?_ ?_<;>(intro h;(fail_if_success (have:True:=h));try first|exact h.elim|exact absurd rfl h|(exfalso;omega)))|assumption|exact xm|exact rfl))
  refine z70 (by exact gd) (MpI.look1 hm7 rfl rfl) ?_
  rw [hlk]
  (repeat' (first|(with_reducible intro _)|refine sv ?_|(refine sc ?_ ?_<;>(intro h;try first|exact h.elim|exact absurd rfl h|(exfalso;omega)))|(refine sg ?_ ?_<;>(intro h;(fail_if_success (have:True:=h));try first|exact h.elim|exact absurd rfl h|(exfalso;omega)))|assumption|exact xm|exact rfl))
  refine zis (v:=Q+1) (by exact gd) hm7 rfl rfl rfl ?_
  intro lb M9 hU9 e9 hm9
  have hk9:Keep (fun i=>i=n4) M4 M9:=xk
  (repeat' (first|(with_reducible intro _)|refine sv ?_|(refine sc ?_ ?_<;>(intro h;try first|exact h.elim|exact absurd rfl h|(exfalso;omega)))|(refine sg ?_ ?_<;>(intro h;(fail_if_success (have:True:=h));try first|exact h.elim|exact absurd rfl h|(exfalso;omega)))|assumption|exact xm|exact rfl))
  exact ze (L.length - (k+1)) (by omega) ⟨k+1,_,rfl,by omega,rfl,.cons rfl (.cons rfl (.cons rfl (.cons rfl (.cons rfl .nil)))),hk9,hm9,hyes9 hgd⟩
end Go.Proofs.YtbfnnllgdioccaaGreatDoor.C
end
