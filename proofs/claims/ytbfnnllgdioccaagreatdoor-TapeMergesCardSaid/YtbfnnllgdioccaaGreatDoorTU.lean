/-
 Part of the proof of TapeMerges: what functions of the program and of the statement come to,walked by the rules. No condition beyond those in each theorem.
-/
import Derived.Test.YtbfnnllgdioccaaGreatDoorTS
import Derived.Test.YtbfnnllgdioccaaGreatDoorTP
import Derived.Test.YtbfnnllgdioccaaGreatDoorTW
section
open Go PvL Go.Proofs
variable {μ:Md}
set_option linter.unusedVariables false
set_option linter.unusedSimpArgs false
namespace Go.Proofs.YtbfnnllgdioccaaGreatDoor.C
section
variable {α:Type} {b q:Nat} {ty:TypeId} {enc:α->List LV} {M:Mem} {v:LV} {l l':List α} {P:Program} [Orc P] {sz:Nat} {E:Env} {K:Env->Mem->Prop} {ll:List XG} {d:Nat} {g:Option (Nat × Bool)} {s x:XO} {st:List Mem} {k:Nat} {xs:List (Nat × Nat × (Mem->Prop))} {ld:List (XG × XK)} {by':Nat} {z:List LV} {xv:LV}
theorem Vec.appN (h:Vec b q ty enc M v l) (hs:xval E s=some v) (hx:xval E x=some xv) (hn:lenOfL xv=some l'.length) (h0:0 < l'.length)
  (hb:(2*(l.length+l'.length)+2048)*by'<=140737488355328) (hz:(Nat.ble 1 q && (Nat.ble 1 by' && Nat.beq z.length q))=true) (hw:firstL q l'.length xv M=some (l'.flatMap enc))
  (henc:∀ x,(enc x).length=q) (hfl:∀ x,allFlat (enc x)=true) :
  ∃ v' M',xstep P (.app ty q by' z s x) E M=some (.val v' M') /\ Vec M.next q ty enc M' v' (l ++ l') /\ M'.next=M.next+1 /\ Keep (fun i=>b<=i /\ ∃ o n f e,v=.slice (some (i,o)) n f e) M M':=by
 have hf:=z29 (l:=l') (enc:=enc) (fun x _=>hfl x)
 rcases h with ⟨rfl,rfl⟩|⟨i,rfl,h2,h3⟩
 ·refine ⟨_,_,z83 hs hx hn h0 (by simpa using hb) hz rfl hw hf (.inl rfl),.inr ⟨M.next,?_,?_,Nat.le_refl _⟩,rfl,?_⟩
  ·rw [List.nil_append,Nat.zero_add]
  ·rw [List.nil_append,List.nil_append];exact ⟨by rw [Mem.get_push,if_pos rfl],Nat.lt_succ_self _⟩
  ·have hN:New M M.next (.cells true ([] ++ l'.flatMap enc) (apE ty)) (M.push (.cells true ([] ++ l'.flatMap enc) (apE ty))):=⟨rfl,rfl⟩
   exact hN.grow.to_keep _
 ·have ho:firstL q l.length (.slice (some (i,0)) l.length false q) M=some (l.flatMap enc):=by
   rw [z2e h2 (by rw [z15 (fun x _=>henc x)];omega),List.drop_zero,List.take_of_length_le (by rw [z15 (fun x _=>henc x)];omega)]
  have hK:Kill M i M.next (.cells true (l.flatMap enc ++ l'.flatMap enc) (apE ty)) ((M.upd i none).push (.cells true (l.flatMap enc ++ l'.flatMap enc) (apE ty))):=⟨rfl,rfl⟩
  refine ⟨_,_,z6x hs hx hn h0 hb hz ho hw hf h2 (by rw [show Nat.beq (apE ty) (apE ty)=true by simp,Bool.or_true]),.inr ⟨M.next,by rw [List.length_append],?_,Nat.le_refl _⟩,hK.next,hK.keep.weaken fun j hj=>?_⟩
  ·rw [List.flatMap_append];exact hK.same
  ·subst hj;exact ⟨h3,_,_,_,_,rfl⟩
theorem z4v (hg:GOn E g) (hv:Vec b q ty enc M v l) (hs:xval E s=some v) (hx:xval E x=some xv) (hn:lenOfL xv=some l'.length) (h0:0 < l'.length) (hb:(2*(l.length+l'.length)+2048)*by'<=140737488355328) (hz:(Nat.ble 1 q && (Nat.ble 1 by' && Nat.beq z.length q))=true) (hw:firstL q l'.length xv M=some (l'.flatMap enc))
  (henc:∀ x,(enc x).length=q) (hfl:∀ x,allFlat (enc x)=true) (hk:∀ v' M',Vec M.next q ty enc M' v' (l ++ l')->M'.next=M.next+1->Keep (fun i=>b<=i /\ ∃ o n f e,v=.slice (some (i,o)) n f e) M M'->XW μ P sz ll ((d,v') :: E) M' K):XW μ P sz (⟨some d,.app ty q by' z s x,g⟩ :: ll) E M K:=by
 obtain ⟨v',M',h1,h2,h3,h4⟩:=Vec.appN (P:=P) hv hs hx hn h0 hb hz hw henc hfl
 exact zlq hg h1 (hk v' M' h2 h3 h4)
theorem z7b (hg:GOn E g) (hv:Vec b q ty enc M v l) (hs:xval E s=some v) (hx:xval E x=some xv) (hn:lenOfL xv=some l'.length) (h0:0 < l'.length) (hb:(2*(l.length+l'.length)+2048)*by'<=140737488355328) (hz:(Nat.ble 1 q && (Nat.ble 1 by' && Nat.beq z.length q))=true) (hw:firstL q l'.length xv M=some (l'.flatMap enc))
  (henc:∀ x,(enc x).length=q) (hfl:∀ x,allFlat (enc x)=true) (hk:∀ v' M',Vec M.next q ty enc M' v' (l ++ l')->M'.next=M.next+1->Keep (fun i=>b<=i /\ ∃ o n f e,v=.slice (some (i,o)) n f e) M M'->XD P sz ld ((d,v') :: E) M' (M' :: st) (k+1) xs K):XD P sz ((⟨some d,.app ty q by' z s x,g⟩,.anchor) :: ld) E M st k xs K:=by
 obtain ⟨v',M',h1,h2,h3,h4⟩:=Vec.appN (P:=P) hv hs hx hn h0 hb hz hw henc hfl
 exact zbx hg h1 (hk v' M' h2 h3 h4)
end
def FwB (b:Nat) (M:Mem) (x:FW) (f:Fr):Prop:=x.1=fky f /\ x.2.2.1=f.2.2.length /\ (f.2.2=[] ∨ ∃ i o,x.2.1=some (i,o) /\ i < b /\ ∀ k (hk:k < f.2.2.length),Rd1 M i (o+k*1) (I f.2.2[k]))
inductive FwLB (b:Nat) (M:Mem):List FW->List Fr->Prop
 | nil:FwLB b M [] []
 | cons {x:FW} {f:Fr} {xs:List FW} {fs:List Fr} (h:FwB b M x f) (h':FwLB b M xs fs):FwLB b M (x :: xs) (f :: fs)
theorem FwB.keep {b b':Nat} {M M':Mem} {F:Nat->Prop} {x:FW} {f:Fr} (h:FwB b M x f) (hk:Keep F M M') (hF:∀ i,F i->b<=i) (hb:b<=b'):FwB b' M' x f :=
 ⟨h.1,h.2.1,h.2.2.imp id fun ⟨i,o,h1,h2,h3⟩=>⟨i,o,h1,by omega,fun k hk'=>(h3 k hk').keep hk (fun hf=>by have:=hF i hf;omega)⟩⟩
theorem FwB.keep' {b:Nat} {M M':Mem} {F:Nat->Prop} {x:FW} {f:Fr} (h:FwB b M x f) (hk:Keep F M M') (hF:∀ i o,x.2.1=some (i,o)->f.2.2 ≠ []->¬ F i):FwB b M' x f :=
 ⟨h.1,h.2.1,by
  rcases h.2.2 with h0|⟨i,o,h1,h2,h3⟩
  ·exact .inl h0
  ·by_cases h0:f.2.2=[]
   ·exact .inl h0
   ·exact .inr ⟨i,o,h1,h2,fun k hk'=>(h3 k hk').keep hk (hF i o h1 h0)⟩⟩
theorem FwB.grow {b b':Nat} {M M':Mem} {x:FW} {f:Fr} (h:FwB b M x f) (hg:Grow M M') (hb:b<=b'):FwB b' M' x f:=h.keep (hg.to_keep (fun _=>False)) (fun _ h=>h.elim) hb
theorem FwLB.keep {b b':Nat} {M M':Mem} {F:Nat->Prop} {xs:List FW} {fs:List Fr} (h:FwLB b M xs fs) (hk:Keep F M M') (hF:∀ i,F i->b<=i) (hb:b<=b'):FwLB b' M' xs fs:=by
 induction h with
 | nil=>exact .nil
 | cons h _ ih=>exact .cons (h.keep hk hF hb) ih
theorem FwLB.grow {b b':Nat} {M M':Mem} {xs:List FW} {fs:List Fr} (h:FwLB b M xs fs) (hg:Grow M M') (hb:b<=b'):FwLB b' M' xs fs:=h.keep (hg.to_keep (fun _=>False)) (fun _ h=>h.elim) hb
theorem Vec.lt {α:Type} {b q:Nat} {ty:TypeId} {enc:α->List LV} {M:Mem} {a:Option (Nat × Nat)} {n:Nat} {f:Bool} {e:Nat} {l:List α} (h:Vec b q ty enc M (.slice a n f e) l):∀ i o,a=some (i,o)->i < M.next:=fun i o he=>by
 rcases h with ⟨_,h⟩|⟨j,h,h2,_⟩
 ·cases h;cases he
 ·cases h;cases he;exact h2.2
theorem FwLB.app {b:Nat} {M:Mem} {xs xs':List FW} {fs fs':List Fr} (h:FwLB b M xs fs) (h':FwLB b M xs' fs'):FwLB b M (xs ++ xs') (fs ++ fs'):=by
 induction h with
 | nil=>exact h'
 | cons h _ ih=>exact .cons h ih
theorem FwLB.len {b:Nat} {M:Mem} {xs:List FW} {fs:List Fr} (h:FwLB b M xs fs):xs.length=fs.length:=by
 induction h with
 | nil=>rfl
 | cons _ _ ih=>simp [ih]
theorem FwLB.l {b:Nat} {M:Mem} {xs:List FW} {fs:List Fr} (h:FwLB b M xs fs):FwL M xs fs:=by
 induction h with
 | nil=>exact .nil
 | cons h _ ih=>exact .cons ⟨h.1,h.2.1,h.2.2.imp id fun ⟨i,o,h1,h2,h3⟩=>⟨i,o,h1,h3⟩⟩ ih
theorem z9t {M:Mem} {x:Fr} {b:Option (Nat × Nat)} {g:Bool} {u:Nat} (h:SlI M b x.2.2):FwB M.next M ((x.1,x.2.1),b,x.2.2.length,g,u) x :=
 ⟨rfl,rfl,by
  rcases h with h|⟨i,o,h1,h2⟩
  ·exact .inl h
  ·by_cases h0:x.2.2=[]
   ·exact .inl h0
   ·refine .inr ⟨i,o,h1,?_,h2⟩
    have:=h2 0 (List.length_pos_iff.2 h0)
    exact this.2⟩
theorem z2f {m:Nat} {l:List FW} {M M':Mem} {ty:TypeId} {f:Bool} (hn:New M m (.cells true (l.flatMap fwc) ty) M'):firstL 3 l.length (.slice (some (m,0)) l.length f 3) M'=some (l.flatMap fwc) :=
 z2d (enc:=fwc) (l:=l) (fun _ _=>rfl) (fun k' hk'=>z2n (enc:=fwc) (l:=l) (At.new_same hn) (fun _ _=>rfl) hk')
theorem FsV.at {M:Mem} {a:Option (Nat × Nat)} {L:List Fr} (h:FsV M a L) {k:Nat} (hk:k < L.length):∃ i o b g u,a=some (i,o) /\ Rd M i (o+k*3) 3 [I (fe L k).1,I (fe L k).2.1,.slice b (fe L k).2.2.length g u] /\ SlI M b (fe L k).2.2:=by
 obtain ⟨i,o,b,g,u,h1,h2,b',g',u',h3,h4⟩:=h.rd hk
 cases h3
 exact ⟨i,o,b,g,u,h1,h2,h4⟩
set_option maxHeartbeats 16000000 in
theorem zku {M:Mem} {a:Option (Nat × Nat)} {L:List Fr} {f:Bool} {e:Nat} {v:LV} {x:Fr} (hs:FsV M a L) (hL:∀ z ∈ L,FrK z /\ z.2.2.length<=64) (hv:FrV M v x) (hx:FrK x /\ x.2.2.length<=64) (hln:L.length<=1000000) :
  CallOk Tryz.prog 114 [.slice a L.length f e,v] M (fun w M'=>(∃ a f e,w=.slice a (addR L x).length f e /\ FsV M' a (addR L x)) /\ Grow M M'):=by
 obtain ⟨bx,gq,ux,rfl,hsx⟩:=id hv
 refine z8 k114 rfl ?_
 dsimp only [x114,zipE,Nat.reduceAdd]
 (repeat' (first|(with_reducible intro _)|refine sv ?_|(refine sc ?_ ?_<;>(intro h;try first|exact h.elim|exact absurd rfl h|(exfalso;omega)))|(refine sg ?_ ?_<;>(intro h;(fail_if_success (have:True:=h));try first|exact h.elim|exact absurd rfl h|(exfalso;omega)))|assumption|exact xm|exact rfl))
 rename_i m1 M1 hN1 q1 q1'
 have hA1:At M1 m1 (.cells true [I x.1,I x.2.1,.slice bx x.2.2.length gq ux] 48):=At.new_same hN1
 have hs1:=hs.grow hN1.grow
 have hv1:=hv.grow hN1.grow
 have hsx1:=hsx.grow hN1.grow
 have hg1:=hN1.grow
 clear hN1
 refine z7 (fun z E ms M'=>∃ (k b:Nat) (dn:Bool) (xs:List FW) (fs:List Fr) (v:LV),z=L.length - k /\ k<=L.length /\ ms=[] /\ Has E [(0,.slice a L.length f e),(3,.ptr (some (m1,0))),(5,v),(6,.bool dn),(7,I k)] /\ M1.next<=b /\ b<=M'.next /\ Vec b 3 48 fwc M' v xs /\ FwLB b M' xs fs /\ xs.length<=k+(if dn=true then 1 else 0) /\ (fs ++ if dn then L.drop k else addR (L.drop k) x)=addR L x /\ Grow M1 M')
  ?_ (L.length - 0) _ _ _ ⟨0,M1.next,false,[],[],_,rfl,Nat.zero_le _,rfl,.cons rfl (.cons rfl (.cons rfl (.cons rfl (.cons rfl .nil)))),Nat.le_refl _,Nat.le_refl _,Vec.nil,.nil,Nat.zero_le _,rfl,Grow.refl _⟩
 rintro z E ms M2 ⟨k,b,dn,xs,fs,v2,rfl,hk,rfl,hE,hb1,hb2,hvx,hfx,hxl,heq,hg2⟩
 refine zw hE ?_
 obtain ⟨a3,f3,e3,rfl⟩:=hvx.shape
 have hA2:=At.grow hg2 hA1
 have hsx2:=hsx1.grow hg2
 have hv2:=hv1.grow hg2
 have hxl0:xs.length<=k+1:=by split at hxl<;>omega
 by_cases hlast:k=L.length
 ·subst hlast
  rw [List.drop_length] at heq
  cases dn with
  | true =>
   have heq:fs ++ []=addR L x:=heq
   rw [List.append_nil] at heq
   subst heq
   (repeat' (first|(with_reducible intro _)|refine sv ?_|(refine sc ?_ ?_<;>(intro h;try first|exact h.elim|exact absurd rfl h|(exfalso;omega)))|(refine sg ?_ ?_<;>(intro h;(fail_if_success (have:True:=h));try first|exact h.elim|exact absurd rfl h|(exfalso;omega)))|assumption|exact xm|exact rfl))
   ((with_reducible first|apply z9|apply z2);exact rx)
   obtain ⟨a,f,e,he,hfs⟩:=zel hvx hfx.l
   exact ⟨⟨a,f,e,he,hfs⟩,hg1.trans hg2⟩
  | false =>
   have heq:fs ++ [x]=addR L x:=heq
   (repeat' (first|(with_reducible intro _)|refine sv ?_|(refine sc ?_ ?_<;>(intro h;try first|exact h.elim|exact absurd rfl h|(exfalso;omega)))|(refine sg ?_ ?_<;>(intro h;(fail_if_success (have:True:=h));try first|exact h.elim|exact absurd rfl h|(exfalso;omega)))|assumption|exact xm|exact rfl))
   rename_i n5 M5 hN5 q5 q5'
   have hvx5:=hvx.grow hN5.grow
   refine z4v (l':=[((x.1,x.2.1),bx,x.2.2.length,gq,ux)]) (by exact gd) hvx5 rfl rfl rfl (by simp) (by simp;omega) rfl (z2f (l:=[((x.1,x.2.1),bx,x.2.2.length,gq,ux)]) hN5) (fun _=>rfl) (fun _=>rfl) ?_
   intro v6 M6 hv6 e6 hk6
   have g5:Grow M1 M5:=hg2.trans hN5.grow
   have g6:Grow M1 M6:=Keep.to_grow' g5 hk6 (fun i hi=>by have:=hi.1;omega)
   have hfx6:=(hfx.grow hN5.grow (Nat.le_refl _)).keep hk6 (fun i hi=>hi.1) (b':=M5.next) (by omega)
   have hx6:=(z9t (x:=x) (g:=gq) (u:=ux) hsx1).grow g6 (b':=M5.next) (by have:=g5.le;omega)
   obtain ⟨a,f,e,he,hfs⟩:=zel hv6 (hfx6.app (.cons hx6 .nil)).l
   rw [heq] at he hfs
   subst he
   (repeat' (first|(with_reducible intro _)|refine sv ?_|(refine sc ?_ ?_<;>(intro h;try first|exact h.elim|exact absurd rfl h|(exfalso;omega)))|(refine sg ?_ ?_<;>(intro h;(fail_if_success (have:True:=h));try first|exact h.elim|exact absurd rfl h|(exfalso;omega)))|assumption|exact xm|exact rfl))
   ((with_reducible first|apply z9|apply z2);exact rx)
   exact ⟨⟨a,f,e,rfl,hfs⟩,hg1.trans g6⟩
 have hlt:k < L.length:=by omega
 obtain ⟨i,o,bk,gk,uk,rfl,hrk,hsk⟩:=FsV.at hs1 hlt
 have hLk:=hL (fe L k) (by rw [z4k hlt];exact List.getElem_mem hlt)
 have hdr:L.drop k=fe L k :: L.drop (k+1):=by rw [z4k hlt];exact List.drop_eq_getElem_cons hlt
 rw [hdr] at heq
 have hr2:=hrk.grow hg2
 have hvk2:FrV M2 (.agg [I (fe L k).1,I (fe L k).2.1,.slice bk (fe L k).2.2.length gk uk]) (fe L k):=⟨_,_,_,rfl,hsk.grow hg2⟩
 generalize fe L k=y at *
 generalize hrest:L.drop (k+1)=rest at *
 have hxB:=z9t (x:=x) (g:=gq) (u:=ux) hsx1
 have hyB:=z9t (x:=y) (g:=gk) (u:=uk) hsk
 have hva:=Vec.lt hvx
 have hkx:keyI x=24*x.1+x.2.1:=rfl
 have hky:keyI y=24*y.1+y.2.1:=rfl
 have hstep:∀ {v':LV} {b':Nat} {M5 M6:Mem} {l':List FW} {fl':List Fr},Vec M5.next 3 48 fwc M6 v' (xs ++ l')->M6.next=M5.next+1->Grow M2 M5->Keep (fun i=>b<=i /\ ∃ o n f e,LV.slice a3 xs.length f3 e3=.slice (some (i,o)) n f e) M5 M6->FwLB M5.next M6 l' fl' ->
   M1.next<=M5.next /\ M5.next<=M6.next /\ FwLB M5.next M6 (xs ++ l') (fs ++ fl') /\ Grow M1 M6:=fun {v'} {b'} {M5} {M6} {l'} {fl'} h1 h2 h3 h4 h5=>by
  have:=h3.le
  have:=hg2.le
  refine ⟨by omega,by omega,((hfx.grow h3 (Nat.le_refl _)).keep h4 (fun i hi=>hi.1) (by omega)).app h5,Keep.to_grow' (hg2.trans h3) h4 (fun i hi=>by have:=hi.1;omega)⟩
 cases dn with
 | true =>
  have heq:fs ++ y :: rest=addR L x:=heq
  (have hrd0:=hr2;repeat' (first|(with_reducible intro _)|refine sv ?_|(refine sc ?_ ?_<;>(intro h;try first|exact h.elim|exact absurd rfl h|(exfalso;omega)))|(refine sg ?_ ?_<;>(intro h;(fail_if_success (have:True:=h));try first|exact h.elim|exact absurd rfl h|(exfalso;omega)))|assumption|exact xm|exact rfl))
  rename_i n5 M5 hN5 q5 q5'
  have hvx5:=hvx.grow hN5.grow
  refine z4v (l':=[((y.1,y.2.1),bk,y.2.2.length,gk,uk)]) (by exact gd) hvx5 rfl rfl rfl (by simp) (by simp;omega) rfl (z2f (l:=[((y.1,y.2.1),bk,y.2.2.length,gk,uk)]) hN5) (fun _=>rfl) (fun _=>rfl) ?_
  intro v6 M6 hv6 e6 hk6
  have g6:Grow M1 M6:=Keep.to_grow' (hg2.trans hN5.grow) hk6 (fun i hi=>by have:=hi.1;omega)
  have hy6:=hyB.grow g6 (b':=M5.next) (by have:=hg2.le;omega)
  obtain ⟨r1,r2,r3,r4⟩:=hstep (b':=b) hv6 e6 hN5.grow hk6 (.cons hy6 .nil)
  clear hN5 hk6
  (repeat' (first|(with_reducible intro _)|refine sv ?_|(refine sc ?_ ?_<;>(intro h;try first|exact h.elim|exact absurd rfl h|(exfalso;omega)))|(refine sg ?_ ?_<;>(intro h;(fail_if_success (have:True:=h));try first|exact h.elim|exact absurd rfl h|(exfalso;omega)))|assumption|exact xm|exact rfl))
  exact zd (L.length - (k+1)) (by omega) ⟨k+1,M5.next,true,_,_,v6,rfl,by omega,rfl,.cons rfl (.cons rfl (.cons rfl (.cons rfl (.cons rfl .nil)))),r1,r2,hv6,r3,by simp;omega,by rw [hrest,<- heq];simp,r4⟩
 | false =>
  have hxl:xs.length<=k:=hxl
  have heq:fs ++ addR (y :: rest) x=addR L x:=heq
  have hdef:addR (y :: rest) x=if keyI y=keyI x then (y.1,y.2.1,bothL y.2.2 x.2.2) :: rest else if keyI y > keyI x then x :: y :: rest else y :: addR rest x:=rfl
  rw [hdef,hkx,hky] at heq
  (have hrd0:=hr2;repeat' (first|(with_reducible intro _)|refine sv ?_|(refine sc ?_ ?_<;>(intro h;try first|exact h.elim|exact absurd rfl h|(exfalso;omega)))|((with_reducible first|apply zu|apply zr|apply ze);exact gd;exact rfl;exact rfl;(first|exact z5i (hvk2.grow (xg)) hLk.1|exact z5i (hv2.grow (xg)) hx.1))|(refine sg ?_ ?_<;>(intro h;(fail_if_success (have:True:=h));try first|exact h.elim|exact absurd rfl h|(exfalso;omega)))|assumption|exact xm|exact rfl))
  ·rw [if_pos h] at heq
   rename_i MA hgA qA MB hgB qB
   have gB:Grow M2 MB:=hgA.trans hgB
   clear hgA hgB
   (repeat' (first|(with_reducible intro _)|refine sv ?_|(refine sc ?_ ?_<;>(intro h;try first|exact h.elim|exact absurd rfl h|(exfalso;omega)))|((with_reducible first|apply zl|apply zn|apply zc);exact gd;exact rfl;exact rfl;(first|exact zj6 (hvk2.grow gB) (hv2.grow gB) (by omega) (by omega)))|(refine sg ?_ ?_<;>(intro h;(fail_if_success (have:True:=h));try first|exact h.elim|exact absurd rfl h|(exfalso;omega)))|assumption|exact xm|exact rfl))
   rename_i w4 M4 hq
   obtain ⟨⟨a4,f4,e4,rfl,hs4⟩,hg4⟩:=hq
   (repeat' (first|(with_reducible intro _)|refine sv ?_|(refine sc ?_ ?_<;>(intro h;try first|exact h.elim|exact absurd rfl h|(exfalso;omega)))|(refine sg ?_ ?_<;>(intro h;(fail_if_success (have:True:=h));try first|exact h.elim|exact absurd rfl h|(exfalso;omega)))|assumption|exact xm|exact rfl))
   rename_i n5 M5 hN5 q5 q5'
   have g25:Grow M2 M5:=gB.trans (hg4.trans hN5.grow)
   have hvx5:=hvx.grow g25
   refine z7b (l':=[((y.1,y.2.1),a4,(bothL y.2.2 x.2.2).length,f4,e4)]) (by exact gd) hvx5 rfl rfl rfl (by simp) (by simp;omega) rfl (z2f (l:=[((y.1,y.2.1),a4,(bothL y.2.2 x.2.2).length,f4,e4)]) hN5) (fun _=>rfl) (fun _=>rfl) ?_
   intro v6 M6 hv6 e6 hk6
   have hs5:=hs4.grow hN5.grow
   have hB5:=z9t (x:=(y.1,y.2.1,bothL y.2.2 x.2.2)) (g:=f4) (u:=e4) hs5.sl
   have hB6:=hB5.keep' hk6 (fun i o he hne hF=>by
    rcases hs5 with h0|⟨i',o',h1,h2,h3⟩
    ·exact hne h0
    ·have he:a4=some (i,o):=he
     rw [h1] at he
     cases he
     obtain ⟨hb,o2,n2,f2,e2,h4⟩:=hF
     cases h4
     have:=hva _ _ rfl
     have:=gB.le
     omega)
   obtain ⟨r1,r2,r3,r4⟩:=hstep (b':=b) hv6 e6 g25 hk6 (.cons hB6 .nil)
   clear hN5 hk6
   (repeat' (first|(with_reducible intro _)|refine sv ?_|(refine sc ?_ ?_<;>(intro h;try first|exact h.elim|exact absurd rfl h|(exfalso;omega)))|(refine sg ?_ ?_<;>(intro h;(fail_if_success (have:True:=h));try first|exact h.elim|exact absurd rfl h|(exfalso;omega)))|assumption|exact xm|exact rfl))
   exact zd (L.length - (k+1)) (by omega) ⟨k+1,M5.next,true,_,_,v6,rfl,by omega,rfl,.cons rfl (.cons rfl (.cons rfl (.cons rfl (.cons rfl .nil)))),r1,r2,hv6,r3,by simp;omega,by rw [hrest,<- heq];simp,r4⟩
  ·rename_i MA hgA qA MB hgB qB hne MC hgC qC MD hgD qD n5 M5 hN5 q5 q5'
   rw [if_neg hne,if_pos h] at heq
   have g25:Grow M2 M5:=hgA.trans (hgB.trans (hgC.trans (hgD.trans hN5.grow)))
   have hvx5:=hvx.grow g25
   refine z7b (l':=[((x.1,x.2.1),bx,x.2.2.length,gq,ux),((y.1,y.2.1),bk,y.2.2.length,gk,uk)]) (by exact gd) hvx5 rfl rfl rfl (by simp) (by simp;omega) rfl (z2f (l:=[((x.1,x.2.1),bx,x.2.2.length,gq,ux),((y.1,y.2.1),bk,y.2.2.length,gk,uk)]) hN5) (fun _=>rfl) (fun _=>rfl) ?_
   intro v6 M6 hv6 e6 hk6
   have g6:Grow M1 M6:=Keep.to_grow' (hg2.trans g25) hk6 (fun i hi=>by have:=hi.1;omega)
   have hy6:=hyB.grow g6 (b':=M5.next) (by have:=hg2.le;have:=g25.le;omega)
   have hx6:=hxB.grow g6 (b':=M5.next) (by have:=hg2.le;have:=g25.le;omega)
   obtain ⟨r1,r2,r3,r4⟩:=hstep (b':=b) hv6 e6 g25 hk6 (.cons hx6 (.cons hy6 .nil))
   clear hN5 hk6
   (repeat' (first|(with_reducible intro _)|refine sv ?_|(refine sc ?_ ?_<;>(intro h;try first|exact h.elim|exact absurd rfl h|(exfalso;omega)))|(refine sg ?_ ?_<;>(intro h;(fail_if_success (have:True:=h));try first|exact h.elim|exact absurd rfl h|(exfalso;omega)))|assumption|exact xm|exact rfl))
   exact zd (L.length - (k+1)) (by omega) ⟨k+1,M5.next,true,_,_,v6,rfl,by omega,rfl,.cons rfl (.cons rfl (.cons rfl (.cons rfl (.cons rfl .nil)))),r1,r2,hv6,r3,by simp;omega,by rw [hrest,<- heq];simp,r4⟩
  ·rename_i MA hgA qA MB hgB qB hne MC hgC qC MD hgD qD n5 M5 hN5 q5 q5'
   rw [if_neg hne,if_neg (by omega)] at heq
   have g25:Grow M2 M5:=hgA.trans (hgB.trans (hgC.trans (hgD.trans hN5.grow)))
   have hvx5:=hvx.grow g25
   refine z4v (l':=[((y.1,y.2.1),bk,y.2.2.length,gk,uk)]) (by exact gd) hvx5 rfl rfl rfl (by simp) (by simp;omega) rfl (z2f (l:=[((y.1,y.2.1),bk,y.2.2.length,gk,uk)]) hN5) (fun _=>rfl) (fun _=>rfl) ?_
   intro v6 M6 hv6 e6 hk6
   have g6:Grow M1 M6:=Keep.to_grow' (hg2.trans g25) hk6 (fun i hi=>by have:=hi.1;omega)
   have hy6:=hyB.grow g6 (b':=M5.next) (by have:=hg2.le;have:=g25.le;omega)
   obtain ⟨r1,r2,r3,r4⟩:=hstep (b':=b) hv6 e6 g25 hk6 (.cons hy6 .nil)
   clear hN5 hk6
   (repeat' (first|(with_reducible intro _)|refine sv ?_|(refine sc ?_ ?_<;>(intro h;try first|exact h.elim|exact absurd rfl h|(exfalso;omega)))|(refine sg ?_ ?_<;>(intro h;(fail_if_success (have:True:=h));try first|exact h.elim|exact absurd rfl h|(exfalso;omega)))|assumption|exact xm|exact rfl))
   exact zd (L.length - (k+1)) (by omega) ⟨k+1,M5.next,false,_,_,v6,rfl,by omega,rfl,.cons rfl (.cons rfl (.cons rfl (.cons rfl (.cons rfl .nil)))),r1,r2,hv6,r3,by simp;omega,by rw [<-heq,hrest];simp,r4⟩
end Go.Proofs.YtbfnnllgdioccaaGreatDoor.C
end
section
open Go PvL Go.Proofs
variable {μ:Md}
set_option linter.unusedVariables false
set_option linter.unusedSimpArgs false
namespace Go.Proofs.YtbfnnllgdioccaaGreatDoor.C
theorem zbo:∀ (J:List Fr) (x:Fr),(addR J x).length<=J.length+1
 | [],x=>by show ([x]:List Fr).length<=_;simp
 | g :: l,x=>by
  have:=zbo l x
  unfold addR
  split
  ·simp
  ·split
   ·simp
   ·simp only [List.length_cons];omega
theorem zge {J:List Fr} {x:Fr} (hJ:∀ z ∈ J,FrK z /\ z.2.2.length<=64) (hx:FrK x /\ x.2.2.length<=64):∀ z ∈ addR J x,FrK z /\ z.2.2.length<=64:=by
 induction J with
 | nil=>intro z hz;obtain rfl:z=x:=by simpa [addR] using hz
        exact hx
 | cons g l ih =>
  intro z hz
  have hg:=hJ g (by simp)
  have hl:∀ z ∈ l,FrK z /\ z.2.2.length<=64:=fun z hz=>hJ z (by simp [hz])
  unfold addR at hz
  split at hz
  ·rcases List.mem_cons.1 hz with rfl|hz
   ·refine ⟨hg.1,?_⟩
    show (bothL g.2.2 x.2.2).length<=64
    rw [z0s];omega
   ·exact hl z hz
  ·split at hz
   ·rcases List.mem_cons.1 hz with rfl|hz
    ·exact hx
    ·exact hJ z hz
   ·rcases List.mem_cons.1 hz with rfl|hz
    ·exact hg
    ·exact ih hl z hz
theorem z7j {L:List Fr}:∀ {J:List Fr},(∀ z ∈ L,FrK z /\ z.2.2.length<=64)->(∀ z ∈ J,FrK z /\ z.2.2.length<=64)->(∀ z ∈ L.foldl addR J,FrK z /\ z.2.2.length<=64) /\ (L.foldl addR J).length<=J.length+L.length:=by
 induction L with
 | nil=>intro J _ h;exact ⟨h,Nat.le_refl _⟩
 | cons x L ih =>
  intro J hL hJ
  obtain ⟨h1,h2⟩:=ih (J:=addR J x) (fun z hz=>hL z (by simp [hz])) (zge hJ (hL x (by simp)))
  have:=zbo J x
  exact ⟨h1,by rw [List.foldl_cons,List.length_cons];omega⟩
set_option maxHeartbeats 4000000 in
theorem ze4 {M:Mem} {a:Option (Nat × Nat)} {L:List Fr} {f:Bool} {e:Nat} (hs:FsV M a L) (hL:∀ z ∈ L,FrK z /\ z.2.2.length<=64) (hln:L.length<=1000000) :
  CallOk Tryz.prog 65 [.slice a L.length f e] M (fun w M'=>(∃ a f e,w=.slice a (joinedR L).length f e /\ FsV M' a (joinedR L)) /\ Grow M M'):=by
 refine z8 k65 rfl ?_
 dsimp only [x65,zipE,Nat.reduceAdd]
 (repeat' (first|(with_reducible intro _)|refine sv ?_|(refine sc ?_ ?_<;>(intro h;try first|exact h.elim|exact absurd rfl h|(exfalso;omega)))|(refine sg ?_ ?_<;>(intro h;(fail_if_success (have:True:=h));try first|exact h.elim|exact absurd rfl h|(exfalso;omega)))|assumption|exact xm|exact rfl))
 refine z7 (fun z E ms M'=>∃ (k:Nat) (a2:Option (Nat × Nat)) (f2:Bool) (e2:Nat),z=L.length - k /\ k<=L.length /\ ms=[] /\ Has E [(0,.slice a L.length f e),(3,.slice a2 ((L.take k).foldl addR []).length f2 e2),(4,I k)] /\ FsV M' a2 ((L.take k).foldl addR []) /\ Grow M M')
  ?_ (L.length - 0) _ _ _ ⟨0,none,true,0,rfl,Nat.zero_le _,rfl,.cons rfl (.cons rfl (.cons rfl .nil)),.inl rfl,Grow.refl _⟩
 rintro z E ms M2 ⟨k,a2,f2,e2,rfl,hk,rfl,hE,hf2,hg2⟩
 refine zw hE ?_
 by_cases hlast:k=L.length
 ·subst hlast
  rw [List.take_length] at hf2 hE
  (repeat' (first|(with_reducible intro _)|refine sv ?_|(refine sc ?_ ?_<;>(intro h;try first|exact h.elim|exact absurd rfl h|(exfalso;omega)))|(refine sg ?_ ?_<;>(intro h;(fail_if_success (have:True:=h));try first|exact h.elim|exact absurd rfl h|(exfalso;omega)))|assumption|exact xm|exact rfl))
  ((with_reducible first|apply z9|apply z2);exact rx)
  rw [List.take_length]
  exact ⟨⟨a2,f2,e2,rfl,hf2⟩,hg2⟩
 have hlt:k < L.length:=by omega
 obtain ⟨i,o,bk,gk,uk,rfl,hrk,hsk⟩:=FsV.at (hs.grow hg2) hlt
 have hLk:=hL (fe L k) (by rw [z4k hlt];exact List.getElem_mem hlt)
 have hnext:(L.take (k+1)).foldl addR []=addR ((L.take k).foldl addR []) (fe L k):=by rw [z7i hlt,z4k hlt]
 obtain ⟨ha1,ha2⟩:=z7j (L:=L.take k) (J:=[]) (fun z hz=>hL z (List.mem_of_mem_take hz)) (fun z hz=>nomatch hz)
 rw [List.length_take] at ha2
 have ha3:([]:List Fr).length=0:=rfl
 generalize (L.take k).foldl addR []=J at *
 generalize fe L k=y at *
 have ca:=zku (f:=f2) (e:=e2) hf2 ha1 (v:=.agg [I y.1,I y.2.1,.slice bk y.2.2.length gk uk]) ⟨_,_,_,rfl,hsk⟩ hLk (by omega)
 (have hrd0:=hrk;repeat' (first|(with_reducible intro _)|refine sv ?_|(refine sc ?_ ?_<;>(intro h;try first|exact h.elim|exact absurd rfl h|(exfalso;omega)))|((with_reducible first|apply zl|apply zn|apply zc);exact gd;exact rfl;exact rfl;(first|exact ca))|(refine sg ?_ ?_<;>(intro h;(fail_if_success (have:True:=h));try first|exact h.elim|exact absurd rfl h|(exfalso;omega)))|assumption|exact xm|exact rfl))
 rename_i w3 M3 hq
 obtain ⟨⟨a3,f3,e3,rfl,hf3⟩,hg3⟩:=hq
 (repeat' (first|(with_reducible intro _)|refine sv ?_|(refine sc ?_ ?_<;>(intro h;try first|exact h.elim|exact absurd rfl h|(exfalso;omega)))|(refine sg ?_ ?_<;>(intro h;(fail_if_success (have:True:=h));try first|exact h.elim|exact absurd rfl h|(exfalso;omega)))|assumption|exact xm|exact rfl))
 exact zd (L.length - (k+1)) (by omega) ⟨k+1,a3,f3,e3,rfl,by omega,rfl,.cons rfl (.cons (by rw [hnext];rfl) (.cons rfl .nil)),by rw [hnext];exact hf3,hg2.trans hg3⟩
end Go.Proofs.YtbfnnllgdioccaaGreatDoor.C
end
section
open Go PvL Go.Proofs
set_option linter.unusedSimpArgs false
set_option linter.unusedVariables false
namespace Go.Proofs.YtbfnnllgdioccaaGreatDoor.C
theorem zmt {l l':List Int} {k:Nat} (hk:k < l.length) (hk':k < l'.length) (h:l[k] ≠ l'[k]):decide (l=l')=false:=by
 rw [decide_eq_false_iff_not]
 rintro rfl
 exact h rfl
set_option maxHeartbeats 2000000 in
theorem zj3 {M:Mem} {a b:Option (Nat × Nat)} {l l':List Int} {f f':Bool} {e e':Nat} (ha:SlI M a l) (hb:SlI M b l') (hl:l.length<=1000000000000000) (hl':l'.length<=1000000000000000) :
  CallOk Tryz.prog 16 [.slice a l.length f e,.slice b l'.length f' e'] M (fun w M'=>w=.bool (decide (l=l')) /\ M'=M):=by
 refine z8 k16 rfl ?_
 dsimp only [x16,zipE,Nat.reduceAdd]
 by_cases hne:l.length=l'.length
 ·(repeat' (first|(with_reducible intro _)|refine sv ?_|(refine sc ?_ ?_<;>(intro h;try first|exact h.elim|exact absurd rfl h|(exfalso;omega)))|(refine sg ?_ ?_<;>(intro h;(fail_if_success (have:True:=h));try first|exact h.elim|exact absurd rfl h|(exfalso;omega)))|assumption|exact xm|exact rfl))
  all_goals try (exfalso;omega)
  refine z7 (fun m E ms M'=>∃ k:Nat,m=l.length - k /\ k<=l.length /\ ms=[] /\ Has E [(0,.slice a l.length f e),(1,.slice b l'.length f' e'),(5,I k)] /\ M'=M /\ l.take k=l'.take k)
   ?_ l.length _ _ _ ⟨0,by omega,by omega,rfl,.cons rfl (.cons rfl (.cons rfl .nil)),rfl,rfl⟩
  rintro m E ms M1 ⟨k,rfl,hk,rfl,hE,rfl,hall⟩
  refine zw hE ?_
  by_cases hlast:k=l.length
  ·subst hlast
   (repeat' (first|(with_reducible intro _)|refine sv ?_|(refine sc ?_ ?_<;>(intro h;try first|exact h.elim|exact absurd rfl h|(exfalso;omega)))|(refine sg ?_ ?_<;>(intro h;(fail_if_success (have:True:=h));try first|exact h.elim|exact absurd rfl h|(exfalso;omega)))|assumption|exact xm|exact rfl))
   ((with_reducible first|apply z9|apply z2);exact rx)
   refine ⟨?_,rfl⟩
   rw [List.take_of_length_le (Nat.le_refl _),List.take_of_length_le (by omega)] at hall
   rw [decide_eq_true hall];rfl
  ·have hlt:k < l.length:=by omega
   have hlt':k < l'.length:=by omega
   obtain ⟨i,o,rfl,hr⟩:=ha.rd hlt
   obtain ⟨i2,o2,rfl,hr2⟩:=hb.rd hlt'
   by_cases heq:l[k]=l'[k]
   ·rw [<-heq] at hr2
    have htk:l.take (k+1)=l'.take (k+1):=by
     rw [List.take_succ_eq_append_getElem hlt,List.take_succ_eq_append_getElem hlt',hall,heq]
    generalize l[k]=p at *
    (have hrd0:=hr;have hrd1:=hr2;repeat' (first|(with_reducible intro _)|refine sv ?_|(refine sc ?_ ?_<;>(intro h;try first|exact h.elim|exact absurd rfl h|(exfalso;omega)))|(refine sg ?_ ?_<;>(intro h;(fail_if_success (have:True:=h));try first|exact h.elim|exact absurd rfl h|(exfalso;omega)))|assumption|exact xm|exact rfl))
    all_goals try (exfalso;omega)
    refine zd (l.length - (k+1)) (by omega) ⟨k+1,rfl,by omega,rfl,.cons rfl (.cons rfl (.cons rfl .nil)),rfl,htk⟩
   ·have hd:=zmt hlt hlt' heq
    rw [hd]
    generalize l[k]=p at *
    generalize l'[k]=q at *
    (have hrd0:=hr;have hrd1:=hr2;repeat' (first|(with_reducible intro _)|refine sv ?_|(refine sc ?_ ?_<;>(intro h;try first|exact h.elim|exact absurd rfl h|(exfalso;omega)))|(refine sg ?_ ?_<;>(intro h;(fail_if_success (have:True:=h));try first|exact h.elim|exact absurd rfl h|(exfalso;omega)))|assumption|exact xm|exact rfl))
    all_goals try (exfalso;omega)
    ((with_reducible first|apply z9|apply z2);exact rx)
    exact ⟨rfl,rfl⟩
 ·have hd:decide (l=l')=false:=by
   rw [decide_eq_false_iff_not];rintro rfl;exact hne rfl
  rw [hd]
  (repeat' (first|(with_reducible intro _)|refine sv ?_|(refine sc ?_ ?_<;>(intro h;try first|exact h.elim|exact absurd rfl h|(exfalso;omega)))|(refine sg ?_ ?_<;>(intro h;(fail_if_success (have:True:=h));try first|exact h.elim|exact absurd rfl h|(exfalso;omega)))|assumption|exact xm|exact rfl))
  all_goals try (exfalso;omega)
  ((with_reducible first|apply z9|apply z2);exact rx)
  exact ⟨rfl,rfl⟩
set_option maxHeartbeats 2000000 in
theorem zas {M:Mem} {v w:LV} {x y:Fr} (hv:FrV M v x) (hw:FrV M w y) (hl:x.2.2.length<=1000000000000000) (hl':y.2.2.length<=1000000000000000) :
  CallOk Tryz.prog 70 [v,w] M (fun r M'=>r=.bool (decide (x=y)) /\ Grow M M'):=by
 obtain ⟨a,f,e,rfl,hs⟩:=hv
 obtain ⟨b,f',e',rfl,hs'⟩:=hw
 obtain ⟨x1,x2,x3⟩:=x
 obtain ⟨y1,y2,y3⟩:=y
 dsimp only at *
 have hd:decide ((x1,x2,x3)=(y1,y2,y3))=(decide (x1=y1) && (decide (x2=y2) && decide (x3=y3))):=by
  rw [Bool.eq_iff_iff];simp
 rw [hd]
 have hc:∀ M',Grow M M'->CallOk Tryz.prog 16 [.slice a x3.length f e,.slice b y3.length f' e'] M' (fun w M''=>w=.bool (decide (x3=y3)) /\ M''=M'):=fun M' hg=>zj3 (hs.grow hg) (hs'.grow hg) hl hl'
 refine z8 k70 rfl ?_
 dsimp only [x70,zipE,Nat.reduceAdd]
 by_cases h1:x1=y1
 ·by_cases h2:x2=y2
  ·(repeat' (first|(with_reducible intro _)|refine sv ?_|(refine sc ?_ ?_<;>(intro h;try first|exact h.elim|exact absurd rfl h|(exfalso;omega)))|((with_reducible first|apply z02|apply z01|apply zq);exact gd;exact rfl;exact rfl;(first|exact hc _ (xg)))|(refine sg ?_ ?_<;>(intro h;(fail_if_success (have:True:=h));try first|exact h.elim|exact absurd rfl h|(exfalso;omega)))|assumption|exact xm|exact rfl))
   ((with_reducible first|apply z9|apply z2);exact rx)
   refine ⟨?_,xg⟩
   rw [decide_eq_true h1,decide_eq_true h2];rfl
  ·(repeat' (first|(with_reducible intro _)|refine sv ?_|(refine sc ?_ ?_<;>(intro h;try first|exact h.elim|exact absurd rfl h|(exfalso;omega)))|(refine sg ?_ ?_<;>(intro h;(fail_if_success (have:True:=h));try first|exact h.elim|exact absurd rfl h|(exfalso;omega)))|assumption|exact xm|exact rfl))
   ((with_reducible first|apply z9|apply z2);exact rx)
   refine ⟨?_,xg⟩
   rw [decide_eq_true h1,decide_eq_false h2];rfl
 ·(repeat' (first|(with_reducible intro _)|refine sv ?_|(refine sc ?_ ?_<;>(intro h;try first|exact h.elim|exact absurd rfl h|(exfalso;omega)))|(refine sg ?_ ?_<;>(intro h;(fail_if_success (have:True:=h));try first|exact h.elim|exact absurd rfl h|(exfalso;omega)))|assumption|exact xm|exact rfl))
  ((with_reducible first|apply z9|apply z2);exact rx)
  refine ⟨?_,xg⟩
  rw [decide_eq_false h1];rfl
end Go.Proofs.YtbfnnllgdioccaaGreatDoor.C
end
section
open Go PvL Go.Proofs
variable {μ:Md}
set_option linter.unusedVariables false
set_option linter.unusedSectionVars false
set_option linter.unusedSimpArgs false
namespace Go.Proofs.YtbfnnllgdioccaaGreatDoor.C
theorem FwL.app {M:Mem} {xs xs':List FW} {fs fs':List Fr} (h:FwL M xs fs) (h':FwL M xs' fs'):FwL M (xs ++ xs') (fs ++ fs'):=by
 induction h with
 | nil=>exact h'
 | cons h _ ih=>exact .cons h ih
theorem FsV.fw {M:Mem} {a:Option (Nat × Nat)} {L:List Fr} {f:Bool} {e:Nat} (h:FsV M a L):∃ xs:List FW,FwLB M.next M xs L /\ (L ≠ []->∀ M',Grow M M'->firstL 3 xs.length (.slice a L.length f e) M'=some (xs.flatMap fwc)):=by
 rcases h with rfl|⟨i,o,rfl,h2⟩
 ·exact ⟨[],.nil,fun h=>absurd rfl h⟩
 ·have key:∀ n,n<=L.length->∃ xs:List FW,xs.length=n /\ FwLB M.next M xs (L.take n) /\ ∀ k (hk:k < xs.length),Rd M i (o+k*3) 3 (fwc xs[k]):=by
   intro n
   induction n with
   | zero=>intro _;exact ⟨[],rfl,by rw [List.take_zero];exact .nil,fun k hk=>absurd hk (Nat.not_lt_zero _)⟩
   | succ n ih =>
    intro hn
    obtain ⟨xs,h3,h4,h5⟩:=ih (by omega)
    obtain ⟨b,g,u,h6,h7⟩:=h2 n (by omega)
    refine ⟨xs ++ [((L[n].1,L[n].2.1),b,L[n].2.2.length,g,u)],by simp [h3],?_,fun k hk=>?_⟩
    ·rw [List.take_succ_eq_append_getElem (by omega)]
     exact h4.app (.cons (z9t h7) .nil)
    ·by_cases hkn:k < xs.length
     ·rw [List.getElem_append_left hkn];exact h5 k hkn
     ·have:k=xs.length:=by simp at hk;omega
      subst this
      rw [List.getElem_append_right (Nat.le_refl _)]
      simp only [Nat.sub_self,List.getElem_cons_zero]
      rw [h3];exact h6
  obtain ⟨xs,h3,h4,h5⟩:=key L.length (Nat.le_refl _)
  rw [List.take_length] at h4
  exact ⟨xs,h4,fun _ M' hg=>z2d (fun _ _=>rfl) fun k hk=>(h5 k hk).grow hg⟩
section
variable {α:Type} {b q:Nat} {ty:TypeId} {enc:α->List LV} {M:Mem} {v:LV} {l l':List α} {P:Program} [Orc P] {sz:Nat} {E:Env} {K:Env->Mem->Prop} {ll:List XG} {d:Nat} {g:Option (Nat × Bool)} {s x:XO} {st:List Mem} {k:Nat} {xs:List (Nat × Nat × (Mem->Prop))} {ld:List (XG × XK)} {by':Nat} {z:List LV} {xv:LV}
theorem Vec.app0 (h:Vec b q ty enc M v l) (hs:xval E s=some v) (hx:xval E x=some xv) (hn:lenOfL xv=some 0):xstep P (.app ty q by' z s x) E M=some (.val v M):=by
 obtain ⟨a,f,e,rfl⟩:=h.shape
 show ob (xval E s) _=_
 rw [hs,z0,hx,z0]
 show ob (lenOfL xv) _=_
 rw [hn,z0];rfl
theorem z7a (hg:GOn E g) (hv:Vec b q ty enc M v l) (hs:xval E s=some v) (hx:xval E x=some xv) (hn:lenOfL xv=some l'.length) (hb:(2*(l.length+l'.length)+2048)*by'<=140737488355328) (hz:(Nat.ble 1 q && (Nat.ble 1 by' && Nat.beq z.length q))=true) (hw:l' ≠ []->firstL q l'.length xv M=some (l'.flatMap enc))
  (henc:∀ x,(enc x).length=q) (hfl:∀ x,allFlat (enc x)=true) (hbM:b<=M.next) (hk:∀ v' M',Vec b q ty enc M' v' (l ++ l')->M.next<=M'.next->Keep (fun i=>b<=i /\ ∃ o n f e,v=.slice (some (i,o)) n f e) M M'->XD P sz ld ((d,v') :: E) M' (M' :: st) (k+1) xs K):XD P sz ((⟨some d,.app ty q by' z s x,g⟩,.anchor) :: ld) E M st k xs K:=by
 cases l' with
 | nil=>exact zbx hg (Vec.app0 hv hs hx hn) (hk v M (by rw [List.append_nil];exact hv) (Nat.le_refl _) (Keep.refl _ _))
 | cons y ys =>
  obtain ⟨v',M',h1,h2,h3,h4⟩:=Vec.app (P:=P) hv hs hx hn (by simp) hb hz (hw (by simp)) henc hfl hbM
  exact zbx hg h1 (hk v' M' h2 (by omega) h4)
end
theorem FrOk.all {L:List Fr} (h:FrOk L):∀ z ∈ L,FrK z /\ z.2.2.length<=64:=fun z hz=>⟨h.k z hz,(z8j (h z hz)).2⟩
set_option maxHeartbeats 8000000 in
theorem zgn {M:Mem} {v w:LV} {x y:Rl} (hv:RlV M v x) (hw:RlV M w y) (hx:RlIn x) (hy:RlIn y) :
  CallOk Tryz.prog 24 [v,w] M (fun r M'=>∃ q,r=.tup [q,I (mergeF x y).2] /\ RlV M' q (mergeF x y).1 /\ Grow M M'):=by
 have hv0:=hv
 have hw0:=hw
 obtain ⟨a,f,e,rfl,hs⟩:=hv
 obtain ⟨b,f',e',rfl,hs'⟩:=hw
 refine z8 k24 rfl ?_
 dsimp only [x24,zipE,Nat.reduceAdd]
 have hc1:=fun M' hg=>z4z (M:=M') (hv0.grow hg) hx
 have hc2:=fun M' hg=>z4z (M:=M') (hw0.grow hg) hy
 by_cases hex:errRl x=0
 case neg =>
  have hj:mergeF x y=(zRl,errRl x):=by unfold mergeF;rw [if_neg hex]
  rw [hj]
  (repeat' (first|(with_reducible intro _)|refine sv ?_|refine su ?_|(refine sc ?_ ?_<;>(intro h;try first|exact h.elim|exact absurd rfl h|(exfalso;omega)))|((with_reducible first|apply zu|apply zr|apply ze);exact gd;exact rfl;exact rfl;(first|exact hc1 _ (xg)))|(refine sg ?_ ?_<;>(intro h;(fail_if_success (have:True:=h));try first|exact h.elim|exact absurd rfl h|(exfalso;omega)))|assumption|exact xm|exact rfl))
  ((with_reducible first|apply z9|apply z2);exact rx)
  exact ⟨_,rfl,z5l _,xg⟩
 rw [hex] at hc1
 by_cases hey:errRl y=0
 case neg =>
  have hj:mergeF x y=(zRl,errRl y):=by unfold mergeF;rw [if_pos hex,if_neg hey]
  rw [hj]
  (repeat' (first|(with_reducible intro _)|refine sv ?_|refine su ?_|(refine sc ?_ ?_<;>(intro h;try first|exact h.elim|exact absurd rfl h|(exfalso;omega)))|((with_reducible first|apply zu|apply zr|apply ze);exact gd;exact rfl;exact rfl;(first|exact hc1 _ (xg)|exact hc2 _ (xg)))|(refine sg ?_ ?_<;>(intro h;(fail_if_success (have:True:=h));try first|exact h.elim|exact absurd rfl h|(exfalso;omega)))|assumption|exact xm|exact rfl))
  ((with_reducible first|apply z9|apply z2);exact rx)
  exact ⟨_,rfl,z5l _,xg⟩
 rw [hey] at hc2
 obtain ⟨hox,hlx,-,-⟩:=zdo hex
 obtain ⟨hoy,hly,-,-⟩:=zdo hey
 by_cases hnm:x.1=y.1
 case neg =>
  have hj:mergeF x y=(zRl,2):=by unfold mergeF;rw [if_pos hex,if_pos hey,if_neg hnm]
  rw [hj]
  (repeat' (first|(with_reducible intro _)|refine sv ?_|refine su ?_|(refine sc ?_ ?_<;>(intro h;try first|exact h.elim|exact absurd rfl h|(exfalso;omega)))|((with_reducible first|apply zu|apply zr|apply ze);exact gd;exact rfl;exact rfl;(first|exact hc1 _ (xg)|exact hc2 _ (xg)))|(refine sg ?_ ?_<;>(intro h;(fail_if_success (have:True:=h));try first|exact h.elim|exact absurd rfl h|(exfalso;omega)))|assumption|exact xm|exact rfl))
  ·((with_reducible first|apply z9|apply z2);exact rx)
   exact ⟨_,rfl,z5l _,xg⟩
  ·exact absurd (z5r h) hnm
 have hb:(x.1 == y.1)=true:=by rw [hnm];exact z2r _
 have hfo:FrOk (x.2 ++ y.2):=fun z hz=>(List.mem_append.1 hz).elim (hox z) (hoy z)
 have hmf:mergeF x y=if (joinedR (x.2 ++ y.2)).length<=128 then ((x.1,joinedR (x.2 ++ y.2)),0) else (zRl,6):=by
  unfold mergeF
  rw [if_pos hex,if_pos hey,if_pos hnm]
 rw [hmf]
 (repeat' (first|(with_reducible intro _)|refine sv ?_|refine su ?_|(refine sc ?_ ?_<;>(intro h;try first|exact h.elim|exact absurd rfl h|(exfalso;omega)))|((with_reducible first|apply zu|apply zr|apply ze);exact gd;exact rfl;exact rfl;(first|exact hc1 _ (xg)|exact hc2 _ (xg)))|(refine sg ?_ ?_<;>(intro h;(fail_if_success (have:True:=h));try first|exact h.elim|exact absurd rfl h|(exfalso;omega)))|assumption|exact xm|exact rfl))
 ·rw [hb] at h;cases h
 rename_i n1 M1 hN1 q1 q1' n2 M2 hN2 q2 q2' n3 M3 hN3 q3 q3' M4 hg4 q4 hz1 M5 hg5 q5 hz2
 have a1:At M5 n1 (.cells true [.str x.1,.slice a x.2.length f e] 24):=by
  have:At M1 n1 (.cells true [.str x.1,.slice a x.2.length f e] 24):=At.new_same hN1
  exact xm
 have a2:At M5 n2 (.cells true [.str y.1,.slice b y.2.length f' e'] 24):=by
  have:At M2 n2 (.cells true [.str y.1,.slice b y.2.length f' e'] 24):=At.new_same hN2
  exact xm
 have a3:At M5 n3 (.cells true [.str ⟨#[]⟩,.slice none 0 true 0] 24):=xm
 have g5:Grow M M5:=xg
 have hle5:=g5.le
 obtain ⟨xa,hxa,hfa⟩:=FsV.fw (f:=f) (e:=e) (hs.grow g5)
 obtain ⟨xb,hxb,hfb⟩:=FsV.fw (f:=f') (e:=e') (hs'.grow g5)
 have hla:=hxa.len
 have hlb:=hxb.len
 clear hN1 hN2 hN3 hg4 hg5
 have nea:xa ≠ []->x.2 ≠ []:=fun h1 h2=>h1 (List.length_eq_zero_iff.1 (by rw [hla,h2];rfl))
 have neb:xb ≠ []->y.2 ≠ []:=fun h1 h2=>h1 (List.length_eq_zero_iff.1 (by rw [hlb,h2];rfl))
 refine z7a (b:=M5.next) (l:=[]) (l':=xa) (by exact gd) Vec.nil rfl rfl (by show some x.2.length=_;rw [hla]) (by simp;omega) rfl (fun h=>hfa (nea h) _ (Grow.refl _)) (fun _=>rfl) (fun _=>rfl) (Nat.le_refl _) ?_
 intro v6 M6 hv6 e6 hk6
 have g6:Grow M5 M6:=Keep.to_grow' (Grow.refl _) hk6 (fun i hi=>hi.1)
 have a1:=At.grow g6 a1
 have a2:=At.grow g6 a2
 have a3:=At.grow g6 a3
 obtain ⟨a6,f6,e6',rfl⟩:=hv6.shape
 have b1:Rd1 M6 n2 (0+1) (.slice b y.2.length f' e'):=Rd1.of_at a2 rfl
 have c1:Rd1 M5 n1 (0+1) (.slice a x.2.length f e):=Rd1.of_at ‹At M5 n1 _› rfl
 have c2:Rd1 M5 n2 (0+1) (.slice b y.2.length f' e'):=Rd1.of_at ‹At M5 n2 _› rfl
 (have hrd0:=b1;repeat' (first|(with_reducible intro _)|refine sv ?_|(refine sc ?_ ?_<;>(intro h;try first|exact h.elim|exact absurd rfl h|(exfalso;omega)))|(refine sg ?_ ?_<;>(intro h;(fail_if_success (have:True:=h));try first|exact h.elim|exact absurd rfl h|(exfalso;omega)))|assumption|exact xm|exact rfl))
 refine z7a (l':=xb) (by exact gd) hv6 rfl rfl (by show some y.2.length=_;rw [hlb]) (by simp;omega) rfl (fun h=>hfb (neb h) _ g6) (fun _=>rfl) (fun _=>rfl) (by omega) ?_
 intro v7 M7 hv7 e7 hk7
 have g7:Grow M5 M7:=Keep.to_grow' g6 hk7 (fun i hi=>hi.1)
 have a1:=a1.keep hk7 (fun h=>by have:=h.1;have:=‹At M5 n1 _›.2;omega)
 have a2:=a2.keep hk7 (fun h=>by have:=h.1;have:=‹At M5 n2 _›.2;omega)
 have a3:=a3.keep hk7 (fun h=>by have:=h.1;have:=‹At M5 n3 _›.2;omega)
 have hxl:=(((hxa.l).grow g7).app ((hxb.l).grow g7))
 obtain ⟨a7,f7,e7',rfl,hf7⟩:=zel hv7 hxl
 have cj:=ze4 (f:=f7) (e:=e7') hf7 hfo.all (by rw [List.length_append];omega)
 clear hk6 hk7 hv6 hv7 hxl hf7
 (repeat' (first|(with_reducible intro _)|refine sv ?_|(refine sc ?_ ?_<;>(intro h;try first|exact h.elim|exact absurd rfl h|(exfalso;omega)))|((with_reducible first|apply zl|apply zn|apply zc);exact gd;exact rfl;exact rfl;(first|exact cj))|(refine sg ?_ ?_<;>(intro h;(fail_if_success (have:True:=h));try first|exact h.elim|exact absurd rfl h|(exfalso;omega)))|assumption|exact xm|exact rfl))
 rename_i w8 M8 hq
 obtain ⟨⟨a8,f8,e8,rfl,hf8⟩,hg8⟩:=hq
 have a1:=At.grow hg8 a1
 have a2:=At.grow hg8 a2
 have a3:=At.grow hg8 a3
 have g8:=(g5.trans g7).trans hg8
 by_cases hj:(joinedR (x.2 ++ y.2)).length<=128
 ·rw [if_pos hj]
  (repeat' (first|(with_reducible intro _)|refine sv ?_|(refine sc ?_ ?_<;>(intro h;try first|exact h.elim|exact absurd rfl h|(exfalso;omega)))|(refine sg ?_ ?_<;>(intro h;(fail_if_success (have:True:=h));try first|exact h.elim|exact absurd rfl h|(exfalso;omega)))|assumption|exact xm|exact rfl))
  all_goals try (exfalso;omega)
  rename_i M9 hU9 e9 hA9
  have g9:Grow M M9:=g8.upd hU9 (by omega)
  ((with_reducible first|apply z9|apply z2);exact rx)
  exact ⟨_,rfl,⟨a8,f8,e8,rfl,FsV.updr hf8 a3 hU9⟩,g9⟩
 ·rw [if_neg hj]
  (repeat' (first|(with_reducible intro _)|refine sv ?_|(refine sc ?_ ?_<;>(intro h;try first|exact h.elim|exact absurd rfl h|(exfalso;omega)))|(refine sg ?_ ?_<;>(intro h;(fail_if_success (have:True:=h));try first|exact h.elim|exact absurd rfl h|(exfalso;omega)))|assumption|exact xm|exact rfl))
  all_goals try (exfalso;omega)
  rename_i M9 hU9 e9 hA9
  have g9:Grow M M9:=g8.upd hU9 (by omega)
  ((with_reducible first|apply z9|apply z2);exact rx)
  exact ⟨_,rfl,z5l _,g9⟩
end Go.Proofs.YtbfnnllgdioccaaGreatDoor.C
end
section
open Go PvL Go.Proofs
variable {μ:Md}
set_option linter.unusedVariables false
set_option linter.unusedSimpArgs false
namespace Go.Proofs.YtbfnnllgdioccaaGreatDoor.C
set_option maxHeartbeats 4000000 in
theorem z9e {M:Mem} {a b:Option (Nat × Nat)} {L:List Fr} {f f':Bool} {e e':Nat} (hs:FsV M a L) (hs':FsV M b L) (hl:L.length<=1000000) (hL:∀ z ∈ L,z.2.2.length<=1000000) :
  CallOk Tryz.prog 33 [.slice a L.length f e,.slice b L.length f' e'] M (fun w M'=>w=.bool true /\ Grow M M'):=by
 refine z8 k33 rfl ?_
 dsimp only [x33,zipE,Nat.reduceAdd]
 (repeat' (first|(with_reducible intro _)|refine sv ?_|(refine sc ?_ ?_<;>(intro h;try first|exact h.elim|exact absurd rfl h|(exfalso;omega)))|(refine sg ?_ ?_<;>(intro h;(fail_if_success (have:True:=h));try first|exact h.elim|exact absurd rfl h|(exfalso;omega)))|assumption|exact xm|exact rfl))
 all_goals try (exfalso;omega)
 refine z7 (fun z E ms M'=>∃ (k:Nat),z=L.length - k /\ k<=L.length /\ ms=[] /\ Has E [(0,.slice a L.length f e),(1,.slice b L.length f' e'),(5,I k)] /\ Grow M M')
  ?_ (L.length - 0) _ _ _ ⟨0,rfl,Nat.zero_le _,rfl,.cons rfl (.cons rfl (.cons rfl .nil)),Grow.refl _⟩
 rintro z E ms M2 ⟨k,rfl,hk,rfl,hE,hg2⟩
 refine zw hE ?_
 by_cases hlast:k=L.length
 ·subst hlast
  (repeat' (first|(with_reducible intro _)|refine sv ?_|(refine sc ?_ ?_<;>(intro h;try first|exact h.elim|exact absurd rfl h|(exfalso;omega)))|(refine sg ?_ ?_<;>(intro h;(fail_if_success (have:True:=h));try first|exact h.elim|exact absurd rfl h|(exfalso;omega)))|assumption|exact xm|exact rfl))
  ((with_reducible first|apply z9|apply z2);exact rx)
  exact ⟨rfl,hg2⟩
 have hlt:k < L.length:=by omega
 obtain ⟨i,o,bk,gk,uk,rfl,hrk,hsk⟩:=(hs.grow hg2).rd hlt
 obtain ⟨i',o',bk',gk',uk',rfl,hrk',hsk'⟩:=(hs'.grow hg2).rd hlt
 have hln:=hL (fe L k) (by rw [z4k hlt];exact List.getElem_mem hlt)
 have cs:=zas hsk hsk' (by omega) (by omega)
 rw [decide_eq_true rfl] at cs
 (have hrd0:=hrk;have hrd1:=hrk';repeat' (first|(with_reducible intro _)|refine sv ?_|(refine sc ?_ ?_<;>(intro h;try first|exact h.elim|exact absurd rfl h|(exfalso;omega)))|((with_reducible first|apply zu|apply zr|apply ze);exact gd;exact rfl;exact rfl;(first|exact cs))|(refine sg ?_ ?_<;>(intro h;(fail_if_success (have:True:=h));try first|exact h.elim|exact absurd rfl h|(exfalso;omega)))|assumption|exact xm|exact rfl))
 rename_i M3 hg3 q3
 exact zd (L.length - (k+1)) (by omega) ⟨k+1,rfl,by omega,rfl,.cons rfl (.cons rfl (.cons rfl .nil)),hg2.trans hg3⟩
set_option maxHeartbeats 4000000 in
theorem zcv {M:Mem} {v w:LV} {r:Rl} (hv:RlV M v r) (hw:RlV M w r) (hl:r.2.length<=1000000) (hL:∀ z ∈ r.2,z.2.2.length<=1000000) :
  CallOk Tryz.prog 25 [v,w] M (fun u M'=>u=.bool true /\ Grow M M'):=by
 obtain ⟨a,f,e,rfl,hs⟩:=hv
 obtain ⟨b,f',e',rfl,hs'⟩:=hw
 refine z8 k25 rfl ?_
 dsimp only [x25,zipE,Nat.reduceAdd]
 have hb:(r.1 == r.1)=true:=z2r _
 have cs:=fun M' hg=>z9e (M:=M') (f:=f) (f':=f') (e:=e) (e':=e') (hs.grow hg) (hs'.grow hg) hl hL
 (repeat' (first|(with_reducible intro _)|refine sv ?_|(refine sc ?_ ?_<;>(intro h;try first|exact h.elim|exact absurd rfl h|(exfalso;omega)))|((with_reducible first|apply zu|apply zr|apply ze);exact gd;exact rfl;exact rfl;(first|exact cs _ (xg)))|(refine sg ?_ ?_<;>(intro h;(fail_if_success (have:True:=h));try first|exact h.elim|exact absurd rfl h|(exfalso;omega)))|assumption|exact xm|exact rfl))
 ·((with_reducible first|apply z9|apply z2);exact rx)
  exact ⟨rfl,xg⟩
 ·rw [hb] at h;cases h
theorem zhb {x y:Rl}:(mergeF x y).1.2.length<=128 /\ ∀ z ∈ (mergeF x y).1.2,FrK z /\ z.2.2.length<=64:=by
 have h0:zRl.2.length<=128 /\ ∀ z ∈ zRl.2,FrK z /\ z.2.2.length<=64:=⟨Nat.zero_le _,fun z hz=>nomatch hz⟩
 unfold mergeF
 by_cases hex:errRl x=0
 case neg=>rw [if_neg hex];exact h0
 by_cases hey:errRl y=0
 case neg=>rw [if_pos hex,if_neg hey];exact h0
 rw [if_pos hex,if_pos hey]
 by_cases hnm:x.1=y.1
 case neg=>rw [if_neg hnm];exact h0
 rw [if_pos hnm]
 have hfo:FrOk (x.2 ++ y.2):=fun z hz=>(List.mem_append.1 hz).elim ((zdo hex).1 z) ((zdo hey).1 z)
 by_cases hj:(joinedR (x.2 ++ y.2)).length<=128
 ·rw [if_pos hj]
  exact ⟨hj,(z7j (J:=[]) hfo.all (fun z hz=>absurd hz List.not_mem_nil)).1⟩
 ·rw [if_neg hj];exact h0
set_option maxHeartbeats 8000000 in
theorem z9g {M:Mem} {v w:LV} {x y:Rl} (hv:RlV M v x) (hw:RlV M w y) (hx:RlIn x) (hy:RlIn y) (hB:Base M) (hp:preOk M tabs=true) :
  CallN Tryz.prog 5 [v,w] M (fun r _=>r=.bool true):=by
 have hv0:=hv
 have hw0:=hw
 obtain ⟨a,f,e,rfl,hs⟩:=hv
 obtain ⟨b,f',e',rfl,hs'⟩:=hw
 refine z1t k5 rfl ?_
 dsimp only [x5,zipE,Nat.reduceAdd]
 obtain ⟨hmb1,hmb2⟩:=zhb (x:=x) (y:=y)
 (repeat' (first|(with_reducible intro _)|refine sv ?_|(refine sc ?_ ?_<;>(intro h;try first|exact h.elim|exact absurd rfl h|(exfalso;omega)))|(refine sg ?_ ?_<;>(intro h;(fail_if_success (have:True:=h));try first|exact h.elim|exact absurd rfl h|(exfalso;omega)))|assumption|exact xm|exact rfl))
 rename_i n1 M1 hN1 q1 q1' n2 M2 hN2 q2 q2'
 have g2:Grow M M2:=xg
 have a1:At M2 n1 (.cells true [.str x.1,.slice a x.2.length f e] 24):=by
  have:At M1 n1 (.cells true [.str x.1,.slice a x.2.length f e] 24):=At.new_same hN1
  exact At.new_old hN2 this
 have a2:At M2 n2 (.cells true [.str y.1,.slice b y.2.length f' e'] 24):=At.new_same hN2
 refine z6v (by exact gd) rfl rfl (zj5 (hv0.grow g2) (hw0.grow g2) hx hy) ?_
 rintro w3 M3 ⟨q3,rfl,hq3,hg3⟩
 have hq3:=hq3.to
 clear hN1 hN2
 have a1:=At.grow hg3 a1
 have a2:=At.grow hg3 a2
 have g3:=g2.trans hg3
 have hl3:=hg3.le
 obtain ⟨c3,d3,e3,rfl,hs3⟩:=id hq3
 (repeat' (first|(with_reducible intro _)|refine sv ?_|(refine sc ?_ ?_<;>(intro h;try first|exact h.elim|exact absurd rfl h|(exfalso;omega)))|((with_reducible first|apply zl|apply zn|apply zc);exact gd;exact rfl;exact rfl;(first|exact zgn (hv0.grow (xg)) (hw0.grow (xg)) hx hy))|(refine sg ?_ ?_<;>(intro h;(fail_if_success (have:True:=h));try first|exact h.elim|exact absurd rfl h|(exfalso;omega)))|assumption|exact xm|exact rfl))
 rename_i n4 M4 hN4 q4 q4' M5 hU5 q5 hA5 w6 M6 hq
 obtain ⟨q6,rfl,hq6,hg6⟩:=hq
 obtain ⟨c6,d6,e6,rfl,hs6⟩:=id hq6
 have hM1:=At.grow hg6 hA5
 have hq35:RlV M5 (.agg [.str (mergeF x y).1.1,.slice c3 (mergeF x y).1.2.length d3 e3]) (mergeF x y).1:=hq3.grow (xg)
 have hq36:=hq35.grow hg6
 have g6:Grow M M6:=xg
 have hl6:=hg6.le
 clear hN4 hU5
 (repeat' (first|(with_reducible intro _)|refine sv ?_|(refine sc ?_ ?_<;>(intro h;try first|exact h.elim|exact absurd rfl h|(exfalso;omega)))|(refine sg ?_ ?_<;>(intro h;(fail_if_success (have:True:=h));try first|exact h.elim|exact absurd rfl h|(exfalso;omega)))|assumption|exact xm|exact rfl))
 rename_i n7 M7 hN7 q7 q7' M8 hU8 q8 hA8
 have g68:Grow M6 M8:=xg
 have hp8:preOk M8 tabs=true:=z44 (Ext.of_grow (g6.trans g68) hB) hp
 have cs:=fun M' (hg:Grow M8 M')=>zcv (M:=M') ((hq36.grow g68).grow hg) ((hq6.grow g68).grow hg) (by omega) (fun z hz=>by have:=(hmb2 z hz).2;omega)
 have hM8:=At.grow g68 hM1
 have hp9:∀ M',Grow M8 M'->preOk M' tabs=true:=fun M' hg=>z44 (Ext.of_grow ((g6.trans g68).trans hg) hB) hp
 clear hN7 hU8
 generalize (mergeF x y).2=EN at *
 (repeat' (first|(with_reducible intro _)|refine sv ?_|(refine sc ?_ ?_<;>(intro h;try first|exact h.elim|exact absurd rfl h|(exfalso;omega)))|((with_reducible first|apply z02|apply z01|apply zq);exact gd;exact rfl;exact rfl;(first|exact zja (hp9 _ (xg))))|((with_reducible first|apply zu|apply zr|apply ze);exact gd;exact rfl;exact rfl;(first|exact cs _ (xg)))|(refine sg ?_ ?_<;>(intro h;(fail_if_success (have:True:=h));try first|exact h.elim|exact absurd rfl h|(exfalso;omega)))|assumption|exact xm|exact rfl))
 all_goals try (exfalso;simp_all;done)
 ((with_reducible first|apply z9|apply z2);exact rx)
 rfl
end Go.Proofs.YtbfnnllgdioccaaGreatDoor.C
end
