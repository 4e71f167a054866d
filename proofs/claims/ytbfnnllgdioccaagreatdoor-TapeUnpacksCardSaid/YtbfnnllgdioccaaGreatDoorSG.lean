/-
 Part of the proof of TapeUnpacks. No condition beyond those in each theorem.
-/
import Derived.Test.YtbfnnllgdioccaaGreatDoorSD
import Derived.Test.YtbfnnllgdioccaaGreatDoorSF
import Derived.Test.YtbfnnllgdioccaaGreatDoorSB
import Derived.Test.YtbfnnllgdioccaaGreatDoorTW
section
open Go PvL Go.Proofs
set_option linter.unusedSimpArgs false
set_option linter.unusedVariables false
variable {μ:Md}
namespace Go.Proofs.YtbfnnllgdioccaaGreatDoor.C
section
variable {α:Type} {b q:Nat} {ty:TypeId} {enc:α->List LV} {M:Mem} {v:LV} {l l':List α} {P:Program} [Orc P] {sz:Nat} {E:Env} {K:Env->Mem->Prop} {ll:List XG} {d:Nat} {g:Option (Nat × Bool)} {s x:XO} {st:List Mem} {k:Nat} {xs:List (Nat × Nat × (Mem->Prop))} {ld:List (XG × XK)} {by':Nat} {z:List LV} {xv:LV}
theorem Vec.appN(h:Vec b q ty enc M v l)(hs:xval E s=some v)(hx:xval E x=some xv)(hn:z0y xv=some l'.length)(h0:0 < l'.length)
  (hb:(2*(l.length+l'.length)+2048)*by'<=140737488355328) (hz:(Nat.ble 1 q && (Nat.ble 1 by' && Nat.beq z.length q))=true) (hw:z03 q l'.length xv M=some (l'.flatMap enc))
  (henc:∀ x,(enc x).length=q) (hfl:∀ x,ze (enc x)=true) :
  ∃ v' M',zf P (.app ty q by' z s x) E M=some (.val v' M') /\ Vec M.next q ty enc M' v' (l ++ l') /\ M'.next=M.next+1 /\ Keep (fun i=>b<=i /\ ∃ o n f e,v=.slice (some (i,o)) n f e) M M':=by
 have hf:=z1v (l:=l') (enc:=enc) (fun x _=>hfl x)
 rcases h with⟨rfl,rfl⟩|⟨i,rfl,h2,h3⟩
 ·refine⟨_,_,z4v hs hx hn h0 (by simpa using hb) hz rfl hw hf (.inl rfl),.inr ⟨M.next,?_,?_,Nat.le_refl _⟩,rfl,?_⟩
  ·rw[List.nil_append,Nat.zero_add]
  ·rw[List.nil_append,List.nil_append];exact⟨by rw[Mem.get_push,if_pos rfl],Nat.lt_succ_self _⟩
  ·have hN:New M M.next (.cells true ([] ++ l'.flatMap enc) (apE ty)) (M.push (.cells true ([] ++ l'.flatMap enc) (apE ty))):=⟨rfl,rfl⟩
   exact hN.grow.to_keep _
 ·have ho:z03 q l.length (.slice (some (i,0)) l.length false q) M=some (l.flatMap enc):=by
   rw[z2v h2 (by rw[z13 (fun x _=>henc x)];omega),List.drop_zero,List.take_of_length_le (by rw[z13 (fun x _=>henc x)];omega)]
  have hK:Kill M i M.next (.cells true (l.flatMap enc ++ l'.flatMap enc) (apE ty)) ((M.upd i none).push (.cells true (l.flatMap enc ++ l'.flatMap enc) (apE ty))):=⟨rfl,rfl⟩
  refine⟨_,_,z3x hs hx hn h0 hb hz ho hw hf h2 (by rw[show Nat.beq (apE ty) (apE ty)=true by simp,Bool.or_true]),.inr ⟨M.next,by rw[List.length_append],?_,Nat.le_refl _⟩,hK.next,hK.keep.weaken fun j hj=>?_⟩
  ·rw[List.flatMap_append];exact hK.same
  ·subst hj;exact⟨h3,_,_,_,_,rfl⟩
theorem z6u(hg:GOn E g)(hv:Vec b q ty enc M v l)(hs:xval E s=some v)(hx:xval E x=some xv)(hn:z0y xv=some l'.length)(h0:0 < l'.length)(hb:(2*(l.length+l'.length)+2048)*by'<=140737488355328)(hz:(Nat.ble 1 q && (Nat.ble 1 by' && Nat.beq z.length q))=true)(hw:z03 q l'.length xv M=some (l'.flatMap enc))
  (henc:∀ x,(enc x).length=q) (hfl:∀ x,ze (enc x)=true) (hk:∀ v' M',Vec M.next q ty enc M' v' (l ++ l')->M'.next=M.next+1->Keep (fun i=>b<=i /\ ∃ o n f e,v=.slice (some (i,o)) n f e) M M'->XW μ P sz ll ((d,v') :: E) M' K):XW μ P sz (⟨some d,.app ty q by' z s x,g⟩ :: ll) E M K:=by
 obtain⟨v',M',h1,h2,h3,h4⟩:=Vec.appN (P:=P) hv hs hx hn h0 hb hz hw henc hfl
 exact zls hg h1 (hk v' M' h2 h3 h4)
theorem z9k(hg:GOn E g)(hv:Vec b q ty enc M v l)(hs:xval E s=some v)(hx:xval E x=some xv)(hn:z0y xv=some l'.length)(h0:0 < l'.length)(hb:(2*(l.length+l'.length)+2048)*by'<=140737488355328)(hz:(Nat.ble 1 q && (Nat.ble 1 by' && Nat.beq z.length q))=true)(hw:z03 q l'.length xv M=some (l'.flatMap enc))
  (henc:∀ x,(enc x).length=q) (hfl:∀ x,ze (enc x)=true) (hk:∀ v' M',Vec M.next q ty enc M' v' (l ++ l')->M'.next=M.next+1->Keep (fun i=>b<=i /\ ∃ o n f e,v=.slice (some (i,o)) n f e) M M'->XD P sz ld ((d,v') :: E) M' (M' :: st) (k+1) xs K):XD P sz ((⟨some d,.app ty q by' z s x,g⟩,.anchor) :: ld) E M st k xs K:=by
 obtain⟨v',M',h1,h2,h3,h4⟩:=Vec.appN (P:=P) hv hs hx hn h0 hb hz hw henc hfl
 exact zhm hg h1 (hk v' M' h2 h3 h4)
end
def FwB(b:Nat)(M:Mem)(x:FW)(f:Fr):Prop:=x.1=fky f /\ x.2.2.1=f.2.2.length /\ (f.2.2=[] ∨ ∃ i o,x.2.1=some (i,o) /\ i < b /\ ∀ k (hk:k < f.2.2.length),Rd1 M i (o+k*1) (I f.2.2[k]))
inductive FwLB (b:Nat) (M:Mem):List FW->List Fr->Prop
 | nil:FwLB b M [] []
 | cons {x:FW} {f:Fr} {xs:List FW} {fs:List Fr} (h:FwB b M x f) (h':FwLB b M xs fs):FwLB b M (x :: xs) (f :: fs)
theorem FwB.keep{b b':Nat}{M M':Mem}{F:Nat->Prop}{x:FW}{f:Fr}(h:FwB b M x f)(hk:Keep F M M')(hF:∀ i,F i->b<=i)(hb:b<=b'):FwB b' M' x f :=
 ⟨h.1,h.2.1,h.2.2.imp id fun⟨i,o,h1,h2,h3⟩=>⟨i,o,h1,by omega,fun k hk'=>(h3 k hk').keep hk (fun hf=>by have:=hF i hf;omega)⟩⟩
theorem FwB.keep'{b:Nat}{M M':Mem}{F:Nat->Prop}{x:FW}{f:Fr}(h:FwB b M x f)(hk:Keep F M M')(hF:∀ i o,x.2.1=some (i,o)->f.2.2 ≠ []->¬ F i):FwB b M' x f :=
 ⟨h.1,h.2.1,by
  rcases h.2.2 with h0|⟨i,o,h1,h2,h3⟩
  ·exact .inl h0
  ·by_cases h0:f.2.2=[]
   ·exact .inl h0
   ·exact .inr ⟨i,o,h1,h2,fun k hk'=>(h3 k hk').keep hk (hF i o h1 h0)⟩⟩
theorem FwB.grow{b b':Nat}{M M':Mem}{x:FW}{f:Fr}(h:FwB b M x f)(hg:Grow M M')(hb:b<=b'):FwB b' M' x f:=h.keep (hg.to_keep (fun _=>False)) (fun _ h=>h.elim) hb
theorem FwLB.keep{b b':Nat}{M M':Mem}{F:Nat->Prop}{xs:List FW}{fs:List Fr}(h:FwLB b M xs fs)(hk:Keep F M M')(hF:∀ i,F i->b<=i)(hb:b<=b'):FwLB b' M' xs fs:=by
 induction h with
 | nil=>exact .nil
 | cons h _ ih=>exact .cons (h.keep hk hF hb) ih
theorem FwLB.grow{b b':Nat}{M M':Mem}{xs:List FW}{fs:List Fr}(h:FwLB b M xs fs)(hg:Grow M M')(hb:b<=b'):FwLB b' M' xs fs:=h.keep (hg.to_keep (fun _=>False)) (fun _ h=>h.elim) hb
theorem Vec.lt{α:Type}{b q:Nat}{ty:TypeId}{enc:α->List LV}{M:Mem}{a:Option (Nat × Nat)}{n:Nat}{f:Bool}{e:Nat}{l:List α}(h:Vec b q ty enc M (.slice a n f e) l):∀ i o,a=some (i,o)->i < M.next:=fun i o he=>by
 rcases h with⟨_,h⟩|⟨j,h,h2,_⟩
 ·cases h;cases he
 ·cases h;cases he;exact h2.2
theorem FwLB.app{b:Nat}{M:Mem}{xs xs':List FW}{fs fs':List Fr}(h:FwLB b M xs fs)(h':FwLB b M xs' fs'):FwLB b M (xs ++ xs') (fs ++ fs'):=by
 induction h with
 | nil=>exact h'
 | cons h _ ih=>exact .cons h ih
theorem FwLB.l{b:Nat}{M:Mem}{xs:List FW}{fs:List Fr}(h:FwLB b M xs fs):FwL M xs fs:=by
 induction h with
 | nil=>exact .nil
 | cons h _ ih=>exact .cons ⟨h.1,h.2.1,h.2.2.imp id fun⟨i,o,h1,h2,h3⟩=>⟨i,o,h1,h3⟩⟩ ih
theorem zey{M:Mem}{x:Fr}{b:Option (Nat × Nat)}{g:Bool}{u:Nat}(h:SlI M b x.2.2):FwB M.next M ((x.1,x.2.1),b,x.2.2.length,g,u) x :=
 ⟨rfl,rfl,by
  rcases h with h|⟨i,o,h1,h2⟩
  ·exact .inl h
  ·by_cases h0:x.2.2=[]
   ·exact .inl h0
   ·refine .inr ⟨i,o,h1,?_,h2⟩
    have:=h2 0 (List.length_pos_iff.2 h0)
    exact this.2⟩
theorem z45{m:Nat}{l:List FW}{M M':Mem}{ty:TypeId}{f:Bool}(hn:New M m (.cells true (l.flatMap fwc) ty) M'):z03 3 l.length (.slice (some (m,0)) l.length f 3) M'=some (l.flatMap fwc) :=
 z37 (enc:=fwc) (l:=l) (fun _ _=>rfl) (fun k' hk'=>z23 (enc:=fwc) (l:=l) (At.new_same hn) (fun _ _=>rfl) hk')
theorem FsV.at{M:Mem}{a:Option (Nat × Nat)}{L:List Fr}(h:FsV M a L){k:Nat}(hk:k < L.length):∃ i o b g u,a=some (i,o) /\ Rd M i (o+k*3) 3 [I (fe L k).1,I (fe L k).2.1,.slice b (fe L k).2.2.length g u] /\ SlI M b (fe L k).2.2:=by
 obtain⟨i,o,b,g,u,h1,h2,b',g',u',h3,h4⟩:=h.rd hk
 cases h3
 exact⟨i,o,b,g,u,h1,h2,h4⟩
set_option maxHeartbeats 16000000 in
theorem zpp{M:Mem}{a:Option (Nat × Nat)}{L:List Fr}{f:Bool}{e:Nat}{v:LV}{x:Fr}(hs:FsV M a L)(hL:∀ z ∈ L,FrK z /\ z.2.2.length<=64)(hv:FrV M v x)(hx:FrK x /\ x.2.2.length<=64)(hln:L.length<=1000000) :
  z9 Tryz.prog 114 [.slice a L.length f e,v] M (fun w M'=>(∃ a f e,w=.slice a (addR L x).length f e /\ FsV M' a (addR L x)) /\ Grow M M'):=by
 obtain⟨bx,gq,ux,rfl,hsx⟩:=id hv
 refine zb k114 rfl ?_
 dsimp only[x114,zM,zO,zI,zF,zS,zB,zL,zA,zE,zN,zW,zC,zipE,Nat.reduceAdd]
 repeat' first|with_reducible intro _|refine sv ?_|refine sc ?_ ?_<;>(intro h;try exact sz h)|refine sg ?_ ?_<;>(intro h;first|exact sz h|refine sy h ?_)|exact sq|fail
 rename_i m1 M1 hN1 q1 q1'
 have hA1:At M1 m1 (.cells true [I x.1,I x.2.1,.slice bx x.2.2.length gq ux] 48):=At.new_same hN1
 have hs1:=hs.grow hN1.grow
 have hv1:=hv.grow hN1.grow
 have hsx1:=hsx.grow hN1.grow
 have hg1:=hN1.grow
 clear hN1
 refine z8 (fun z E ms M'=>∃(k b:Nat) (dn:Bool) (xs:List FW) (fs:List Fr) (v:LV),z=L.length - k /\ k<=L.length /\ ms=[] /\ Has E [(0,.slice a L.length f e),(3,.ptr (some (m1,0))),(5,v),(6,.bool dn),(7,I k)] /\ M1.next<=b /\ b<=M'.next /\ Vec b 3 48 fwc M' v xs /\ FwLB b M' xs fs /\ xs.length<=k+(if dn=true then 1 else 0) /\ (fs ++ if dn then L.drop k else addR (L.drop k) x)=addR L x /\ Grow M1 M')
  ?_ (L.length - 0) _ _ _ ⟨0,M1.next,false,[],[],_,rfl,Nat.zero_le _,rfl,.cons rfl (.cons rfl (.cons rfl (.cons rfl (.cons rfl .nil)))),Nat.le_refl _,Nat.le_refl _,Vec.nil,.nil,Nat.zero_le _,rfl,Grow.refl _⟩
 rintro z E ms M2 ⟨k,b,dn,xs,fs,v2,rfl,hk,rfl,hE,hb1,hb2,hvx,hfx,hxl,heq,hg2⟩
 refine zu hE ?_
 obtain⟨a3,f3,e3,rfl⟩:=hvx.shape
 have hA2:=At.grow hg2 hA1
 have hsx2:=hsx1.grow hg2
 have hv2:=hv1.grow hg2
 have hxl0:xs.length<=k+1:=by split at hxl<;>omega
 by_cases hlast:k=L.length
 ·subst hlast
  rw[List.drop_length] at heq
  cases dn with
  | true =>
   have heq:fs ++ []=addR L x:=heq
   rw[List.append_nil] at heq
   subst heq
   repeat' first|with_reducible intro _|refine sv ?_|refine sc ?_ ?_<;>(intro h;try exact sz h)|refine sg ?_ ?_<;>(intro h;first|exact sz h|refine sy h ?_)|exact sq|fail
   refine kf ?_
   obtain⟨a,f,e,he,hfs⟩:=z89 hvx hfx.l
   exact⟨⟨a,f,e,he,hfs⟩,hg1.trans hg2⟩
  | false =>
   have heq:fs ++ [x]=addR L x:=heq
   repeat' first|with_reducible intro _|refine sv ?_|refine sc ?_ ?_<;>(intro h;try exact sz h)|refine sg ?_ ?_<;>(intro h;first|exact sz h|refine sy h ?_)|exact sq|fail
   rename_i n5 M5 hN5 q5 q5'
   have hvx5:=hvx.grow hN5.grow
   refine z6u (l':=[((x.1,x.2.1),bx,x.2.2.length,gq,ux)]) (by exact gd) hvx5 rfl rfl rfl (by simp) (by simp;omega) rfl (z45 (l:=[((x.1,x.2.1),bx,x.2.2.length,gq,ux)]) hN5) (fun _=>rfl) (fun _=>rfl) ?_
   intro v6 M6 hv6 e6 hk6
   have g5:Grow M1 M5:=hg2.trans hN5.grow
   have g6:Grow M1 M6:=Keep.to_grow' g5 hk6 (fun i hi=>by have:=hi.1;omega)
   have hfx6:=(hfx.grow hN5.grow (Nat.le_refl _)).keep hk6 (fun i hi=>hi.1) (b':=M5.next) (by omega)
   have hx6:=(zey (x:=x) (g:=gq) (u:=ux) hsx1).grow g6 (b':=M5.next) (by have:=g5.le;omega)
   obtain⟨a,f,e,he,hfs⟩:=z89 hv6 (hfx6.app (.cons hx6 .nil)).l
   rw[heq] at he hfs
   subst he
   repeat' first|with_reducible intro _|refine sv ?_|refine sc ?_ ?_<;>(intro h;try exact sz h)|refine sg ?_ ?_<;>(intro h;first|exact sz h|refine sy h ?_)|exact sq|fail
   refine kf ?_
   exact⟨⟨a,f,e,rfl,hfs⟩,hg1.trans g6⟩
 have hlt:k < L.length:=by omega
 obtain⟨i,o,bk,gk,uk,rfl,hrk,hsk⟩:=FsV.at hs1 hlt
 have hLk:=hL (fe L k) (by rw[z83 hlt];exact List.getElem_mem hlt)
 have hdr:L.drop k=fe L k :: L.drop (k+1):=by rw[z83 hlt];exact List.drop_eq_getElem_cons hlt
 rw[hdr] at heq
 have hr2:=hrk.grow hg2
 have hvk2:FrV M2 (.agg [I (fe L k).1,I (fe L k).2.1,.slice bk (fe L k).2.2.length gk uk]) (fe L k):=⟨_,_,_,rfl,hsk.grow hg2⟩
 generalize fe L k=y at *
 generalize hrest:L.drop (k+1)=rest at *
 have hxB:=zey (x:=x) (g:=gq) (u:=ux) hsx1
 have hyB:=zey (x:=y) (g:=gk) (u:=uk) hsk
 have hva:=Vec.lt hvx
 have hkx:keyI x=24*x.1+x.2.1:=rfl
 have hky:keyI y=24*y.1+y.2.1:=rfl
 have hstep:∀ {v':LV} {b':Nat} {M5 M6:Mem} {l':List FW} {fl':List Fr},Vec M5.next 3 48 fwc M6 v' (xs ++ l')->M6.next=M5.next+1->Grow M2 M5->Keep (fun i=>b<=i /\ ∃ o n f e,LV.slice a3 xs.length f3 e3=.slice (some (i,o)) n f e) M5 M6->FwLB M5.next M6 l' fl' ->
   M1.next<=M5.next /\ M5.next<=M6.next /\ FwLB M5.next M6 (xs ++ l') (fs ++ fl') /\ Grow M1 M6:=fun {v'} {b'} {M5} {M6} {l'} {fl'} h1 h2 h3 h4 h5=>by
  have:=h3.le
  have:=hg2.le
  refine⟨by omega,by omega,((hfx.grow h3 (Nat.le_refl _)).keep h4 (fun i hi=>hi.1) (by omega)).app h5,Keep.to_grow' (hg2.trans h3) h4 (fun i hi=>by have:=hi.1;omega)⟩
 cases dn with
 | true =>
  have heq:fs ++ y :: rest=addR L x:=heq
  (have hrd0:=hr2;repeat' (first|(with_reducible intro _)|refine sv ?_|(refine sc ?_ ?_<;>(intro h;try exact sz h))|refine sg ?_ ?_<;>(intro h;first|exact sz h|refine sy h ?_)|exact sq|fail))
  rename_i n5 M5 hN5 q5 q5'
  have hvx5:=hvx.grow hN5.grow
  refine z6u (l':=[((y.1,y.2.1),bk,y.2.2.length,gk,uk)]) (by exact gd) hvx5 rfl rfl rfl (by simp) (by simp;omega) rfl (z45 (l:=[((y.1,y.2.1),bk,y.2.2.length,gk,uk)]) hN5) (fun _=>rfl) (fun _=>rfl) ?_
  intro v6 M6 hv6 e6 hk6
  have g6:Grow M1 M6:=Keep.to_grow' (hg2.trans hN5.grow) hk6 (fun i hi=>by have:=hi.1;omega)
  have hy6:=hyB.grow g6 (b':=M5.next) (by have:=hg2.le;omega)
  obtain⟨r1,r2,r3,r4⟩:=hstep (b':=b) hv6 e6 hN5.grow hk6 (.cons hy6 .nil)
  clear hN5 hk6
  repeat' first|with_reducible intro _|refine sv ?_|refine sc ?_ ?_<;>(intro h;try exact sz h)|refine sg ?_ ?_<;>(intro h;first|exact sz h|refine sy h ?_)|exact sq|fail
  exact zc (L.length - (k+1)) (by omega) ⟨k+1,M5.next,true,_,_,v6,rfl,by omega,rfl,.cons rfl (.cons rfl (.cons rfl (.cons rfl (.cons rfl .nil)))),r1,r2,hv6,r3,by simp;omega,by rw[hrest,<- heq];simp,r4⟩
 | false =>
  have hxl:xs.length<=k:=hxl
  have heq:fs ++ addR (y :: rest) x=addR L x:=heq
  have hdef:addR (y :: rest) x=if keyI y=keyI x then(y.1,y.2.1,z1b y.2.2 x.2.2) :: rest else if keyI y > keyI x then x :: y :: rest else y :: addR rest x:=rfl
  rw[hdef,hkx,hky] at heq
  (have hrd0:=hr2;repeat' (first|(with_reducible intro _)|refine sv ?_|(refine sc ?_ ?_<;>(intro h;try exact sz h))|((with_reducible first|apply zp|apply zr|apply d_pure0);exact gd;exact rfl;exact rfl;(first|exact z7g (hvk2.grow (xg)) hLk.1|exact z7g (hv2.grow (xg)) hx.1))|refine sg ?_ ?_<;>(intro h;first|exact sz h|refine sy h ?_)|exact sq|fail))
  ·rw[if_pos h] at heq
   rename_i MA hgA qA MB hgB qB
   have gB:Grow M2 MB:=hgA.trans hgB
   clear hgA hgB
   repeat' first|with_reducible intro _|refine sv ?_|refine sc ?_ ?_<;>(intro h;try exact sz h)|((with_reducible first|apply zt|apply z0j|apply x_call0);exact gd;exact rfl;exact rfl;(first|exact zno (hvk2.grow gB) (hv2.grow gB) (by omega) (by omega)))|refine sg ?_ ?_<;>(intro h;first|exact sz h|refine sy h ?_)|exact sq|fail
   rename_i w4 M4 hq
   obtain⟨⟨a4,f4,e4,rfl,hs4⟩,hg4⟩:=hq
   repeat' first|with_reducible intro _|refine sv ?_|refine sc ?_ ?_<;>(intro h;try exact sz h)|refine sg ?_ ?_<;>(intro h;first|exact sz h|refine sy h ?_)|exact sq|fail
   rename_i n5 M5 hN5 q5 q5'
   have g25:Grow M2 M5:=gB.trans (hg4.trans hN5.grow)
   have hvx5:=hvx.grow g25
   refine z9k (l':=[((y.1,y.2.1),a4,(z1b y.2.2 x.2.2).length,f4,e4)]) (by exact gd) hvx5 rfl rfl rfl (by simp) (by simp;omega) rfl (z45 (l:=[((y.1,y.2.1),a4,(z1b y.2.2 x.2.2).length,f4,e4)]) hN5) (fun _=>rfl) (fun _=>rfl) ?_
   intro v6 M6 hv6 e6 hk6
   have hs5:=hs4.grow hN5.grow
   have hB5:=zey (x:=(y.1,y.2.1,z1b y.2.2 x.2.2)) (g:=f4) (u:=e4) hs5.sl
   have hB6:=hB5.keep' hk6 (fun i o he hne hF=>by
    rcases hs5 with h0|⟨i',o',h1,h2,h3⟩
    ·exact hne h0
    ·have he:a4=some (i,o):=he
     rw[h1] at he
     cases he
     obtain⟨hb,o2,n2,f2,e2,h4⟩:=hF
     cases h4
     have:=hva _ _ rfl
     have:=gB.le
     omega)
   obtain⟨r1,r2,r3,r4⟩:=hstep (b':=b) hv6 e6 g25 hk6 (.cons hB6 .nil)
   clear hN5 hk6
   repeat' first|with_reducible intro _|refine sv ?_|refine sc ?_ ?_<;>(intro h;try exact sz h)|refine sg ?_ ?_<;>(intro h;first|exact sz h|refine sy h ?_)|exact sq|fail
   exact zc (L.length - (k+1)) (by omega) ⟨k+1,M5.next,true,_,_,v6,rfl,by omega,rfl,.cons rfl (.cons rfl (.cons rfl (.cons rfl (.cons rfl .nil)))),r1,r2,hv6,r3,by simp;omega,by rw[hrest,<- heq];simp,r4⟩
  ·rename_i MA hgA qA MB hgB qB hne MC hgC qC MD hgD qD n5 M5 hN5 q5 q5'
   rw[if_neg hne,if_pos h] at heq
   have g25:Grow M2 M5:=hgA.trans (hgB.trans (hgC.trans (hgD.trans hN5.grow)))
   have hvx5:=hvx.grow g25
   refine z9k (l':=[((x.1,x.2.1),bx,x.2.2.length,gq,ux),((y.1,y.2.1),bk,y.2.2.length,gk,uk)]) (by exact gd) hvx5 rfl rfl rfl (by simp) (by simp;omega) rfl (z45 (l:=[((x.1,x.2.1),bx,x.2.2.length,gq,ux),((y.1,y.2.1),bk,y.2.2.length,gk,uk)]) hN5) (fun _=>rfl) (fun _=>rfl) ?_
   intro v6 M6 hv6 e6 hk6
   have g6:Grow M1 M6:=Keep.to_grow' (hg2.trans g25) hk6 (fun i hi=>by have:=hi.1;omega)
   have hy6:=hyB.grow g6 (b':=M5.next) (by have:=hg2.le;have:=g25.le;omega)
   have hx6:=hxB.grow g6 (b':=M5.next) (by have:=hg2.le;have:=g25.le;omega)
   obtain⟨r1,r2,r3,r4⟩:=hstep (b':=b) hv6 e6 g25 hk6 (.cons hx6 (.cons hy6 .nil))
   clear hN5 hk6
   repeat' first|with_reducible intro _|refine sv ?_|refine sc ?_ ?_<;>(intro h;try exact sz h)|refine sg ?_ ?_<;>(intro h;first|exact sz h|refine sy h ?_)|exact sq|fail
   exact zc (L.length - (k+1)) (by omega) ⟨k+1,M5.next,true,_,_,v6,rfl,by omega,rfl,.cons rfl (.cons rfl (.cons rfl (.cons rfl (.cons rfl .nil)))),r1,r2,hv6,r3,by simp;omega,by rw[hrest,<- heq];simp,r4⟩
  ·rename_i MA hgA qA MB hgB qB hne MC hgC qC MD hgD qD n5 M5 hN5 q5 q5'
   rw[if_neg hne,if_neg (by omega)] at heq
   have g25:Grow M2 M5:=hgA.trans (hgB.trans (hgC.trans (hgD.trans hN5.grow)))
   have hvx5:=hvx.grow g25
   refine z6u (l':=[((y.1,y.2.1),bk,y.2.2.length,gk,uk)]) (by exact gd) hvx5 rfl rfl rfl (by simp) (by simp;omega) rfl (z45 (l:=[((y.1,y.2.1),bk,y.2.2.length,gk,uk)]) hN5) (fun _=>rfl) (fun _=>rfl) ?_
   intro v6 M6 hv6 e6 hk6
   have g6:Grow M1 M6:=Keep.to_grow' (hg2.trans g25) hk6 (fun i hi=>by have:=hi.1;omega)
   have hy6:=hyB.grow g6 (b':=M5.next) (by have:=hg2.le;have:=g25.le;omega)
   obtain⟨r1,r2,r3,r4⟩:=hstep (b':=b) hv6 e6 g25 hk6 (.cons hy6 .nil)
   clear hN5 hk6
   repeat' first|with_reducible intro _|refine sv ?_|refine sc ?_ ?_<;>(intro h;try exact sz h)|refine sg ?_ ?_<;>(intro h;first|exact sz h|refine sy h ?_)|exact sq|fail
   exact zc (L.length - (k+1)) (by omega) ⟨k+1,M5.next,false,_,_,v6,rfl,by omega,rfl,.cons rfl (.cons rfl (.cons rfl (.cons rfl (.cons rfl .nil)))),r1,r2,hv6,r3,by simp;omega,by rw[<-heq,hrest];simp,r4⟩
theorem zeh:∀(J:List Fr) (x:Fr),(addR J x).length<=J.length+1
 | [],x=>by show([x]:List Fr).length<=_;simp
 | g :: l,x=>by
  have:=zeh l x
  unfold addR
  split
  ·simp
  ·split
   ·simp
   ·simp only[List.length_cons];omega
theorem zjy{J:List Fr}{x:Fr}(hJ:∀ z ∈ J,FrK z /\ z.2.2.length<=64)(hx:FrK x /\ x.2.2.length<=64):∀ z ∈ addR J x,FrK z /\ z.2.2.length<=64:=by
 induction J with
 | nil=>intro z hz;obtain rfl:z=x:=by simpa [addR] using hz
        exact hx
 | cons g l ih =>
  intro z hz
  have hg:=hJ g (by simp)
  have hl:∀ z ∈ l,FrK z /\ z.2.2.length<=64:=fun z hz=>hJ z (by simp[hz])
  unfold addR at hz
  split at hz
  ·rcases List.mem_cons.1 hz with rfl|hz
   ·refine⟨hg.1,?_⟩
    show(z1b g.2.2 x.2.2).length<=64
    rw[z28];omega
   ·exact hl z hz
  ·split at hz
   ·rcases List.mem_cons.1 hz with rfl|hz
    ·exact hx
    ·exact hJ z hz
   ·rcases List.mem_cons.1 hz with rfl|hz
    ·exact hg
    ·exact ih hl z hz
theorem zga{L:List Fr}:∀ {J:List Fr},(∀ z ∈ L,FrK z /\ z.2.2.length<=64)->(∀ z ∈ J,FrK z /\ z.2.2.length<=64)->(∀ z ∈ L.foldl addR J,FrK z /\ z.2.2.length<=64) /\ (L.foldl addR J).length<=J.length+L.length:=by
 induction L with
 | nil=>intro J _ h;exact⟨h,Nat.le_refl _⟩
 | cons x L ih =>
  intro J hL hJ
  obtain⟨h1,h2⟩:=ih (J:=addR J x) (fun z hz=>hL z (by simp[hz])) (zjy hJ (hL x (by simp)))
  have:=zeh J x
  exact⟨h1,by rw[List.foldl_cons,List.length_cons];omega⟩
set_option maxHeartbeats 4000000 in
theorem zhd{M:Mem}{a:Option (Nat × Nat)}{L:List Fr}{f:Bool}{e:Nat}(hs:FsV M a L)(hL:∀ z ∈ L,FrK z /\ z.2.2.length<=64)(hln:L.length<=1000000) :
  z9 Tryz.prog 65 [.slice a L.length f e] M (fun w M'=>(∃ a f e,w=.slice a (z1j L).length f e /\ FsV M' a (z1j L)) /\ Grow M M'):=by
 refine zb k65 rfl ?_
 dsimp only[x65,zM,zO,zI,zF,zS,zB,zL,zA,zE,zN,zW,zC,zipE,Nat.reduceAdd]
 repeat' first|with_reducible intro _|refine sv ?_|refine sc ?_ ?_<;>(intro h;try exact sz h)|refine sg ?_ ?_<;>(intro h;first|exact sz h|refine sy h ?_)|exact sq|fail
 refine z8 (fun z E ms M'=>∃(k:Nat) (a2:Option (Nat × Nat)) (f2:Bool) (e2:Nat),z=L.length - k /\ k<=L.length /\ ms=[] /\ Has E [(0,.slice a L.length f e),(3,.slice a2 ((L.take k).foldl addR []).length f2 e2),(4,I k)] /\ FsV M' a2 ((L.take k).foldl addR []) /\ Grow M M')
  ?_ (L.length - 0) _ _ _ ⟨0,none,true,0,rfl,Nat.zero_le _,rfl,.cons rfl (.cons rfl (.cons rfl .nil)),.inl rfl,Grow.refl _⟩
 rintro z E ms M2 ⟨k,a2,f2,e2,rfl,hk,rfl,hE,hf2,hg2⟩
 refine zu hE ?_
 by_cases hlast:k=L.length
 ·subst hlast
  rw[List.take_length] at hf2 hE
  repeat' first|with_reducible intro _|refine sv ?_|refine sc ?_ ?_<;>(intro h;try exact sz h)|refine sg ?_ ?_<;>(intro h;first|exact sz h|refine sy h ?_)|exact sq|fail
  refine kf ?_
  rw[List.take_length]
  exact⟨⟨a2,f2,e2,rfl,hf2⟩,hg2⟩
 have hlt:k < L.length:=by omega
 obtain⟨i,o,bk,gk,uk,rfl,hrk,hsk⟩:=FsV.at (hs.grow hg2) hlt
 have hLk:=hL (fe L k) (by rw[z83 hlt];exact List.getElem_mem hlt)
 have hnext:(L.take (k+1)).foldl addR []=addR ((L.take k).foldl addR []) (fe L k):=by rw[z9r hlt,z83 hlt]
 obtain⟨ha1,ha2⟩:=zga (L:=L.take k) (J:=[]) (fun z hz=>hL z (List.mem_of_mem_take hz)) (fun z hz=>nomatch hz)
 rw[List.length_take] at ha2
 have ha3:([]:List Fr).length=0:=rfl
 generalize (L.take k).foldl addR []=J at *
 generalize fe L k=y at *
 have ca:=zpp (f:=f2) (e:=e2) hf2 ha1 (v:=.agg [I y.1,I y.2.1,.slice bk y.2.2.length gk uk]) ⟨_,_,_,rfl,hsk⟩ hLk (by omega)
 (have hrd0:=hrk;repeat' (first|(with_reducible intro _)|refine sv ?_|(refine sc ?_ ?_<;>(intro h;try exact sz h))|((with_reducible first|apply zt|apply z0j|apply x_call0);exact gd;exact rfl;exact rfl;(first|exact ca))|refine sg ?_ ?_<;>(intro h;first|exact sz h|refine sy h ?_)|exact sq|fail))
 rename_i w3 M3 hq
 obtain⟨⟨a3,f3,e3,rfl,hf3⟩,hg3⟩:=hq
 repeat' first|with_reducible intro _|refine sv ?_|refine sc ?_ ?_<;>(intro h;try exact sz h)|refine sg ?_ ?_<;>(intro h;first|exact sz h|refine sy h ?_)|exact sq|fail
 exact zc (L.length - (k+1)) (by omega) ⟨k+1,a3,f3,e3,rfl,by omega,rfl,.cons rfl (.cons (by rw[hnext];rfl) (.cons rfl .nil)),by rw[hnext];exact hf3,hg2.trans hg3⟩
def salR(s:ByteArray):(List Fr × List Bd) × Int :=
 if 65536 < s.size then(([],[]),3) else if 128 <(z1j (whRA s).1).length then(([],[]),6) else((z1j (whRA s).1,(whRA s).2),0)
theorem zee{s:ByteArray}:∀(k p:Nat) (F:List Fr) (L:List Bd),p<=s.size->FrOk F->F.length<=p->FrOk (whRB s k p F L).1 /\ (whRB s k p F L).1.length<=s.size
 | 0,p,F,L,hp,h,hl=>⟨h,by show F.length<=_;omega⟩
 | k+1,p,F,L,hp,h,hl=>by
  unfold whRB
  split
  ·split
   ·rename_i x q hx
    have h1:=zht hx
    refine zee k q _ _ h1.2.2 (fun y hy=>?_) (by rw[List.length_append];simp;omega)
    rcases List.mem_append.1 hy with hy|hy
    ·exact h y hy
    ·rw[List.mem_singleton.1 hy];exact h1.1
   ·exact zee k (p+1) F _ (by omega) h (by omega)
  ·exact⟨h,by show F.length<=_;omega⟩
theorem zp5(s:ByteArray):FrOk (whRA s).1 /\ (whRA s).1.length<=s.size:=zee s.size 0 [] [] (Nat.zero_le _) (fun _ h=>nomatch h) (Nat.le_refl _)
theorem zdu(l:List Fr)(h:FrOk l):(z1j l).length<=l.length:=by
 have h1:=(zqy h.k).len
 have h2:=zcz l
 omega
set_option maxHeartbeats 8000000 in
theorem zfw{s:ByteArray}{M:Mem}(hs:s.size<=1000000000000000) :
  z9 Tryz.prog 32 [.str s] M (fun w M'=>∃ a f e v,w=.tup [.slice a (salR s).1.1.length f e,v,I (salR s).2] /\ FsV M' a (salR s).1.1 /\ Vec 0 2 65 bdc M' v (salR s).1.2 /\ Grow M M'):=by
 refine zb k32 rfl ?_
 dsimp only[x32,zM,zO,zI,zF,zS,zB,zL,zA,zE,zN,zW,zC,zipE,Nat.reduceAdd]
 by_cases hlong:65536 < s.size
 ·have hj:salR s=(([],[]),3):=by unfold salR;rw[if_pos hlong]
  rw[hj]
  repeat' first|with_reducible intro _|refine sv ?_|refine sc ?_ ?_<;>(intro h;try exact sz h)|refine sg ?_ ?_<;>(intro h;first|exact sz h|refine sy h ?_)|exact sq|fail
  all_goals first|(exfalso;omega)|skip
  refine kf ?_
  exact⟨none,true,0,_,rfl,.inl rfl,Vec.nil,xg⟩
 repeat' first|with_reducible intro _|refine sv ?_|refine sc ?_ ?_<;>(intro h;try exact sz h)|refine sg ?_ ?_<;>(intro h;first|exact sz h|refine sy h ?_)|exact sq|fail
 all_goals first|(exfalso;omega)|skip
 refine zt gd rfl rfl (zkf (by omega)) ?_
 rintro w M2 ⟨v1,v2,xs,rfl,hv1,hx1,hv2,hg2⟩
 have hwo:=zp5 s
 have hjl:=zdu _ hwo.1
 obtain⟨a1,f1,e1,rfl,hfs⟩:=z89 hv1 hx1.l
 repeat' first|with_reducible intro _|refine sv ?_|refine sc ?_ ?_<;>(intro h;try exact sz h)|refine sg ?_ ?_<;>(intro h;first|exact sz h|refine sy h ?_)|exact sq|fail
 refine zt gd rfl rfl (zhd hfs (fun z hz=>⟨hwo.1.k z hz,(z32 (hwo.1 z hz)).2⟩) (by omega)) ?_
 rintro w3 M3 ⟨⟨a3,f3,e3,rfl,hf3⟩,hg3⟩
 have hg23:=hg2.trans hg3
 have hv3:=hv2.grow hg3
 obtain⟨aa,ff,ee,rfl⟩:=hv3.shape
 by_cases hl:128 <(z1j (whRA s).1).length
 ·have hj:salR s=(([],[]),6):=by unfold salR;rw[if_neg hlong,if_pos hl]
  rw[hj]
  repeat' first|with_reducible intro _|refine sv ?_|refine sc ?_ ?_<;>(intro h;try exact sz h)|refine sg ?_ ?_<;>(intro h;first|exact sz h|refine sy h ?_)|exact sq|fail
  all_goals first|(exfalso;omega)|skip
  refine kf ?_
  exact⟨none,true,0,_,rfl,.inl rfl,Vec.nil,hg23⟩
 ·have hj:salR s=((z1j (whRA s).1,(whRA s).2),0):=by unfold salR;rw[if_neg hlong,if_neg hl]
  rw[hj]
  repeat' first|with_reducible intro _|refine sv ?_|refine sc ?_ ?_<;>(intro h;try exact sz h)|refine sg ?_ ?_<;>(intro h;first|exact sz h|refine sy h ?_)|exact sq|fail
  all_goals first|(exfalso;omega)|skip
  refine kf ?_
  exact⟨a3,f3,e3,_,rfl,hf3,Vec.low hv3 (Nat.zero_le _),hg23⟩
end Go.Proofs.YtbfnnllgdioccaaGreatDoor.C
end
section
open Go PvL Go.Proofs
set_option linter.unusedSimpArgs false
set_option linter.unusedVariables false
namespace Go.Proofs.YtbfnnllgdioccaaGreatDoor.C
theorem zqa{s:ByteArray}{p:Nat}{x:Fr}{q:Nat}(hp:p<=s.size)(h:fdR s p=some (x,q)):frB x=true /\ q=p+(pkL x).length /\ Mt s p (pkL x):=by
 unfold fdR at h
 split at h
 ·split at h
  ·cases h
  ·rename_i l hl
   simp only at h
   split at h
   ·rename_i hc
    cases h
    exact⟨hc.1,rfl,(Mt.ext hp).2 ⟨hc.2.1,hc.2.2⟩⟩
   ·cases h
 ·cases h
theorem zms{s:ByteArray}{p:Nat}{x:Fr}(hp:p<=s.size)(hf:frB x=true)(h:Mt s p (pkL x)):fdR s p=some (x,p+(pkL x).length):=by
 have hext:=(Mt.ext hp).1 h
 obtain⟨sh,ch,l⟩:=x
 have hbd:=z39 hf
 have hln:=z32 hf
 simp only at hbd hln
 obtain⟨sh,rfl⟩:∃ n:Nat,sh=n:=⟨sh.toNat,by omega⟩
 obtain⟨ch,rfl⟩:∃ n:Nat,ch=n:=⟨ch.toNat,by omega⟩
 have hb:bodyL ((sh:Int),(ch:Int),l)=[165,90] ++(twoL sh ++([u8 ch] ++([u8 l.length] ++ csL 0 l))):=by
  rw[zdf]
  show [165,90] ++(twoL (sh:Int).toNat ++([u8 (ch:Int).toNat] ++([u8 l.length] ++ csL 0 l)))=_
  rw[Int.toNat_natCast,Int.toNat_natCast]
 have h0:=h
 unfold pkL chkL at h
 obtain⟨hM,hC⟩:=Mt.app.1 h
 have hle:=hM.le hp
 rw[hb] at hM hle
 obtain⟨m1,hM⟩:=Mt.app.1 hM
 obtain⟨m2,hM⟩:=Mt.app.1 hM
 obtain⟨m3,hM⟩:=Mt.app.1 hM
 obtain⟨m4,m5⟩:=Mt.app.1 hM
 simp only[twoL,List.length_cons,List.length_nil,List.length_append] at m2 m3 m4 m5 hle
 have b0:byteAt s p=165:=m1.2.1
 have b1:byteAt s (p+1)=90:=m1.2.2.2.1
 have b2:byteAt s (p+2)=sh / 256:=by have:=m2.2.1;rw[u8_n (by omega)] at this;exact this
 have b3:byteAt s (p+3)=sh % 256:=by have:=m2.2.2.2.1;rw[u8_n (by omega)] at this;exact this
 have b4:byteAt s (p+4)=ch:=by have:=m3.2.1;rw[u8_n (by omega)] at this;exact this
 have b5:byteAt s (p+5)=l.length:=by have:=m4.2.1;rw[u8_n (by omega)] at this;exact this
 have a0:atR s p=165:=by unfold atR;rw[if_pos (by omega),b0];rfl
 have a1:atR s (p+1)=90:=by unfold atR;rw[if_pos (by omega),b1];rfl
 have r5:=zmu l (p+6) 0 [] (zmm hf) (by omega) m5
 rw[List.nil_append] at r5
 unfold fdR
 rw[if_pos ⟨a0,a1,by omega⟩,b2,b3,b4,b5,r5]
 simp only
 rw[show 256*(sh / 256)+sh % 256=sh by omega,if_pos ⟨hf,hext.1,hext.2⟩]
theorem zq9{s:ByteArray}{p:Nat}(hp:p<=s.size):fdR s p=FrD s p:=by
 cases h:FrD s p with
 | some xq =>
  obtain⟨x,q⟩:=xq
  obtain⟨h1,rfl,h3⟩:=zm6 hp h
  exact zms hp h1 h3
 | none =>
  cases h':fdR s p with
  | none=>rfl
  | some xq =>
   obtain⟨x,q⟩:=xq
   obtain⟨h1,rfl,h3⟩:=zqa hp h'
   rw[zmr hp h1 h3] at h
   cases h
theorem zed{s:ByteArray}:∀(k p:Nat) (F:List Fr) (L:List Bd),whRB s k p F L=whB s k p F L
 | 0,p,F,L=>rfl
 | k+1,p,F,L=>by
  unfold whRB whB
  split
  ·rw[zq9 (by omega)]
   cases FrD s p with
   | none=>exact zed k _ _ _
   | some xq=>exact zed k _ _ _
  ·rfl
theorem zp4(s:ByteArray):whRA s=whA s:=zed _ _ _ _
theorem zor(s:ByteArray):salR s=salP s:=by unfold salR salP;rw[zp4]
end Go.Proofs.YtbfnnllgdioccaaGreatDoor.C
end
section
open Go PvL Go.Proofs
set_option linter.unusedSimpArgs false
set_option linter.unusedVariables false
variable {μ:Md}
namespace Go.Proofs.YtbfnnllgdioccaaGreatDoor.C
theorem zha{x oc a:Nat}{s:ByteArray}{M:Mem}{z1 z2:LV}(hx:At M x (.cells true [.ptr (some (a,0))] 117))(hf:At M oc (.cells true [z1,z2] 24))(ha:At M a (rdr s 0))(hne:oc ≠ a)(hs:s.size<=1000000) :
  CallB Tryz.prog 72 [.ptr (some (x,0)),.ptr (some (oc,0))] M
   (fun _ M'=>Keep (fun i=>i=a ∨ i=oc) M M' /\ ∃ r q w,RlD s=some (r,q) /\ At M' oc (.cells true [.str r.1,w] 24) /\ ∃ xs,Vec M.next 3 48 fwc M' w xs /\ FwLN (fun i=>i < M.next) M' xs r.2)
   (fun v M'=>v=bk /\ Keep (fun i=>i=a ∨ i=oc) M M' /\ RlD s=none /\ True):=by
 refine z25 k72 rfl ?_
 dsimp only[x72,zM,zO,zI,zF,zS,zB,zL,zA,zE,zN,zW,zC,zipE,Nat.reduceAdd]
 have hfl:oc < M.next:=hf.2
 repeat' first|with_reducible intro _|refine svb ?_|(refine sc ?_ ?_<;>(intro h;try exact sz h))|(refine sgb ?_ ?_<;>(intro h;first|exact sz h|refine sy h ?_))|exact sq|fail
 refine zjk gd rfl rfl ((zq3 ha hs).mono (fun _ _ h=>h) (fun v M' ⟨e1,e2,e3,q,e4⟩=>?_)) ?_
 ·exact⟨e2,e3.weaken (fun i hi=>.inl hi),e1,trivial⟩
 rintro w M1 ⟨r,q,e1,⟨v,xs,rfl,hv,hx⟩,e3,e4⟩
 obtain⟨va,vf,ve,rfl⟩:=hv.shape
 have hf1:At M1 oc (.cells true [z1,z2] 24):=e3.at hf hne
 have hk1:Keep (fun i=>i=a ∨ i=oc) M M1:=e3.weaken (fun i hi=>.inl hi)
 refine x_st gd rfl rfl hf1 rfl rfl rfl ?_
 intro M2 h1 h2 h3
 repeat' first|with_reducible intro _|refine svb ?_|(refine sc ?_ ?_<;>(intro h;try exact sz h))|(refine sgb ?_ ?_<;>(intro h;first|exact sz h|refine sy h ?_))|exact sq|fail
 refine kf ?_
 refine⟨hk1.upd h1 (.inl (.inr rfl)),r,q,_,e1,h3,?_⟩
 have hu2:Keep (fun i=>i=oc) M1 M2:=(Keep.refl (fun i=>i=oc) M1).upd h1 (.inl rfl)
 have hx2:=hx.keep hu2 (fun i hi=>by subst hi;exact hfl)
 have hv2:Vec M.next 3 48 fwc M2 (.slice va xs.length vf ve) xs:=hv.keep hu2 (fun i hi=>by subst hi;exact hfl)
 exact⟨xs,hv2,hx2⟩
def unP(s:ByteArray):Rl × Int:=if 65536 < s.size then(zRl,3) else match RlD s with
 | some (r,_)=>(r,0)
 | none=>(zRl,5)
set_option maxHeartbeats 4000000 in
theorem zk8{s:ByteArray}{M:Mem}(hs:s.size<=1000000000000000) :
  z9 Tryz.prog 29 [.str s] M (fun w M'=>∃ v,w=.tup [v,I (unP s).2] /\ RlV M' v (unP s).1 /\ Grow M M'):=by
 refine zb k29 rfl ?_
 dsimp only[x29,zM,zO,zI,zF,zS,zB,zL,zA,zE,zN,zW,zC,zipE,Nat.reduceAdd]
 by_cases hlong:65536 < s.size
 ·have hj:unP s=(zRl,3):=by unfold unP;rw[if_pos hlong]
  rw[hj]
  repeat' first|with_reducible intro _|refine sv ?_|refine sc ?_ ?_<;>(intro h;try exact sz h)|refine sg ?_ ?_<;>(intro h;first|exact sz h|refine sy h ?_)|exact sq|fail
  all_goals first|(exfalso;omega)|skip
  refine kf ?_
  exact⟨_,rfl,z2z _,xg⟩
 have hj:unP s=match RlD s with
  | some (r,_)=>(r,0)
  | none=>(zRl,5):=by unfold unP;rw[if_neg hlong]
 repeat' first|with_reducible intro _|refine sv ?_|refine sc ?_ ?_<;>(intro h;try exact sz h)|refine sg ?_ ?_<;>(intro h;first|exact sz h|refine sy h ?_)|exact sq|fail
 all_goals first|(exfalso;omega)|skip
 rename_i res M1 A1 A2 A3 a M2 A4 A5 A6 x M3 A7 A8 A9 M4 B1 B2 B3 oc M5 B4 B5 B6
 have ha:At M5 a (rdr s 0):=by
  have:At M5 a (.cells true [.str s,I 0] 120):=xm
  exact this
 have hx:At M5 x (.cells true [.ptr (some (a,0))] 117):=xm
 have ho:At M5 oc (.cells true [.str ⟨#[]⟩,.slice none 0 true 0] 24):=xm
 have hr:At M5 res (.cells true [.str ⟨#[]⟩,.slice none 0 true 0] 24):=xm
 have hg5:Grow M M5:=xg
 have hro:res < a:=by omega
 have hao:a < oc:=by omega
 have haM:M.next<=res:=by omega
 have ho5:oc < M5.next:=ho.2
 clear A1 A4 A7 B1 B3 B4
 refine zt gd rfl rfl (zmd (g:=72) (ca:=[.ptr (some (x,0)),.ptr (some (oc,0))]) (M:=M5) (F:=fun i=>i=a ∨ i=oc)
  (R:=fun M1 M'=>∃ r q w,RlD s=some (r,q) /\ At M' oc (.cells true [.str r.1,w] 24) /\ ∃ xs,Vec M1.next 3 48 fwc M' w xs /\ FwLN (fun i=>i < M1.next) M' xs r.2)
  (R':=fun M1 M'=>RlD s=none /\ True) (fun i hi=>by omega)
  (fun M1 hg=>zha (hx.grow hg) (ho.grow hg) (ha.grow hg) (by omega) (by omega))) ?_
 rintro w N5 ⟨M1',M2',n,g1,g2,g3,k1,k2,hres⟩
 have g1l:=g1.le
 have kN5:Keep (fun i=>i=a ∨ i=oc) M5 N5:=((g1.to_keep _).trans k1 (fun i hi=>.inl hi)).trans k2 (fun i hi=>.inr (by omega))
 have hg:Grow M N5:=hg5.keep kN5 (fun i hi=>by omega)
 have hr5:=kN5.at hr (fun h=>by omega)
 have hN5:=kN5.le
 rcases hres with⟨rfl,r,q,w,e1,e2,xs,e3,e4⟩|⟨rfl,e1,-⟩
 ·have ho5':At N5 oc (.cells true [.str r.1,w] 24):=k2.at e2 (fun h=>by omega)
  have hv5:Vec M1'.next 3 48 fwc N5 w xs:=e3.keep k2 (fun i hi=>by omega)
  have hx5:=e4.keep k2 (fun i hi=>by omega)
  obtain⟨va,vf,ve,rfl⟩:=hv5.shape
  have hj2:unP s=(r,0):=by rw[hj,e1]
  rw[hj2]
  clear kN5 k1 k2 e2 e3 e4 g1
  repeat' first|with_reducible intro _|refine sv ?_|refine sc ?_ ?_<;>(intro h;try exact sz h)|refine sg ?_ ?_<;>(intro h;first|exact sz h|refine sy h ?_)|exact sq|fail
  rename_i M9 D1 D2 D3
  have hu9:Keep (fun i=>i=res) N5 M9:=(Keep.refl (fun i=>i=res) N5).upd D1 (.inl rfl)
  have hx9:=hx5.keep hu9 (fun i hi=>by omega)
  have hv9:Vec M1'.next 3 48 fwc M9 (.slice va xs.length vf ve) xs:=hv5.keep hu9 (fun i hi=>by omega)
  obtain⟨va',vf',ve',heq,hfs9⟩:=z89 hv9 hx9.l
  refine kf ?_
  exact⟨_,rfl,⟨va',vf',ve',by show LV.agg [_,_]=LV.agg [_,_];rw[heq],hfs9⟩,hg.keep hu9 (fun i hi=>by omega)⟩
 ·have hj2:unP s=(zRl,5):=by rw[hj,e1]
  rw[hj2]
  clear kN5 k1 k2 g1
  repeat' first|with_reducible intro _|refine sv ?_|refine sc ?_ ?_<;>(intro h;try exact sz h)|refine sg ?_ ?_<;>(intro h;first|exact sz h|refine sy h ?_)|exact sq|fail
  rename_i M9 D1 D2 D3
  refine kf ?_
  exact⟨_,rfl,z2z _,hg.upd D1 (by omega)⟩
end Go.Proofs.YtbfnnllgdioccaaGreatDoor.C
end
section
open Go PvL Go.Proofs
set_option linter.unusedSimpArgs false
set_option linter.unusedVariables false
namespace Go.Proofs.YtbfnnllgdioccaaGreatDoor.C
def pfF(x:Fr):List UInt8 × Int:=if frB x then(pkL x,0) else([],80)
def rpF(r:Rl):List UInt8 × Int:=if rlB r then(rpL r,0) else([],81)
def rbL(r:Rl)(k:Nat):List UInt8:=chkL (rhL r) ++(r.2.take k).flatMap pkL
theorem zqu{r:Rl}{k:Nat}(h:k < r.2.length):rbL r (k+1)=rbL r k ++ pkL (fe r.2 k):=by
 unfold rbL
 rw[List.take_succ_eq_append_getElem h,List.flatMap_append,List.append_assoc,z83 h]
 simp
theorem zoo{r:Rl}(h:rlB r=true):1<=r.1.size /\ r.1.size<=16 /\ r.2.length<=128 /\ ∀ k,k < r.2.length->frB (fe r.2 k)=true:=by
 unfold rlB at h
 rw[Bool.and_eq_true,Bool.and_eq_true] at h
 obtain⟨⟨h1,h2⟩,h3⟩:=h
 unfold nmB at h1
 rw[Bool.and_eq_true] at h1
 have h4:1<=(r.1.size:Int) /\ (r.1.size:Int)<=16:=of_decide_eq_true h1.2
 exact⟨by omega,by omega,of_decide_eq_true h2,fun k hk=>zfg h3 hk⟩
theorem zex{x:Fr}(h:frB x=true):x.2.2.length<=64:=by
 have:=(z39 h).2.2.2.2
 unfold smsB btB at this
 simp only[Bool.and_eq_true,decide_eq_true_eq] at this
 omega
theorem zj4{r:Rl}(h:rlB r=true):∀ k,k<=r.2.length->(rbL r k).length<=100+100000*k
 | 0,_=>by
  obtain⟨h1,h2,h3,_⟩:=zoo h
  unfold rbL chkL rhL twoL
  simp
  omega
 | k+1,hk=>by
  have h1:=zj4 h k (by omega)
  have h2:=ze2 (zex ((zoo h).2.2.2 k (by omega)))
  rw[zqu (by omega),List.length_append]
  omega
set_option maxHeartbeats 8000000 in
theorem znn{M:Mem}{v:LV}{r:Rl}(hv:RlV M v r)(hin:RlIn r):z9 Tryz.prog 76 [v] M (fun w M'=>w=.tup [.str (strL (rpF r).1),I (rpF r).2] /\ Grow M M'):=by
 have hv0:=hv
 obtain⟨a,f,e,rfl,hs⟩:=hv0
 refine zb k76 rfl ?_
 dsimp only[x76,zM,zO,zI,zF,zS,zB,zL,zA,zE,zN,zW,zC,zipE,Nat.reduceAdd]
 have cc:=fun M' (hg:Grow M M')=>zbx (hv.grow hg) hin
 cases hfb:rlB r with
 | false =>
  rw[show z0v r=81 from by unfold z0v;rw[hfb];rfl] at cc
  rw[show rpF r=([],81) from by unfold rpF;rw[hfb];rfl]
  repeat' first|with_reducible intro _|refine sv ?_|refine sc ?_ ?_<;>(intro h;try exact sz h)|((with_reducible first|apply zp|apply zr|apply d_pure0);exact gd;exact rfl;exact rfl;(first|exact cc _ (xg)))|refine sg ?_ ?_<;>(intro h;first|exact sz h|refine sy h ?_)|exact sq|fail
  refine kf ?_
  exact⟨rfl,xg⟩
 | true =>
 rw[show z0v r=0 from by unfold z0v;rw[hfb];rfl] at cc
 rw[show rpF r=(rpL r,0) from by unfold rpF;rw[hfb];rfl]
 obtain⟨hn1,hn2,hl,hfr⟩:=zoo hfb
 have hrb:=zj4 hfb
 have hr0:rbL r 0=chkL (rhL r):=by unfold rbL;rw[List.take_zero,List.flatMap_nil,List.append_nil]
 have hre:rbL r r.2.length=rpL r:=by unfold rbL rpL;rw[List.take_length]
 have hrs:=fun k (hk:k < r.2.length)=>zqu (r:=r) hk
 have hrh:rhL r=(([80,65,82,65,86,65,78,69] ++ [u8 r.1.size]) ++ r.1.data.toList) ++ [u8 r.2.length]:=rfl
 rw[<-hre]
 have hdl:r.1.data.toList.length=r.1.size:=by simp
 have hnm:r.1=strL r.1.data.toList:=rfl
 have co1:=z41 r.1.size (by omega)
 have co2:=z41 r.2.length (by omega)
 rw[show r.1.size % 256=r.1.size from by omega] at co1
 rw[show r.2.length % 256=r.2.length from by omega] at co2
 have hrl:(rhL r).length<=100:=by rw[hrh];simp;omega
 clear hv
 repeat' first|with_reducible intro _|refine sv ?_|refine sc ?_ ?_<;>(intro h;try exact sz h)|((with_reducible first|apply zp|apply zr|apply d_pure0);exact gd;exact rfl;exact rfl;(first|exact cc _ (xg)|exact co1 _))|refine sg ?_ ?_<;>(intro h;first|exact sz h|refine sy h ?_)|exact sq|fail
 refine z6h (by exact gd) (z1l (s:=strL [80,65,82,65,86,65,78,69]) rfl rfl (by rw[zg,zg];simp)) ?_
 rw[z15]
 repeat' first|with_reducible intro _|refine sv ?_|refine sc ?_ ?_<;>(intro h;try exact sz h)|refine sg ?_ ?_<;>(intro h;first|exact sz h|refine sy h ?_)|exact sq|fail
 refine z6h (by exact gd) (z1l (t:=strL r.1.data.toList) rfl rfl (by rw[zg,zg];simp;omega)) ?_
 rw[z15]
 repeat' first|with_reducible intro _|refine sv ?_|refine sc ?_ ?_<;>(intro h;try exact sz h)|((with_reducible first|apply zp|apply zr|apply d_pure0);exact gd;exact rfl;exact rfl;(first|exact co2 _))|refine sg ?_ ?_<;>(intro h;first|exact sz h|refine sy h ?_)|exact sq|fail
 refine z6h (by exact gd) (z1l rfl rfl (by rw[zg,zg];simp;omega)) ?_
 rw[z15,<- hrh]
 repeat' first|with_reducible intro _|refine sv ?_|refine sc ?_ ?_<;>(intro h;try exact sz h)|((with_reducible first|apply zp|apply zr|apply d_pure0);exact gd;exact rfl;exact rfl;(first|exact zbz (rhL r) (by omega) _))|refine sg ?_ ?_<;>(intro h;first|exact sz h|refine sy h ?_)|exact sq|fail
 rename_i m1 N1 hN1 q1 q2 N2 hg2 l2 N3 hg3 l3 N4 hg4 l4 N5 hg5 l5
 clear h
 have hA1:At N5 m1 (.cells true [.str r.1,.slice a r.2.length f e] 24):=xm
 have hgN:Grow M N5:=xg
 clear hN1 hg2 hg3 hg4 hg5
 refine z8 (fun z E ms M'=>∃(k:Nat),z=r.2.length - k /\ k<=r.2.length /\ ms=[] /\ Has E [(1,.ptr (some (m1,0))),(5,.str (strL (rbL r k))),(6,I k)] /\ Grow M M' /\ At M' m1 (.cells true [.str r.1,.slice a r.2.length f e] 24))
  ?_ r.2.length _ _ _ ⟨0,by omega,by omega,rfl,.cons rfl (.cons (by rw[hr0];rfl) (.cons rfl .nil)),hgN,hA1⟩
 rintro z E ms M12 ⟨k,rfl,hk,rfl,hE,hg12,hA⟩
 refine zu hE ?_
 have hrk:=hrb k hk
 by_cases hlast:k=r.2.length
 ·subst hlast
  repeat' first|with_reducible intro _|refine sv ?_|refine sc ?_ ?_<;>(intro h;try exact sz h)|refine sg ?_ ?_<;>(intro h;first|exact sz h|refine sy h ?_)|exact sq|fail
  refine kf ?_
  exact⟨rfl,hg12⟩
 have hlt:k < r.2.length:=by omega
 obtain⟨i,o,b2,g2,u2,rfl,hr2,hfv⟩:=(hs.grow hg12).rd hlt
 have hfb2:=hfr k hlt
 have hpl:=ze2 (zex hfb2)
 have cp:=zc0 hfv hfb2
 have hrs2:=hrs k hlt
 (have hrd0:=hr2;repeat' (first|(with_reducible intro _)|refine sv ?_|(refine sc ?_ ?_<;>(intro h;try exact sz h))|((with_reducible first|apply zp|apply zr|apply d_pure0);exact gd;exact rfl;exact rfl;(first|exact cp))|refine sg ?_ ?_<;>(intro h;first|exact sz h|refine sy h ?_)|exact sq|fail))
 refine z1u (by exact gd) (z1l rfl rfl (by rw[zg,zg];omega)) ?_
 rw[z15,<- hrs2]
 repeat' first|with_reducible intro _|refine sv ?_|refine sc ?_ ?_<;>(intro h;try exact sz h)|refine sg ?_ ?_<;>(intro h;first|exact sz h|refine sy h ?_)|exact sq|fail
 exact zc (r.2.length - (k+1)) (by omega) ⟨k+1,rfl,by omega,rfl,.cons rfl (.cons rfl (.cons rfl .nil)),xg,xm⟩
end Go.Proofs.YtbfnnllgdioccaaGreatDoor.C
end
section
open Go PvL Go.Proofs
set_option linter.unusedSimpArgs false
set_option linter.unusedVariables false
variable {μ:Md}
namespace Go.Proofs.YtbfnnllgdioccaaGreatDoor.C
def frsR(s:ByteArray):Nat->Nat->List Fr->Option (List Fr)
 | 0,_,acc=>some acc
 | k+1,p,acc=>if p < s.size then(match fdR s p with
  | none=>none
  | some (x,q)=>frsR s k q (acc ++ [x])) else some acc
def unR(s:ByteArray):Rl × Int:=if 65536 < s.size then(zRl,3) else if s.size < 13 then(zRl,5) else if s.size < 9+byteAt s 8+3 then(zRl,5) else
 match frsR s s.size (9+byteAt s 8+3) [] with
 | none=>(zRl,5)
 | some L=>if (rpF (s.extract 9 (9+byteAt s 8),L)).2=0 /\ strL (rpF (s.extract 9 (9+byteAt s 8),L)).1=s then((s.extract 9 (9+byteAt s 8),L),0) else(zRl,5)
set_option maxHeartbeats 16000000 in
theorem zhb{s:ByteArray}{M:Mem}(hs:s.size<=1000000000000000) :
  z9 Tryz.prog 30 [.str s] M (fun w M'=>∃ v,w=.tup [v,I (unR s).2] /\ RlV M' v (unR s).1 /\ Grow M M'):=by
 refine zb k30 rfl ?_
 dsimp only[x30,zM,zO,zI,zF,zS,zB,zL,zA,zE,zN,zW,zC,zipE,Nat.reduceAdd]
 by_cases hlong:65536 < s.size
 ·have hj:unR s=(zRl,3):=by unfold unR;rw[if_pos hlong]
  rw[hj]
  repeat' first|with_reducible intro _|refine sv ?_|refine sc ?_ ?_<;>(intro h;try exact sz h)|refine sg ?_ ?_<;>(intro h;first|exact sz h|refine sy h ?_)|exact sq|fail
  all_goals first|(exfalso;omega)|skip
  refine kf ?_
  exact⟨_,rfl,z2z _,xg⟩
 by_cases hshort:s.size < 13
 ·have hj:unR s=(zRl,5):=by unfold unR;rw[if_neg hlong,if_pos hshort]
  rw[hj]
  repeat' first|with_reducible intro _|refine sv ?_|refine sc ?_ ?_<;>(intro h;try exact sz h)|refine sg ?_ ?_<;>(intro h;first|exact sz h|refine sy h ?_)|exact sq|fail
  all_goals first|(exfalso;omega)|skip
  refine kf ?_
  exact⟨_,rfl,z2z _,xg⟩
 have ca8:∀ M',z9 Tryz.prog 74 [.str s,I 8] M' (fun w M''=>w=I (byteAt s 8) /\ M''=M'):=fun M'=>by
  have:=zk9 s (by omega) 8 M'
  unfold atR at this
  rw[if_pos (by omega)] at this
  exact this
 have hn8:=z0h s 8
 have hj0:unR s=(if s.size < 9+byteAt s 8+3 then((zRl,5):Rl × Int) else
  match frsR s s.size (9+byteAt s 8+3) [] with
  | none=>(zRl,5)
  | some L=>if (rpF (s.extract 9 (9+byteAt s 8),L)).2=0 /\ strL (rpF (s.extract 9 (9+byteAt s 8),L)).1=s then((s.extract 9 (9+byteAt s 8),L),0) else(zRl,5)):=by
  unfold unR;rw[if_neg hlong,if_neg hshort]
 generalize hnn:byteAt s 8=n at *
 by_cases hcut:s.size < 9+n+3
 ·rw[if_pos hcut] at hj0
  rw[hj0]
  repeat' first|with_reducible intro _|refine sv ?_|refine sc ?_ ?_<;>(intro h;try exact sz h)|((with_reducible first|apply z06|apply z0k|apply d_same0);exact gd;exact rfl;exact rfl;(first|exact ca8 _))|refine sg ?_ ?_<;>(intro h;first|exact sz h|refine sy h ?_)|exact sq|fail
  all_goals first|(exfalso;omega)|skip
  refine kf ?_
  exact⟨_,rfl,z2z _,xg⟩
 rw[if_neg hcut] at hj0
 repeat' first|with_reducible intro _|refine sv ?_|refine sc ?_ ?_<;>(intro h;try exact sz h)|((with_reducible first|apply z06|apply z0k|apply d_same0);exact gd;exact rfl;exact rfl;(first|exact ca8 _))|refine sg ?_ ?_<;>(intro h;first|exact sz h|refine sy h ?_)|exact sq|fail
 all_goals first|(exfalso;omega)|skip
 refine z1u (by exact gd) (zeg (f:=9) (p:=9+n) rfl rfl rfl (by omega) (by omega)) ?_
 generalize hnm:s.extract 9 (9+n)=nm at *
 repeat' first|with_reducible intro _|refine sv ?_|refine sc ?_ ?_<;>(intro h;try exact sz h)|refine sg ?_ ?_<;>(intro h;first|exact sz h|refine sy h ?_)|exact sq|fail
 rename_i rc M1 A1 A2 A3 y1 y2 oc M2 A4 A5 A6 M3 A7 A8 A9
 have hrc3:At M3 rc (.cells true [.str ⟨#[]⟩,.slice none 0 true 0] 24):=xm
 have hg3:Grow M M3:=xg
 have hro:rc < oc:=by omega
 have hrM:M.next<=rc:=by omega
 have hoc3:oc < M3.next:=A9.2
 clear A1 A4 A7
 refine z8 (fun z E ms M'=>∃(p k:Nat) (L:List Fr) (xs:List FW) (v:LV),z=s.size - p /\ p<=s.size /\ s.size - p<=k /\ ms=[] /\ Has E [(0,.str s),(2,.ptr (some (rc,0))),(5,I p),(6,.ptr (some (oc,0)))] /\ frsR s s.size (9+n+3) []=frsR s k p L /\ FrOk L /\ L.length<=p /\
   At M' oc (.cells true [.str nm,v] 24) /\ At M' rc (.cells true [.str ⟨#[]⟩,.slice none 0 true 0] 24) /\ Vec M3.next 3 48 fwc M' v xs /\ FwLN (fun i=>i < M3.next ∨ NV v i) M' xs L /\ Grow M M' /\ M3.next<=M'.next)
  ?_ (s.size - (9+n+3)) _ _ _ ⟨9+n+3,s.size,[],[],_,rfl,by omega,by omega,rfl,.cons rfl (.cons rfl (.cons rfl (.cons rfl .nil))),rfl,(fun _ h=>nomatch h),Nat.zero_le _,A9,hrc3,Vec.nil,.nil,hg3,Nat.le_refl _⟩
 rintro z E ms N ⟨p,k,L,xs,v,rfl,hp,hk,rfl,hE,hw,hLo,hLl,ho1,hr1,hv1,hx1,hg1,hN⟩
 refine zu hE ?_
 have hxl:xs.length=L.length:=hx1.l.len
 by_cases hlast:p=s.size
 case neg =>
  have hlt:p < s.size:=by omega
  obtain⟨k,rfl⟩:∃ j,k=j+1:=⟨k - 1,by omega⟩
  rw[show frsR s (k+1) p L=(if p < s.size then(match fdR s p with
   | none=>none
   | some (x,q)=>frsR s k q (L ++ [x])) else some L) from rfl,if_pos hlt] at hw
  clear ca8 hE
  repeat' first|with_reducible intro _|refine sv ?_|refine sc ?_ ?_<;>(intro h;try exact sz h)|refine sg ?_ ?_<;>(intro h;first|exact sz h|refine sy h ?_)|exact sq|fail
  refine zt gd rfl rfl (zhc (by omega) hlt) ?_
  rintro w N1 ⟨hr,hgn⟩
  have hgnl:=hgn.le
  cases hfd:fdR s p with
  | none =>
   rw[hfd] at hr hw
   have hr:w=.tup [zFrv,I 0,.bool false]:=hr
   subst hr
   have hj:unR s=(zRl,5):=by rw[hj0,hw]
   rw[hj]
   have hr2:=hr1.grow hgn
   repeat' first|with_reducible intro _|refine sv ?_|refine sc ?_ ?_<;>(intro h;try exact sz h)|refine sg ?_ ?_<;>(intro h;first|exact sz h|refine sy h ?_)|exact sq|fail
   refine kf ?_
   exact⟨_,rfl,z2z _,xg⟩
  | some xq =>
   obtain⟨x,q⟩:=xq
   rw[hfd] at hr hw
   obtain⟨sv,rfl,hsv⟩:=hr
   simp only at hw
   have hxo:=zht hfd
   obtain⟨aa,ff,ee,rfl,hfn⟩:=FwN.vec (N:=fun i=>i < M3.next ∨ NV v i) hsv (fun i hi=>hi.elim (fun h=>by omega) (fun h=>NV.lt hv1 h))
   have ho2:=ho1.grow hgn
   have hr2:=hr1.grow hgn
   have hv2:=hv1.grow hgn
   have hx2:=(hx1.keep (hgn.to_keep (fun _=>False)) (fun _ h=>h.elim)).snoc hfn
   have hgg:=hg1.trans hgn
   obtain⟨va,vf,ve,rfl⟩:=hv2.shape
   clear hv1 hx1 ho1 hr1 hsv hfn
   repeat' first|with_reducible intro _|refine sv ?_|refine sc ?_ ?_<;>(intro h;try exact sz h)|refine sg ?_ ?_<;>(intro h;first|exact sz h|refine sy h ?_)|exact sq|fail
   rename_i fc N2 A1 A2 A3 N3 A4 A5 A6 n4 N4 A7 A8 A10
   have hg4:Grow N1 N4:=xg
   have hv4:=hv2.grow hg4
   have hx4:=hx2.keep (hg4.to_keep (fun _=>False)) (fun _ h=>h.elim)
   have ho4:=ho2.grow hg4
   have hr4:=hr2.grow hg4
   have hfw:=z7i (x:=(fky x,aa,x.2.2.length,ff,ee)) A7
   have hgM:=hgg.trans hg4
   clear A1 A4 A7
   refine z2l (by exact gd) (l':=[((fky x,aa,x.2.2.length,ff,ee):FW)]) hv4 rfl rfl rfl (by simp) (by rw[hxl];simp;omega) rfl hfw (fun _=>rfl) (fun _=>rfl) (by omega) ?_
   rintro v8 M8 hv8 e8 k8 ⟨n8,f8,q8,rfl⟩
   have ho8:=k8.at ho4 (fun hi=>by have:=hi.1;omega)
   have hr8:=k8.at hr4 (fun hi=>by have:=hi.1;omega)
   have hg8:Grow M M8:=Keep.to_grow' hgM k8 (fun i hi=>by have:=hi.1;have:=hg3.le;omega)
   repeat' first|with_reducible intro _|refine sv ?_|refine sc ?_ ?_<;>(intro h;try exact sz h)|refine sg ?_ ?_<;>(intro h;first|exact sz h|refine sy h ?_)|exact sq|fail
   rename_i M9 D1 D2 D3
   have hu9:Keep (fun i=>i=oc) M8 M9:=(Keep.refl (fun i=>i=oc) M8).upd D1 (.inl rfl)
   refine zc (s.size - q) (by omega) ⟨q,k,L ++ [x],xs ++ [((fky x,aa,x.2.2.length,ff,ee):FW)],_,rfl,hxo.2.2,by omega,rfl,.cons rfl (.cons rfl (.cons rfl (.cons rfl .nil))),hw,?_,by simp;omega,D3,hu9.at hr8 (fun h=>by omega),hv8.keep hu9 (fun i hi=>by subst hi;exact hoc3),?_,hg8.upd D1 (by omega),by omega⟩
   ·intro y hy
    rcases List.mem_append.1 hy with hy|hy
    ·exact hLo y hy
    ·rw[List.mem_singleton.1 hy];exact hxo.1
   ·refine(((hx4.ge (N':=fun i=>(i < M3.next ∨ NV (.slice va xs.length vf ve) i) ∨ i=N4.next) (fun i hi=>hi.imp id fun h=>by omega)).keep k8 (fun i hi=>.inl (.inr hi.2))).keep hu9 (fun i hi=>.inl (.inl (by omega)))).ge (fun i hi=>.inl ?_)
    rcases hi with h|h
    ·exact .inl (.inl h)
    ·exact .inr (NV.some h)
 subst hlast
 have hw2:frsR s s.size (9+n+3) []=some L:=by
  rw[hw]
  cases k with
  | zero=>rfl
  | succ k=>unfold frsR;rw[if_neg (by omega)]
 rw[hw2] at hj0
 simp only at hj0
 obtain⟨va,vf,ve,rfl,hfs⟩:=z89 hv1 hx1.l
 have hrl:RlV N (.agg [.str nm,.slice va L.length vf ve]) (nm,L):=⟨va,vf,ve,rfl,hfs⟩
 have hnms:nm.size<=1000000:=by rw[<-hnm,ByteArray.size_extract];omega
 have hrin:RlIn (nm,L):=⟨by show nm.size<=_;omega,by show L.length<=_;omega,fun x hx=>zml (hLo x hx)⟩
 clear ca8 hE
 repeat' first|with_reducible intro _|refine sv ?_|refine sc ?_ ?_<;>(intro h;try exact sz h)|((with_reducible first|apply zp|apply zr|apply d_pure0);exact gd;exact rfl;exact rfl;(first|exact znn hrl hrin))|refine sg ?_ ?_<;>(intro h;first|exact sz h|refine sy h ?_)|exact sq|fail
 ·rename_i M5 g5 l5 hne M6 u1 u2 u3
  have hj:unR s=(zRl,5):=by rw[hj0,if_neg fun h=>hne h.1]
  rw[hj]
  refine kf ?_
  exact⟨_,rfl,z2z _,xg⟩
 ·have hx:(strL (rpF (nm,L)).1 == s)=false:=by assumption
  have hj:unR s=(zRl,5):=by
   rw[hj0,if_neg]
   intro h
   rw[h.2,z4k] at hx
   cases hx
  rw[hj]
  refine kf ?_
  exact⟨_,rfl,z2z _,xg⟩
 ·rename_i M5 g5 l5 he M6 u1 u2 u3
  have hx:(strL (rpF (nm,L)).1 == s)=true:=by assumption
  have hj:unR s=((nm,L),0):=by rw[hj0,if_pos ⟨he,z7s hx⟩]
  rw[hj]
  have hu6:Keep (fun i=>i=rc) M5 M6:=(Keep.refl (fun i=>i=rc) M5).upd u1 (.inl rfl)
  have hv6:Vec M3.next 3 48 fwc M6 (.slice va L.length vf ve) xs:=(hv1.grow g5).keep hu6 (fun i hi=>by subst hi;omega)
  have hx6:=(hx1.keep (g5.to_keep (fun _=>False)) (fun _ h=>h.elim)).keep hu6 (fun i hi=>.inl (by omega))
  obtain⟨va',vf',ve',heq,hfs6⟩:=z89 hv6 hx6.l
  refine kf ?_
  exact⟨_,rfl,⟨va',vf',ve',by show LV.agg [_,_]=LV.agg [_,_];rw[heq],hfs6⟩,xg⟩
end Go.Proofs.YtbfnnllgdioccaaGreatDoor.C
end
section
open Go PvL Go.Proofs
set_option linter.unusedSimpArgs false
set_option linter.unusedVariables false
namespace Go.Proofs.YtbfnnllgdioccaaGreatDoor.C
theorem zfl(x:UInt8):u8 x.toNat=x:=by unfold u8;simp
theorem zjj{i:Nat}(h:i < wordL.length):byteAt (strL wordL) i=(wordL[i]'h).toNat:=by
 show(wordL.getD i 0).toNat=_
 rw[List.getD_eq_getElem?_getD,List.getElem?_eq_getElem h];rfl
theorem zr5{s:ByteArray}:∀(k i p:Nat) {u:Unit} {q:Nat},i+k=8->wdB s k i p=some (u,q)->q=p+k /\ Mt s p (wordL.drop i)
 | 0,i,p,u,q,hi,h=>by
  cases h
  obtain rfl:i=8:=by omega
  exact⟨rfl,trivial⟩
 | k+1,i,p,u,q,hi,h=>by
  unfold wdB at h
  split at h
  ·cases h
  ·rename_i b p' hb
   obtain⟨g1,rfl⟩:=z5z hb
   split at h
   ·rename_i he
    obtain⟨h1,h2⟩:=zr5 k (i+1) (p+1) (by omega) h
    refine⟨by omega,?_⟩
    have hi8:i < wordL.length:=by show i < 8;omega
    rw[List.drop_eq_getElem_cons hi8]
    have hw:=zjj hi8
    rw[he,hw,zfl] at g1
    exact⟨g1.1,g1.2.1,h2⟩
   ·cases h
theorem zqk{s:ByteArray}:∀(k i p:Nat),i+k=8->Mt s p (wordL.drop i)->wdB s k i p=some ((),p+k)
 | 0,i,p,hi,h=>rfl
 | k+1,i,p,hi,h=>by
  have hi8:i < wordL.length:=by show i < 8;omega
  rw[List.drop_eq_getElem_cons hi8] at h
  unfold wdB
  rw[z53 h]
  simp only
  rw[if_pos (zjj hi8).symm,zqk k (i+1) (p+1) (by omega) h.2.2]
  congr 2;omega
theorem zqm{s:ByteArray}:∀(n p:Nat) (acc:List UInt8) {l:List UInt8} {q:Nat},nmR s n p acc=some (l,q)->∃ r,l=acc ++ r /\ r.length=n /\ q=p+n /\ Mt s p r
 | 0,p,acc,l,q,h=>by cases h;exact⟨[],by simp,rfl,rfl,trivial⟩
 | n+1,p,acc,l,q,h=>by
  unfold nmR at h
  split at h
  ·cases h
  ·rename_i b p' hb
   obtain⟨g1,rfl⟩:=z5z hb
   obtain⟨r,e1,e2,e3,e4⟩:=zqm n (p+1) _ h
   exact⟨u8 b :: r,by rw[e1];simp,by rw[List.length_cons,e2],by omega,g1.1,g1.2.1,e4⟩
theorem zqj{s:ByteArray}:∀(r:List UInt8) (p:Nat) (acc:List UInt8),Mt s p r->nmR s r.length p acc=some (acc ++ r,p+r.length)
 | [],p,acc,h=>by simp[nmR]
 | x :: r,p,acc,h=>by
  rw[List.length_cons]
  unfold nmR
  rw[z53 h]
  simp only
  rw[zfl,zqj r (p+1) _ h.2.2,List.append_assoc]
  congr 2;omega
theorem zmn{s:ByteArray}:∀(m p:Nat) (acc:List Fr) {L:List Fr} {q:Nat},p<=s.size->frsB s m p acc=some (L,q)->∃ r,L=acc ++ r /\ r.length=m /\ q=p+(r.flatMap pkL).length /\ Mt s p (r.flatMap pkL) /\ FrOk r
 | 0,p,acc,L,q,hp,h=>by cases h;exact⟨[],by simp,rfl,rfl,trivial,fun _ h=>nomatch h⟩
 | m+1,p,acc,L,q,hp,h=>by
  unfold frsB at h
  split at h
  ·cases h
  ·rename_i x p' hx
   have hok:=z9d hp hx
   obtain⟨g1,rfl,g3⟩:=zm6 hp hx
   obtain⟨r,e1,e2,e3,e4,e5⟩:=zmn m _ _ hok.2.2 h
   refine⟨x :: r,by rw[e1];simp,by rw[List.length_cons,e2],by rw[List.flatMap_cons,List.length_append,e3];omega,by rw[List.flatMap_cons];exact Mt.app.2 ⟨g3,e4⟩,fun y hy=>?_⟩
   rcases List.mem_cons.1 hy with rfl|hy
   ·exact g1
   ·exact e5 y hy
theorem zmt{s:ByteArray}:∀(r:List Fr) (p:Nat) (acc:List Fr),p<=s.size->FrOk r->Mt s p (r.flatMap pkL)->frsB s r.length p acc=some (acc ++ r,p+(r.flatMap pkL).length)
 | [],p,acc,hp,ho,h=>by simp[frsB]
 | x :: r,p,acc,hp,ho,h=>by
  rw[List.flatMap_cons] at h ⊢
  obtain⟨h1,h2⟩:=Mt.app.1 h
  rw[List.length_cons]
  unfold frsB
  rw[zmr hp (ho x (by simp)) h1]
  simp only
  rw[zmt r _ _ (h1.le hp) (fun y hy=>ho y (by simp[hy])) h2,List.append_assoc,List.length_append]
  congr 2;omega
theorem zqp(x:Fr):0 <(pkL x).length:=by
 unfold pkL chkL bodyL hdL
 simp only[List.length_append,List.length_cons]
 omega
theorem zil{s:ByteArray}:∀(r:List Fr) (k p:Nat) (acc:List Fr),s.size - p<=k->FrOk r->Mt s p (r.flatMap pkL)->p+(r.flatMap pkL).length=s.size->frsR s k p acc=some (acc ++ r)
 | [],k,p,acc,hk,ho,h,hl=>by
  have hl:p=s.size:=by simpa using hl
  cases k with
  | zero=>simp[frsR]
  | succ k=>unfold frsR;rw[if_neg (by omega)];simp
 | x :: r,k,p,acc,hk,ho,h,hl=>by
  rw[List.flatMap_cons,List.length_append] at hl
  rw[List.flatMap_cons] at h
  obtain⟨h1,h2⟩:=Mt.app.1 h
  have:=zqp x
  obtain⟨k,rfl⟩:∃ j,k=j+1:=⟨k - 1,by omega⟩
  unfold frsR
  rw[if_pos (by omega),zms (by omega) (ho x (by simp)) h1]
  simp only
  rw[zil r k _ _ (by omega) (fun y hy=>ho y (by simp[hy])) h2 (by omega),List.append_assoc]
  rfl
theorem zsr(r:Rl):rpL r=(wordL ++([u8 r.1.size] ++(r.1.data.toList ++ [u8 r.2.length]))) ++(twoL (crcK (strL (rhL r)) (rhL r).length).toNat ++ r.2.flatMap pkL):=by
 unfold rpL chkL
 have:rhL r=wordL ++([u8 r.1.size] ++(r.1.data.toList ++ [u8 r.2.length])):=by unfold rhL wordL;simp
 rw[this];simp
theorem zqx(r:Rl):rhL r=wordL ++([u8 r.1.size] ++(r.1.data.toList ++ [u8 r.2.length])):=by unfold rhL wordL;simp
theorem zm9{s:ByteArray}{r:Rl}{q:Nat}(h:RlD s=some (r,q)):z0v r=0 /\ (rpL r).length=s.size /\ Mt s 0 (rpL r):=by
 unfold RlD at h
 split at h
 ·cases h
 ·rename_i u1 p1 h1
  split at h
  ·cases h
  ·rename_i n p2 h2
   split at h
   ·cases h
   ·rename_i nm p3 h3
    split at h
    ·cases h
    ·rename_i m p4 h4
     split at h
     ·cases h
     ·rename_i u5 p5 h5
      split at h
      ·cases h
      ·rename_i L p6 h6
       split at h
       ·rename_i hc
        cases h
        obtain⟨rfl,g1⟩:=zr5 8 0 0 rfl h1
        obtain⟨g2,rfl⟩:=z5z h2
        obtain⟨r3,e3,e3',rfl,g3⟩:=zqm n _ [] h3
        rw[List.nil_append] at e3
        subst e3
        have hp4:=z3s h4
        obtain⟨g4,rfl⟩:=z5z h4
        unfold chkB at h5
        split at h5
        ·cases h5
        ·rename_i c p7 h7
         have hp7:=z4i h7
         obtain⟨g7,rfl,hc7⟩:=zfk h7
         split at h5
         ·rename_i hcrc
          cases h5
          obtain⟨r6,e6,e6',hp6,g6,ho⟩:=zmn m _ [] hp7.2.1 h6
          rw[List.nil_append] at e6
          subst e6
          have hr:rhL (strL nm,L)=wordL ++([u8 n] ++(nm ++ [u8 m])):=by
           rw[zqx]
           show wordL ++([u8 nm.length] ++(nm ++ [u8 L.length]))=_
           rw[e3',e6']
          have hM:Mt s 0 (rhL (strL nm,L)):=by
           rw[hr]
           refine Mt.app.2 ⟨g1,Mt.app.2 ⟨g2,Mt.app.2 ⟨g3,?_⟩⟩⟩
           rw[e3'];exact g4
          have hl:(rhL (strL nm,L)).length=0+8+1+n+1:=by rw[hr];simp[wordL,e3'];omega
          have hx:=zav (p:=0) (Nat.zero_le _) hM
          rw[Nat.zero_add,hl] at hx
          have hrp:rpL (strL nm,L)=rhL (strL nm,L) ++(twoL c ++ L.flatMap pkL):=by
           unfold rpL chkL
           rw[hl,<- hx,<- hcrc,Int.toNat_natCast,List.append_assoc]
          refine⟨hc.2,?_,?_⟩
          ·rw[hrp,List.length_append,List.length_append,hl,<- hc.1,hp6]
           simp[twoL];omega
          ·rw[hrp]
           refine Mt.app.2 ⟨hM,Mt.app.2 ⟨?_,?_⟩⟩
           ·rw[Nat.zero_add,hl];exact g7
           ·rw[Nat.zero_add,hl];exact g6
         ·cases h5
       ·cases h
theorem zof{s:ByteArray}(h:nmB s=true):1<=s.size /\ s.size<=16:=by
 unfold nmB btB at h
 simp only[Bool.and_eq_true,decide_eq_true_eq] at h
 omega
theorem zb9{r:Rl}(h:z0v r=0):FrOk r.2 /\ r.2.length<=128 /\ 1<=r.1.size /\ r.1.size<=16:=by
 obtain⟨h1,h2,h3,_⟩:=zsq h
 have:=zof h3
 exact⟨h1,h2,this.1,this.2⟩
theorem zqg{s:ByteArray}{r:Rl}(he:z0v r=0)(hl:(rpL r).length=s.size)(h:Mt s 0 (rpL r)):RlD s=some (r,s.size):=by
 obtain⟨ho,hm,hn1,hn16⟩:=zb9 he
 obtain⟨nm,L⟩:=r
 simp only at ho hm hn1 hn16
 have hr:=zqx (nm,L)
 simp only at hr
 have hsz:nm.data.toList.length=nm.size:=rfl
 have hlen:(rhL (nm,L)).length=0+8+1+nm.size+1:=by rw[hr];simp[wordL,hsz];omega
 have hbd:=z57 (strL (rhL (nm,L))) (rhL (nm,L)).length
 unfold rpL chkL at h hl
 rw[List.append_assoc] at h hl
 obtain⟨hM,h⟩:=Mt.app.1 h
 obtain⟨hC,hF⟩:=Mt.app.1 h
 have hx:=zav (p:=0) (Nat.zero_le _) hM
 rw[List.length_append,List.length_append] at hl
 rw[Nat.zero_add,hlen] at hC hF hx
 rw[hlen] at hl
 have hM2:=hM
 rw[hr] at hM2
 obtain⟨m1,hM2⟩:=Mt.app.1 hM2
 obtain⟨m2,hM2⟩:=Mt.app.1 hM2
 obtain⟨m3,m4⟩:=Mt.app.1 hM2
 have r1:=zqk 8 0 0 rfl m1
 have r2:=z53 (l:=[]) m2
 rw[u8_n (by omega)] at r2
 have r3:=zqj _ _ [] m3
 rw[hsz,List.nil_append] at r3
 have r4:=z53 (l:=[]) m4
 rw[u8_n (by omega),hsz] at r4
 rw[hlen] at hbd
 generalize hcv:crcK (strL (rhL (nm,L))) (0+8+1+nm.size+1)=cv at *
 have r1':wdB s 8 0 0=some ((),8):=r1
 have r2':oneB s 8=some (nm.size,9):=r2
 have r3':nmR s nm.size 9 []=some (nm.data.toList,9+nm.size):=r3
 have r4':oneB s (9+nm.size)=some (L.length,9+nm.size+1):=r4
 have hC':Mt s (9+nm.size+1) (twoL cv.toNat):=hC
 have r5:=zfa (by omega) hC'
 have hx':crcX s 0 (9+nm.size+1)=cv:=hx
 have hF':Mt s (9+nm.size+1+2) (L.flatMap pkL):=hF
 have hl':9+nm.size+1+(2+(L.flatMap pkL).length)=s.size:=hl
 have r6:=zmt L _ [] (by omega) ho hF'
 rw[List.nil_append] at r6
 have hck:chkB s 0 (9+nm.size+1)=some ((),9+nm.size+1+2):=by
  unfold chkB
  rw[r5]
  simp only
  rw[if_pos (by rw[hx'];omega)]
 unfold RlD
 rw[r1'];simp only;rw[r2'];simp only;rw[r3'];simp only;rw[r4'];simp only;rw[hck];simp only;rw[r6];simp only
 rw[z68,if_pos ⟨by omega,he⟩]
 congr 2;omega
theorem zgw{s:ByteArray}{r:Rl}{q:Nat}(h:RlD s=some (r,q)):z0v r=0 /\ strL (rpL r)=s:=by
 obtain⟨h1,h2,h3⟩:=zm9 h
 refine⟨h1,?_⟩
 have h4:=(Mt.drop (Nat.zero_le _)).1 h3
 rw[List.drop_zero,h2,List.take_of_length_le (by show s.size<=s.size;omega)] at h4
 rw[<-h4,z68]
theorem zo7{s:ByteArray}{r:Rl}(he:z0v r=0)(h:strL (rpL r)=s):RlD s=some (r,s.size):=by
 have hl:(rpL r).length=s.size:=by rw[<-h];rfl
 refine zqg he hl ((Mt.drop (Nat.zero_le _)).2 ?_)
 rw[List.drop_zero,<- h]
 show(rpL r).take (rpL r).length=rpL r
 rw[List.take_length]
theorem zmy{r:Rl}(h:z0v r=0):rpF r=(rpL r,0):=by
 have:rlB r=true:=by
  unfold z0v at h
  by_cases hb:rlB r=true
  ·exact hb
  ·rw[if_neg hb] at h;cases h
 unfold rpF;rw[if_pos this]
theorem zop{r:Rl}(h:(rpF r).2=0):z0v r=0:=by
 unfold rpF at h
 unfold z0v
 split at h
 ·rename_i hb;rw[if_pos hb]
 ·cases h
theorem zr1(s:ByteArray):unR s=unP s:=by
 unfold unR unP
 by_cases hlong:65536 < s.size
 ·rw[if_pos hlong,if_pos hlong]
 rw[if_neg hlong,if_neg hlong]
 cases h:RlD s with
 | some rq =>
  obtain⟨r,q⟩:=rq
  obtain⟨he,hs⟩:=zgw h
  obtain⟨h1,h2,h3⟩:=zm9 h
  obtain⟨ho,hm,hn1,hn16⟩:=zb9 he
  obtain⟨nm,L⟩:=r
  simp only at ho hm hn1 hn16 ⊢
  have hsz:nm.data.toList.length=nm.size:=rfl
  have hrp:=zsr (nm,L)
  simp only at hrp
  rw[hrp] at h3
  obtain⟨ha,hb⟩:=Mt.app.1 h3
  obtain⟨m1,ha⟩:=Mt.app.1 ha
  obtain⟨m2,ha⟩:=Mt.app.1 ha
  obtain⟨m3,m4⟩:=Mt.app.1 ha
  obtain⟨hC,hF⟩:=Mt.app.1 hb
  generalize hcv:(crcK (strL (rhL (nm,L))) (rhL (nm,L)).length).toNat=cv at *
  have e8:byteAt s 8=nm.size:=by have:=m2.2.1;rw[u8_n (by omega)] at this;exact this
  have hlen:s.size=9+nm.size+1+(2+(L.flatMap pkL).length):=by
   rw[<-h2,hrp];simp[wordL,twoL,hsz];omega
  have m3':Mt s 9 nm.data.toList:=m3
  have hex:=((Mt.ext (by omega)).1 m3').2
  rw[hsz,z68] at hex
  have hF':Mt s (9+nm.size+3) (L.flatMap pkL):=by
   have e:0+(wordL ++([u8 nm.size] ++(nm.data.toList ++ [u8 L.length]))).length+(twoL cv).length=9+nm.size+3:=by simp[wordL,twoL,hsz];omega
   rw[e] at hF;exact hF
  rw[if_neg (by omega),e8,if_neg (by omega),zil L s.size _ [] (by omega) ho hF' (by omega),hex,List.nil_append]
  simp only
  rw[zmy he,if_pos ⟨rfl,hs⟩]
 | none =>
  simp only
  split
  ·rfl
  ·split
   ·rfl
   ·split
    ·rfl
    ·rename_i L hL
     split
     ·rename_i hc
      have he:=zop hc.1
      have h2:=hc.2
      rw[zmy he] at h2
      rw[zo7 he h2] at h
      cases h
     ·rfl
theorem zsj{l l':List Int}{k:Nat}(hk:k < l.length)(hk':k < l'.length)(h:l[k] ≠ l'[k]):decide (l=l')=false:=by
 rw[decide_eq_false_iff_not]
 rintro rfl
 exact h rfl
set_option maxHeartbeats 2000000 in
theorem znl{M:Mem}{a b:Option (Nat × Nat)}{l l':List Int}{f f':Bool}{e e':Nat}(ha:SlI M a l)(hb:SlI M b l')(hl:l.length<=1000000000000000)(hl':l'.length<=1000000000000000) :
  z9 Tryz.prog 16 [.slice a l.length f e,.slice b l'.length f' e'] M (fun w M'=>w=.bool (decide (l=l')) /\ M'=M):=by
 refine zb k16 rfl ?_
 dsimp only[x16,zM,zO,zI,zF,zS,zB,zL,zA,zE,zN,zW,zC,zipE,Nat.reduceAdd]
 by_cases hne:l.length=l'.length
 ·repeat' first|with_reducible intro _|refine sv ?_|refine sc ?_ ?_<;>(intro h;try exact sz h)|refine sg ?_ ?_<;>(intro h;first|exact sz h|refine sy h ?_)|exact sq|fail
  all_goals try(exfalso;omega)
  refine z8 (fun m E ms M'=>∃ k:Nat,m=l.length - k /\ k<=l.length /\ ms=[] /\ Has E [(0,.slice a l.length f e),(1,.slice b l'.length f' e'),(5,I k)] /\ M'=M /\ l.take k=l'.take k)
   ?_ l.length _ _ _ ⟨0,by omega,by omega,rfl,.cons rfl (.cons rfl (.cons rfl .nil)),rfl,rfl⟩
  rintro m E ms M1 ⟨k,rfl,hk,rfl,hE,rfl,hall⟩
  refine zu hE ?_
  by_cases hlast:k=l.length
  ·subst hlast
   repeat' first|with_reducible intro _|refine sv ?_|refine sc ?_ ?_<;>(intro h;try exact sz h)|refine sg ?_ ?_<;>(intro h;first|exact sz h|refine sy h ?_)|exact sq|fail
   refine kf ?_
   refine⟨?_,rfl⟩
   rw[List.take_of_length_le (Nat.le_refl _),List.take_of_length_le (by omega)] at hall
   rw[decide_eq_true hall];rfl
  ·have hlt:k < l.length:=by omega
   have hlt':k < l'.length:=by omega
   obtain⟨i,o,rfl,hr⟩:=ha.rd hlt
   obtain⟨i2,o2,rfl,hr2⟩:=hb.rd hlt'
   by_cases heq:l[k]=l'[k]
   ·rw[<-heq] at hr2
    have htk:l.take (k+1)=l'.take (k+1):=by
     rw[List.take_succ_eq_append_getElem hlt,List.take_succ_eq_append_getElem hlt',hall,heq]
    generalize l[k]=p at *
    (have hrd0:=hr;have hrd1:=hr2;repeat' (first|(with_reducible intro _)|refine sv ?_|(refine sc ?_ ?_<;>(intro h;try exact sz h))|refine sg ?_ ?_<;>(intro h;first|exact sz h|refine sy h ?_)|exact sq|fail))
    all_goals try(exfalso;omega)
    refine zc (l.length - (k+1)) (by omega) ⟨k+1,rfl,by omega,rfl,.cons rfl (.cons rfl (.cons rfl .nil)),rfl,htk⟩
   ·have hd:=zsj hlt hlt' heq
    rw[hd]
    generalize l[k]=p at *
    generalize l'[k]=q at *
    (have hrd0:=hr;have hrd1:=hr2;repeat' (first|(with_reducible intro _)|refine sv ?_|(refine sc ?_ ?_<;>(intro h;try exact sz h))|refine sg ?_ ?_<;>(intro h;first|exact sz h|refine sy h ?_)|exact sq|fail))
    all_goals try(exfalso;omega)
    refine kf ?_
    exact⟨rfl,rfl⟩
 ·have hd:decide (l=l')=false:=by
   rw[decide_eq_false_iff_not];rintro rfl;exact hne rfl
  rw[hd]
  repeat' first|with_reducible intro _|refine sv ?_|refine sc ?_ ?_<;>(intro h;try exact sz h)|refine sg ?_ ?_<;>(intro h;first|exact sz h|refine sy h ?_)|exact sq|fail
  all_goals try(exfalso;omega)
  refine kf ?_
  exact⟨rfl,rfl⟩
set_option maxHeartbeats 2000000 in
theorem zdj{M:Mem}{v w:LV}{x y:Fr}(hv:FrV M v x)(hw:FrV M w y)(hl:x.2.2.length<=1000000000000000)(hl':y.2.2.length<=1000000000000000) :
  z9 Tryz.prog 70 [v,w] M (fun r M'=>r=.bool (decide (x=y)) /\ Grow M M'):=by
 obtain⟨a,f,e,rfl,hs⟩:=hv
 obtain⟨b,f',e',rfl,hs'⟩:=hw
 obtain⟨x1,x2,x3⟩:=x
 obtain⟨y1,y2,y3⟩:=y
 dsimp only at *
 have hd:decide ((x1,x2,x3)=(y1,y2,y3))=(decide (x1=y1) && (decide (x2=y2) && decide (x3=y3))):=by
  rw[Bool.eq_iff_iff];simp
 rw[hd]
 have hc:∀ M',Grow M M'->z9 Tryz.prog 16 [.slice a x3.length f e,.slice b y3.length f' e'] M' (fun w M''=>w=.bool (decide (x3=y3)) /\ M''=M'):=fun M' hg=>znl (hs.grow hg) (hs'.grow hg) hl hl'
 refine zb k70 rfl ?_
 dsimp only[x70,zM,zO,zI,zF,zS,zB,zL,zA,zE,zN,zW,zC,zipE,Nat.reduceAdd]
 by_cases h1:x1=y1
 ·by_cases h2:x2=y2
  ·repeat' first|with_reducible intro _|refine sv ?_|refine sc ?_ ?_<;>(intro h;try exact sz h)|((with_reducible first|apply z06|apply z0k|apply d_same0);exact gd;exact rfl;exact rfl;(first|exact hc _ (xg)))|refine sg ?_ ?_<;>(intro h;first|exact sz h|refine sy h ?_)|exact sq|fail
   refine kf ?_
   refine⟨?_,xg⟩
   rw[decide_eq_true h1,decide_eq_true h2];rfl
  ·repeat' first|with_reducible intro _|refine sv ?_|refine sc ?_ ?_<;>(intro h;try exact sz h)|refine sg ?_ ?_<;>(intro h;first|exact sz h|refine sy h ?_)|exact sq|fail
   refine kf ?_
   refine⟨?_,xg⟩
   rw[decide_eq_true h1,decide_eq_false h2];rfl
 ·repeat' first|with_reducible intro _|refine sv ?_|refine sc ?_ ?_<;>(intro h;try exact sz h)|refine sg ?_ ?_<;>(intro h;first|exact sz h|refine sy h ?_)|exact sq|fail
  refine kf ?_
  refine⟨?_,xg⟩
  rw[decide_eq_false h1];rfl
