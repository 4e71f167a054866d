/-
 Part of the proof of TapeKept. No condition beyond those in each theorem.
-/
import Derived.Test.YtpgalhbplcanhaaGreatDoorSE
import Derived.Test.YtpgalhbplcanhaaGreatDoorSB
import Derived.Test.YtpgalhbplcanhaaGreatDoorTX
set_option linter.unusedVariables false
set_option linter.unusedSimpArgs false
set_option linter.unusedSectionVars false
section
open Go PvL Go.Proofs
namespace Go.Proofs.YtpgalhbplcanhaaGreatDoor.C
theorem zgu{α o:Type}{g:α->List o}{B:Nat}:∀ {l:List α},(∀ c∈l,(g c).length<=B)->(l.flatMap g).length<=B*l.length
 | [],_=>by simp
 | c::l,h=>by
  rw[List.flatMap_cons,List.length_append,List.length_cons,Nat.mul_add,Nat.mul_one]
  have h1:=h c List.mem_cons_self
  have q:=zgu (g:=g) (B:=B) (l:=l) (fun c d=>h c (List.mem_cons_of_mem _ d))
  omega
set_option maxHeartbeats 16000000 in
theorem znh{M:Mem}{v:LV}{x:Fr}(hv:FrV M v x)(hx:frB x=true):zc Tryz.prog 61 [v] M (fun w M'=>∃ b,ApB b M' w (pkL x)/\M.next<=b/\Grow M M'):=by
 obtain⟨a,f,e,rfl,hs⟩:=hv
 obtain⟨s,c,l⟩:=x
 have h0:=zay hx
 dsimp only at h0 hs ⊢
 obtain⟨s4,s5,r8,r9,d7⟩:=h0
 have i9:1<=l.length/\l.length<=64/\l.all smB=true:=by
  unfold smsB btB at d7
  simp only[Bool.and_eq_true,decide_eq_true_eq] at d7
  exact⟨by omega,by omega,d7.2⟩
 obtain⟨s,rfl⟩:∃ n:Nat,s=(n:Int):=⟨s.toNat,by omega⟩
 obtain⟨c,rfl⟩:∃ n:Nat,c=(n:Int):=⟨c.toNat,by omega⟩
 have n0:pkL ((s:Int),(c:Int),l)=chkL ((([165,90]++twoL s)++[u8 c,u8 l.length])++cdsL l l.length):=rfl
 rw[n0]
 refine zd Y61.2 rfl ?_
 delta Y61;refine un ?_
 repeat' first|with_reducible intro _|refine sv ?_|((with_reducible first|apply za8|apply z8u);exact gd;exact rfl;exact rfl;(first|exact zun s (by omega) _))|refine ss ?_ ?_<;>(intro h;first|exact sz h|refine sy h ?_)|exact sq|fail
 rename_i m1 M1 l6 q1 q2 m5 M5 f1 q3 q4 p8 M8 e8 l8 s8 i6 t0
 have f5:At M8 m1 (.cells true [I s,I c,.slice a l.length f e] 72):=xm
 have g9:ApB m5 M8 (.slice (some (m5,0)) 2 true 1) [165,90]:=ApB.grow (M:=M5) ⟨true,_,rfl,At.new_same f1,.inl rfl⟩ i6
 have a6:Grow M M8:=xg
 refine zpc (l':=twoL s) (by exact gd) g9 rfl rfl rfl (by simp[twoL]) (by simp[twoL]) rfl (z2a (f:=true) e8) ?_
 intro v9 M9 b6 e9 d4
 have i7:Grow M M9:=Keep.to_grow' a6 d4 (fun i hi=>by omega)
 have f7:=f5.keep d4 (by omega)
 obtain⟨f9,t8,rfl,n2⟩:=id b6
 refine Wh ?_;intro P p5 f0 u1 u2 p6 f4 u3 e5 t1 c4 a0 u4 u5
 have B:Grow M9 c4:=xg
 have b9:=b6.grow B
 have b8:=At.grow B f7
 have c3:At c4 P (.cells true [.slice (some (M8.next,0)) ([165,90]++twoL s).length f9 1] 169):=xm
 rw[show [LV.int .u8 (c:Int),LV.int .u8 (l.length:Int)]=z0b [u8 c,u8 l.length] from by show _=[byteL (u8 c),byteL (u8 l.length)];rw[z8h (by omega),z8h (by omega)]] at a0
 have d2:=i7.trans B
 have s9:=b6.lt
 refine zpc (l':=[u8 c,u8 l.length]) (by exact gd) b9 rfl rfl rfl (by simp) (by simp[twoL]) rfl (z2a (f:=true) (At.new_same a0)) ?_
 intro u0 k0 Q q0 X
 have d3:Grow M k0:=Keep.to_grow' d2 X (fun i hi=>by have:=a6.le;omega)
 have f6:=b8.keep X (by omega)
 have j2:=c3.keep X (by omega)
 generalize l4:([165,90]++twoL s)++[u8 c,u8 l.length]=Z at *
 have s3:Z.length=6:=by rw[<-l4];simp[twoL]
 generalize r6:c4.next=J at *
 have r3:=a6.le
 clear l6 f1 e8 i6 d4 f0 f4 e5 a0 X b9 n2 b6 B b8 c3 g9 f5 f7
 obtain⟨l0,p3,rfl,j6⟩:=id Q
 repeat' first|with_reducible intro _|refine sv ?_|((with_reducible first|apply za8|apply z8u);exact gd;exact rfl;exact rfl;(first|exact zrf _))|refine ss ?_ ?_<;>(intro h;first|exact sz h|refine sy h ?_)|exact sq|fail
 rename_i e0 a1 q5 b7 t2 k3 e6 s6 o7 V o9
 have c0:ApB J e0 (.slice (some (J,0)) Z.length l0 1) Z:=by
  obtain⟨f,ty,h1,h2,K⟩:=Q
  exact⟨f,ty,h1,At.upd_ne a1 (by omega) h2,K⟩
 have f8:=c0.grow V
 have j3:=At.grow V b7
 have a5:Grow M e0:=d3.upd a1 (by omega)
 have L:=a5.trans V
 have o2:=Q.lt
 clear a1 b7 V c0 Q j6 f6 j2 a5
 apply zeo
 exact rfl
 intro lb d0 D p7 H m8 h9 q6 n4 d5 q7 n5
 have t:Grow k3 H:=h9.grow.trans d5.grow
 have O:=L.trans t
 have j5:=hs.grow O
 have hy:=ztr (At.grow t e6) j5 i9.2.1 i9.2.2
 have i0:At H d0 .defr:=At.new_old d5 (At.new_same h9)
 refine(hy D (fun i=>i=P∨i=J∨i=D) (fun dn T M'=>∃ v b,At M' P (.cells true [v] 169)/\ApB b M' v (Z++dn.flatMap fun c=>cdN c.toNat)/\(b=J∨T b)/\At M' D (lb .ready none)/\At M' d0 .defr/\Keep (fun i=>i=P∨i=J∨i=D) H M'/\dn.length<=64) (fun _ _=>False) ⟨?_,?_,fun T M M' h=>h.elim,?_⟩ ?_ ⟨_,J,At.grow t j3,by rw[List.flatMap_nil,List.append_nil];exact f8.grow t,.inl rfl,At.new_same d5,i0,Keep.refl _ _,Nat.zero_le _⟩).mono ?_
 ·rintro i (rfl|rfl|rfl)<;>omega
 ·rintro dn T Mx My ⟨v,b,h1,h2,K,h4,h5,h6,h7⟩ b1 hg
  have a7:∀ i,i<H.next->My.get i=Mx.get i:=fun i hi=>hg i (.inl ⟨hi,id⟩)
  refine⟨v,b,h1.same b1 (a7 _ (by omega)),h2.same b1 ?_,K,h4.same b1 (a7 _ (by omega)),h5.same b1 (a7 _ (by omega)),⟨Nat.le_trans h6.le b1,fun i hi hf=>by rw[a7 i hi];exact h6.old i hi hf⟩,h7⟩
  rcases K with rfl|K
  ·exact a7 _ (by omega)
  ·exact hg _ (.inr K)
 ·rintro dn c' p2 v' U T Mx a8 ⟨rfl,hU⟩ r4 hT r5 ⟨v,b,h1,h2,K,h4,h5,h6,h7⟩
  have h8:c'∈cdItems l l.length:=by rw[a8];simp
  have s0:0<=c'/\c'<=131070:=by
   unfold cdItems at h8
   obtain⟨k,_,rfl⟩:=List.mem_map.1 h8
   exact zdc l k
  have m6:dn.length+1<=64:=by
   have:=congrArg List.length a8
   rw[List.length_append,List.length_cons] at this
   unfold cdItems at this
   rw[List.length_map,List.length_range] at this
   omega
  obtain⟨N,rfl⟩:∃ N:Nat,c'=(N:Int):=⟨c'.toNat,by omega⟩
  have l9:(dn.flatMap fun c=>cdN c.toNat).length<=1100*dn.length:=zgu (fun c hc=>by
   have c1:c∈cdItems l l.length:=by rw[a8];exact List.mem_append_left _ hc
   unfold cdItems at c1
   obtain⟨k,_,rfl⟩:=List.mem_map.1 c1
   have:=zdc l k
   have:=zc0 (cdA l k).toNat
   omega)
  have d1:(dn++[(N:Int)]).flatMap (fun c=>cdN c.toNat)=(dn.flatMap fun c=>cdN c.toNat)++cdN N:=by rw[List.flatMap_append];simp
  rw[d1]
  have o1:=zc0 N
  generalize a4:Z ++(dn.flatMap fun c=>cdN c.toNat)=base at *
  have j9:base.length<=100000:=by rw[<-a4,List.length_append];omega
  have r7:=h2.lt
  have o5:=h4.2
  refine z5e m8 h4 rfl ?_
  dsimp only[zipP]
  refine Wh ?_;intro MB a2 eB j0
  have S:b≠D/\(b=J∨H.next<=b):=by
   rcases K with rfl|K
   ·exact⟨by omega,.inl rfl⟩
   ·have:=(hT b K).1
    exact⟨by omega,.inr this⟩
  have k1:=At.upd_ne a2 (show P≠D by omega) h1
  have k2:ApB b MB v base:=by
   obtain⟨f,ty,g1,g2,g3⟩:=h2
   exact⟨f,ty,g1,At.upd_ne a2 S.1 g2,g3⟩
  have k5:=At.upd_ne a2 (show d0≠D by omega) h5
  have l5:Keep (fun i=>i=P∨i=J∨i=D∨T i) Mx MB:=(Keep.refl _ _).upd a2 (.inl (.inr (.inr (.inl rfl))))
  have o3:=h6.le
  clear a2
  refine zg (fun z E ms M'=>∃(m:Nat) (pre:List UInt8) (v2:LV) (C:Nat),z=m/\m<=N/\ms=[]/\Has E [(3,.ptr (some (P,0))),(4,I m)]/\At M' P (.cells true [v2] 169)/\ApB C M' v2 (base++pre)/\pre++cdN m=cdN N/\(C=J∨T C∨Mx.next<=C)/\(C=J∨H.next<=C)/\At M' D (lb .busy none)/\At M' d0 .defr/\Keep (fun i=>i=P∨i=J∨i=D∨T i) Mx M')
   ?_ N _ _ _ ⟨N,[],v,b,rfl,Nat.le_refl _,rfl,.cons rfl (.cons rfl .nil),k1,by rw[List.append_nil];exact k2,rfl,K.elim .inl (fun h=>.inr (.inl h)),S.2,j0,k5,l5⟩
  rintro z E ms MC ⟨m,pre,v2,C,hz,hm,rfl,hE,r1,r2,b3,c8,n9,j8,j7,c7⟩
  refine z06 hE ?_
  obtain⟨f2,t7,rfl,n7⟩:=id r2
  have n1:pre.length<=2000:=by
   have:=congrArg List.length b3
   rw[List.length_append] at this
   omega
  have o0:=r2.lt
  have o4:=c7.le
  have r0:C=P∨C=J∨C=D∨T C∨Mx.next<=C:=c8.elim (fun h=>.inr (.inl h)) (fun h=>.inr (.inr (.inr h)))
  by_cases e4:128<=m
  ·have m2:(m:Int)/128=((m/128:Nat):Int):=by omega
   have m4:(m:Int)%128+128=((m%128+128:Nat):Int):=by omega
   have m7:=zar e4
   refine Wh ?_;intro h nD MD g eD k9
   rw[m4,zgg (by omega)] at g
   have d9:=r2.grow g.grow
   refine zpc (l':=[u8 (m%128+128)]) (by exact gd) d9 rfl rfl rfl (by simp) (by simp;omega) rfl (z2a (f:=true) (At.new_same g)) ?_
   intro v3 ME c9 eE u
   have b5:Keep (fun i=>i=P∨i=J∨i=D∨T i) Mx ME:=(c7.new g).trans u (fun i hi=>by
    subst hi
    rcases c8 with h|h|h
    ·exact .inl (.inr (.inl h))
    ·exact .inl (.inr (.inr (.inr h)))
    ·exact .inr h)
   have l2:=(At.new_old g r1).keep u (show ¬ P=C by omega)
   have e3:=(At.new_old g j8).keep u (show ¬ D=C by omega)
   have c5:=(At.new_old g j7).keep u (show ¬ d0=C by omega)
   clear u
   obtain⟨f3,n3,rfl,d8,b4⟩:=id c9
   refine Wh ?_;intro MF A eF d6
   exact zi (m/128) (by omega) ⟨m/128,pre++[u8 (m%128+128)],_,MD.next,rfl,by omega,rfl,.cons rfl (.cons (by rw[<-m2];rfl) .nil),d6,by rw[<-List.append_assoc];exact⟨_,_,rfl,At.upd_ne A (by omega) d8,b4⟩,by rw[List.append_assoc,<- b3,m7];rfl,.inr (.inr (by omega)),.inr (by omega),At.upd_ne A (by omega) e3,At.upd_ne A (by omega) c5,b5.upd A (.inl (.inl rfl))⟩
  ·have m9:=z7k (show m<128 by omega)
   refine Wh ?_;intro h nD MD g eD k9
   rw[zgg (by omega)] at g
   have d9:=r2.grow g.grow
   refine zpc (l':=[u8 m]) (by exact gd) d9 rfl rfl rfl (by simp) (by simp;omega) rfl (z2a (f:=true) (At.new_same g)) ?_
   intro v3 ME c9 eE u
   have b5:Keep (fun i=>i=P∨i=J∨i=D∨T i) Mx ME:=(c7.new g).trans u (fun i hi=>by
    subst hi
    rcases c8 with h|h|h
    ·exact .inl (.inr (.inl h))
    ·exact .inl (.inr (.inr (.inr h)))
    ·exact .inr h)
   have l2:=(At.new_old g r1).keep u (show ¬ P=C by omega)
   have e3:=(At.new_old g j8).keep u (show ¬ D=C by omega)
   have c5:=(At.new_old g j7).keep u (show ¬ d0=C by omega)
   clear u
   obtain⟨f3,n3,rfl,d8,b4⟩:=id c9
   refine Wh ?_;intro MF A eF d6 MG a3 eG j1
   refine⟨((b5.upd A (.inl (.inl rfl))).upd a3 (.inl (.inr (.inr (.inl rfl))))).weaken (fun i hi=>?_),fun i=>i=MD.next,fun i hi=>⟨.inr (.inr (by omega)),by omega⟩,.inl ⟨rfl,_,MD.next,At.upd_ne a3 (by omega) d6,?_,.inr rfl,j1,At.upd_ne a3 (by omega) (At.upd_ne A (by omega) c5),?_,?_⟩⟩
   ·rcases hi with h|h|h|h
    ·exact .inl (.inl h)
    ·exact .inl (.inr (.inl h))
    ·exact .inl (.inr (.inr h))
    ·exact .inr (.inl h)
   ·have e1:Z ++((dn.flatMap fun c=>cdN c.toNat)++cdN N)=base++pre++[u8 m]:=by rw[<-a4,<- b3,m9];simp
    rw[e1]
    exact⟨_,_,rfl,At.upd_ne a3 (by omega) (At.upd_ne A (by omega) d8),b4⟩
   ·refine h6.trans ((b5.upd A (.inl (.inl rfl))).upd a3 (.inl (.inr (.inr (.inl rfl))))) (fun i hi=>?_)
    rcases hi with h|h|h|h
    ·exact .inl (.inl h)
    ·exact .inl (.inr (.inl h))
    ·exact .inl (.inr (.inr h))
    ·exact .inr (hT i h).1
   ·rw[List.length_append];exact m6
 ·rintro i (rfl|⟨o,hi⟩)
  ·rintro(h|h|h)<;>omega
  ·obtain⟨i',o',he,hr⟩:=hs.rd (k:=0) (by omega)
   rw[hi] at he
   obtain⟨rfl,rfl⟩:i=i'/\o=o':=by injection he with q;injection q with q1 q2;exact⟨q1,q2⟩
   have:=hr.2
   rintro(h|h|h)<;>omega
 ·rintro u7 k4 ⟨i8,_,T',l7,⟨v,b,h1,h2,K,h4,h5,h6,h7⟩|h⟩
  ·rw[zka] at h2
   have S:b≠D/\(b=J∨H.next<=b)/\M.next<=b:=by
    have:=O.le
    rcases K with rfl|K
    ·exact⟨by omega,.inl rfl,by omega⟩
    ·have:=(l7 b K).1
     exact⟨by omega,.inr this,by omega⟩
   have s1:=zgm l l.length
   generalize l3:Z++cdsL l l.length=Y at *
   have n6:Y.length<=100000:=by rw[<-l3,List.length_append];omega
   have i4:Grow M k4:=Keep.to_grow' O h6 (fun i hi=>by rcases hi with h|h|h<;>omega)
   have p0:=h6.le
   clear i8 h6
   refine z9c h4 (by simp) fun e2 G q8 k8=>?_
   have R:ApB b e2 v Y:=by
    obtain⟨f,ty,g1,g2,g3⟩:=h2
    exact⟨f,ty,g1,At.upd_ne G S.1 g2,g3⟩
   have j4:=At.upd_ne G (show P≠D by omega) h1
   have i1:=At.upd_ne G (show d0≠D by omega) h5
   have c2:Grow M e2:=i4.upd G (by have:=L.le;omega)
   have s2:=z8t (strL Y) Y.length
   obtain⟨n,hn⟩:∃ n:Nat,crcK (strL Y) Y.length=(n:Int):=⟨(crcK (strL Y) Y.length).toNat,by omega⟩
   have m0:chkL Y=Y++twoL n:=by unfold chkL;rw[hn];rfl
   rw[m0]
   have cc:=zr7 (strL Y) (by rw[zej];omega)
   rw[zej,hn] at cc
   have l9:=R.lt
   clear G h1 h2 h5 k8 h4
   obtain⟨l1,p4,rfl,n8⟩:=id R
   refine Wh ?_
   refine z63 (by exact gd) (ApB.bstr R rfl) (fun m=>ApB b m (.slice (some (b,0)) Y.length l1 1) Y) (fun m hm=>ApB.bstr hm rfl) ?_
   repeat' first|with_reducible intro _|refine sv ?_|((with_reducible first|apply z01|apply z05|apply zr);exact gd;exact rfl;exact rfl;(first|exact cc _))|((with_reducible first|apply za8|apply z8u);exact gd;exact rfl;exact rfl;(first|exact zun n (by omega) _))|refine ss ?_ ?_<;>(intro h;first|exact sz h|refine sy h ?_)|exact sq|fail
   rename_i t6 k6 e7 s7 o8 F p1
   have g5:=R.grow F
   have o6:=At.grow F j4
   have i2:=At.grow F i1
   refine zxa (l':=twoL n) (by exact gd) g5 rfl rfl rfl (by simp[twoL]) (by simp[twoL];omega) rfl (z2a (f:=true) e7) ?_
   intro u6 k7 g7 q9 a9
   have i3:=i2.keep a9 (by omega)
   have i5:Grow M k7:=Keep.to_grow' (c2.trans F) a9 (fun i hi=>by omega)
   clear a9
   refine Wh ?_
   refine z1y (.inr rfl) (by simp[dnat]) (fun d Z=>by simp[dnat] at Z;subst Z;exact i3) fun p9 hm=>⟨_,.tmp rfl .nil,k6.next,?_,?_,?_⟩
   ·obtain⟨f,ty,rfl,g2,g3⟩:=g7
    exact⟨f,ty,rfl,g2.unmark hm (by simp[dnat];omega),g3⟩
   ·have:=(c2.trans F).le
    omega
   ·exact i5.unmark hm (fun d Z=>by simp[dnat] at Z;subst Z;have:=L.le;omega)
  ·exact h.elim
end Go.Proofs.YtpgalhbplcanhaaGreatDoor.C
end
section
open Go PvL
namespace Go.Proofs.YtpgalhbplcanhaaGreatDoor.C
variable {a b i j b' a' m:Nat}
def PL (a b i j:Nat)(G:Nat->Ky):Prop:=a<i/\i<=j+1/\j<b/\(∀ p,a<p->p<i->klt (G p) (G a)) /\ ∀ p,j<p->p<b->¬ klt (G p) (G a)
theorem PL.start {G:Nat->Ky}(h:a<b):PL a b (a+1) (b-1) G:=⟨by omega,by omega,by omega,fun p c d=>by omega,fun p c d=>by omega⟩
theorem PL.up {G:Nat->Ky}(h:PL a b i j G)(d:i<=j)(g:klt (G i) (G a)):PL a b (i+1) j G :=
 ⟨by have:=h.1;omega,by omega,h.2.2.1,fun p c q=>by
  by_cases o:p=i
  ·subst o;exact g
  ·exact h.2.2.2.1 p c (by omega),h.2.2.2.2⟩
theorem PL.down {G:Nat->Ky}(h:PL a b i (j+1) G)(c:i<=j+1)(g:¬ klt (G (j+1)) (G a)):PL a b i j G :=
 ⟨h.1,c,by have:=h.2.2.1;omega,h.2.2.2.1,fun p q d=>by
  by_cases o:p=j+1
  ·subst o;exact g
  ·exact h.2.2.2.2 p (by omega) d⟩
theorem PL.swap {G:Nat->Ky}(h:PL a b i j G)(t:i<=j)(h1:¬ klt (G i) (G a))(d:klt (G j) (G a)):i<j/\PL a b (i+1) (j-1) (sw G i j):=by
 have u:i≠j:=by rintro rfl;exact h1 d
 have s:=h.1
 have q:sw G i j a=G a:=z5i (by omega) (by omega)
 refine⟨by omega,by omega,by omega,by have:=h.2.2.1;omega,fun p g o=>?_,fun p g o=>?_⟩
 ·rw[q]
  by_cases c:p=i
  ·subst c;rw[sw_i];exact d
  ·rw[z5i c (by omega)];exact h.2.2.2.1 p g (by omega)
 ·rw[q]
  by_cases c:p=j
  ·subst c;rw[sw_j];exact h1
  ·rw[z5i (by omega) c];exact h.2.2.2.2 p (by omega) o
def Parted (a b m:Nat)(G:Nat->Ky):Prop:=a<=m/\m<b/\(∀ p,a<=p->p<m->klt (G p) (G m)) /\ ∀ p,m<p->p<b->¬ klt (G p) (G m)
theorem PL.done {G:Nat->Ky}(h:PL a b i j G)(s:j<i):Parted a b j (sw G j a):=by
 obtain⟨t,u,q,g,h5⟩:=h
 refine⟨by omega,q,fun p c d=>?_,fun p c d=>?_⟩
 ·rw[sw_i]
  by_cases o:p=a
  ·subst o;rw[sw_j];exact g j (by omega) (by omega)
  ·rw[z5i (by omega) o];exact g p (by omega) (by omega)
 ·rw[sw_i,z5i (by omega) (by omega)]
  exact h5 p c d
def Lo (a b:Nat)(G:Nat->Ky):Prop:=a=0 ∨ ∀ t,a<=t->t<b->klt (G (a-1)) (G t)
theorem Lo.sub {G:Nat->Ky}(h:Lo a b G)(g:b'<=b):Lo a b' G:=h.elim .inl fun h=>.inr fun t c d=>h t c (by omega)
theorem Lo.sw {G G':Nat->Ky}(h:Lo a b G)(d:Sw a' b' G G')(g:a<=a')(o:b'<=b):Lo a b G':=by
 rcases h with h|h
 ·exact .inl h
 by_cases c:a=0
 ·exact .inl c
 refine .inr ?_
 rw[d.out (t:=a-1) (by omega)]
 exact(d.wider g o).all (p:=fun k=>klt (G (a-1)) k) h
def Out (a b a' b':Nat)(G:Nat->Ky):Prop:=∀ x y,a<=x->x<y->y<b->(x<a'∨b'<=y)->¬ klt (G y) (G x)
theorem Out.start {G:Nat->Ky}:Out a b a b G:=fun x y c d g h=>by omega
theorem Out.sw {G G':Nat->Ky}(h:Out a b a' b' G)(c:Sw a' b' G G')(w:a<=a')(z:b'<=b):Out a b a' b' G':=by
 intro x y d o g q
 by_cases u:x<a'∨b'<=x
 ·rw[c.out u]
  by_cases v:y<a'∨b'<=y
  ·rw[c.out v];exact h x y d o g q
  ·exact c.all (p:=fun k=>¬ klt k (G x)) (fun t h5 s=>h x t d (by omega) (by omega) (by omega)) y (by omega) (by omega)
 ·rw[c.out (t:=y) (by omega)]
  exact c.all (p:=fun k=>¬ klt (G y) k) (fun t h5 s=>h t y (by omega) (by omega) g (by omega)) x (by omega) (by omega)
theorem Out.fin {G:Nat->Ky}(h:Out a b a' b' G)(o:Srt a' b' G):Srt a b G:=fun x y d c g=>by
 by_cases q:x<a'∨b'<=y
 ·exact h x y d c g q
 ·exact o x y (by omega) c (by omega)
theorem Parted.sw {G G':Nat->Ky}(h:Parted a b m G)(g:Sw a' b' G G')(c:(a<=a'/\b'<=m) ∨(m+1<=a'/\b'<=b)):Parted a b m G':=by
 obtain⟨u,v,q,s⟩:=h
 refine⟨u,v,?_,?_⟩
 ·intro p o d
  rw[g.out (t:=m) (by omega)]
  rcases c with c|c
  ·exact(g.wider c.1 c.2).all (p:=fun k=>klt k (G m)) q p o d
  ·rw[g.out (t:=p) (by omega)];exact q p o d
 ·intro p o d
  rw[g.out (t:=m) (by omega)]
  rcases c with c|c
  ·rw[g.out (t:=p) (by omega)];exact s p o d
  ·exact(g.wider c.1 c.2).all (p:=fun k=>¬ klt k (G m)) (fun t o d=>s t (by omega) d) p (by omega) d
theorem Out.left {G G':Nat->Ky}(h:Out a b a' b' G)(d:Parted a' b' m G)(s:Sw a' m G G')(F:Srt a' m G')(A:a<=a')(B:b'<=b):Out a b (m+1) b' G':=by
 have N:=d.1
 have D:=d.2.1
 have g:=d.sw s (.inl ⟨Nat.le_refl _,Nat.le_refl _⟩)
 have v:=h.sw (s.wider (Nat.le_refl _) (by omega)) A B
 obtain⟨-,-,t,u⟩:=g
 intro x y w c z L
 by_cases H:x<a'∨b'<=y
 ·exact v x y w c z H
 have J:x<=m:=by omega
 by_cases o:x=m
 ·subst o;exact u y c (by omega)
 by_cases K:y<m
 ·exact F x y (by omega) c K
 by_cases q:y=m
 ·subst q;exact z9i (t x (by omega) (by omega))
 ·exact fun C=>u y (by omega) (by omega) (z6l C (t x (by omega) (by omega)))
theorem Out.right {G G':Nat->Ky}(h:Out a b a' b' G)(d:Parted a' b' m G)(s:Sw (m+1) b' G G')(F:Srt (m+1) b' G')(A:a<=a')(B:b'<=b):Out a b a' m G':=by
 have N:=d.1
 have D:=d.2.1
 have g:=d.sw s (.inr ⟨Nat.le_refl _,Nat.le_refl _⟩)
 have v:=h.sw (s.wider (by omega) (Nat.le_refl _)) A B
 obtain⟨-,-,t,u⟩:=g
 intro x y w c z L
 by_cases H:x<a'∨b'<=y
 ·exact v x y w c z H
 have K:m<=y:=by omega
 by_cases o:x=m
 ·subst o;exact u y c (by omega)
 by_cases J:m<x
 ·exact F x y (by omega) c (by omega)
 by_cases q:y=m
 ·subst q;exact z9i (t x (by omega) (by omega))
 ·exact fun C=>u y (by omega) (by omega) (z6l C (t x (by omega) (by omega)))
theorem Parted.lo {n:Nat}{G:Nat->Ky}(h:Parted a b m G)(hi:Inj n G)(s:b<=n):Lo (m+1) b G:=.inr fun t q d=>by
 rw[show m+1-1=m by omega]
 have g:=h.2.2.2 t (by omega) d
 have o:=h.2.1
 rcases zl7 (a:=G m) (b:=G t) (fun e=>absurd (hi m t (by omega) (by omega) e) (by omega)) with c|c
 ·exact c
 ·exact absurd c g
theorem Srt.pre {G:Nat->Ky}(h:Srt a i G)(o:j<=i):Srt a j G:=fun x y c d g=>h x y c d (by omega)
theorem Srt.swr {G G':Nat->Ky}(h:Srt a i G)(c:Sw a' b G G')(q:i<=a'):Srt a i G':=fun x y d g o=>by
 rw[c.out (t:=x) (by omega),c.out (t:=y) (by omega)]
 exact h x y d g o
end Go.Proofs.YtpgalhbplcanhaaGreatDoor.C
end
section
open Go PvL Go.Proofs
namespace Go.Proofs.YtpgalhbplcanhaaGreatDoor.C
variable {M:Mem} {p n k a b e:Nat} {ty:TypeId}
abbrev cf:LV:=.func (.func 141) [] []
abbrev KT (M:Mem)(p n:Nat)(ty:TypeId)(G:Nat->Ky):Prop:=At M p (.cells true (tabL kyc G n) ty)
theorem z1a {G:Nat->Ky}(h:KT M p n ty G)(c:k<n):Rd M p (0+k*2) 2 [I (G k).1,I (G k).2]:=zt3 (enc:=kyc) (fun _=>rfl) h c
theorem z0w {G:Nat->Ky}(c:k<n)(x:Ky):z0t (tabL kyc G n) (0+k*2) [I x.1,I x.2]=some (tabL kyc (fun t=>if t=k then x else G t) n):=by
 have:=zp2 (enc:=kyc) (sz:=2) (G:=G) (G':=fun t=>if t=k then x else G t) (n:=n) (k:=k) (fun _=>rfl) (by omega) c (fun i _ hi=>by simp[hi])
 simpa using this
set_option maxHeartbeats 4000000 in
theorem zwv {f:Bool}{G:Nat->Ky}(hA:KT M p n ty G)(hb:b<=n)(a3:a<=b)(hn:n<=1000) :
  zc Tryz.prog 308 [.slice (some (p,0)) n f e,I a,I b,cf] M (fun w M'=>∃ G',Sw a b G G'/\Srt a b G'/\KT M' p n ty G'/\Keep (fun i=>i=p) M M'):=by
 refine zd Y308.2 rfl ?_
 delta Y308;refine un ?_
 refine Wh ?_
 refine zg (fun z E H M'=>∃(i:Nat) (G':Nat->Ky),z=b+1-i/\a+1<=i/\(i<=b∨i=a+1)/\H=[]/\Has E [(0,.slice (some (p,0)) n f e),(1,I a),(2,I b),(3,cf),(8,I i)]/\Sw a b G G'/\Srt a i G'/\KT M' p n ty G'/\Keep (fun i=>i=p) M M')
  ?_ (b+1-(a+1)) _ _ _ ⟨a+1,G,rfl,by omega,.inr rfl,rfl,.cons rfl (.cons rfl (.cons rfl (.cons rfl (.cons rfl .nil)))),.refl,Srt.short (by omega),hA,Keep.refl _ _⟩
 rintro z E H M1 ⟨i,Y,rfl,hi,a4,rfl,N,F,D,A,B⟩
 refine z06 N ?_
 by_cases U:b<=i
 ·refine Wg ?_;intro h
  refine kf ?_
  exact⟨Y,F,fun x y h1 h2 h3=>D x y h1 h2 (by omega),A,B⟩
 have a7:i<b:=by omega
 refine Wg ?_;intro h
 refine zg (fun z E H M'=>∃(G':Nat->Ky),a<=z/\z<=i/\H=[]/\Has E [(0,.slice (some (p,0)) n f e),(1,I a),(2,I b),(3,cf),(8,I i),(9,I z)]/\Sw a b G G'/\Ins a (i+1) z G'/\KT M' p n ty G'/\Keep (fun i=>i=p) M M')
  ?_ i _ _ _ ⟨Y,by omega,Nat.le_refl _,rfl,.cons rfl (.cons rfl (.cons rfl (.cons rfl (.cons rfl (.cons rfl .nil))))),F,Ins.start D,A,B⟩
 rintro j E H M2 ⟨d,a5,a6,rfl,N,v,u,g,Q⟩
 refine z06 N ?_
 by_cases P:j=a
 ·subst P
  refine Wg ?_;intro _ h
  refine zi (b+1-(i+1)) (by omega) ⟨i+1,d,rfl,by omega,by omega,rfl,.cons rfl (.cons rfl (.cons rfl (.cons rfl (.cons rfl .nil)))),v,u.done (.inl (Nat.le_refl _)),g,Q⟩
 obtain⟨c,rfl⟩:∃ c,j=c+1:=⟨j-1,by omega⟩
 have hz:(((c+1:Nat):Int)-1).toNat=c:=by omega
 have V:=z1a g (show c+1<n by omega)
 have t:=z1a g (show c<n by omega)
 rw[<-hz] at t
 rw[hz] at t
 have X:Rd M2 p (0+(((c+1:Nat):Int)-1).toNat*2) 2 [I (d c).1,I (d c).2]:=by rw[hz];exact t
 have co:=fun M'=>z27 (d (c+1)).1 (d (c+1)).2 (d c).1 (d c).2 M'
 have o:=z10 (d (c+1)) (d c)
 (have Z:=V;have a0:=X;repeat' (first|(with_reducible intro _)|refine sv ?_|((with_reducible first|apply zw|apply zx|apply zm);exact gd;exact rfl;exact rfl;(first|exact co _))|refine ss ?_ ?_<;>(intro h;first|exact sz h|refine sy h ?_)|exact sq|fail))
 ·rename_i O J s q5
  have q:KT J p n ty d:=g.grow s
  refine d_st (by exact gd) rfl rfl q rfl rfl (z0w (by omega) (d c)) ?_
  intro M6 a1 e6 K
  refine Wh ?_
  refine d_st (by exact gd) rfl rfl K rfl rfl (by rw[hz];exact z0w (by omega) (d (c+1))) ?_
  intro M7 a2 e7 L
  have S:Keep (fun i=>i=p) M M7:=xk
  have C:=o.1 h
  refine Wh ?_
  refine zi c (by omega) ⟨sw d (c+1) c,by omega,by omega,rfl,.cons rfl (.cons rfl (.cons rfl (.cons rfl (.cons rfl (.cons ?_ .nil))))),.step v (by omega) (by omega) (by omega) (by omega),u.step (by omega) C,L,S⟩
  show some (I _)=some (I _)
  rw[show((c+1:Nat):Int)-1=c by omega]
 ·rename_i O J s q5
  have q:KT J p n ty d:=g.grow s
  have R:Keep (fun i=>i=p) M J:=xk
  refine zi (b+1-(i+1)) (by omega) ⟨i+1,d,rfl,by omega,by omega,rfl,.cons rfl (.cons rfl (.cons rfl (.cons rfl (.cons rfl .nil)))),v,u.done (.inr (fun hk=>absurd (o.2 hk) (Int.not_lt.2 h))),q,R⟩
set_option maxHeartbeats 16000000 in
theorem zx5 {f:Bool}{G:Nat->Ky}(hA:KT M p n ty G)(hb:b<=n)(d5:a<b)(hn:n<=1000)(c9:Lo a b G) :
  zc Tryz.prog 313 [.slice (some (p,0)) n f e,I a,I b,cf] M (fun w M'=>∃(q:Bool) (G':Nat->Ky),w=.bool q/\(q=true->Srt a b G')/\Sw a b G G'/\KT M' p n ty G'/\Keep (fun i=>i=p) M M'):=by
 refine zd Y313.2 rfl ?_
 delta Y313;refine un ?_
 refine Wh ?_
 refine zg (fun z E C M'=>∃(s i:Nat) (G':Nat->Ky),z=5-s/\s<=5/\a<i/\i<=b/\C=[]/\Has E [(0,.slice (some (p,0)) n f e),(1,I a),(2,I b),(3,cf),(9,I i),(10,I s)]/\Sw a b G G'/\Srt a i G'/\KT M' p n ty G'/\Keep (fun i=>i=p) M M')
  ?_ 5 _ _ _ ⟨0,a+1,G,rfl,by omega,by omega,by omega,rfl,.cons rfl (.cons rfl (.cons rfl (.cons rfl (.cons rfl (.cons rfl .nil))))),.refl,Srt.short (by omega),hA,Keep.refl _ _⟩
 rintro z E C M1 ⟨s,i0,u,rfl,d8,b7,b8,rfl,S,a3,b9,a7,b3⟩
 refine z06 S ?_
 by_cases b4:s=5
 ·subst b4
  refine Wg ?_;intro h
  refine kf ?_
  exact⟨false,u,rfl,fun h=>(by cases h),a3,a7,b3⟩
 have d9:s<5:=by omega
 refine Wg ?_;intro h
 refine z2k (K:=fun x E C M'=>x=.exit 2/\C=[] /\ ∃ i,a<i/\i<=b/\(i=b∨klt (u i) (u (i-1)))/\Srt a i u/\Has E [(0,.slice (some (p,0)) n f e),(1,I a),(2,I b),(3,cf),(9,I i),(10,I s)]/\KT M' p n ty u/\Keep (fun i=>i=p) M M') ?_ ?_
 ·refine zg (fun z E C M'=>∃ i,z=b-i/\a<i/\i<=b/\Srt a i u/\C=[]/\Has E [(0,.slice (some (p,0)) n f e),(1,I a),(2,I b),(3,cf),(9,I i),(10,I s)]/\KT M' p n ty u/\Keep (fun i=>i=p) M M')
   ?_ (b-i0) _ _ _ ⟨i0,rfl,b7,b8,b9,rfl,.cons rfl (.cons rfl (.cons rfl (.cons rfl (.cons rfl (.cons rfl .nil))))),a7,b3⟩
  rintro z E C M2 ⟨i,rfl,hi,b2,t,rfl,S,g,D⟩
  refine z06 S ?_
  by_cases Q:i=b
  ·subst Q
   refine Wg ?_;intro _ h
   exact⟨rfl,rfl,i,hi,b2,.inl rfl,t,.cons rfl (.cons rfl (.cons rfl (.cons rfl (.cons rfl (.cons rfl .nil))))),g,D⟩
  obtain⟨c,rfl⟩:∃ c,i=c+1:=⟨i-1,by omega⟩
  have hz:(((c+1:Nat):Int)-1).toNat=c:=by omega
  have J:=z1a g (show c+1<n by omega)
  have L:=z1a g (show c<n by omega)
  have N:Rd M2 p (0+(((c+1:Nat):Int)-1).toNat*2) 2 [I (u c).1,I (u c).2]:=by rw[hz];exact L
  have co:=fun M'=>z27 (u (c+1)).1 (u (c+1)).2 (u c).1 (u c).2 M'
  have H:=z10 (u (c+1)) (u c)
  (have X:=J;have Y:=N;repeat' (first|(with_reducible intro _)|refine sv ?_|((with_reducible first|apply zw|apply zx|apply zm);exact gd;exact rfl;exact rfl;(first|exact co _))|refine ss ?_ ?_<;>(intro h;first|exact sz h|refine sy h ?_)|exact sq|fail))
  all_goals try(exfalso;omega)
  ·rename_i hx U v q5
   have O:Keep (fun i=>i=p) M U:=xk
   refine zi (b-(c+1+1)) (by omega) ⟨c+1+1,rfl,by omega,by omega,?_,rfl,.cons rfl (.cons rfl (.cons rfl (.cons rfl (.cons rfl (.cons rfl .nil))))),g.grow v,O⟩
   exact(Ins.start t).done (.inr (fun hk=>absurd (H.2 hk) (Int.not_lt.2 h)))
  ·rename_i hx U v q5
   have O:Keep (fun i=>i=p) M U:=xk
   exact⟨rfl,rfl,c+1,hi,b2,.inr (H.1 h),t,.cons rfl (.cons rfl (.cons rfl (.cons rfl (.cons rfl (.cons rfl .nil))))),g.grow v,O⟩
 rintro x E C c0 ⟨rfl,rfl,i,hi,b2,Z,t,S,g,D⟩
 apply z1p
 apply z42
 refine z06 S ?_
 by_cases Q:i=b
 ·subst Q
  refine Wg ?_;intro h
  refine kf ?_
  exact⟨true,u,rfl,fun _=>t,a3,g,D⟩
 have d2:i<b:=by omega
 have Z:=Z.resolve_left Q
 obtain⟨c,rfl⟩:∃ c,i=c+1:=⟨i-1,by omega⟩
 have Z:klt (u (c+1)) (u c):=Z
 have hz:(((c+1:Nat):Int)-1).toNat=c:=by omega
 have J:=z1a g (show c+1<n by omega)
 have L:=z1a g (show c<n by omega)
 have N:Rd c0 p (0+(((c+1:Nat):Int)-1).toNat*2) 2 [I (u c).1,I (u c).2]:=by rw[hz];exact L
 (have X:=J;have Y:=N;repeat' (first|(with_reducible intro _)|refine sv ?_|refine ss ?_ ?_<;>(intro h;first|exact sz h|refine sy h ?_)|exact sq|fail))
 all_goals try(exfalso;omega)
 ·refine kf ?_
  exact⟨false,u,rfl,fun h=>(by cases h),a3,g,D⟩
 refine d_st (by exact gd) rfl rfl g rfl rfl (z0w (by omega) (u c)) ?_
 intro M6 a9 e6 R
 refine Wh ?_
 refine d_st (by exact gd) rfl rfl R rfl rfl (by rw[hz];exact z0w (by omega) (u (c+1))) ?_
 intro M7 b0 e7 B
 have F:Keep (fun i=>i=p) M M7:=xk
 have A:Sw a b G (sw u (c+1) c):=.step a3 (by omega) (by omega) (by omega) (by omega)
 have B:KT M7 p n ty (sw u (c+1) c):=B
 have b5:Srt a c (sw u (c+1) c):=(t.pre (by omega:c<=c+1)).swr (a':=c) (b:=b) (.one (by omega) (by omega) (by omega) (by omega)) (Nat.le_refl _)
 have V:=c9.sw A (Nat.le_refl _) (Nat.le_refl _)
 generalize sw u (c+1) c=G7 at *
 refine zq0 (by exact ox) ?_
 clear J L N g D a9 e6 R b0 e7 a7 b3 b9 t Z b7
 apply z42
 apply z54
 refine z2k (K:=fun x E C M'=>x=.norm/\C=[] /\ ∃ G',Sw a b G G'/\Srt a (c+1) G'/\Has E [(0,.slice (some (p,0)) n f e),(1,I a),(2,I b),(3,cf),(9,I ((c+1:Nat):Int)),(10,I s)]/\KT M' p n ty G'/\Keep (fun i=>i=p) M M') ?_ ?_
 ·by_cases c2:c=a
  ·subst c2
   refine Wg ?_;intro h
   exact⟨rfl,rfl,G7,A,Srt.short (by omega),.cons rfl (.cons rfl (.cons rfl (.cons rfl (.cons rfl (.cons rfl .nil))))),B,F⟩
  refine Wg ?_;intro h
  have b6:((c+1:Nat):Int)-1=(c:Int):=by omega
  refine zg (fun z E C M'=>∃(G':Nat->Ky),a<=z/\z<=c/\C=[]/\Has E [(0,.slice (some (p,0)) n f e),(1,I a),(2,I b),(3,cf),(9,I ((c+1:Nat):Int)),(10,I s),(11,I z)]/\Sw a b G G'/\Ins a (c+1) z G'/\Lo a b G'/\KT M' p n ty G'/\Keep (fun i=>i=p) M M')
   ?_ c _ _ _ ⟨G7,by omega,Nat.le_refl _,rfl,.cons rfl (.cons rfl (.cons rfl (.cons rfl (.cons rfl (.cons rfl (.cons (by show some (I _)=some (I _);rw[b6]) .nil)))))),A,Ins.start b5,V,B,F⟩
  clear A B F b5 V
  rintro j E C M2 ⟨o,c4,c5,rfl,S,P,t,a5,g,D⟩
  refine z06 S ?_
  by_cases c3:j=0
  ·subst c3
   refine Wg ?_;intro h
   exact⟨rfl,rfl,o,P,t.done (.inl (by omega)),.cons rfl (.cons rfl (.cons rfl (.cons rfl (.cons rfl (.cons rfl .nil))))),g,D⟩
  obtain⟨d,rfl⟩:∃ d,j=d+1:=⟨j-1,by omega⟩
  have hz:(((d+1:Nat):Int)-1).toNat=d:=by omega
  have J:=z1a g (show d+1<n by omega)
  have L:=z1a g (show d<n by omega)
  have N:Rd M2 p (0+(((d+1:Nat):Int)-1).toNat*2) 2 [I (o d).1,I (o d).2]:=by rw[hz];exact L
  have co:=fun M'=>z27 (o (d+1)).1 (o (d+1)).2 (o d).1 (o d).2 M'
  have H:=z10 (o (d+1)) (o d)
  (have X:=J;have Y:=N;repeat' (first|(with_reducible intro _)|refine sv ?_|((with_reducible first|apply zw|apply zx|apply zm);exact gd;exact rfl;exact rfl;(first|exact co _))|refine ss ?_ ?_<;>(intro h;first|exact sz h|refine sy h ?_)|exact sq|fail))
  all_goals try(exfalso;omega)
  ·rename_i b1 U v q5
   have O:Keep (fun i=>i=p) M U:=xk
   exact⟨rfl,rfl,o,P,t.done (.inr (fun hk=>absurd (H.2 hk) (Int.not_lt.2 h))),.cons rfl (.cons rfl (.cons rfl (.cons rfl (.cons rfl (.cons rfl .nil))))),g.grow v,O⟩
  ·rename_i b1 U v q5
   have a6:=H.1 h
   have d7:a<=d:=by
    rcases a5 with h0|h0
    ·omega
    ·rcases Nat.lt_or_ge d a with h1|h1
     ·obtain rfl:a=d+1:=by omega
      exact absurd a6 (z9i (h0 (d+1) (by omega) (by omega)))
     ·exact h1
   have a8:KT U p n ty o:=g.grow v
   refine d_st (by exact gd) rfl rfl a8 rfl rfl (z0w (by omega) (o d)) ?_
   intro M6 a9 e6 R
   refine Wh ?_
   refine d_st (by exact gd) rfl rfl R rfl rfl (by rw[hz];exact z0w (by omega) (o (d+1))) ?_
   intro M7 b0 e7 B
   have F:Keep (fun i=>i=p) M M7:=xk
   have A:Sw a b o (sw o (d+1) d):=.one (by omega) (by omega) (by omega) (by omega)
   refine Wh ?_
   refine zi d (by omega) ⟨sw o (d+1) d,by omega,by omega,rfl,.cons rfl (.cons rfl (.cons rfl (.cons rfl (.cons rfl (.cons rfl (.cons ?_ .nil)))))),P.trans A,t.step (by omega) a6,a5.sw A (Nat.le_refl _) (Nat.le_refl _),B,F⟩
   show some (I _)=some (I _)
   rw[show((d+1:Nat):Int)-1=d by omega]
 clear A B F b5 V
 rintro x E C d3 ⟨rfl,rfl,G8,a4,a2,S,a0,a1⟩
 apply z42
 refine z06 S ?_
 refine z2k (K:=fun x E C M'=>x=.norm/\C=[] /\ ∃ G',Sw a b G G'/\Srt a (c+1) G'/\Has E [(0,.slice (some (p,0)) n f e),(1,I a),(2,I b),(3,cf),(9,I ((c+1:Nat):Int)),(10,I s)]/\KT M' p n ty G'/\Keep (fun i=>i=p) M M') ?_ ?_
 ·by_cases d6:¬ b-(c+1)>=2
  ·refine Wg ?_;intros
   exact⟨rfl,rfl,G8,a4,a2,.cons rfl (.cons rfl (.cons rfl (.cons rfl (.cons rfl (.cons rfl .nil))))),a0,a1⟩
  refine Wg ?_;intros
  refine zg (fun z E C M'=>∃(j:Nat) (G':Nat->Ky),z=b-j/\c+2<=j/\j<=b/\C=[]/\Has E [(0,.slice (some (p,0)) n f e),(1,I a),(2,I b),(3,cf),(9,I ((c+1:Nat):Int)),(10,I s),(12,I j)]/\Sw a b G G'/\Srt a (c+1) G'/\KT M' p n ty G'/\Keep (fun i=>i=p) M M')
   ?_ (b-(c+2)) _ _ _ ⟨c+2,G8,rfl,by omega,by omega,rfl,.cons rfl (.cons rfl (.cons rfl (.cons rfl (.cons rfl (.cons rfl (.cons rfl .nil)))))),a4,a2,a0,a1⟩
  clear a4 a0 a1 a2
  rintro z E C M2 ⟨j,o,rfl,c4,c5,rfl,S,P,t,g,D⟩
  refine z06 S ?_
  by_cases c7:j=b
  ·subst c7
   refine Wg ?_;intros
   exact⟨rfl,rfl,o,P,t,.cons rfl (.cons rfl (.cons rfl (.cons rfl (.cons rfl (.cons rfl .nil))))),g,D⟩
  obtain⟨d,rfl⟩:∃ d,j=d+1:=⟨j-1,by omega⟩
  have hz:(((d+1:Nat):Int)-1).toNat=d:=by omega
  have J:=z1a g (show d+1<n by omega)
  have L:=z1a g (show d<n by omega)
  have N:Rd M2 p (0+(((d+1:Nat):Int)-1).toNat*2) 2 [I (o d).1,I (o d).2]:=by rw[hz];exact L
  have co:=fun M'=>z27 (o (d+1)).1 (o (d+1)).2 (o d).1 (o d).2 M'
  (have X:=J;have Y:=N;repeat' (first|(with_reducible intro _)|refine sv ?_|((with_reducible first|apply zw|apply zx|apply zm);exact gd;exact rfl;exact rfl;(first|exact co _))|refine ss ?_ ?_<;>(intro h;first|exact sz h|refine sy h ?_)|exact sq|fail))
  all_goals try(exfalso;omega)
  ·rename_i b1 U v q5
   have O:Keep (fun i=>i=p) M U:=xk
   exact⟨rfl,rfl,o,P,t,.cons rfl (.cons rfl (.cons rfl (.cons rfl (.cons rfl (.cons rfl .nil))))),g.grow v,O⟩
  ·rename_i b1 U v q5
   have a8:KT U p n ty o:=g.grow v
   refine d_st (by exact gd) rfl rfl a8 rfl rfl (z0w (by omega) (o d)) ?_
   intro M6 a9 e6 R
   refine Wh ?_
   refine d_st (by exact gd) rfl rfl R rfl rfl (by rw[hz];exact z0w (by omega) (o (d+1))) ?_
   intro M7 b0 e7 B
   have F:Keep (fun i=>i=p) M M7:=xk
   have A:Sw (c+1) b o (sw o (d+1) d):=.one (by omega) (by omega) (by omega) (by omega)
   refine Wh ?_
   exact zi (b-(d+1+1)) (by omega) ⟨d+1+1,sw o (d+1) d,rfl,by omega,by omega,rfl,.cons rfl (.cons rfl (.cons rfl (.cons rfl (.cons rfl (.cons rfl (.cons rfl .nil)))))),P.trans (A.wider (by omega) (Nat.le_refl _)),t.swr A (Nat.le_refl _),B,F⟩
 clear a4 a0 a1 a2
 rintro x E C d4 ⟨rfl,rfl,G9,d1,d0,S,c1,c8⟩
 apply zfg
 apply z42
 refine z06 S ?_
 refine Wh ?_
 exact zi (5-(s+1)) (by omega) ⟨s+1,c+1,G9,rfl,by omega,by omega,by omega,rfl,.cons rfl (.cons rfl (.cons rfl (.cons rfl (.cons rfl (.cons rfl .nil))))),d1,d0,c1,c8⟩
end Go.Proofs.YtpgalhbplcanhaaGreatDoor.C
end
section
open Go PvL
namespace Go.Proofs.YtpgalhbplcanhaaGreatDoor.C
variable {f lo hi r x i:Nat}
def par (c:Nat):Nat:=(c-1)/2
def Heap (f lo hi:Nat)(G:Nat->Ky):Prop:=∀ c,0<c->c<hi->lo<=par c->¬ klt (G (f+par c)) (G (f+c))
def Sift (f lo hi r:Nat)(G:Nat->Ky):Prop :=
 (∀ c,0<c->c<hi->lo<=par c->par c≠r->¬ klt (G (f+par c)) (G (f+c)))/\(∀ c,0<c->c<hi->par c=r->r≠lo->lo<=par r->¬ klt (G (f+par r)) (G (f+c)))
theorem Sift.start {G:Nat->Ky}(h:Heap f (lo+1) hi G):Sift f lo hi lo G :=
 ⟨fun c d g o q=>h c d g (by omega),fun c _ _ _ h=>absurd rfl h⟩
theorem Sift.leaf {G:Nat->Ky}(h:Sift f lo hi r G)(q:hi<=2*r+1):Heap f lo hi G:=fun c d g o=>h.1 c d g o (by unfold par at *;omega)
theorem Sift.stop {G:Nat->Ky}(h:Sift f lo hi r G)(d:∀ c,c<hi->(c=2*r+1∨c=2*r+2)->¬ klt (G (f+x)) (G (f+c)))(t:¬ klt (G (f+r)) (G (f+x))):Heap f lo hi G:=fun c q o s=>by
 by_cases g:par c=r
 ·rw[g]
  have:=d c o (by unfold par at g;omega)
  exact z9h this t
 ·exact h.1 c q o s g
theorem Sift.step {G:Nat->Ky}(h:Sift f lo hi r G)(F:lo<=r)(J:x=2*r+1∨x=2*r+2)(B:x<hi)(w:∀ c,c<hi->(c=2*r+1∨c=2*r+2)->¬ klt (G (f+x)) (G (f+c)))(H:klt (G (f+r)) (G (f+x))) :
  Sift f lo hi x (sw G (f+r) (f+x)):=by
 have K:x≠r:=by omega
 have s:sw G (f+r) (f+x) (f+r)=G (f+x):=sw_i _ _ _
 have A:sw G (f+r) (f+x) (f+x)=G (f+r):=sw_j _ _ _
 have g:∀ t,t≠r->t≠x->sw G (f+r) (f+x) (f+t)=G (f+t):=fun t z u=>z5i (by omega) (by omega)
 have q:par x=r:=by unfold par;omega
 constructor
 ·intro c z u o C
  by_cases d:par c=r
  ·rw[d,s]
   by_cases v:c=x
   ·subst v;rw[A];exact z9i H
   ·rw[g c (by unfold par at d;omega) v]
    exact w c u (by unfold par at d;omega)
  ·rw[g (par c) d C]
   by_cases D:c=r
   ·subst D
    rw[s]
    exact h.2 x (by omega) B q (by rintro rfl;unfold par at o;omega) o
   ·rw[g c D (by rintro rfl;exact d q)]
    exact h.1 c z u o d
 ·intro c z u o C h5
  rw[q,s,g c (by rintro rfl;unfold par at o;omega) (by rintro rfl;unfold par at o;omega)]
  have:=h.1 c z u (by omega) (by omega)
  rw[o] at this;exact this
theorem Heap.max {m:Nat}{G:Nat->Ky}(h:Heap f 0 m G):∀ c,c<m->¬ klt (G (f+0)) (G (f+c)):=by
 intro c
 induction c using Nat.strongRecOn with
 | _ c o=>
  intro g
  rcases Nat.eq_zero_or_pos c with d|d
  ·subst d;exact z28 _
  ·exact z9h (h c d g (Nat.zero_le _)) (o (par c) (by unfold par;omega) (by unfold par;omega))
theorem Heap.none {G:Nat->Ky}(h:hi<=2*lo+1):Heap f lo hi G:=fun c g o d=>by unfold par at d;omega
def Tail (f i hi:Nat)(G:Nat->Ky):Prop:=∀ q,i<=q->q<hi->∀ p,p<q->¬ klt (G (f+q)) (G (f+p))
theorem Tail.step {G G':Nat->Ky}(F:Tail f (i+1) hi G)(A:i<hi)(z:Heap f 0 (i+1) G)(d:Sw (f+0) (f+i) (sw G (f+0) (f+i)) G'):Tail f i hi G':=by
 have s:=z.max
 have o:∀ t,t<i+1->¬ klt (G (f+0)) (sw G (f+0) (f+i) (f+t)):=fun t h=>by
  unfold sw
  split
  ·exact z28 _
  ·split
   ·exact s i (by omega)
   ·exact s t h
 intro q H u p B
 have D:G' (f+q)=sw G (f+0) (f+i) (f+q):=d.out (by omega)
 rw[D]
 by_cases g:q=i
 ·subst g
  rw[sw_j]
  refine d.all (p:=fun x=>¬ klt (G (f+0)) x) (fun t v w=>?_) (f+p) (by omega) (by omega)
  have:=o (t-f) (by omega)
  rwa [show f+(t-f)=t by omega] at this
 ·rw[z5i (by omega) (by omega)]
  have c:∀ t,t<q->¬ klt (G (f+q)) (G (f+t)):=fun t h=>F q (by omega) u t h
  by_cases C:p<i
  ·refine d.all (p:=fun x=>¬ klt (G (f+q)) x) (fun t v w=>?_) (f+p) (by omega) (by omega)
   unfold sw
   split
   ·exact c 0 (by omega)
   ·split
    ·exact c i (by omega)
    ·have:=c (t-f) (by omega)
     rwa [show f+(t-f)=t by omega] at this
  ·rw[d.out (by omega)]
   unfold sw
   split
   ·exact c 0 (by omega)
   ·split
    ·exact c i (by omega)
    ·exact c p B
theorem Heap.swapped {G:Nat->Ky}(g:Heap f 0 (i+1) G):Heap f 1 i (sw G (f+0) (f+i)):=fun c d h o=>by
 rw[z5i (by omega) (by unfold par;omega),z5i (by omega) (by omega)]
 exact g c d (by omega) (Nat.zero_le _)
theorem Tail.srt {a b:Nat}{G:Nat->Ky}(c:a<=b)(h:Tail a 0 (b-a) G):Srt a b G:=fun i j d g o=>by
 have:=h (j-a) (Nat.zero_le _) (by omega) (i-a) (by omega)
 rwa [show a+(j-a)=j by omega,show a+(i-a)=i by omega] at this
end Go.Proofs.YtpgalhbplcanhaaGreatDoor.C
end
section
open Go PvL Go.Proofs
namespace Go.Proofs.YtpgalhbplcanhaaGreatDoor.C
set_option maxHeartbeats 4000000 in
theorem zpy{M:Mem}{p n lo hi fs:Nat}{f:Bool}{e:Nat}{ty:TypeId}{G:Nat->Ky}(hA:KT M p n ty G)(hb:fs+hi<=n)(hn:n<=1000)(a4:lo<=1000)(hH:Heap fs (lo+1) hi G) :
  zc Tryz.prog 348 [.slice (some (p,0)) n f e,I lo,I hi,I fs,cf] M (fun w M'=>∃ G',Sw (fs+lo) (fs+hi) G G'/\Heap fs lo hi G'/\KT M' p n ty G'/\Keep (fun i=>i=p) M M'):=by
 refine zd Y348.2 rfl ?_
 delta Y348;refine un ?_
 refine Wh ?_
 refine zg (fun z E ms M'=>∃(r:Nat) (G':Nat->Ky),z=hi+2000-r/\lo<=r/\(r=lo∨r<hi)/\ms=[]/\Has E [(0,.slice (some (p,0)) n f e),(2,I hi),(3,I fs),(4,cf),(10,I r)]/\Sw (fs+lo) (fs+hi) G G'/\Sift fs lo hi r G'/\KT M' p n ty G'/\Keep (fun i=>i=p) M M')
  ?_ (hi+2000-lo) _ _ _ ⟨lo,G,rfl,Nat.le_refl _,.inl rfl,rfl,hz,.refl,Sift.start hH,hA,Keep.refl _ _⟩
 rintro z E ms Y ⟨r,d,rfl,hr,a5,rfl,hE,s,q,g,a0⟩
 refine z06 hE ?_
 by_cases L:hi<=2*r+1
 ·refine Wg ?_;intro h
  refine kf ?_
  exact⟨d,s,q.leaf L,g,a0⟩
 have a6:r<hi:=by omega
 have hR:=z1a g (show fs+r<n by omega)
 have hC:=z1a g (show fs+(2*r+1)<n by omega)
 have f1:((fs:Int)+(2*(r:Int)+1)).toNat=fs+(2*r+1):=by omega
 have f2:((fs:Int)+(r:Int)).toNat=fs+r:=by omega
 have f3:((fs:Int)+(2*(r:Int)+1)+1).toNat=fs+(2*r+2):=by omega
 have f4:((fs:Int)+(2*(r:Int)+1+1)).toNat=fs+(2*r+2):=by omega
 have h1:Rd Y p (0+((fs:Int)+(2*(r:Int)+1)).toNat*2) 2 [I (d (fs+(2*r+1))).1,I (d (fs+(2*r+1))).2]:=by rw[f1];exact hC
 have h2:Rd Y p (0+((fs:Int)+(r:Int)).toNat*2) 2 [I (d (fs+r)).1,I (d (fs+r)).2]:=by rw[f2];exact hR
 by_cases a3:2*r+2<hi
 ·have hD:=z1a g (show fs+(2*r+2)<n by omega)
  have h3:Rd Y p (0+((fs:Int)+(2*(r:Int)+1)+1).toNat*2) 2 [I (d (fs+(2*r+2))).1,I (d (fs+(2*r+2))).2]:=by rw[f3];exact hD
  have h4:Rd Y p (0+((fs:Int)+(2*(r:Int)+1+1)).toNat*2) 2 [I (d (fs+(2*r+2))).1,I (d (fs+(2*r+2))).2]:=by rw[f4];exact hD
  have co:=fun M'=>z27 (d (fs+(2*r+1))).1 (d (fs+(2*r+1))).2 (d (fs+(2*r+2))).1 (d (fs+(2*r+2))).2 M'
  have K:=fun M'=>z27 (d (fs+r)).1 (d (fs+r)).2 (d (fs+(2*r+1))).1 (d (fs+(2*r+1))).2 M'
  have Z:=fun M'=>z27 (d (fs+r)).1 (d (fs+r)).2 (d (fs+(2*r+2))).1 (d (fs+(2*r+2))).2 M'
  (have R:=h1;have S:=h2;have a1:=h3;have a2:=h4;repeat' (first|(with_reducible intro _)|refine sv ?_|((with_reducible first|apply zw|apply zx|apply zm);exact gd;exact rfl;exact rfl;(first|exact co _|exact K _|exact Z _))|refine ss ?_ ?_<;>(intro h;first|exact sz h|refine sy h ?_)|exact sq|fail))
  all_goals try(exfalso;omega)
  ·rename_i U V H t X o J g6 q6
   have B:KT J p n ty d:=g.grow (t.trans g6)
   refine kf ?_
   exact⟨d,s,q.stop (x:=2*r+2) (fun c Q u=>by rcases u with rfl|rfl;exact z9i ((z10 _ _).1 o);exact z28 _) (fun F=>absurd ((z10 _ _).2 F) (Int.not_lt.2 h)),B,xk⟩
  ·rename_i U V H t X o J g6 q6
   have B:KT J p n ty d:=g.grow (t.trans g6)
   have D:=(z10 (d (fs+r)) (d (fs+(2*r+2)))).1 h
   refine d_st (by exact gd) rfl rfl B rfl rfl (z0w (by omega) (d (fs+(2*r+2)))) ?_
   intro M7 O e7 v
   refine Wh ?_
   refine d_st (by exact gd) rfl rfl v rfl rfl (by rw[f4];exact z0w (by omega) (d (fs+r))) ?_
   intro N P e8 A
   have C:Keep (fun i=>i=p) M N:=xk
   refine Wh ?_
   refine zi (hi+2000-(2*r+2)) (by omega) ⟨2*r+2,sw d (fs+r) (fs+(2*r+2)),rfl,by omega,.inr (by omega),rfl,.cons rfl (.cons rfl (.cons rfl (.cons rfl (.cons ?_ .nil)))),.step s (by omega) (by omega) (by omega) (by omega),q.step hr (.inr rfl) (by omega) (fun c Q u=>by rcases u with rfl|rfl;exact z9i ((z10 _ _).1 o);exact z28 _) D,A,C⟩
   show some (I _)=some (I _)
   rw[show((2*r+2:Nat):Int)=2*(r:Int)+1+1 by omega]
  ·rename_i U V H t X o J g6 q6
   have B:KT J p n ty d:=g.grow (t.trans g6)
   refine kf ?_
   exact⟨d,s,q.stop (x:=2*r+1) (fun c Q u=>by rcases u with rfl|rfl;exact z28 _;exact fun F=>absurd ((z10 _ _).2 F) (Int.not_lt.2 o)) (fun F=>absurd ((z10 _ _).2 F) (Int.not_lt.2 h)),B,xk⟩
  ·rename_i U V H t X o J g6 q6
   have B:KT J p n ty d:=g.grow (t.trans g6)
   have D:=(z10 (d (fs+r)) (d (fs+(2*r+1)))).1 h
   refine d_st (by exact gd) rfl rfl B rfl rfl (z0w (by omega) (d (fs+(2*r+1)))) ?_
   intro M7 O e7 v
   refine Wh ?_
   refine d_st (by exact gd) rfl rfl v rfl rfl (by rw[f1];exact z0w (by omega) (d (fs+r))) ?_
   intro N P e8 A
   have C:Keep (fun i=>i=p) M N:=xk
   refine Wh ?_
   refine zi (hi+2000-(2*r+1)) (by omega) ⟨2*r+1,sw d (fs+r) (fs+(2*r+1)),rfl,by omega,.inr (by omega),rfl,.cons rfl (.cons rfl (.cons rfl (.cons rfl (.cons ?_ .nil)))),.step s (by omega) (by omega) (by omega) (by omega),q.step hr (.inl rfl) (by omega) (fun c Q u=>by rcases u with rfl|rfl;exact z28 _;exact fun F=>absurd ((z10 _ _).2 F) (Int.not_lt.2 o)) D,A,C⟩
   show some (I _)=some (I _)
   rw[show((2*r+1:Nat):Int)=2*(r:Int)+1 by omega]
 ·have K:=fun M'=>z27 (d (fs+r)).1 (d (fs+r)).2 (d (fs+(2*r+1))).1 (d (fs+(2*r+1))).2 M'
  (have R:=h1;have S:=h2;repeat' (first|(with_reducible intro _)|refine sv ?_|((with_reducible first|apply zw|apply zx|apply zm);exact gd;exact rfl;exact rfl;(first|exact K _))|refine ss ?_ ?_<;>(intro h;first|exact sz h|refine sy h ?_)|exact sq|fail))
  all_goals try(exfalso;omega)
  ·rename_i U V H t X
   have B:KT H p n ty d:=g.grow t
   refine kf ?_
   exact⟨d,s,q.stop (x:=2*r+1) (fun c Q u=>by rcases u with rfl|rfl;exact z28 _;omega) (fun F=>absurd ((z10 _ _).2 F) (Int.not_lt.2 h)),B,xk⟩
  ·rename_i U V H t X
   have B:KT H p n ty d:=g.grow t
   have D:=(z10 (d (fs+r)) (d (fs+(2*r+1)))).1 h
   refine d_st (by exact gd) rfl rfl B rfl rfl (z0w (by omega) (d (fs+(2*r+1)))) ?_
   intro M7 O e7 v
   refine Wh ?_
   refine d_st (by exact gd) rfl rfl v rfl rfl (by rw[f1];exact z0w (by omega) (d (fs+r))) ?_
   intro N P e8 A
   have C:Keep (fun i=>i=p) M N:=xk
   refine Wh ?_
   refine zi (hi+2000-(2*r+1)) (by omega) ⟨2*r+1,sw d (fs+r) (fs+(2*r+1)),rfl,by omega,.inr (by omega),rfl,.cons rfl (.cons rfl (.cons rfl (.cons rfl (.cons ?_ .nil)))),.step s (by omega) (by omega) (by omega) (by omega),q.step hr (.inl rfl) (by omega) (fun c Q u=>by rcases u with rfl|rfl;exact z28 _;omega) D,A,C⟩
   show some (I _)=some (I _)
   rw[show((2*r+1:Nat):Int)=2*(r:Int)+1 by omega]
set_option maxHeartbeats 4000000 in
theorem zub{M:Mem}{p n a b:Nat}{f:Bool}{e:Nat}{ty:TypeId}{G:Nat->Ky}(hA:KT M p n ty G)(hb:b<=n)(a5:a<b)(hn:n<=1000) :
  zc Tryz.prog 309 [.slice (some (p,0)) n f e,I a,I b,cf] M (fun w M'=>∃ G',Sw a b G G'/\Srt a b G'/\KT M' p n ty G'/\Keep (fun i=>i=p) M M'):=by
 refine zd Y309.2 rfl ?_
 delta Y309;refine un ?_
 obtain⟨hi,rfl⟩:∃ hi,b=a+hi:=⟨b-a,by omega⟩
 refine Wh ?_
 have v0:(((a+hi:Nat):Int)-(a:Int))=hi:=by omega
 have v1:((((a+hi:Nat):Int)-(a:Int)-1)/2)=(((hi-1)/2+1:Nat):Int)-1:=by omega
 refine zg (fun z E B M'=>∃(G':Nat->Ky),z<=(hi-1)/2+1/\B=[]/\Has E [(0,.slice (some (p,0)) n f e),(3,cf),(8,I a),(9,I 0),(10,I hi),(11,I ((z:Int)-1))]/\Sw a (a+hi) G G'/\Heap a z hi G'/\KT M' p n ty G'/\Keep (fun i=>i=p) M M')
  ?_ ((hi-1)/2+1) _ _ _ ⟨G,Nat.le_refl _,rfl,.cons rfl (.cons rfl (.cons rfl (.cons rfl (.cons (by show some (I _)=some (I _);rw[v0]) (.cons (by show some (I _)=some (I _);rw[v1]) .nil))))),.refl,Heap.none (by omega),hA,Keep.refl _ _⟩
 rintro z E B M1 ⟨G1,hz,rfl,K,u,o,D,t⟩
 refine z06 K ?_
 rcases z with _|i
 case succ=>
  rw[show(((i+1:Nat):Int)-1)=(i:Int) by omega]
  have C:=fun M' (L:KT M' p n ty G1)=>zpy (f:=f) (e:=e) (lo:=i) (hi:=hi) (fs:=a) L hb hn (by omega) o
  repeat' first|with_reducible intro _|refine sv ?_|((with_reducible first|apply zk|apply zp|apply zh);exact gd;exact rfl;exact rfl;(first|exact C _ (xm)))|refine ss ?_ ?_<;>(intro h;first|exact sz h|refine sy h ?_)|exact sq|fail
  all_goals try(exfalso;omega)
  rename_i w2 M2 U
  obtain⟨G2,a0,N,F,P⟩:=U
  refine Wh ?_
  exact zi i (by omega) ⟨G2,by omega,rfl,.cons rfl (.cons rfl (.cons rfl (.cons rfl (.cons rfl (.cons rfl .nil))))),u.trans (a0.wider (by omega) (Nat.le_refl _)),N,F,t.trans P (fun i hi=>.inl hi)⟩
 case zero=>
 refine Wg ?_;intros
 refine zg (fun z E B M'=>∃(G':Nat->Ky),z<=hi/\B=[]/\Has E [(0,.slice (some (p,0)) n f e),(3,cf),(8,I a),(9,I 0),(12,I ((z:Int)-1))]/\Sw a (a+hi) G G'/\Heap a 0 z G'/\Tail a z hi G'/\KT M' p n ty G'/\Keep (fun i=>i=p) M M')
  ?_ hi _ _ _ ⟨G1,Nat.le_refl _,rfl,.cons rfl (.cons rfl (.cons rfl (.cons rfl (.cons rfl .nil)))),u,o,fun q h1 h2=>by omega,D,t⟩
 rintro z E B M3 ⟨g,a6,rfl,K,v,s,Z,c,Q⟩
 refine z06 K ?_
 rcases z with _|i
 case zero=>
  refine Wg ?_;intros
  refine kf ?_
  refine⟨g,v,Tail.srt (by omega) ?_,c,Q⟩
  rwa [show a+hi-a=hi by omega]
 case succ=>
  rw[show(((i+1:Nat):Int)-1)=(i:Int) by omega]
  have V:=z1a c (show a+i<n by omega)
  have X:=z1a c (show a<n by omega)
  have a1:=V;have a2:=X;refine Wg ?_;intros
  have hK:=c
  refine d_st (by exact gd) rfl rfl hK rfl rfl (z0w (by omega) (g (a+i))) ?_
  intro M7 a3 e7 H
  refine Wh ?_
  refine d_st (by exact gd) rfl rfl H rfl rfl (z0w (by omega) (g a)) ?_
  intro M8 a4 e8 d
  have R:Keep (fun i=>i=p) M M8:=xk
  have d:KT M8 p n ty (sw g (a+0) (a+i)):=d
  have Y:=s.swapped
  have C:=fun M' (L:KT M' p n ty (sw g (a+0) (a+i)))=>zpy (f:=f) (e:=e) (lo:=0) (hi:=i) (fs:=a) L (by omega) hn (by omega) Y
  repeat' first|with_reducible intro _|refine sv ?_|((with_reducible first|apply zk|apply zp|apply zh);exact gd;exact rfl;exact rfl;(first|exact C _ (by exact d)))|refine ss ?_ ?_<;>(intro h;first|exact sz h|refine sy h ?_)|exact sq|fail
  rename_i w2 M9 U
  obtain⟨G9,A,O,J,S⟩:=U
  refine Wh ?_
  exact zi i (by omega) ⟨G9,by omega,rfl,.cons rfl (.cons rfl (.cons rfl (.cons rfl (.cons rfl .nil)))),(Sw.step v (i:=a+0) (j:=a+i) (by omega) (by omega) (by omega) (by omega)).trans (A.wider (by omega) (by omega)),O,Tail.step Z (by omega) s A,J,R.trans S (fun i hi=>.inl hi)⟩
theorem zpl{E:Env}{M:Mem}{x y:XO}{s:ByteArray}{k:Nat}{q:IntKind}(g:xval E x=some (.str s))(o:xval E y=some (.int q (k:Int)))(h:k<s.size):zl Tryz.prog (.idxS x y) E M=some (.val (.int .u8 (byteAt s k:Int)) M):=by
 have c:=zms (P:=Tryz.prog) (E:=[(0,.str s),(1,I k)]) (M:=M) (x:=.t 0) (y:=.t 1) rfl rfl h
 have d:zl Tryz.prog (.idxS (.t 0) (.t 1)) [(0,.str s),(1,I k)] M=zl Tryz.prog (.idxS (.t 0) (.t 1)) [(0,.str s),(1,.int q (k:Int))] M:=rfl
 rw[d] at c
 show ob (xval E x) _=_
 rw[g,z8,o]
 exact c
set_option maxRecDepth 100000 in
def len8:ByteArray:=⟨#[0,1,2,2,3,3,3,3,4,4,4,4,4,4,4,4,5,5,5,5,5,5,5,5,5,5,5,5,5,5,5,5,6,6,6,6,6,6,6,6,6,6,6,6,6,6,6,6,6,6,6,6,6,6,6,6,6,6,6,6,6,6,6,6,7,7,7,7,7,7,7,7,7,7,7,7,7,7,7,7,7,7,7,7,7,7,7,7,7,7,7,7,7,7,7,7,7,7,7,7,7,7,7,7,7,7,7,7,7,7,7,7,7,7,7,7,7,7,7,7,7,7,7,7,7,7,7,7,8,8,8,8,8,8,8,8,8,8,8,8,8,8,8,8,8,8,8,8,8,8,8,8,8,8,8,8,8,8,8,8,8,8,8,8,8,8,8,8,8,8,8,8,8,8,8,8,8,8,8,8,8,8,8,8,8,8,8,8,8,8,8,8,8,8,8,8,8,8,8,8,8,8,8,8,8,8,8,8,8,8,8,8,8,8,8,8,8,8,8,8,8,8,8,8,8,8,8,8,8,8,8,8,8,8,8,8,8,8,8,8,8,8,8,8,8,8,8,8,8,8,8,8,8,8,8,8]⟩
set_option maxRecDepth 100000 in
theorem zsd:(List.range 256).all (fun n=>Nat.ble (byteAt len8 n) 8&&(Nat.ble n 0 ||(Nat.ble (n+1) (2^byteAt len8 n)&&Nat.ble (2^byteAt len8 n) (2*n))))=true:=by decide +kernel
set_option maxRecDepth 100000 in
set_option maxHeartbeats 4000000 in
theorem zr8{M:Mem}{n:Nat}(g:n<256):zc Tryz.prog 259 [.int .u64 (n:Int)] M (fun w M'=>∃ k:Nat,w=I k/\k<=8/\(1<=n->n<2^k/\2^k<=2*n)/\M'=M):=by
 refine zd Y259.2 rfl ?_
 delta Y259;refine un ?_
 refine Wg ?_;intros
 have d:=List.all_eq_true.1 zsd n (List.mem_range.2 g)
 simp only[Bool.and_eq_true,Bool.or_eq_true,Nat.ble_eq] at d
 refine z35 (by exact gd) (zpl (s:=len8) (k:=n) rfl rfl (show n<256 from g)) ?_
 generalize q:byteAt len8 n=k at *
 refine Wh ?_
 refine kf ?_
 exact⟨k,by show I (0+(k:Int))=_;rw[Int.zero_add],d.1,fun o=>by rcases d.2 with c|c;omega;exact⟨c.1,c.2⟩,rfl⟩
theorem wrap64(z:Int):0<=IntKind.wrap .u64 z/\IntKind.wrap .u64 z<18446744073709551616:=by
 unfold IntKind.wrap
 simp only[IntKind.signed,IntKind.bits,Bool.false_and,Bool.false_eq_true,if_false]
 omega
theorem z3s{z:Int}(h:0<=z/\z<18446744073709551616):IntKind.wrap .u64 z=z:=by
 unfold IntKind.wrap
 simp only[IntKind.signed,IntKind.bits,Bool.false_and,Bool.false_eq_true,if_false]
 omega
section
variable {E:Env} {M:Mem} {x y:XO} {a b:Int}
theorem zhr(d:xval E x=some (.int .u64 a))(g:xval E y=some (.int .u64 b))(c:0<=b):∃ r,zl Tryz.prog (.bin .shl x y) E M=some (.val (.int .u64 r) M)/\0<=r/\r<18446744073709551616:=by
 obtain⟨n,rfl⟩:=Int.eq_ofNat_of_zero_le c
 refine⟨IntKind.wrap .u64 (a*((2^(Nat.min n 64):Nat):Int)),?_,wrap64 _⟩
 show ob (xval E x) _=_
 rw[d,z8,g,z8]
 show ob (fI (IntKind.wrap .u64 (a*((2^(Nat.min n 64):Nat):Int))) fun z=>some (LV.int .u64 z)) _=_
 rw[zfc];rfl
theorem zpo(h:xval E x=some (.int .u64 a))(o:xval E y=some (.int .u64 b))(g:0<=b)(c:0<=a/\a<18446744073709551616):∃ r,zl Tryz.prog (.bin .shr x y) E M=some (.val (.int .u64 r) M)/\0<=r/\r<18446744073709551616:=by
 obtain⟨n,rfl⟩:=Int.eq_ofNat_of_zero_le g
 have d:(0:Int) <((2^(Nat.min n 64):Nat):Int):=by
  have:=Nat.two_pow_pos (Nat.min n 64)
  omega
 refine⟨a.fdiv ((2^(Nat.min n 64):Nat):Int),?_,Int.fdiv_nonneg c.1 (Int.le_of_lt d),?_⟩
 ·show ob (xval E x) _=_
  rw[h,z8,o,z8]
  show ob (fI (a.fdiv ((2^(Nat.min n 64):Nat):Int)) fun z=>some (LV.int .u64 z)) _=_
  rw[zfc];rfl
 ·rw[Int.fdiv_eq_ediv_of_nonneg _ (Int.le_of_lt d)]
  exact Int.lt_of_le_of_lt (Int.ediv_le_self _ c.1) c.2
theorem zcs(c:xval E x=some (.int .u64 a))(d:xval E y=some (.int .u64 b)):∃ r,zl Tryz.prog (.bin .xor x y) E M=some (.val (.int .u64 r) M)/\0<=r/\r<18446744073709551616:=by
 refine⟨IntKind.wrap .u64 ((BitVec.ofInt 64 a ^^^ BitVec.ofInt 64 b).toNat),?_,wrap64 _⟩
 show ob (xval E x) _=_
 rw[c,z8,d,z8]
 show ob (fI (IntKind.wrap .u64 ((BitVec.ofInt 64 a ^^^ BitVec.ofInt 64 b).toNat)) fun z=>some (LV.int .u64 z)) _=_
 rw[zfc];rfl
theorem zph(d:xval E x=some (.int .u64 a))(g:xval E y=some (.int .u64 b))(c:0<=b/\b<18446744073709551616):∃ r:Nat,zl Tryz.prog (.bin .and x y) E M=some (.val (.int .u64 (r:Int)) M)/\(r:Int)<=b:=by
 obtain⟨n,rfl⟩:=Int.eq_ofNat_of_zero_le c.1
 have o:n<2^64:=by have:=c.2;omega
 have h:(BitVec.ofInt 64 a &&& BitVec.ofInt 64 (n:Int)).toNat<=n:=by
  rw[BitVec.toNat_and]
  refine Nat.le_trans Nat.and_le_right ?_
  rw[BitVec.toNat_ofInt]
  omega
 refine⟨(BitVec.ofInt 64 a &&& BitVec.ofInt 64 (n:Int)).toNat,?_,by omega⟩
 show ob (xval E x) _=_
 rw[d,z8,g,z8]
 show ob (fI (IntKind.wrap .u64 ((BitVec.ofInt 64 a &&& BitVec.ofInt 64 (n:Int)).toNat)) fun z=>some (LV.int .u64 z)) _=_
 rw[zfc,z3s (by omega)];rfl
theorem zpn{k:Nat}(g:xval E x=some (.int .u64 1))(h:xval E y=some (I (k:Int)))(c:k<=8):zl Tryz.prog (.bin .shl x y) E M=some (.val (.int .u64 ((2^k:Nat):Int)) M):=by
 show ob (xval E x) _=_
 rw[g,z8,h,z8]
 show ob (fI (IntKind.wrap .u64 (1*((2^(Nat.min k 64):Nat):Int))) fun z=>some (LV.int .u64 z)) _=_
 have d:Nat.min k 64=k:=Nat.min_eq_left (by omega)
 have o:2^k<=256:=Nat.pow_le_pow_right (n:=2) (by decide) c
 rw[d,Int.one_mul]
 generalize 2^k=m at *
 rw[z3s (by omega),zfc];rfl
end
theorem zu0{M:Mem}{n:Nat}(o:n<256):zc Tryz.prog 205 [.int .u64 (n:Int)] M (fun w M'=>∃ k:Nat,w=I k/\k<=8/\(1<=n->n<2^k/\2^k<=2*n)/\M'=M):=by
 refine zd Y205.2 rfl ?_
 delta Y205;refine un ?_
 repeat' first|with_reducible intro _|refine sv ?_|((with_reducible first|apply zk|apply zp|apply zh);exact gd;exact rfl;exact rfl;(first|exact zr8 o))|refine ss ?_ ?_<;>(intro h;first|exact sz h|refine sy h ?_)|exact sq|fail
 rename_i d
 obtain⟨k,rfl,g,c,rfl⟩:=d
 refine Wh ?_
 refine kf ?_
 exact⟨k,rfl,g,c,rfl⟩
theorem zk0{M:Mem}{n:Nat}(t:n<256)(h1:1<=n):zc Tryz.prog 317 [I n] M (fun w M'=>∃ m:Nat,w=.int .u64 (m:Int)/\1<=m/\m<=2*n/\M'=M):=by
 refine zd Y317.2 rfl ?_
 delta Y317;refine un ?_
 have c:=zu0 (M:=M) t
 refine Wh ?_
 rw[z3s (by omega)]
 refine Wlh @c ?_;intro _ _ q
 obtain⟨k,rfl,s,d,rfl⟩:=q
 refine z35 (by exact gd) (zpn rfl rfl s) ?_
 have g:=(d h1).2
 have o:1<=2^k:=Nat.one_le_two_pow
 refine Wh ?_
 refine kf ?_
 exact⟨2^k,rfl,o,g,rfl⟩
theorem zu1{M:Mem}{q:Nat}{ty:TypeId}{c:Int}(hq:At M q (.cells true [.int .u64 c] ty))(hc:0<=c/\c<18446744073709551616):zc Tryz.prog 318 [.ptr (some (q,0))] M (fun w M'=>∃ s,w=.int .u64 s/\0<=s/\s<18446744073709551616/\At M' q (.cells true [.int .u64 s] ty)/\Keep (fun i=>i=q) M M'):=by
 refine zd Y318.2 rfl ?_
 delta Y318;refine un ?_
 refine Wh ?_
 obtain⟨z,C,P⟩:=zhr (E:=[(8,.int .u64 c),(1000,.int .u64 13)]) (M:=M) (x:=.t 8) (y:=.t 1000) (a:=c) (b:=13) rfl rfl (by omega)
 refine zf9 (by exact gd) (v:=.int .u64 z) (by exact C) ?_
 obtain⟨g,D,Q⟩:=zcs (E:=[(5,.int .u64 c),(9,.int .u64 z)]) (M:=M) (x:=.t 5) (y:=.t 9) (a:=c) (b:=z) rfl rfl
 refine zf9 (by exact gd) (v:=.int .u64 g) (by exact D) ?_
 refine Wh ?_;intro K Y e1 V
 obtain⟨A,F,R⟩:=zpo (E:=[(17,.int .u64 g),(1000,.int .u64 7)]) (M:=K) (x:=.t 17) (y:=.t 1000) (a:=g) (b:=7) rfl rfl (by omega) (by omega)
 refine zf9 (by exact gd) (v:=.int .u64 A) (by exact F) ?_
 obtain⟨o,G,S⟩:=zcs (E:=[(14,.int .u64 g),(18,.int .u64 A)]) (M:=K) (x:=.t 14) (y:=.t 18) (a:=g) (b:=A) rfl rfl
 refine zf9 (by exact gd) (v:=.int .u64 o) (by exact G) ?_
 refine Wh ?_;intro L Z e2 X
 obtain⟨B,H,U⟩:=zhr (E:=[(26,.int .u64 o),(1000,.int .u64 17)]) (M:=L) (x:=.t 26) (y:=.t 1000) (a:=o) (b:=17) rfl rfl (by omega)
 refine zf9 (by exact gd) (v:=.int .u64 B) (by exact H) ?_
 obtain⟨N,J,d⟩:=zcs (E:=[(23,.int .u64 o),(27,.int .u64 B)]) (M:=L) (x:=.t 23) (y:=.t 27) (a:=o) (b:=B) rfl rfl
 refine zf9 (by exact gd) (v:=.int .u64 N) (by exact J) ?_
 refine Wh ?_;intro O a0 e3 t
 have u:Keep (fun i=>i=q) M O:=xk
 refine kf ?_
 exact⟨N,rfl,d.1,d.2,t,u⟩
set_option maxHeartbeats 4000000 in
theorem zk3{M:Mem}{p n a b:Nat}{f:Bool}{e:Nat}{ty:TypeId}{G:Nat->Ky}(F:KT M p n ty G)(Z:b<=n)(N:a<b)(hn:n<=1000) :
  zc Tryz.prog 312 [.slice (some (p,0)) n f e,I a,I b,cf] M (fun w M'=>∃ G',Sw a b G G'/\KT M' p n ty G'/\Keep (fun i=>i=p) M M'):=by
 refine zd Y312.2 rfl ?_
 delta Y312;refine un ?_
 refine Wh ?_
 refine zg (fun z E C M'=>∃(i j:Nat) (G':Nat->Ky),z=b-i/\a<=i/\i<=b/\j<b/\a<=j+1/\C=[]/\Has E [(0,.slice (some (p,0)) n f e),(8,I i),(9,I j)]/\Sw a b G G'/\KT M' p n ty G'/\Keep (fun i=>i=p) M M')
  ?_ (b-a) _ _ _ ⟨a,b-1,G,rfl,by omega,by omega,by omega,by omega,rfl,.cons rfl (.cons rfl (.cons (by show some (I _)=some (I _);rw[show(b:Int)-1=((b-1:Nat):Int) by omega]) .nil)),.refl,F,Keep.refl _ _⟩
 rintro z E C U ⟨i,j,g,rfl,O,P,Q,R,rfl,H,d,c,s⟩
 refine z06 H ?_
 by_cases S:i<j
 case neg=>
  refine Wg ?_;intros
  refine kf ?_
  exact⟨g,d,c,s⟩
 have u:=z1a c (show i<n by omega)
 have v:=z1a c (show j<n by omega)
 have A:=u;have B:=v;refine Wg ?_;intros
 have J:=c
 refine d_st (by exact gd) rfl rfl J rfl rfl (z0w (by omega) (g j)) ?_
 intro V K X o
 refine Wh ?_
 refine d_st (by exact gd) rfl rfl o rfl rfl (z0w (by omega) (g i)) ?_
 intro D L Y q
 have t:Keep (fun i=>i=p) M D:=xk
 refine Wh ?_
 refine zi (b-(i+1)) (by omega) ⟨i+1,j-1,sw g i j,rfl,by omega,by omega,by omega,by omega,rfl,.cons rfl (.cons rfl (.cons ?_ .nil)),.step d (by omega) (by omega) (by omega) (by omega),q,t⟩
 show some (I _)=some (I _)
 rw[show((j-1:Nat):Int)=(j:Int)-1 by omega]
set_option maxHeartbeats 8000000 in
theorem zrd{M:Mem}{p n a b:Nat}{f:Bool}{e:Nat}{ty:TypeId}{G:Nat->Ky}(hA:KT M p n ty G)(hb:b<=n)(b0:a+8<=b)(hn:n<250) :
  zc Tryz.prog 310 [.slice (some (p,0)) n f e,I a,I b,cf] M (fun w M'=>∃ G',Sw a b G G'/\KT M' p n ty G'/\Keep (fun i=>i=p) M M'):=by
 refine zd Y310.2 rfl ?_
 delta Y310;refine un ?_
 obtain⟨l,rfl⟩:∃ l,b=a+l:=⟨b-a,by omega⟩
 have v0:((a+l:Nat):Int)-(a:Int)=l:=by omega
 refine Wg ?_;intro _ q M1 R e1 e2 M2 S e3 u
 rw[v0] at *
 have a5:At M2 q (.cells true [.int .u64 (l:Int)] 470):=by rw[z3s (by omega)] at u;exact u
 have b5:M.next<=q:=by omega
 have a2:KT M2 p n ty G:=At.upd_ne S (by have:=hA.2;omega) (At.grow R.grow hA)
 have a4:Keep (fun i=>i=p) M M2:=xk
 have a9:M.next<=M2.next:=by omega
 clear R S u e1 e2 e3
 repeat' first|with_reducible intro _|refine sv ?_|((with_reducible first|apply zk|apply zp|apply zh);exact gd;exact rfl;exact rfl;(first|exact zk0 (n:=l) (by omega) (by omega)))|refine ss ?_ ?_<;>(intro h;first|exact sz h|refine sy h ?_)|exact sq|fail
 rename_i g
 obtain⟨m,rfl,b3,b4,rfl⟩:=g
 refine Wh ?_
 refine zg (fun z E ms M'=>∃(i:Nat) (G':Nat->Ky) (c:Int),z=a+l/4*2+2-i/\a+l/4*2<=i+1/\i<=a+l/4*2+2/\ms=[]/\Has E [(0,.slice (some (p,0)) n f e),(1,I a),(8,I l),(9,.ptr (some (q,0))),(10,.int .u64 (m:Int)),(11,I i)]/\Sw a (a+l) G G'/\KT M' p n ty G'/\At M' q (.cells true [.int .u64 c] 470)/\0<=c/\c<18446744073709551616/\Keep (fun i=>i=p) M M')
  ?_ 3 _ _ _ ⟨a+l/4*2-1,G,l,by omega,by omega,by omega,rfl,.cons rfl (.cons rfl (.cons rfl (.cons rfl (.cons rfl (.cons (by show some (I _)=some (I _);rw[show(a:Int)+(l:Int)/4*2-1=((a+l/4*2-1:Nat):Int) by omega]) .nil))))),.refl,a2,a5,by omega,by omega,a4⟩
 rintro z E ms M3 ⟨i,s,c3,rfl,b1,b2,rfl,hE,N,Q,a6,a3,U,X⟩
 refine z06 hE ?_
 by_cases J:i=a+l/4*2+2
 ·subst J
  refine Wg ?_;intros
  refine kf ?_
  exact⟨s,N,Q,X⟩
 repeat' first|with_reducible intro _|refine sv ?_|((with_reducible first|apply zk|apply zp|apply zh);exact gd;exact rfl;exact rfl;(first|exact zu1 a6 ⟨a3,U⟩))|refine ss ?_ ?_<;>(intro h;first|exact sz h|refine sy h ?_)|exact sq|fail
 all_goals try(exfalso;omega)
 rename_i w4 M4 g
 obtain⟨O,rfl,V,t,Y,F⟩:=g
 have o:p≠q:=by have:=hA.2;omega
 have d:KT M4 p n ty s:=Q.keep F o
 have a8:Keep (fun i=>i=p) M M4:=X.trans F (fun i hi=>.inr (by omega))
 clear F
 refine Wh ?_
 rw[z3s (by omega)]
 obtain⟨r,sr,br⟩:=zph (E:=[(38,.int .u64 O),(40,.int .u64 ((m:Int)-1))]) (M:=M4) (x:=.t 38) (y:=.t 40) (a:=O) (b:=(m:Int)-1) rfl rfl (by omega)
 refine z35 (by exact gd) (v:=.int .u64 (r:Int)) (by exact sr) ?_
 have Z:=z1a d (show i<n by omega)
 by_cases b6:r<l
 ·have L:=z1a d (show a+r<n by omega)
  have a0:=Z;have a1:=L;refine Wg ?_;intros
  have hK:=d
  refine d_st (by exact gd) rfl rfl hK rfl rfl (z0w (by omega) (s (a+r))) ?_
  intro M7 C e7 A
  refine Wh ?_
  refine d_st (by exact gd) rfl rfl A rfl rfl (z0w (by omega) (s i)) ?_
  intro P D e8 B
  have H:Keep (fun i=>i=p) M P:=xk
  have K:At P q (.cells true [.int .u64 O] 470):=At.upd_ne D (fun g=>o g.symm) (At.upd_ne C (fun g=>o g.symm) Y)
  refine Wh ?_
  exact zi (a+l/4*2+2-(i+1)) (by omega) ⟨i+1,sw s i (a+r),O,rfl,by omega,by omega,rfl,hz,.step N (by omega) (by omega) (by omega) (by omega),B,K,V,t,H⟩
 ·have L:=z1a d (show a+(r-l)<n by omega)
  have f1:((a:Int)+((r:Int)-(l:Int))).toNat=a+(r-l):=by omega
  have a7:Rd M4 p (0+((a:Int)+((r:Int)-(l:Int))).toNat*2) 2 [I (s (a+(r-l))).1,I (s (a+(r-l))).2]:=by rw[f1];exact L
  have a0:=Z;have a1:=a7;refine Wg ?_;intros
  have hK:=d
  refine d_st (by exact gd) rfl rfl hK rfl rfl (z0w (by omega) (s (a+(r-l)))) ?_
  intro M7 C e7 A
  refine Wh ?_
  refine d_st (by exact gd) rfl rfl A rfl rfl (by rw[f1];exact z0w (by omega) (s i)) ?_
  intro P D e8 B
  have H:Keep (fun i=>i=p) M P:=xk
  have K:At P q (.cells true [.int .u64 O] 470):=At.upd_ne D (fun g=>o g.symm) (At.upd_ne C (fun g=>o g.symm) Y)
  refine Wh ?_
  exact zi (a+l/4*2+2-(i+1)) (by omega) ⟨i+1,sw s i (a+(r-l)),O,rfl,by omega,by omega,rfl,hz,.step N (by omega) (by omega) (by omega) (by omega),B,K,V,t,H⟩
