/-
 Part of the proof of TapeKept. No condition beyond those in each theorem.
-/
import Derived.Test.YtpgalhbplcanhaaGreatDoorSD
import Derived.Test.YtpgalhbplcanhaaGreatDoorPvI
import Derived.Test.YtpgalhbplcanhaaGreatDoorSB
import Derived.Test.YtpgalhbplcanhaaGreatDoorSC
import Derived.Test.YtpgalhbplcanhaaGreatDoorTX
set_option linter.unusedVariables false
set_option linter.unusedSimpArgs false
set_option linter.unusedSectionVars false
section
open Go PvL Go.Proofs
variable {μ:Md}
namespace Go.Proofs.YtpgalhbplcanhaaGreatDoor.C
variable {e q by' len n j b:Nat} {z old new cs:List LV} {xv v:LV} {ty t2:TypeId} {M M':Mem}
section
variable {α:Type} {b q:Nat} {ty:TypeId} {enc:α->List LV} {M:Mem} {v:LV} {l l':List α} {P:Program} [Orc P] {sz:Nat} {E:Env} {K:Env->Mem->Prop} {ll:List XG} {d:Nat} {g:Option (Nat × Bool)} {s x:XO} {st:List Mem} {k:Nat} {xs:List (Nat × Nat × (Mem->Prop))} {by':Nat} {z:List LV} {xv:LV}
theorem zg6 {h:Option (Nat×Nat)}{f:Bool}{es:Nat}(t:xval E s=some (.slice h len f es))(y:xval E x=some xv)(p:z0x xv=some n)(m:0<n)(o:(5*(len+n)/4+2048)*by'<=281474976710656)(hz:(Nat.ble 1 q&&(Nat.ble 1 by'&&Nat.beq z.length q))=true)(r:zz q len (.slice h len f es) M=some old)(u:zz q n xv M=some new)(hf:zn new=true)(c:h=none∨f=true):zl P (.app e q by' z s x) E M=some (.val (.slice (some (M.next,0)) (len+n) false q) (M.push (.cells true (old++new) (apE e)))):=by
 show ob (xval E s) _=_
 rw[t,z8,y,z8]
 show ob (z0x xv) _=_
 rw[p,z8,beq0 m,ze,hz,Nat.ble_eq_true_of_le o]
 show ob (zz q len _ M) _=_
 rw[r,z8,u,z8,hf,zb]
 rcases c with rfl|rfl
 ·rfl
 ·cases h<;>rfl
theorem zep {off:Nat}(t:xval E s=some (.slice (some (j,off)) len false q))(y:xval E x=some xv)(p:z0x xv=some n)(h:0<n)(o:(5*(len+n)/4+2048)*by'<=281474976710656)(hz:(Nat.ble 1 q&&(Nat.ble 1 by'&&Nat.beq z.length q))=true)(r:zz q len (.slice (some (j,off)) len false q) M=some old)(u:zz q n xv M=some new)(hf:zn new=true)(m:At M j (.cells true cs ty))(c:(Nat.beq ty e||Nat.beq ty (apE e))=true:=by rfl):zl P (.app e q by' z s x) E M=some (.val (.slice (some (M.next,0)) (len+n) false q) ((M.upd j none).push (.cells true (old++new) (apE e)))):=by
 show ob (xval E s) _=_
 rw[t,z8,y,z8]
 show ob (z0x xv) _=_
 rw[p,z8,beq0 h,ze,hz,Nat.ble_eq_true_of_le o]
 show ob (zz q len _ M) _=_
 rw[r,z8,u,z8,hf,zb]
 show guard' (Nat.beq q q) (atCells M j _)=_
 rw[show Nat.beq q q=true by simp,zb]
 unfold atCells
 rw[m.1,z8]
 show guard' (true&&(Nat.beq ty e||Nat.beq ty (apE e))) _=_
 rw[c,Bool.and_self,zb]
 show some (R1.val (.slice (some ((M.upd j none).next,0)) _ _ _) _)=_
 rw[Mem.next_upd]
theorem Vec.appS {P:Program}[Orc P]{E:Env}{s x:XO}{l':List α}(h:Vec b sz ty enc M v l)(D:xval E s=some v)(G:xval E x=some xv)(C:z0x xv=some l'.length)(t:0<l'.length)(y:(5*(l.length+l'.length)/4+2048)*by'<=281474976710656)(hz:(Nat.ble 1 sz&&(Nat.ble 1 by'&&Nat.beq z.length sz))=true)(F:zz sz l'.length xv M=some (l'.flatMap enc))(c:∀ x,(enc x).length=sz)(r:∀ x,zn (enc x)=true)(m:b<=M.next) :
  ∃ v' M',zl P (.app ty sz by' z s x) E M=some (.val v' M')/\Vec b sz ty enc M' v' (l++l')/\M'.next=M.next+1/\Keep (fun i=>b<=i /\ ∃ o n f e,v=.slice (some (i,o)) n f e) M M':=by
 have B:=z0j (l:=l') (enc:=enc) (fun x _=>r x)
 rcases h with⟨rfl,rfl⟩|⟨i,rfl,u,H⟩
 ·refine⟨_,_,zg6 D G C t (by simpa using y) hz rfl F B (.inl rfl),.inr ⟨M.next,?_,?_,m⟩,rfl,?_⟩
  ·rw[List.nil_append,Nat.zero_add]
  ·rw[List.nil_append,List.nil_append];exact⟨by rw[Mem.get_push,if_pos rfl],Nat.lt_succ_self _⟩
  ·have J:New M M.next (.cells true ([]++l'.flatMap enc) (apE ty)) (M.push (.cells true ([]++l'.flatMap enc) (apE ty))):=⟨rfl,rfl⟩
   exact J.grow.to_keep _
 ·have N:zz sz l.length (.slice (some (i,0)) l.length false sz) M=some (l.flatMap enc):=by
   rw[z2g u (by rw[z17 (fun x _=>c x)];omega),List.drop_zero,List.take_of_length_le (by rw[z17 (fun x _=>c x)];omega)]
  have p:Kill M i M.next (.cells true (l.flatMap enc++l'.flatMap enc) (apE ty)) ((M.upd i none).push (.cells true (l.flatMap enc++l'.flatMap enc) (apE ty))):=⟨rfl,rfl⟩
  refine⟨_,_,zep D G C t y hz N F B u (by rw[show Nat.beq (apE ty) (apE ty)=true by simp,Bool.or_true]),.inr ⟨M.next,by rw[List.length_append],?_,m⟩,p.next,p.keep.weaken fun j L=>?_⟩
  ·rw[List.flatMap_append];exact p.same
  ·subst L;exact⟨H,_,_,_,_,rfl⟩
theorem zjd (C:GOn E g)(H:Vec b q ty enc M v l)(G:xval E s=some v)(L:xval E x=some xv)(F:z0x xv=some l'.length)(p:0<l'.length)(B:(5*(l.length+l'.length)/4+2048)*by'<=281474976710656)(hz:(Nat.ble 1 q&&(Nat.ble 1 by'&&Nat.beq z.length q))=true)(J:zz q l'.length xv M=some (l'.flatMap enc))(c:∀ x,(enc x).length=q)(m:∀ x,zn (enc x)=true)(h:b<=M.next)(D:∀ v' M',Vec b q ty enc M' v' (l++l')->M'.next=M.next+1->Keep (fun i=>b<=i /\ ∃ o n f e,v=.slice (some (i,o)) n f e) M M'->XW μ P sz ll ((d,v')::E) M' K):XW μ P sz (⟨some d,.app ty q by' z s x,g⟩::ll) E M K:=by
 obtain⟨v',M',r,t,u,y⟩:=Vec.appS (P:=P) H G L F p B hz J c m h
 exact zg2 C r (D v' M' t u y)
end
structure Lk where
 r:Rg
 q:Rg
 e:Bool
 a:Bool
 gs:List Sg
 fi:Bool
abbrev lkc (x:Lk)(ag:Option (Nat×Nat))(fg:Bool)(eg:Nat):List LV:=rgc x.r++rgc x.q++[blv x.e,blv x.a,.slice ag x.gs.length fg eg,blv x.fi]
abbrev bl1 (b:Bool):List LV:=[blv b]
theorem zgf {m:Nat}{x:Bool}(h:New M m (.cells true [.bool x] ty) M'):zz 1 1 (.slice (some (m,0)) 1 true 1) M'=some ([x].flatMap bl1) :=
 z1g (enc:=bl1) (l:=[x]) (fun _ _=>rfl) (fun o c=>z18 (enc:=bl1) (l:=[x]) (At.new_same h) (fun _ _=>rfl) c)
theorem zea {p:Rg}(h:New M n (.cells true (rgc p) ty) M'):zz 8 1 (.slice (some (n,0)) 1 true 8) M'=some ([p].flatMap rgc) :=
 z1g (enc:=rgc) (l:=[p]) (fun _ _=>rfl) (fun m c=>z18 (enc:=rgc) (l:=[p]) (At.new_same h) (fun _ _=>rfl) c)
theorem zmc {p:Sg}(h:New M n (.cells true (sgc p) ty) M'):zz 5 1 (.slice (some (n,0)) 1 true 5) M'=some ([p].flatMap sgc) :=
 z1g (enc:=sgc) (l:=[p]) (fun _ _=>rfl) (fun m c=>z18 (enc:=sgc) (l:=[p]) (At.new_same h) (fun _ _=>rfl) c)
theorem z86 {M0:Mem}(c:Grow M0 M)(p:M0.next<=b)(m:Keep (fun i=>b<=i /\ ∃ o n f e,v=.slice (some (i,o)) n f e) M M'):Grow M0 M':=by
 refine⟨Nat.le_trans c.le m.le,fun i hi=>?_⟩
 rw[m.old i (Nat.lt_of_lt_of_le hi c.le) (fun h=>by omega),c.old i hi]
structure WnP (b:Nat) (M:Mem) (v1 v2 v3 v4 v5:LV) (s:Sc):Prop where
 a1:Vec b 8 28 rgc M v1 s.sh
 a2:Vec b 8 28 rgc M v2 s.sr
 a3:Vec b 1 4 bl1 M v3 s.ey
 a4:Vec b 1 4 bl1 M v4 s.er
 a5:Vec b 5 268 sgc M v5 s.sg
 z1:s.sh=[]->v1=.slice none 0 true 0
 z2:s.sr=[]->v2=.slice none 0 true 0
 z3:s.ey=[]->v3=.slice none 0 true 0
 z4:s.er=[]->v4=.slice none 0 true 0
 z5:s.sg=[]->v5=.slice none 0 true 0
theorem zpu {i:Nat}{o o':Bool}{c m:List LV}{t h:TypeId}(h1:At M i (.cells o c t))(p:At M i (.cells o' m h)):t=h:=by
 have:=h1.1.symm.trans p.1
 cases this;rfl
theorem Vec.offW {α:Type}{enc:α->List LV}{l:List α}{own:Bool}(r:Vec b q ty enc M v l)(m:At M j (.cells own cs t2))(p:apE ty≠t2){o:Nat}{f:Bool}(c:v=.slice (some (j,o)) n f e):False:=by
 rcases r with⟨rfl,rfl⟩|⟨i,rfl,h,t⟩
 ·cases c
 ·cases c
  exact p (zpu h m)
theorem Vec.updW {α:Type}{enc:α->List LV}{l:List α}{own:Bool}{lb:LB}(t:Vec b q ty enc M v l)(o:At M j (.cells own cs t2))(p:apE ty≠t2)(r:Upd M j lb M'):Vec b q ty enc M' v l:=by
 rcases t with⟨rfl,rfl⟩|⟨i,rfl,c,m⟩
 ·exact .nil
 ·exact .inr ⟨i,rfl,At.upd_ne r (fun h=>by subst h;exact p (zpu c o)) c,m⟩
theorem Vec.lowW {α:Type}{b':Nat}{enc:α->List LV}{l:List α}(p:Vec b q ty enc M v l)(o:b'<=b):Vec b' q ty enc M v l:=p.imp id fun⟨i,c,h,m⟩=>⟨i,c,h,Nat.le_trans o m⟩
set_option maxHeartbeats 16000000 in
theorem zro {v1 v2 v3 v4 v5:LV}{s:Sc}{x:Lk}{ag:Option (Nat×Nat)}{fg:Bool}{eg:Nat}(hv:WnP b M v1 v2 v3 v4 v5 s)(n1:s.sh.length<=64)(n2:s.sr.length<=64)(n3:s.ey.length<=64)(n4:s.er.length<=64)(n5:s.sg.length<=64)(hx:SlA 5 sgc M ag x.gs)(l7:x.gs.length*48<=140737488351232) :
  zc Tryz.prog 55 [.agg [v1,v2,v3,v4,v5],.agg (lkc x ag fg eg)] M (fun r M'=>(∃ w1 w2 w3 w4 D,r=.agg [w1,w2,w3,w4,D]/\WnP M.next M' w1 w2 w3 w4 D ⟨s.sh++[x.r],s.sr++[x.q],s.ey++[x.e],s.er++[x.a],s.sg++x.gs.map (fun y=>((s.sh.length:Int),y.2))⟩)/\Grow M M'):=by
 obtain⟨a1,a2,a3,a4,a5,z1,z2,z3,z4,z5⟩:=hv
 obtain⟨m,l2,l3,l4,u⟩:=s
 obtain⟨xr,xq,xe,xa,c,xf⟩:=x
 dsimp only at *
 obtain⟨o1,f1,e1,rfl⟩:=a1.shape
 obtain⟨o2,f2,e2,rfl⟩:=a2.shape
 obtain⟨o3,f3,e3,rfl⟩:=a3.shape
 obtain⟨o4,f4,e4,rfl⟩:=a4.shape
 obtain⟨o5,f5,e5,rfl⟩:=a5.shape
 obtain⟨⟨r1,r2⟩,⟨r3,r4⟩,⟨r5,r6⟩,r7,r8⟩:=xr
 obtain⟨⟨q1,q2⟩,⟨q3,q4⟩,⟨q5,q6⟩,q7,q8⟩:=xq
 show zc Tryz.prog 55 [.agg [.slice o1 m.length f1 e1,.slice o2 l2.length f2 e2,.slice o3 l3.length f3 e3,.slice o4 l4.length f4 e4,.slice o5 u.length f5 e5],.agg [I r1,I r2,I r3,I r4,I r5,I r6,I r7,I r8,I q1,I q2,I q3,I q4,I q5,I q6,I q7,I q8,blv xe,blv xa,.slice ag c.length fg eg,blv xf]] M _
 refine zd Y55.2 rfl ?_
 delta Y55;refine un ?_
 refine Wh ?_;intro nA Ma d0 i7 i8 nB Mb d5 i9 j0 nC M0 d6 j5 j7
 have g0:Grow M M0/\True:=⟨xg,trivial⟩
 refine zp (by exact gd) rfl rfl (show AppOk Tryz.prog _ _ M0 _ from zd5 (a1.grow g0.1) z1 (by omega)) ?_
 rintro w1 e8 ⟨b1,y1,g1⟩
 obtain⟨m8,j8,h8,rfl⟩:=b1.shape
 have l9:=g1.le
 refine Wh ?_;intro m1 e9 h1 j1 i1
 refine z4l (by exact gd) (l':=[((r1,r2),(r3,r4),(r5,r6),r7,r8)]) (b1.grow h1.grow) rfl rfl rfl (by simp) (by rw[List.length_singleton];omega) rfl (zea (p:=((r1,r2),(r3,r4),(r5,r6),r7,r8)) h1) (fun _=>rfl) (fun _=>rfl) (by omega) ?_
 intro u1 M1 d1 t1 c1
 have k1:Grow M0 M1:=z86 (g1.trans h1.grow) (Nat.le_refl _) c1
 have g0:Grow M M1/\True:=⟨g0.1.trans k1,trivial⟩
 obtain⟨b8,X,Q,rfl⟩:=d1.shape
 refine Wh ?_
 refine zp (by exact gd) rfl rfl (show AppOk Tryz.prog _ _ M1 _ from zd5 (a2.grow g0.1) z2 (by omega)) ?_
 rintro w2 f0 ⟨b2,y2,g2⟩
 obtain⟨m9,j9,h9,rfl⟩:=b2.shape
 have m0:=g2.le
 refine Wh ?_;intro m2 f8 h2 j2 i2
 refine z4l (by exact gd) (l':=[((q1,q2),(q3,q4),(q5,q6),q7,q8)]) (b2.grow h2.grow) rfl rfl rfl (by simp) (by rw[List.length_singleton];omega) rfl (zea (p:=((q1,q2),(q3,q4),(q5,q6),q7,q8)) h2) (fun _=>rfl) (fun _=>rfl) (by omega) ?_
 intro u2 M2 d2 t2 c2
 have k2:Grow M1 M2:=z86 (g2.trans h2.grow) (Nat.le_refl _) c2
 have g0:Grow M M2/\True:=⟨g0.1.trans k2,trivial⟩
 obtain⟨b9,Y,R,rfl⟩:=d2.shape
 refine Wh ?_
 refine zp (by exact gd) rfl rfl (show AppOk Tryz.prog _ _ M2 _ from zd4 (a3.grow g0.1) z3 (by omega)) ?_
 rintro w3 f9 ⟨b3,y3,g3⟩
 obtain⟨n0,k0,i0,rfl⟩:=b3.shape
 have m5:=g3.le
 refine Wh ?_;intro m3 g9 h3 j3 i3
 refine z4l (by exact gd) (l':=[xe]) (b3.grow h3.grow) rfl rfl rfl (by simp) (by rw[List.length_singleton];omega) rfl (zgf (x:=xe) h3) (fun _=>rfl) (fun _=>rfl) (by omega) ?_
 intro u3 M3 d3 t3 c3
 have k3:Grow M2 M3:=z86 (g3.trans h3.grow) (Nat.le_refl _) c3
 have g0:Grow M M3/\True:=⟨g0.1.trans k3,trivial⟩
 obtain⟨c0,Z,S,rfl⟩:=d3.shape
 refine Wh ?_
 refine zp (by exact gd) rfl rfl (show AppOk Tryz.prog _ _ M3 _ from zd4 (a4.grow g0.1) z4 (by omega)) ?_
 rintro w4 h0 ⟨b4,y4,g4⟩
 obtain⟨n6,k5,i5,rfl⟩:=b4.shape
 have m6:=g4.le
 refine Wh ?_;intro m4 h7 h4 j4 i4
 refine z4l (by exact gd) (l':=[xa]) (b4.grow h4.grow) rfl rfl rfl (by simp) (by rw[List.length_singleton];omega) rfl (zgf (x:=xa) h4) (fun _=>rfl) (fun _=>rfl) (by omega) ?_
 intro u4 t d4 t4 c4
 have J:Grow M3 t:=z86 (g4.trans h4.grow) (Nat.le_refl _) c4
 have g0:Grow M t/\True:=⟨g0.1.trans J,trivial⟩
 obtain⟨c5,a0,U,rfl⟩:=d4.shape
 refine Wh ?_
 refine zp (by exact gd) rfl rfl (show AppOk Tryz.prog _ _ t _ from zjr (a5.grow g0.1) z5 (by omega)) ?_
 rintro D M5 ⟨b5,y5,g5⟩
 obtain⟨c7,a6,V,rfl⟩:=b5.shape
 have m7:=g5.le
 have g0:Grow M M5/\True:=⟨g0.1.trans g5,trivial⟩
 refine Wh ?_;intro nO M6 h6 j6 i6 M7 u7 t7 a7
 have p7:Grow t M7:=xg
 have g7:Grow M M7:=g0.1.trans (xg)
 have A2:At t nA (.cells true [.slice o1 m.length f1 e1,.slice o2 l2.length f2 e2,.slice o3 l3.length f3 e3,.slice o4 l4.length f4 e4,.slice o5 u.length f5 e5] 154):=xm
 have A3:At t nC (.cells true [.slice none 0 true 0,.slice none 0 true 0,.slice none 0 true 0,.slice none 0 true 0,.slice none 0 true 0] 94):=xm
 have V5:Vec t.next 5 268 sgc M7 (.slice c7 u.length a6 V) (u ++(c.take 0).map (fun y=>((m.length:Int),y.2))):=by
  rw[List.take_zero,List.map_nil,List.append_nil]
  exact b5.grow (xg)
 have D1:=d1.grow (k2.trans (k3.trans J))
 have D2:=d2.grow (k3.trans J)
 have D3:=d3.grow J
 have D4:=d4
 have qa:=A2.2
 have qb:=A3.2
 have b0:Grow M t:=by exact((((⟨xg,trivial⟩:Grow M M0/\True).1).trans k1).trans k2).trans (k3.trans J)
 generalize k8:(m++[((r1,r2),(r3,r4),(r5,r6),r7,r8)]).length=L1 at *
 generalize k9:(l2++[((q1,q2),(q3,q4),(q5,q6),q7,q8)]).length=L2 at *
 generalize l0:(l3++[xe]).length=L3 at *
 generalize l6:(l4++[xa]).length=L4 at *
 have qc:t.next<=nO:=by omega
 clear d0 d5 d6 g0 b1 y1 g1 h1 d1 c1 k1 b2 y2 g2 h2 d2 c2 k2 b3 y3 g3 h3 d3 c3 k3 b4 y4 g4 h4 d4 c4 J b5 g5 h6 u7
 refine zg (fun z E ms M'=>∃(k:Nat) (D:LV),z=c.length-k/\k<=c.length/\ms=[]/\Has E [(2,.ptr (some (nA,0))),(4,.ptr (some (nC,0))),(5,.ptr (some (nO,0))),(46,.slice ag c.length fg eg),(47,I c.length),(48,I k)]/\Grow t M'/\At M' nO (.cells true [(.slice b8 L1 X Q),(.slice b9 L2 Y R),(.slice c0 L3 Z S),(.slice c5 L4 a0 U),D] 94)/\Vec t.next 5 268 sgc M' D (u ++(c.take k).map (fun y=>((m.length:Int),y.2)))/\(u ++(c.take k).map (fun y=>((m.length:Int),y.2))=[]->D=.slice none 0 true 0))
  ?_ c.length _ _ _ ⟨0,.slice c7 u.length a6 V,rfl,by omega,rfl,hz,p7,a7,V5,fun H=>y5 (List.append_eq_nil_iff.1 H).1⟩
 rintro z E ms M' ⟨k,D,rfl,hk,rfl,hE,B,a8,O,y8⟩
 refine z06 hE ?_
 have B2:=A2.grow B
 have L:=A3.grow B
 have cs:∀ C,zc Tryz.prog 54 [.agg [.slice o1 m.length f1 e1,.slice o2 l2.length f2 e2,.slice o3 l3.length f3 e3,.slice o4 l4.length f4 e4,.slice o5 u.length f5 e5]] C (fun w N=>w=I m.length/\Grow C N):=fun C=>z8p ⟨o1,f1,e1,o2,f2,e2,o3,f3,e3,o4,f4,e4,o5,f5,e5⟩ ⟨m,l2,l3,l4,u⟩ C
 by_cases b6:k=c.length
 ·subst b6
  rw[List.take_length] at O y8
  obtain⟨o6,f6,e6,rfl⟩:=O.shape
  refine Wg ?_;intro _ Mz x15 d9 c9
  refine kf ?_
  refine⟨⟨_,_,_,_,_,rfl,?_,?_,?_,?_,?_,?_,?_,?_,?_,y8⟩,(b0.trans B).upd x15 (by omega)⟩
  ·exact Vec.updW (Vec.lowW (D1.grow B) (by omega)) L (by decide) x15
  ·exact Vec.updW (Vec.lowW (D2.grow B) (by omega)) L (by decide) x15
  ·exact Vec.updW (Vec.lowW (D3.grow B) (by omega)) L (by decide) x15
  ·exact Vec.updW (Vec.lowW (D4.grow B) (by omega)) L (by decide) x15
  ·exact Vec.updW (Vec.lowW O (by omega)) L (by decide) x15
  all_goals exact fun H=>absurd H (by simp)
 ·have d7:∃ i o,ag=some (i,o)/\Rd M' i (o+k*5) 5 (sgc (c[k]'(by omega))):=by
   rcases hx with rfl|⟨i,o,rfl,hr⟩
   ·exact absurd (Nat.le_zero.1 hk) b6
   ·exact⟨i,o,rfl,((hr k (by omega)).grow b0).grow B⟩
  obtain⟨i,o,rfl,hr⟩:=d7
  have b7:k<c.length:=by omega
  have F:(c.take (k+1)).map (fun y=>((m.length:Int),y.2))=(c.take k).map (fun y=>((m.length:Int),y.2))++[((m.length:Int),(c[k]'b7).2)]:=by
   rw[<-List.take_append_getElem b7,List.map_append];rfl
  have k6:((c.take k).map (fun y=>((m.length:Int),y.2))).length=k:=by rw[List.length_map,List.length_take];omega
  generalize (c.take k).map (fun y=>((m.length:Int),y.2))=dn at *
  generalize c[k]=y at *
  obtain⟨ys,yn,yo,y1,y2⟩:=y
  have k7:=hr.2
  have l8:=a8.2
  dsimp only at hr F
  obtain⟨o6,f6,e6,rfl⟩:=O.shape
  have e0:=hr;refine Wpg @cs ?_;intro _ n2 Ma x1 x2 x3 Mb x4 x5 x6 Mc x7 x8 Md x9 n9 d8 n4 Me c8 o0 o8
  have ge:Grow M' Me:=xg
  have V9:=O.grow ge
  have a9:=a8.grow ge
  clear x1 x4 x6 x7 x9 d8
  refine zjd (by exact gd) (l':=[((m.length:Int),yn,yo,y1,y2)]) V9 rfl rfl rfl (by simp) (by rw[List.length_singleton,List.length_append];omega) rfl (zmc (p:=((m.length:Int),yn,yo,y1,y2)) c8) (fun _=>rfl) (fun _=>rfl) (by have:=B.le;have:=ge.le;omega) ?_
  intro v5 Mf Vf tf G
  have af:At Mf nO (.cells true [(.slice b8 L1 X Q),(.slice b9 L2 Y R),(.slice c0 L3 Z S),(.slice c5 L4 a0 U),.slice o6 (u++dn).length f6 e6] 94):=a9.keep G (fun⟨_,_,_,_,_,z⟩=>Vec.offW V9 a9 (by decide) z)
  have gf:Grow t Mf:=Keep.to_grow' (B.trans ge) G (fun i hi=>hi.1)
  clear c8 G
  obtain⟨o7,f7,e7,rfl⟩:=Vf.shape
  refine Wh ?_;intro Mg x15 d9 c9
  exact zi (c.length-(k+1)) (by omega) ⟨k+1,_,rfl,by omega,rfl,hz,gf.upd x15 (by omega),c9,by rw[F,<- List.append_assoc];exact Vec.updW Vf af (by decide) x15,fun H=>by rw[F] at H;simp at H⟩
end Go.Proofs.YtpgalhbplcanhaaGreatDoor.C
end
section
open Go PvL Go.Proofs
namespace Go.Proofs.YtpgalhbplcanhaaGreatDoor.C
variable {b hi kp i ed n8:Nat} {M M':Mem} {s:Sc} {ms:List Int} {w:Wt} {E:Env} {ad:Option (Nat × Nat)} {dg:List Bool} {e:Int} {fd:Bool}
def KpV (M:Mem)(kp b hi:Nat)(s:Sc)(ms:List Int)(w:Wt):Prop :=
 ∃ v1 v2 v3 v4 v5 v6,At M kp (.cells true ([v1,v2,v3,v4,v5]++wtc w++[v6]) 156)/\WnP b M v1 v2 v3 v4 v5 s/\Vec b 1 3 intc M v6 ms/\(ms=[]->v6=.slice none 0 true 0) /\ ∀ v∈[v1,v2,v3,v4,v5,v6],∀ i o n f e,v=.slice (some (i,o)) n f e->i<hi
theorem Vec.keepI {α:Type}{sz:Nat}{ty:TypeId}{enc:α->List LV}{v:LV}{l:List α}{F:Nat->Prop}(u:Vec b sz ty enc M v l)(t:Keep F M M')(p:∀ i,F i->i<b∨hi<=i)(c:∀ i o n f e,v=.slice (some (i,o)) n f e->i<hi):Vec b sz ty enc M' v l:=by
 rcases u with⟨rfl,rfl⟩|⟨i,rfl,h,m⟩
 ·exact .nil
 ·exact .inr ⟨i,rfl,h.keep t (fun r=>by have:=p i r;have:=c i _ _ _ _ rfl;omega),m⟩
theorem KpV.keep {F:Nat->Prop}(y:KpV M kp b hi s ms w)(h:Keep F M M')(o:∀ i,F i->i≠kp/\(i<b∨hi<=i)):KpV M' kp b hi s ms w:=by
 obtain⟨v1,v2,v3,v4,v5,v6,p,c,r,t,h5⟩:=y
 have m:=fun i hi=>(o i hi).2
 refine⟨v1,v2,v3,v4,v5,v6,p.keep h (fun u=>(o kp u).1 rfl),⟨Vec.keepI c.a1 h m (h5 _ (by simp)),Vec.keepI c.a2 h m (h5 _ (by simp)),Vec.keepI c.a3 h m (h5 _ (by simp)),Vec.keepI c.a4 h m (h5 _ (by simp)),Vec.keepI c.a5 h m (h5 _ (by simp)),c.z1,c.z2,c.z3,c.z4,c.z5⟩,Vec.keepI r h m (h5 _ (by simp)),t,h5⟩
theorem KpV.grow (m:KpV M kp b hi s ms w)(c:Grow M M'):KpV M' kp b hi s ms w:=m.keep (c.to_keep (fun _=>False)) (fun i h=>h.elim)
structure KpOk (s:Sc) (ms:List Int):Prop where
 e1:s.sh.length=ms.length
 e2:s.sr.length=ms.length
 e3:s.ey.length=ms.length
 e4:s.er.length=ms.length
 n1:ms.length<=64
 n2:s.sg.length<=32
 bd:∀ m ∈ ms,0<=m /\ m<=100
theorem zex (w:Wt)(M:Mem):zc Tryz.prog 14 [wtv w] M (fun r M'=>((∃ e:Int,e≠0/\r=.tup [.ptr none,I e]) ∨(WtOk w /\ ∃ kp,M.next<=kp/\r=.tup [.ptr (some (kp,0)),I 0]/\KpV M' kp M.next M.next ⟨[],[],[],[],[]⟩ [] w))/\Grow M M'):=by
 have t:=fun M'=>z7j w M'
 have p:wtv w=.agg [I w.zo,I w.sp,I w.ho,I w.pr,I w.de,I w.so,I w.pa]:=rfl
 unfold KpV
 obtain⟨X,N,G,J,F,L,H⟩:=w
 dsimp only at *
 refine zd Y14.2 rfl ?_
 delta Y14;refine un ?_
 refine Wlh @t ?_;intro V Q Y Z x3 r R B
 obtain⟨⟨e,rfl,y,_⟩,u⟩:=B
 have U:=u.le
 by_cases m:e=0
 ·subst m
  have p:=y rfl
  refine Wg ?_;intro _ D S O y2 y3
  refine kf ?_
  exact⟨.inr ⟨p,D,by omega,rfl,_,_,_,_,_,_,At.new_same O,⟨.nil,.nil,.nil,.nil,.nil,fun _=>rfl,fun _=>rfl,fun _=>rfl,fun _=>rfl,fun _=>rfl⟩,.nil,fun _=>rfl,by intro v C i o n f e c;subst c;simp at C⟩,xg⟩
 ·refine Wg ?_;intros
  refine kf ?_
  exact⟨.inl ⟨e,m,rfl⟩,xg⟩
theorem zg7 {x:XO}(c:xval E x=some (.ptr (some (b,0)))):zl Tryz.prog (.eqg false 60 x (.c (.ptr none))) E M=some (.val (.bool false) M):=by
 have e:eqV Tryz.prog 60 (.ptr (some (b,0))) (.ptr none)=some false:=by kernel_rfl
 show ob (xval E x) _=_
 rw[c,z8]
 show ob (xval E (.c _)) _=_
 rw[show xval E (.c (.ptr none))=some (.ptr none) from rfl,z8]
 show guard' true (ob (eqV Tryz.prog 60 (.ptr (some (b,0))) (.ptr none)) _)=_
 rw[e];rfl
theorem zra (J:KpV M kp b hi s ms w)(N:KpOk s ms) :
  zc Tryz.prog 17 [.ptr (some (kp,0))] M (fun r M'=>(Vec M.next 1 3 intc M' r ms/\(ms=[]->r=.slice none 0 true 0))/\Grow M M'):=by
 obtain⟨v1,v2,v3,v4,v5,v6,C,V,B,R,L⟩:=J
 have U:=N.n1
 have D:=fun M' (H:Grow M M')=>zjq (B.grow H) R (by omega)
 obtain⟨Q,y,o,t,m,u,p⟩:=w
 obtain⟨O,G,F,rfl⟩:=B.shape
 refine zd Y17.2 rfl ?_
 delta Y17;refine un ?_
 have C:At M kp (.cells true [v1,v2,v3,v4,v5,I Q,I y,I o,I t,I m,I u,I p,.slice O ms.length G F] 156):=C
 refine Wh ?_
 refine z35 (by exact gd) (zg7 rfl) ?_
 refine Wlh @D ?_;intro _ r S c
 refine kf ?_
 exact⟨⟨c.1,c.2.1⟩,c.2.2⟩
abbrev rl15:List (XG×XK):=[ (⟨(some 40),.mv (.t 0),none⟩,.calm),(⟨(some 41),.nilc (.t 40),none⟩,.calm),(⟨(some 42),.fad 5 (.t 41),none⟩,.calm),(⟨(some 43),.ldN 7 (.t 42),none⟩,.reads 0 0),(⟨(some 44),.ldN 5 (.t 7),none⟩,.reads 0 0),(⟨(some 45),.call (.c (.func (.func 56) [] [])) [(.t 43),(.t 44)],none⟩,.anchor),(⟨(some 39),.mv (.t 45),none⟩,.calm),(⟨(some 46),.ext 0 (.t 39),none⟩,.calm),(⟨(some 47),.ext 1 (.t 39),none⟩,.calm),(⟨(some 8),.new 160 [(.slice none 0 true 0),(.slice none 0 true 0),(.slice none 0 true 0),(.slice none 0 true 0),(.slice none 0 true 0),(.int .i64 0),(.int .i64 0),(.int .i64 0),(.int .i64 0),(.int .i64 0),(.int .i64 0),(.int .i64 0),(.slice none 0 true 0)],none⟩,.new),(⟨none,.st 13 (.t 8) (.t 46),none⟩,.anchor),(⟨(some 9),.mv (.t 47),none⟩,.calm)]
abbrev rd15:List Nat:=[0,1,3,7,0,31,63,127,127,0,767,2047]
section
variable {E:Env} {M:Mem} {x:XO} {v:LV} {a:Nat × Nat}
theorem zes (c:xval E x=some v):zl Tryz.prog (.mv x) E M=some (.val v M):=by
 show ob (xval E x) _=_
 rw[c];rfl
theorem ztj (c:xval E x=some (.ptr (some a))):zl Tryz.prog (.nilc x) E M=some (.val (.ptr (some a)) M):=by
 show ob (xval E x) _=_
 rw[c];rfl
theorem zth {o k:Nat}(c:xval E x=some (.ptr (some (i,o)))):zl Tryz.prog (.fad k x) E M=some (.val (.ptr (some (i,o+k))) M):=by
 show ob (xval E x) _=_
 rw[c];rfl
theorem zcq {vs:List LV}{u:LV}(h:xval E x=some (.tup vs))(c:nth vs i=some u):zl Tryz.prog (.ext i x) E M=some (.val u M):=by
 show ob (xval E x) _=_
 rw[h,z8]
 show ob (nth vs i) _=_
 rw[c];rfl
end
structure In15 (E:Env) (kp n7:Nat) (v3 v6:LV):Prop where
 l0:PvL.look E 0=some (.ptr (some (kp,0)))
 l3:PvL.look E 3=some v3
 l6:PvL.look E 6=some v6
 l7:PvL.look E 7=some (.ptr (some (n7,0)))
def LgF (A:ScA)(s:Sc)(w:Wt)(M:Mem)(ad:Option (Nat×Nat))(dg:List Bool)(ed:Nat)(e:Int):Prop:=e=0->WtOk w/\ScOk s/\dg.length=s.sh.length/\SlA1 blv M ad dg/\(dg≠[]->ed=1)
theorem LgF.grow {A:ScA}(q:LgF A s w M ad dg ed e)(h:Grow M M'):LgF A s w M' ad dg ed e:=fun c=>let ⟨m,o,p,r,t⟩:=q c;⟨m,o,p,r.grow h,t⟩
theorem LgF.upd {A:ScA}{n:Nat}{own:Bool}{cs:List LV}{ty:TypeId}{lb:LB}(q:LgF A s w M ad dg ed e)(m:At M n (.cells own cs ty))(h:∀ c∈cs,∀ b,c≠.bool b)(p:Upd M n lb M'):LgF A s w M' ad dg ed e:=fun o=>let ⟨r,t,u,y,B⟩:=q o;⟨r,t,u,y.updw m h p,B⟩
abbrev zz15:List LV:=[.slice none 0 true 0,.slice none 0 true 0,.slice none 0 true 0,.slice none 0 true 0,.slice none 0 true 0,I 0,I 0,I 0,I 0,I 0,I 0,I 0,.slice none 0 true 0]
section
variable {A:ScA} {s:Sc} {w:Wt} {M:Mem} {K:Env->Mem->Prop} {kp n7:Nat} {v3 v6:LV}
abbrev KE15 (A:ScA)(s:Sc)(w:Wt)(M:Mem)(K:Env->Mem->Prop)(kp n7:Nat)(v3 v6:LV):Prop :=
 ∀(E:Env) (M':Mem) (n8:Nat) (ad:Option (Nat×Nat)) (dg:List Bool) (fd:Bool) (ed:Nat) (e:Int),In15 E kp n7 v3 v6->PvL.look E 8=some (.ptr (some (n8,0)))->PvL.look E 9=some (I e)->Grow M M'->M.next<=n8->At M' n8 (.cells true (lgc A s w ad dg.length fd ed) 160)->LgF A s w M' ad dg ed e->K E M'
set_option maxHeartbeats 4000000 in
theorem zqd {q:Nat}(r:PvL.look E 8=some (.ptr (some (n8,0))))(m:PvL.look E 46=some (.agg (lgc A s w ad dg.length fd ed)))(g:Grow M M')(C:M.next<=n8)(o:At M' n8 (.cells true zz15 160))(t:LgF A s w M' ad dg ed e)(B:∀ h,Grow M h->At h n8 (.cells true (lgc A s w ad dg.length fd ed) 160)->LgF A s w h ad dg ed e->XQ Tryz.prog 109 rl15 rd15 (Nat.lor q (2^i)) E h K):XT Tryz.prog 109 rl15 rd15 q i ⟨none,.st 13 (.t 8) (.t 46),none⟩ E M' K:=by
 have p:Upd M' n8 (.cells true (lgc A s w ad dg.length fd ed) 160) (M'.upd n8 (some (.cells true (lgc A s w ad dg.length fd ed) 160))):=⟨rfl⟩
 refine zqv (by exact gd) (ztp (x:=.t 46) (v:=.agg (lgc A s w ad dg.length fd ed)) (cs:=zz15) r m o rfl rfl rfl) ⟨rfl,rfl⟩ ?_
 exact B _ (g.upd p C) (At.upd_same p o) (t.upd o (by intro c y b u;subst u;simp at y) p)
set_option maxHeartbeats 16000000 in
theorem zvh (B:KE15 A s w M K kp n7 v3 v6)(y:In15 E kp n7 v3 v6)(h:PvL.look E 8=some (.ptr (some (n8,0))))(c:PvL.look E 45=some (.tup [.agg (lgc A s w ad dg.length fd ed),I e]))(g:Grow M M')(p:M.next<=n8)(o:At M' n8 (.cells true zz15 160))(m:LgF A s w M' ad dg ed e) :
  XQ Tryz.prog 109 rl15 rd15 575 E M' K:=by
 obtain⟨D,F,G,H⟩:=y
 repeat' (first
  |(refine zqr (by decide) ?_;exact B _ _ n8 ad dg fd ed e ⟨D,F,G,H⟩ h rfl ‹_› p ‹At _ n8 (.cells true (lgc A s w ad dg.length fd ed) _)› ‹_›)
  |(refine zaa (by decide) ⟨?_,?_,?_,?_,?_,?_,?_,?_,?_,?_,?_,?_,trivial⟩<;>intro r<;>first|exact absurd r (by decide)|clear r)
  | refine z2l (by exact gd) (zes c) ?_
  | refine z2l (by exact gd) (zcq (x:=.t 39) (u:=.agg (lgc A s w ad dg.length fd ed)) rfl rfl) ?_
  | refine z2l (by exact gd) (zcq (x:=.t 39) (u:=I e) rfl rfl) ?_
  | refine z2l (by exact gd) (zes (x:=.t 47) (v:=I e) rfl) ?_
  |(refine zqd (n8:=n8) (e:=e) h rfl g p o m ?_;intro t J L C;clear o m g))
theorem zg8:zl Tryz.prog (.new 160 zz15) E M=some (.val (.ptr (some (M.next,0))) (M.push (.cells true zz15 160))):=zhq rfl
set_option maxHeartbeats 16000000 in
theorem zxp (y:KE15 A s w M K kp n7 v3 v6)(t:In15 E kp n7 v3 v6)(c:PvL.look E 45=some (.tup [.agg (lgc A s w ad dg.length fd ed),I e]))(g:Grow M M')(B:LgF A s w M' ad dg ed e) :
  XQ Tryz.prog 109 rl15 rd15 63 E M' K:=by
 have p:New M' M'.next (.cells true zz15 160) (M'.push (.cells true zz15 160)):=⟨rfl,rfl⟩
 have o:Grow M (M'.push (.cells true zz15 160)):=g.trans p.grow
 have m:=At.new_same p
 have h:=B.grow p.grow
 have r:M.next<=M'.next:=g.le
 generalize O:M'.push (.cells true zz15 160)=Q at *
 have L:=t
 obtain⟨D,F,G,H⟩:=t
 repeat' (first
  |(refine zqr (by decide) ?_;exact y _ _ M'.next ad dg fd ed e ⟨D,F,G,H⟩ rfl rfl ‹_› r ‹At _ M'.next (.cells true (lgc A s w ad dg.length fd ed) _)› ‹_›)
  | exact zvh (E:=(8,.ptr (some (M'.next,0)))::E) y ⟨D,F,G,H⟩ rfl c o r m h
  |(refine zaa (by decide) ⟨?_,?_,?_,?_,?_,?_,?_,?_,?_,?_,?_,?_,trivial⟩<;>intro C<;>first|exact absurd C (by decide)|clear C)
  | refine z2l (by exact gd) (zes c) ?_
  | refine z2l (by exact gd) (zcq (x:=.t 39) (u:=.agg (lgc A s w ad dg.length fd ed)) rfl rfl) ?_
  | refine z2l (by exact gd) (zcq (x:=.t 39) (u:=I e) rfl rfl) ?_
  | refine z2l (by exact gd) (zes (x:=.t 47) (v:=I e) rfl) ?_
  |(refine z2l (by exact gd) zg8 ?_;rw[O])
  |(refine zqd (n8:=M'.next) (e:=e) rfl rfl o r m h ?_;intro J R S N;clear m h o g B))
set_option maxHeartbeats 64000000 in
theorem r15 {Z c2 c3 c4 c5 c6:LV}(J:KE15 A s w M K kp n7 v3 v6)(H:In15 E kp n7 v3 v6)(ha:At M kp (.cells true [Z,c2,c3,c4,c5,I w.zo,I w.sp,I w.ho,I w.pr,I w.de,I w.so,I w.pa,c6] 156))(h7:At M n7 (.cells true (scc A s) 94))(L:ScM M A s)(O:OcM M) :
  XQ Tryz.prog 109 rl15 rd15 0 E M K:=by
 have N:New M M.next (.cells true zz15 160) (M.push (.cells true zz15 160)):=⟨rfl,rfl⟩
 have Y:=At.new_same N
 have u:=N.grow
 have m:Rd M kp (0+5) 7 (wtc w):=Rd.of_at ha rfl
 have R:Rd M n7 0 5 (scc A s):=Rd.of_at h7 rfl
 have B:=m.grow u
 have C:=R.grow u
 have cc:=zjz w L O
 have cN:=zjz w (L.grow u) (O.grow u)
 generalize Q:M.push (.cells true zz15 160)=X at *
 have a0:=H
 obtain⟨D,S,U,F⟩:=H
 have G:∀ h:Env,In15 h kp n7 v3 v6->PvL.look h 8=some (.ptr (some (M.next,0)))->PvL.look h 43=some (wtv w)->PvL.look h 44=some (scv A s)->XQ Tryz.prog 109 rl15 rd15 543 h X K:=by
  intro h c h8 p t
  (refine zaa (by decide) ⟨?_,?_,?_,?_,?_,?_,?_,?_,?_,?_,?_,?_,trivial⟩<;>intro m<;>first|exact absurd m (by decide)|clear m)
  refine zhs (by exact gd) rfl (show z0i h [.t 43,.t 44]=some [wtv w,scv A s] by show ob (PvL.look h 43) _=_;rw[p,z8];show ob (ob (PvL.look h 44) _) _=_;rw[t];rfl) cN ?_
  rintro r V ⟨⟨ad,dg,fd,ed,e,rfl,y⟩,g6⟩
  exact zvh (E:=(45,_)::h) J ⟨c.l0,c.l3,c.l6,c.l7⟩ h8 rfl (u.trans g6) (Nat.le_refl _) (Y.grow g6) y
 have hB:∀ h:Env,In15 h kp n7 v3 v6->PvL.look h 43=some (wtv w)->PvL.look h 44=some (scv A s)->XQ Tryz.prog 109 rl15 rd15 31 h M K:=by
  intro h c p t
  (refine zaa (by decide) ⟨?_,?_,?_,?_,?_,?_,?_,?_,?_,?_,?_,?_,trivial⟩<;>intro m<;>first|exact absurd m (by decide)|clear m)
  ·refine zhs (by exact gd) rfl (show z0i h [.t 43,.t 44]=some [wtv w,scv A s] by show ob (PvL.look h 43) _=_;rw[p,z8];show ob (ob (PvL.look h 44) _) _=_;rw[t];rfl) cc ?_
   rintro r V ⟨⟨ad,dg,fd,ed,e,rfl,y⟩,g6⟩
   exact zxp (E:=(45,_)::h) J ⟨c.l0,c.l3,c.l6,c.l7⟩ rfl g6 y
  ·refine z2l (by exact gd) zg8 ?_
   rw[Q]
   exact G ((8,_)::h) ⟨c.l0,c.l3,c.l6,c.l7⟩ rfl p t
 repeat' (first
  | exact G _ ⟨D,S,U,F⟩ rfl rfl rfl
  | exact hB _ ⟨D,S,U,F⟩ rfl rfl
  |(refine zaa (by decide) ⟨?_,?_,?_,?_,?_,?_,?_,?_,?_,?_,?_,?_,trivial⟩<;>intro m<;>first|exact absurd m (by decide)|clear m)
  | refine z2l (by exact gd) (zes (v:=.ptr (some (kp,0))) D) ?_
  | refine z2l (by exact gd) (ztj (x:=.t 40) (a:=(kp,0)) rfl) ?_
  | refine z2l (by exact gd) (zth (x:=.t 41) (i:=kp) (o:=0) (k:=5) rfl) ?_
  | refine z2l (by exact gd) (zer (a:=.t 42) (i:=kp) (o:=0+5) rfl (by first|exact m|exact B)) ?_
  | refine z2l (by exact gd) (zer (a:=.t 7) (i:=n7) (o:=0) F (by first|exact R|exact C)) ?_
  |(refine z2l (by exact gd) zg8 ?_;rw[Q]))
end
end Go.Proofs.YtpgalhbplcanhaaGreatDoor.C
end
section
open Go PvL Go.Proofs
variable {μ:Md}
namespace Go.Proofs.YtpgalhbplcanhaaGreatDoor.C
variable {b kp hi:Nat} {M:Mem} {v1 v2 v3 v4 v5:LV}
section
variable {α:Type} {b q:Nat} {ty:TypeId} {enc:α->List LV} {M:Mem} {v:LV} {l l':List α} {P:Program} [Orc P] {sz:Nat} {E:Env} {K:Env->Mem->Prop} {ll:List XG} {d:Nat} {g:Option (Nat × Bool)} {s x:XO} {st:List Mem} {k:Nat} {xs:List (Nat × Nat × (Mem->Prop))} {ld:List (XG × XK)} {by':Nat} {z:List LV} {xv:LV}
theorem Vec.appNW (h:Vec b q ty enc M v l)(C:xval E s=some v)(F:xval E x=some xv)(B:z0x xv=some l'.length)(r:0<l'.length)(u:(2*(l.length+l'.length)+2048)*by'<=140737488355328)(hz:(Nat.ble 1 q&&(Nat.ble 1 by'&&Nat.beq z.length q))=true)(D:zz q l'.length xv M=some (l'.flatMap enc))(c:∀ x,(enc x).length=q)(p:∀ x,zn (enc x)=true) :
  ∃ v' M',zl P (.app ty q by' z s x) E M=some (.val v' M')/\Vec M.next q ty enc M' v' (l++l')/\M'.next=M.next+1/\Keep (fun i=>b<=i /\ ∃ o n f e,v=.slice (some (i,o)) n f e) M M':=by
 have y:=z0j (l:=l') (enc:=enc) (fun x _=>p x)
 rcases h with⟨rfl,rfl⟩|⟨i,rfl,t,G⟩
 ·refine⟨_,_,z3t C F B r (by simpa using u) hz rfl D y (.inl rfl),.inr ⟨M.next,?_,?_,Nat.le_refl _⟩,rfl,?_⟩
  ·rw[List.nil_append,Nat.zero_add]
  ·rw[List.nil_append,List.nil_append];exact⟨by rw[Mem.get_push,if_pos rfl],Nat.lt_succ_self _⟩
  ·have H:New M M.next (.cells true ([]++l'.flatMap enc) (apE ty)) (M.push (.cells true ([]++l'.flatMap enc) (apE ty))):=⟨rfl,rfl⟩
   exact H.grow.to_keep _
 ·have L:zz q l.length (.slice (some (i,0)) l.length false q) M=some (l.flatMap enc):=by
   rw[z2g t (by rw[z17 (fun x _=>c x)];omega),List.drop_zero,List.take_of_length_le (by rw[z17 (fun x _=>c x)];omega)]
  have m:Kill M i M.next (.cells true (l.flatMap enc++l'.flatMap enc) (apE ty)) ((M.upd i none).push (.cells true (l.flatMap enc++l'.flatMap enc) (apE ty))):=⟨rfl,rfl⟩
  refine⟨_,_,z4g C F B r u hz L D y t (by rw[show Nat.beq (apE ty) (apE ty)=true by simp,Bool.or_true]),.inr ⟨M.next,by rw[List.length_append],?_,Nat.le_refl _⟩,m.next,m.keep.weaken fun j J=>?_⟩
  ·rw[List.flatMap_append];exact m.same
  ·subst J;exact⟨G,_,_,_,_,rfl⟩
theorem z62 (B:GOn E g)(G:Vec b q ty enc M v l)(F:xval E s=some v)(J:xval E x=some xv)(D:z0x xv=some l'.length)(m:0<l'.length)(y:(2*(l.length+l'.length)+2048)*by'<=140737488355328)(hz:(Nat.ble 1 q&&(Nat.ble 1 by'&&Nat.beq z.length q))=true)(H:zz q l'.length xv M=some (l'.flatMap enc))(c:∀ x,(enc x).length=q)(h:∀ x,zn (enc x)=true)(C:∀ v' M',Vec M.next q ty enc M' v' (l++l')->M'.next=M.next+1->Keep (fun i=>b<=i /\ ∃ o n f e,v=.slice (some (i,o)) n f e) M M'->XW μ P sz ll ((d,v')::E) M' K):XW μ P sz (⟨some d,.app ty q by' z s x,g⟩::ll) E M K:=by
 obtain⟨v',M',p,r,t,u⟩:=Vec.appNW (P:=P) G F J D m y hz H c h
 exact zg2 B p (C v' M' r t u)
end
theorem WnP.sc {s:Sc}(h1:WnP b M v1 v2 v3 v4 v5 s)(n1:s.sh.length<=100000000000000)(n2:s.sr.length<=100000000000000)(n3:s.ey.length<=100000000000000)(n4:s.er.length<=100000000000000)(n5:s.sg.length<=100000000000000)(J:∀ x∈s.sg,x.2.1.size<=1000000000000000) :
  ∃ A:ScA,ScM M A s/\v1=.slice A.as' s.sh.length A.fs' A.es'/\v2=.slice A.ar s.sr.length A.fr A.er/\v3=.slice A.ae s.ey.length A.fe A.ee/\v4=.slice A.ah s.er.length A.fh A.eh/\v5=.slice A.ag s.sg.length A.fg A.eg:=by
 obtain⟨c,C,r,V,O⟩:=h1.a1.rd (fun _ _=>rfl)
 obtain⟨h,D,t,X,Q⟩:=h1.a2.rd (fun _ _=>rfl)
 obtain⟨m,F,u,Y,R,L⟩:=BlV.vec h1.a3
 obtain⟨o,G,y,Z,S,N⟩:=BlV.vec h1.a4
 obtain⟨p,H,B,r5,U⟩:=h1.a5.rd (fun _ _=>rfl)
 exact⟨⟨c,C,r,h,D,t,m,F,u,o,G,y,p,H,B⟩,⟨O,Q,R,S,U,by omega,by omega,by omega,by omega,by omega,J,L,N⟩,V,X,Y,Z,r5⟩
theorem Vec.ltW {α:Type}{sz:Nat}{ty:TypeId}{enc:α->List LV}{v:LV}{l:List α}(m:Vec b sz ty enc M v l):∀ i o n f e,v=.slice (some (i,o)) n f e->i<M.next:=by
 intro i o n f e c
 rcases m with⟨rfl,rfl⟩|⟨j,rfl,h,p⟩
 ·cases c
 ·cases c;exact h.2
theorem zq8 {B t C u Mv p:Mem}{r nn:Nat}{v6 v':LV}{s':Sc}{ms:List Int}{m:Int}{cs D:List LV}{G H J:LB}(h:WnP r B v1 v2 v3 v4 v5 s')(c:M.next<=r)(gX:Grow M t)(g:Grow B t)(ak:At t kp (.cells true cs 156))(u1:Upd t kp G C)(x1:New C nn H u)(hV:Vec u.next 1 3 intc Mv v' (ms++[m]))(kV:Keep (fun i=>b<=i /\ ∃ o n f e,v6=.slice (some (i,o)) n f e) u Mv)(X:∀ i o n f e,v6=.slice (some (i,o)) n f e->i<M.next/\i<hi)(Y:At Mv kp (.cells true D 156))(L:Upd Mv kp J p)(F:r<=u.next) :
  WnP M.next p v1 v2 v3 v4 v5 s'/\Vec M.next 1 3 intc p v' (ms++[m])/\(∀ v∈[v1,v2,v3,v4,v5,v'],∀ i o n f e,v=.slice (some (i,o)) n f e->i<p.next)/\Keep (fun i=>i=kp ∨(b<=i/\i<hi)) M p:=by
 have hF:∀ i,(b<=i /\ ∃ o n f e,v6=.slice (some (i,o)) n f e)->i<r:=fun i ⟨_,_,_,_,_,q⟩=>Nat.lt_of_lt_of_le (X _ _ _ _ _ q).1 c
 have R:∀ {α:Type} {sz:Nat} {ty:TypeId} {enc:α->List LV} {v:LV} {l:List α},Vec r sz ty enc B v l->apE ty≠156->Vec M.next sz ty enc p v l:=fun y Z=>Vec.lowW (Vec.updW (((Vec.updW (y.grow g) ak Z u1).grow x1.grow).keep kV hF) Y Z L) c
 have N:=R h.a1 (by decide)
 have O:=R h.a2 (by decide)
 have Q:=R h.a3 (by decide)
 have S:=R h.a4 (by decide)
 have U:=R h.a5 (by decide)
 have V:Vec M.next 1 3 intc p v' (ms++[m]):=Vec.lowW (Vec.updW hV Y (by decide) L) (Nat.le_trans c F)
 refine⟨⟨N,O,Q,S,U,h.z1,h.z2,h.z3,h.z4,h.z5⟩,V,?_,?_⟩
 ·intro v y
  simp only[List.mem_cons,List.not_mem_nil,or_false] at y
  rcases y with rfl|rfl|rfl|rfl|rfl|rfl
  ·exact Vec.ltW N
  ·exact Vec.ltW O
  ·exact Vec.ltW Q
  ·exact Vec.ltW S
  ·exact Vec.ltW U
  ·exact Vec.ltW V
 ·have q1:Keep (fun i=>i=kp ∨(b<=i/\i<hi)) M C:=(gX.to_keep _).upd u1 (.inl (.inl rfl))
  have q2:=q1.grow x1.grow
  have q3:=q2.trans kV (fun i hi=>.inl (.inr ⟨hi.1,by obtain⟨_,_,_,_,_,q⟩:=hi;exact(X _ _ _ _ _ q).2⟩))
  exact q3.upd L (.inl (.inl rfl))
abbrev FsM (M:Mem):Prop:=Rd M 0 0 2 [I 0,I (-1)]
set_option maxHeartbeats 16000000 in
theorem zws {s:Sc}{ms:List Int}{w:Wt}{x:Lk}{ag:Option (Nat×Nat)}{fg:Bool}{eg:Nat}(hk:KpV M kp b hi s ms w)(ho:KpOk s ms)(hw:WtOk w)(hO:OcM M)(hF:FsM M)(d4:∀ y∈s.sg,y.2.1.size<=1000000000000000)(hx:SlA 5 sgc M ag x.gs)(b5:x.gs.length*48<=140737488351232)(b6:∀ y∈x.gs,y.2.1.size<=1000000000000000) :
  CallN Tryz.prog 15 [.ptr (some (kp,0)),.agg (lkc x ag fg eg)] M (fun r M'=>∃ m e:Int,r=.tup [I m,I e]/\((e≠0/\KpV M' kp b hi s ms w/\Grow M M') ∨(e=0 /\ ∃ u,KpV M' kp M.next M'.next u (ms++[m]) w/\KpOk u (ms++[m])/\(∀ y∈u.sg,y.2.1.size<=1000000000000000)/\Keep (fun i=>i=kp ∨(b<=i/\i<hi)) M M'))):=by
 have b2:=hk
 obtain⟨v1,v2,v3,v4,v5,v6,ha,G,h6,z6,d3⟩:=hk
 obtain⟨k1,k2,k3,k4,k5,k6,k7⟩:=ho
 have h0:=hw.so
 have f9:=ha.2
 obtain⟨o1,f1,e1,r1⟩:=G.a1.shape
 obtain⟨o2,f2,e2,r2⟩:=G.a2.shape
 obtain⟨o3,f3,e3,r3⟩:=G.a3.shape
 obtain⟨o4,f4,e4,r4⟩:=G.a4.shape
 obtain⟨o5,f5,e5,r5⟩:=G.a5.shape
 obtain⟨o6,f6,e6,rfl⟩:=h6.shape
 have H:∃ u:Sc,(∀ M',Grow M M'->zc Tryz.prog 55 [.agg [v1,v2,v3,v4,v5],.agg (lkc x ag fg eg)] M' (fun r p=>(∃ V w2 X w4 w5,r=.agg [V,w2,X,w4,w5]/\WnP M'.next p V w2 X w4 w5 u)/\Grow M' p))/\u.sh.length=ms.length+1/\u.sr.length=ms.length+1/\u.ey.length=ms.length+1/\u.er.length=ms.length+1/\u.sg.length<=3000000000000 /\ ∀ y∈u.sg,y.2.1.size<=1000000000000000:=by
  refine⟨⟨s.sh++[x.r],s.sr++[x.q],s.ey++[x.e],s.er++[x.a],s.sg++x.gs.map (fun y=>((s.sh.length:Int),y.2))⟩,fun M' J=>zro (x:=x) (ag:=ag) (fg:=fg) (eg:=eg) (⟨G.a1.grow J,G.a2.grow J,G.a3.grow J,G.a4.grow J,G.a5.grow J,G.z1,G.z2,G.z3,G.z4,G.z5⟩:WnP b M' v1 v2 v3 v4 v5 s) (by omega) (by omega) (by omega) (by omega) (by omega) (hx.grow J) b5,?_,?_,?_,?_,?_,?_⟩
  ·simp[k1]
  ·simp[k2]
  ·simp[k3]
  ·simp[k4]
  ·simp only[List.length_append,List.length_map];omega
  ·intro y hy
   rcases List.mem_append.1 hy with hy|hy
   ·exact d4 y hy
   ·obtain⟨y',d7,rfl⟩:=List.mem_map.1 hy
    exact b6 y' d7
 obtain⟨u,H,n1,n2,n3,n4,n5,a4⟩:=H
 clear b6 hx b5
 subst r1 r2 r3 r4 r5
 have cs:∀ p,zc Tryz.prog 54 [.agg [.slice o1 s.sh.length f1 e1,.slice o2 s.sr.length f2 e2,.slice o3 s.ey.length f3 e3,.slice o4 s.er.length f4 e4,.slice o5 s.sg.length f5 e5]] p (fun w N=>w=I s.sh.length/\Grow p N):=fun p=>z8p ⟨o1,f1,e1,o2,f2,e2,o3,f3,e3,o4,f4,e4,o5,f5,e5⟩ s p
 obtain⟨⟨⟨p1,p2⟩,⟨p3,p4⟩,⟨p5,p6⟩,p7,p8⟩,⟨⟨q1,q2⟩,⟨q3,q4⟩,⟨q5,q6⟩,q7,q8⟩,xe,xa,zs,xf⟩:=x
 have H:∀ M',Grow M M'->zc Tryz.prog 55 [.agg [.slice o1 s.sh.length f1 e1,.slice o2 s.sr.length f2 e2,.slice o3 s.ey.length f3 e3,.slice o4 s.er.length f4 e4,.slice o5 s.sg.length f5 e5],.agg [I p1,I p2,I p3,I p4,I p5,I p6,I p7,I p8,I q1,I q2,I q3,I q4,I q5,I q6,I q7,I q8,blv xe,blv xa,.slice ag zs.length fg eg,blv xf]] M' (fun r p=>(∃ V w2 X w4 w5,r=.agg [V,w2,X,w4,w5]/\WnP M'.next p V w2 X w4 w5 u)/\Grow M' p):=H
 show CallN Tryz.prog 15 [.ptr (some (kp,0)),.agg [I p1,I p2,I p3,I p4,I p5,I p6,I p7,I p8,I q1,I q2,I q3,I q4,I q5,I q6,I q7,I q8,blv xe,blv xa,.slice ag zs.length fg eg,blv xf]] M _
 have ha:At M kp (.cells true [.slice o1 s.sh.length f1 e1,.slice o2 s.sr.length f2 e2,.slice o3 s.ey.length f3 e3,.slice o4 s.er.length f4 e4,.slice o5 s.sg.length f5 e5,I w.zo,I w.sp,I w.ho,I w.pr,I w.de,I w.so,I w.pa,.slice o6 ms.length f6 e6] 156):=ha
 refine z1z k15 rfl ?_
 delta x15;refine un ?_;dsimp only[List.map]
 obtain⟨c2,b0⟩:∃ c,c=XC.draw [ (⟨(some 40),.mv (.t 0),none⟩,.calm),(⟨(some 41),.nilc (.t 40),none⟩,.calm),(⟨(some 42),.fad 5 (.t 41),none⟩,.calm),(⟨(some 43),.ldN 7 (.t 42),none⟩,.reads 0 0),(⟨(some 44),.ldN 5 (.t 7),none⟩,.reads 0 0),(⟨(some 45),.call (.c (.func (.func 56) [] [])) [(.t 43),(.t 44)],none⟩,.anchor),(⟨(some 39),.mv (.t 45),none⟩,.calm),(⟨(some 46),.ext 0 (.t 39),none⟩,.calm),(⟨(some 47),.ext 1 (.t 39),none⟩,.calm),(⟨(some 8),.new 160 [(.slice none 0 true 0),(.slice none 0 true 0),(.slice none 0 true 0),(.slice none 0 true 0),(.slice none 0 true 0),(.int .i64 0),(.int .i64 0),(.int .i64 0),(.int .i64 0),(.int .i64 0),(.int .i64 0),(.int .i64 0),(.slice none 0 true 0)],none⟩,.new),(⟨none,.st 13 (.t 8) (.t 46),none⟩,.anchor),(⟨(some 9),.mv (.t 47),none⟩,.calm)] [0,1,3,7,0,31,63,127,127,0,767,2047]:=⟨_,rfl⟩
 rw[<-b0]
 refine Wh ?_;intros
 refine z35 (by exact gd) (zg7 rfl) ?_
 repeat' first|with_reducible intro _|refine sv ?_|((with_reducible first|apply zw|apply zx|apply zm);exact gd;exact rfl;exact rfl;(first|exact cs _))|refine ss ?_ ?_<;>(intro h;first|exact sz h|refine sy h ?_)|exact sq|fail
 ·refine kf ?_
  exact⟨0,3,rfl,.inl ⟨by decide,b2.grow (xg),xg⟩⟩
 rename_i nb M1 U y2 y3 i6 M2 y4 y5
 have a9:Grow M M2/\True:=⟨xg,trivial⟩
 refine zp (by exact gd) rfl rfl (show AppOk Tryz.prog _ _ M2 _ from H M2 a9.1) ?_
 rintro r M3 ⟨⟨V,w2,X,w4,w5,rfl,hW⟩,g3⟩
 have d0:At M3 nb (.cells true [I p1,I p2,I p3,I p4,I p5,I p6,I p7,I p8,I q1,I q2,I q3,I q4,I q5,I q6,I q7,I q8,blv xe,blv xa,.slice ag zs.length fg eg,blv xf] 68):=xm
 obtain⟨A,hA,rfl,rfl,rfl,rfl,rfl⟩:=hW.sc (by omega) (by omega) (by omega) (by omega) (by omega) a4
 have l3:=g3.le
 refine Wh ?_;intro n7 M4 y6 y7 y8 M5 y9 i5 c1
 have l5:M5.next=M3.next+1:=by omega
 have Q:Grow M3 M5:=xg
 have O:Grow M M5:=xg
 clear U y4 y6 y9 a9
 have a2:=ha.grow O
 rw[b0]
 refine zt8 mix ?_
 refine r15 (A:=A) (s:=u) (w:=w) (kp:=kp) (n7:=n7) (v3:=.ptr (some (nb,0))) (v6:=I s.sh.length) ?_ ⟨rfl,rfl,rfl,rfl⟩ a2 c1 (hA.grow Q) (hO.grow O)
 intro E6 M6 n8 ad dg fd ed e c9 h8 h9 g6 g5 a8 hL
 obtain⟨z0,z3,e0,z7⟩:=c9
 have i3:M3.next=n7:=y7.symm
 have i4:M.next=nb:=y2.symm
 have a7:=c1.grow g6
 have ab:=d0.grow (Q.trans g6)
 have f0:=hO.grow (O.trans g6)
 have a6:=hA.grow (Q.trans g6)
 have C:Grow M M6:=O.trans g6
 have ak:=a2.grow g6
 have e9:FsM M6:=hF.grow C
 have l6:=g6.le
 have h1:=O.le
 clear hA a2 H cs
 apply z42
 refine z06 (.cons z0 (.cons z3 (.cons e0 (.cons z7 (.cons h8 (.cons h9 .nil)))))) ?_
 by_cases he:e=0
 rotate_left
 ·refine Wg ?_;intros
  refine kf ?_
  exact⟨0,e,rfl,.inl ⟨he,b2.grow C,C⟩⟩
 obtain⟨-,Y,b1,hD,d2⟩:=hL he
 subst he
 refine Wg ?_;intro _ c0 Ma x1 x2 x3 Mb x4 x5 x6
 have gb:Grow M6 Mb:=xg
 have l8:=a8.2
 have l9:=ak.2
 have g2:=Y.n2
 have b4:=Y.sg
 clear x1 x4
 refine zg (fun z E b9 M'=>∃(k:Nat) (q:Int×Int),z=ms.length-k/\k<=ms.length/\b9=[]/\(0<=q.1/\q.1<=100 /\ -1<=q.2/\q.2<=100)/\Has E [(0,.ptr (some (kp,0))),(3,.ptr (some (nb,0))),(6,I s.sh.length),(7,.ptr (some (n7,0))),(8,.ptr (some (n8,0))),(10,.ptr (some (c0,0))),(55,.slice o6 ms.length f6 e6),(56,I ms.length),(57,I k)]/\Grow M6 M'/\At M' c0 (.cells true [I q.1,I q.2] 164))
  ?_ ms.length _ _ _ ⟨0,(0,-1),rfl,by omega,rfl,by decide,hz,gb,x6⟩
 rintro z E b9 M' ⟨k,q,rfl,hk,rfl,hq,hE,B,ac⟩
 refine z06 hE ?_
 obtain⟨Z,qq⟩:=q
 dsimp only at hq ac
 have lc:=B.le
 by_cases b3:k=ms.length
 rotate_left
 ·have hr:∃ i,o6=some (i,0)/\Rd1 M' i (0+k*1) (I (ms[k]'(by omega))):=by
   rcases h6 with⟨D,_⟩|⟨i,d6,d1,_⟩
   ·exact absurd D (by intro D;subst D;exact b3 (Nat.le_zero.1 hk))
   ·cases d6
    exact⟨i,rfl,z9y (z18 (enc:=intc) (d1.grow (C.trans B)) (fun _ _=>rfl) (by omega))⟩
  obtain⟨i,rfl,hr⟩:=hr
  have g9:=hr.2
  have g1:=k7 _ (List.getElem_mem (l:=ms) (n:=k) (by omega))
  generalize ms[k]=mk at *
  have ca:=fun p (J:Grow M' p)=>zrb ((a6.grow B).grow J) Y hw ((hD.grow B).grow J) b1 (fd:=fd) (ed:=ed) (t:=k) (by omega) (Z,qq) (by dsimp only;omega) mk
  have a3:∀ r:Int×Int,r=aftF w u dg k (Z,qq) mk->r.1=mk /\ -1<=r.2/\r.2<=100:=by
   intro r hr
   subst hr
   have g7:=hw.pa
   unfold aftF qtF
   dsimp only
   split
   ·dsimp only;omega
   ·dsimp only
    refine⟨rfl,?_⟩
    repeat' split
    all_goals omega
  generalize aftF w u dg k (Z,qq) mk=r at *
  obtain⟨r1,r2⟩:=r
  have a3:=a3 _ rfl
  dsimp only at a3
  have c4:=a8.grow B
  have h2:=c4.2
  have h3:=ac.2
  have e8:=hr;refine Wpg @ca ?_;intro _ Md S u2 Me u3 u4 u5
  exact zi (ms.length-(k+1)) (by omega) ⟨k+1,(r1,r2),rfl,by omega,rfl,by dsimp only;omega,hz,(B.trans S).upd u3 (by omega),u5⟩
 subst b3
 have cf:=fun p=>zjy (A:=A) (s:=u) (dg:=dg) (ad:=ad) (fd:=fd) (ed:=ed) p hw
 have cb:=fun m D p (J:Grow M' p)=>zn9 ((a6.grow B).grow J) Y hw ((hD.grow B).grow J) d2 b1 (fd:=fd) (ed:=ed) (t:=s.sh.length) (by omega) (Z,qq) m D
 have c5:=cb (w.so+1) (by omega)
 have c7:=cb (Z+1) (by omega)
 have c8:=cb 1 (by omega)
 generalize brkF w u dg s.sh.length (Z,qq) (w.so+1)=x1 at *
 generalize brkF w u dg s.sh.length (Z,qq) (Z+1)=x2 at *
 generalize brkF w u dg s.sh.length (Z,qq) 1=x3 at *
 have b8:=a8.grow B
 have b7:=a7.grow B
 have bb:=ab.grow B
 have bk:=ak.grow B
 have h7:=b8.2
 have h4:=b7.2
 have i0:=bb.2
 have i2:=bk.2
 have i1:=ac.2
 have f8:(0:Int)<=0/\(0:Int)<=100:=by decide
 have a0:M.next<=M2.next:=by omega
 have a5:∀ i o n f e,LV.slice o6 ms.length f6 e6=.slice (some (i,o)) n f e->i<M.next/\i<hi:=fun i o n f e q=>⟨Vec.ltW h6 i o n f e q,d3 _ (by simp) i o n f e q⟩
 cases xf
 ·refine Wg ?_;intros
  all_goals rename_i Mu S u2 u3 nn Mn U d9 c3
  all_goals (
   obtain⟨MX,R,S⟩:∃ MX,Grow M' MX/\Upd MX kp _ Mu:=⟨_,xg,S⟩
   have L:=bk.grow R
   have V7:=(Vec.updW (h6.grow ((C.trans B).trans R)) L (by decide) S).grow U.grow
   have F:=u3.grow U.grow
   refine z62 (by exact gd) (l':=[_]) V7 rfl rfl rfl (by simp) (by rw[List.length_singleton];omega) rfl (z30 U) (fun _=>rfl) (fun _=>rfl) ?_
   intro v' Mv hV d5 kV
   have a1:=F.keep kV (fun⟨_,_,_,_,_,z⟩=>Vec.offW V7 F (by decide) z)
   obtain⟨o7,f7,e7,rfl⟩:=hV.shape
   have d8:=R.le
   clear u3 F V7
   refine Wh ?_;intro Mz V w2 X
   refine kf ?_
   obtain⟨r1,r2,r3,r4⟩:=zq8 (hi:=hi) hW a0 ((C.trans B).trans R) (((Q.trans g6).trans B).trans R) L S U hV kV a5 a1 V (by omega)
   exact⟨_,0,rfl,.inr ⟨rfl,u,⟨_,_,_,_,_,_,X,r1,r2,fun hn=>absurd hn (by simp),r3⟩,⟨by rw[n1];simp,by rw[n2];simp,by rw[n3];simp,by rw[n4];simp,by simp;omega,b4,fun m D=>by
    rcases List.mem_append.1 D with D|D
    ·exact k7 m D
    ·obtain rfl:=List.mem_singleton.1 D
     omega⟩,a4,r4⟩⟩)
 ·repeat' first|with_reducible intro _|refine sv ?_|refine su ?_|((with_reducible first|apply zw|apply zx|apply zm);exact gd;exact rfl;exact rfl;(first|exact cf _|exact c5 _ (xg)|exact c7 _ (xg)|exact c8 _ (xg)))|refine ss ?_ ?_<;>(intro h;first|exact sz h|refine sy h ?_)|exact sq|fail
  all_goals try(exfalso;omega)
  all_goals rename_i Mu S u2 u3 nn Mn U d9 c3
  all_goals (
   obtain⟨MX,R,S⟩:∃ MX,Grow M' MX/\Upd MX kp _ Mu:=⟨_,xg,S⟩
   have L:=bk.grow R
   have V7:=(Vec.updW (h6.grow ((C.trans B).trans R)) L (by decide) S).grow U.grow
   have F:=u3.grow U.grow
   refine z62 (by exact gd) (l':=[_]) V7 rfl rfl rfl (by simp) (by rw[List.length_singleton];omega) rfl (z30 U) (fun _=>rfl) (fun _=>rfl) ?_
   intro v' Mv hV d5 kV
   have a1:=F.keep kV (fun⟨_,_,_,_,_,z⟩=>Vec.offW V7 F (by decide) z)
   obtain⟨o7,f7,e7,rfl⟩:=hV.shape
   have d8:=R.le
   clear u3 F V7
   repeat' first|with_reducible intro _|refine sv ?_|refine ss ?_ ?_<;>(intro h;first|exact sz h|refine sy h ?_)|exact sq|fail
   rename_i Mz V w2 X
   refine kf ?_
   obtain⟨r1,r2,r3,r4⟩:=zq8 (hi:=hi) hW a0 ((C.trans B).trans R) (((Q.trans g6).trans B).trans R) L S U hV kV a5 a1 V (by omega)
   exact⟨_,0,rfl,.inr ⟨rfl,u,⟨_,_,_,_,_,_,X,r1,r2,fun hn=>absurd hn (by simp),r3⟩,⟨by rw[n1];simp,by rw[n2];simp,by rw[n3];simp,by rw[n4];simp,by simp;omega,b4,fun m D=>by
    rcases List.mem_append.1 D with D|D
    ·exact k7 m D
    ·obtain rfl:=List.mem_singleton.1 D
     omega⟩,a4,r4⟩⟩)
end Go.Proofs.YtpgalhbplcanhaaGreatDoor.C
end
section
open PvL Go
namespace Go.Proofs.YtpgalhbplcanhaaGreatDoor.C
variable {n:Nat}
def u8 (n:Nat):UInt8:=UInt8.ofNat n
theorem u8_n (h:n<256):(u8 n).toNat=n:=by unfold u8;simp;omega
def strL (l:List UInt8):ByteArray:=⟨⟨l⟩⟩
theorem zck (a b:List UInt8):strL a++strL b=strL (a++b):=by
 unfold strL
 apply ByteArray.ext
 simp
theorem zej (l:List UInt8):(strL l).size=l.length:=rfl
def twoL (n:Nat):List UInt8:=[u8 (n/256),u8 (n%256)]
def cdF:Nat->Nat->List UInt8
 | 0,_=>[]
 | f+1,n=>if 128<=n then u8 (n%128+128)::cdF f (n/128) else [u8 n]
theorem zgl:∀(f g n:Nat),n<f->n<g->cdF f n=cdF g n
 | 0,_,n,h,_=>absurd h (Nat.not_lt_zero _)
 | _,0,n,_,h=>absurd h (Nat.not_lt_zero _)
 | f+1,g+1,n,h1,c=>by
  unfold cdF
  split
  ·rename_i m
   rw[zgl f g (n/128) (by omega) (by omega)]
  ·rfl
def cdN (n:Nat):List UInt8:=cdF (n+1) n
theorem zar (h:128<=n):cdN n=u8 (n%128+128)::cdN (n/128):=by
 unfold cdN
 show(if 128<=n then _ else _)=_
 rw[if_pos h,zgl n (n/128+1) (n/128) (by omega) (by omega)]
theorem z7k (h:n<128):cdN n=[u8 n]:=by
 unfold cdN
 show(if 128<=n then _ else _)=_
 rw[if_neg (by omega)]
def cdS (n c:Int):Int×Int:=if n=40001 then(1,c) else if knB n then(if n-c<0 then 1-2*(n-c) else 2*(n-c)+2,n) else(0,c)
def lsA (l:List Int):Nat->Int
 | 0=>0
 | k+1=>(cdS (getG l k) (lsA l k)).2
def cdA (l:List Int)(k:Nat):Int:=(cdS (getG l k) (lsA l k)).1
theorem zlg (l:List Int):∀ k,-32767<=lsA l k/\lsA l k<=32767
 | 0=>by unfold lsA;omega
 | k+1=>by
  have h:=zlg l k
  unfold lsA cdS
  split
  ·exact h
  ·split
   ·rename_i c
    exact of_decide_eq_true c
   ·exact h
theorem zdc (l:List Int)(k:Nat):0<=cdA l k/\cdA l k<=131070:=by
 have h:=zlg l k
 unfold cdA cdS
 split
 ·dsimp only;omega
 ·split
  ·rename_i c
   have c:-32767<=getG l k/\getG l k<=32767:=of_decide_eq_true c
   dsimp only
   split<;>omega
  ·dsimp only;omega
def cdsL (l:List Int)(k:Nat):List UInt8:=(List.range k).flatMap fun i=>cdN (cdA l i).toNat
theorem zkb (l:List Int)(k:Nat):cdsL l (k+1)=cdsL l k++cdN (cdA l k).toNat:=by unfold cdsL;rw[List.range_succ,List.flatMap_append];simp
theorem zc0:∀(n:Nat),(cdN n).length<=n/128+1
 | n=>by
  by_cases h:128<=n
  ·rw[zar h,List.length_cons]
   have:=zc0 (n/128)
   omega
  ·rw[z7k (by omega)];simp
theorem zgm (l:List Int):∀ k,(cdsL l k).length<=1100*k
 | 0=>by unfold cdsL;simp
 | k+1=>by
  rw[zkb,List.length_append]
  have h1:=zgm l k
  have c:=zc0 (cdA l k).toNat
  have h:=zdc l k
  omega
def hdL (x:Fr):List UInt8:=[165,90]++twoL x.1.toNat++[u8 x.2.1.toNat,u8 x.2.2.length]
def bodyL (x:Fr):List UInt8:=hdL x++cdsL x.2.2 x.2.2.length
def chkL (l:List UInt8):List UInt8:=l++twoL (crcK (strL l) l.length).toNat
def pkL (x:Fr):List UInt8:=chkL (bodyL x)
end Go.Proofs.YtpgalhbplcanhaaGreatDoor.C
end
section
open Go PvL Go.Proofs
namespace Go.Proofs.YtpgalhbplcanhaaGreatDoor.C
variable {i n e:Nat} {f:Bool} {a:Option (Nat × Nat)}
theorem zcr {E:Env}{M:Mem}{x:XO}{own:Bool}{p q:LV}{ty:TypeId}(h:xval E x=some (.ptr (some (i,0))))(c:At M i (.cells own [p,q] ty)):zl Tryz.prog (.slA 2 1 x none none none) E M=some (.val (.slice (some (i,0)) 2 true 1) M):=by
 show ob (xval E x) _=_
 rw[h,z8]
 show guard' true (atCells M i _)=_
 rw[zb]
 unfold atCells
 rw[c.1]
 rfl
theorem zu6 (a b:Int)(M:Mem):zc Tryz.prog 248 [I a,I b] M (fun w M'=>w=I (cmpI8 a b)/\M'=M):=by
 have c:∀ n M,zc Tryz.prog 273 [I n] M (fun w M'=>w=.bool false/\M'=M):=fun n M=>by
  refine zd Y273.2 rfl ?_
  delta Y273;refine un ?_
  refine Wh ?_
  refine kf ?_
  refine⟨?_,rfl⟩
  show LV.bool _=LV.bool _
  simp
 refine zd Y248.2 rfl ?_
 delta Y248;refine un ?_
 unfold cmpI8
 repeat' first|with_reducible intro _|refine sv ?_|((with_reducible first|apply z01|apply z05|apply zr);exact gd;exact rfl;exact rfl;(first|exact c _ _))|refine ss ?_ ?_<;>(intro h;first|exact sz h|refine sy h ?_)|exact sq|fail
 ·refine kf ?_
  rw[if_pos (by omega)]
  exact⟨rfl,rfl⟩
 ·refine kf ?_
  rw[if_neg (by omega),if_pos (by omega)]
  exact⟨rfl,rfl⟩
 ·refine kf ?_
  rw[if_neg (by omega),if_neg (by omega)]
  exact⟨rfl,rfl⟩
set_option maxHeartbeats 4000000 in
theorem zjt {M:Mem}{j:Nat}{c o m p:Int}{t u:TypeId}{g:Bool}(H:At M i (.cells true [I c,I o] t))(J:At M j (.cells true [I m,I p] u)) :
  zc Tryz.prog 196 [.slice (some (i,0)) 2 f 1,.slice (some (j,0)) 2 g 1] M (fun w M'=>w=I (cmpK (c,o) (m,p))/\M'=M):=by
 refine zd Y196.2 rfl ?_
 delta Y196;refine un ?_
 have S:Rd1 M i (0+0*1) (I c):=Rd1.of_at H rfl
 have U:Rd1 M i (0+1*1) (I o):=Rd1.of_at H rfl
 have V:Rd1 M j (0+0*1) (I m):=Rd1.of_at J rfl
 have X:Rd1 M j (0+1*1) (I p):=Rd1.of_at J rfl
 have O:cmpI8 c m≠0->cmpK (c,o) (m,p)=cmpI8 c m:=fun h=>by unfold cmpK;rw[if_pos h]
 have G:cmpI8 c m=0->cmpK (c,o) (m,p)=cmpI8 o p:=fun h=>by unfold cmpK;rw[if_neg (by dsimp only;omega)]
 have L:=zu6 c m
 have N:=zu6 o p
 generalize cmpI8 c m=A at *
 generalize cmpI8 o p=B at *
 generalize cmpK (c,o) (m,p)=C at *
 refine Wh ?_
 refine zg (fun z E ms M'=>∃ k:Nat,z=2-k/\k<=2/\ms=[]/\Has E [(0,.slice (some (i,0)) 2 f 1),(1,.slice (some (j,0)) 2 g 1),(9,.slice (some (i,0)) 2 f 1),(10,I 2),(11,I k)]/\M'=M/\(1<=k->A=0)/\(2<=k->B=0))
  ?_ 2 _ _ _ ⟨0,rfl,by omega,rfl,hz,rfl,fun h=>by omega,fun h=>by omega⟩
 rintro z E ms Y ⟨k,rfl,R,rfl,Q,rfl,r,F⟩
 refine z06 Q ?_
 match k,R with
 | 0,_=>
  (have y:=S;have D:=V;repeat' (first|(with_reducible intro _)|refine sv ?_|((with_reducible first|apply z01|apply z05|apply zr);exact gd;exact rfl;exact rfl;(first|exact L _))|refine ss ?_ ?_<;>(intro h;first|exact sz h|refine sy h ?_)|exact sq|fail))
  ·refine kf ?_
   rw[O (by omega)]
   exact⟨rfl,rfl⟩
  ·exact zi 1 (by omega) ⟨1,rfl,by omega,rfl,hz,rfl,fun _=>by omega,fun h=>by omega⟩
 | 1,_=>
  have r:=r (Nat.le_refl _)
  (have y:=U;have D:=X;repeat' (first|(with_reducible intro _)|refine sv ?_|((with_reducible first|apply z01|apply z05|apply zr);exact gd;exact rfl;exact rfl;(first|exact N _))|refine ss ?_ ?_<;>(intro h;first|exact sz h|refine sy h ?_)|exact sq|fail))
  ·refine kf ?_
   rw[G r]
   exact⟨rfl,rfl⟩
  ·exact zi 0 (by omega) ⟨2,rfl,by omega,rfl,hz,rfl,fun _=>r,fun _=>by omega⟩
 | 2,_=>
  have r:=r (by omega)
  have F:=F (by omega)
  refine Wh ?_;intros
  refine kf ?_
  rw[G r,F]
  exact⟨rfl,rfl⟩
theorem z27 (c o p r:Int)(M:Mem):zc Tryz.prog 141 [.agg [I c,I o],.agg [I p,I r]] M (fun w M'=>w=I (cmpK (c,o) (p,r))/\Grow M M'):=by
 refine zd Y141.2 rfl ?_
 delta Y141;refine un ?_
 refine Wh ?_;intro C H F J L D u G N O
 have y:At u C (.cells true [I c,I o] 281):=xm
 have B:At u D (.cells true [I p,I r] 281):=xm
 refine z63 (by exact gd) (zcr rfl y) (fun m=>At m C (.cells true [I c,I o] 281)) (fun m t=>zcr rfl t) ?_
 refine z63 (by exact gd) (zcr rfl B) (fun m=>At m D (.cells true [I p,I r] 281)) (fun m t=>zcr rfl t) ?_
 repeat' first|with_reducible intro _|refine sv ?_|((with_reducible first|apply z01|apply z05|apply zr);exact gd;exact rfl;exact rfl;(first|exact zjt y B))|refine ss ?_ ?_<;>(intro h;first|exact sz h|refine sy h ?_)|exact sq|fail
 refine kf ?_
 exact⟨rfl,xg⟩
theorem wrap8m {a:Int}:IntKind.wrap .u8 a=a%256:=by
 unfold IntKind.wrap
 simp[IntKind.signed,IntKind.bits]
theorem z8h (h:n<256):byteL (u8 n)=LV.int .u8 (n:Int):=by
 show LV.int .u8 (((u8 n).toNat:Nat):Int)=_
 rw[u8_n h]
theorem zgg (h:n<256):[LV.int .u8 (n:Int)]=z0b [u8 n]:=by
 show _=[byteL (u8 n)]
 rw[z8h h]
theorem zun (n:Nat)(y:n<=65535)(M:Mem):zc Tryz.prog 133 [I n] M (MkAt (fun p=>.slice (some (p,0)) 2 true 1) (.cells true (z0b (twoL n)) 5) M):=by
 refine zd Y133.2 rfl ?_
 delta Y133;refine un ?_
 have t:shrZ (n:Int) 8=((n/256:Nat):Int):=by unfold shrZ;show(n:Int)/((2^8:Nat):Int)=_;omega
 have o:(n:Int)%256=((n%256:Nat):Int):=by omega
 have r:z0b (twoL n)=[.int .u8 ((n/256:Nat):Int),.int .u8 ((n%256:Nat):Int)]:=by
  show [byteL (u8 (n/256)),byteL (u8 (n%256))]=_
  rw[z8h (by omega),z8h (by omega)]
 refine Wh ?_;intro m u c B C
 rw[t,wrap8m,o,<- r] at c
 refine kf ?_
 exact⟨m,rfl,At.new_same c,by omega,by omega,c.grow⟩
def PlainR {α:Type}(f:α->LV)(x:α)(v:List LV)(U:Nat->Prop)(_:Mem):Prop:=v=[f x] /\ ∀ i,¬ U i
def cdItems (l:List Int)(k:Nat):List Int:=(List.range k).map (cdA l)
theorem z6c (l:List Int)(k:Nat):cdItems l (k+1)=cdItems l k++[cdA l k]:=by unfold cdItems;rw[List.range_succ,List.map_append];rfl
theorem zbz {l:List Int}{k:Nat}(o:k<n):cdItems l n=cdItems l k++cdA l k ::(cdItems l n).drop (k+1):=by
 have h:=List.take_append_drop k (cdItems l n)
 have c:(cdItems l n).take k=cdItems l k:=by unfold cdItems;rw[<-List.map_take,List.take_range,Nat.min_eq_left (by omega)]
 have m:(cdItems l n).drop k=cdA l k ::(cdItems l n).drop (k+1):=by
  rw[List.drop_eq_getElem_cons (by unfold cdItems;simpa using o)]
  congr 1
  unfold cdItems
  simp
 rw[c,m] at h
 exact h.symm
theorem zrf (M:Mem):zc Tryz.prog 134 [.slice a n f e] M (MkAt (fun p=>.func (.func 186) [] [.ptr (some (p,0))]) (.cells true [.slice a n f e] 63) M):=by
 refine zd Y134.2 rfl ?_
 delta Y134;refine un ?_
 refine Wh ?_;intro m o c r t
 refine kf ?_
 exact⟨m,rfl,At.new_same c,by omega,by omega,c.grow⟩
set_option maxHeartbeats 8000000 in
theorem ztr {M0:Mem}{p:Nat}{l:List Int}(hp:At M0 p (.cells true [.slice a l.length f e] 63))(hs:SlI M0 a l)(hl:l.length<=64)(Z:l.all smB=true) :
  YieldsS Tryz.prog 186 [] [.ptr (some (p,0))] (fun i=>i=p ∨ ∃ o,a=some (i,o)) (fun _=>False) (fun _=>True) (cdItems l l.length) (PlainR fun n=>I n) M0:=by
 intro ly S II DD tk hS a1
 have a3:¬ S p:=hS _ (.inl rfl)
 refine zd Y186.2 rfl ?_
 dsimp only[Y186,Ev,List.map_cons,List.map_nil,zipE,Nat.reduceAdd,List.nil_append,List.cons_append]
 refine Wh ?_
 refine zg (fun z E ms M'=>∃(k:Nat) (T:Nat->Prop),z=l.length-k/\k<=l.length/\ms=[]/\Has E [(0,.func (.yield ly) [] []),(3,I (lsA l k)),(8,.slice a l.length f e),(9,I l.length),(10,I k)]/\Keep S M0 M'/\(∀ j,T j->M0.next<=j/\j<M'.next)/\II (cdItems l k) T M') ?_ l.length _ _ _
  ⟨0,fun _=>False,by omega,by omega,rfl,hz,Keep.refl _ _,fun j y=>y.elim,a1⟩
 rintro z E ms U ⟨k,T1,rfl,hk,rfl,hE,G,B,Y⟩
 refine z06 hE ?_
 by_cases V:k=l.length
 ·subst V
  refine Wh ?_;intro h
  refine kf ?_
  exact⟨G.weaken (fun j y=>.inl y),trivial,T1,B,.inl Y⟩
 have N:k<l.length:=by omega
 obtain⟨i,o,rfl,hr⟩:=hs.rd N
 rw[<-z5x N] at hr
 have a0:¬ S i:=hS _ (.inr ⟨o,rfl⟩)
 have R:=hr.keep G a0
 have a2:=G.le
 have hb:=zlg l k
 have a4:=zdc l k
 have hstep:RoundOk Tryz.prog ly [I (cdA l k)] U fun w M'=>Keep (fun i=>S i∨T1 i∨False) U M' /\ ∃ T':Nat->Prop,(∀ i,T' i->(T1 i∨False∨U.next<=i)/\i<M'.next)/\((w=.bool true/\II (cdItems l k++[cdA l k]) T' M') ∨(w=.bool false/\DD T' M')) :=
  tk.step (cdItems l k) (cdA l k) ((cdItems l l.length).drop (k+1)) [I (cdA l k)] (fun _=>False) T1 U (zbz N) ⟨rfl,fun _=>id⟩ a2 B (fun _ h=>h.elim) Y
 have a6:smB (getG l k)=true:=by
  rw[List.all_eq_true] at Z
  rw[z5x N]
  exact Z _ (List.getElem_mem N)
 have r:cdA l k=(cdS (getG l k) (lsA l k)).1:=rfl
 have t:lsA l (k+1)=(cdS (getG l k) (lsA l k)).2:=rfl
 generalize hv:getG l k=v at *
 generalize a5:lsA l k=la at *
 generalize Q:cdA l k=cc at *
 unfold cdS at r t
 by_cases h1:v=40001
 ·rw[if_pos h1] at r t
  dsimp only at r t
  subst r
  have O:=R;refine Wh ?_;intro _ h
  refine zk (by exact gd) rfl rfl (show AppOk Tryz.prog _ _ U _ from hstep) ?_
  rintro w J ⟨H,C,u,X⟩
  have m:Keep S M0 J:=G.trans H (fun i hi=>hi.elim .inl (fun h=>h.elim (fun h=>.inr (B i h).1) False.elim))
  have c:∀ j,C j->M0.next<=j/\j<J.next:=fun j y=>⟨(u j y).1.elim (fun h=>(B j h).1) (fun h=>h.elim False.elim (fun h=>by omega)),(u j y).2⟩
  rcases X with⟨rfl,F⟩|⟨rfl,D⟩
  ·refine Wh ?_;intro h
   exact zi (l.length-(k+1)) (by omega) ⟨k+1,C,rfl,by omega,rfl,.cons rfl (.cons (by rw[t];rfl) (hz)),m,c,by rw[z6c,Q];exact F⟩
  ·refine Wh ?_;intro h
   refine kf ?_
   exact⟨m.weaken (fun j y=>.inl y),trivial,C,c,.inr D⟩
 ·rw[if_neg h1] at r t
  cases L:knB v with
  | false=>
   rw[L,if_neg (by decide)] at r t
   dsimp only at r t
   subst r
   have hc:∀ M,zc Tryz.prog 69 [I v] M (fun w M'=>w=.bool false/\M'=M):=fun M=>by rw[<-L];exact z8o _ M
   have O:=R;refine Wsh @hc ?_;intro _ _ h
   refine zk (by exact gd) rfl rfl (show AppOk Tryz.prog _ _ U _ from hstep) ?_
   rintro w J ⟨H,C,u,X⟩
   have m:Keep S M0 J:=G.trans H (fun i hi=>hi.elim .inl (fun h=>h.elim (fun h=>.inr (B i h).1) False.elim))
   have c:∀ j,C j->M0.next<=j/\j<J.next:=fun j y=>⟨(u j y).1.elim (fun h=>(B j h).1) (fun h=>h.elim False.elim (fun h=>by omega)),(u j y).2⟩
   rcases X with⟨rfl,F⟩|⟨rfl,D⟩
   ·refine Wh ?_;intro h
    exact zi (l.length-(k+1)) (by omega) ⟨k+1,C,rfl,by omega,rfl,.cons rfl (.cons (by rw[t];rfl) (hz)),m,c,by rw[z6c,Q];exact F⟩
   ·refine Wh ?_;intro h
    refine kf ?_
    exact⟨m.weaken (fun j y=>.inl y),trivial,C,c,.inr D⟩
  | true=>
   rw[L,if_pos rfl] at r t
   dsimp only at r t
   have a7:-32767<=v/\v<=32767:=of_decide_eq_true L
   have hc:∀ M,zc Tryz.prog 69 [I v] M (fun w M'=>w=.bool true/\M'=M):=fun M=>by rw[<-L];exact z8o _ M
   by_cases h2:v-la<0
   ·rw[if_pos h2] at r
    subst r
    have O:=R;refine Wsg @hc ?_;intro _ _ _ h
    refine zk (by exact gd) rfl rfl (show AppOk Tryz.prog _ _ U _ from hstep) ?_
    rintro w J ⟨H,C,u,X⟩
    have m:Keep S M0 J:=G.trans H (fun i hi=>hi.elim .inl (fun h=>h.elim (fun h=>.inr (B i h).1) False.elim))
    have c:∀ j,C j->M0.next<=j/\j<J.next:=fun j y=>⟨(u j y).1.elim (fun h=>(B j h).1) (fun h=>h.elim False.elim (fun h=>by omega)),(u j y).2⟩
    rcases X with⟨rfl,F⟩|⟨rfl,D⟩
    ·refine Wh ?_;intro h
     exact zi (l.length-(k+1)) (by omega) ⟨k+1,C,rfl,by omega,rfl,.cons rfl (.cons (by rw[t];rfl) (hz)),m,c,by rw[z6c,Q];exact F⟩
    ·refine Wh ?_;intro h
     refine kf ?_
     exact⟨m.weaken (fun j y=>.inl y),trivial,C,c,.inr D⟩
   ·rw[if_neg h2] at r
    subst r
    have O:=R;refine Wsg @hc ?_;intro _ _ _ h
    refine zk (by exact gd) rfl rfl (show AppOk Tryz.prog _ _ U _ from hstep) ?_
    rintro w J ⟨H,C,u,X⟩
    have m:Keep S M0 J:=G.trans H (fun i hi=>hi.elim .inl (fun h=>h.elim (fun h=>.inr (B i h).1) False.elim))
    have c:∀ j,C j->M0.next<=j/\j<J.next:=fun j y=>⟨(u j y).1.elim (fun h=>(B j h).1) (fun h=>h.elim False.elim (fun h=>by omega)),(u j y).2⟩
    rcases X with⟨rfl,F⟩|⟨rfl,D⟩
    ·refine Wh ?_;intros
     exact zi (l.length-(k+1)) (by omega) ⟨k+1,C,rfl,by omega,rfl,.cons rfl (.cons (by rw[t];rfl) (hz)),m,c,by rw[z6c,Q];exact F⟩
    ·refine Wh ?_;intros
     refine kf ?_
     exact⟨m.weaken (fun j y=>.inl y),trivial,C,c,.inr D⟩
end Go.Proofs.YtpgalhbplcanhaaGreatDoor.C
end
section
open Go PvL Go.Proofs
variable {μ:Md}
namespace Go.Proofs.YtpgalhbplcanhaaGreatDoor.C
abbrev u8c(b:UInt8):List LV:=[byteL b]
theorem z20:∀ l:List UInt8,z0b l=l.flatMap u8c
 | []=>rfl
 | b::l=>by show byteL b::z0b l=[byteL b]++l.flatMap u8c;rw[z20 l];rfl
theorem z64(l:List UInt8):zn (z0b l)=true:=by rw[z20];exact z0j (fun _ _=>rfl)
theorem z2a{M:Mem}{p:Nat}{own:Bool}{l:List UInt8}{ty:TypeId}{f:Bool}(h:At M p (.cells own (z0b l) ty)):zz 1 l.length (.slice (some (p,0)) l.length f 1) M=some (z0b l):=by
 rw[z20] at h ⊢
 exact z1g (enc:=u8c) (fun _ _=>rfl) (fun k c=>z18 (enc:=u8c) h (fun _ _=>rfl) c)
theorem zor{M:Mem}{p:Nat}{own:Bool}{l:List UInt8}{ty:TypeId}(h:At M p (.cells own (z0b l) ty)):Rd M p 0 l.length (z0b l):=by
 refine Rd.of_at h ?_
 show take' l.length (z0b l)=_
 have:∀ l:List UInt8,take' l.length (z0b l)=some (z0b l):=fun l=>by
  induction l with
  | nil=>rfl
  | cons b l c=>
   show ob (take' l.length (z0b l)) _=_
   rw[c];rfl
 exact this l
def ApB(b:Nat)(M:Mem)(v:LV)(l:List UInt8):Prop:=∃ f ty,v=.slice (some (b,0)) l.length f 1/\At M b (.cells true (z0b l) ty)/\(f=true∨ty=apE 5)
theorem ApB.lt{b:Nat}{M:Mem}{v:LV}{l:List UInt8}(h:ApB b M v l):b<M.next:=by
 obtain⟨f,ty,_,c,_⟩:=h
 exact c.2
theorem ApB.grow{b:Nat}{M M':Mem}{v:LV}{l:List UInt8}(h:ApB b M v l)(p:Grow M M'):ApB b M' v l:=by
 obtain⟨f,ty,c,m,o⟩:=h
 exact⟨f,ty,c,m.grow p,o⟩
theorem ApB.same{b:Nat}{M M':Mem}{v:LV}{l:List UInt8}(h:ApB b M v l)(c:M.next<=M'.next)(r:M'.get b=M.get b):ApB b M' v l:=by
 obtain⟨f,ty,m,o,p⟩:=h
 exact⟨f,ty,m,o.same c r,p⟩
theorem ApB.bstr{b:Nat}{M:Mem}{v:LV}{l:List UInt8}(h:ApB b M v l){E:Env}{x:XO}(m:xval E x=some v):zl Tryz.prog (.bstr x) E M=some (.val (.str (strL l)) M):=by
 obtain⟨f,ty,rfl,c,o⟩:=h
 exact ztf m (zor c)
section
variable {P:Program} [Orc P] {sz:Nat} {E:Env} {M:Mem} {K:Env->Mem->Prop} {ll:List XG} {d:Nat} {g:Option (Nat × Bool)} {sx0 x:XO} {b:Nat} {v:LV} {l l':List UInt8} {z:List LV} {xv:LV} {st:List Mem} {k:Nat} {xs:List (Nat × Nat × (Mem->Prop))} {ld:List (XG × XK)}
theorem ApB.app(G:ApB b M v l)(B:xval E sx0=some v)(D:xval E x=some xv)(u:z0x xv=some l'.length)(p:0<l'.length)(H:l.length+l'.length<=1000000000000)(hz:z.length=1)(C:zz 1 l'.length xv M=some (z0b l')) :
  ∃ v' M',zl P (.app 5 1 1 z sx0 x) E M=some (.val v' M')/\ApB M.next M' v' (l++l')/\M'.next=M.next+1/\Keep (fun j=>j=b) M M':=by
 obtain⟨f,ty,rfl,r,F⟩:=G
 have m:(Nat.ble 1 1&&(Nat.ble 1 1&&Nat.beq z.length 1))=true:=by rw[hz];rfl
 have h:z0b (l++l')=z0b l++z0b l':=by rw[z20,z20,z20,List.flatMap_append]
 have y:=z2a (f:=f) r
 have c:(2*(l.length+l'.length)+2048)*1<=140737488355328:=by omega
 cases f with
 | true=>
  have t:New M M.next (.cells true (z0b l++z0b l') (apE 5)) (M.push (.cells true (z0b l++z0b l') (apE 5))):=⟨rfl,rfl⟩
  exact⟨_,_,z3t B D u p c m y C (z64 _) (.inr rfl),⟨_,_,by rw[List.length_append],by rw[h];exact At.new_same t,.inr rfl⟩,rfl,t.grow.to_keep _⟩
 | false=>
  obtain rfl:ty=apE 5:=F.resolve_left (by decide)
  have o:Kill M b M.next (.cells true (z0b l++z0b l') (apE 5)) ((M.upd b none).push (.cells true (z0b l++z0b l') (apE 5))):=⟨rfl,rfl⟩
  exact⟨_,_,z4g B D u p c m y C (z64 _) r (by rw[show Nat.beq (apE 5) (apE 5)=true by simp,Bool.or_true]),⟨_,_,by rw[List.length_append],by rw[h];exact o.same,.inr rfl⟩,o.next,o.keep⟩
theorem zpc(r:GOn E g)(C:ApB b M v l)(B:xval E sx0=some v)(F:xval E x=some xv)(y:z0x xv=some l'.length)(c:0<l'.length)(u:l.length+l'.length<=1000000000000)(hz:z.length=1)(D:zz 1 l'.length xv M=some (z0b l'))
  (t:∀ v' M',ApB M.next M' v' (l++l')->M'.next=M.next+1->Keep (fun j=>j=b) M M'->XW μ P sz ll ((d,v')::E) M' K):XW μ P sz (⟨some d,.app 5 1 1 z sx0 x,g⟩::ll) E M K:=by
 obtain⟨v',M',h,m,o,p⟩:=C.app (P:=P) B F y c u hz D
 exact zg2 r h (t v' M' m o p)
theorem zxa(r:GOn E g)(C:ApB b M v l)(B:xval E sx0=some v)(F:xval E x=some xv)(y:z0x xv=some l'.length)(c:0<l'.length)(u:l.length+l'.length<=1000000000000)(hz:z.length=1)(D:zz 1 l'.length xv M=some (z0b l'))
  (t:∀ v' M',ApB M.next M' v' (l++l')->M'.next=M.next+1->Keep (fun j=>j=b) M M'->XD P sz ld ((d,v')::E) M' (M'::st) (k+1) xs K):XD P sz ((⟨some d,.app 5 1 1 z sx0 x,g⟩,.anchor)::ld) E M st k xs K:=by
 obtain⟨v',M',h,m,o,p⟩:=C.app (P:=P) B F y c u hz D
 exact zpz r h (t v' M' m o p)
end
theorem zka(l:List Int)(n:Nat):(cdItems l n).flatMap (fun c=>cdN c.toNat)=cdsL l n:=by
 unfold cdItems cdsL
 rw[List.flatMap_map]
