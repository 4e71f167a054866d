/-
 Part of the proof of TapeKept. No condition beyond those in each theorem.
-/
import Derived.Test.YtpgalhbplcanhaaGreatDoorSH
import Derived.Test.YtpgalhbplcanhaaGreatDoorSF
import Derived.Test.YtpgalhbplcanhaaGreatDoorSE
import Derived.Test.YtpgalhbplcanhaaGreatDoorSG
import Derived.Test.YtpgalhbplcanhaaGreatDoorSB
import Derived.Test.YtpgalhbplcanhaaGreatDoorTW
set_option linter.unusedVariables false
set_option linter.unusedSimpArgs false
set_option linter.unusedSectionVars false
section
open Go PvL Go.Proofs
namespace Go.Proofs.YtpgalhbplcanhaaGreatDoor.C
variable {b sz i o n e by' m p q c:Nat} {ty:TypeId} {M:Mem} {s:ByteArray} {x:Fr} {l:List UInt8}
abbrev Bd:=Int×Int
abbrev bdc (x:Bd):List LV:=[I x.1,I x.2]
def lostA (L:List Bd)(p:Nat):List Bd:=match L.getLast? with
 | some x=>if x.2=(p:Int)-1 then L.dropLast++[(x.1,(p:Int))] else L++[((p:Int),(p:Int))]
 | none=>L++[((p:Int),(p:Int))]
def whB (s:ByteArray):Nat->Nat->List Fr->List Bd->List Fr×List Bd
 | 0,_,F,L=>(F,L)
 | k+1,p,F,L=>if p<s.size then(match FrD s p with
  | some (x,q)=>whB s k q (F++[x]) L
  | none=>whB s k (p+1) F (lostA L p)) else(F,L)
def whA (s:ByteArray):List Fr×List Bd:=whB s s.size 0 [] []
theorem Vec.ge {α:Type}{enc:α->List LV}{v:LV}{l:List α}(h:Vec b sz ty enc M v l){f:Bool}(a:v=.slice (some (i,o)) n f e):b<=i:=by
 rcases h with⟨_,rfl⟩|⟨j,rfl,_,d⟩
 ·cases a
 ·cases a;exact d
theorem Vec.blt {α:Type}{enc:α->List LV}{v:LV}{l:List α}(h:Vec b sz ty enc M v l){f:Bool}(a:v=.slice (some (i,o)) n f e):i<M.next:=by
 rcases h with⟨_,rfl⟩|⟨j,rfl,d,_⟩
 ·cases a
 ·cases a;exact d.2
section
variable {α:Type} {b sz:Nat} {ty:TypeId} {enc:α->List LV} {M:Mem} {v:LV} {l:List α}
theorem Vec.appx {P:Program}[Orc P]{E:Env}{s x:XO}{z:List LV}{l':List α}{t:LV}(h:Vec b sz ty enc M v l)(C:xval E s=some v)(G:xval E x=some t)(B:z0x t=some l'.length)(u:0<l'.length)(y:(2*(l.length+l'.length)+2048)*by'<=140737488355328)(hz:(Nat.ble 1 sz&&(Nat.ble 1 by'&&Nat.beq z.length sz))=true)(D:zz sz l'.length t M=some (l'.flatMap enc))(a:∀ x,(enc x).length=sz)(r:∀ x,zn (enc x)=true)(d:b<=M.next) :
  ∃ v' M',zl P (.app ty sz by' z s x) E M=some (.val v' M')/\Vec b sz ty enc M' v' (l++l')/\M'.next=M.next+1/\Keep (fun i=>b<=i /\ ∃ o n f e,v=.slice (some (i,o)) n f e) M M' /\ ∃ n f e,v'=.slice (some (M.next,0)) n f e:=by
 have A:=z0j (l:=l') (enc:=enc) (fun x _=>r x)
 rcases h with⟨rfl,rfl⟩|⟨i,rfl,w,H⟩
 ·refine⟨_,_,z3t C G B u (by simpa using y) hz rfl D A (.inl rfl),.inr ⟨M.next,?_,?_,d⟩,rfl,?_,_,_,_,rfl⟩
  ·rw[List.nil_append,Nat.zero_add]
  ·rw[List.nil_append,List.nil_append];exact⟨by rw[Mem.get_push,if_pos rfl],Nat.lt_succ_self _⟩
  ·have J:New M M.next (.cells true ([]++l'.flatMap enc) (apE ty)) (M.push (.cells true ([]++l'.flatMap enc) (apE ty))):=⟨rfl,rfl⟩
   exact J.grow.to_keep _
 ·have N:zz sz l.length (.slice (some (i,0)) l.length false sz) M=some (l.flatMap enc):=by
   rw[z2g w (by rw[z17 (fun x _=>a x)];omega),List.drop_zero,List.take_of_length_le (by rw[z17 (fun x _=>a x)];omega)]
  have g:Kill M i M.next (.cells true (l.flatMap enc++l'.flatMap enc) (apE ty)) ((M.upd i none).push (.cells true (l.flatMap enc++l'.flatMap enc) (apE ty))):=⟨rfl,rfl⟩
  refine⟨_,_,z4g C G B u y hz N D A w (by rw[show Nat.beq (apE ty) (apE ty)=true by simp,Bool.or_true]),.inr ⟨M.next,by rw[List.length_append],?_,d⟩,g.next,g.keep.weaken fun j K=>?_,_,_,_,rfl⟩
  ·rw[List.flatMap_append];exact g.same
  ·subst K;exact⟨H,_,_,_,_,rfl⟩
theorem zbn {P:Program}[Orc P]{u:Nat}{E:Env}{K:Env->Mem->Prop}{t:List XG}{d:Nat}{g:Option (Nat×Bool)}{s x:XO}{z:List LV}{l':List α}{r:LV}{μ:Md}(G:GOn E g)(O:Vec b sz ty enc M v l)(N:xval E s=some v)(R:xval E x=some r)(J:z0x r=some l'.length)(w:0<l'.length)(D:(2*(l.length+l'.length)+2048)*by'<=140737488355328)(hz:(Nat.ble 1 sz&&(Nat.ble 1 by'&&Nat.beq z.length sz))=true)(Q:zz sz l'.length r M=some (l'.flatMap enc))(a:∀ x,(enc x).length=sz)(j:∀ x,zn (enc x)=true)(h:b<=M.next)(H:∀ v' M',Vec b sz ty enc M' v' (l++l')->M'.next=M.next+1->Keep (fun i=>b<=i /\ ∃ o n f e,v=.slice (some (i,o)) n f e) M M'->(∃ n f e,v'=.slice (some (M.next,0)) n f e)->XW μ P u t ((d,v')::E) M' K):XW μ P u (⟨some d,.app ty sz by' z s x,g⟩::t) E M K:=by
 obtain⟨v',M',y,A,B,C,h5⟩:=Vec.appx (P:=P) O N R J w D hz Q a j h
 exact zg2 G y (H v' M' A B C h5)
end
theorem zgd {x:Bd}{M':Mem}(d:New M m (.cells true [I x.1,I x.2] ty) M'):zz 2 1 (.slice (some (m,0)) 1 true 2) M'=some ([x].flatMap bdc) :=
 z1g (enc:=bdc) (l:=[x]) (fun _ _=>rfl) (fun f a=>z18 (enc:=bdc) (l:=[x]) (At.new_same d) (fun _ _=>rfl) a)
theorem zjf (C:p<=s.size)(h:FrD s p=some (x,q)):frB x=true/\p<q/\q<=s.size:=by
 unfold FrD at h
 split at h
 ·cases h
 ·rename_i m D d
  split at h
  ·cases h
  ·rename_i O E f
   split at h
   ·cases h
   ·rename_i w G g
    split at h
    ·cases h
    ·rename_i n H j
     split at h
     ·split at h
      ·cases h
      ·rename_i l J h5
       split at h
       ·rename_i t
        split at h
        ·cases h
        ·rename_i u K a
         cases h
         have y:=z7g d
         have z:=z7g f
         have A:=z5y g
         have g4:=z5y j
         have B:=za5 _ _ _ _ g4.2 h5
         unfold chkB at a
         split at a
         ·cases a
         ·rename_i c N r
          have g6:=z7g r
          split at a
          ·cases a
           exact⟨t,by omega,by omega⟩
          ·cases a
       ·cases h
     ·cases h
set_option maxHeartbeats 8000000 in
theorem zrn {r:Nat}{R:Rk}(hR:RkM M r R)(hB:RkB R)(hs:s.size<=1000000) :
  zc Tryz.prog 63 [.map (some r),.str s] M (fun w M'=>RkM M' r ((whA s).1.foldl rkA R)/\RkB ((whA s).1.foldl rkA R)/\Vec M.next 2 26 bdc M' w (whA s).2/\Keep (fun i=>i=r) M M'):=by
 refine zd Y63.2 rfl ?_
 delta Y63;refine un ?_
 have g5:r<M.next:=hR.lt
 refine Wh ?_;intro a M1 A1 A2 A3 x M2 A4 A5 A6 H A7 A8 A9
 have ha:At H a (rdr s 0):=by
  have:At H a (.cells true [.str s,I 0] 276):=xm
  exact this
 have b3:Grow M H:=xg
 have f7:a<x:=by omega
 have g7:x<H.next:=A9.2
 have f6:r<a:=by omega
 have a4:M.next<=a:=by omega
 have d6:M.next<=H.next:=b3.le
 have d5:RkMb (fun i=>i=a ∨ ∃ o n f e,zsl=.slice (some (i,o)) n f e) H r (([]:List Fr).foldl rkA R):=(hR.b.ge (fun i d=>by
  rcases d with rfl|⟨o,n,f,e,h⟩
  ·exact .inr a4
  ·cases h)).grow b3
 have d8:Keep (fun i=>i=r) M H:=b3.to_keep _
 clear A1 A4 A7
 refine zg (fun z E ms M'=>∃(p k:Nat) (F:List Fr) (L:List Bd) (v:LV),z=s.size-p/\p<=s.size/\s.size-p<=k/\ms=[]/\Has E [(0,.map (some r)),(1,.str s),(5,v),(6,.ptr (some (x,0)))]/\At M' x (.cells true [.ptr (some (a,0))] 273)/\At M' a (rdr s p) /\
   RkMb (fun i=>i=a ∨ ∃ o n f e,v=.slice (some (i,o)) n f e) M' r (F.foldl rkA R)/\RkB (F.foldl rkA R)/\Vec H.next 2 26 bdc M' v L/\L.length<=p/\(∀ y∈L,-1000000<=y.2/\y.2<=1000000)/\Keep (fun i=>i=r) M M'/\whA s=whB s k p F L/\H.next<=M'.next)
  ?_ s.size _ _ _ ⟨0,s.size,[],[],_,rfl,Nat.zero_le _,by omega,rfl,.cons rfl (.cons rfl (.cons rfl (.cons rfl .nil))),A9,ha,d5,hB,Vec.nil,Nat.le_refl _,(fun _ h=>nomatch h),d8,rfl,Nat.le_refl _⟩
 rintro z E ms N ⟨p,k,F,L,v,rfl,hp,hk,rfl,hE,c1,c4,Z,C,S,f2,Y,a6,hw,f5⟩
 refine z06 hE ?_
 by_cases b6:p=s.size
 ·subst b6
  have e7:whA s=(F,L):=by
   rw[hw]
   cases k with
   | zero=>rfl
   | succ k=>unfold whB;rw[if_neg (by omega)]
  refine Wh ?_;intro h
  refine kf ?_
  rw[e7]
  exact⟨Z.rk,C,Vec.low S d6,a6⟩
 have e0:p<s.size:=by omega
 obtain⟨k,rfl⟩:∃ j,k=j+1:=⟨k-1,by omega⟩
 rw[show whB s (k+1) p F L=(if p<s.size then(match FrD s p with
  | some (x,q)=>whB s k q (F++[x]) L
  | none=>whB s k (p+1) F (lostA L p)) else(F,L)) from rfl,if_pos e0] at hw
 refine Wh ?_;intro h fc N1 B1 B2 B3
 have a5:At N1 fc (.cells true [I 0,I 0,.slice none 0 true 0] 72):=xm
 have c2:At N1 x (.cells true [.ptr (some (a,0))] 273):=xm
 have a1:At N1 a (rdr s p):=xm
 refine zk gd rfl rfl (zui (g:=136) (ca:=[.ptr (some (x,0)),.ptr (some (fc,0))]) (M:=N1) (F:=fun i=>i=a∨i=fc)
  (R:=fun M1 M'=>∃ fr q sl,FrD s p=some (fr,q)/\At M' a (rdr s q)/\At M' fc (.cells true [I fr.1,I fr.2.1,sl] 72)/\Vec M1.next 1 3 intc M' sl fr.2.2)
  (R':=fun M1 M'=>FrD s p=none /\ ∃ q,At M' a (rdr s q)) (fun i d=>by rcases d with rfl|rfl;exact a1.2;exact a5.2)
  (fun M1 hg=>znl (c2.grow hg) (a5.grow hg) (a1.grow hg) (by omega) (by omega) hp)) ?_
 rintro w K ⟨d4,f0,n,g1,g2,g3,k1,k2,c9⟩
 have f1:=g1.le
 have X:Keep (fun i=>i=a) N K:=((((Keep.refl _ N).new B1).grow g1).trans k1 (fun i d=>by rcases d with h|h;exact .inl h;exact .inr (by omega))).trans k2 (fun i d=>.inr (by omega))
 have G:¬(r=a ∨ ∃ o n f e,v=.slice (some (r,o)) n f e):=by
  rintro(h|⟨o,n,f,e,h⟩)
  ·omega
  ·have:=Vec.ge S h;omega
 have O:=Z.keep X (fun i d=>.inl d) G
 have U:Vec H.next 2 26 bdc K v L:=S.keep X (fun i d=>by subst d;omega)
 have a9:=X.at c1 (fun h=>by omega)
 have Q:Keep (fun i=>i=r) M K:=a6.trans X (fun i d=>by subst d;exact .inr a4)
 have f3:=X.le
 rcases c9 with⟨rfl,fr,q,sl,e1,e2,e3,e4⟩|⟨rfl,e1,q,e2⟩
 ·have a2:At K a (rdr s q):=k2.at e2 (fun h=>by omega)
  have f9:At K fc (.cells true [I fr.1,I fr.2.1,sl] 72):=k2.at e3 (fun h=>by omega)
  have d0:Vec d4.next 1 3 intc K sl fr.2.2:=e4.keep k2 (fun i d=>by subst d;exact g3)
  obtain⟨aa,ff,ee,rfl,e6⟩:=SlI.vec d0
  obtain⟨o1,o2,o3⟩:=zjf hp e1
  rw[e1] at hw
  clear e2 e3 e4 d0 k1 k2 g1 B1 a5 c2 a1 c1 c4 Z S a6
  refine Wh ?_;intro h n6 J t C2 C3
  have d7:FsV J (some (n6,0)) [fr]:=.inr ⟨n6,0,rfl,fun k hk=>by
   obtain rfl:k=0:=by simpa using hk
   exact⟨aa,ff,ee,Rd.of_at (At.new_same t) rfl,e6.grow t.grow⟩⟩
  have a0:=O.grow t.grow
  have b0:=a9.grow t.grow
  have a3:=a2.grow t.grow
  have a8:=U.grow t.grow
  have a7:=Q.grow t.grow
  have f4:=t.grow.le
  refine zk gd rfl rfl (zu3 (f:=true) (e:=3) a0 (fun i d=>?_) d7 (fun y hy=>by rw[List.mem_singleton.1 hy];exact o1) C (by show 1<=1000000;omega)) ?_
  ·rcases d with rfl|⟨o,n,f,e,h⟩
   ·exact a3.2
   ·exact Vec.blt a8 h
  rintro w B ⟨P,k7⟩
  have h4:=k7.le
  clear t
  refine Wh ?_
  refine zi (s.size-q) (by omega) ⟨q,k,F++[fr],L,v,rfl,o3,by omega,rfl,.cons rfl (.cons rfl (.cons rfl (.cons rfl .nil))),k7.at b0 (fun h=>by omega),k7.at a3 (fun h=>by omega),?_,?_,a8.keep k7 (fun i d=>by subst d;omega),by omega,Y,a7.trans k7 (fun i d=>.inl d),hw,by omega⟩
  ·rw[List.foldl_append];exact P
  ·rw[List.foldl_append];exact C.add (z97 o1).2
 ·have a2:At K a (.cells true [.str s,I q] 276):=k2.at e2 (fun h=>by omega)
  rw[e1] at hw
  simp only at hw
  clear e2 k1 k2 g1 B1 a5 c2 a1 c1 c4 Z S a6
  rcases List.eq_nil_or_concat L with rfl|⟨D,y,rfl⟩
  ·obtain⟨aa,ff,ee,rfl⟩:=U.shape
   refine Wh ?_;intro hh J t C2 C3 h n7 B A C5 C6
   have P:RkMb (fun i=>i=a ∨ ∃ o n f e,LV.slice aa ([]:List Bd).length ff ee=.slice (some (i,o)) n f e) B r (F.foldl rkA R):=(O.keep ((Keep.refl (fun i=>i=a) K).upd t (.inl rfl)) (fun i d=>.inl d) G).grow A.grow
   have b9:Vec H.next 2 26 bdc B (.slice aa ([]:List Bd).length ff ee) []:=(U.keep ((Keep.refl (fun i=>i=a) K).upd t (.inl rfl)) (fun i d=>by subst d;omega)).grow A.grow
   have c3:At B x (.cells true [.ptr (some (a,0))] 273):=xm
   have b1:At B a (rdr s (p+1)):=by
    have:At B a (.cells true [.str s,I ((p:Int)+1)] 276):=xm
    exact this
   have b5:Keep (fun i=>i=r) M B:=(Q.upd t (.inr a4)).new A
   have b2:=zgd (x:=((p:Int),(p:Int))) A
   clear O U a9 Q t A a2
   refine zbn (by exact gd) (l':=[((p:Int),(p:Int))]) b9 rfl rfl rfl (by simp) (by simp) rfl b2 (fun _=>rfl) (fun _=>rfl) (by omega) ?_
   rintro v8 N8 c0 e8 k8 ⟨n8,f8,q8,rfl⟩
   refine Wh ?_
   refine zi (s.size-(p+1)) (by omega) ⟨p+1,k,F,lostA [] p,_,rfl,by omega,by omega,rfl,.cons rfl (.cons rfl (.cons rfl (.cons rfl .nil))),k8.at c3 (fun d=>by have:=d.1;omega),k8.at b1 (fun d=>by have:=d.1;omega),?_,C,c0,?_,?_,b5.trans k8 (fun i d=>.inr (by have:=d.1;omega)),hw,by omega⟩
   ·refine((P.ge (b':=fun i=>(i=a ∨ ∃ o n f e,LV.slice aa ([]:List Bd).length ff ee=.slice (some (i,o)) n f e)∨i=B.next) (fun i d=>d.imp id fun h=>by omega)).keep k8 (fun i d=>.inl (.inr d.2)) (fun h=>?_)).ge (fun i d=>.inl ?_)
    ·rcases h with h|h
     ·exact G h
     ·omega
    ·rcases d with h|⟨o,n,f,e,h⟩
     ·exact .inl (.inl h)
     ·cases h;exact .inr rfl
   ·show 1<=p+1;omega
   ·intro y hy
    obtain rfl:y=((p:Int),(p:Int)):=by simpa [lostA] using hy
    show -1000000<=(p:Int)/\(p:Int)<=1000000
    omega
  ·rw[List.concat_eq_append] at *
   rcases U with⟨h0,_⟩|⟨i,d2,d3,c5⟩
   ·simp at h0
   subst d2
   have u:(D++[y]).length=D.length+1:=by simp
   have h3:=Y y (by simp)
   have b4:i≠a:=by omega
   have c8:Int.toNat (((D++[y]).length:Int)-1)=D.length:=by rw[u];omega
   have d1:z0t ((D++[y]).flatMap bdc) (0+Int.toNat (((D++[y]).length:Int)-1)*2+1) [I p]=some ((D++[(y.1,(p:Int))]).flatMap bdc):=by
    rw[c8,List.flatMap_append,List.flatMap_append]
    have:=z60 (D.flatMap bdc) [I y.1,I y.2] [I p] 1 [I y.1,I p] rfl (by simp)
    have d9:(D.flatMap bdc).length=D.length*2:=z17 (enc:=bdc) (fun _ _=>rfl)
    rw[d9] at this
    rw[Nat.zero_add];exact this
   have c7:lostA (D++[y]) p=if y.2=(p:Int)-1 then D++[(y.1,(p:Int))] else(D++[y])++[((p:Int),(p:Int))]:=by
    unfold lostA
    rw[List.getLast?_concat]
    simp only[List.dropLast_concat]
   refine Wh ?_;intro hh J t C2 C3 h
   have b7:Keep (fun i=>i=a) K J:=(Keep.refl (fun i=>i=a) K).upd t (.inl rfl)
   have V:At J i (.cells true ((D++[y]).flatMap bdc) (apE 26)):=b7.at d3 b4
   have e5:Rd1 J i (0+Int.toNat (((D++[y]).length:Int)-1)*2+1) (I y.2):=by
    have h1:=z18 (enc:=bdc) (sz:=2) V (fun _ _=>rfl) (k:=D.length) (by omega)
    have h2:(D++[y])[D.length]'(by omega)=y:=by simp
    rw[h2] at h1
    rw[c8]
    exact Rd.nth (j:=1) h1 rfl
   have a0:=O.keep b7 (fun i d=>.inl d) G
   have b0:At J x (.cells true [.ptr (some (a,0))] 273):=b7.at a9 (fun h=>by omega)
   have a7:Keep (fun i=>i=r) M J:=Q.upd t (.inr a4)
   have a8:Vec H.next 2 26 bdc J (.slice (some (i,0)) (D++[y]).length false 2) (D++[y]):=.inr ⟨i,rfl,V,c5⟩
   clear O a9 Q t d3 a2
   refine x_l1 (by exact gd) rfl e5 ?_
   repeat' first|with_reducible intro _|refine sv ?_|refine ss ?_ ?_<;>(intro h;first|exact sz h|refine sy h ?_)|exact sq|fail
   ·refine x_st (by exact gd) rfl rfl V rfl rfl d1 ?_
    intro B D1 D2 D3
    have b8:Keep (fun j=>j=i) J B:=(Keep.refl (fun j=>j=i) J).upd D1 (.inl rfl)
    have a3:At J a (rdr s (p+1)):=C3
    refine Wh ?_
    refine zi (s.size-(p+1)) (by omega) ⟨p+1,k,F,D++[(y.1,(p:Int))],_,rfl,by omega,by omega,rfl,.cons rfl (.cons rfl (.cons rfl (.cons rfl .nil))),b8.at b0 (fun h=>by omega),b8.at a3 (fun h=>b4 h.symm),?_,C,?_,?_,?_,a7.upd D1 (.inr (by omega)),?_,by omega⟩
    ·exact a0.keep b8 (fun j hj=>.inr (by subst hj;exact⟨_,_,_,_,rfl⟩)) G
    ·refine .inr ⟨i,by rw[u,show(D++[(y.1,(p:Int))]).length=D.length+1 by simp],D3,c5⟩
    ·rw[show(D++[(y.1,(p:Int))]).length=D.length+1 by simp];omega
    ·intro z hz
     rcases List.mem_append.1 hz with hz|hz
     ·exact Y z (by simp[hz])
     ·rw[List.mem_singleton.1 hz]
      show -1000000<=(p:Int)/\(p:Int)<=1000000
      omega
    ·rw[hw,c7,if_pos ‹y.2=_›]
   ·rename_i n7 B A C5 C6
    have P:=a0.grow A.grow
    have b9:=a8.grow A.grow
    have c3:=b0.grow A.grow
    have b1:At B a (rdr s (p+1)):=At.grow A.grow C3
    have b5:=a7.grow A.grow
    have b2:=zgd (x:=((p:Int),(p:Int))) A
    clear A
    refine zbn (by exact gd) (l':=[((p:Int),(p:Int))]) b9 rfl rfl rfl (by simp) (by rw[u];simp;omega) rfl b2 (fun _=>rfl) (fun _=>rfl) (by omega) ?_
    rintro v8 N8 c0 e8 k8 ⟨n8,f8,q8,rfl⟩
    have e9:i≠a:=b4
    refine Wh ?_
    have g9:x≠i:=by omega
    refine zi (s.size-(p+1)) (by omega) ⟨p+1,k,F,(D++[y])++[((p:Int),(p:Int))],_,rfl,by omega,by omega,rfl,.cons rfl (.cons rfl (.cons rfl (.cons rfl .nil))),k8.at c3 (fun d=>by have:=d.1;omega),k8.at b1 (fun d=>by have:=d.1;omega),?_,C,c0,?_,?_,b5.trans k8 (fun j hj=>.inr (by have:=hj.1;omega)),?_,by omega⟩
    ·refine((P.ge (b':=fun j=>(j=a ∨ ∃ o n f e,LV.slice (some (i,0)) (D++[y]).length false 2=.slice (some (j,o)) n f e)∨j=B.next) (fun i d=>d.imp id fun h=>by omega)).keep k8 (fun i d=>.inl (.inr d.2)) (fun h=>?_)).ge (fun i d=>.inl ?_)
     ·rcases h with h|h
      ·exact G h
      ·omega
     ·rcases d with h|⟨o,n,f,e,h⟩
      ·exact .inl (.inl h)
      ·cases h;exact .inr rfl
    ·rw[List.length_append,u];simp;omega
    ·intro z hz
     rcases List.mem_append.1 hz with hz|hz
     ·exact Y z hz
     ·rw[List.mem_singleton.1 hz]
      show -1000000<=(p:Int)/\(p:Int)<=1000000
      omega
    ·rw[hw,c7,if_neg ‹¬ y.2=_›]
def Mt (s:ByteArray):Nat->List UInt8->Prop
 | _,[]=>True
 | p,b::l=>p<s.size/\byteAt s p=b.toNat/\Mt s (p+1) l
theorem Mt.app:∀ {p:Nat} {a b:List UInt8},Mt s p (a++b)↔Mt s p a/\Mt s (p+a.length) b
 | p,[],b=>by simp[Mt]
 | p,x::a,b=>by
  show(p<s.size/\byteAt s p=x.toNat/\Mt s (p+1) (a++b)) ↔(p<s.size/\byteAt s p=x.toNat/\Mt s (p+1) a)/\Mt s (p+(a.length+1)) b
  rw[Mt.app (p:=p+1),show p+(a.length+1)=p+1+a.length by omega]
  constructor
  ·rintro⟨h1,d,f,g⟩;exact⟨⟨h1,d,f⟩,g⟩
  ·rintro⟨⟨h1,d,f⟩,g⟩;exact⟨h1,d,f,g⟩
theorem Mt.le:∀ {p:Nat} {l:List UInt8},p<=s.size->Mt s p l->p+l.length<=s.size
 | p,[],a,_=>a
 | p,x::l,a,h=>by
  have:=Mt.le (l:=l) (show p+1<=s.size from h.1) h.2.2
  rw[List.length_cons];omega
theorem zjc (h:p<s.size):s.data.toList[p]'h=u8 (byteAt s p):=by
 unfold byteAt u8
 have:s.data.toList.getD p 0=s.data.toList[p]'h:=by rw[List.getD_eq_getElem?_getD,List.getElem?_eq_getElem h];rfl
 rw[this]
 simp
theorem zdn (s:ByteArray)(p q:Nat):(s.extract p q).data.toList=(s.data.toList.drop p).take (q-p):=by
 rw[ByteArray.data_extract,Array.toList_extract]
theorem Mt.drop {s:ByteArray}:∀ {p:Nat} {l:List UInt8},p<=s.size->(Mt s p l ↔(s.data.toList.drop p).take l.length=l)
 | p,[],r=>by simp[Mt]
 | p,x::l,r=>by
  by_cases a:p<s.size
  ·have j:s.data.toList.drop p=u8 (byteAt s p)::s.data.toList.drop (p+1):=by
    rw[<-zjc a];exact List.drop_eq_getElem_cons a
   rw[j,List.length_cons,List.take_succ_cons]
   have f:=Mt.drop (s:=s) (p:=p+1) (l:=l) a
   constructor
   ·rintro⟨_,d,g⟩
    rw[f.1 g,d]
    unfold u8;simp
   ·intro h
    injection h with h1 d
    exact⟨a,by rw[<-h1,u8_n (z3h s p)],f.2 d⟩
  ·obtain rfl:p=s.size:=by omega
   constructor
   ·intro h;exact absurd h.1 a
   ·intro h
    rw[List.drop_of_length_le (by show s.size<=s.size;omega)] at h
    cases h
theorem zmf (s:ByteArray):strL s.data.toList=s:=by
 unfold strL
 apply ByteArray.ext
 simp
theorem Mt.ext (a:p<=s.size):Mt s p l↔p+l.length<=s.size/\s.extract p (p+l.length)=strL l:=by
 constructor
 ·intro h
  refine⟨h.le a,?_⟩
  have d:=(Mt.drop a).1 h
  rw[<-zmf (s.extract p (p+l.length)),zdn,show p+l.length-p=l.length by omega,d]
 ·rintro⟨d,f⟩
  refine(Mt.drop a).2 ?_
  have this:(s.extract p (p+l.length)).data.toList=(strL l).data.toList:=by rw[f]
  rw[zdn,show p+l.length-p=l.length by omega] at this
  rw[this];rfl
theorem ze2 (h:oneB s p=some (b,q)):Mt s p [u8 b]/\q=p+1:=by
 obtain⟨a,d,f⟩:=z9r h
 subst d
 exact⟨⟨a,by rw[u8_n (z3h s p)],trivial⟩,f⟩
theorem zb8 {b:UInt8}(h:Mt s p (b::l)):oneB s p=some (b.toNat,p+1):=by
 unfold oneB
 rw[if_pos h.1,h.2.1]
theorem zmi (h:twoB s p=some (n,q)):Mt s p (twoL n)/\q=p+2/\n<65536:=by
 have d:=z7g h
 unfold twoB at h
 split at h
 ·cases h
 ·rename_i a t j
  split at h
  ·cases h
  ·rename_i b u r
   cases h
   obtain⟨f,rfl⟩:=ze2 j
   obtain⟨g,rfl⟩:=ze2 r
   have:=z3f j
   have:=z3f r
   refine⟨?_,rfl,d.2.2⟩
   unfold twoL
   rw[show(256*a+b)/256=a by omega,show(256*a+b)%256=b by omega]
   exact⟨f.1,f.2.1,g.1,g.2.1,trivial⟩
theorem zlj (f:n<65536)(h:Mt s p (twoL n)):twoB s p=some (n,p+2):=by
 unfold twoB
 have a:=zb8 (l:=[u8 (n%256)]) h
 have d:=zb8 (l:=[]) h.2.2
 rw[a];simp only;rw[d];simp only
 rw[u8_n (by omega),u8_n (by omega)]
 congr 2;omega
theorem zup:∀(j p n u:Nat) {c q:Nat},codeS s j p n u=some (c,q)->1<=u->∃ m,c=n+m*u/\q=p+(cdN m).length/\Mt s p (cdN m)/\(0<m∨u=1)/\m<128^j
 | 0,p,n,u,c,q,h,_=>by cases h
 | j+1,p,n,u,c,q,h,C=>by
  unfold codeS at h
  split at h
  ·cases h
  ·rename_i b D r
   obtain⟨d,rfl⟩:=ze2 r
   have f:=z3f r
   split at h
   ·rename_i a
    split at h
    ·rename_i hz
     cases h
     refine⟨b,by rw[Nat.mod_eq_of_lt a],by rw[z7k a];rfl,by rw[z7k a];exact d,hz,?_⟩
     have:128<=128^(j+1):=by rw[Nat.pow_succ];exact Nat.le_mul_of_pos_left _ (Nat.pow_pos (by omega))
     omega
    ·cases h
   ·obtain⟨m,t,w,y,z,A⟩:=zup j (p+1) _ _ h (by omega)
    have B:0<m:=by omega
    have g:=zar (n:=b%128+128*m) (by omega)
    rw[show(b%128+128*m)%128+128=b by omega,show(b%128+128*m)/128=m by omega] at g
    refine⟨b%128+128*m,?_,?_,?_,.inl (by omega),?_⟩
    ·rw[t,Nat.add_mul,Nat.add_assoc];congr 2;rw[Nat.mul_comm 128 m,Nat.mul_assoc,Nat.mul_comm u 128]
    ·rw[g,List.length_cons,w];omega
    ·rw[g];exact⟨d.1,d.2.1,y⟩
    ·rw[Nat.pow_succ];omega
theorem zv8:∀(j p n u m:Nat),Mt s p (cdN m)->m<128^j->(0<m∨u=1/\0<j)->codeS s j p n u=some (n+m*u,p+(cdN m).length)
 | 0,p,n,u,m,h,d,hz=>by
  have d:m<1:=d
  omega
 | j+1,p,n,u,m,h,d,hz=>by
  unfold codeS
  by_cases a:128<=m
  ·rw[zar a] at h ⊢
   rw[zb8 h,u8_n (by omega)]
   simp only
   rw[if_neg (by omega),zv8 j (p+1) _ _ (m/128) h.2.2 (by rw[Nat.pow_succ] at d;omega) (.inl (by omega)),List.length_cons]
   congr 2
   ·rw[show(m%128+128)%128=m%128 by omega]
    have:m*u=(m%128+128*(m/128))*u:=by rw[Nat.mod_add_div]
    rw[this,Nat.add_mul,Nat.add_assoc];congr 2;rw[Nat.mul_comm 128 (m/128),Nat.mul_assoc,Nat.mul_comm u 128]
   ·omega
  ·rw[z7k (by omega)] at h ⊢
   rw[zb8 h,u8_n (by omega)]
   simp only
   rw[if_pos (by omega),if_pos (by omega),Nat.mod_eq_of_lt (by omega)];rfl
theorem zsh (h:Mt s p (cdN m))(a:m<2097152):codeB s p=some (m,p+(cdN m).length):=by
 have:=zv8 3 p 0 1 m h (by omega) (.inr ⟨rfl,by omega⟩)
 unfold codeB
 rw[this];congr 2;omega
theorem zrq (h:codeB s p=some (c,q)):Mt s p (cdN c)/\q=p+(cdN c).length:=by
 obtain⟨m,f,a,d,_,_⟩:=zup 3 p 0 1 h (by omega)
 obtain rfl:c=m:=by omega
 exact⟨d,a⟩
def csL:Int->List Int->List UInt8
 | _,[]=>[]
 | a,n::l=>cdN (cdS n a).1.toNat++csL (cdS n a).2 l
theorem zgp (l:List Int):∀(r:List Int) (k:Nat),l.drop k=r->k<=l.length->cdsL l l.length=cdsL l k++csL (lsA l k) r
 | [],k,f,j=>by
  have:l.length<=k:=by
   have:=congrArg List.length f
   rw[List.length_drop] at this
   simp at this;omega
  rw[show k=l.length by omega]
  simp[csL]
 | x::r,k,f,j=>by
  have a:k<l.length:=by
   have:=congrArg List.length f
   rw[List.length_drop,List.length_cons] at this
   omega
  have h:getG l k=x:=by
   unfold getG
   rw[List.getD_eq_getElem?_getD,List.getElem?_eq_getElem a]
   have d:=List.drop_eq_getElem_cons a
   rw[f] at d
   injection d with d _
   simp[d]
  have g:l.drop (k+1)=r:=by
   have d:=List.drop_eq_getElem_cons a
   rw[f] at d
   injection d with _ h2
   exact h2.symm
  rw[zgp l r (k+1) g a,zkb,List.append_assoc]
  congr 1
  show cdN (cdA l k).toNat++_=cdN (cdS x (lsA l k)).1.toNat++csL (cdS x (lsA l k)).2 r
  unfold cdA
  rw[h,show lsA l (k+1)=(cdS (getG l k) (lsA l k)).2 from rfl,h]
theorem zrr (l:List Int):cdsL l l.length=csL 0 l:=by
 have:=zgp l l 0 rfl (Nat.zero_le _)
 rw[this]
 show []++csL 0 l=_
 rfl
theorem zxm {a:Int}(f:2<=c)(d:knB (nxS a c)=true):cdS (nxS a c) a=((c:Int),nxS a c):=by
 have g:-32767<=nxS a c/\nxS a c<=32767:=of_decide_eq_true d
 unfold cdS
 rw[if_neg (by omega),if_pos d]
 unfold nxS
 split
 ·rw[if_neg (by omega)];congr 1;omega
 ·rw[if_pos (by omega)];congr 1;omega
theorem zx9 {n a:Int}(g:smB n=true)(u:-32767<=a/\a<=32767):(∃ c:Nat,(cdS n a).1=c/\c<2097152/\((c=0/\n=40000/\(cdS n a).2=a) ∨(c=1/\n=40001/\(cdS n a).2=a) ∨(2<=c/\nxS a c=n/\knB n=true/\(cdS n a).2=n))):=by
 by_cases f:n=40001
 ·subst f
  exact⟨1,rfl,by omega,.inr (.inl ⟨rfl,rfl,rfl⟩)⟩
 by_cases d:knB n=true
 ·have t:-32767<=n/\n<=32767:=of_decide_eq_true d
  unfold cdS
  rw[if_neg f,if_pos d]
  by_cases j:n-a<0
  ·rw[if_pos j]
   refine⟨(1-2*(n-a)).toNat,by show _=_;simp only;omega,by omega,.inr (.inr ⟨by omega,?_,d,rfl⟩)⟩
   unfold nxS;rw[if_neg (by omega)];omega
  ·rw[if_neg j]
   refine⟨(2*(n-a)+2).toNat,by show _=_;simp only;omega,by omega,.inr (.inr ⟨by omega,?_,d,rfl⟩)⟩
   unfold nxS;rw[if_pos (by omega)];omega
 ·have r:n=40000:=by
   unfold smB at g
   simp only[Bool.or_eq_true,decide_eq_true_eq] at g
   rcases g with h|h|h
   ·exact absurd h d
   ·exact h
   ·exact absurd h f
  subst r
  exact⟨0,rfl,by omega,.inl ⟨rfl,rfl,rfl⟩⟩
theorem zqi:∀(k p:Nat) (a:Int) (f:List Int) {l:List Int} {q:Nat},smpB s k p a f=some (l,q)->∃ r,l=f++r/\r.length=k/\q=p+(csL a r).length/\Mt s p (csL a r)
 | 0,p,a,f,l,q,h=>by cases h;exact⟨[],by simp,rfl,rfl,trivial⟩
 | k+1,p,a,f,l,q,h=>by
  unfold smpB at h
  split at h
  ·cases h
  ·rename_i c G C
   obtain⟨y,rfl⟩:=zrq C
   have fin:∀(x d:Int),cdS x a=((c:Int),d)->smpB s k (p+(cdN c).length) d (f++[x])=some (l,q)->∃ r,l=f++r/\r.length=k+1/\q=p+(csL a r).length/\Mt s p (csL a r):=fun x d E z=>by
    obtain⟨r,j,t,u,w⟩:=zqi k _ d _ z
    have g:csL a (x::r)=cdN c++csL d r:=by
     show cdN (cdS x a).1.toNat++csL (cdS x a).2 r=_
     rw[E];rfl
    exact⟨x::r,by rw[j];simp,by rw[List.length_cons,t],by rw[g,List.length_append,u];omega,by rw[g];exact Mt.app.2 ⟨y,w⟩⟩
   split at h
   ·rename_i A;subst A;exact fin 40000 a rfl h
   ·split at h
    ·rename_i B;subst B;exact fin 40001 a rfl h
    ·split at h
     ·rename_i D;exact fin _ _ (zxm (by omega) D) h
     ·cases h
theorem zhc:∀(r:List Int) (p:Nat) (a:Int) (d:List Int),(∀ x∈r,smB x=true)->-32767<=a/\a<=32767->Mt s p (csL a r)->smpB s r.length p a d=some (d++r,p+(csL a r).length)
 | [],p,a,d,_,_,_=>by simp[smpB,csL]
 | n::r,p,a,d,z,w,h=>by
  obtain⟨c,A,B,C⟩:=zx9 (z n (by simp)) w
  have u:csL a (n::r)=cdN c++csL (cdS n a).2 r:=by
   show cdN (cdS n a).1.toNat++_=_
   rw[A];rfl
  rw[u] at h ⊢
  obtain⟨D,g⟩:=Mt.app.1 h
  have t:=zsh D B
  have f:∀ x∈r,smB x=true:=fun x J=>z x (by simp[J])
  rw[List.length_cons,show smpB s (r.length+1) p a d=(match codeB s p with
   | none=>none
   | some (c,q)=>if c=0 then smpB s r.length q a (d++[40000]) else if c=1 then smpB s r.length q a (d++[40001]) else if knB (nxS a c) then smpB s r.length q (nxS a c) (d++[nxS a c]) else none) from rfl,t]
  simp only
  rcases C with⟨rfl,rfl,j⟩|⟨rfl,rfl,j⟩|⟨G,H,y,j⟩
  ·rw[if_pos rfl,j] at *
   rw[zhc r _ a _ f w g,List.length_append]
   simp;omega
  ·rw[if_neg (by omega),if_pos rfl]
   rw[j] at g ⊢
   rw[zhc r _ a _ f w g,List.length_append]
   simp;omega
  ·rw[if_neg (by omega),if_neg (by omega),H,if_pos y]
   rw[j] at g ⊢
   have E:-32767<=n/\n<=32767:=of_decide_eq_true y
   rw[zhc r _ n _ f E g,List.length_append]
   simp;omega
theorem zt2 {k:Nat}{l:List Int}(h:smpB s k p 0 []=some (l,q)):l.length=k/\q=p+(csL 0 l).length/\Mt s p (csL 0 l):=by
 obtain⟨r,a,d,f,g⟩:=zqi k p 0 [] h
 rw[List.nil_append] at a
 subst a
 exact⟨d,f,g⟩
theorem zuv (h:frB x=true):∀ n∈x.2.2,smB n=true:=fun n a=>by
 unfold frB smsB at h
 simp only[Bool.and_eq_true] at h
 exact List.all_eq_true.1 h.2.2.2 n a
theorem zjn (x:Fr):bodyL x=[165,90] ++(twoL x.1.toNat ++([u8 x.2.1.toNat] ++([u8 x.2.2.length]++csL 0 x.2.2))):=by
 unfold bodyL hdL
 rw[zrr]
 simp
theorem zkf (a:p<=s.size)(h:Mt s p l):crcX s p (p+l.length)=crcK (strL l) l.length:=by
 unfold crcX
 rw[((Mt.ext a).1 h).2];rfl
theorem zts (z:p<=s.size)(h:FrD s p=some (x,q)):frB x=true/\q=p+(pkL x).length/\Mt s p (pkL x):=by
 have S:=zjf z h
 unfold FrD at h
 split at h
 ·cases h
 ·rename_i m V G
  split at h
  ·cases h
  ·rename_i g X H
   split at h
   ·cases h
   ·rename_i d Y t
    split at h
    ·cases h
    ·rename_i n Z J
     split at h
     ·rename_i N
      split at h
      ·cases h
      ·rename_i l p5 h5
       split at h
       ·rename_i R
        split at h
        ·cases h
        ·rename_i u p6 j
         cases h
         obtain⟨A,rfl,_⟩:=zmi G
         obtain⟨B,rfl,U⟩:=zmi H
         obtain⟨C,rfl⟩:=ze2 t
         obtain⟨g4,rfl⟩:=ze2 J
         obtain⟨D,rfl,g6⟩:=zt2 h5
         have Q:=z3f t
         obtain⟨rfl,O⟩:=N
         have y:bodyL ((g:Int),(d:Int),l)=twoL 42330 ++(twoL g ++([u8 d] ++([u8 n]++csL 0 l))):=by
          rw[zjn]
          show [165,90] ++(twoL (g:Int).toNat ++([u8 (d:Int).toNat] ++([u8 l.length]++csL 0 l)))=_
          rw[D,Int.toNat_natCast,Int.toNat_natCast];rfl
         have w:Mt s p (bodyL ((g:Int),(d:Int),l)):=by
          rw[y]
          refine Mt.app.2 ⟨A,Mt.app.2 ⟨B,Mt.app.2 ⟨C,Mt.app.2 ⟨g4,?_⟩⟩⟩⟩
          exact g6
         have f:p+(bodyL ((g:Int),(d:Int),l)).length=p+2+2+1+1+(csL 0 l).length:=by
          rw[y];simp[twoL];omega
         unfold chkB at j
         split at j
         ·cases j
         ·rename_i c p7 K
          obtain⟨E,rfl,P⟩:=zmi K
          split at j
          ·rename_i a
           cases j
           rw[<-f,zkf z w] at a
           have r:pkL ((g:Int),(d:Int),l)=bodyL ((g:Int),(d:Int),l)++twoL c:=by
            unfold pkL chkL
            rw[<-a,Int.toNat_natCast]
           refine⟨R,?_,?_⟩
           ·rw[r,List.length_append,<- Nat.add_assoc,f];rfl
           ·rw[r];exact Mt.app.2 ⟨w,by rw[f];exact E⟩
          ·cases j
       ·cases h
     ·cases h
theorem zv6 (H:p<=s.size)(hf:frB x=true)(h:Mt s p (pkL x)):FrD s p=some (x,p+(pkL x).length):=by
 obtain⟨f,d,l⟩:=x
 have r:=zay hf
 have t:=z97 hf
 simp only at r t
 obtain⟨f,rfl⟩:∃ n:Nat,f=n:=⟨f.toNat,by omega⟩
 obtain⟨d,rfl⟩:∃ n:Nat,d=n:=⟨d.toNat,by omega⟩
 have A:bodyL ((f:Int),(d:Int),l)=twoL 42330 ++(twoL f ++([u8 d] ++([u8 l.length]++csL 0 l))):=by
  rw[zjn]
  show [165,90] ++(twoL (f:Int).toNat ++([u8 (d:Int).toNat] ++([u8 l.length]++csL 0 l)))=_
  rw[Int.toNat_natCast,Int.toNat_natCast];rfl
 have g:p+(bodyL ((f:Int),(d:Int),l)).length=p+2+2+1+1+(csL 0 l).length:=by
  rw[A];simp[twoL];omega
 unfold pkL chkL at h
 obtain⟨a,E⟩:=Mt.app.1 h
 have j:=zkf H a
 have G:=a
 rw[A] at a
 obtain⟨J,a⟩:=Mt.app.1 a
 obtain⟨K,a⟩:=Mt.app.1 a
 obtain⟨N,a⟩:=Mt.app.1 a
 obtain⟨O,P⟩:=Mt.app.1 a
 have C:=zlj (by omega) J
 have D:=zlj (by omega) K
 have u:=zb8 N
 have w:=zb8 O
 rw[u8_n (by omega)] at u w
 have y:=zhc l _ 0 [] (zuv hf) (by omega) P
 rw[List.nil_append] at y
 have B:=z8t (strL (bodyL ((f:Int),(d:Int),l))) (bodyL ((f:Int),(d:Int),l)).length
 have z:=zlj (by omega) E
 rw[g] at z j
 unfold FrD
 simp only[twoL,List.length_cons,List.length_nil] at C D u w y z
 rw[C];simp only;rw[D];simp only;rw[u];simp only;rw[w];simp only
 rw[if_pos ⟨by first|trivial|rfl,by omega,by omega⟩,y]
 simp only
 rw[if_pos hf]
 unfold chkB
 rw[z]
 simp only
 rw[if_pos (by rw[j];omega)]
 simp only
 unfold pkL chkL
 rw[List.length_append,<- Nat.add_assoc,g]
 rfl
end Go.Proofs.YtpgalhbplcanhaaGreatDoor.C
end
section
open Go PvL Go.Proofs
variable {μ:Md}
namespace Go.Proofs.YtpgalhbplcanhaaGreatDoor.C
theorem zml{s:ByteArray}:∀(k p:Nat) (F:List Fr) (L:List Bd),p<=s.size->FrOk F->F.length<=p->FrOk (whB s k p F L).1/\(whB s k p F L).1.length<=s.size
 | 0,p,F,L,d,h,f=>⟨h,by show F.length<=_;omega⟩
 | k+1,p,F,L,d,h,f=>by
  unfold whB
  split
  ·split
   ·rename_i x q g
    have h1:=zjf d g
    refine zml k q _ _ h1.2.2 (fun y a=>?_) (by rw[List.length_append];simp;omega)
    rcases List.mem_append.1 a with a|a
    ·exact h y a
    ·rw[List.mem_singleton.1 a];exact h1.1
   ·exact zml k (p+1) F _ (by omega) h (by omega)
  ·exact⟨h,by show F.length<=_;omega⟩
theorem zqp(s:ByteArray):FrOk (whA s).1/\(whA s).1.length<=s.size:=zml s.size 0 [] [] (Nat.zero_le _) (fun _ h=>nomatch h) (Nat.le_refl _)
theorem zm2(l:List Fr):(rackF l).length<=l.length:=by
 have:∀(l:List Fr) (R:Rk),(l.foldl rkA R).length<=R.length+l.length:=fun l=>by
  induction l with
  | nil=>intro R;exact Nat.le_refl _
  | cons z l a=>
   intro R
   have f:=a (rkA R z)
   have g:(rkA R z).length<=R.length+1:=by
    have:=congrArg List.length (zfx R (fky z) (z1m ((lkK R (fky z)).getD []) z.2.2))
    rw[List.length_map] at this
    unfold rkA
    rw[this]
    split<;>simp
   rw[List.foldl_cons,List.length_cons];omega
 have:=this l []
 unfold rackF
 have d:([]:Rk).length=0:=rfl
 omega
theorem ne9{l:List Fr}(h:FrOk l):∀ z∈z2y l,z.2.2≠[]:=fun z hz=>by
 have a:=z97 (zkr (J:=[]) (fun _ h=>absurd h List.not_mem_nil) h z hz)
 intro d;rw[d] at a;exact absurd a.1 (by decide)
end Go.Proofs.YtpgalhbplcanhaaGreatDoor.C
end
section
open Go PvL Go.Proofs
namespace Go.Proofs.YtpgalhbplcanhaaGreatDoor.C
variable {M:Mem} {s:ByteArray} {L T F:List Fr} {b:List UInt8} {l l':List Int}
def pfF (x:Fr):List UInt8×Int:=if frB x then(pkL x,0) else([],80)
set_option maxHeartbeats 4000000 in
theorem zey {v:LV}{x:Fr}(t:FrV M v x)(r:FrIn x):zc Tryz.prog 16 [v] M (fun w M'=>w=.tup [.str (strL (pfF x).1),I (pfF x).2]/\Grow M M'):=by
 have u:=t
 obtain⟨a,f,e,rfl,D⟩:=u
 refine zd Y16.2 rfl ?_
 delta Y16;refine un ?_
 have j:=fun M' (g:Grow M M')=>z7i (t.grow g) r
 cases d:frB x with
 | false=>
  rw[show errF x=80 from by unfold errF;rw[d];rfl] at j
  rw[show pfF x=([],80) from by unfold pfF;rw[d];rfl]
  refine Wph @j ?_;intros
  refine kf ?_
  exact⟨rfl,xg⟩
 | true=>
  rw[show errF x=0 from by unfold errF;rw[d];rfl] at j
  rw[show pfF x=(pkL x,0) from by unfold pfF;rw[d];rfl]
  have y:=fun M' (g:Grow M M')=>znh (t.grow g) d
  repeat' first|with_reducible intro _|refine sv ?_|((with_reducible first|apply zw|apply zx|apply zm);exact gd;exact rfl;exact rfl;(first|exact j _ (xg)))|((with_reducible first|apply zk|apply zp|apply zh);exact gd;exact rfl;exact rfl;(first|exact y _ (xg)))|refine ss ?_ ?_<;>(intro h;first|exact sz h|refine sy h ?_)|exact sq|fail
  rename_i B
  obtain⟨b,z,A,g⟩:=B
  refine z35 (by exact gd) (ApB.bstr z rfl) ?_
  have C:=g.le
  refine Wh ?_
  refine kf ?_
  exact⟨rfl,xg⟩
theorem zqc (x:Fr):0 <(pkL x).length:=by
 unfold pkL chkL bodyL hdL
 simp only[List.length_append,List.length_cons]
 omega
def Hm (x:List UInt8):Prop:=∀ b∈x,b.toNat≠165
theorem zsr (x:Fr):∃ t,pkL x=165::t:=⟨_,rfl⟩
theorem ztt {p:Nat}(f:p<=s.size)(h:byteAt s p≠165):FrD s p=none:=by
 cases d:FrD s p with
 | none=>rfl
 | some z=>
  obtain⟨x,q⟩:=z
  obtain⟨_,_,a⟩:=zts f d
  obtain⟨t,g⟩:=zsr x
  rw[g] at a
  exact absurd a.2.1 h
theorem zv7 (l:List UInt8):Mt (strL l) 0 l:=by
 refine(Mt.drop (Nat.zero_le _)).2 ?_
 show(l.drop 0).take l.length=l
 rw[List.drop_zero,List.take_length]
theorem zkz (a:FrOk L):GdL (z2y L) :=
 ⟨(zvk a.k).s,zkr (J:=[]) (fun _ h=>absurd h List.not_mem_nil) a⟩
theorem hasK {x:Fr}:∀ {L J:List Fr},SrtJ J->(∀ y∈J,FrK y)->(∀ y∈L,FrK y)->(x∈L ∨ ∃ l,lkJ J (fky x)=some l/\z1m l x.2.2=l)->∃ l,lkJ (L.foldl addR J) (fky x)=some l/\z1m l x.2.2=l
 | [],J,_,_,_,h=>by
  rcases h with h|h
  ·cases h
  ·exact h
 | f::L,J,h1,w,r,h=>by
  obtain⟨t,u,j,_⟩:=zbo h1 w (r f (by simp))
  show ∃ l,lkJ (L.foldl addR (addR J f)) (fky x)=some l/\_
  refine hasK t u (fun y z=>r y (by simp[z])) ?_
  rcases h with h|⟨l,d,g⟩
  ·rcases List.mem_cons.1 h with rfl|h
   ·refine .inr ⟨_,by rw[j,if_pos rfl],?_⟩
    rw[z5s,zal]
   ·exact .inl h
  ·refine .inr ?_
   rw[j]
   by_cases a:fky x=fky f
   ·rw[if_pos a,<- a,d]
    refine⟨_,rfl,?_⟩
    show z1m (z1m l f.2.2) x.2.2=z1m l f.2.2
    rw[z5s,zhx f.2.2,<- z5s,g]
   ·rw[if_neg a];exact⟨l,d,g⟩
theorem sameK (d:GdL T):∀ {L J:List Fr},SrtJ J->(∀ y∈J,FrK y)->(∀ y∈L,y∈T)->(∀ k l,lkJ J k=some l->lkJ T k=some l)->(∀ k l,lkJ (L.foldl addR J) k=some l->lkJ T k=some l)
 | [],J,_,_,_,h=>h
 | f::L,J,h1,z,r,h=>by
  have hf:=r f (by simp)
  obtain⟨t,u,w,_⟩:=zbo h1 z (d.k f hf)
  show ∀ k l,lkJ (L.foldl addR (addR J f)) k=some l->_
  refine sameK d t u (fun y A=>r y (by simp[A])) fun k l=>?_
  rw[w]
  by_cases g:k=fky f
  ·rw[if_pos g,g]
   intro e
   have e:=Option.some.inj e
   have a:=zdy d.s f hf
   cases j:lkJ J (fky f) with
   | none=>
    rw[j] at e
    rw[a,<- e]
    show some _=some (z1m [] f.2.2)
    rw[z8f]
   | some l'=>
    have:=h _ _ j
    rw[a] at this
    rw[j,<- Option.some.inj this] at e
    rw[a,<- e]
    show some _=some (z1m f.2.2 f.2.2)
    rw[zal]
  ·rw[if_neg g];exact h k l
theorem zff (a:GdL T)(h1:∀ y∈L,y∈T)(r:∀ y∈T,y∈L):z2y L=T:=by
 have j:FrOk L:=fun y z=>a.b y (h1 y z)
 have w:=zkz j
 refine zp0 w.s a.s fun k=>?_
 have t:=sameK a (L:=L) (J:=[]) List.Pairwise.nil (fun _ h=>absurd h List.not_mem_nil) h1 (fun _ _ h=>by cases h)
 cases d:lkJ (z2y L) k with
 | some l=>exact(t k l d).symm
 | none=>
  cases f:lkJ T k with
  | none=>rfl
  | some l=>
   obtain⟨y,u,h5,A⟩:=zh5 f
   obtain⟨l',g,_⟩:=hasK (x:=y) (L:=L) (J:=[]) List.Pairwise.nil (fun _ h=>absurd h List.not_mem_nil) j.k (.inl (r y u))
   rw[h5] at g
   rw[show lkJ (z2y L) k=lkJ (L.foldl addR []) k from rfl,g] at d
   cases d
inductive Cp:List UInt8->List Fr->Prop
 | nil:Cp [] []
 | junk {b:List UInt8} {F:List Fr} {x:List UInt8} (h:Cp b F) (hx:Hm x):Cp (b ++ x) F
 | fr {b:List UInt8} {F:List Fr} {f:Fr} (h:Cp b F) (hf:frB f=true):Cp (b ++ pkL f) (F ++ [f])
theorem zmm:∀(x:List UInt8) (k p:Nat) (F:List Fr) (L:List Bd),Hm x->Mt s p x->p<=s.size->s.size-p<=k ->
  ∃ a d,whB s k p F L=whB s a (p+x.length) F d/\s.size-(p+x.length)<=a
 | [],k,p,F,L,_,_,_,h=>⟨k,L,rfl,h⟩
 | b::x,k,p,F,L,r,g,z,h=>by
  have f:p<s.size:=g.1
  obtain⟨k,rfl⟩:∃ j,k=j+1:=⟨k-1,by omega⟩
  have w:byteAt s p≠165:=by rw[g.2.1];exact r b (by simp)
  obtain⟨a,d,t,A⟩:=zmm x k (p+1) F (lostA L p) (fun c y=>r c (by simp[y])) g.2.2 (by omega) (by omega)
  refine⟨a,d,?_,by rw[List.length_cons];omega⟩
  rw[show whB s (k+1) p F L=whB s k (p+1) F (lostA L p) by
   conv=>lhs;unfold whB
   rw[if_pos f,ztt z w]]
  rw[t,List.length_cons]
  have u:p+1+x.length=p+(x.length+1):=by omega
  rw[u]
theorem zxu (h:Cp b F):Mt s 0 b->∃ a g,whA s=whB s a b.length F g/\s.size-b.length<=a:=by
 induction h with
 | nil=>intro _;exact⟨s.size,[],rfl,by simp⟩
 | @junk b F x h hx w=>
  intro u
  obtain⟨r,d⟩:=Mt.app.1 u
  rw[Nat.zero_add] at d
  obtain⟨a,g,t,y⟩:=w r
  have C:=r.le (Nat.zero_le _)
  obtain⟨G,z,A,B⟩:=zmm x a b.length F g hx d (by omega) y
  exact⟨G,z,by rw[t,A,List.length_append],by rw[List.length_append];exact B⟩
 | @fr b F f h hf w=>
  intro u
  obtain⟨r,d⟩:=Mt.app.1 u
  rw[Nat.zero_add] at d
  obtain⟨a,g,t,y⟩:=w r
  have C:=r.le (Nat.zero_le _)
  have E:=zqc f
  have D:=d.le (by omega)
  obtain⟨a,rfl⟩:∃ j,a=j+1:=⟨a-1,by omega⟩
  refine⟨a,g,?_,by rw[List.length_append];omega⟩
  rw[t,List.length_append]
  conv=>lhs;unfold whB
  rw[if_pos (by omega),zv6 (by omega) hf d]
theorem zqo (h:Cp b F):(whA (strL b)).1=F:=by
 obtain⟨d,f,a,_⟩:=zxu h (zv7 b)
 rw[a]
 have g:(strL b).size=b.length:=rfl
 cases d with
 | zero=>rfl
 | succ k=>unfold whB;rw[if_neg (by omega)]
theorem zxl {k:Nat}(d:k<l.length)(a:k<l'.length)(h:l[k]≠l'[k]):decide (l=l')=false:=by
 rw[decide_eq_false_iff_not]
 rintro rfl
 exact h rfl
set_option maxHeartbeats 2000000 in
theorem zr6 {a b:Option (Nat×Nat)}{f f':Bool}{e e':Nat}(J:SlI M a l)(K:SlI M b l')(Q:l.length<=1000000000000000)(N:l'.length<=1000000000000000) :
  zc Tryz.prog 27 [.slice a l.length f e,.slice b l'.length f' e'] M (fun w M'=>w=.bool (decide (l=l'))/\M'=M):=by
 refine zd Y27.2 rfl ?_
 delta Y27;refine un ?_
 by_cases B:l.length=l'.length
 ·refine Wg ?_;intros
  refine zg (fun m E G M'=>∃ k:Nat,m=l.length-k/\k<=l.length/\G=[]/\Has E [(0,.slice a l.length f e),(1,.slice b l'.length f' e'),(5,I k)]/\M'=M/\l.take k=l'.take k)
   ?_ l.length _ _ _ ⟨0,by omega,by omega,rfl,hz,rfl,rfl⟩
  rintro m E G O ⟨k,rfl,P,rfl,H,rfl,d⟩
  refine z06 H ?_
  by_cases r:k=l.length
  ·subst r
   refine Wh ?_;intros
   refine kf ?_
   refine⟨?_,rfl⟩
   rw[List.take_of_length_le (Nat.le_refl _),List.take_of_length_le (by omega)] at d
   rw[decide_eq_true d];rfl
  ·have t:k<l.length:=by omega
   have g:k<l'.length:=by omega
   obtain⟨i,o,rfl,D⟩:=J.rd t
   obtain⟨R,S,rfl,u⟩:=K.rd g
   by_cases j:l[k]=l'[k]
   ·rw[<-j] at u
    have C:l.take (k+1)=l'.take (k+1):=by
     rw[List.take_succ_eq_append_getElem t,List.take_succ_eq_append_getElem g,d,j]
    generalize l[k]=p at *
    have y:=D;have z:=u;refine Wg ?_;intros
    refine zi (l.length-(k+1)) (by omega) ⟨k+1,rfl,by omega,rfl,hz,rfl,C⟩
   ·have A:=zxl t g j
    rw[A]
    generalize l[k]=p at *
    generalize l'[k]=q at *
    have y:=D;have z:=u;refine Wg ?_;intros
    refine kf ?_
    exact⟨rfl,rfl⟩
 ·have A:decide (l=l')=false:=by
   rw[decide_eq_false_iff_not];rintro rfl;exact B rfl
  rw[A]
  refine Wg ?_;intros
  refine kf ?_
  exact⟨rfl,rfl⟩
set_option maxHeartbeats 2000000 in
theorem zez {v w:LV}{x y:Fr}(Q:FrV M v x)(R:FrV M w y)(O:x.2.2.length<=1000000000000000)(u:y.2.2.length<=1000000000000000) :
  zc Tryz.prog 144 [v,w] M (fun r M'=>r=.bool (decide (x=y))/\Grow M M'):=by
 obtain⟨a,f,e,rfl,P⟩:=Q
 obtain⟨b,J,H,rfl,z⟩:=R
 obtain⟨A,B,d⟩:=x
 obtain⟨C,D,g⟩:=y
 dsimp only at *
 have N:decide ((A,B,d)=(C,D,g))=(decide (A=C)&&(decide (B=D)&&decide (d=g))):=by
  rw[Bool.eq_iff_iff];simp
 rw[N]
 have K:∀ M',Grow M M'->zc Tryz.prog 27 [.slice a d.length f e,.slice b g.length J H] M' (fun w j=>w=.bool (decide (d=g))/\j=M'):=fun M' G=>zr6 (P.grow G) (z.grow G) O u
 refine zd Y144.2 rfl ?_
 delta Y144;refine un ?_
 by_cases t:A=C
 ·by_cases E:B=D
  ·refine Wsh @K ?_;intros
   refine kf ?_
   refine⟨?_,xg⟩
   rw[decide_eq_true t,decide_eq_true E];rfl
  ·refine Wh ?_;intros
   refine kf ?_
   refine⟨?_,xg⟩
   rw[decide_eq_true t,decide_eq_false E];rfl
 ·refine Wh ?_;intros
  refine kf ?_
  refine⟨?_,xg⟩
  rw[decide_eq_false t];rfl
end Go.Proofs.YtpgalhbplcanhaaGreatDoor.C
end
section
open Go PvL Go.Proofs
variable {μ:Md}
namespace Go.Proofs.YtpgalhbplcanhaaGreatDoor.C
set_option maxHeartbeats 4000000 in
theorem zd7{M:Mem}{a b:Option (Nat×Nat)}{L:List Fr}{f f':Bool}{e e':Nat}(Q:FsV M a L)(A:FsV M b L)(Y:L.length<=1000000)(O:∀ z∈L,z.2.2.length<=1000000) :
  zc Tryz.prog 72 [.slice a L.length f e,.slice b L.length f' e'] M (fun w M'=>w=.bool true/\Grow M M'):=by
 refine zd Y72.2 rfl ?_
 delta Y72;refine un ?_
 refine Wg ?_;intros
 refine zg (fun z E H M'=>∃(k:Nat),z=L.length-k/\k<=L.length/\H=[]/\Has E [(0,.slice a L.length f e),(1,.slice b L.length f' e'),(5,I k)]/\Grow M M')
  ?_ (L.length-0) _ _ _ ⟨0,rfl,Nat.zero_le _,rfl,hz,Grow.refl _⟩
 rintro z E H S ⟨k,rfl,X,rfl,N,d⟩
 refine z06 N ?_
 by_cases j:k=L.length
 ·subst j
  refine Wh ?_;intros
  refine kf ?_
  exact⟨rfl,d⟩
 have g:k<L.length:=by omega
 obtain⟨i,o,bk,V,uk,rfl,y,B⟩:=(Q.grow d).rd g
 obtain⟨Z,o',J,K,R,rfl,r,t⟩:=(A.grow d).rd g
 have P:=O (fe L k) (by rw[z6j g];exact List.getElem_mem g)
 have C:=zez B t (by omega) (by omega)
 rw[decide_eq_true rfl] at C
 have D:=y;have G:=r;refine Wph @C ?_;intro _ U u q3 _
 exact zi (L.length-(k+1)) (by omega) ⟨k+1,rfl,by omega,rfl,hz,d.trans u⟩
set_option maxHeartbeats 4000000 in
theorem zi5{M:Mem}{v w:LV}{r:Rl}(E:RlV M v r)(G:RlV M w r)(C:r.2.length<=1000000)(A:∀ z∈r.2,z.2.2.length<=1000000) :
  zc Tryz.prog 25 [v,w] M (fun u M'=>u=.bool true/\Grow M M'):=by
 obtain⟨a,f,e,rfl,D⟩:=E
 obtain⟨b,j,g,rfl,d⟩:=G
 refine zd Y25.2 rfl ?_
 delta Y25;refine un ?_
 have B:(r.1==r.1)=true:=zam _
 have y:=fun M' t=>zd7 (M:=M') (f:=f) (f':=j) (e:=e) (e':=g) (D.grow t) (d.grow t) C A
 repeat' first|with_reducible intro _|refine sv ?_|((with_reducible first|apply zw|apply zx|apply zm);exact gd;exact rfl;exact rfl;(first|exact y _ (xg)))|refine ss ?_ ?_<;>(intro h;first|exact sz h|refine sy h ?_)|exact sq|fail
 ·refine kf ?_
  exact⟨rfl,xg⟩
 ·rw[B] at h;cases h
def SlS(M:Mem)(a:Option (Nat×Nat))(L:List ByteArray):Prop:=L=[] ∨ ∃ i o,a=some (i,o) /\ ∀ k (d:k<L.length),Rd1 M i (o+k*1) (.str L[k])
theorem SlS.grow{M M':Mem}{a:Option (Nat×Nat)}{L:List ByteArray}(h:SlS M a L)(g:Grow M M'):SlS M' a L :=
 h.imp id fun⟨i,o,d,f⟩=>⟨i,o,d,fun k j=>(f k j).grow g⟩
theorem SlS.rd{M:Mem}{a:Option (Nat×Nat)}{L:List ByteArray}(h:SlS M a L){k:Nat}(d:k<L.length):∃ i o,a=some (i,o)/\Rd1 M i (o+k*1) (.str L[k]):=by
 rcases h with rfl|⟨i,o,f,g⟩
 ·exact absurd d (Nat.not_lt_zero _)
 ·exact⟨i,o,f,g k d⟩
def lgB(s:ByteArray):Bool:=decide (65536<s.size)
def frsC(L:List ByteArray):List Fr:=L.flatMap fun s=>(whA s).1
def repF(n:ByteArray)(L:List ByteArray):Rl×Int :=
 if nmB n=true then(if L.length<=8/\L.any lgB=false then(if 128 <(z2y (frsC L)).length then(zRl,6) else((n,z2y (frsC L)),0)) else(zRl,3)) else(zRl,2)
theorem zjv(s:ByteArray)(a:s.size<=1000000000000000)(M:Mem):zc Tryz.prog 80 [.str s] M (fun w M'=>w=.bool (lgB s)/\M'=M):=by
 refine zd Y80.2 rfl ?_
 delta Y80;refine un ?_
 refine Wh ?_
 refine kf ?_
 refine⟨?_,rfl⟩
 unfold lgB
 simp[packed]
 omega
set_option maxHeartbeats 1000000 in
theorem zd6{a:Option (Nat×Nat)}{n:Nat}{f:Bool}{e:Nat}{g:FuncId}{fi ca:List LV}{M:Mem}(t:Nat->LV)(p:Nat->Bool)(U:n<=1000000000000000)
  (A:∀ k,k<n->∃ i o,a=some (i,o)/\Rd1 M i (o+k*1) (t k)) (R:∀ k,k<n->∀ M',Grow M M'->zc Tryz.prog g (fi++[t k]++ca) M' (fun w D=>w=.bool (p k)/\D=M')) :
  zc Tryz.prog 146 [.slice a n f e,.func (.func g) fi ca] M (fun w M'=>∃ r:Int,w=I r/\(0<=r ↔(List.range n).any p=true)/\M'=M):=by
 refine zd Y146.2 rfl ?_
 delta Y146;refine un ?_
 refine Wh ?_
 refine zg (fun m E N M'=>∃ k:Nat,m=n-k/\k<=n/\N=[]/\Has E [(0,.slice a n f e),(1,.func (.func g) fi ca),(7,I n),(8,I k)]/\M'=M /\ ∀ j,j<k->p j=false)
  ?_ n _ _ _ ⟨0,by omega,by omega,rfl,hz,rfl,fun j J=>absurd J (Nat.not_lt_zero _)⟩
 rintro m E N O ⟨k,rfl,S,rfl,Q,rfl,u⟩
 refine z06 Q ?_
 by_cases y:k=n
 ·subst y
  refine Wh ?_;intro h
  refine kf ?_
  refine⟨-1,rfl,?_,rfl⟩
  rw[z56]
  exact⟨fun h=>by omega,fun⟨j,P,H⟩=>by rw[u j P] at H;cases H⟩
 have z:k<n:=by omega
 obtain⟨i,o,rfl,K⟩:=A k z
 have C:=R k z O (Grow.refl _)
 cases d:p k with
 | true=>
  rw[d] at C
  have B:=K;refine Wsh @C ?_;intros
  refine kf ?_
  refine⟨k,rfl,?_,rfl⟩
  rw[z56]
  exact⟨fun _=>⟨k,z,d⟩,fun _=>by omega⟩
 | false=>
  rw[d] at C
  have B:=K;refine Wsh @C ?_;intros
  refine zi (n-(k+1)) (by omega) ⟨k+1,rfl,by omega,rfl,hz,rfl,fun j J=>?_⟩
  by_cases G:j=k
  ·subst G;exact d
  ·exact u j (by omega)
theorem z8m{a:Option (Nat×Nat)}{n:Nat}{f:Bool}{e:Nat}{g:FuncId}{fi ca:List LV}{M:Mem}(d:Nat->LV)(p:Nat->Bool)(y:n<=1000000000000000)
  (j:∀ k,k<n->∃ i o,a=some (i,o)/\Rd1 M i (o+k*1) (d k)) (z:∀ k,k<n->∀ M',Grow M M'->zc Tryz.prog g (fi++[d k]++ca) M' (fun w t=>w=.bool (p k)/\t=M')) :
  zc Tryz.prog 79 [.slice a n f e,.func (.func g) fi ca] M (fun w M'=>w=.bool ((List.range n).any p)/\M'=M):=by
 refine zd Y79.2 rfl ?_
 delta Y79;refine un ?_
 have u:=zd6 (f:=f) (e:=e) d p y j z
 refine Wlh @u ?_;intro _ _ A
 obtain⟨r,rfl,B,rfl⟩:=A
 refine Wh ?_
 refine kf ?_
 refine⟨?_,rfl⟩
 exact congrArg LV.bool (by rw[Bool.eq_iff_iff,decide_eq_true_iff];exact B)
theorem zuf{M:Mem}{a:Option (Nat×Nat)}{L:List ByteArray}{f:Bool}{e:Nat}(A:SlS M a L)(y:L.length<=1000000000000000)(z:∀ s∈L,s.size<=1000000000000000) :
  zc Tryz.prog 79 [.slice a L.length f e,.func (.func 80) [] []] M (fun w M'=>w=.bool (L.any lgB)/\M'=M):=by
 have:=z8m (f:=f) (e:=e) (g:=80) (fi:=[]) (ca:=[]) (M:=M) (a:=a) (n:=L.length) (fun k=>.str (L.getD k ⟨#[]⟩)) (fun k=>lgB (L.getD k ⟨#[]⟩)) y (fun k r=>by
  obtain⟨i,o,d,h⟩:=A.rd r
  exact⟨i,o,d,by rw[List.getD_eq_getElem?_getD,List.getElem?_eq_getElem r];exact h⟩) (fun k r M' B=>zjv _ (by rw[List.getD_eq_getElem?_getD,List.getElem?_eq_getElem r];exact z _ (List.getElem_mem r)) M')
 have u:(List.range L.length).any (fun k=>lgB (L.getD k ⟨#[]⟩))=L.any lgB:=by
  rw[Bool.eq_iff_iff,z56,List.any_eq_true]
  constructor
  ·rintro⟨j,d,h⟩
   refine⟨L[j],List.getElem_mem d,?_⟩
   rw[List.getD_eq_getElem?_getD,List.getElem?_eq_getElem d] at h;exact h
  ·rintro⟨x,d,h⟩
   obtain⟨j,t,rfl⟩:=List.getElem_of_mem d
   exact⟨j,t,by rw[List.getD_eq_getElem?_getD,List.getElem?_eq_getElem t];exact h⟩
 rw[u] at this;exact this
theorem zku(L:List ByteArray):FrOk (frsC L):=fun x a=>by
 obtain⟨s,_,h⟩:=List.mem_flatMap.1 a
 exact(zqp s).1 x h
theorem zuw{L:List ByteArray}{k:Nat}(h:k<L.length):frsC (L.take (k+1))=frsC (L.take k) ++(whA L[k]).1:=by
 unfold frsC
 rw[List.take_succ_eq_append_getElem h,List.flatMap_append];simp
theorem zgv:∀(L:List ByteArray),L.any lgB=false->(frsC L).length<=65536*L.length
 | [],_=>Nat.le_refl _
 | s::L,h=>by
  rw[List.any_cons,Bool.or_eq_false_iff] at h
  have h1:¬ 65536<s.size:=of_decide_eq_false h.1
  have a:=zgv L h.2
  have d:=(zqp s).2
  show((whA s).1++frsC L).length<=_
  rw[List.length_append,List.length_cons];omega
theorem zxk{L:List ByteArray}(h:L.any lgB=false){k:Nat}(f:k<L.length):L[k].size<=65536:=by
 have a:=List.any_eq_false.1 h L[k] (List.getElem_mem f)
 have g:¬ 65536<L[k].size:=fun d=>a (decide_eq_true d)
 omega
set_option maxHeartbeats 8000000 in
theorem zn8{M:Mem}{n:ByteArray}{a:Option (Nat×Nat)}{L:List ByteArray}{f:Bool}{e:Nat}(hs:SlS M a L)(hn:n.size<=1000000000000000)(hL:L.length<=1000000000000000)(hb:∀ s∈L,s.size<=1000000000000000) :
  CallN Tryz.prog 24 [.str n,.slice a L.length f e] M (fun w M'=>∃ v,w=.tup [v,I (repF n L).2]/\RlV M' v (repF n L).1/\Grow M M'):=by
 refine z1z Y24.2 rfl ?_
 delta Y24;refine un ?_
 have y:=fun M=>zgi n hn M
 have K:=fun M' (B:Grow M M')=>zuf (f:=f) (e:=e) (hs.grow B) hL hb
 by_cases g:nmB n=true
 case neg=>
  have S:repF n L=(zRl,2):=by unfold repF;rw[if_neg g]
  rw[S]
  rw[Bool.not_eq_true] at g
  rw[g] at y
  refine Wsh @y ?_;intros
  refine kf ?_
  exact⟨_,rfl,z88 _,xg⟩
 rw[g] at y
 by_cases t:L.length<=8/\L.any lgB=false
 case neg=>
  have S:repF n L=(zRl,3):=by unfold repF;rw[if_pos g,if_neg t]
  rw[S]
  by_cases h8:L.length<=8
  ·have j:L.any lgB=true:=by
    cases hq:L.any lgB with
    | true=>rfl
    | false=>exact absurd ⟨h8,hq⟩ t
   rw[j] at K
   repeat' first|with_reducible intro _|refine sv ?_|((with_reducible first|apply z01|apply z05|apply zr);exact gd;exact rfl;exact rfl;(first|exact y _|exact K _ (xg)))|refine ss ?_ ?_<;>(intro h;first|exact sz h|refine sy h ?_)|exact sq|fail
   all_goals first|(exfalso;omega)|skip
   refine kf ?_
   exact⟨_,rfl,z88 _,xg⟩
  ·refine Wsh @y ?_;intros
   all_goals first|(exfalso;omega)|skip
   refine kf ?_
   exact⟨_,rfl,z88 _,xg⟩
 have S:repF n L=if 128 <(z2y (frsC L)).length then(zRl,6) else((n,z2y (frsC L)),0):=by unfold repF;rw[if_pos g,if_pos t]
 rw[S]
 obtain⟨h8,j⟩:=t
 rw[j] at K
 repeat' first|with_reducible intro _|refine sv ?_|((with_reducible first|apply z01|apply z05|apply zr);exact gd;exact rfl;exact rfl;(first|exact y _|exact K _ (xg)))|refine ss ?_ ?_<;>(intro h;first|exact sz h|refine sy h ?_)|exact sq|fail
 all_goals first|(exfalso;omega)|skip
 rename_i V M1 A1 A2 A3 a6 a7 r M2 A4 A5 A6
 have Q:=RkM.nil A4
 have g2:Grow M M2:=xg
 have a2:At M2 V (.cells true [.str ⟨#[]⟩,.slice none 0 true 0] 80):=xm
 have a9:V<r:=by omega
 have b0:M.next<=r:=by omega
 clear A1 A4 K y
 refine zg (fun z E ms M'=>∃(k:Nat),z=L.length-k/\k<=L.length/\ms=[]/\Has E [(0,.str n),(4,.ptr (some (V,0))),(6,.map (some r)),(24,.slice a L.length f e),(25,I L.length),(26,I k)] /\
   RkM M' r ((frsC (L.take k)).foldl rkA [])/\RkB ((frsC (L.take k)).foldl rkA [])/\At M' V (.cells true [.str ⟨#[]⟩,.slice none 0 true 0] 80)/\Grow M M')
  ?_ (L.length-0) _ _ _ ⟨0,rfl,Nat.zero_le _,rfl,hz,Q,RkB.nil,a2,g2⟩
 clear Q a2
 rintro z E ms N ⟨k,rfl,hk,rfl,hE,J,hB,X,B⟩
 refine z06 hE ?_
 by_cases G:k=L.length
 ·subst G
  rw[List.take_length] at J hB
  have a8:=zgv L j
  have a1:=zm2 (frsC L)
  unfold rackF at a1
  have U:=zvk (zku L).k
  unfold rackF at U
  refine Wh ?_;intros
  refine z55 gd rfl rfl (zne J U (ne9 (zku L)) (by omega)) ?_
  rintro w3 M3 ⟨hc,C⟩
  have a3:=At.grow C X
  have g3:=B.trans C
  clear B C X J
  rcases hc with⟨hl,aj,fj,ej,rfl,Z⟩|⟨hl,rfl⟩
  ·rw[if_neg (by omega)]
   refine Wh ?_;intro _ u d Y O
   have A:Grow M u:=g3.upd d (by omega)
   refine kf ?_
   exact⟨_,rfl,⟨aj,fj,ej,rfl,(FsV1.updr Z a3 d).to⟩,A⟩
  ·rw[if_pos hl]
   refine Wh ?_;intro _ u d Y O
   have A:Grow M u:=g3.upd d (by omega)
   refine kf ?_
   exact⟨_,rfl,z88 _,A⟩
 have H:k<L.length:=by omega
 obtain⟨i,o,rfl,a0⟩:=(hs.grow B).rd H
 have b2:=zxk j H
 have b1:r<N.next:=J.lt
 have a5:=a0;refine Wh ?_;intros
 refine zk gd rfl rfl (zrn J hB (by omega)) ?_
 rintro w M4 ⟨R,P,-,D⟩
 rw[<-List.foldl_append,<- zuw H] at R P
 have a4:=X.keep D (show ¬ V=r by omega)
 have g4:Grow M M4:=Keep.to_grow' B D (fun i hi=>by omega)
 clear D X B J
 refine Wh ?_
 refine zi (L.length-(k+1)) (by omega) ⟨k+1,rfl,by omega,rfl,hz,R,P,a4,g4⟩
