/-
 Part of the proof of TapeBack. No condition beyond those in each theorem.
-/
import Derived.Test.YtbfnnllgdioccaaGreatDoorVF
import Derived.Test.YtbfnnllgdioccaaGreatDoorVE
import Derived.Test.YtbfnnllgdioccaaGreatDoorVB
section
open Go PvL Go.Proofs
set_option linter.unusedSimpArgs false
set_option linter.unusedVariables false
namespace Go.Proofs.YtbfnnllgdioccaaGreatDoor.C
def Mt (s:ByteArray):Nat->List UInt8->Prop
 | _,[]=>True
 | p,b :: l=>p < s.size /\ byteAt s p=b.toNat /\ Mt s (p+1) l
theorem Mt.app {s:ByteArray}:∀ {p:Nat} {a b:List UInt8},Mt s p (a ++ b) ↔ Mt s p a /\ Mt s (p+a.length) b
 | p,[],b=>by simp [Mt]
 | p,x :: a,b=>by
  show (p < s.size /\ byteAt s p=x.toNat /\ Mt s (p+1) (a ++ b)) ↔ (p < s.size /\ byteAt s p=x.toNat /\ Mt s (p+1) a) /\ Mt s (p+(a.length+1)) b
  rw [Mt.app (p:=p+1),show p+(a.length+1)=p+1+a.length by omega]
  constructor
  ·rintro ⟨h1,h2,h3,h4⟩;exact ⟨⟨h1,h2,h3⟩,h4⟩
  ·rintro ⟨⟨h1,h2,h3⟩,h4⟩;exact ⟨h1,h2,h3,h4⟩
theorem Mt.le {s:ByteArray}:∀ {p:Nat} {l:List UInt8},p<=s.size->Mt s p l->p+l.length<=s.size
 | p,[],hp,_=>hp
 | p,x :: l,hp,h=>by
  have:=Mt.le (l:=l) (show p+1<=s.size from h.1) h.2.2
  rw [List.length_cons];omega
theorem zea {s:ByteArray} {p:Nat} (h:p < s.size):s.data.toList[p]'h=u8 (byteAt s p):=by
 unfold byteAt u8
 have:s.data.toList.getD p 0=s.data.toList[p]'h:=by rw [List.getD_eq_getElem?_getD,List.getElem?_eq_getElem h];rfl
 rw [this]
 simp
theorem z9w (s:ByteArray) (p q:Nat):(s.extract p q).data.toList=(s.data.toList.drop p).take (q - p):=by
 rw [ByteArray.data_extract,Array.toList_extract]
theorem Mt.drop {s:ByteArray}:∀ {p:Nat} {l:List UInt8},p<=s.size->(Mt s p l ↔ (s.data.toList.drop p).take l.length=l)
 | p,[],hp=>by simp [Mt]
 | p,x :: l,hp=>by
  by_cases hlt:p < s.size
  ·have hd:s.data.toList.drop p=u8 (byteAt s p) :: s.data.toList.drop (p+1):=by
    rw [<-zea hlt];exact List.drop_eq_getElem_cons hlt
   rw [hd,List.length_cons,List.take_succ_cons]
   have ih:=Mt.drop (s:=s) (p:=p+1) (l:=l) hlt
   constructor
   ·rintro ⟨_,h2,h3⟩
    rw [ih.1 h3,h2]
    unfold u8;simp
   ·intro h
    injection h with h1 h2
    exact ⟨hlt,by rw [<-h1,u8_n (z12 s p)],ih.2 h2⟩
  ·obtain rfl:p=s.size:=by omega
   constructor
   ·intro h;exact absurd h.1 hlt
   ·intro h
    rw [List.drop_of_length_le (by show s.size<=s.size;omega)] at h
    cases h
theorem z71 (s:ByteArray):strL s.data.toList=s:=by
 unfold strL
 apply ByteArray.ext
 simp
theorem Mt.ext {s:ByteArray} {p:Nat} {l:List UInt8} (hp:p<=s.size):Mt s p l ↔ p+l.length<=s.size /\ s.extract p (p+l.length)=strL l:=by
 constructor
 ·intro h
  refine ⟨h.le hp,?_⟩
  have h1:=(Mt.drop hp).1 h
  rw [<-z71 (s.extract p (p+l.length)),z9w,show p+l.length - p=l.length by omega,h1]
 ·rintro ⟨h1,h2⟩
  refine (Mt.drop hp).2 ?_
  have this:(s.extract p (p+l.length)).data.toList=(strL l).data.toList:=by rw [h2]
  rw [z9w,show p+l.length - p=l.length by omega] at this
  rw [this];rfl
theorem z48 {s:ByteArray} {p b q:Nat} (h:oneB s p=some (b,q)):Mt s p [u8 b] /\ q=p+1:=by
 obtain ⟨h1,h2,h3⟩:=z6q h
 subst h2
 exact ⟨⟨h1,by rw [u8_n (z12 s p)],trivial⟩,h3⟩
theorem z33 {s:ByteArray} {p:Nat} {b:UInt8} {l:List UInt8} (h:Mt s p (b :: l)):oneB s p=some (b.toNat,p+1):=by
 unfold oneB
 rw [if_pos h.1,h.2.1]
theorem zcy {s:ByteArray} {p n q:Nat} (h:twoB s p=some (n,q)):Mt s p (twoL n) /\ q=p+2 /\ n < 65536:=by
 have hle:=z2i h
 unfold twoB at h
 split at h
 ·cases h
 ·rename_i a p1 h1
  split at h
  ·cases h
  ·rename_i b p2 h2
   cases h
   obtain ⟨g1,rfl⟩:=z48 h1
   obtain ⟨g2,rfl⟩:=z48 h2
   have:=z0h h1
   have:=z0h h2
   refine ⟨?_,rfl,hle.2.2⟩
   unfold twoL
   rw [show (256*a+b) / 256=a by omega,show (256*a+b) % 256=b by omega]
   exact ⟨g1.1,g1.2.1,g2.1,g2.2.1,trivial⟩
theorem zcl {s:ByteArray} {p n:Nat} (hn:n < 65536) (h:Mt s p (twoL n)):twoB s p=some (n,p+2):=by
 unfold twoB
 have h1:=z33 (l:=[u8 (n % 256)]) h
 have h2:=z33 (l:=[]) h.2.2
 rw [h1];simp only;rw [h2];simp only
 rw [u8_n (by omega),u8_n (by omega)]
 congr 2;omega
theorem zlf {s:ByteArray}:∀ (j p n u:Nat) {c q:Nat},codeS s j p n u=some (c,q)->1<=u->∃ m,c=n+m*u /\ q=p+(cdN m).length /\ Mt s p (cdN m) /\ (0 < m ∨ u=1) /\ m < 128 ^ j
 | 0,p,n,u,c,q,h,_=>by cases h
 | j+1,p,n,u,c,q,h,hu=>by
  unfold codeS at h
  split at h
  ·cases h
  ·rename_i b p' hb
   obtain ⟨g1,rfl⟩:=z48 hb
   have hb256:=z0h hb
   split at h
   ·rename_i h128
    split at h
    ·rename_i hz
     cases h
     refine ⟨b,by rw [Nat.mod_eq_of_lt h128],by rw [z9n h128];rfl,by rw [z9n h128];exact g1,hz,?_⟩
     have:128<=128 ^ (j+1):=by rw [Nat.pow_succ];exact Nat.le_mul_of_pos_left _ (Nat.pow_pos (by omega))
     omega
    ·cases h
   ·obtain ⟨m,e1,e2,e3,e4,e5⟩:=zlf j (p+1) _ _ h (by omega)
    have hm:0 < m:=by omega
    have hc:=zc3 (n:=b % 128+128*m) (by omega)
    rw [show (b % 128+128*m) % 128+128=b by omega,show (b % 128+128*m) / 128=m by omega] at hc
    refine ⟨b % 128+128*m,?_,?_,?_,.inl (by omega),?_⟩
    ·rw [e1,Nat.add_mul,Nat.add_assoc];congr 2;rw [Nat.mul_comm 128 m,Nat.mul_assoc,Nat.mul_comm u 128]
    ·rw [hc,List.length_cons,e2];omega
    ·rw [hc];exact ⟨g1.1,g1.2.1,e3⟩
    ·rw [Nat.pow_succ];omega
theorem zly {s:ByteArray}:∀ (j p n u m:Nat),Mt s p (cdN m)->m < 128 ^ j->(0 < m ∨ u=1 /\ 0 < j)->codeS s j p n u=some (n+m*u,p+(cdN m).length)
 | 0,p,n,u,m,h,hm,hz=>by
  have hm:m < 1:=hm
  omega
 | j+1,p,n,u,m,h,hm,hz=>by
  unfold codeS
  by_cases h128:128<=m
  ·rw [zc3 h128] at h ⊢
   rw [z33 h,u8_n (by omega)]
   simp only
   rw [if_neg (by omega),zly j (p+1) _ _ (m / 128) h.2.2 (by rw [Nat.pow_succ] at hm;omega) (.inl (by omega)),List.length_cons]
   congr 2
   ·rw [show (m % 128+128) % 128=m % 128 by omega]
    have:m*u=(m % 128+128*(m / 128))*u:=by rw [Nat.mod_add_div]
    rw [this,Nat.add_mul,Nat.add_assoc];congr 2;rw [Nat.mul_comm 128 (m / 128),Nat.mul_assoc,Nat.mul_comm u 128]
   ·omega
  ·rw [z9n (by omega)] at h ⊢
   rw [z33 h,u8_n (by omega)]
   simp only
   rw [if_pos (by omega),if_pos (by omega),Nat.mod_eq_of_lt (by omega)];rfl
theorem zk5 {s:ByteArray} {p m:Nat} (h:Mt s p (cdN m)) (hm:m < 2097152):codeB s p=some (m,p+(cdN m).length):=by
 have:=zly 3 p 0 1 m h (by omega) (.inr ⟨rfl,by omega⟩)
 unfold codeB
 rw [this];congr 2;omega
theorem zjt {s:ByteArray} {p c q:Nat} (h:codeB s p=some (c,q)):Mt s p (cdN c) /\ q=p+(cdN c).length:=by
 obtain ⟨m,e1,e2,e3,_,_⟩:=zlf 3 p 0 1 h (by omega)
 obtain rfl:c=m:=by omega
 exact ⟨e3,e2⟩
def csL:Int->List Int->List UInt8
 | _,[]=>[]
 | last,n :: l=>cdN (cdS n last).1.toNat ++ csL (cdS n last).2 l
theorem zc6 (l:List Int):∀ (r:List Int) (k:Nat),l.drop k=r->k<=l.length->cdsL l l.length=cdsL l k ++ csL (lsA l k) r
 | [],k,hr,hk=>by
  have:l.length<=k:=by
   have:=congrArg List.length hr
   rw [List.length_drop] at this
   simp at this;omega
  rw [show k=l.length by omega]
  simp [csL]
 | x :: r,k,hr,hk=>by
  have hlt:k < l.length:=by
   have:=congrArg List.length hr
   rw [List.length_drop,List.length_cons] at this
   omega
  have hx:getG l k=x:=by
   unfold getG
   rw [List.getD_eq_getElem?_getD,List.getElem?_eq_getElem hlt]
   have h1:=List.drop_eq_getElem_cons hlt
   rw [hr] at h1
   injection h1 with h1 _
   simp [h1]
  have hr2:l.drop (k+1)=r:=by
   have h1:=List.drop_eq_getElem_cons hlt
   rw [hr] at h1
   injection h1 with _ h2
   exact h2.symm
  rw [zc6 l r (k+1) hr2 hlt,zim,List.append_assoc]
  congr 1
  show cdN (cdA l k).toNat ++ _=cdN (cdS x (lsA l k)).1.toNat ++ csL (cdS x (lsA l k)).2 r
  unfold cdA
  rw [hx,show lsA l (k+1)=(cdS (getG l k) (lsA l k)).2 from rfl,hx]
theorem zju (l:List Int):cdsL l l.length=csL 0 l:=by
 have:=zc6 l l 0 rfl (Nat.zero_le _)
 rw [this]
 show [] ++ csL 0 l=_
 rfl
theorem zo1 {last:Int} {c:Nat} (h2:2<=c) (hk:knB (nxS last c)=true):cdS (nxS last c) last=((c:Int),nxS last c):=by
 have hb:-32767<=nxS last c /\ nxS last c<=32767:=of_decide_eq_true hk
 unfold cdS
 rw [if_neg (by omega),if_pos hk]
 unfold nxS
 split
 ·rw [if_neg (by omega)];congr 1;omega
 ·rw [if_pos (by omega)];congr 1;omega
theorem znp {n last:Int} (hn:smB n=true) (hl:-32767<=last /\ last<=32767):(∃ c:Nat,(cdS n last).1=c /\ c < 2097152 /\ ((c=0 /\ n=40000 /\ (cdS n last).2=last) ∨ (c=1 /\ n=40001 /\ (cdS n last).2=last) ∨ (2<=c /\ nxS last c=n /\ knB n=true /\ (cdS n last).2=n))):=by
 by_cases h1:n=40001
 ·subst h1
  exact ⟨1,rfl,by omega,.inr (.inl ⟨rfl,rfl,rfl⟩)⟩
 by_cases hk:knB n=true
 ·have hb:-32767<=n /\ n<=32767:=of_decide_eq_true hk
  unfold cdS
  rw [if_neg h1,if_pos hk]
  by_cases hd:n - last < 0
  ·rw [if_pos hd]
   refine ⟨(1 - 2*(n - last)).toNat,by show _=_;simp only;omega,by omega,.inr (.inr ⟨by omega,?_,hk,rfl⟩)⟩
   unfold nxS;rw [if_neg (by omega)];omega
  ·rw [if_neg hd]
   refine ⟨(2*(n - last)+2).toNat,by show _=_;simp only;omega,by omega,.inr (.inr ⟨by omega,?_,hk,rfl⟩)⟩
   unfold nxS;rw [if_pos (by omega)];omega
 ·have h0:n=40000:=by
   unfold smB at hn
   simp only [Bool.or_eq_true,decide_eq_true_eq] at hn
   rcases hn with h|h|h
   ·exact absurd h hk
   ·exact h
   ·exact absurd h h1
  subst h0
  exact ⟨0,rfl,by omega,.inl ⟨rfl,rfl,rfl⟩⟩
theorem zj3 {s:ByteArray}:∀ (k p:Nat) (last:Int) (acc:List Int) {l:List Int} {q:Nat},smpB s k p last acc=some (l,q)->∃ r,l=acc ++ r /\ r.length=k /\ q=p+(csL last r).length /\ Mt s p (csL last r)
 | 0,p,last,acc,l,q,h=>by cases h;exact ⟨[],by simp,rfl,rfl,trivial⟩
 | k+1,p,last,acc,l,q,h=>by
  unfold smpB at h
  split at h
  ·cases h
  ·rename_i c p' hc
   obtain ⟨g1,rfl⟩:=zjt hc
   have fin:∀ (x last':Int),cdS x last=((c:Int),last')->smpB s k (p+(cdN c).length) last' (acc ++ [x])=some (l,q)->∃ r,l=acc ++ r /\ r.length=k+1 /\ q=p+(csL last r).length /\ Mt s p (csL last r):=fun x last' hx h'=>by
    obtain ⟨r,e1,e2,e3,e4⟩:=zj3 k _ last' _ h'
    have hcs:csL last (x :: r)=cdN c ++ csL last' r:=by
     show cdN (cdS x last).1.toNat ++ csL (cdS x last).2 r=_
     rw [hx];rfl
    exact ⟨x :: r,by rw [e1];simp,by rw [List.length_cons,e2],by rw [hcs,List.length_append,e3];omega,by rw [hcs];exact Mt.app.2 ⟨g1,e4⟩⟩
   split at h
   ·rename_i h0;subst h0;exact fin 40000 last rfl h
   ·split at h
    ·rename_i h1;subst h1;exact fin 40001 last rfl h
    ·split at h
     ·rename_i hk;exact fin _ _ (zo1 (by omega) hk) h
     ·cases h
theorem zck {s:ByteArray}:∀ (r:List Int) (p:Nat) (last:Int) (acc:List Int),(∀ x ∈ r,smB x=true)->-32767<=last /\ last<=32767->Mt s p (csL last r)->smpB s r.length p last acc=some (acc ++ r,p+(csL last r).length)
 | [],p,last,acc,_,_,_=>by simp [smpB,csL]
 | n :: r,p,last,acc,hs,hl,h=>by
  obtain ⟨c,e1,e2,e3⟩:=znp (hs n (by simp)) hl
  have hcs:csL last (n :: r)=cdN c ++ csL (cdS n last).2 r:=by
   show cdN (cdS n last).1.toNat ++ _=_
   rw [e1];rfl
  rw [hcs] at h ⊢
  obtain ⟨h1,h2⟩:=Mt.app.1 h
  have hcd:=zk5 h1 e2
  have hs':∀ x ∈ r,smB x=true:=fun x hx=>hs x (by simp [hx])
  rw [List.length_cons,show smpB s (r.length+1) p last acc=(match codeB s p with
   | none=>none
   | some (c,q)=>if c=0 then smpB s r.length q last (acc ++ [40000]) else if c=1 then smpB s r.length q last (acc ++ [40001]) else if knB (nxS last c) then smpB s r.length q (nxS last c) (acc ++ [nxS last c]) else none) from rfl,hcd]
  simp only
  rcases e3 with ⟨rfl,rfl,h3⟩|⟨rfl,rfl,h3⟩|⟨hc2,hn,hk,h3⟩
  ·rw [if_pos rfl,h3] at *
   rw [zck r _ last _ hs' hl h2,List.length_append]
   simp;omega
  ·rw [if_neg (by omega),if_pos rfl]
   rw [h3] at h2 ⊢
   rw [zck r _ last _ hs' hl h2,List.length_append]
   simp;omega
  ·rw [if_neg (by omega),if_neg (by omega),hn,if_pos hk]
   rw [h3] at h2 ⊢
   have hb:-32767<=n /\ n<=32767:=of_decide_eq_true hk
   rw [zck r _ n _ hs' hb h2,List.length_append]
   simp;omega
theorem zkg {s:ByteArray} {k p:Nat} {l:List Int} {q:Nat} (h:smpB s k p 0 []=some (l,q)):l.length=k /\ q=p+(csL 0 l).length /\ Mt s p (csL 0 l):=by
 obtain ⟨r,e1,e2,e3,e4⟩:=zj3 k p 0 [] h
 rw [List.nil_append] at e1
 subst e1
 exact ⟨e2,e3,e4⟩
theorem zlo {x:Fr} (h:frB x=true):∀ n ∈ x.2.2,smB n=true:=fun n hn=>by
 unfold frB smsB at h
 simp only [Bool.and_eq_true] at h
 exact List.all_eq_true.1 h.2.2.2 n hn
theorem zel (x:Fr):bodyL x=[165,90] ++ (twoL x.1.toNat ++ ([u8 x.2.1.toNat] ++ ([u8 x.2.2.length] ++ csL 0 x.2.2))):=by
 unfold bodyL hdL
 rw [zju]
 simp
theorem z8m {s:ByteArray} {p:Nat} {l:List UInt8} (hp:p<=s.size) (h:Mt s p l):crcX s p (p+l.length)=crcK (strL l) l.length:=by
 unfold crcX
 rw [((Mt.ext hp).1 h).2];rfl
theorem zl5 {s:ByteArray} {p:Nat} {x:Fr} {q:Nat} (hp:p<=s.size) (h:FrD s p=some (x,q)):frB x=true /\ q=p+(pkL x).length /\ Mt s p (pkL x):=by
 have hok:=zec hp h
 unfold FrD at h
 split at h
 ·cases h
 ·rename_i m p1 h1
  split at h
  ·cases h
  ·rename_i sh p2 h2
   split at h
   ·cases h
   ·rename_i ch p3 h3
    split at h
    ·cases h
    ·rename_i n p4 h4
     split at h
     ·rename_i hc
      split at h
      ·cases h
      ·rename_i l p5 h5
       split at h
       ·rename_i hf
        split at h
        ·cases h
        ·rename_i u p6 h6
         cases h
         obtain ⟨g1,rfl,_⟩:=zcy h1
         obtain ⟨g2,rfl,hsh⟩:=zcy h2
         obtain ⟨g3,rfl⟩:=z48 h3
         obtain ⟨g4,rfl⟩:=z48 h4
         obtain ⟨g5,rfl,g6⟩:=zkg h5
         have hch:=z0h h3
         obtain ⟨rfl,hc2⟩:=hc
         have hb:bodyL ((sh:Int),(ch:Int),l)=twoL 42330 ++ (twoL sh ++ ([u8 ch] ++ ([u8 n] ++ csL 0 l))):=by
          rw [zel]
          show [165,90] ++ (twoL (sh:Int).toNat ++ ([u8 (ch:Int).toNat] ++ ([u8 l.length] ++ csL 0 l)))=_
          rw [g5,Int.toNat_natCast,Int.toNat_natCast];rfl
         have hM:Mt s p (bodyL ((sh:Int),(ch:Int),l)):=by
          rw [hb]
          refine Mt.app.2 ⟨g1,Mt.app.2 ⟨g2,Mt.app.2 ⟨g3,Mt.app.2 ⟨g4,?_⟩⟩⟩⟩
          exact g6
         have hbl:p+(bodyL ((sh:Int),(ch:Int),l)).length=p+2+2+1+1+(csL 0 l).length:=by
          rw [hb];simp [twoL];omega
         unfold chkB at h6
         split at h6
         ·cases h6
         ·rename_i c p7 h7
          obtain ⟨g7,rfl,hc7⟩:=zcy h7
          split at h6
          ·rename_i hcrc
           cases h6
           rw [<-hbl,z8m hp hM] at hcrc
           have hpk:pkL ((sh:Int),(ch:Int),l)=bodyL ((sh:Int),(ch:Int),l) ++ twoL c:=by
            unfold pkL chkL
            rw [<-hcrc,Int.toNat_natCast]
           refine ⟨hf,?_,?_⟩
           ·rw [hpk,List.length_append,<- Nat.add_assoc,hbl];rfl
           ·rw [hpk];exact Mt.app.2 ⟨hM,by rw [hbl];exact g7⟩
          ·cases h6
       ·cases h
     ·cases h
theorem zlw {s:ByteArray} {p:Nat} {x:Fr} (hp:p<=s.size) (hf:frB x=true) (h:Mt s p (pkL x)):FrD s p=some (x,p+(pkL x).length):=by
 obtain ⟨sh,ch,l⟩:=x
 have hbd:=z5a hf
 have hln:=z8q hf
 simp only at hbd hln
 obtain ⟨sh,rfl⟩:∃ n:Nat,sh=n:=⟨sh.toNat,by omega⟩
 obtain ⟨ch,rfl⟩:∃ n:Nat,ch=n:=⟨ch.toNat,by omega⟩
 have hb:bodyL ((sh:Int),(ch:Int),l)=twoL 42330 ++ (twoL sh ++ ([u8 ch] ++ ([u8 l.length] ++ csL 0 l))):=by
  rw [zel]
  show [165,90] ++ (twoL (sh:Int).toNat ++ ([u8 (ch:Int).toNat] ++ ([u8 l.length] ++ csL 0 l)))=_
  rw [Int.toNat_natCast,Int.toNat_natCast];rfl
 have hbl:p+(bodyL ((sh:Int),(ch:Int),l)).length=p+2+2+1+1+(csL 0 l).length:=by
  rw [hb];simp [twoL];omega
 unfold pkL chkL at h
 obtain ⟨hM,hC⟩:=Mt.app.1 h
 have hcr:=z8m hp hM
 have hM':=hM
 rw [hb] at hM
 obtain ⟨m1,hM⟩:=Mt.app.1 hM
 obtain ⟨m2,hM⟩:=Mt.app.1 hM
 obtain ⟨m3,hM⟩:=Mt.app.1 hM
 obtain ⟨m4,m5⟩:=Mt.app.1 hM
 have r1:=zcl (by omega) m1
 have r2:=zcl (by omega) m2
 have r3:=z33 m3
 have r4:=z33 m4
 rw [u8_n (by omega)] at r3 r4
 have r5:=zck l _ 0 [] (zlo hf) (by omega) m5
 rw [List.nil_append] at r5
 have hbd2:=z37 (strL (bodyL ((sh:Int),(ch:Int),l))) (bodyL ((sh:Int),(ch:Int),l)).length
 have r6:=zcl (by omega) hC
 rw [hbl] at r6 hcr
 unfold FrD
 simp only [twoL,List.length_cons,List.length_nil] at r1 r2 r3 r4 r5 r6
 rw [r1];simp only;rw [r2];simp only;rw [r3];simp only;rw [r4];simp only
 rw [if_pos ⟨by first|trivial|rfl,by omega,by omega⟩,r5]
 simp only
 rw [if_pos hf]
 unfold chkB
 rw [r6]
 simp only
 rw [if_pos (by rw [hcr];omega)]
 simp only
 unfold pkL chkL
 rw [List.length_append,<- Nat.add_assoc,hbl]
 rfl
end Go.Proofs.YtbfnnllgdioccaaGreatDoor.C
end
section
open Go PvL Go.Proofs
set_option linter.unusedSimpArgs false
set_option linter.unusedVariables false
variable {μ:Md}
namespace Go.Proofs.YtbfnnllgdioccaaGreatDoor.C
def salP (s:ByteArray):(List Fr × List Bd) × Int :=
 if 65536 < s.size then (([],[]),3) else if 128 < (joinedR (whA s).1).length then (([],[]),6) else ((joinedR (whA s).1,(whA s).2),0)
section
variable {α:Type} {b q:Nat} {ty:TypeId} {enc:α->List LV} {M:Mem} {v:LV} {l l':List α} {P:Program} [Orc P] {sz:Nat} {E:Env} {K:Env->Mem->Prop} {ll:List XG} {d:Nat} {g:Option (Nat × Bool)} {s x:XO} {st:List Mem} {k:Nat} {xs:List (Nat × Nat × (Mem->Prop))} {ld:List (XG × XK)} {by':Nat} {z:List LV} {xv:LV}
end
def FwB (b:Nat) (M:Mem) (x:FW) (f:Fr):Prop:=x.1=fky f /\ x.2.2.1=f.2.2.length /\ (f.2.2=[] ∨ ∃ i o,x.2.1=some (i,o) /\ i < b /\ ∀ k (hk:k < f.2.2.length),Rd1 M i (o+k*1) (I f.2.2[k]))
inductive FwLB (b:Nat) (M:Mem):List FW->List Fr->Prop
 | nil:FwLB b M [] []
 | cons {x:FW} {f:Fr} {xs:List FW} {fs:List Fr} (h:FwB b M x f) (h':FwLB b M xs fs):FwLB b M (x :: xs) (f :: fs)
theorem FwB.keep {b b':Nat} {M M':Mem} {F:Nat->Prop} {x:FW} {f:Fr} (h:FwB b M x f) (hk:Keep F M M') (hF:∀ i,F i->b<=i) (hb:b<=b'):FwB b' M' x f :=
 ⟨h.1,h.2.1,h.2.2.imp id fun ⟨i,o,h1,h2,h3⟩=>⟨i,o,h1,by omega,fun k hk'=>(h3 k hk').keep hk (fun hf=>by have:=hF i hf;omega)⟩⟩
theorem FwB.grow {b b':Nat} {M M':Mem} {x:FW} {f:Fr} (h:FwB b M x f) (hg:Grow M M') (hb:b<=b'):FwB b' M' x f:=h.keep (hg.to_keep (fun _=>False)) (fun _ h=>h.elim) hb
theorem FwLB.keep {b b':Nat} {M M':Mem} {F:Nat->Prop} {xs:List FW} {fs:List Fr} (h:FwLB b M xs fs) (hk:Keep F M M') (hF:∀ i,F i->b<=i) (hb:b<=b'):FwLB b' M' xs fs:=by
 induction h with
 | nil=>exact .nil
 | cons h _ ih=>exact .cons (h.keep hk hF hb) ih
theorem FwLB.grow {b b':Nat} {M M':Mem} {xs:List FW} {fs:List Fr} (h:FwLB b M xs fs) (hg:Grow M M') (hb:b<=b'):FwLB b' M' xs fs:=h.keep (hg.to_keep (fun _=>False)) (fun _ h=>h.elim) hb
theorem Vec.lt {α:Type} {b q:Nat} {ty:TypeId} {enc:α->List LV} {M:Mem} {a:Option (Nat × Nat)} {n:Nat} {f:Bool} {e:Nat} {l:List α} (h:Vec b q ty enc M (.slice a n f e) l):∀ i o,a=some (i,o)->i < M.next:=fun i o he=>by
 rcases h with ⟨_,h⟩|⟨j,h,h2,_⟩
 ·cases h;cases he
 ·cases h;cases he;exact h2.2
theorem FwLB.app {b:Nat} {M:Mem} {xs xs':List FW} {fs fs':List Fr} (h:FwLB b M xs fs) (h':FwLB b M xs' fs'):FwLB b M (xs ++ xs') (fs ++ fs'):=by
 induction h with
 | nil=>exact h'
 | cons h _ ih=>exact .cons h ih
theorem FwLB.len {b:Nat} {M:Mem} {xs:List FW} {fs:List Fr} (h:FwLB b M xs fs):xs.length=fs.length:=by
 induction h with
 | nil=>rfl
 | cons _ _ ih=>simp [ih]
theorem FwLB.l {b:Nat} {M:Mem} {xs:List FW} {fs:List Fr} (h:FwLB b M xs fs):FwL M xs fs:=by
 induction h with
 | nil=>exact .nil
 | cons h _ ih=>exact .cons ⟨h.1,h.2.1,h.2.2.imp id fun ⟨i,o,h1,h2,h3⟩=>⟨i,o,h1,h3⟩⟩ ih
theorem FsV.at {M:Mem} {a:Option (Nat × Nat)} {L:List Fr} (h:FsV M a L) {k:Nat} (hk:k < L.length):∃ i o b g u,a=some (i,o) /\ Rd M i (o+k*3) 3 [I (fe L k).1,I (fe L k).2.1,.slice b (fe L k).2.2.length g u] /\ SlI M b (fe L k).2.2:=by
 obtain ⟨i,o,b,g,u,h1,h2,b',g',u',h3,h4⟩:=h.rd hk
 cases h3
 exact ⟨i,o,b,g,u,h1,h2,h4⟩
def salR (s:ByteArray):(List Fr × List Bd) × Int :=
 if 65536 < s.size then (([],[]),3) else if 128 < (joinedR (whRA s).1).length then (([],[]),6) else ((joinedR (whRA s).1,(whRA s).2),0)
end Go.Proofs.YtbfnnllgdioccaaGreatDoor.C
end
section
open Go PvL Go.Proofs
set_option linter.unusedSimpArgs false
set_option linter.unusedVariables false
namespace Go.Proofs.YtbfnnllgdioccaaGreatDoor.C
end Go.Proofs.YtbfnnllgdioccaaGreatDoor.C
end
section
open Go PvL Go.Proofs
set_option linter.unusedSimpArgs false
set_option linter.unusedVariables false
variable {μ:Md}
namespace Go.Proofs.YtbfnnllgdioccaaGreatDoor.C
theorem zeo {x oc a:Nat} {s:ByteArray} {M:Mem} {z1 z2:LV} (hx:At M x (.cells true [.ptr (some (a,0))] 117)) (hf:At M oc (.cells true [z1,z2] 24)) (ha:At M a (rdr s 0)) (hne:oc ≠ a) (hs:s.size<=1000000) :
  CallB Tryz.prog 72 [.ptr (some (x,0)),.ptr (some (oc,0))] M
   (fun _ M'=>Keep (fun i=>i=a ∨ i=oc) M M' /\ ∃ r q w,RlD s=some (r,q) /\ At M' oc (.cells true [.str r.1,w] 24) /\ ∃ xs,Vec M.next 3 48 fwc M' w xs /\ FwLN (fun i=>i < M.next) M' xs r.2)
   (fun v M'=>v=bk /\ Keep (fun i=>i=a ∨ i=oc) M M' /\ RlD s=none /\ True):=by
 refine z0w k72 rfl ?_
 dsimp only [x72,zipE,Nat.reduceAdd]
 have hfl:oc < M.next:=hf.2
 (repeat' (first|(with_reducible intro _)|refine svb ?_|(refine sc ?_ ?_<;>(intro h;try first|exact h.elim|exact absurd rfl h|(exfalso;omega)))|(refine sgb ?_ ?_<;>(intro h;(fail_if_success (have:True:=h));try first|exact h.elim|exact absurd rfl h|(exfalso;omega)))|assumption|exact xm|exact rfl))
 refine zko gd rfl rfl ((zle ha hs).mono (fun _ _ h=>h) (fun v M' ⟨e1,e2,e3,q,e4⟩=>?_)) ?_
 ·exact ⟨e2,e3.weaken (fun i hi=>.inl hi),e1,trivial⟩
 rintro w M1 ⟨r,q,e1,⟨v,xs,rfl,hv,hx⟩,e3,e4⟩
 obtain ⟨va,vf,ve,rfl⟩:=hv.shape
 have hf1:At M1 oc (.cells true [z1,z2] 24):=e3.at hf hne
 have hk1:Keep (fun i=>i=a ∨ i=oc) M M1:=e3.weaken (fun i hi=>.inl hi)
 refine x_st gd rfl rfl hf1 rfl rfl rfl ?_
 intro M2 h1 h2 h3
 (repeat' (first|(with_reducible intro _)|refine svb ?_|(refine sc ?_ ?_<;>(intro h;try first|exact h.elim|exact absurd rfl h|(exfalso;omega)))|(refine sgb ?_ ?_<;>(intro h;(fail_if_success (have:True:=h));try first|exact h.elim|exact absurd rfl h|(exfalso;omega)))|assumption|exact xm|exact rfl))
 ((with_reducible first|apply zc|apply z6);exact rx)
 refine ⟨hk1.upd h1 (.inl (.inr rfl)),r,q,_,e1,h3,?_⟩
 have hu2:Keep (fun i=>i=oc) M1 M2:=(Keep.refl (fun i=>i=oc) M1).upd h1 (.inl rfl)
 have hx2:=hx.keep hu2 (fun i hi=>by subst hi;exact hfl)
 have hv2:Vec M.next 3 48 fwc M2 (.slice va xs.length vf ve) xs:=hv.keep hu2 (fun i hi=>by subst hi;exact hfl)
 exact ⟨xs,hv2,hx2⟩
def unP (s:ByteArray):Rl × Int:=if 65536 < s.size then (zRl,3) else match RlD s with
 | some (r,_)=>(r,0)
 | none=>(zRl,5)
set_option maxHeartbeats 4000000 in
theorem zc0 {s:ByteArray} {M:Mem} (hs:s.size<=1000000000000000) :
  CallOk Tryz.prog 29 [.str s] M (fun w M'=>∃ v,w=.tup [v,I (unP s).2] /\ RlV M' v (unP s).1 /\ Grow M M'):=by
 refine zh k29 rfl ?_
 dsimp only [x29,zipE,Nat.reduceAdd]
 by_cases hlong:65536 < s.size
 ·have hj:unP s=(zRl,3):=by unfold unP;rw [if_pos hlong]
  rw [hj]
  (repeat' (first|(with_reducible intro _)|refine sv ?_|(refine sc ?_ ?_<;>(intro h;try first|exact h.elim|exact absurd rfl h|(exfalso;omega)))|(refine sg ?_ ?_<;>(intro h;(fail_if_success (have:True:=h));try first|exact h.elim|exact absurd rfl h|(exfalso;omega)))|assumption|exact xm|exact rfl))
  all_goals first|(exfalso;omega)|skip
  ((with_reducible first|apply zc|apply z6);exact rx)
  exact ⟨_,rfl,zcs _,xg⟩
 have hj:unP s=match RlD s with
  | some (r,_)=>(r,0)
  | none=>(zRl,5):=by unfold unP;rw [if_neg hlong]
 (repeat' (first|(with_reducible intro _)|refine sv ?_|(refine sc ?_ ?_<;>(intro h;try first|exact h.elim|exact absurd rfl h|(exfalso;omega)))|(refine sg ?_ ?_<;>(intro h;(fail_if_success (have:True:=h));try first|exact h.elim|exact absurd rfl h|(exfalso;omega)))|assumption|exact xm|exact rfl))
 all_goals first|(exfalso;omega)|skip
 rename_i res M1 A1 A2 A3 a M2 A4 A5 A6 x M3 A7 A8 A9 M4 B1 B2 B3 oc M5 B4 B5 B6
 have ha:At M5 a (rdr s 0):=by
  have:At M5 a (.cells true [.str s,I 0] 120):=xm
  exact this
 have hx:At M5 x (.cells true [.ptr (some (a,0))] 117):=xm
 have ho:At M5 oc (.cells true [.str ⟨#[]⟩,.slice none 0 true 0] 24):=xm
 have hr:At M5 res (.cells true [.str ⟨#[]⟩,.slice none 0 true 0] 24):=xm
 have hg5:Grow M M5:=xg
 have hro:res < a:=by omega
 have hao:a < oc:=by omega
 have haM:M.next<=res:=by omega
 have ho5:oc < M5.next:=ho.2
 clear A1 A4 A7 B1 B3 B4
 refine z19 gd rfl rfl (zlb (g:=72) (ca:=[.ptr (some (x,0)),.ptr (some (oc,0))]) (M:=M5) (F:=fun i=>i=a ∨ i=oc)
  (R:=fun M1 M'=>∃ r q w,RlD s=some (r,q) /\ At M' oc (.cells true [.str r.1,w] 24) /\ ∃ xs,Vec M1.next 3 48 fwc M' w xs /\ FwLN (fun i=>i < M1.next) M' xs r.2)
  (R':=fun M1 M'=>RlD s=none /\ True) (fun i hi=>by omega)
  (fun M1 hg=>zeo (hx.grow hg) (ho.grow hg) (ha.grow hg) (by omega) (by omega))) ?_
 rintro w N5 ⟨M1',M2',n,g1,g2,g3,k1,k2,hres⟩
 have g1l:=g1.le
 have kN5:Keep (fun i=>i=a ∨ i=oc) M5 N5:=((g1.to_keep _).trans k1 (fun i hi=>.inl hi)).trans k2 (fun i hi=>.inr (by omega))
 have hg:Grow M N5:=hg5.keep kN5 (fun i hi=>by omega)
 have hr5:=kN5.at hr (fun h=>by omega)
 have hN5:=kN5.le
 rcases hres with ⟨rfl,r,q,w,e1,e2,xs,e3,e4⟩|⟨rfl,e1,-⟩
 ·have ho5':At N5 oc (.cells true [.str r.1,w] 24):=k2.at e2 (fun h=>by omega)
  have hv5:Vec M1'.next 3 48 fwc N5 w xs:=e3.keep k2 (fun i hi=>by omega)
  have hx5:=e4.keep k2 (fun i hi=>by omega)
  obtain ⟨va,vf,ve,rfl⟩:=hv5.shape
  have hj2:unP s=(r,0):=by rw [hj,e1]
  rw [hj2]
  clear kN5 k1 k2 e2 e3 e4 g1
  (repeat' (first|(with_reducible intro _)|refine sv ?_|(refine sc ?_ ?_<;>(intro h;try first|exact h.elim|exact absurd rfl h|(exfalso;omega)))|(refine sg ?_ ?_<;>(intro h;(fail_if_success (have:True:=h));try first|exact h.elim|exact absurd rfl h|(exfalso;omega)))|assumption|exact xm|exact rfl))
  rename_i M9 D1 D2 D3
  have hu9:Keep (fun i=>i=res) N5 M9:=(Keep.refl (fun i=>i=res) N5).upd D1 (.inl rfl)
  have hx9:=hx5.keep hu9 (fun i hi=>by omega)
  have hv9:Vec M1'.next 3 48 fwc M9 (.slice va xs.length vf ve) xs:=hv5.keep hu9 (fun i hi=>by omega)
  obtain ⟨va',vf',ve',heq,hfs9⟩:=zit hv9 hx9.l
  ((with_reducible first|apply zc|apply z6);exact rx)
  exact ⟨_,rfl,⟨va',vf',ve',by show LV.agg [_,_]=LV.agg [_,_];rw [heq],hfs9⟩,hg.keep hu9 (fun i hi=>by omega)⟩
 ·have hj2:unP s=(zRl,5):=by rw [hj,e1]
  rw [hj2]
  clear kN5 k1 k2 g1
  (repeat' (first|(with_reducible intro _)|refine sv ?_|(refine sc ?_ ?_<;>(intro h;try first|exact h.elim|exact absurd rfl h|(exfalso;omega)))|(refine sg ?_ ?_<;>(intro h;(fail_if_success (have:True:=h));try first|exact h.elim|exact absurd rfl h|(exfalso;omega)))|assumption|exact xm|exact rfl))
  rename_i M9 D1 D2 D3
  ((with_reducible first|apply zc|apply z6);exact rx)
  exact ⟨_,rfl,zcs _,hg.upd D1 (by omega)⟩
end Go.Proofs.YtbfnnllgdioccaaGreatDoor.C
end
section
open Go PvL Go.Proofs
set_option linter.unusedSimpArgs false
set_option linter.unusedVariables false
namespace Go.Proofs.YtbfnnllgdioccaaGreatDoor.C
def pfF (x:Fr):List UInt8 × Int:=if frB x then (pkL x,0) else ([],80)
def rpF (r:Rl):List UInt8 × Int:=if rlB r then (rpL r,0) else ([],81)
theorem zn7 {E:Env} {M:Mem} {x:XO} {b n:Nat} {f:Bool} {e:Nat} {cs:List LV} {ty:TypeId} (hx:xval E x=some (.slice (some (b,0)) n f e)) (h:At M b (.cells true cs ty)) (hn:1<=n):xstep Tryz.prog (.cvs x) E M=some (.val (.slice (some (b,0)) n f e) M):=by
 show ob (xval E x) _=_
 rw [hx,z0]
 show guard' (ownAt M (some (b,0)) && Nat.ble 1 n) _=_
 have ho:ownAt M (some (b,0))=true:=by
  show oe (M.get b) false _=true
  rw [h.1];rfl
 rw [ho,Nat.ble_eq_true_of_le hn];rfl
theorem zf4 (s:ByteArray) (M:Mem):firstL 1 s.data.toList.length (.str s) M=some (bytesC s.data.toList):=by
 show guard' (Nat.beq 1 1 && Nat.ble s.data.toList.length s.size) (some ((s.extract 0 s.data.toList.length).data.toList.map byteL))=_
 have hl:s.data.toList.length=s.size:=by simp
 rw [hl,Nat.ble_eq_true_of_le (Nat.le_refl _)]
 have he:(s.extract 0 s.size)=s:=by
  simp
 rw [he];rfl
def rbL (r:Rl) (k:Nat):List UInt8:=chkL (rhL r) ++ (r.2.take k).flatMap pkL
theorem zmb {r:Rl} {k:Nat} (h:k < r.2.length):rbL r (k+1)=rbL r k ++ pkL (fe r.2 k):=by
 unfold rbL
 rw [List.take_succ_eq_append_getElem h,List.flatMap_append,List.append_assoc,z67 h]
 simp
theorem zi4 {r:Rl} (h:rlB r=true):1<=r.1.size /\ r.1.size<=16 /\ r.2.length<=128 /\ ∀ k,k < r.2.length->frB (fe r.2 k)=true:=by
 unfold rlB at h
 rw [Bool.and_eq_true,Bool.and_eq_true] at h
 obtain ⟨⟨h1,h2⟩,h3⟩:=h
 unfold nmB at h1
 rw [Bool.and_eq_true] at h1
 have h4:1<=(r.1.size:Int) /\ (r.1.size:Int)<=16:=of_decide_eq_true h1.2
 exact ⟨by omega,by omega,of_decide_eq_true h2,fun k hk=>zcq h3 hk⟩
theorem zcb {x:Fr} (h:frB x=true):x.2.2.length<=64:=by
 have:=(z5a h).2.2.2.2
 unfold smsB btB at this
 simp only [Bool.and_eq_true,decide_eq_true_eq] at this
 omega
theorem zbj {r:Rl} (h:rlB r=true):∀ k,k<=r.2.length->(rbL r k).length<=100+100000*k
 | 0,_=>by
  obtain ⟨h1,h2,h3,_⟩:=zi4 h
  unfold rbL chkL rhL twoL
  simp
  omega
 | k+1,hk=>by
  have h1:=zbj h k (by omega)
  have h2:=zg2 (zcb ((zi4 h).2.2.2 k (by omega)))
  rw [zmb (by omega),List.length_append]
  omega
set_option maxHeartbeats 8000000 in
theorem zbz {M:Mem} {v:LV} {r:Rl} (hv:RlV M v r) (hin:RlIn r):CallOk Tryz.prog 35 [v] M (fun w M'=>w=.tup [.str (strL (rpF r).1),I (rpF r).2] /\ Grow M M'):=by
 have hv0:=hv
 obtain ⟨a,f,e,rfl,hs⟩:=hv0
 refine zh k35 rfl ?_
 dsimp only [x35,zipE,Nat.reduceAdd]
 have cc:=fun M' (hg:Grow M M')=>z5x (hv.grow hg) hin
 cases hfb:rlB r with
 | false =>
  rw [show errRl r=81 from by unfold errRl;rw [hfb];rfl] at cc
  rw [show rpF r=([],81) from by unfold rpF;rw [hfb];rfl]
  (repeat' (first|(with_reducible intro _)|refine sv ?_|(refine sc ?_ ?_<;>(intro h;try first|exact h.elim|exact absurd rfl h|(exfalso;omega)))|((with_reducible first|apply z36|apply z53|apply z24);exact gd;exact rfl;exact rfl;(first|exact cc _ (xg)))|(refine sg ?_ ?_<;>(intro h;(fail_if_success (have:True:=h));try first|exact h.elim|exact absurd rfl h|(exfalso;omega)))|assumption|exact xm|exact rfl))
  ((with_reducible first|apply zc|apply z6);exact rx)
  exact ⟨rfl,xg⟩
 | true =>
 rw [show errRl r=0 from by unfold errRl;rw [hfb];rfl] at cc
 rw [show rpF r=(rpL r,0) from by unfold rpF;rw [hfb];rfl]
 obtain ⟨hn1,hn2,hl,hfr⟩:=zi4 hfb
 have hrb:=zbj hfb
 have hr0:rbL r 0=chkL (rhL r):=by unfold rbL;rw [List.take_zero,List.flatMap_nil,List.append_nil]
 have hre:rbL r r.2.length=rpL r:=by unfold rbL rpL;rw [List.take_length]
 have hrs:=fun k (hk:k < r.2.length)=>zmb (r:=r) hk
 have hrh:rhL r=(([80,65,82,65,86,65,78,69] ++ [u8 r.1.size]) ++ r.1.data.toList) ++ [u8 r.2.length]:=rfl
 rw [<-hre]
 have hdl:r.1.data.toList.length=r.1.size:=by simp
 clear hv
 (repeat' (first|(with_reducible intro _)|refine sv ?_|(refine sc ?_ ?_<;>(intro h;try first|exact h.elim|exact absurd rfl h|(exfalso;omega)))|((with_reducible first|apply z36|apply z53|apply z24);exact gd;exact rfl;exact rfl;(first|exact cc _ (xg)))|(refine sg ?_ ?_<;>(intro h;(fail_if_success (have:True:=h));try first|exact h.elim|exact absurd rfl h|(exfalso;omega)))|assumption|exact xm|exact rfl))
 rename_i m1 M1 hN1 q1 q2 M2 hg2 l2 n4 M4 hN4 q3 q4
 clear h
 have hA4:At M4 m1 (.cells true [.str r.1,.slice a r.2.length f e] 24):=xm
 have hgM4:Grow M M4:=xg
 refine z5l (by exact gd) (zn7 rfl (At.new_same hN4) (by omega)) ?_
 have hb4:ApB n4 M4 (.slice (some (n4,0)) 8 true 1) [80,65,82,65,86,65,78,69]:=⟨true,_,rfl,At.new_same hN4,.inl rfl⟩
 clear hN1 hg2 hN4
 (repeat' (first|(with_reducible intro _)|refine sv ?_|(refine sc ?_ ?_<;>(intro h;try first|exact h.elim|exact absurd rfl h|(exfalso;omega)))|(refine sg ?_ ?_<;>(intro h;(fail_if_success (have:True:=h));try first|exact h.elim|exact absurd rfl h|(exfalso;omega)))|assumption|exact xm|exact rfl))
 rename_i n5 M5 hN5 q5 q6
 rw [z3q (by omega)] at hN5
 have hg45:=hN5.grow
 refine zat (l':=[u8 r.1.size]) (by exact gd) (hb4.grow hg45) rfl rfl rfl (by simp) (by simp) rfl (zp (f:=true) (At.new_same hN5)) ?_
 intro v6 M6 hb6 e6 hk6
 have hA6:=(At.grow hg45 hA4).keep hk6 (by omega)
 have hgM6:Grow M M6:=Keep.to_grow' (hgM4.trans hg45) hk6 (fun i hi=>by omega)
 have lb6:=hb6.lt
 clear hk6 hN5 hb4
 obtain ⟨f6,ty6,rfl,ht6⟩:=id hb6
 (repeat' (first|(with_reducible intro _)|refine sv ?_|(refine sc ?_ ?_<;>(intro h;try first|exact h.elim|exact absurd rfl h|(exfalso;omega)))|(refine sg ?_ ?_<;>(intro h;(fail_if_success (have:True:=h));try first|exact h.elim|exact absurd rfl h|(exfalso;omega)))|assumption|exact xm|exact rfl))
 refine zjv (l':=r.1.data.toList) (by exact gd) hb6 rfl rfl (by rw [hdl];rfl) (by omega) (by simp;omega) rfl (zf4 r.1 _) ?_
 intro v7 M7 hb7 e7 hk7
 have hA7:=hA6.keep hk7 (by omega)
 have hgM7:Grow M M7:=Keep.to_grow' hgM6 hk7 (fun i hi=>by have:=hgM4.le;omega)
 have lb7:=hb7.lt
 clear hk7
 obtain ⟨f7,ty7,rfl,ht7⟩:=id hb7
 (repeat' (first|(with_reducible intro _)|refine sv ?_|(refine sc ?_ ?_<;>(intro h;try first|exact h.elim|exact absurd rfl h|(exfalso;omega)))|(refine sg ?_ ?_<;>(intro h;(fail_if_success (have:True:=h));try first|exact h.elim|exact absurd rfl h|(exfalso;omega)))|assumption|exact xm|exact rfl))
 rename_i n8 M8 hN8 q7 q8
 rw [z3q (by omega)] at hN8
 have hg78:=hN8.grow
 have hA8:=At.grow hg78 hA7
 refine zjv (l':=[u8 r.2.length]) (by exact gd) (hb7.grow hg78) rfl rfl rfl (by simp) (by simp;omega) rfl (zp (f:=true) (At.new_same hN8)) ?_
 intro v9 M9 hb9 e9 hk9
 have hA9:=hA8.keep hk9 (by omega)
 have hgM9:Grow M M9:=Keep.to_grow' (hgM7.trans hg78) hk9 (fun i hi=>by have:=hgM6.le;omega)
 have lb9:=hb9.lt
 clear hk9 hN8
 rw [<-hrh] at hb9
 have hrl:(rhL r).length<=100:=by rw [hrh];simp;omega
 obtain ⟨f9,ty9,rfl,ht9⟩:=id hb9
 have hcr:=z37 (strL (rhL r)) (rhL r).length
 obtain ⟨n,hn⟩:∃ n:Nat,crcK (strL (rhL r)) (rhL r).length=(n:Int):=⟨(crcK (strL (rhL r)) (rhL r).length).toNat,by omega⟩
 have hck:chkL (rhL r)=rhL r ++ twoL n:=by unfold chkL;rw [hn];rfl
 have cr:=zh4 (strL (rhL r)) (by rw [z4g];omega)
 rw [z4g,hn] at cr
 (repeat' (first|(with_reducible intro _)|refine sv ?_|(refine sc ?_ ?_<;>(intro h;try first|exact h.elim|exact absurd rfl h|(exfalso;omega)))|(refine sg ?_ ?_<;>(intro h;(fail_if_success (have:True:=h));try first|exact h.elim|exact absurd rfl h|(exfalso;omega)))|assumption|exact xm|exact rfl))
 refine z5l (by exact gd) (ApB.bstr hb9 rfl) ?_
 (repeat' (first|(with_reducible intro _)|refine sv ?_|(refine sc ?_ ?_<;>(intro h;try first|exact h.elim|exact absurd rfl h|(exfalso;omega)))|((with_reducible first|apply zn|apply zt|apply zk);exact gd;exact rfl;exact rfl;(first|exact cr _))|((with_reducible first|apply zd0|apply zc7);exact gd;exact rfl;exact rfl;(first|exact zjq n (by omega) _))|(refine sg ?_ ?_<;>(intro h;(fail_if_success (have:True:=h));try first|exact h.elim|exact absurd rfl h|(exfalso;omega)))|assumption|exact xm|exact rfl))
 rename_i p10 M10 hA10 l10 l10' hg10 le10
 have hb10:=hb9.grow hg10
 have hA10m:=At.grow hg10 hA9
 refine zat (l':=twoL n) (by exact gd) hb10 rfl rfl rfl (by simp [twoL]) (by simp [twoL];omega) rfl (zp (f:=true) hA10) ?_
 intro v11 M11 hb11 e11 hk11
 have hA11:=hA10m.keep hk11 (by omega)
 have hgM11:Grow M M11:=Keep.to_grow' (hgM9.trans hg10) hk11 (fun i hi=>by have:=hgM7.le;omega)
 rw [<-hck,<- hr0] at hb11
 have hM10:M.next<=M10.next:=by have:=hgM11.le;have:=(hgM9.trans hg10).le;omega
 clear hk11 hA10 hb9 ht9 hb7 ht7 hb6 ht6 hA4 hA6 hA7 hA8 hA9 hg45 hg78 hgM4 hgM6 hgM7 hgM9 hb10 hg10 hA10m
 (repeat' (first|(with_reducible intro _)|refine sv ?_|(refine sc ?_ ?_<;>(intro h;try first|exact h.elim|exact absurd rfl h|(exfalso;omega)))|(refine sg ?_ ?_<;>(intro h;(fail_if_success (have:True:=h));try first|exact h.elim|exact absurd rfl h|(exfalso;omega)))|assumption|exact xm|exact rfl))
 refine zg (fun z E ms M'=>∃ (k:Nat) (v:LV) (b:Nat),z=r.2.length - k /\ k<=r.2.length /\ ms=[] /\ Has E [(5,v),(38,.slice a r.2.length f e),(39,I r.2.length),(40,I k)] /\ Grow M M' /\ ApB b M' v (rbL r k) /\ M.next<=b)
  ?_ r.2.length _ _ _ ⟨0,_,_,by omega,by omega,rfl,.cons rfl (.cons rfl (.cons rfl (.cons rfl .nil))),hgM11,hb11,hM10⟩
 rintro z E ms M12 ⟨k,v,b,rfl,hk,rfl,hE,hg12,hb12,hbM⟩
 refine z2v hE ?_
 have hrk:=hrb k hk
 have lb12:=hb12.lt
 obtain ⟨f12,ty12,rfl,ht12⟩:=id hb12
 by_cases hlast:k=r.2.length
 ·subst hlast
  (repeat' (first|(with_reducible intro _)|refine sv ?_|(refine sc ?_ ?_<;>(intro h;try first|exact h.elim|exact absurd rfl h|(exfalso;omega)))|(refine sg ?_ ?_<;>(intro h;(fail_if_success (have:True:=h));try first|exact h.elim|exact absurd rfl h|(exfalso;omega)))|assumption|exact xm|exact rfl))
  refine z5l (by exact gd) (ApB.bstr hb12 rfl) ?_
  (repeat' (first|(with_reducible intro _)|refine sv ?_|(refine sc ?_ ?_<;>(intro h;try first|exact h.elim|exact absurd rfl h|(exfalso;omega)))|(refine sg ?_ ?_<;>(intro h;(fail_if_success (have:True:=h));try first|exact h.elim|exact absurd rfl h|(exfalso;omega)))|assumption|exact xm|exact rfl))
  ((with_reducible first|apply zc|apply z6);exact rx)
  exact ⟨rfl,hg12⟩
 have hlt:k < r.2.length:=by omega
 obtain ⟨i,o,b2,g2,u2,rfl,hr2,hfv⟩:=(hs.grow hg12).rd hlt
 have hfb2:=hfr k hlt
 have hpl:=zg2 (zcb hfb2)
 have cp:=fun M' (hg:Grow M12 M')=>zh7 (hfv.grow hg) hfb2
 have hrs2:=hrs k hlt
 have hg12t:Grow M M12 /\ True:=⟨hg12,trivial⟩
 clear hg12
 (have hrd0:=hr2;repeat' (first|(with_reducible intro _)|refine sv ?_|(refine sc ?_ ?_<;>(intro h;try first|exact h.elim|exact absurd rfl h|(exfalso;omega)))|((with_reducible first|apply z19|apply zio|apply zgn);exact gd;exact rfl;exact rfl;(first|exact cp _ (xg)))|(refine sg ?_ ?_<;>(intro h;(fail_if_success (have:True:=h));try first|exact h.elim|exact absurd rfl h|(exfalso;omega)))|assumption|exact xm|exact rfl))
 rename_i n13 M13 hN13 q9 q10 M14 hU14 q11 hA14 w15 M15 hq15
 obtain ⟨b15,hb15,hb15M,hg15⟩:=hq15
 obtain ⟨f15,ty15,rfl,ht15,_⟩:=id hb15
 have hg1215:Grow M12 M15:=xg
 have hb12b:=hb12.grow hg1215
 have hpp:0 < (pkL (fe r.2 k)).length:=by unfold pkL chkL twoL;simp
 refine zat (l':=pkL (fe r.2 k)) (by exact gd) hb12b rfl rfl rfl hpp (by omega) rfl (zp ht15) ?_
 intro v16 M16 hb16 e16 hk16
 rw [<-hrs2] at hb16
 have hg16:Grow M M16:=Keep.to_grow' (hg12t.1.trans hg1215) hk16 (fun i hi=>by omega)
 have l15:=hg1215.le
 clear hk16
 (repeat' (first|(with_reducible intro _)|refine sv ?_|(refine sc ?_ ?_<;>(intro h;try first|exact h.elim|exact absurd rfl h|(exfalso;omega)))|(refine sg ?_ ?_<;>(intro h;(fail_if_success (have:True:=h));try first|exact h.elim|exact absurd rfl h|(exfalso;omega)))|assumption|exact xm|exact rfl))
 exact zw (r.2.length - (k+1)) (by omega) ⟨k+1,v16,M15.next,rfl,by omega,rfl,.cons rfl (.cons rfl (.cons rfl (.cons rfl .nil))),hg16,hb16,by omega⟩
theorem zbw (s:ByteArray):(s == s)=true:=by
 obtain ⟨d⟩:=s
 show (d == d)=true
 simp
theorem zbq {E:Env} {M:Mem} {x y:XO} {s:ByteArray} (hx:xval E x=some (.str s)) (hy:xval E y=some (.str s)):xstep Tryz.prog (.bin .eql x y) E M=some (.val (.bool true) M):=by
 show ob (xval E x) _=_
 rw [hx,z0,hy,z0]
 show guard' true (ob (mkB (s == s)) (rv M))=_
 rw [z5,z1c,zbw]
 rfl
end Go.Proofs.YtbfnnllgdioccaaGreatDoor.C
end
section
open Go PvL Go.Proofs
set_option linter.unusedSimpArgs false
set_option linter.unusedVariables false
variable {μ:Md}
namespace Go.Proofs.YtbfnnllgdioccaaGreatDoor.C
def frsR (s:ByteArray):Nat->Nat->List Fr->Option (List Fr)
 | 0,_,acc=>some acc
 | k+1,p,acc=>if p < s.size then (match fdR s p with
  | none=>none
  | some (x,q)=>frsR s k q (acc ++ [x])) else some acc
def unR (s:ByteArray):Rl × Int:=if 65536 < s.size then (zRl,3) else if s.size < 13 then (zRl,5) else if s.size < 9+byteAt s 8+3 then (zRl,5) else
 match frsR s s.size (9+byteAt s 8+3) [] with
 | none=>(zRl,5)
 | some L=>if (rpF (s.extract 9 (9+byteAt s 8),L)).2=0 /\ strL (rpF (s.extract 9 (9+byteAt s 8),L)).1=s then ((s.extract 9 (9+byteAt s 8),L),0) else (zRl,5)
end Go.Proofs.YtbfnnllgdioccaaGreatDoor.C
end
