/-
 Part of the proof of TopVoyage. No condition beyond those in each theorem.
-/
import Derived.Test.YtpgalhbplcanhaaGreatDoorSG
import Derived.Test.YtpgalhbplcanhaaGreatDoorSA
import Derived.Test.YtpgalhbplcanhaaGreatDoorSC
import Derived.Test.YtpgalhbplcanhaaGreatDoorPvH
import Derived.Stop.LaidErr
section
open PvL
set_option linter.unusedSimpArgs false
set_option linter.unusedVariables false
namespace Go.Proofs.YtpgalhbplcanhaaGreatDoor.C
theorem zod{s:Cr}(hs:CrOk s):∀(l:List Nat) (x y:Rch),(∀ c ∈ l,c < 2*s.lines.length)->runE s x l=some y->x.2<=y.2
 | [],x,y,_,h=>by cases h;exact Int.le_refl _
 | c :: l,x,y,hl,h=>by
  have e:runE s x (c :: l)=match goF s x c with|none=>none|some b=>runE s (rchF s c b.2) l:=rfl
  rw[e] at h
  cases hg:goF s x c with
  | none=>rw[hg] at h;cases h
  | some b =>
   rw[hg] at h
   have h1:=za3 hs (c:=c) (by have:=hl c (List.mem_cons_self ..);omega) hg
   have h2:=zod hs l _ y (fun d hd=>hl d (List.mem_cons_of_mem _ hd)) h
   have h2:b.2<=y.2:=h2
   omega
theorem zb7{s:Cr}:∀(l:List Nat) (set:Nat),CovN s set l->∀ c ∈ l,c < 2*s.lines.length
 | [],_,_,c,hc=>by cases hc
 | a :: l,set,h,c,hc=>by
  rcases List.mem_cons.1 hc with rfl|hc
  ·exact h.1
  ·exact zb7 l _ h.2.2 c hc
theorem zen{s:Cr}{e:Int}:∀(f:Nat) (l:List Nat) (x:Rch) (left:Nat) (r:List Nat),nextO s e f l x left=some r->∃ r' y,r=l ++ r' /\ CovN s left r' /\ runE s x r'=some y /\ y.2=e:=by
 intro f
 have h0:∀(l:List Nat) (x:Rch) (r:List Nat),(if x.2=e then some l else none)=some r->∃ r' y,r=l ++ r' /\ CovN s 0 r' /\ runE s x r'=some y /\ y.2=e:=fun l x r h=>by
  split at h
  ·cases h
   exact⟨[],x,(List.append_nil _).symm,rfl,rfl,by assumption⟩
  ·cases h
 induction f with
 | zero =>
  intro l x left r h
  unfold nextO at h
  split at h
  ·rename_i hl;subst hl;exact h0 l x r h
  ·cases h
 | succ f ih =>
  intro l x left r h
  by_cases hl:left=0
  ·subst hl
   have e1:nextO s e (f+1) l x 0=if x.2=e then some l else none:=rfl
   rw[e1] at h
   exact h0 l x r h
  ·rw[z6u s e f l x left hl] at h
   obtain⟨c,hc,h⟩:=z3x h
   unfold stepG at h
   cases hg:goF s x c with
   | none=>rw[hg] at h;cases h
   | some b =>
    rw[hg] at h
    dsimp only at h
    split at h
    ·cases h
    ·obtain⟨r',y,h1,h2,h3,h4⟩:=ih _ _ _ _ h
     have hm:=z0p.1 hc
     refine⟨c :: r',y,by rw[h1,List.append_assoc];rfl,⟨hm.1,hm.2,h2⟩,?_,h4⟩
     show(match goF s x c with|none=>none|some b=>runE s (rchF s c b.2) r')=_
     rw[hg];exact h3
theorem z9o{s:Cr}(hs:CrOk s){e:Int}:∀(f:Nat) (l:List Nat) (x:Rch) (left:Nat) (r:List Nat) (y:Rch),left<=f->CovN s left r->runE s x r=some y->y.2=e->nextO s e f l x left ≠ none:=by
 intro f
 have h0:∀(l:List Nat) (x:Rch) (r:List Nat) (y:Rch),CovN s 0 r->runE s x r=some y->y.2=e->(if x.2=e then some l else none) ≠ none:=fun l x r y h1 h2 h3=>by
  cases r with
  | nil=>cases h2;rw[if_pos h3];exact fun h=>by cases h
  | cons c r=>have:=h1.2.1;rw[Nat.zero_testBit] at this;cases this
 induction f with
 | zero =>
  intro l x left r y hf h1 h2 h3
  obtain rfl:left=0:=by omega
  exact h0 l x r y h1 h2 h3
 | succ f ih =>
  intro l x left r y hf h1 h2 h3
  by_cases hl:left=0
  ·subst hl
   exact h0 l x r y h1 h2 h3
  ·rw[z6u s e f l x left hl]
   cases r with
   | nil=>exact absurd h1 hl
   | cons c r =>
    intro h
    have h4:=List.findSome?_eq_none_iff.1 h c (z0p.2 ⟨h1.1,h1.2.1⟩)
    have e1:runE s x (c :: r)=match goF s x c with|none=>none|some b=>runE s (rchF s c b.2) r:=rfl
    rw[e1] at h2
    unfold stepG at h4
    cases hg:goF s x c with
    | none=>rw[hg] at h2;cases h2
    | some b =>
     rw[hg] at h2 h4
     dsimp only at h2 h4
     have hle:=zod hs r _ y (zb7 r _ h1.2.2) h2
     have hle:b.2<=y.2:=hle
     rw[if_neg (by omega)] at h4
     have:=zbl h1.2.1
     exact ih _ _ _ r y (by omega) h1.2.2 h2 h3 h4
theorem zfw{s:Cr}:∀(l:List Nat) (e:Int),-1<=e->(l.foldl (endS s) e=e ∨ ∃ c ∈ l,l.foldl (endS s) e=TT s (allN s) c /\ 0<=TT s (allN s) c) /\ (0<=e->0<=l.foldl (endS s) e /\ l.foldl (endS s) e<=e) /\ ∀ c ∈ l,0<=TT s (allN s) c->0<=l.foldl (endS s) e /\ l.foldl (endS s) e<=TT s (allN s) c
 | [],e,_=>⟨.inl rfl,fun h=>⟨h,Int.le_refl _⟩,fun c hc=>by cases hc⟩
 | a :: l,e,he=>by
  rw[List.foldl_cons]
  have hst:(endS s e a=e /\ (0<=TT s (allN s) a->0<=e /\ e<=TT s (allN s) a)) ∨(endS s e a=TT s (allN s) a /\ 0<=TT s (allN s) a /\ (0<=e->TT s (allN s) a<=e)):=by
   unfold endS
   split
   ·rename_i h;exact .inr ⟨rfl,h.1,fun _=>by omega⟩
   ·rename_i h;exact .inl ⟨rfl,fun h'=>by omega⟩
  obtain⟨h1,h2,h3⟩:=zfw l (endS s e a) (by rcases hst with h|h<;>omega)
  refine⟨?_,fun h=>?_,fun c hc h=>?_⟩
  ·rcases h1 with h1|⟨c,hc,h1⟩
   ·rcases hst with h|h
    ·exact .inl (by rw[h1,h.1])
    ·exact .inr ⟨a,List.mem_cons_self ..,by rw[h1,h.1],h.2.1⟩
   ·exact .inr ⟨c,List.mem_cons_of_mem _ hc,h1⟩
  ·have:=h2 (by rcases hst with h|h<;>omega)
   rcases hst with h|h<;>omega
  ·rcases List.mem_cons.1 hc with rfl|hc
   ·have:=h2 (by rcases hst with h' | h'<;>omega)
    rcases hst with h' | h'<;>omega
   ·exact h3 c hc h
theorem zid(s:Cr):allN s < 2 ^ s.lines.length:=by unfold allN;have:=Nat.two_pow_pos s.lines.length;omega
theorem zgt{s:Cr}(hs:CrOk s)(h:0<=endB s):∃ r y,nextO s (endB s) (allN s) [] (startR s) (allN s)=some r /\ CovN s (allN s) r /\ runE s (startR s) r=some y /\ y.2=endB s:=by
 rcases(zfw (s:=s) (shootsL s (allN s)) (-1) (by omega)).1 with h1|⟨c,hc,h1,h2⟩
 ·unfold endB at h;omega
 ·obtain⟨l,h3,h4⟩:=zr3 hs (allN s) (allN s) c (Nat.le_refl _) (zid s) (z0p.1 hc).1 (by omega)
  have h5:(rchF s c (TT s (allN s) c)).2=endB s:=by unfold endB;rw[h1];rfl
  cases hn:nextO s (endB s) (allN s) [] (startR s) (allN s) with
  | none=>exact absurd hn (z9o hs _ _ _ _ _ _ (Nat.le_refl _) h3 h4 h5)
  | some r =>
   obtain⟨r',y,g1,g2,g3,g4⟩:=zen _ _ _ _ _ hn
   obtain rfl:r=r':=g1
   exact⟨r,y,rfl,g2,g3,g4⟩
theorem z88{s:Cr}(hn:s.lines.length<=5):∀(l:List Nat) (set:Nat),set < 1048576->CovN s set l->(l.map (· / 2)).Nodup /\ ∀ k,set.testBit k=true ↔ k ∈ l.map (· / 2)
 | [],set,_,h=>by
  obtain rfl:set=0:=h
  exact⟨List.nodup_nil,fun k=>⟨fun h=>(by rw[Nat.zero_testBit] at h;cases h),fun h=>(by cases h)⟩⟩
 | c :: l,set,hs,h=>by
  obtain⟨h1,h2,h3⟩:=h
  have hle:=zkj (a:=set) (k:=c / 2)
  obtain⟨g1,g2⟩:=z88 hn l _ (by omega) h3
  have hb:=fun j=>z2g (set:=set) (k:=c / 2) (j:=j) hs (by omega)
  refine⟨List.nodup_cons.2 ⟨fun hm=>?_,g1⟩,fun k=>?_⟩
  ·have:=(g2 _).2 hm
   rw[hb] at this
   simp at this
  ·rw[List.map_cons,List.mem_cons,<- g2 k,hb,Bool.and_eq_true]
   constructor
   ·intro h
    by_cases hk:c / 2=k
    ·exact .inl hk.symm
    ·exact .inr ⟨h,by rw[decide_eq_false hk];rfl⟩
   ·rintro(rfl|h)
    ·exact h2
    ·exact h.1
def unN(c:Nat):Int × Int:=((c / 2:Nat),(c % 2:Nat))
theorem zv3(c:Nat):shN (unN c)=c:=by unfold shN unN;dsimp only;omega
theorem zq4{s:Cr}(hs:CrOk s){l:List Nat}(h:CovN s (allN s) l):OrdOk s (l.map unN) /\ l.length=s.lines.length /\ (l.map unN).map shN=l:=by
 have hn5:=hs.n5
 have hp2:2 ^ s.lines.length<=32:=Nat.pow_le_pow_right (n:=2) (by omega) hn5
 obtain⟨h1,h2⟩:=z88 hn5 l _ (by unfold allN;omega) h
 refine⟨⟨fun x hx=>?_,?_⟩,?_,?_⟩
 ·obtain⟨c,hc,rfl⟩:=List.mem_map.1 hx
  have:=zb7 l _ h c hc
  unfold rightP unN
  dsimp only
  omega
 ·rw[List.map_map]
  have e:((fun x:Int × Int=>x.1) ∘ unN)=(fun k:Nat=>(k:Int)) ∘ (fun c:Nat=>c / 2):=rfl
  rw[e,<- List.map_map]
  exact List.pairwise_map.2 (List.Pairwise.imp (fun {a b} hab=>by omega) h1)
 ·have g1:=z7n s.lines.length _ h1 (fun k hk=>zr9 (zid s) ((h2 k).2 hk))
  have g2:s.lines.length<=l.length:=by
   have hsub:List.range s.lines.length ⊆ l.map (· / 2):=fun k hk=>(h2 k).1 (by unfold allN;exact zdn (List.mem_range.1 hk))
   have:=(List.nodup_range (n:=s.lines.length)).length_le_of_subset hsub
   rw[List.length_range,List.length_map] at this
   exact this
  rw[List.length_map] at g1
  omega
 ·rw[List.map_map]
  have:(shN ∘ unN)=id:=funext zv3
  rw[this,List.map_id]
theorem zmh{bs:List Bd}{n:Nat}(h:bs.length=n)(h0:0 < n){d:Int}:(bs.getLast?.map (·.2)).getD d=(bs[n - 1]'(by omega)).2:=by
 subst h
 rw[List.getLast?_eq_getElem?,List.getElem?_eq_getElem (by omega)];rfl
def chB:Int->List Bd->Prop
 | _,[]=>True
 | t,b :: l=>t<=b.1 /\ b.1<=b.2 /\ chB b.2 l
theorem zgo{s:Cr}(h:CrOk s):∀(l:List Nat) (x:Rch) (bs:List Bd),(∀ c ∈ l,c < 2*s.lines.length)->timesG s x l=some bs->chB x.2 bs
 | [],x,bs,_,hb=>by cases hb;trivial
 | c :: l,x,bs,hc,hb=>by
  have e1:timesG s x (c :: l)=match goF s x c with|none=>none|some b=>(timesG s (rchF s c b.2) l).map (b :: ·):=rfl
  rw[e1] at hb
  cases hg:goF s x c with
  | none=>rw[hg] at hb;cases hb
  | some b =>
   rw[hg] at hb
   have h1:=hc c (List.mem_cons_self ..)
   have h2:=za3 h (show c / 2 < s.lines.length by omega) hg
   obtain⟨bs',h3,rfl⟩:=Option.map_eq_some_iff.1 hb
   exact⟨by omega,h2.2.2.1,zgo h l _ bs' (fun d hd=>hc d (List.mem_cons_of_mem _ hd)) h3⟩
abbrev be(bs:List Bd)(i:Nat):Bd:=bs.getD i (0,0)
theorem zlx:∀(bs:List Bd) (t:Int),chB t bs->∀ i,i < bs.length->t<=(be bs i).1 /\ (be bs i).1<=(be bs i).2 /\ (i+1 < bs.length->(be bs i).2<=(be bs (i+1)).1) /\ (be bs i).2<=(be bs (bs.length - 1)).2
 | [],_,_,i,hi=>absurd hi (Nat.not_lt_zero _)
 | [b],t,h,0,_=>⟨h.1,h.2.1,fun h=>absurd h (Nat.lt_irrefl 1),Int.le_refl _⟩
 | [b],t,h,i+1,hi=>absurd (Nat.lt_of_succ_lt_succ hi) (Nat.not_lt_zero _)
 | b :: b' :: l,t,h,0,_=>by
  have ih:=zlx (b' :: l) b.2 h.2.2 0 (Nat.zero_lt_succ _)
  have e:be (b' :: l) ((b' :: l).length - 1)=be (b :: b' :: l) ((b :: b' :: l).length - 1):=rfl
  rw[e] at ih
  refine⟨h.1,h.2.1,fun _=>ih.1,?_⟩
  have i1:=ih.1
  have i2:=ih.2.1
  have i3:=ih.2.2.2
  show b.2<=_
  omega
 | b :: b' :: l,t,h,i+1,hi=>by
  have ih:=zlx (b' :: l) b.2 h.2.2 i (Nat.lt_of_succ_lt_succ hi)
  have e:be (b' :: l) ((b' :: l).length - 1)=be (b :: b' :: l) ((b :: b' :: l).length - 1):=rfl
  rw[e] at ih
  have h1:=h.1
  have h2:=h.2.1
  refine⟨?_,ih.2.1,fun h'=>ih.2.2.1 (Nat.lt_of_succ_lt_succ h'),ih.2.2.2⟩
  show t<=(be (b' :: l) i).1
  omega
theorem zqj{s:Cr}(hs:CrOk s)(h:0<=endB s):∃ r bs,nextO s (endB s) (allN s) [] (startR s) (allN s)=some r /\ r.length=s.lines.length /\ TimesF s (r.map unN)=(bs,0) /\ bs.length=s.lines.length /\ (∀ c ∈ r,c < 2*s.lines.length) /\ (r.map (· / 2)).Nodup /\ (∀ k,k < s.lines.length->k ∈ r.map (· / 2)) /\ chB 0 bs /\ (be bs (s.lines.length - 1)).2=endB s:=by
 obtain⟨r,y,h1,h2,h3,h4⟩:=zgt hs h
 obtain⟨g1,g2,g3⟩:=zq4 hs h2
 have hn1:=hs.n1
 have hn5:=hs.n5
 have hp2:2 ^ s.lines.length<=32:=Nat.pow_le_pow_right (n:=2) (by omega) hn5
 obtain⟨q1,q2⟩:=z88 hn5 r _ (by unfold allN;omega) h2
 have hm:=zb7 _ _ h2
 cases ht:timesG s (startR s) r with
 | none=>rw[(z98 s _ _).1.1 ht] at h3;cases h3
 | some bs =>
  obtain⟨hlen,z,hr,hz⟩:=(z98 s _ _).2 bs ht
  rw[h3] at hr
  cases hr
  have he:TimesF s (r.map unN)=(bs,0):=by unfold TimesF;rw[if_pos hs,if_pos g1,g3,ht]
  rw[zmh (show bs.length=s.lines.length by omega) (by omega)] at hz
  refine⟨r,bs,h1,g2,he,by omega,hm,q1,fun k hk=>(q2 k).1 (by unfold allN;exact zdn hk),zgo hs r _ bs hm ht,?_⟩
  rw[be,List.getD_eq_getElem?_getD,List.getElem?_eq_getElem (by omega)]
  exact hz.symm.trans h4
noncomputable def voyAt(s:Cr)(r:List Nat)(bs:List Bd)(i:Nat):List Mk:=[(((2*i:Nat):Int),(wayC s (r.getD i 0)).1.1,(wayC s (r.getD i 0)).1.2,(be bs i).1),(((2*i+1:Nat):Int),(wayC s (r.getD i 0)).2.1,(wayC s (r.getD i 0)).2.2,(be bs i).2)]
noncomputable def voyL(s:Cr)(r:List Nat)(bs:List Bd)(k:Nat):List Mk:=(List.range k).flatMap (voyAt s r bs)
theorem zl3(s:Cr)(r:List Nat)(bs:List Bd)(k:Nat):voyL s r bs (k+1)=voyL s r bs k ++ voyAt s r bs k:=by unfold voyL;rw[List.range_succ,List.flatMap_append];simp
theorem z65(s:Cr)(r:List Nat)(bs:List Bd):∀ k,(voyL s r bs k).length=2*k
 | 0=>rfl
 | k+1=>by rw[zl3,List.length_append,z65 s r bs k];show 2*k+2=_;omega
theorem zo5{α:Type}{l m:List α}{i:Nat}{d:α}(h:i < l.length):(l ++ m).getD i d=l.getD i d:=by rw[List.getD_eq_getElem?_getD,List.getD_eq_getElem?_getD,List.getElem?_append_left h]
theorem zo6{α:Type}{l m:List α}{i:Nat}{d:α}(h:l.length<=i):(l ++ m).getD i d=m.getD (i - l.length) d:=by rw[List.getD_eq_getElem?_getD,List.getD_eq_getElem?_getD,List.getElem?_append_right h]
theorem zf9(s:Cr)(r:List Nat)(bs:List Bd):∀ k i,i < k->me (voyL s r bs k) (2*i)=(((2*i:Nat):Int),(wayC s (r.getD i 0)).1.1,(wayC s (r.getD i 0)).1.2,(be bs i).1) /\ me (voyL s r bs k) (2*i+1)=(((2*i+1:Nat):Int),(wayC s (r.getD i 0)).2.1,(wayC s (r.getD i 0)).2.2,(be bs i).2)
 | 0,i,h=>absurd h (Nat.not_lt_zero _)
 | k+1,i,h=>by
  have hl:=z65 s r bs k
  rw[zl3]
  unfold me
  rcases Nat.lt_or_ge i k with h1|h1
  ·rw[zo5 (by omega),zo5 (by omega)]
   exact zf9 s r bs k i h1
  ·obtain rfl:i=k:=by omega
   rw[zo6 (by omega),zo6 (by omega),hl,show 2*i - 2*i=0 by omega,show 2*i+1 - 2*i=1 by omega]
   exact⟨rfl,rfl⟩
theorem zfk{n a b:Int}(h:a<=n /\ n<=b):btB n a b=true:=by unfold btB;simp;omega
theorem zk0{a x y t:Int}(ha:0<=a /\ a<=60000)(hp:Pl x y)(ht:0<=t /\ t<=99999):mkB (a,x,y,t)=true:=by
 obtain⟨p1,p2,p3,p4⟩:=hp
 unfold mkB ptB
 rw[zfk ha,zfk ht,zfk ⟨p1,p2⟩,zfk ⟨p3,p4⟩];rfl
theorem zl4{s:Cr}(hs:CrOk s){r:List Nat}{bs:List Bd}(hr:r.length=s.lines.length)(hb:bs.length=s.lines.length)(hm:∀ c ∈ r,c < 2*s.lines.length)(hc:chB 0 bs)(he:(be bs (s.lines.length - 1)).2<=99999):mksB (voyL s r bs s.lines.length)=true:=by
 have hn5:=hs.n5
 have hl:=z65 s r bs s.lines.length
 have hall:∀ i,i < s.lines.length->mkA (voyL s r bs s.lines.length) (2*i)=true /\ mkA (voyL s r bs s.lines.length) (2*i+1)=true:=by
  intro i hi
  obtain⟨m1,m2⟩:=zf9 s r bs s.lines.length i hi
  have hci:r.getD i 0 < 2*s.lines.length:=by
   rw[List.getD_eq_getElem?_getD,List.getElem?_eq_getElem (by omega)]
   exact hm _ (List.getElem_mem _)
  have hw:=z6w hs (show r.getD i 0 / 2 < s.lines.length by omega)
  obtain⟨c1,c2,c3,c4⟩:=zlx bs 0 hc i (by omega)
  rw[hb] at c4
  unfold mkA
  rw[show 2*i+1 - 1=2*i by omega,m1,m2]
  dsimp only
  rw[zk0 (by omega) hw.1 (by omega),zk0 (by omega) hw.2.1 (by omega),Bool.true_and,Bool.true_and]
  constructor
  ·by_cases h0:i=0
   ·subst h0;rfl
   ·obtain⟨_,m4⟩:=zf9 s r bs s.lines.length (i - 1) (by omega)
    obtain⟨d1,d2,d3,d4⟩:=zlx bs 0 hc (i - 1) (by omega)
    have d3:=d3 (by omega)
    rw[show i - 1+1=i by omega] at d3
    rw[show 2*i - 1=2*(i - 1)+1 by omega,m4]
    dsimp only
    rw[decide_eq_true (show(((2*(i - 1)+1:Nat)):Int) <((2*i:Nat):Int) by omega),decide_eq_true d3];simp
  ·rw[decide_eq_true (show(((2*i:Nat)):Int) <((2*i+1:Nat):Int) by omega),decide_eq_true c2];simp
 unfold mksB
 rw[hl,decide_eq_true (by omega),Bool.true_and]
 unfold mkK
 rw[List.all_eq_true]
 intro j hj
 rw[List.mem_range] at hj
 have:=hall (j / 2) (by omega)
 rcases Nat.mod_two_eq_zero_or_one j with h0|h0
 ·rw[show j=2*(j / 2) by omega];exact this.1
 ·rw[show j=2*(j / 2)+1 by omega];exact this.2
def cntN(r:List Nat)(i k:Nat):Nat:=((r.take k).filter fun c=>c / 2 == i).length
theorem zsd{r:List Nat}{i k:Nat}(h:k < r.length):cntN r i (k+1)=cntN r i k+if r.getD k 0 / 2=i then 1 else 0:=by
 unfold cntN
 rw[List.take_succ_eq_append_getElem h,List.filter_append,List.length_append,List.getD_eq_getElem?_getD,List.getElem?_eq_getElem h]
 dsimp only[Option.getD_some]
 congr 1
 by_cases h1:r[k] / 2=i
 ·rw[if_pos h1];simp[h1]
 ·rw[if_neg h1];simp[h1]
theorem zpc(r:List Nat)(i k:Nat):cntN r i k<=r.length:=by
 unfold cntN
 exact Nat.le_trans (List.length_filter_le _ _) (by rw[List.length_take];omega)
theorem zfx:∀(r:List Nat) (i:Nat),(r.map (· / 2)).Nodup->i ∈ r.map (· / 2)->(r.filter fun c=>c / 2 == i).length=1
 | [],i,_,h=>by cases h
 | c :: r,i,hn,h=>by
  rw[List.map_cons,List.nodup_cons] at hn
  by_cases h1:c / 2=i
  ·have h2:(r.filter fun c=>c / 2 == i)=[]:=by
    rw[List.filter_eq_nil_iff]
    intro d hd h3
    have h3:=eq_of_beq h3
    exact hn.1 (List.mem_map.2 ⟨d,hd,by omega⟩)
   rw[List.filter_cons_of_pos (by simpa using h1),h2];rfl
  ·rw[List.filter_cons_of_neg (by simpa using h1)]
   refine zfx r i hn.2 ?_
   rw[List.map_cons,List.mem_cons] at h
   exact h.resolve_left fun e=>h1 e.symm
theorem zlz{r:List Nat}{i:Nat}(hn:(r.map (· / 2)).Nodup)(h:i ∈ r.map (· / 2)):cntN r i r.length=1:=by
 unfold cntN;rw[List.take_length];exact zfx r i hn h
end Go.Proofs.YtpgalhbplcanhaaGreatDoor.C
end
section
open Go PvL Go.Proofs
set_option linter.unusedSimpArgs false
set_option linter.unusedVariables false
namespace Go.Proofs.YtpgalhbplcanhaaGreatDoor.C
theorem zqh(r:List Nat):(r.map unN).flatMap shtc=r.flatMap shcc:=by rw[List.flatMap_map];rfl
theorem zd8{M M':Mem}{n:Nat}{ty:TypeId}{m m':Mk}(h:New M n (.cells true (mkc m ++ mkc m') ty) M'):z08 4 2 (.slice (some (n,0)) 2 true 4) M'=some ([m,m'].flatMap mkc):=by
 have ha:=At.new_same h
 show loadN M' n 0 (2*4)=_
 exact(Rd.of_at (l:=mkc m ++ mkc m') ha rfl).1
set_option maxHeartbeats 32000000 in
theorem zdt{A:CrA}{s:Cr}{M:Mem}(hM:CrM M A s)(hE:ES M)(hP:P10 M)(hD:D64 M)(hB:Base M)(hp:preOk M tabsT=true):ze Tryz.prog 3 [crv A s] M (fun v _=>v=.bool true):=by
 have hpM:∀ M',Grow M M'->preOk M' tabsT=true:=fun M' hg=>z93 (Ext.of_grow hg hB) hp
 have hbs:=fun M' (hg:Grow M M')=>zrc (hM.grow hg)
 refine zf k3 rfl ?_
 delta x3;refine un ?_
 repeat' first|with_reducible intro _|refine sv ?_|((with_reducible first|apply zz|apply z0w|apply x_call0);exact gd;exact rfl;exact rfl;(first|exact hbs _ (xg)))|refine ss ?_ ?_<;>(intro h;first|exact sz h|refine sy h ?_)|exact sq|fail
 rename_i n2 M1 hn2 e1 e2 w M3 hq
 obtain⟨hg3,hcase⟩:=hq
 have hle3:=hg3.le
 have hg03:Grow M M3:=xg
 have aC:At M3 n2 (.cells true (crc A s) 35):=At.grow hg3 (At.new_same hn2)
 clear hn2 e1
 rcases hcase with⟨hno,rfl⟩|⟨hok,hneg,rfl⟩|⟨hok,hpos,u,rfl,hu⟩
 ·repeat' first|with_reducible intro _|refine sv ?_|((with_reducible first|apply zu|apply zt|apply zn);exact gd;exact rfl;exact rfl;(first|exact zb1 (hpM _ hg03)))|refine ss ?_ ?_<;>(intro h;first|exact sz h|refine sy h ?_)|exact sq|fail
  refine kf ?_
  rfl
 ·repeat' first|with_reducible intro _|refine sv ?_|((with_reducible first|apply zu|apply zt|apply zn);exact gd;exact rfl;exact rfl;(first|exact zb1 (hpM _ hg03)))|refine ss ?_ ?_<;>(intro h;first|exact sz h|refine sy h ?_)|exact sq|fail
  refine kf ?_
  rfl
 obtain⟨r,bs,hnx,hrl,hto,hbl,hcm,hnd,hall,hch,hend⟩:=zqj hok hpos
 have hn1:=hok.n1
 have hn5:=hok.n5
 have hv:=hu r hnx
 have hol:(r.map unN).length=r.length:=List.length_map _
 rcases hv with⟨h0,_⟩|⟨ir,rfl,ar,hb⟩
 ·rw[h0] at hrl;simp at hrl;omega
 rw[<-zqh] at ar
 have hlo:SlA 2 shtc M3 (some (ir,0)) (r.map unN):=.inr ⟨ir,0,rfl,fun k hk=>z3k (enc:=shtc) ar (fun _ _=>rfl) hk⟩
 have htm:=fun M' (hg:Grow M3 M')=>zow (fI:=false) (eI:=2) ((hM.grow hg03).grow hg) (hlo.grow hg) (by omega)
 rw[hto,hol] at htm
 have hebd:(0:Int)<=endB s /\ endB s<=1048576:=⟨hpos,(zfv hok _ (-1) (by omega) (fun y hy=>(z0p.1 hy).1)).2⟩
 have hir:ir < M3.next:=ar.2
 clear hnx hu hto hlo
 generalize hebe:endB s=eB at *
 obtain⟨aL,fL,aF,fF,aB,fB,aO,fO,eF⟩:=A
 dsimp only at htm
 repeat' first|with_reducible intro _|refine sv ?_|((with_reducible first|apply zz|apply z0w|apply x_call0);exact gd;exact rfl;exact rfl;(first|exact htm _ (xg)))|refine ss ?_ ?_<;>(intro h;first|exact sz h|refine sy h ?_)|exact sq|fail
 rename_i w M5 hq
 obtain⟨hg5,sl,rfl,hsl⟩:=hq
 have hle5:=hg5.le
 obtain⟨ax,fx,ex,rfl,hrd⟩:=hsl.rd (fun x _=>rfl)
 have hg05:Grow M M5:=hg03.trans hg5
 have aC5:=aC.grow hg5
 have aR5:=ar.grow hg5
 have hM5:=hM.grow hg05
 clear hsl htm hbs aC ar hg3
 by_cases hlate:99999 < eB
 ·repeat' first|with_reducible intro _|refine sv ?_|((with_reducible first|apply zu|apply zt|apply zn);exact gd;exact rfl;exact rfl;(first|exact zb1 (hpM _ hg05)))|refine ss ?_ ?_<;>(intro h;first|exact sz h|refine sy h ?_)|exact sq|fail
  all_goals first
   |(exfalso;omega)
   |((refine kf ?_);rfl)
 repeat' first|with_reducible intro _|refine sv ?_|refine ss ?_ ?_<;>(intro h;first|exact sz h|refine sy h ?_)|exact sq|fail
 all_goals first
  |(exfalso;omega)
  | skip
 obtain⟨iL,oL,haL,hrL⟩:=hM5.lines.resolve_left (fun h=>by rw[h] at hn1;exact absurd hn1 (by decide))
 obtain rfl:aL=some (iL,oL):=haL
 dsimp only[crc] at aC5
 obtain⟨ix,oB,rfl,hrx⟩:=hrd.resolve_left (fun h=>by rw[h] at hbl;exact absurd hbl (by show ¬ 0=_;omega))
 have hrr:∀ k (hk:k < r.length),Rd M5 ir (0+k*2) 2 (shtc (unN r[k])):=fun k hk=>by
  have:=z3k (sz:=2) (enc:=shtc) aR5 (fun _ _=>rfl) (show k <(r.map unN).length by omega)
  rw[List.getElem_map] at this;exact this
 clear hrd aR5
 refine zk (fun m E ms M'=>∃(k:Nat) (v:LV),m=r.length - k /\ k<=r.length /\ ms=[] /\ Has E [(1,.ptr (some (n2,0))),(3,.slice (some (ir,0)) r.length false 2),(6,.slice (some (ix,oB)) bs.length fx ex),(7,v),(8,I k)] /\ Grow M5 M' /\ Vec M5.next 4 51 mkc M' v (voyL s r bs k))
  ?_ r.length _ _ _ ⟨0,_,by omega,by omega,rfl,.cons rfl (.cons rfl (.cons rfl (.cons rfl (.cons rfl .nil)))),Grow.refl _,Vec.nil⟩
 rintro m E ms M6 ⟨k,v,rfl,hk,rfl,hE6,hg6,hv6⟩
 refine z1h hE6 ?_
 by_cases hlast:k=r.length
 case neg =>
  have hlt:k < r.length:=by omega
  have hle6:=hg6.le
  have aC6:=aC5.grow hg6
  have hci:=hcm _ (List.getElem_mem hlt)
  have hgk:r.getD k 0=r[k]:=z00 hlt
  have hbk:be bs k=bs[k]:=z00 (by omega)
  have r1:=(hrr k hlt).grow hg6
  have r2:=(hrL (r[k] / 2) (by omega)).grow hg6
  have r3:=(hrx k (by omega)).grow hg6
  have hwk:wayC s (r.getD k 0)=wayF s (r[k] / 2) ((r[k] % 2:Nat):Int):=by unfold wayC;rw[hgk]
  unfold wayF at hwk
  rw[z00 (show r[k] / 2 < s.lines.length by omega)] at hwk
  have hlen6:=z65 s r bs k
  have hap:=zl3 s r bs k
  unfold voyAt at hap
  rw[hwk,hbk] at hap
  generalize s.lines[r[k] / 2]'(by omega)=lg at *
  generalize bs[k]'(by omega)=bk at *
  obtain⟨⟨ax1,ay1⟩,bx1,by1⟩:=lg
  obtain⟨blo,bhi⟩:=bk
  generalize hcc:r[k]=c at *
  have r1a:Rd1 M6 ir (0+k*2+0) (I ((c / 2:Nat):Int)):=r1.nth (j:=0) rfl
  have r1b:Rd1 M6 ir (0+k*2+1) (I ((c % 2:Nat):Int)):=r1.nth (j:=1) rfl
  have r2:Rd M6 iL (oL+c / 2*4) 4 [I ax1,I ay1,I bx1,I by1]:=r2
  have r3a:Rd1 M6 ix (oB+k*2+0) (I blo):=r3.nth (j:=0) rfl
  have r3b:Rd1 M6 ix (oB+k*2+1) (I bhi):=r3.nth (j:=1) rfl
  have hix:=r3b.2
  dsimp only at hap
  rw[show((2*k:Nat):Int)=2*(k:Int) by omega,show((2*k+1:Nat):Int)=2*(k:Int)+1 by omega] at hap
  have hbig:(2*((voyL s r bs k).length+2)+2048)*32<=140737488355328:=by rw[hlen6];omega
  (have hrd0:=r1a;have hrd1:=r1b;have hrd2:=r2;have hrd3:=r3a;have hrd4:=r3b;repeat' (first|(with_reducible intro _)|refine sv ?_|((with_reducible first|apply zu|apply zt|apply zn);exact gd;exact rfl;exact rfl;(first|exact zil _ _ _ _))|refine ss ?_ ?_<;>(intro h;first|exact sz h|refine sy h ?_)|exact sq|fail))
  all_goals try(exfalso;omega)
  ·rename_i n3 M7 z1 z2 z3 M8 z4 z5 z6 M9 z7 z8 z9 n4 M10 y1 y2 y3
   have hw1:=h
   rw[if_pos hw1] at hap
   have g10:Grow M6 M10:=(((z1.grow.upd z4 (by omega)).upd z7 (by omega))).trans y1.grow
   have hl10:=g10.le
   have hv10:=hv6.grow g10
   refine z8b (by exact gd) (l':=[(2*(k:Int),bx1,by1,blo),(2*(k:Int)+1,ax1,ay1,bhi)]) hv10 rfl rfl rfl (by simp) hbig rfl (zd8 (m:=(2*(k:Int),bx1,by1,blo)) (m':=(2*(k:Int)+1,ax1,ay1,bhi)) y1) (fun _=>rfl) (fun _=>rfl) (by omega) ?_
   intro v7 M11 hv11 hn11 hk11
   rw[<-hap] at hv11
   have g11:Grow M5 M11:=Keep.to_grow' (hg6.trans g10) hk11 (fun i hi=>hi.1)
   repeat' first|with_reducible intro _|refine sv ?_|refine ss ?_ ?_<;>(intro h;first|exact sz h|refine sy h ?_)|exact sq|fail
   refine z0d (r.length - (k+1)) (by omega) ⟨k+1,v7,rfl,by omega,rfl,.cons rfl (.cons rfl (.cons rfl (.cons rfl (.cons rfl .nil)))),g11,hv11⟩
  ·rename_i n3 M7 z1 z2 z3 M8 z4 z5 z6 n4 M10 y1 y2 y3
   have hw1:=h
   rw[if_neg hw1] at hap
   have g10:Grow M6 M10:=(z1.grow.upd z4 (by omega)).trans y1.grow
   have hl10:=g10.le
   have hv10:=hv6.grow g10
   refine z8b (by exact gd) (l':=[(2*(k:Int),ax1,ay1,blo),(2*(k:Int)+1,bx1,by1,bhi)]) hv10 rfl rfl rfl (by simp) hbig rfl (zd8 (m:=(2*(k:Int),ax1,ay1,blo)) (m':=(2*(k:Int)+1,bx1,by1,bhi)) y1) (fun _=>rfl) (fun _=>rfl) (by omega) ?_
   intro v7 M11 hv11 hn11 hk11
   rw[<-hap] at hv11
   have g11:Grow M5 M11:=Keep.to_grow' (hg6.trans g10) hk11 (fun i hi=>hi.1)
   repeat' first|with_reducible intro _|refine sv ?_|refine ss ?_ ?_<;>(intro h;first|exact sz h|refine sy h ?_)|exact sq|fail
   refine z0d (r.length - (k+1)) (by omega) ⟨k+1,v7,rfl,by omega,rfl,.cons rfl (.cons rfl (.cons rfl (.cons rfl (.cons rfl .nil)))),g11,hv11⟩
 subst hlast
 have hle6:=hg6.le
 have hm:mksB (voyL s r bs r.length)=true:=by
  have:=zl4 hok hrl hbl hcm hch (by omega)
  rwa [<-hrl] at this
 have hLl:=z65 s r bs r.length
 obtain⟨aV,fV,eV,rfl,hsV⟩:=hv6.rd (fun x _=>rfl)
 have hs6:SlM M6 aV (voyL s r bs r.length):=hsV
 have hg06:Grow M M6:=hg05.trans hg6
 have aC6:=aC5.grow hg6
 have hrr6:∀ k (hk:k < r.length),Rd M6 ir (0+k*2) 2 (shtc (unN r[k])):=fun k hk=>(hrr k hk).grow hg6
 generalize voyL s r bs r.length=L at *
 have hpo:=zux zv0 hm (by omega)
 have hmp:mpF L=(mxL L,0):=by unfold mpF;rw[if_pos hm]
 have hml:=z8x L
 have cp:=zce (f:=fV) (e:=eV) hs6 (by omega) (hP.grow hg06) (hD.grow hg06)
 rw[hmp] at cp
 have cz:=fun M' (hg:Grow M6 M')=>zcd (mxL L) (by omega) (hE.grow (hg06.trans hg)) (hP.grow (hg06.trans hg)) (hD.grow (hg06.trans hg))
 rw[hpo] at cz
 dsimp only at cp cz
 clear hrL hrx hv6 hsV hm hpo hmp hM hM5 hch aC5 hrr hE6
 have hE6:True:=trivial
 repeat' first|with_reducible intro _|refine sv ?_|((with_reducible first|apply zj|apply zi|apply d_pure0);exact gd;exact rfl;exact rfl;(first|exact cp))|((with_reducible first|apply zz|apply z0w|apply x_call0);exact gd;exact rfl;exact rfl;(first|exact cz _ (xg)))|refine ss ?_ ?_<;>(intro h;first|exact sz h|refine sy h ?_)|exact sq|fail
 rename_i M7 u1 u2 w M8 hq
 obtain⟨⟨a8,f8,e8,rfl,hs8⟩,hg8⟩:=hq
 have hg68:Grow M6 M8:=u1.trans hg8
 have hg08:Grow M M8:=hg06.trans hg68
 have aC8:=aC6.grow hg68
 have hsV8:=hs6.grow hg68
 have hrr8:∀ k (hk:k < r.length),Rd M8 ir (0+k*2) 2 (shtc (unN r[k])):=fun k hk=>(hrr6 k hk).grow hg68
 have hle8:=hg8.le
 have hle7:=u1.le
 have cT:=zb1 (hpM _ hg08)
 clear u1 u2 hg8 hg68 hs6 aC6 hrr6 cp cz
 repeat' first|with_reducible intro _|refine sv ?_|refine ss ?_ ?_<;>(intro h;first|exact sz h|refine sy h ?_)|exact sq|fail
 all_goals try(exfalso;omega)
 refine zk (fun m E ms M'=>∃(k:Nat),m=L.length - k /\ k<=L.length /\ ms=[] /\ Has E [(1,.ptr (some (n2,0))),(3,.slice (some (ir,0)) r.length false 2),(7,.slice aV L.length fV eV),(11,.slice a8 L.length f8 e8),(13,I k)] /\ M'=M8)
  ?_ L.length _ _ _ ⟨0,by omega,by omega,rfl,.cons rfl (.cons rfl (.cons rfl (.cons rfl (.cons rfl .nil)))),rfl⟩
 rintro m E ms M9 ⟨k,rfl,hk,rfl,hE7,heM⟩
 obtain rfl:M8=M9:=heM.symm
 refine z1h hE7 ?_
 by_cases hlast:k=L.length
 case neg =>
  have hlt:k < L.length:=by omega
  obtain⟨i1,o1,rfl,q1⟩:=hsV8.rd hlt
  obtain⟨i2,o2,rfl,q2⟩:=hs8.rd hlt
  have q1:=q1 k hlt
  have q2:=q2 k hlt
  generalize me L k=mk at *
  obtain⟨x1,x2,x3,x4⟩:=mk
  have q1:Rd M8 i1 (o1+k*4) 4 [I x1,I x2,I x3,I x4]:=q1
  have q2:Rd M8 i2 (o2+k*4) 4 [I x1,I x2,I x3,I x4]:=q2
  (have hrd0:=q1;have hrd1:=q2;repeat' (first|(with_reducible intro _)|refine sv ?_|refine ss ?_ ?_<;>(intro h;first|exact sz h|refine sy h ?_)|exact sq|fail))
  all_goals try(exfalso;omega)
  refine z0d (L.length - (k+1)) (by omega) ⟨k+1,rfl,by omega,rfl,.cons rfl (.cons rfl (.cons rfl (.cons rfl (.cons rfl .nil)))),rfl⟩
 subst hlast
 clear hs8 hsV8
 repeat' first|with_reducible intro _|refine sv ?_|refine ss ?_ ?_<;>(intro h;first|exact sz h|refine sy h ?_)|exact sq|fail
 all_goals try(exfalso;omega)
 refine zk (fun m E ms M'=>∃(i:Nat),m=r.length - i /\ i<=r.length /\ ms=[] /\ Has E [(1,.ptr (some (n2,0))),(3,.slice (some (ir,0)) r.length false 2),(14,I i)] /\ M'=M8)
  ?_ r.length _ _ _ ⟨0,by omega,by omega,rfl,.cons rfl (.cons rfl (.cons rfl .nil)),rfl⟩
 rintro m E ms M9 ⟨i,rfl,hi,rfl,hE8,heM⟩
 obtain rfl:M8=M9:=heM.symm
 refine z1h hE8 ?_
 by_cases hlast:i=r.length
 ·subst hlast
  repeat' first|with_reducible intro _|refine sv ?_|((with_reducible first|apply zu|apply zt|apply zn);exact gd;exact rfl;exact rfl;(first|exact cT))|refine ss ?_ ?_<;>(intro h;first|exact sz h|refine sy h ?_)|exact sq|fail
  all_goals try(exfalso;omega)
  refine kf ?_
  rfl
 have hone:=zlz hnd (hall i (by omega))
 repeat' first|with_reducible intro _|refine sv ?_|refine ss ?_ ?_<;>(intro h;first|exact sz h|refine sy h ?_)|exact sq|fail
 all_goals try(exfalso;omega)
 refine zk (fun m E ms M'=>∃(k:Nat),m=r.length - k /\ k<=r.length /\ ms=[] /\ Has E [(1,.ptr (some (n2,0))),(3,.slice (some (ir,0)) r.length false 2),(14,I i),(15,I (cntN r i k)),(16,I k)] /\ M'=M8)
  ?_ r.length _ _ _ ⟨0,by omega,by omega,rfl,.cons rfl (.cons rfl (.cons rfl (.cons rfl (.cons rfl .nil)))),rfl⟩
 rintro m E ms M9 ⟨k,rfl,hk,rfl,hE9,heM⟩
 obtain rfl:M8=M9:=heM.symm
 refine z1h hE9 ?_
 by_cases hlast2:k=r.length
 ·subst hlast2
  rw[hone]
  repeat' first|with_reducible intro _|refine sv ?_|refine ss ?_ ?_<;>(intro h;first|exact sz h|refine sy h ?_)|exact sq|fail
  all_goals try(exfalso;omega)
  refine z0d (r.length - (i+1)) (by omega) ⟨i+1,rfl,by omega,rfl,.cons rfl (.cons rfl (.cons rfl .nil)),rfl⟩
 have hlt:k < r.length:=by omega
 have hcs:=zsd (i:=i) hlt
 have hcb:=zpc r i k
 rw[z00 hlt] at hcs
 have r1:Rd1 M8 ir (0+k*2+0) (I ((r[k] / 2:Nat):Int)):=(hrr8 k hlt).nth (j:=0) rfl
 generalize cntN r i k=cn at *
 generalize r[k] / 2=cd at *
 by_cases hci:cd=i
 ·rw[if_pos hci] at hcs
  (have hrd0:=r1;repeat' (first|(with_reducible intro _)|refine sv ?_|refine ss ?_ ?_<;>(intro h;first|exact sz h|refine sy h ?_)|exact sq|fail))
  all_goals try(exfalso;omega)
  refine z0d (r.length - (k+1)) (by omega) ⟨k+1,rfl,by omega,rfl,.cons rfl (.cons rfl (.cons rfl (.cons (by rw[hcs];rfl) (.cons rfl .nil)))),rfl⟩
 ·rw[if_neg hci] at hcs
  (have hrd0:=r1;repeat' (first|(with_reducible intro _)|refine sv ?_|refine ss ?_ ?_<;>(intro h;first|exact sz h|refine sy h ?_)|exact sq|fail))
  all_goals try(exfalso;omega)
  refine z0d (r.length - (k+1)) (by omega) ⟨k+1,rfl,by omega,rfl,.cons rfl (.cons rfl (.cons rfl (.cons (by rw[hcs];rfl) (.cons rfl .nil)))),rfl⟩
end Go.Proofs.YtpgalhbplcanhaaGreatDoor.C
end
section
open Go PvL
set_option linter.unusedSimpArgs false
set_option linter.unusedVariables false
namespace Go.Proofs.YtpgalhbplcanhaaGreatDoor.C
abbrev ptSh:Sh:=.pair (.int .i64) (.int .i64)
abbrev legSh:Sh:=.pair ptSh ptSh
abbrev rgSh:Sh:=.pair ptSh (.pair ptSh (.pair ptSh ptSh))
abbrev poseSh:Sh:=.pair ptSh (.int .i64)
abbrev crSh:Sh:=.pair (.sl legSh 32) (.pair (.sl (.sl ptSh 16) 24) (.pair (.sl ptSh 16) (.pair rgSh (.pair poseSh (.pair (.int .i64) (.pair (.int .i64) (.sl (.sl ptSh 16) 24)))))))
def toCr(x:crSh.T):Cr:=⟨x.1,x.2.1,x.2.2.1,x.2.2.2.1,x.2.2.2.2.1,x.2.2.2.2.2.1,x.2.2.2.2.2.2.1,x.2.2.2.2.2.2.2⟩
theorem z8e{m:Mem}{x:Int}{c:List LV}(h:Enc m (.int .i64) x c):c=[I x]:=h.1
theorem z4o{m:Mem}{x:ptSh.T}{c:List LV}(h:Enc m ptSh x c):c=[I x.1,I x.2]:=by
 obtain⟨c1,d1,rfl,h1,h2⟩:=h
 rw[z8e h1,z8e h2];rfl
theorem zph{m:Mem}{x:legSh.T}{c:List LV}(h:Enc m legSh x c):c=legc x:=by
 obtain⟨c1,d1,rfl,h1,h2⟩:=h
 rw[z4o h1,z4o h2];rfl
theorem zsi{m:Mem}{x:rgSh.T}{c:List LV}(h:Enc m rgSh x c):c=rgc x:=by
 obtain⟨c1,d1,rfl,h1,c2,d2,rfl,h2,c3,d3,rfl,h3,h4⟩:=h
 rw[z4o h1,z4o h2,z4o h3,z4o h4];rfl
theorem zm6{m:Mem}{x:poseSh.T}{c:List LV}(h:Enc m poseSh x c):c=[I x.1.1,I x.1.2,I x.2]:=by
 obtain⟨c1,d1,rfl,h1,h2⟩:=h
 rw[z4o h1,z8e h2];rfl
theorem ze5{m:Mem}{e:Sh}{by1:Nat}{enc:e.T->List LV}(he:∀ x c,Enc m e x c->c=enc x){l:List e.T}{cs:List LV}(h:Enc m (.sl e by1) l cs):∃ a f,cs=[.slice a l.length f e.size] /\ SlA e.size enc m a l /\ l.length<=reachBytes:=by
 obtain⟨a,f,h1,h2,h3⟩:=h
 refine⟨a,f,h1,?_,h2.1⟩
 by_cases hl:l=[]
 ·exact .inl hl
 ·obtain⟨i,o,g1,g2,_,g3⟩:=h3 hl
  refine .inr ⟨i,o,g1,fun k hk=>?_⟩
  obtain⟨c,g4,g5⟩:=g3 k hk
  rw[he _ _ g5] at g4
  exact⟨g4,g2⟩
theorem zd6:reachBytes<=1000000000000000:=by decide
theorem zja{m:Mem}{e:Sh}{by1 by2:Nat}{enc:e.T->List LV}(he:∀ x c,Enc m e x c->c=enc x){l:List (List e.T)}{cs:List LV}(h:Enc m (.sl (.sl e by1) by2) l cs):∃ a f,cs=[.slice a l.length f 1] /\ SlL e.size enc m a l /\ l.length<=reachBytes:=by
 obtain⟨a,f,h1,h2,h3⟩:=h
 refine⟨a,f,h1,?_,h2.1⟩
 by_cases hl:l=[]
 ·exact .inl hl
 ·obtain⟨i,o,g1,g2,_,g3⟩:=h3 hl
  refine .inr ⟨i,o,g1,fun k hk=>?_⟩
  obtain⟨c,g4,g5⟩:=g3 k hk
  obtain⟨a',f',rfl,k2,k3⟩:=ze5 he g5
  refine⟨a',f',⟨?_,g2⟩,k2,Nat.le_trans k3 zd6⟩
  have g4:loadN m i (o+k*1) 1=some [.slice a' l[k].length f' e.size]:=g4
  unfold loadN atCells at g4
  unfold load1 atCells
  obtain⟨lb,q1,q2⟩:=zb.1 g4
  rw[q1,za]
  cases lb with
  | cells own cs ty =>
   obtain⟨q3,q4⟩:=z26.1 (show take' 1 (drop' (o+k*1) cs)=_ from q2)
   show nth cs (o+k*1)=_
   rw[z1a] at q4
   rw[z4s]
   have:(cs.drop (o+k*1)).take 1=[.slice a' l[k].length f' e.size]:=q4.symm
   have h0:((cs.drop (o+k*1)).take 1)[0]?=some (.slice a' l[k].length f' e.size):=by rw[this];rfl
   rw[List.getElem?_take_of_lt (by omega),List.getElem?_drop] at h0
   exact h0
  | _=>cases q2
theorem zpg{m:Mem}{x:crSh.T}{cs:List LV}(h:Enc m crSh x cs):∃ A,cs=crc A (toCr x) /\ CrM m A (toCr x) /\ A.eF=1:=by
 obtain⟨c1,d1,rfl,h1,c2,d2,rfl,h2,c3,d3,rfl,h3,c4,d4,rfl,h4,c5,d5,rfl,h5,c6,d6,rfl,h6,c7,d7,rfl,h7,h8⟩:=h
 obtain⟨aL,fL,rfl,k1,k1'⟩:=ze5 (enc:=legc) (fun _ _=>zph) h1
 obtain⟨aF,fF,rfl,k2,k2'⟩:=zja (enc:=ptc) (fun _ _=>z4o) h2
 obtain⟨aB,fB,rfl,k3,k3'⟩:=ze5 (enc:=ptc) (fun _ _=>z4o) h3
 obtain⟨aO,fO,rfl,k8,k8'⟩:=zja (enc:=bdc) (fun _ _=>z4o) h8
 rw[zsi h4,zm6 h5,z8e h6,z8e h7]
 exact⟨⟨aL,fL,aF,fF,aB,fB,aO,fO,1⟩,rfl,⟨k1,k2,k3,k8,Nat.le_trans k1' zd6,Nat.le_trans k2' zd6,Nat.le_trans k3' zd6,Nat.le_trans k8' zd6⟩,rfl⟩
theorem zsh{m:Mem}{x:crSh.T}{cs:List LV}(h:Enc m crSh x cs):∃ A,cs=crc A (toCr x) /\ CrM m A (toCr x):=by
 obtain⟨A,h1,h2,_⟩:=zpg h
 exact⟨A,h1,h2⟩
end Go.Proofs.YtpgalhbplcanhaaGreatDoor.C
end
section
open Go PvL Go.Proofs
set_option linter.unusedSimpArgs false
set_option linter.unusedVariables false
namespace Go.Proofs.YtpgalhbplcanhaaGreatDoor.C
def tabsV:Tab:=[(0,intsL .i64 zs1,0),(2,[.iface 495 .unk],0),(4,intsL .u64 zs2,0),(8,intsL .u8 zs5,0)]
theorem znb:tabsOk tabsV=true:=by kernel_rfl
theorem zf7:tabsV.Pairwise (fun x y=>x.1 ≠ y.1):=by decide
theorem zi5{W:World}{name:String}{g:Nat}{t ty:TypeId}{v:Value}{l:Tab}(h:W.var? Tryz.prog name=some #[.iface t v])(hg:Tryz.prog.globalNamed name=some g)(hl:TabW l W):TabW ((g,[.iface t .unk],ty) :: l) W:=fun x hx=>by
 rcases List.mem_cons.1 hx with rfl|hx
 ·unfold World.var? at h
  rw[hg] at h
  have h:(match W.heap[g]? with|some (.cells cs _ _)=>some cs|_=>none)=some #[.iface t v]:=h
  split at h
  ·rename_i cs t' fr hh
   cases h
   refine⟨_,t',fr,hh,fun i u hi=>?_⟩
   match i,hi with
   | 0,hi =>
    cases hi
    exact⟨_,rfl,.iface (.unk v)⟩
  ·cases h
 ·exact hl x hx
theorem zey{m:Mem}{x:Nat × List LV × TypeId}{l:Tab}(h:preOk m (x :: l)=true):cellsAre (m.get x.1) x.2.1 x.2.2=true /\ preOk m l=true:=Bool.and_eq_true _ _ ▸ h
theorem zmx{m:Mem}{x:Nat × List LV × TypeId}{l:Tab}(h:cellsAre (m.get x.1) x.2.1 x.2.2=true)(h':preOk m l=true):preOk m (x :: l)=true:=by
 show(cellsAre (m.get x.1) x.2.1 x.2.2 && preOk m l)=true
 rw[h,h'];rfl
theorem zq8{m:Mem}(h:preOk m tabsV=true):preOk m tabsT=true:=zmx (zey h).1 (zey (zey h).2).2
theorem zsl{M:Mem}(hB:Base M)(hp:preOk M tabsV=true):ES M:=by
 obtain⟨own,h⟩:=z38 tabsV hp (2,[.iface 495 .unk],0) (by unfold tabsV;simp only[List.mem_cons,true_or,or_true])
 exact⟨own,h,hB _ _ h⟩
theorem zq6{M:Mem}(hB:Base M)(hp:preOk M tabsV=true):P10 M:=by
 obtain⟨own,h⟩:=z38 tabsV hp (4,intsL .u64 zs2,0) (by unfold tabsV;simp only[List.mem_cons,true_or,or_true])
 exact⟨own,h,hB _ _ h⟩
theorem zpd{M:Mem}(hB:Base M)(hp:preOk M tabsV=true):D64 M:=by
 obtain⟨own,h⟩:=z38 tabsV hp (8,intsL .u8 zs5,0) (by unfold tabsV;simp only[List.mem_cons,true_or,or_true])
 exact⟨own,h,hB _ _ h⟩
theorem zus{A:CrA}{s:Cr}{m:Mem}(hM:CrM m A s)(hB:Base m)(hp:preOk m tabsV=true):ze Tryz.prog 3 [crv A s] m (fun v _=>v=.bool true) :=
 zdt hM (zsl hB hp) (zq6 hB hp) (zpd hB hp) hB (zq8 hp)
