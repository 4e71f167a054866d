/-
 Part of the proof of TopMarked. No condition beyond those in each theorem.
-/
import Derived.Test.YtpgalhbplcanhaaGreatDoorSD
import Derived.Test.YtpgalhbplcanhaaGreatDoorSE
import Derived.Test.YtpgalhbplcanhaaGreatDoorTA
import Derived.Test.YtpgalhbplcanhaaGreatDoorPvI
import Derived.Test.YtpgalhbplcanhaaGreatDoorSC
section
open Go PvL Go.Proofs
set_option linter.unusedSimpArgs false
set_option linter.unusedVariables false
namespace Go.Proofs.YtpgalhbplcanhaaGreatDoor.C
def prsL(l m:List Pt):List (Pt × Pt):=l.flatMap fun a=>m.map fun b=>(a,b)
theorem zln(l m:List Pt):(prsL l m).length=l.length*m.length:=by
 unfold prsL
 induction l with
 | nil=>simp
 | cons a l ih=>rw[List.flatMap_cons,List.length_append,ih,List.length_map,List.length_cons,Nat.succ_mul,Nat.add_comm]
theorem zp9(l m:List Pt):∀(i j:Nat) (hi:i < l.length) (hj:j < m.length),(prsL l m)[i*m.length+j]?=some (l[i],m[j]):=by
 unfold prsL
 induction l with
 | nil=>intro i j hi;exact absurd hi (Nat.not_lt_zero _)
 | cons a l ih =>
  intro i j hi hj
  rw[List.flatMap_cons]
  cases i with
  | zero =>
   rw[Nat.zero_mul,Nat.zero_add,List.getElem?_append_left (by rw[List.length_map];exact hj),List.getElem?_map,List.getElem?_eq_getElem hj]
   rfl
  | succ i =>
   rw[List.getElem?_append_right (by rw[List.length_map,Nat.succ_mul];omega),List.length_map,show(i+1)*m.length+j - m.length=i*m.length+j by rw[Nat.succ_mul];omega]
   exact ih i j (Nat.lt_of_succ_lt_succ hi) hj
theorem zdy{l m:List Pt}{a b:Pt}:(a,b) ∈ prsL l m ↔ a ∈ l /\ b ∈ m:=by
 unfold prsL
 rw[List.mem_flatMap]
 constructor
 ·rintro⟨x,hx,h⟩
  obtain⟨y,hy,h⟩:=List.mem_map.1 h
  cases h
  exact⟨hx,hy⟩
 ·rintro⟨h1,h2⟩
  exact⟨a,h1,List.mem_map.2 ⟨b,h2,rfl⟩⟩
set_option maxHeartbeats 8000000 in
theorem zq4{l m:List Pt}{np nq il ol im om:Nat}{fl fm:Bool}{el em:Nat}{M0:Mem}(hnp:At M0 np (.cells true [.slice (some (il,ol)) l.length fl el] 24))(hnq:At M0 nq (.cells true [.slice (some (im,om)) m.length fm em] 24))
  (hl:∀ k (hk:k < l.length),Rd M0 il (ol+k*2) 2 (ptc l[k])) (hm:∀ k (hk:k < m.length),Rd M0 im (om+k*2) 2 (ptc m[k])) (hll:l.length<=1000) (hml:m.length<=1000) (hl0:0 < l.length) (hm0:0 < m.length) :
  PvL.Yields Tryz.prog 203 [] [.ptr (some (np,0)),.ptr (some (nq,0))] (fun i=>i=np ∨ i=nq ∨ i=il ∨ i=im) ((prsL l m).map fun p=>[ptv p.1,ptv p.2]) M0:=by
 intro lb A J D hA hS stab stabD step h0
 have a1:¬ A np:=hS np (.inl rfl)
 have a2:¬ A nq:=hS nq (.inr (.inl rfl))
 have a3:¬ A il:=hS il (.inr (.inr (.inl rfl)))
 have a4:¬ A im:=hS im (.inr (.inr (.inr rfl)))
 have q1:=hnp.2
 have q2:=hnq.2
 refine zf k203 rfl ?_
 dsimp only[x203,zM,zO,zI,zF,zS,zB,zL,zA,zE,zN,zW,zC,zH,zK,zX,zQ,zJ,zP,zY2,zY3,zY4,zY8,zT,zR,zU,zV,zG,List.map_cons,List.map_nil,zipE,Nat.reduceAdd,List.nil_append,List.cons_append]
 repeat' first|with_reducible intro _|refine sv ?_|refine ss ?_ ?_<;>(intro h;first|exact sz h|refine sy h ?_)|exact sq|fail
 refine zi (fun z E ms M=>∃ i:Nat,z=l.length - i /\ i<=l.length /\ ms=[] /\ Has E [(0,.func (.yield lb) [] []),(1,.ptr (some (np,0))),(2,.ptr (some (nq,0))),(8,.slice (some (il,ol)) l.length fl el),(9,I l.length),(10,I i)] /\ Keep A M0 M /\ J (i*m.length) M)
  ?_ l.length _ _ _ ⟨0,by omega,by omega,rfl,.cons rfl (.cons rfl (.cons rfl (.cons rfl (.cons rfl (.cons rfl .nil))))),Keep.refl _ _,by rw[Nat.zero_mul];exact h0⟩
 rintro z E ms M1 ⟨i,rfl,hi,rfl,hE1,hk1,hJ1⟩
 refine z02 hE1 ?_
 have hle1:=hk1.le
 by_cases hlast:i=l.length
 ·subst hlast
  repeat' first|with_reducible intro _|refine sv ?_|refine ss ?_ ?_<;>(intro h;first|exact sz h|refine sy h ?_)|exact sq|fail
  all_goals try(exfalso;omega)
  refine kf ?_
  exact⟨hk1,.inl (by rw[List.length_map,zln];exact hJ1)⟩
 have hlt:i < l.length:=by omega
 have r1:=(hl i hlt).keep hk1 a3
 have hnq1:=hnq.keep hk1 a2
 have p1:=hnq1.2
 generalize hxa:l[i]=pa at *
 obtain⟨xa,ya⟩:=pa
 have r1:Rd M1 il (ol+i*2) 2 [I xa,I ya]:=r1
 (have hrd0:=r1;repeat' (first|(with_reducible intro _)|refine sv ?_|refine ss ?_ ?_<;>(intro h;first|exact sz h|refine sy h ?_)|exact sq|fail))
 all_goals try(exfalso;omega)
 rename_i n5 M2 u1 u2 u3 M3 u4 u5 u6
 have g13:Grow M1 M3:=u1.grow.upd u4 (by omega)
 have hl3:=g13.le
 have hk3:Keep A M0 M3:=hk1.grow g13
 have hJ3:=stab _ _ _ hJ1 hl3 (fun j hj=>g13.old j (by omega))
 have hA5:∀ i',A i'->i' ≠ n5:=fun i' h=>by have:=hA i' h;omega
 clear u1 u4 r1 hnq1
 refine zi (fun z E ms M=>∃ j:Nat,z=m.length - j /\ j<=m.length /\ ms=[] /\ Has E [(0,.func (.yield lb) [] []),(1,.ptr (some (np,0))),(2,.ptr (some (nq,0))),(5,.ptr (some (n5,0))),(8,.slice (some (il,ol)) l.length fl el),(9,I l.length),(10,I i),(14,.slice (some (im,om)) m.length fm em),(15,I m.length),(16,I j)] /\ Keep A M0 M /\ J (i*m.length+j) M /\ At M n5 (.cells true [I xa,I ya] 30))
  ?_ m.length _ _ _ ⟨0,by omega,by omega,rfl,.cons rfl (.cons rfl (.cons rfl (.cons rfl (.cons rfl (.cons rfl (.cons rfl (.cons rfl (.cons rfl (.cons rfl .nil))))))))),hk3,hJ3,u6⟩
 rintro z E ms M4 ⟨j,rfl,hj,rfl,hE4,hk4,hJ4,B5⟩
 refine z02 hE4 ?_
 have hle4:=hk4.le
 have q5:=B5.2
 by_cases hlastj:j=m.length
 ·subst hlastj
  repeat' first|with_reducible intro _|refine sv ?_|refine ss ?_ ?_<;>(intro h;first|exact sz h|refine sy h ?_)|exact sq|fail
  all_goals try(exfalso;omega)
  refine zq (l.length - (i+1)) (by omega) ⟨i+1,rfl,by omega,rfl,.cons rfl (.cons rfl (.cons rfl (.cons rfl (.cons rfl (.cons rfl .nil))))),hk4,by rw[Nat.succ_mul];exact hJ4⟩
 have hltj:j < m.length:=by omega
 have r2:=(hm j hltj).keep hk4 a4
 have hx:=zp9 l m i j hlt hltj
 rw[hxa] at hx
 generalize m[j]=pb at *
 obtain⟨xb,yb⟩:=pb
 have r2:Rd M4 im (om+j*2) 2 [I xb,I yb]:=r2
 have hx':((prsL l m).map fun p=>[ptv p.1,ptv p.2])[i*m.length+j]?=some [.agg [I xa,I ya],.agg [I xb,I yb]]:=by rw[List.getElem?_map,hx];rfl
 have hJ':∀ M',Grow M4 M'->J (i*m.length+j) M':=fun M' hg=>stab _ _ _ hJ4 hg.le fun i hi=>hg.old i (Nat.lt_of_lt_of_le hi hle4)
 (have hrd0:=r2;repeat' (first|(with_reducible intro _)|refine sv ?_|((with_reducible first|apply zt|apply zz|apply zn);exact gd;exact rfl;exact rfl;(first|exact step _ _ hx' _ (by omega) (hJ' _ (xg))))|refine ss ?_ ?_<;>(intro h;first|exact sz h|refine sy h ?_)|exact sq|fail))
 all_goals try(exfalso;omega)
 rename_i n7 M5 v1 v2 v3 M6 v4 v5 v6 w M7 hq
 have g46:Grow M4 M6:=v1.grow.upd v4 (by omega)
 have hl6:=g46.le
 have C5:=B5.grow g46
 obtain⟨hk7,hres⟩:=hq
 have hl7:=hk7.le
 have D5:=hk7.at C5 (fun hf=>hA5 _ hf rfl)
 have hk07:Keep A M0 M7:=(hk4.grow g46).trans hk7 (fun i hi=>.inl hi)
 clear v1 v4 r2
 rcases hres with⟨rfl,hJ7⟩|⟨rfl,hD⟩
 ·repeat' first|with_reducible intro _|refine sv ?_|refine ss ?_ ?_<;>(intro h;first|exact sz h|refine sy h ?_)|exact sq|fail
  refine zq (m.length - (j+1)) (by omega) ⟨j+1,rfl,by omega,rfl,.cons rfl (.cons rfl (.cons rfl (.cons rfl (.cons rfl (.cons rfl (.cons rfl (.cons rfl (.cons rfl (.cons rfl .nil))))))))),hk07,by rw[<-Nat.add_assoc];exact hJ7,D5⟩
 ·repeat' first|with_reducible intro _|refine sv ?_|refine ss ?_ ?_<;>(intro h;first|exact sz h|refine sy h ?_)|exact sq|fail
  refine kf ?_
  exact⟨hk07,.inr hD⟩
theorem zob{l m:List Pt}{a b:Option (Nat × Nat)}{fl fm:Bool}{el em:Nat}(M:Mem):ze Tryz.prog 156 [.slice a l.length fl el,.slice b m.length fm em] M (fun w M'=>∃ np nq,w=.func (.func 203) [] [.ptr (some (np,0)),.ptr (some (nq,0))] /\ At M' np (.cells true [.slice a l.length fl el] 24) /\ At M' nq (.cells true [.slice b m.length fm em] 24) /\ M.next<=np /\ M.next<=nq /\ Grow M M'):=by
 refine zf k156 rfl ?_
 delta x156;refine un ?_
 repeat' first|with_reducible intro _|refine sv ?_|refine ss ?_ ?_<;>(intro h;first|exact sz h|refine sy h ?_)|exact sq|fail
 rename_i n2 M1 u1 u2 u3 n3 M2 u4 u5 u6
 refine kf ?_
 exact⟨n2,n3,rfl,At.new_old u4 (At.new_same u1),At.new_same u4,by omega,by omega,u1.grow.trans u4.grow⟩
theorem pigJ:∀(n:Nat) (l:List Nat),l.Nodup->(∀ x ∈ l,x < n)->l.length<=n
 | 0,l,_,h=>by
  cases l with
  | nil=>exact Nat.le_refl _
  | cons x l=>exact absurd (h x (by simp)) (Nat.not_lt_zero _)
 | n+1,l,hn,h=>by
  by_cases hm:n ∈ l
  ·have h1:=pigJ n (l.erase n) (hn.erase n) fun x hx=>by
    have h2:=(hn.mem_erase_iff).1 hx
    have h3:=h x h2.2
    have h4:=h2.1
    omega
   rw[List.length_erase_of_mem hm] at h1
   omega
  ·exact Nat.le_succ_of_le (pigJ n l hn fun x hx=>by
    have h1:=h x hx
    have h2:x ≠ n:=fun e=>hm (e ▸ hx)
    omega)
def mkKy(p:Int × Int):Ky:=if h:(-1<=p.1 /\ p.1<=100000) /\ (-1<=p.2 /\ p.2<=100000) then⟨p.1,p.2,h⟩ else kz
def cellK(g:Gd)(p:Pt × Pt):Ky:=mkKy (cellF g p.1 p.2)
theorem z4d{g:Gd}(hg:GdOk g)(p:Pt × Pt):(cellK g p).1=(cellF g p.1 p.2).1 /\ (cellK g p).2=(cellF g p.1 p.2).2:=by
 have hb:=zan hg p.1 p.2
 have hn4:=hg.n4
 unfold cellK mkKy
 rw[dif_pos]
 ·exact⟨rfl,rfl⟩
 ·rcases hb with h|h
  ·rw[h];decide
  ·omega
theorem zao{g:Gd}(hg:GdOk g)(a b:Pt):((cellF g a b).1=-1 /\ (cellF g a b).2=-1) ∨(0<=(cellF g a b).1 /\ (cellF g a b).1<=255 /\ 0<=(cellF g a b).2 /\ (cellF g a b).2 < 4):=by
 have hn4:=hg.n4
 rcases zan hg a b with h|h
 ·rw[h];exact .inl ⟨rfl,rfl⟩
 ·right;omega
def cdNK(a b:Int):Nat:=if a < 0 then 1024 else(a*4+b).toNat
def cdK(k:Ky):Nat:=cdNK k.1 k.2
theorem zkm{a b c d:Int}(h1:(a=-1 /\ b=-1) ∨(0<=a /\ a<=255 /\ 0<=b /\ b < 4))(h2:(c=-1 /\ d=-1) ∨(0<=c /\ c<=255 /\ 0<=d /\ d < 4))(h:cdNK a b=cdNK c d):a=c /\ b=d:=by
 unfold cdNK at h
 split at h<;>split at h<;>omega
theorem zkn{g:Gd}(hg:GdOk g)(p:Pt × Pt):cdK (cellK g p) < 1025:=by
 obtain⟨h1,h2⟩:=z4d hg p
 have hb:=zao hg p.1 p.2
 unfold cdK cdNK
 rw[h1,h2]
 split<;>omega
theorem zhg{g:Gd}(hg:GdOk g){p q:Pt × Pt}(h:cdK (cellK g p)=cdK (cellK g q)):cellK g p=cellK g q:=by
 obtain⟨h1,h2⟩:=z4d hg p
 obtain⟨h3,h4⟩:=z4d hg q
 unfold cdK at h
 rw[h1,h2,h3,h4] at h
 obtain⟨e1,e2⟩:=zkm (zao hg p.1 p.2) (zao hg q.1 q.2) h
 exact Ky.ext2 (by rw[h1,h3,e1]) (by rw[h2,h4,e2])
theorem zbr{g:Gd}(hg:GdOk g){ks:List Ky}(hn:ks.Nodup)(h:∀ k ∈ ks,∃ p,k=cellK g p):ks.length<=1025:=by
 have h1:(ks.map cdK).Nodup:=by
  unfold List.Nodup at *
  rw[List.pairwise_map]
  refine hn.imp_of_mem fun {a b} ha hb hne he=>hne ?_
  obtain⟨p,rfl⟩:=h a ha
  obtain⟨q,rfl⟩:=h b hb
  exact zhg hg he
 have:=pigJ 1025 (ks.map cdK) h1 (fun x hx=>by
  obtain⟨a,ha,rfl⟩:=List.mem_map.1 hx
  obtain⟨p,rfl⟩:=h a ha
  exact zkn hg p)
 rwa [List.length_map] at this
def addAll(g:Gd)(l:List (Pt × Pt)):List Ky:=l.foldl (fun ks p=>addK ks (cellK g p)) []
theorem zk5(g:Gd)(l:List (Pt × Pt)){q:Nat}{p:Pt × Pt}(h:l[q]?=some p):addAll g (l.take (q+1))=addK (addAll g (l.take q)) (cellK g p):=by
 obtain⟨hk,rfl⟩:=List.getElem?_eq_some_iff.1 h
 unfold addAll
 rw[List.take_succ_eq_append_getElem hk,List.foldl_append];rfl
theorem z7l{g:Gd}{c:Ky}:∀(l:List (Pt × Pt)) (ks:List Ky),c ∈ l.foldl (fun ks p=>addK ks (cellK g p)) ks ↔ c ∈ ks ∨ ∃ p ∈ l,c=cellK g p
 | [],ks=>by simp
 | a :: l,ks=>by
  rw[List.foldl_cons,z7l l,zk6]
  constructor
  ·rintro((h|h)|⟨p,hp,h⟩)
   ·exact .inl h
   ·exact .inr ⟨a,List.mem_cons_self ..,h⟩
   ·exact .inr ⟨p,List.mem_cons_of_mem _ hp,h⟩
  ·rintro(h|⟨p,hp,h⟩)
   ·exact .inl (.inl h)
   ·rcases List.mem_cons.1 hp with rfl|hp
    ·exact .inl (.inr h)
    ·exact .inr ⟨p,hp,h⟩
theorem zfk{g:Gd}{c:Ky}{l:List (Pt × Pt)}:c ∈ addAll g l ↔ ∃ p ∈ l,c=cellK g p:=by
 unfold addAll
 rw[z7l]
 simp
abbrev plA(ns:List Rg)(k:Int):List Pt:=plsL (ns.getD k.toNat zRg)
def trP(ns:List Rg)(t:Int × Int):List (Pt × Pt):=prsL (plA ns t.1) (plA ns t.2)
theorem SlL.at{ns:List Rg}{M:Mem}{ap:Option (Nat × Nat)}(h:SlL 2 ptc M ap (ns.map plsL)){k:Int}(h0:0<=k)(hk:k < ns.length):∃ i o a f,ap=some (i,o) /\ Rd1 M i (o+k.toNat*1) (.slice a (plA ns k).length f 2) /\ SlA 2 ptc M a (plA ns k):=by
 have hk':k.toNat < ns.length:=by omega
 rcases h with h|⟨i,o,h1,h2⟩
 ·rw[List.map_eq_nil_iff] at h;rw[h] at hk';exact absurd hk' (Nat.not_lt_zero _)
 ·obtain⟨a,f,g1,g2,g3⟩:=h2 k.toNat (by rw[List.length_map];exact hk')
  rw[List.getElem_map] at g1 g2
  have e:plA ns k=plsL ns[k.toNat]:=by unfold plA;rw[List.getD_eq_getElem?_getD,List.getElem?_eq_getElem hk'];rfl
  rw[e]
  exact⟨i,o,a,f,h1,g1,g2⟩
theorem zn8{P:Program}{f:FuncId}{xf:XF}(h:cFn P f=some xf):∃ fd,fnOf P f=some fd:=by
 unfold cFn at h
 split at h
 ·cases h
 ·rename_i fd hfd;exact⟨fd,hfd⟩
theorem zi0{bs:List Nat}{i:Nat}(h:i < bs.length):bs[i]?=some (bs.getD i 0):=by
 rw[List.getD_eq_getElem?_getD,List.getElem?_eq_getElem h];rfl
theorem zik{bs:List Nat}(hn:bs.Nodup){i j:Nat}(hi:i < bs.length)(hj:j < bs.length)(he:bs[i]=bs[j]):i=j:=by
 unfold List.Nodup at hn
 rw[List.pairwise_iff_getElem] at hn
 rcases Nat.lt_trichotomy i j with h|h|h
 ·exact absurd he (hn i j hi hj h)
 ·exact h
 ·exact absurd he.symm (hn j i hj hi h)
theorem zl4{M M':Mem}{n:Nat}{ty:TypeId}{p:Ky}(h:New M n (.cells true (kyc p) ty) M'):z0l 2 1 (.slice (some (n,0)) 1 true 2) M'=some ([p].flatMap kyc):=by
 have ha:=At.new_same h
 show loadN M' n 0 (1*2)=_
 exact(Rd.of_at (l:=kyc p) ha rfl).1
theorem zll{ks:List Ky}{is:List Nat}(hn:ks.Nodup)(hi:is.Nodup)(hc:∀ i,i < ks.length ↔ i ∈ is):(is.map fun i=>ks.getD i kz).Nodup /\ ∀ c,c ∈ (is.map fun i=>ks.getD i kz) ↔ c ∈ ks:=by
 have hg:∀ i (h:i < ks.length),ks.getD i kz=ks[i]:=fun i h=>by rw[List.getD_eq_getElem?_getD,List.getElem?_eq_getElem h];rfl
 constructor
 ·unfold List.Nodup at *
  rw[List.pairwise_map]
  refine hi.imp_of_mem fun {a b} ha hb hne heq=>?_
  have h1:=(hc a).2 ha
  have h2:=(hc b).2 hb
  rw[hg a h1,hg b h2] at heq
  rw[List.pairwise_iff_getElem] at hn
  rcases Nat.lt_trichotomy a b with h|h|h
  ·exact hn a b h1 h2 h heq
  ·exact hne h
  ·exact hn b a h2 h1 h heq.symm
 ·intro c
  rw[List.mem_map,List.mem_iff_getElem]
  constructor
  ·rintro⟨i,h,rfl⟩
   exact⟨i,(hc i).2 h,(hg i _).symm⟩
  ·rintro⟨i,h,rfl⟩
   exact⟨i,(hc i).1 h,hg i h⟩
section
variable {P:Program} [Orc P] {sz:Nat} {E:Env} {M:Mem} {K:Env->Mem->Prop} {l:List XG} {g:Option (Nat × Bool)} {st:List Mem} {n:Nat} {xs:List (Nat × Nat × (Mem->Prop))} {ld:List (XG × XK)} {x y z':XO} {r:Nat} {ks:List Ky} {k:Ky}
theorem zkt[Orc Tryz.prog](hg:GOn E g)(hm:CsM M r ks)(hx:xval E x=some (.map (some r)))(hy:xval E y=some (kyv k))(hz:xval E z'=some (.bool true))
  (hk:∀ lb M',Upd M r lb M'->M'.next=M.next->CsM M' r (addK ks k)->XD Tryz.prog sz ld E M' (M' :: st) (n+1) xs K):XD Tryz.prog sz ((⟨none,.mset 122 x y z',g⟩,.anchor) :: ld) E M st n xs K:=by
 obtain⟨lb,M',h1,h2,h3⟩:=zlp hm hx hy hz
 exact zjx hg h1 (hk lb M' h2 (by rw[h2.eq];exact Mem.next_upd _ _ _) h3)
end
set_option maxHeartbeats 16000000 in
theorem zmw{g:Gd}{ca:Option (Nat × Nat)}{f:Bool}{e:Nat}{ns:List Rg}{ts:List (Int × Int)}{at' ap:Option (Nat × Nat)}{ft fp:Bool}{et ep:Nat}{M:Mem}(hg:GdOk g)(hs:SlC M ca g.cl)(ht:SlA 2 trc M at' ts)(hp:SlL 2 ptc M ap (ns.map plsL))(hok:LyOk ns ts)(hN:NonM M){k:Nat}(hk:k < ts.length) :
  CallN Tryz.prog 100 [laidv g ca f e at' ts.length ft et ap ns.length fp ep,I k] M (fun w M'=>(∃ hs:List Ky,Vec M.next 2 122 kyc M' w hs /\ (hs.Nodup /\ hs.length<=1100) /\ ∀ c,c ∈ hs ↔ ∃ p ∈ trP ns ts[k],c=cellK g p) /\ Grow M M'):=by
 obtain⟨⟨t1,t2⟩,⟨t3,t4⟩,t5⟩:=hok.tsO _ (List.getElem_mem hk)
 have h64:=hok.t64
 obtain⟨it,ot,rfl,hrt⟩:=ht.resolve_left (fun h=>by rw[h] at hk;exact absurd hk (Nat.not_lt_zero _))
 have rt:=hrt k hk
 generalize ts[k]=tk at *
 obtain⟨tp,tq⟩:=tk
 dsimp only at t1 t2 t3 t4 t5
 have rt:Rd M it (ot+k*2) 2 [I tp,I tq]:=rt
 obtain⟨ip,op,a1,f1,rfl,r1,s1⟩:=hp.at t1 t2
 obtain⟨ip',op',a2,f2,he,r2,s2⟩:=hp.at t3 t4
 cases he
 have hpm:∀ k:Int,0<=k->k < ns.length->(∀ p ∈ plA ns k,PlP p) /\ 1<=(plA ns k).length /\ (plA ns k).length<=64:=fun k h0 h1=>by
  have hk':k.toNat < ns.length:=by omega
  have e:plA ns k=plsL ns[k.toNat]:=by unfold plA;rw[List.getD_eq_getElem?_getD,List.getElem?_eq_getElem hk'];rfl
  rw[e]
  obtain⟨o1,o2,o3⟩:=hok.nsO _ (List.getElem_mem hk')
  exact⟨fun p hp=>zrm o1 hp,o2,o3⟩
 obtain⟨m1,m2,m3⟩:=hpm tp t1 t2
 obtain⟨m4,m5,m6⟩:=hpm tq t3 t4
 have htr:trP ns (tp,tq)=prsL (plA ns tp) (plA ns tq):=rfl
 rw[htr]
 clear htr hpm hp
 generalize plA ns tp=la at *
 generalize plA ns tq=lb at *
 have hprs:∀ p ∈ prsL la lb,PlP p.1 /\ PlP p.2:=fun⟨x,y⟩ hp=>⟨m1 _ (zdy.1 hp).1,m4 _ (zdy.1 hp).2⟩
 obtain⟨i1,o1,rfl,hr1⟩:=s1.resolve_left (fun h=>by rw[h] at m2;exact absurd m2 (by decide))
 obtain⟨i2,o2,rfl,hr2⟩:=s2.resolve_left (fun h=>by rw[h] at m5;exact absurd m5 (by decide))
 clear s1 s2 m1 m4 hrt
 have z1:=rt.2
 have z2:=r1.2
 have z3:=(hr1 0 (by omega)).2
 have z4:=(hr2 0 (by omega)).2
 refine z5e k100 rfl ?_
 delta x100;refine un ?_
 have cp:=fun M'=>zob (l:=la) (m:=lb) (a:=some (i1,o1)) (b:=some (i2,o2)) (fl:=f1) (fm:=f2) (el:=2) (em:=2) M'
 (have hrd0:=rt;have hrd1:=r1;have hrd2:=r2;repeat' (first|(with_reducible intro _)|refine sv ?_|((with_reducible first|apply zt|apply zz|apply zn);exact gd;exact rfl;exact rfl;(first|exact cp _))|refine ss ?_ ?_<;>(intro h;first|exact sz h|refine sy h ?_)|exact sq|fail))
 rename_i n2 M1 u1 u2 u3 nm M2 u4 u5 u6 n5 M3 u7 u8 u9 M4 u10 u11 u12 n6 M5 u13 u14 u15 M6 u16 u17 u18 w M7 hq
 obtain⟨np,nq,rfl,B1,B2,b3,b4,hg7⟩:=hq
 have g24:Grow M2 M4:=u7.grow.upd u10 (by omega)
 have g46:Grow M4 M6:=u13.grow.upd u16 (by omega)
 have g17:Grow M2 M7:=(g24.trans g46).trans hg7
 have A2:At M7 n2 (.cells true (laidv g ca f e (some (it,ot)) ts.length ft et (some (ip,op)) ns.length fp ep).cells 224):=At.grow (u4.grow.trans g17) (At.new_same u1)
 have Am:At M7 nm (.map [] [] 0):=At.grow g17 (At.new_same u4)
 have A5:At M7 n5 (.cells true [.map (some nm)] 304):=At.grow (g46.trans hg7) u12
 have gM:Grow M M7:=(u1.grow.trans u4.grow).trans g17
 have hl7:=hg7.le
 have hl46:=g46.le
 have hlM:=gM.le
 have gM1:Grow M M1:=u1.grow
 have g1M:Grow M1 M7:=u4.grow.trans g17
 clear u1 u4 u7 u10 u13 u16 hg7 g24 g46 g17 rt r1 r2 cp
 have q2:=A2.2
 have qm:=Am.2
 have q5:=A5.2
 have z5:=B1.2
 have z6:=B2.2
 have hcs:CsM M7 nm []:=⟨[],0,Am,⟨rfl,List.nodup_nil,fun b hb=>by cases hb⟩,List.nodup_nil⟩
 clear Am
 have hr1':∀ k (hk:k < la.length),Rd M7 i1 (o1+k*2) 2 (ptc la[k]):=fun k hk=>(hr1 k hk).grow gM
 have hr2':∀ k (hk:k < lb.length),Rd M7 i2 (o2+k*2) 2 (ptc lb[k]):=fun k hk=>(hr2 k hk).grow gM
 apply zpn
 exact rfl
 exact zn8 k203
 intro lb0 d l M8 M9 hlb hd e5 e6 hl e7 e8
 have g79:Grow M7 M9:=hd.grow.trans hl.grow
 have hl79:=g79.le
 have bd:At M9 d .defr:=At.new_old hl (At.new_same hd)
 have bl:=At.new_same hl
 have qd:=bd.2
 have ql:=bl.2
 have hdl:d ≠ l:=by omega
 have hy:=zq4 (B1.grow g79) (B2.grow g79) (fun k hk=>(hr1' k hk).grow g79) (fun k hk=>(hr2' k hk).grow g79) (by omega) (by omega) (by omega) (by omega)
 refine(ze.toN (zn8 k203) (hy l (fun i=>i=nm ∨ i=l) (fun q M'=>Keep (fun i=>i=nm ∨ i=l) M9 M' /\ CsM M' nm (addAll g ((prsL la lb).take q)) /\ At M' l (lb0 .ready none)) (fun _=>False) ?_ ?_ ?_ ?_ ?_ ⟨Keep.refl _ _,hcs.grow g79,bl⟩)).mono ?_
 ·rintro i (rfl|rfl)<;>omega
 ·rintro i hi (rfl|rfl)<;>rcases hi with rfl|rfl|rfl|rfl<;>omega
 ·rintro q Ma Mb ⟨h1,h2,h3⟩ hle hA
  have h1l:=h1.le
  refine⟨⟨by omega,fun i hi hf=>by rw[hA i hi];exact h1.old i hi hf⟩,?_,h3.same hle (hA _ (by omega))⟩
  obtain⟨bs,clk,x1,x2⟩:=h2
  exact⟨bs,clk,x1.same hle (hA _ (by omega)),x2⟩
 ·intro Ma Mb h;exact h.elim
 ·rintro q x hx Ma hle ⟨k1,k2,k3⟩
  rw[List.getElem?_map] at hx
  obtain⟨p,hpq,rfl⟩:=Option.map_eq_some_iff.1 hx
  obtain⟨pl1,pl2⟩:=hprs p (List.mem_of_getElem? hpq)
  have hsu:=zk5 g _ hpq
  obtain⟨ck1,ck2⟩:=z4d hg p
  obtain⟨⟨xa,ya⟩,xb,yb⟩:=p
  have gMa:Grow M Ma:=Keep.to_grow' (gM.trans g79) k1 (fun i hi=>by omega)
  have cc:=fun M' (hgr:Grow M M')=>zmv (f:=f) (e:=e) (hs.grow hgr) hg pl1 pl2 (hN.grow hgr)
  have C2:=(A2.grow g79).keep k1 (by omega)
  have C5:=(A5.grow g79).keep k1 (by omega)
  have C6:=bd.keep k1 (by omega)
  have p2:=C2.2
  have p5:=C5.2
  have pm:=k2.lt
  have pl:=k3.2
  refine z7i hlb k3 rfl ?_
  dsimp only[zipP,ptv]
  dsimp only[gdv,ptv] at cc ck1 ck2
  rw[hsu]
  rw[<-ck1,<- ck2] at cc
  repeat' first|with_reducible intro _|refine sv ?_|((with_reducible first|apply zp|apply zo|apply zj);exact gd;exact rfl;exact rfl;(first|exact cc _ (xg)))|refine ss ?_ ?_<;>(intro h;first|exact sz h|refine sy h ?_)|exact sq|fail
  rename_i n7 Mb v1 v2 v3 Mc v4 v5 v6 n8 Md v7 v8 v9 Mf v10 v11 v12 Mg v13 v14 v15 Mh v16 v17
  have g1:Grow Ma Mf:=(v1.grow.upd v4 (by omega)).trans (v7.grow.upd v10 (by omega))
  have hg1:=g1.le
  have kc:CsM Mh nm (addAll g (List.take q (prsL la lb))):=((k2.grow g1).keep (F:=fun i=>i=l) (xk) (by omega)).grow v16
  refine zkt (by exact gd) (k:=cellK g ((xa,ya),xb,yb)) kc rfl rfl rfl ?_
  intro lb1 Mi w1 w2 w3
  repeat' first|with_reducible intro _|refine sv ?_|refine ss ?_ ?_<;>(intro h;first|exact sz h|refine sy h ?_)|exact sq|fail
  rename_i Mj w4 w5 w6
  have kk:Keep (fun i=>i=nm ∨ i=l) Ma Mj:=xk
  exact⟨kk,.inl ⟨rfl,k1.trans kk (fun i hi=>.inl hi),w3.keep (F:=fun i=>i=l) (xk) (by omega),w6⟩⟩
 clear hy
 rintro w' Mz ⟨hkz,hres⟩
 obtain⟨kz1,kz2,kz3⟩:=hres.resolve_right (fun h=>h)
 rw[List.length_map,List.take_length] at kz2
 have hMz:=hkz.le
 refine zen kz3 (by simp) fun M10 hu10 e10 a10=>?_
 have g10:Grow M M10:=(Keep.to_grow' (gM.trans g79) hkz (fun i hi=>by omega)).upd hu10 (by omega)
 have kc0:CsM M10 nm (addAll g (prsL la lb)):=kz2.keep (F:=fun i=>i=l) (xk) (by omega)
 have C5:At M10 n5 (.cells true [.map (some nm)] 304):=At.upd_ne hu10 (by omega) ((A5.grow g79).keep hkz (by omega))
 have bd10:At M10 d .defr:=At.upd_ne hu10 (by omega) (bd.keep hkz (by omega))
 have hmm:=fun c=>@zfk g c (prsL la lb)
 have hmk:∀ c ∈ addAll g (prsL la lb),∃ p,c=cellK g p:=fun c hc=>by
  obtain⟨p,-,h⟩:=(hmm c).1 hc
  exact⟨p,h⟩
 generalize addAll g (prsL la lb)=ks at *
 obtain⟨bs,clk,am,hokm,hndk⟩:=kc0
 have hfew:=zbr hg hndk hmk
 have hrd10:=Rd1.of_at (o:=0) C5 rfl
 clear hkz kz1 kz2 kz3 hu10 B1 B2 A2 A5 bd bl hd hl hcs hres hr1 hr2 hr1' hr2'
 have qd10:=bd10.2
 have q510:=C5.2
 repeat' first|with_reducible intro _|refine sv ?_|refine ss ?_ ?_<;>(intro h;first|exact sz h|refine sy h ?_)|exact sq|fail
 refine z64 (by exact gd) (zsu rfl am) ?_
 have hN:New M10 M10.next (.iter (some nm) clk [] clk) (M10.push (.iter (some nm) clk [] clk)):=⟨rfl,rfl⟩
 generalize M10.push (.iter (some nm) clk [] clk)=M11 at *
 have hit:=At.new_same hN
 have hm1:=At.new_old hN am
 have bd11:=At.new_old hN bd10
 have g11:=g10.trans hN.grow
 have hnx:=hN.next
 have hrl:=am.2
 generalize hit0:M10.next=it' at *
 clear am bd10 C5
 repeat' first|with_reducible intro _|refine sv ?_|refine ss ?_ ?_<;>(intro h;first|exact sz h|refine sy h ?_)|exact sq|fail
 refine zi (fun z E ms M'=>∃(is:List Nat) (last:Nat) (v:LV),z=ks.length - is.length /\ is.Nodup /\ (∀ j ∈ is,j < ks.length) /\ (is=[] ∨ last=clk) /\ ms=[.mark d] /\ Has E [(39,.ptr (some (it',0))),(9,v)] /\ At M' it' (.iter (some nm) clk (is.map fun i=>bs.getD i 0) last) /\ At M' nm (.map (encK (cellsM ks)) bs clk) /\ Vec (it' + 1) 2 122 kyc M' v (is.map fun i=>ks.getD i kz) /\ At M' d .defr /\ Grow M M' /\ it' < M'.next)
  ?_ (ks.length - 0) _ _ _ ⟨[],clk,_,rfl,List.nodup_nil,fun _ h=>(nomatch h),.inl rfl,rfl,.cons rfl (.cons rfl .nil),hit,hm1,Vec.nil,bd11,g11,by omega⟩
 clear hN hit hm1 hnx bd11 g11
 rintro z E ms M12 ⟨is,last,v,rfl,hnd,hlt,hla,rfl,hE,hit,hm,hv,hdf,hgM,hnx⟩
 refine z02 hE ?_
 have hcl:(encK (cellsM ks)).length=ks.length:=by simp[encK,cellsM]
 have hes:bs.length=(encK (cellsM ks)).length:=by rw[hokm.len,hcl]
 have hall:allLt clk bs=true:=zea hokm.lt
 have hst:(is.map fun i=>bs.getD i 0)=[] ∨ encK (cellsM ks)=[] ∨ anyLt last bs=true:=by
  rcases hla with rfl|rfl
  ·exact .inl rfl
  ·cases bs with
   | nil=>exact .inr (.inl (List.length_eq_zero_iff.1 (by rw[<-hes];rfl)))
   | cons b bs=>exact .inr (.inr (zeb (x:=b) (by simp) (hokm.lt b (by simp))))
 by_cases hl:leftL (is.map fun i=>bs.getD i 0) bs (encK (cellsM ks))=[]
 ·apply z7b
  apply zpk
  refine z64 (by exact gd) (zpw rfl hit hm hes hall hst hl) ?_
  have hcov:∀ i,i < ks.length ↔ i ∈ is:=fun i=>⟨fun hi=>by
   have hib:i < bs.length:=by rw[hokm.len];exact hi
   have hmem:=zeq hl hes (bs[i]) (List.getElem_mem hib)
   obtain⟨j,hj,hj2⟩:=List.mem_map.1 hmem
   have hjb:j < bs.length:=by rw[hokm.len];exact hlt j hj
   have h1:bs[j]=bs[i]:=by
    have h2:=zi0 hjb
    rw[List.getElem?_eq_getElem hjb] at h2
    exact(Option.some.inj h2).trans hj2
   have h3:j=i:=zik hokm.nodup hjb hib h1
   rw[<-h3];exact hj,hlt i⟩
  obtain⟨hn1,hn2⟩:=zll hndk hnd hcov
  have hb1:(is.map fun i=>ks.getD i kz).length<=1100:=by
   have:=zbr hg hn1 (fun k hk=>hmk k ((hn2 k).1 hk))
   omega
  have cs:=zfp hv hb1 hn1
  repeat' first|with_reducible intro _|refine sv ?_|((with_reducible first|apply zt|apply zz|apply zn);exact gd;exact rfl;exact rfl;(first|exact cs))|refine ss ?_ ?_<;>(intro h;first|exact sz h|refine sy h ?_)|exact sq|fail
  rename_i w14 M14 hq
  obtain⟨ks',hv14,hs14,hm14,hl14,hk14⟩:=hq
  have bd14:At M14 d .defr:=hdf.keep hk14 (by omega)
  have g14:Grow M M14:=Keep.to_grow' hgM hk14 (fun i hi=>by omega)
  refine z42 (.inr rfl) (by simp[dnat]) (fun e he=>by simp[dnat] at he;subst he;exact bd14) fun M22 hmk2=>⟨_,.tmp rfl .nil,⟨ks',?_,?_,?_⟩,?_⟩
  ·exact hv14.imp id fun⟨i,h1,h2,h3⟩=>⟨i,h1,h2.unmark hmk2 (by simp[dnat];omega),by omega⟩
  ·exact⟨hs14.imp fun h e=>by subst e;unfold klt at h;omega,by omega⟩
  ·intro c
   rw[hm14,hn2,hmm]
  ·exact g14.unmark hmk2 (fun e he=>by simp[dnat] at he;subst he;omega)
 apply z7b
 apply zpk
 refine zpr (by exact gd) rfl hit hm hall hst hl ?_
 intro b kk bv hmem M13 hU3 e3 hit3
 obtain⟨i,hi1,hi2,hi3⟩:=zav hmem
 have hib:i < bs.length:=(List.getElem?_eq_some_iff.1 hi1).1
 have hbi:bs.getD i 0=b:=by
  have h2:=zi0 hib
  rw[hi1] at h2
  exact(Option.some.inj h2).symm
 have hil:i < ks.length:=by rw[<-hokm.len];exact hib
 have hni:i ∉ is:=fun hh=>hi3 (List.mem_map.2 ⟨i,hh,hbi⟩)
 have hrit:nm ≠ it':=by omega
 have hm3:=At.upd_ne hU3 hrit hm
 have hkk:kk=kyv (ks.getD i kz) /\ bv=.bool true:=by
  have h2:(encK (cellsM ks))[i]?=some (kyv (ks.getD i kz),.bool true):=by
   unfold encK cellsM
   rw[List.getElem?_map,List.getElem?_map,List.getD_eq_getElem?_getD,List.getElem?_eq_getElem hil];rfl
  rw[h2] at hi2
  cases hi2
  exact⟨rfl,rfl⟩
 obtain⟨rfl,rfl⟩:=hkk
 have hseen:(is.map fun i=>bs.getD i 0) ++ [b]=(is ++ [i]).map fun i=>bs.getD i 0:=by rw[List.map_append,<- hbi];rfl
 have hseenk:(is.map fun i=>ks.getD i kz) ++ [ks.getD i kz]=(is ++ [i]).map fun i=>ks.getD i kz:=by rw[List.map_append];rfl
 have hent:stampL b bs (encK (cellsM ks))=some (kyv (ks.getD i kz),.bool true):=zcs hokm.nodup hi1 hi2
 have hnd':(is ++ [i]).Nodup:=by
  rw[List.nodup_append]
  exact⟨hnd,by simp,fun a ha b hb=>by
   obtain rfl:b=i:=by simpa using hb
   rintro rfl;exact hni ha⟩
 have hlt':∀ j ∈ is ++ [i],j < ks.length:=fun j hj=>by
  rcases List.mem_append.1 hj with hj|hj
  ·exact hlt j hj
  ·obtain rfl:j=i:=by simpa using hj
   exact hil
 have hleft:ks.length - (is ++ [i]).length < ks.length - is.length:=by
  have:=pigJ ks.length (is ++ [i]) hnd' hlt'
  rw[List.length_append] at this ⊢
  simp only[List.length_cons,List.length_nil] at this ⊢
  omega
 have hisl:is.length<=1025:=by
  have:=pigJ ks.length is hnd hlt
  omega
 have hv3:Vec (it' + 1) 2 122 kyc M13 v (is.map fun i=>ks.getD i kz):=hv.keep (F:=fun i=>i=it') (xk) (by intro i hi;omega)
 have hd3:=At.upd_ne hU3 (show d ≠ it' by omega) hdf
 have g3:Grow M M13:=hgM.upd hU3 (by omega)
 generalize ks.getD i kz=kx at *
 repeat' first|with_reducible intro _|refine sv ?_|refine ss ?_ ?_<;>(intro h;first|exact sz h|refine sy h ?_)|exact sq|fail
 refine z64 (by exact gd) (zsm rfl hit3 hm3 hes hent) ?_
 rw[hseen] at hit3
 clear hU3
 repeat' first|with_reducible intro _|refine sv ?_|refine ss ?_ ?_<;>(intro h;first|exact sz h|refine sy h ?_)|exact sq|fail
 rename_i n10 M14 w1 w2 w3 M15 w4 w5 w6 n46 M16 w7 w8 w9
 have g36:Grow M13 M16:=(w1.grow.upd w4 (by omega)).trans w7.grow
 have hl36:=g36.le
 refine z4b (by exact gd) (l':=[kx]) (hv3.grow g36) rfl rfl rfl (by simp) (by rw[List.length_map,List.length_singleton];omega) rfl (zl4 w7) (fun _=>rfl) (fun _=>rfl) (by omega) ?_
 intro v5 M17 hv5 hn5 hk5
 rw[hseenk] at hv5
 have g17:Grow M M17:=Keep.to_grow' (g3.trans g36) hk5 (fun i hi=>by omega)
 have hit5:=(hit3.grow g36).keep hk5 (by omega)
 have hm5:=(hm3.grow g36).keep hk5 (by omega)
 have hd5:=(hd3.grow g36).keep hk5 (by omega)
 repeat' first|with_reducible intro _|refine sv ?_|refine ss ?_ ?_<;>(intro h;first|exact sz h|refine sy h ?_)|exact sq|fail
 refine zq (ks.length - (is ++ [i]).length) hleft ⟨is ++ [i],clk,v5,rfl,hnd',hlt',.inr rfl,rfl,.cons rfl (.cons rfl .nil),hit5,hm5,hv5,hd5,g17,by omega⟩
def hitP(g:Gd)(ns:List Rg)(t:Int × Int)(c:Ky):Prop:=∃ p ∈ trP ns t,c=cellK g p
def nonK(c:Ky):Prop:=c.1=-1 /\ c.2=-1
instance {c:Ky}:Decidable (nonK c):=by unfold nonK;infer_instance
def sureP(g:Gd)(ns:List Rg)(t:Int × Int)(c:Ky):Prop:=hitP g ns t c /\ (∀ c',hitP g ns t c'->c'=c) /\ ¬ nonK c
set_option maxHeartbeats 16000000 in
theorem zkj{g:Gd}{ca:Option (Nat × Nat)}{f:Bool}{e:Nat}{ns:List Rg}{ts:List (Int × Int)}{at' ap:Option (Nat × Nat)}{ft fp:Bool}{et ep:Nat}{M:Mem}(hg:GdOk g)(hs:SlC M ca g.cl)(ht:SlA 2 trc M at' ts)(hp:SlL 2 ptc M ap (ns.map plsL))(hok:LyOk ns ts)(hN:NonM M){k:Nat}(hk:k < ts.length) :
  CallN Tryz.prog 99 [laidv g ca f e at' ts.length ft et ap ns.length fp ep,I k] M (fun w M'=>(∃ hs:List Ky,Vec M.next 2 122 kyc M' w hs /\ (hs.Nodup /\ hs.length<=1100) /\ ∀ c,c ∈ hs ↔ sureP g ns ts[k] c) /\ Grow M M'):=by
 refine z5e k99 rfl ?_
 delta x99;refine un ?_
 have ch:=fun M' (hgr:Grow M M')=>zmw (f:=f) (e:=e) (ft:=ft) (et:=et) (fp:=fp) (ep:=ep) hg (hs.grow hgr) (ht.grow hgr) (hp.grow hgr) hok (hN.grow hgr) hk
 repeat' first|with_reducible intro _|refine sv ?_|refine ss ?_ ?_<;>(intro h;first|exact sz h|refine sy h ?_)|exact sq|fail
 rename_i n2 M1 u1 u2 u3
 refine ze6 (by exact gd) rfl rfl (ch _ (xg)) ?_
 rintro w M2 ⟨⟨hs',hv,hnd,hm⟩,hg2⟩
 have g2:Grow M M2:=u1.grow.trans hg2
 have hn2:=(hN.grow g2).rd
 have hone:Vec M.next 2 122 kyc M2 w hs':=hv.imp id fun⟨i,h1,h2,h3⟩=>⟨i,h1,h2,by omega⟩
 have hz:∀ {M':Mem},Grow M M'->(∀ c,¬ sureP g ns ts[k] c)->(∃ hs:List Ky,Vec M.next 2 122 kyc M' (.slice none 0 true 0) hs /\ (hs.Nodup /\ hs.length<=1100) /\ ∀ c,c ∈ hs ↔ sureP g ns ts[k] c) /\ Grow M M':=fun hgr h=>⟨⟨[],Vec.nil,⟨List.nodup_nil,by decide⟩,fun c=>⟨fun h=>absurd h List.not_mem_nil,fun h'=>absurd h' (h c)⟩⟩,hgr⟩
 clear u1 ch
 match hs',hv,hnd,hm,hone with
 | [],hv,hnd,hm,hone =>
  have hno:∀ c,¬ sureP g ns ts[k] c:=fun c h=>List.not_mem_nil ((hm c).2 h.1)
  obtain⟨a',f',e',rfl⟩:=Vec.shape hone
  repeat' first|with_reducible intro _|refine sv ?_|refine ss ?_ ?_<;>(intro h;first|exact sz h|refine sy h ?_)|exact sq|fail
  refine kf ?_
  exact hz (xg) hno
 | c1 :: c2 :: l,hv,hnd,hm,hone =>
  have hno:∀ c,¬ sureP g ns ts[k] c:=fun c h=>by
   have h1:=h.2.1 c1 ((hm c1).1 (by simp))
   have h2:=h.2.1 c2 ((hm c2).1 (by simp))
   have hnd:=hnd.1
   rw[h1,h2] at hnd
   simp at hnd
  obtain⟨a',f',e',rfl⟩:=Vec.shape hone
  have hne:¬(((c1 :: c2 :: l).length:Nat):Int)=1:=by simp only[List.length_cons];omega
  repeat' first|with_reducible intro _|refine sv ?_|refine ss ?_ ?_<;>(intro h;first|exact sz h|refine sy h ?_)|exact sq|fail
  all_goals try(exfalso;omega)
  refine kf ?_
  exact hz (xg) hno
 | [c1],hv,hnd,hm,hone =>
  obtain⟨i,rfl,hat,hbi⟩:=hv.resolve_left (fun h=>by cases h.1)
  have r1:Rd M2 i 0 2 [I c1.1,I c1.2]:=Rd.of_at hat rfl
  have hm1:∀ c,hitP g ns ts[k] c ↔ c=c1:=fun c=>by
   rw[<-List.mem_singleton];exact(hm c).symm
  by_cases hz1:nonK c1
  ·have hno:∀ c,¬ sureP g ns ts[k] c:=fun c h=>h.2.2 (((hm1 c).1 h.1) ▸ hz1)
   obtain⟨q1,q2⟩:=hz1
   rw[q1,q2] at r1
   (have hrd0:=r1;have hrd1:=hn2;repeat' (first|(with_reducible intro _)|refine sv ?_|refine ss ?_ ?_<;>(intro h;first|exact sz h|refine sy h ?_)|exact sq|fail))
   all_goals try(exfalso;omega)
   refine kf ?_
   exact hz (xg) hno
  ·have hyes:∀ c,c ∈ [c1] ↔ sureP g ns ts[k] c:=fun c=>by
    rw[List.mem_singleton]
    constructor
    ·rintro rfl
     exact⟨(hm1 c).2 rfl,fun c' h=>(hm1 c').1 h,hz1⟩
    ·exact fun h=>(hm1 c).1 h.1
   have hzz:¬(c1.1=-1 /\ c1.2=-1):=hz1
   generalize hk1:c1.1=k1 at *
   generalize hk2:c1.2=k2 at *
   (have hrd0:=r1;have hrd1:=hn2;repeat' (first|(with_reducible intro _)|refine sv ?_|refine ss ?_ ?_<;>(intro h;first|exact sz h|refine sy h ?_)|exact sq|fail))
   all_goals try(exfalso;omega)
   refine kf ?_
   exact⟨⟨[c1],hone,hnd,hyes⟩,g2⟩
def rgL(f:Nat->LV)(n:Nat):List LV:=(List.range n).map f
theorem zdz(f:Nat->LV)(n:Nat):(rgL f n).length=n:=by unfold rgL;rw[List.length_map,List.length_range]
theorem z5r{f h:Nat->LV}{n:Nat}(e:∀ k,k < n->f k=h k):rgL f n=rgL h n:=List.map_congr_left fun k hk=>e k (List.mem_range.1 hk)
theorem zcp:∀ l:List LV,z0h l 0 []=some l
 | []=>rfl
 | x :: l=>rfl
theorem z8w:∀(l:List LV) (k:Nat) (v:LV),k < l.length->z0h l k [v]=some (l.set k v)
 | [],k,v,h=>absurd h (Nat.not_lt_zero _)
 | x :: t,0,v,_=>by
  show ob (z0h t 0 []) (fun l=>some (v :: l))=_
  rw[zcp];rfl
 | x :: t,k+1,v,h=>by
  show ob (z0h t k [v]) (fun l=>some (x :: l))=_
  rw[z8w t k v (by simpa using h)];rfl
theorem znh{n j:Nat}(g:Nat->LV)(h:j <(rgL g n).length):(rgL g n)[j]=g j:=by simp[rgL]
theorem z4l{f:Nat->LV}{n k:Nat}{v:LV}(h:k < n):z0h (rgL f n) (0+k*1) [v]=some (rgL (fun j=>if j=k then v else f j) n):=by
 rw[show 0+k*1=k by omega,z8w _ _ _ (by rw[zdz];exact h)]
 congr 1
 refine List.ext_getElem (by rw[List.length_set,zdz,zdz]) fun j h1 h2=>?_
 rw[List.getElem_set,znh _ h2]
 by_cases e:k=j
 ·rw[if_pos e,if_pos e.symm]
 ·rw[if_neg e,if_neg (fun h=>e h.symm)]
  exact znh _ _
theorem zj7(z:LV):∀ n:Nat,rep n [z]=rgL (fun _=>z) n
 | 0=>rfl
 | n+1=>by
  show [z] ++ rep n [z]=_
  rw[zj7 z n]
  unfold rgL
  rw[List.map_const',List.map_const',List.length_range,List.length_range];rfl
theorem zru{own:Bool}{ty:TypeId}{M:Mem}{i n k:Nat}{f:Nat->LV}(h:At M i (.cells own (rgL f n) ty))(hk:k < n):Rd1 M i (0+k*1) (f k):=by
 refine Rd1.of_at h ?_
 rw[show 0+k*1=k by omega,z4w]
 unfold rgL
 rw[List.getElem?_map,List.getElem?_range hk];rfl
def rwV(C:Nat)(R:Nat->Nat)(m k:Nat):LV:=if k < m then .slice (some (R k,0)) C true 1 else .slice none 0 true 0
structure TbF (b:Nat) (M:Mem) (i N C m:Nat) (R:Nat->Nat) (F:Nat->Nat->Int):Prop where
 hd:At M i (.cells true (rgL (rwV C R m) N) 63)
 hb:b<=i
 rw:∀ k,k < m->b<=R k /\ R k ≠ i /\ At M (R k) (.cells true (rgL (fun j=>I (F k j)) C) 3)
 inj:∀ k j,k < m->j < m->R k=R j->k=j
theorem TbF.zero{b:Nat}{M M':Mem}{n N C:Nat}{F:Nat->Nat->Int}(h:New M n (.cells true (rep N [.slice none 0 true 0]) 63) M')(hb:b<=n):TbF b M' n N C 0 (fun _=>0) F:=by
 rw[zj7] at h
 refine⟨?_,hb,fun k h=>absurd h (Nat.not_lt_zero _),fun k j h=>absurd h (Nat.not_lt_zero _)⟩
 have:=At.new_same h
 rwa [z5r (h:=fun _=>.slice none 0 true 0) (fun k _=>by unfold rwV;rw[if_neg (Nat.not_lt_zero _)])]
theorem TbF.grow{b:Nat}{M M':Mem}{i N C m:Nat}{R:Nat->Nat}{F:Nat->Nat->Int}(h:TbF b M i N C m R F)(hg:Grow M M'):TbF b M' i N C m R F :=
 ⟨h.hd.grow hg,h.hb,fun k hk=>⟨(h.rw k hk).1,(h.rw k hk).2.1,(h.rw k hk).2.2.grow hg⟩,h.inj⟩
theorem TbF.row{b:Nat}{M M' M'':Mem}{i n N C m:Nat}{R:Nat->Nat}(h:TbF b M i N C m R (fun _ _=>0))(hn:New M n (.cells true (rep C [I 0]) 3) M')(hu:Upd M' i (.cells true (rgL (fun j=>if j=m then .slice (some (n,0)) C true 1 else rwV C R m j) N) 63) M''):TbF b M'' i N C (m+1) (fun k=>if k=m then n else R k) (fun _ _=>0):=by
 have hil:=h.hd.2
 have hbi:=h.hb
 have hni:=hn.name
 have hne:n ≠ i:=by omega
 have hg:=hn.grow
 refine⟨?_,h.hb,fun k hk=>?_,fun k j hk hj he=>?_⟩
 ·have:=At.upd_same hu (h.hd.grow hg)
  rwa [z5r (h:=fun j=>if j=m then .slice (some (n,0)) C true 1 else rwV C R m j) (fun k _=>by
   unfold rwV
   by_cases e:k=m
   ·simp[e]
   ·have e2:k < m+1 ↔ k < m:=by omega
    simp only[if_neg e,e2])]
 ·by_cases e:k=m
  ·rw[if_pos e]
   refine⟨by omega,hne,?_⟩
   have:=At.upd_ne hu hne (At.new_same hn)
   rwa [zj7] at this
  ·rw[if_neg e]
   obtain⟨h1,h2,h3⟩:=h.rw k (by omega)
   exact⟨h1,h2,At.upd_ne hu h2 (h3.grow hg)⟩
 ·have hl:∀ k,k < m->R k < n:=fun k hk=>by
   have:=(h.rw k hk).2.2.2
   omega
  by_cases e:k=m<;>by_cases e':j=m
  ·omega
  ·rw[if_pos e,if_neg e'] at he
   have:=hl j (by omega)
   omega
  ·rw[if_neg e,if_pos e'] at he
   have:=hl k (by omega)
   omega
  ·rw[if_neg e,if_neg e'] at he
   exact h.inj k j (by omega) (by omega) he
theorem TbF.rdR{b:Nat}{M:Mem}{i N C m k:Nat}{R:Nat->Nat}{F:Nat->Nat->Int}(h:TbF b M i N C m R F)(hk:k < m)(hN:k < N):Rd1 M i (0+k*1) (.slice (some (R k,0)) C true 1):=by
 have:=zru h.hd hN
 unfold rwV at this
 rwa [if_pos hk] at this
theorem TbF.rdC{b:Nat}{M:Mem}{i N C m k j:Nat}{R:Nat->Nat}{F:Nat->Nat->Int}(h:TbF b M i N C m R F)(hk:k < m)(hj:j < C):Rd1 M (R k) (0+j*1) (I (F k j)):=zru (f:=fun j=>I (F k j)) (h.rw k hk).2.2 hj
theorem TbF.put{b:Nat}{M M':Mem}{i N C m k j:Nat}{R:Nat->Nat}{F F':Nat->Nat->Int}{v:Int}(h:TbF b M i N C m R F)(hk:k < m)(hu:Upd M (R k) (.cells true (rgL (fun j'=>if j'=j then I v else I (F k j')) C) 3) M')
  (hF:∀ k' j',k' < m->j' < C->F' k' j'=if k'=k /\ j'=j then v else F k' j'):TbF b M' i N C m R F':=by
 have hne:=(h.rw k hk).2.1
 refine⟨At.upd_ne hu (fun e=>hne e.symm) h.hd,h.hb,fun k' hk'=>?_,h.inj⟩
 obtain⟨h1,h2,h3⟩:=h.rw k' hk'
 refine⟨h1,h2,?_⟩
 by_cases e:k'=k
 ·subst e
  have:=At.upd_same hu h3
  rwa [z5r (h:=fun j'=>if j'=j then I v else I (F k' j')) (fun j' hj'=>by
   rw[hF k' j' hk' hj']
   by_cases e:j'=j
   ·rw[if_pos e,if_pos ⟨rfl,e⟩]
   ·rw[if_neg e,if_neg (fun h=>e h.2)])]
 ·have:=At.upd_ne hu (fun e'=>e (h.inj _ _ hk' hk e')) h3
  rwa [z5r (h:=fun j'=>I (F k' j')) (fun j' hj'=>by rw[hF k' j' hk' hj',if_neg (fun h=>e h.1)])]
open Classical in
noncomputable def cntF(H:Nat->Ky->Prop):Nat->Nat->Nat->Int
 | 0,_,_=>0
 | t+1,k,j=>cntF H t k j+if ∃ c,H t c /\ c.1=(k:Int) /\ c.2=(j:Int) then 1 else 0
theorem zhj{H:Nat->Ky->Prop}(n k j:Nat):0<=cntF H n k j /\ cntF H n k j<=n:=by
 induction n with
 | zero=>exact⟨Int.le_refl _,Int.le_refl _⟩
 | succ n ih =>
  unfold cntF
  split<;>omega
open Classical in
noncomputable def cntQ(F:Nat->Nat->Int)(l:List Ky)(k j:Nat):Int:=F k j+if ∃ c ∈ l,c.1=(k:Int) /\ c.2=(j:Int) then 1 else 0
theorem zkq{F:Nat->Nat->Int}:cntQ F []=F:=by
 funext k j;unfold cntQ;rw[if_neg (fun⟨c,h,_⟩=>List.not_mem_nil h)];omega
theorem zr5{F:Nat->Nat->Int}{l:List Ky}(hn:l.Nodup){q:Nat}(hq:q < l.length)(k j:Nat):cntQ F (l.take (q+1)) k j=if (k:Int)=l[q].1 /\ (j:Int)=l[q].2 then cntQ F (l.take q) k j+1 else cntQ F (l.take q) k j:=by
 unfold cntQ
 rw[List.take_succ_eq_append_getElem hq]
 by_cases e:(k:Int)=l[q].1 /\ (j:Int)=l[q].2
 ·rw[if_pos e,if_pos ⟨l[q],List.mem_append_right _ (List.mem_singleton_self _),e.1.symm,e.2.symm⟩,if_neg ?_]
  ·omega
  ·rintro⟨c,hc,h1,h2⟩
   obtain⟨i,hi,rfl⟩:=List.mem_iff_getElem.1 hc
   rw[List.length_take] at hi
   rw[List.getElem_take] at h1 h2
   have:=Ky.ext2 (h1.trans e.1) (h2.trans e.2)
   unfold List.Nodup at hn
   rw[List.pairwise_iff_getElem] at hn
   exact hn i q (by omega) hq (by omega) this
 ·rw[if_neg e]
  congr 1
  refine ite_congr (propext ?_) (fun _=>rfl) (fun _=>rfl)
  constructor
  ·rintro⟨c,hc,h1,h2⟩
   rcases List.mem_append.1 hc with hc|hc
   ·exact⟨c,hc,h1,h2⟩
   ·rw[List.mem_singleton] at hc
    subst hc
    exact absurd ⟨h1.symm,h2.symm⟩ e
  ·rintro⟨c,hc,h⟩
   exact⟨c,List.mem_append_left _ hc,h⟩
theorem zkp{H:Nat->Ky->Prop}{t:Nat}{l:List Ky}(h:∀ c,c ∈ l ↔ H t c):cntQ (cntF H t) l=cntF H (t+1):=by
 funext k j
 unfold cntQ
 have e:cntF H (t+1) k j=cntF H t k j + @ite Int (∃ c,H t c /\ c.1=(k:Int) /\ c.2=(j:Int)) (Classical.propDecidable _) 1 0:=rfl
 rw[e]
 congr 1
 refine @ite_congr Int _ _ _ _ _ _ _ (Classical.propDecidable _) (propext ?_) (fun _=>rfl) (fun _=>rfl)
 constructor
 ·rintro⟨c,hc,h'⟩;exact⟨c,(h c).1 hc,h'⟩
 ·rintro⟨c,hc,h'⟩;exact⟨c,(h c).2 hc,h'⟩
def cellN(g:Gd):Nat:=(g.ac*g.dn).toNat
theorem zap{g:Gd}(hg:GdOk g):1<=cellN g /\ cellN g<=256 /\ ((cellN g:Nat):Int)=g.ac*g.dn:=by
 have h1:=hg.ac
 have h2:=hg.dn
 have h3:1*1<=g.ac*g.dn:=Int.mul_le_mul (by omega) (by omega) (by omega) (by omega)
 have h4:g.ac*g.dn<=16*16:=Int.mul_le_mul (by omega) (by omega) (by omega) (by omega)
 unfold cellN
 omega
def HitC(gf:FuncId)(fi ca:List LV)(H:Nat->Ky->Prop)(n:Nat)(M:Mem):Prop :=
 ∀ t,t < n->∀ M',Grow M M'->CallN Tryz.prog gf (fi ++ [I t] ++ ca) M' (fun w M''=>(∃ hs:List Ky,Vec M'.next 2 122 kyc M'' w hs /\ (hs.Nodup /\ hs.length<=1100) /\ ∀ c,c ∈ hs ↔ H t c) /\ Grow M' M'')
set_option maxHeartbeats 16000000 in
theorem zh6{g:Gd}{ca:Option (Nat × Nat)}{f:Bool}{e:Nat}{n m:Nat}{at' ap:Option (Nat × Nat)}{ft fp:Bool}{et ep:Nat}{M:Mem}{gf:FuncId}{fi fc:List LV}{H:Nat->Ky->Prop}(hg:GdOk g)(hN:NonM M)(hn:n<=64)(hH:HitC gf fi fc H n M)(hb:∀ t c,t < n->H t c->nonK c ∨((0<=c.1 /\ c.1 < cellN g) /\ 0<=c.2 /\ c.2 < g.cl.length)) :
  CallN Tryz.prog 101 [laidv g ca f e at' n ft et ap m fp ep,.func (.func gf) fi fc] M (fun w M'=>(∃ i R,w=.slice (some (i,0)) (cellN g) true 1 /\ TbF M.next M' i (cellN g) g.cl.length (cellN g) R (cntF H n)) /\ Grow M M'):=by
 obtain⟨hN1,hN2,hN3⟩:=zap hg
 have hC1:=hg.n1
 have hC4:=hg.n4
 have hac:=hg.ac
 have hdn:=hg.dn
 refine z5e k101 rfl ?_
 delta x101;refine un ?_
 repeat' first|with_reducible intro _|refine sv ?_|refine ss ?_ ?_<;>(intro h;first|exact sz h|refine sy h ?_)|exact sq|fail
 rename_i n2 M1 u1 u2 u3
 have A2:=At.new_same u1
 have g1:=u1.grow
 clear u1
 refine z59 (t:=16) (v':=I ((cellN g:Nat):Int)) rfl (by rw[hN3]) ?_
 refine z7c (by exact gd) (z96 rfl rfl (Nat.le_refl _) (by omega) (by omega)) ?_
 have hT:New M1 M1.next (.cells true (rep (cellN g) [.slice none 0 true 0]) 63) (M1.push (.cells true (rep (cellN g) [.slice none 0 true 0]) 63)):=⟨rfl,rfl⟩
 generalize M1.push (.cells true (rep (cellN g) [.slice none 0 true 0]) 63)=M2 at hT ⊢
 have e3:=hT.next
 generalize hit:M1.next=nt at hT e3 ⊢
 have tz:TbF M.next M2 nt (cellN g) g.cl.length 0 (fun _=>0) (fun _ _=>0):=TbF.zero hT (by omega)
 have B2:=At.new_old hT A2
 have g2:Grow M M2:=g1.trans hT.grow
 have q2:=B2.2
 clear hT A2
 generalize hNN:cellN g=N at *
 refine z59 (t:=17) (v':=.slice (some (nt,0)) N true 1) rfl (by simp) ?_
 repeat' first|with_reducible intro _|refine sv ?_|refine ss ?_ ?_<;>(intro h;first|exact sz h|refine sy h ?_)|exact sq|fail
 refine zi (fun z E ms M'=>∃(k:Nat) (R:Nat->Nat),z=N - k /\ k<=N /\ ms=[] /\ Has E [(1,.func (.func gf) fi fc),(2,.ptr (some (n2,0))),(5,.slice (some (nt,0)) N true 1),(19,I N),(20,I k)] /\ Grow M M' /\ M2.next<=M'.next /\ At M' n2 (.cells true (laidv g ca f e at' n ft et ap m fp ep).cells 224) /\ TbF M.next M' nt N g.cl.length k R (fun _ _=>0))
  ?_ N _ _ _ ⟨0,_,by omega,by omega,rfl,.cons rfl (.cons rfl (.cons rfl (.cons rfl (.cons rfl .nil)))),g2,Nat.le_refl _,B2,tz⟩
 clear tz B2
 rintro z E ms M3 ⟨k,R,rfl,hk,rfl,hE,g3,l3,B3,tb⟩
 refine z02 hE ?_
 have q3:=B3.2
 by_cases hlast:k=N
 rotate_left
 ·have hlt:k < N:=by omega
  repeat' first|with_reducible intro _|refine sv ?_|refine ss ?_ ?_<;>(intro h;first|exact sz h|refine sy h ?_)|exact sq|fail
  all_goals try(exfalso;omega)
  refine z7c (by exact gd) (z96 rfl rfl (Nat.le_refl _) (by omega) (by omega)) ?_
  have hR:New M3 M3.next (.cells true (rep g.cl.length [I 0]) 3) (M3.push (.cells true (rep g.cl.length [I 0]) 3)):=⟨rfl,rfl⟩
  generalize M3.push (.cells true (rep g.cl.length [I 0]) 3)=M4 at hR ⊢
  have e4:=hR.next
  have B4:=At.new_old hR B3
  have tb4:=tb.grow hR.grow
  have hbn:=tb.hb
  refine z59 (t:=29) (v':=.slice (some (M3.next,0)) g.cl.length true 1) rfl (by simp) ?_
  repeat' first|with_reducible intro _|refine sv ?_|refine ss ?_ ?_<;>(intro h;first|exact sz h|refine sy h ?_)|exact sq|fail
  all_goals try(exfalso;omega)
  refine x_st (by exact gd) rfl rfl tb4.hd rfl rfl (z4l hlt) ?_
  intro M5 hu5 e5 a5
  have tb5:=TbF.row tb hR hu5
  have B5:At M5 n2 (.cells true (laidv g ca f e at' n ft et ap m fp ep).cells 224):=At.upd_ne hu5 (by omega) B4
  have g5:Grow M M5:=(g3.trans hR.grow).upd hu5 (by omega)
  clear hu5 hR
  repeat' first|with_reducible intro _|refine sv ?_|refine ss ?_ ?_<;>(intro h;first|exact sz h|refine sy h ?_)|exact sq|fail
  refine zq (N - (k+1)) (by omega) ⟨k+1,_,rfl,by omega,rfl,.cons rfl (.cons rfl (.cons rfl (.cons rfl (.cons rfl .nil)))),g5,by omega,B5,tb5⟩
 subst hlast
 repeat' first|with_reducible intro _|refine sv ?_|refine ss ?_ ?_<;>(intro h;first|exact sz h|refine sy h ?_)|exact sq|fail
 all_goals try(exfalso;omega)
 have tb0:TbF M.next M3 nt k g.cl.length k R (cntF H 0):=tb
 refine zi (fun z E ms M'=>∃ t:Nat,z=n - t /\ t<=n /\ ms=[] /\ Has E [(1,.func (.func gf) fi fc),(5,.slice (some (nt,0)) k true 1),(34,I n),(35,I t)] /\ Grow M M' /\ TbF M.next M' nt k g.cl.length k R (cntF H t))
  ?_ n _ _ _ ⟨0,by omega,by omega,rfl,.cons rfl (.cons rfl (.cons rfl (.cons rfl .nil))),g3,tb0⟩
 clear tb tb0 hE B3 q3 g3 l3
 rintro z E ms M5 ⟨t,rfl,ht,rfl,hE,g5,tb⟩
 refine z02 hE ?_
 by_cases hlast:t=n
 ·subst hlast
  repeat' first|with_reducible intro _|refine sv ?_|refine ss ?_ ?_<;>(intro h;first|exact sz h|refine sy h ?_)|exact sq|fail
  all_goals try(exfalso;omega)
  refine kf ?_
  exact⟨⟨nt,R,rfl,tb⟩,g5⟩
 have hlt:t < n:=by omega
 repeat' first|with_reducible intro _|refine sv ?_|refine ss ?_ ?_<;>(intro h;first|exact sz h|refine sy h ?_)|exact sq|fail
 all_goals try(exfalso;omega)
 refine ze6 (by exact gd) rfl rfl (hH t hlt _ g5) ?_
 rintro w M6 ⟨⟨hs,hv,⟨hnd,hhl⟩,hm⟩,g56⟩
 have hbt:=fun c hc=>hb t c hlt ((hm c).1 hc)
 obtain⟨a6,f6,e6,rfl⟩:=Vec.shape hv
 have hcq:=zkp (H:=H) (t:=t) hm
 have tq:TbF M.next M6 nt k g.cl.length k R (cntQ (cntF H t) (hs.take 0)):=by rw[List.take_zero,zkq];exact tb.grow g56
 have g6:=g5.trans g56
 have hl6:=g56.le
 repeat' first|with_reducible intro _|refine sv ?_|refine ss ?_ ?_<;>(intro h;first|exact sz h|refine sy h ?_)|exact sq|fail
 refine zi (fun z E ms M'=>∃ q:Nat,z=hs.length - q /\ q<=hs.length /\ ms=[] /\ Has E [(1,.func (.func gf) fi fc),(5,.slice (some (nt,0)) k true 1),(34,I n),(35,I t),(40,.slice a6 hs.length f6 e6),(41,I hs.length),(42,I q)] /\ Grow M M' /\ M5.next<=M'.next /\ Vec M5.next 2 122 kyc M' (.slice a6 hs.length f6 e6) hs /\ TbF M.next M' nt k g.cl.length k R (cntQ (cntF H t) (hs.take q)))
  ?_ hs.length _ _ _ ⟨0,by omega,by omega,rfl,.cons rfl (.cons rfl (.cons rfl (.cons rfl (.cons rfl (.cons rfl (.cons rfl .nil)))))),g6,hl6,hv,tq⟩
 have tlim:=fun k' (hk':k' < k)=>(tb.rw k' hk').2.2.2
 clear tq hv hE g56 g6 hl6
 rintro z E ms M7 ⟨q,rfl,hq,rfl,hE,g7,l7,hv,tq⟩
 refine z02 hE ?_
 by_cases hlastq:q=hs.length
 ·subst hlastq
  rw[List.take_length,hcq] at tq
  repeat' first|with_reducible intro _|refine sv ?_|refine ss ?_ ?_<;>(intro h;first|exact sz h|refine sy h ?_)|exact sq|fail
  all_goals try(exfalso;omega)
  refine zq (n - (t+1)) (by omega) ⟨t+1,rfl,by omega,rfl,.cons rfl (.cons rfl (.cons rfl (.cons rfl .nil))),g7,tq⟩
 have hltq:q < hs.length:=by omega
 have hstep:=zr5 (F:=cntF H t) hnd hltq
 obtain⟨i8,he8,hat8,hb8⟩:=hv.resolve_left (fun h=>by rw[h.1] at hltq;exact absurd hltq (Nat.not_lt_zero _))
 cases he8
 have rq:Rd M7 i8 (0+q*2) 2 (kyc hs[q]):=z8r hat8 (fun _ _=>rfl) hltq
 have hnon:=(hN.grow g7).rd
 have hbq:=hbt hs[q] (List.getElem_mem hltq)
 generalize hs[q]=cq at *
 have rq:Rd M7 i8 (0+q*2) 2 [I cq.1,I cq.2]:=rq
 unfold nonK at hbq
 generalize cq.1=z1 at *
 generalize cq.2=z2 at *
 have hrow:∀ k',k' < k->R k' < M5.next:=tlim
 have hnt:=tq.hd.2
 by_cases hz:z1=-1 /\ z2=-1
 ·obtain⟨rfl,rfl⟩:=hz
  have htq:TbF M.next M7 nt k g.cl.length k R (cntQ (cntF H t) (hs.take (q+1))):=by
   rw[show cntQ (cntF H t) (hs.take (q+1))=cntQ (cntF H t) (hs.take q) from by funext k j;rw[hstep,if_neg (fun h=>by omega)]]
   exact tq
  (have hrd0:=rq;have hrd1:=hnon;repeat' (first|(with_reducible intro _)|refine sv ?_|refine ss ?_ ?_<;>(intro h;first|exact sz h|refine sy h ?_)|exact sq|fail))
  all_goals try(exfalso;omega)
  rename_i h43 n9 M8 u1 u2 u3 M9 u4 u5 u6
  have g9:Grow M7 M9:=u1.grow.upd u4 (by omega)
  refine zq (hs.length - (q+1)) (by omega) ⟨q+1,rfl,by omega,rfl,.cons rfl (.cons rfl (.cons rfl (.cons rfl (.cons rfl (.cons rfl (.cons rfl .nil)))))),g7.trans g9,by omega,hv.grow g9,htq.grow g9⟩
 ·obtain⟨⟨b1,b2⟩,b3,b4⟩:=hbq.resolve_left hz
  obtain⟨x,rfl⟩:=Int.eq_ofNat_of_zero_le b1
  obtain⟨y,rfl⟩:=Int.eq_ofNat_of_zero_le b3
  have hx:x < k:=by omega
  have hy:y < g.cl.length:=by omega
  have r1:=tq.rdR hx hx
  have r2:=tq.rdC hx hy
  have hcb:-1000<=cntQ (cntF H t) (hs.take q) x y /\ cntQ (cntF H t) (hs.take q) x y<=1000:=by
   have:=zhj (H:=H) t x y
   unfold cntQ
   split<;>omega
  have hrx:R x < M7.next:=by have:=hrow x hx;omega
  generalize hv0:cntQ (cntF H t) (hs.take q) x y=v0 at *
  (have hrd0:=rq;have hrd1:=hnon;repeat' (first|(with_reducible intro _)|refine sv ?_|refine ss ?_ ?_<;>(intro h;first|exact sz h|refine sy h ?_)|exact sq|fail))
  all_goals try(exfalso;omega)
  rename_i h43 n9 M8 u1 u2 u3 M9 u4 u5 u6
  have g9:Grow M7 M9:=u1.grow.upd u4 (by omega)
  have tq9:=tq.grow g9
  refine d_st (by exact gd) rfl rfl (tq9.rw x hx).2.2 rfl rfl (z4l hy) ?_
  intro M10 hu10 e10 a10
  have tq10:TbF M.next M10 nt k g.cl.length k R (cntQ (cntF H t) (hs.take (q+1))):=by
   refine TbF.put (v:=v0+1) tq9 hx hu10 fun k' j' h1 h2=>?_
   rw[hstep]
   by_cases e:k'=x /\ j'=y
   ·rw[if_pos e,if_pos (by omega),e.1,e.2,hv0]
   ·rw[if_neg e,if_neg (by omega)]
  have hv10:Vec M5.next 2 122 kyc M10 (.slice (some (i8,0)) hs.length false 2) hs:=(hv.grow g9).keep (F:=fun i=>i=R x) ((Keep.refl _ _).upd hu10 (.inl rfl)) (fun i hi=>by have:=hrow x hx;omega)
  have g10:Grow M M10:=(g7.trans g9).upd hu10 (tq9.rw x hx).1
  clear hu10
  repeat' first|with_reducible intro _|refine sv ?_|refine ss ?_ ?_<;>(intro h;first|exact sz h|refine sy h ?_)|exact sq|fail
  refine zq (hs.length - (q+1)) (by omega) ⟨q+1,rfl,by omega,rfl,.cons rfl (.cons rfl (.cons rfl (.cons rfl (.cons rfl (.cons rfl (.cons rfl .nil)))))),g10,by omega,hv10,tq10⟩
abbrev hitH(g:Gd)(ns:List Rg)(ts:List (Int × Int))(t:Nat)(c:Ky):Prop:=hitP g ns (ts.getD t (0,0)) c
abbrev surH(g:Gd)(ns:List Rg)(ts:List (Int × Int))(t:Nat)(c:Ky):Prop:=sureP g ns (ts.getD t (0,0)) c
theorem zi1{g:Gd}(hg:GdOk g){ns:List Rg}{t:Int × Int}{c:Ky}(h:hitP g ns t c):nonK c ∨((0<=c.1 /\ c.1 < cellN g) /\ 0<=c.2 /\ c.2 < g.cl.length):=by
 obtain⟨p,-,rfl⟩:=h
 obtain⟨h1,h2⟩:=z4d hg p
 obtain⟨-,-,h3⟩:=zap hg
 unfold nonK
 rw[h1,h2,h3,Int.mul_comm]
 rcases zan hg p.1 p.2 with h|h
 ·rw[h];exact .inl ⟨rfl,rfl⟩
 ·exact .inr ⟨⟨h.1.1,h.1.2.2⟩,h.2⟩
def FoldR(g:Gd)(ns:List Rg)(ts:List (Int × Int))(b:Nat)(w:LV)(M':Mem):Prop :=
 (∃ er:Int,w=.tup [.slice none 0 true 0,.slice none 0 true 0,I er] /\ er ≠ 0) ∨
 (GdOk g /\ LyOk ns ts /\ ∃ i1 R1 i2 R2,w=.tup [.slice (some (i1,0)) (cellN g) true 1,.slice (some (i2,0)) (cellN g) true 1,I 0] /\ TbF b M' i1 (cellN g) g.cl.length (cellN g) R1 (cntF (surH g ns ts) ts.length) /\ TbF b M' i2 (cellN g) g.cl.length (cellN g) R2 (cntF (hitH g ns ts) ts.length))
theorem TbF.low{b b':Nat}{M:Mem}{i N C m:Nat}{R:Nat->Nat}{F:Nat->Nat->Int}(h:TbF b M i N C m R F)(hb:b'<=b):TbF b' M i N C m R F :=
 ⟨h.hd,Nat.le_trans hb h.hb,fun k hk=>⟨Nat.le_trans hb (h.rw k hk).1,(h.rw k hk).2⟩,h.inj⟩
set_option maxHeartbeats 16000000 in
theorem zqf{g:Gd}{ca:Option (Nat × Nat)}{f:Bool}{e:Nat}{ns:List Rg}{ts:List (Int × Int)}{an at':Option (Nat × Nat)}{fn ft:Bool}{en et:Nat}{M:Mem}(hs:SlC M ca g.cl)(hlc:g.cl.length<=1000000000000000)(hn:SlA 8 rgc M an ns)(ht:SlA 2 trc M at' ts)(hln:ns.length<=1000000000000000)(hlt:ts.length<=1000000000000000)(hN:NonM M) :
  CallN Tryz.prog 36 [gdv g ca f e,.agg (lyc an ns fn en at' ts ft et)] M (fun w M'=>FoldR g ns ts M.next w M' /\ Grow M M'):=by
 have cb:=fun M' (hgr:Grow M M')=>zo4 (f:=f) (e:=e) (fn:=fn) (ft:=ft) (en:=en) (et:=et) (hs.grow hgr) hlc (hn.grow hgr) (ht.grow hgr) hln hlt
 refine z5e k36 rfl ?_
 delta x36;refine un ?_
 try dsimp only[List.map]
 generalize hD:XC.draw [(⟨some 23,.ldN 8 (.t 7),none⟩,.reads 0 0),(⟨some 24,.mv (.t 8),none⟩,.calm),(⟨some 25,.call (.c (.func (.func 101) [] [])) [.t 23,.t 24],none⟩,.anchor),(⟨some 26,.ldN 8 (.t 7),none⟩,.reads 0 1),(⟨some 27,.mv (.t 9),none⟩,.calm),(⟨some 28,.call (.c (.func (.func 101) [] [])) [.t 26,.t 27],none⟩,.anchor),(⟨some 4,.mv (.t 25),none⟩,.calm),(⟨some 5,.mv (.t 28),none⟩,.calm),(⟨some 6,.mv (.c (.int .i64 0)),none⟩,.calm)] [0,0,3,0,0,31,63,127,255]=D2
 repeat' first|with_reducible intro _|refine sv ?_|((with_reducible first|apply zt|apply zz|apply zn);exact gd;exact rfl;exact rfl;(first|exact cb _ (xg)))|refine ss ?_ ?_<;>(intro h;first|exact sz h|refine sy h ?_)|exact sq|fail
 rename_i n2 M1 u1 u2 u3 n3 M2 u4 u5 u6 w M3 hq
 obtain⟨hq,g23⟩:=hq
 have g3:Grow M M3:=(u1.grow.trans u4.grow).trans g23
 have hl23:=g23.le
 clear u1 u4 cb
 rcases hq with⟨er,rfl,her⟩|⟨hg,hok,ap,fp,ep,rfl,hpl⟩
 ·repeat' first|with_reducible intro _|refine sv ?_|refine ss ?_ ?_<;>(intro h;first|exact sz h|refine sy h ?_)|exact sq|fail
  all_goals try(exfalso;omega)
  rename_i n7 M4 v1 v2 v3 M5 v4 v5 v6
  refine kf ?_
  exact⟨.inl ⟨er,rfl,her⟩,(g3.trans v1.grow).upd v4 (by omega)⟩
 ·repeat' first|with_reducible intro _|refine sv ?_|refine ss ?_ ?_<;>(intro h;first|exact sz h|refine sy h ?_)|exact sq|fail
  all_goals try(exfalso;omega)
  rename_i n7 M4 v1 v2 v3 M5 v4 v5 v6
  subst hD
  have hlv:=hpl
  have g5:Grow M M5:=(g3.trans v1.grow).upd v4 (by omega)
  have g35:Grow M3 M5:=v1.grow.upd v4 (by omega)
  have q7:=v6.2
  have r7:Rd M5 n7 0 8 [I g.xo,I g.yo,I g.sz,I g.ac,I g.dn,.slice ca g.cl.length f e,.slice at' ts.length ft et,.slice ap ns.length fp ep]:=Rd.of_at v6 rfl
  clear v1 v4
  have hc1:∀ M',Grow M5 M'->CallN Tryz.prog 101 [laidv g ca f e at' ts.length ft et ap ns.length fp ep,.func (.func 99) [laidv g ca f e at' ts.length ft et ap ns.length fp ep] []] M' (fun w M''=>(∃ i R,w=.slice (some (i,0)) (cellN g) true 1 /\ TbF M'.next M'' i (cellN g) g.cl.length (cellN g) R (cntF (surH g ns ts) ts.length)) /\ Grow M' M''):=fun M' hgr=>by
   refine zh6 hg (hN.grow (g5.trans hgr)) hok.t64 (fun t ht' M'' hgr'=>?_) (fun t c ht' h=>zi1 hg h.1)
   have:=zkj (f:=f) (e:=e) (ft:=ft) (et:=et) (fp:=fp) (ep:=ep) hg (hs.grow ((g5.trans hgr).trans hgr')) (ht.grow ((g5.trans hgr).trans hgr')) (hpl _ _ (((g35.trans hgr).trans hgr').to_keep (fun _=>False)) (fun i h=>h.elim)) hok (hN.grow ((g5.trans hgr).trans hgr')) ht'
   unfold surH
   rw[List.getD_eq_getElem?_getD,List.getElem?_eq_getElem ht']
   exact this
  have hc2:∀ M',Grow M5 M'->CallN Tryz.prog 101 [laidv g ca f e at' ts.length ft et ap ns.length fp ep,.func (.func 100) [laidv g ca f e at' ts.length ft et ap ns.length fp ep] []] M' (fun w M''=>(∃ i R,w=.slice (some (i,0)) (cellN g) true 1 /\ TbF M'.next M'' i (cellN g) g.cl.length (cellN g) R (cntF (hitH g ns ts) ts.length)) /\ Grow M' M''):=fun M' hgr=>by
   refine zh6 hg (hN.grow (g5.trans hgr)) hok.t64 (fun t ht' M'' hgr'=>?_) (fun t c ht' h=>zi1 hg h)
   have:=zmw (f:=f) (e:=e) (ft:=ft) (et:=et) (fp:=fp) (ep:=ep) hg (hs.grow ((g5.trans hgr).trans hgr')) (ht.grow ((g5.trans hgr).trans hgr')) (hpl _ _ (((g35.trans hgr).trans hgr').to_keep (fun _=>False)) (fun i h=>h.elim)) hok (hN.grow ((g5.trans hgr).trans hgr')) ht'
   unfold hitH hitP
   rw[List.getD_eq_getElem?_getD,List.getElem?_eq_getElem ht']
   exact this
  refine zpj mix ?_
  have hA:∀(E:Env) (M6:Mem) (i1:Nat) (R1:Nat->Nat),PvL.look E 25=some (.slice (some (i1,0)) (cellN g) true 1)->PvL.look E 26=some (laidv g ca f e at' ts.length ft et ap ns.length fp ep)->PvL.look E 27=some (.func (.func 100) [laidv g ca f e at' ts.length ft et ap ns.length fp ep] [])->Grow M5 M6->TbF M5.next M6 i1 (cellN g) g.cl.length (cellN g) R1 (cntF (surH g ns ts) ts.length)->XQ Tryz.prog 29 [(⟨some 23,.ldN 8 (.t 7),none⟩,.reads 0 0),(⟨some 24,.mv (.t 8),none⟩,.calm),(⟨some 25,.call (.c (.func (.func 101) [] [])) [.t 23,.t 24],none⟩,.anchor),(⟨some 26,.ldN 8 (.t 7),none⟩,.reads 0 1),(⟨some 27,.mv (.t 9),none⟩,.calm),(⟨some 28,.call (.c (.func (.func 101) [] [])) [.t 26,.t 27],none⟩,.anchor),(⟨some 4,.mv (.t 25),none⟩,.calm),(⟨some 5,.mv (.t 28),none⟩,.calm),(⟨some 6,.mv (.c (.int .i64 0)),none⟩,.calm)] [0,0,3,0,0,31,63,127,255] 31 E M6 (fun E M'=>KSeq Md.gen Tryz.prog 36 none 29 XC.ret (KFun [XR.tmp 4,XR.tmp 5,XR.tmp 6] fun w M'=>FoldR g ns ts M.next w M' /\ Grow M M') Ex.norm E [] M'):=by
   intro E M6 i1 R1 h25 h26 h27 g6 t1
   have hl6:=g6.le
   have hl5:=g5.le
   refine z94 (by decide) ⟨?_,?_,?_,?_,?_,?_,?_,?_,?_,trivial⟩<;>intro hr<;>first|exact absurd hr (by decide)|clear hr
   refine zfj (by exact gd) rfl (show z14 E [.t 26,.t 27]=_ by show ob (PvL.look E 26) _=_;rw[h26,za];show ob (ob (PvL.look E 27) _) _=_;rw[h27];rfl) (hc2 _ g6) ?_
   rintro v M7 ⟨⟨i2,R2,rfl,t2⟩,g67⟩
   refine z94 (by decide) ⟨?_,?_,?_,?_,?_,?_,?_,?_,?_,trivial⟩<;>intro hr<;>first|exact absurd hr (by decide)|clear hr
   refine za6 (by exact gd) (v:=.slice (some (i1,0)) (cellN g) true 1) (show ob (PvL.look E 25) _=_ by rw[h25];rfl) ?_
   refine z94 (by decide) ⟨?_,?_,?_,?_,?_,?_,?_,?_,?_,trivial⟩<;>intro hr<;>first|exact absurd hr (by decide)|clear hr
   refine za6 (by exact gd) rfl ?_
   refine z94 (by decide) ⟨?_,?_,?_,?_,?_,?_,?_,?_,?_,trivial⟩<;>intro hr<;>first|exact absurd hr (by decide)|clear hr
   refine za6 (by exact gd) rfl ?_
   refine zsh (by decide) ?_
   repeat' first|with_reducible intro _|refine sv ?_|refine ss ?_ ?_<;>(intro h;first|exact sz h|refine sy h ?_)|exact sq|fail
   refine kf ?_
   exact⟨.inr ⟨hg,hok,i1,R1,i2,R2,rfl,(t1.grow g67).low (by omega),t2.low (by omega)⟩,(g5.trans g6).trans g67⟩
  repeat' (first
   | exact hA _ _ _ _ rfl rfl rfl ‹Grow M5 _› ‹TbF M5.next _ _ _ _ _ _ _›
   |(refine z94 (by decide) ⟨?_,?_,?_,?_,?_,?_,?_,?_,?_,trivial⟩<;>intro hr<;>first|exact absurd hr (by decide)|clear hr)
   | refine za6 (by exact gd) (zff rfl (by first|exact r7|exact r7.grow ‹Grow M5 _›)) ?_
   | refine za6 (by exact gd) (v:=.func (.func 99) [laidv g ca f e at' ts.length ft et ap ns.length fp ep] []) rfl ?_
   | refine za6 (by exact gd) (v:=.func (.func 100) [laidv g ca f e at' ts.length ft et ap ns.length fp ep] []) rfl ?_
   |(refine zfj (by exact gd) rfl rfl (hc1 _ (Grow.refl _)) ?_;rintro v M6 ⟨⟨i1,R1,rfl,t1⟩,g6⟩))
set_option maxHeartbeats 4000000 in
theorem zny{g:Gd}{ca:Option (Nat × Nat)}{f:Bool}{e:Nat}{xa ya xb yb:Int}{M:Mem}(hs:SlC M ca g.cl)(hlc:g.cl.length<=1000000000000000)(hg:GdOk g)(ha:PlP (xa,ya))(hb:PlP (xb,yb))(hN:NonM M) :
  ze Tryz.prog 37 [gdv g ca f e,.agg [I xa,I ya],.agg [I xb,I yb]] M (fun w M'=>w=.tup [.agg [I (cellK g ((xa,ya),(xb,yb))).1,I (cellK g ((xa,ya),(xb,yb))).2],I 0] /\ Grow M M'):=by
 have cg:=fun M' (hgr:Grow M M')=>z7t (f:=f) (e:=e) (hs.grow hgr) hlc
 rw[zhu hg] at cg
 have cc:=fun M' (hgr:Grow M M')=>zmv (f:=f) (e:=e) (hs.grow hgr) hg ha hb (hN.grow hgr)
 dsimp only[gdv,ptv] at cc
 obtain⟨ck1,ck2⟩:=z4d hg ((xa,ya),(xb,yb))
 dsimp only at ck1 ck2
 rw[<-ck1,<- ck2] at cc
 generalize cellK g ((xa,ya),(xb,yb))=ck at *
 refine zf k37 rfl ?_
 delta x37;refine un ?_
 have cp:=fun x y (h:Pl x y) M'=>z1h x y M'
 have e1:ePt xa ya=0:=if_pos ha
 have e2:ePt xb yb=0:=if_pos hb
 have cp1:=fun M'=>z1h xa ya M'
 have cp2:=fun M'=>z1h xb yb M'
 rw[e1] at cp1
 rw[e2] at cp2
 repeat' first|with_reducible intro _|refine sv ?_|((with_reducible first|apply zp|apply zo|apply zj);exact gd;exact rfl;exact rfl;(first|exact cg _ (xg)|exact cp1 _|exact cp2 _|exact cc _ (xg)))|refine ss ?_ ?_<;>(intro h;first|exact sz h|refine sy h ?_)|exact sq|fail
 all_goals try(exfalso;omega)
 refine kf ?_
 exact⟨rfl,xg⟩
theorem zqb{g:Gd}{ca:Option (Nat × Nat)}{f:Bool}{e:Nat}{a b:Pt}{M:Mem}(hs:SlC M ca g.cl)(hlc:g.cl.length<=1000000000000000)(hg:GdOk g)(ha:PlP a)(hb:PlP b)(hN:NonM M) :
  ze Tryz.prog 37 [gdv g ca f e,ptv a,ptv b] M (fun w M'=>w=.tup [.agg [I (cellK g (a,b)).1,I (cellK g (a,b)).2],I 0] /\ Grow M M'):=zny hs hlc hg ha hb hN
def SlQ(M:Mem)(a:Option (Nat × Nat))(l:List Pt):Prop:=l=[] ∨ ∃ i o,a=some (i,o) /\ ∀ k (hk:k < l.length),Rd M i (o+k*2) 2 (ptc l[k])
theorem SlQ.grow{M M':Mem}{a:Option (Nat × Nat)}{l:List Pt}(h:SlQ M a l)(hg:Grow M M'):SlQ M' a l :=
 h.imp id fun⟨i,o,h1,h2⟩=>⟨i,o,h1,fun k hk=>(h2 k hk).grow hg⟩
theorem SlQ.rd{M:Mem}{a:Option (Nat × Nat)}{l:List Pt}(h:SlQ M a l){k:Nat}(hk:k < l.length):∃ i o,a=some (i,o) /\ Rd M i (o+k*2) 2 (ptc l[k]):=by
 rcases h with rfl|⟨i,o,h1,h2⟩
 ·exact absurd hk (Nat.not_lt_zero _)
 ·exact⟨i,o,h1,h2 k hk⟩
def badP(p:Pt):Bool:=!ptB p.1 p.2
theorem zt6(p:Pt)(M:Mem):ze Tryz.prog 86 [ptv p] M (fun w M'=>w=.bool (badP p) /\ Grow M M'):=by
 refine zf k86 rfl ?_
 delta x86;refine un ?_
 have cp:=z6q p.1 p.2
 unfold badP
 cases hb:ptB p.1 p.2 with
 | false =>
  rw[hb] at cp
  repeat' first|with_reducible intro _|refine sv ?_|((with_reducible first|apply zp|apply zo|apply zj);exact gd;exact rfl;exact rfl;(first|exact cp _))|refine ss ?_ ?_<;>(intro h;first|exact sz h|refine sy h ?_)|exact sq|fail
  refine kf ?_
  exact⟨rfl,xg⟩
 | true =>
  rw[hb] at cp
  repeat' first|with_reducible intro _|refine sv ?_|((with_reducible first|apply zp|apply zo|apply zj);exact gd;exact rfl;exact rfl;(first|exact cp _))|refine ss ?_ ?_<;>(intro h;first|exact sz h|refine sy h ?_)|exact sq|fail
  refine kf ?_
  exact⟨rfl,xg⟩
theorem zkc{a:Option (Nat × Nat)}{l:List Pt}{f:Bool}{e:Nat}{M:Mem}(hs:SlQ M a l)(hl:l.length<=1000000000000000) :
  ze Tryz.prog 147 [.slice a l.length f e,.func (.func 86) [] []] M (fun w M'=>(∃ r:Int,w=I r /\ (0<=r ↔ l.any badP=true) /\ -1<=r /\ r<=l.length) /\ Grow M M'):=by
 refine zf k147 rfl ?_
 delta x147;refine un ?_
 repeat' first|with_reducible intro _|refine sv ?_|refine ss ?_ ?_<;>(intro h;first|exact sz h|refine sy h ?_)|exact sq|fail
 refine zi (fun m E ms M'=>∃ k:Nat,m=l.length - k /\ k<=l.length /\ ms=[] /\ Has E [(0,.slice a l.length f e),(1,.func (.func 86) [] []),(7,I l.length),(8,I k)] /\ Grow M M' /\ (l.take k).any badP=false)
  ?_ l.length _ _ _ ⟨0,by omega,by omega,rfl,.cons rfl (.cons rfl (.cons rfl (.cons rfl .nil))),Grow.refl _,rfl⟩
 rintro m E ms M1 ⟨k,rfl,hk,rfl,hE,hg1,hall⟩
 refine z02 hE ?_
 by_cases hlast:k=l.length
 ·rw[hlast,List.take_length] at hall
  rw[hlast]
  repeat' first|with_reducible intro _|refine sv ?_|refine ss ?_ ?_<;>(intro h;first|exact sz h|refine sy h ?_)|exact sq|fail
  all_goals try(exfalso;omega)
  refine kf ?_
  exact⟨⟨-1,rfl,by rw[hall];simp,by omega,by omega⟩,hg1⟩
 have hlt:k < l.length:=by omega
 obtain⟨i,o,rfl,hr⟩:=(hs.grow hg1).rd hlt
 have hsu:(l.take (k+1)).any badP=((l.take k).any badP || badP l[k]):=by
  rw[List.take_succ_eq_append_getElem hlt,List.any_append];simp
 have cb:=zt6 l[k]
 cases hb:badP l[k] with
 | true =>
  rw[hb] at cb
  have hany:l.any badP=true:=List.any_eq_true.2 ⟨_,List.getElem_mem hlt,hb⟩
  (have hrd0:=hr;repeat' (first|(with_reducible intro _)|refine sv ?_|((with_reducible first|apply zp|apply zo|apply zj);exact gd;exact rfl;exact rfl;(first|exact cb _))|refine ss ?_ ?_<;>(intro h;first|exact sz h|refine sy h ?_)|exact sq|fail))
  all_goals try(exfalso;omega)
  refine kf ?_
  exact⟨⟨k,rfl,by rw[hany];simp,by omega,by omega⟩,xg⟩
 | false =>
  rw[hb] at cb
  rw[hall,hb] at hsu
  (have hrd0:=hr;repeat' (first|(with_reducible intro _)|refine sv ?_|((with_reducible first|apply zp|apply zo|apply zj);exact gd;exact rfl;exact rfl;(first|exact cb _))|refine ss ?_ ?_<;>(intro h;first|exact sz h|refine sy h ?_)|exact sq|fail))
  all_goals try(exfalso;omega)
  exact zq (l.length - (k+1)) (by omega) ⟨k+1,rfl,by omega,rfl,.cons rfl (.cons rfl (.cons rfl (.cons rfl .nil))),hg1.trans (xg),hsu⟩
theorem zd1{a:Option (Nat × Nat)}{l:List Pt}{f:Bool}{e:Nat}{M:Mem}(hs:SlQ M a l)(hl:l.length<=1000000000000000) :
  ze Tryz.prog 85 [.slice a l.length f e,.func (.func 86) [] []] M (fun w M'=>w=.bool (l.any badP) /\ Grow M M'):=by
 refine zf k85 rfl ?_
 delta x85;refine un ?_
 have hc:=zkc (f:=f) (e:=e) hs hl
 repeat' first|with_reducible intro _|refine sv ?_|((with_reducible first|apply zt|apply zz|apply zn);exact gd;exact rfl;exact rfl;(first|exact hc))|refine ss ?_ ?_<;>(intro h;first|exact sz h|refine sy h ?_)|exact sq|fail
 rename_i w M1 hq
 obtain⟨⟨r,rfl,hr,_,_⟩,hg⟩:=hq
 repeat' first|with_reducible intro _|refine sv ?_|refine ss ?_ ?_<;>(intro h;first|exact sz h|refine sy h ?_)|exact sq|fail
 refine kf ?_
 exact⟨congrArg LV.bool (by rw[Bool.eq_iff_iff,decide_eq_true_iff];exact hr),hg⟩
set_option maxHeartbeats 4000000 in
theorem y_of{l:List Pt}{p i o:Nat}{f:Bool}{e:Nat}{own:Bool}{ty:TypeId}{M0:Mem}(hp:At M0 p (.cells own [.slice (some (i,o)) l.length f e] ty))(hs:∀ k (hk:k < l.length),Rd M0 i (o+k*2) 2 (ptc l[k]))(hl:l.length<=1000000) :
  PvL.Yields Tryz.prog 88 [] [.ptr (some (p,0))] (fun j=>j=p ∨ j=i) (l.map fun q=>[ptv q]) M0:=by
 intro y A J D hA hS stab stabD step h0
 have hpA:¬ A p:=hS p (.inl rfl)
 have hiA:¬ A i:=hS i (.inr rfl)
 refine zf k88 rfl ?_
 dsimp only[x88,zM,zO,zI,zF,zS,zB,zL,zA,zE,zN,zW,zC,zH,zK,zX,zQ,zJ,zP,zY2,zY3,zY4,zY8,zT,zR,zU,zV,zG,List.map_cons,List.map_nil,zipE,Nat.reduceAdd,List.nil_append,List.cons_append]
 have r0:Rd1 M0 p 0 (.slice (some (i,o)) l.length f e):=Rd1.of_at hp rfl
 (have hrd0:=r0;repeat' (first|(with_reducible intro _)|refine sv ?_|refine ss ?_ ?_<;>(intro h;first|exact sz h|refine sy h ?_)|exact sq|fail))
 refine zi (fun n E ms M=>∃ k:Nat,n=l.length - k /\ k<=l.length /\ ms=[] /\ Has E [(0,.func (.yield y) [] []),(5,.slice (some (i,o)) l.length f e),(6,I l.length),(7,I k)] /\ Keep A M0 M /\ J k M) ?_ l.length _ _ _ ⟨0,by omega,by omega,rfl,.cons rfl (.cons rfl (.cons rfl (.cons rfl .nil))),Keep.refl _ _,h0⟩
 rintro n E ms M ⟨k,rfl,hk,rfl,hE,hkeep,hJ⟩
 have hle:=hkeep.le
 have hJ':∀ M',Grow M M'->J k M':=fun M' hg=>stab _ _ _ hJ hg.le fun i hi=>hg.old i (Nat.lt_of_lt_of_le hi hle)
 refine z02 hE ?_
 by_cases hlast:k=l.length
 ·rw[hlast] at hJ ⊢
  repeat' first|with_reducible intro _|refine sv ?_|refine ss ?_ ?_<;>(intro h;first|exact sz h|refine sy h ?_)|exact sq|fail
  all_goals try(exfalso;omega)
  refine kf ?_
  exact⟨hkeep,.inl (by rw[List.length_map];exact hJ)⟩
 have hlt:k < l.length:=by omega
 have hr:Rd M i (o+k*2) 2 (ptc l[k]):=(hs k hlt).keep hkeep hiA
 have hx:(l.map fun q=>[ptv q])[k]?=some [ptv l[k]]:=by rw[List.getElem?_map,List.getElem?_eq_getElem hlt];rfl
 generalize l[k]=q at *
 (have hrd0:=hr;repeat' (first|(with_reducible intro _)|refine sv ?_|((with_reducible first|apply zt|apply zz|apply zn);exact gd;exact rfl;exact rfl;(first|exact step _ _ hx _ (by omega) (hJ' _ (xg))))|refine ss ?_ ?_<;>(intro h;first|exact sz h|refine sy h ?_)|exact sq|fail))
 all_goals try(exfalso;omega)
 rename_i n1 M1 z1 z2 z3 M2 z4 z5 z6 w M3 hq
 have g2:Grow M M2:=xg
 obtain⟨hk2,⟨rfl,hJ2⟩|⟨rfl,hD⟩⟩:=hq
 ·have hl3:=hk2.le
  repeat' first|with_reducible intro _|refine sv ?_|refine ss ?_ ?_<;>(intro h;first|exact sz h|refine sy h ?_)|exact sq|fail
  all_goals try(exfalso;omega)
  refine zq (l.length - (k+1)) (by omega) ⟨k+1,rfl,by omega,rfl,.cons rfl (.cons rfl (.cons rfl (.cons rfl .nil))),Keep.trans (Keep.trans hkeep (g2.to_keep A) (fun i hi=>.inl hi)) hk2 (fun i hi=>.inl hi),hJ2⟩
 ·have hl3:=hk2.le
  repeat' first|with_reducible intro _|refine sv ?_|refine ss ?_ ?_<;>(intro h;first|exact sz h|refine sy h ?_)|exact sq|fail
  all_goals try(exfalso;omega)
  refine kf ?_
  exact⟨Keep.trans (Keep.trans hkeep (g2.to_keep A) (fun i hi=>.inl hi)) hk2 (fun i hi=>.inl hi),.inr hD⟩
def ofF(l:List Pt):Rg × Int:=if l=[] then(zRg,4) else if 256 < l.length then(zRg,3) else if l.any badP then(zRg,10) else((hullO none l).getD zRg,0)
set_option maxHeartbeats 4000000 in
theorem c_Of{M:Mem}{a:Option (Nat × Nat)}{l:List Pt}{f:Bool}{e:Nat}(hs:SlQ M a l)(hl:l.length<=1000000000000000) :
  ze Tryz.prog 32 [.slice a l.length f e] M (fun w M'=>w=resv (ofF l) /\ Grow M M'):=by
 refine zf k32 rfl ?_
 delta x32;refine un ?_
 have cc:=fun M' (hg:Grow M M')=>zd1 (f:=f) (e:=e) (hs.grow hg) hl
 unfold ofF
 by_cases h0:l=[]
 ·subst h0
  rw[if_pos rfl]
  repeat' first|with_reducible intro _|refine sv ?_|refine ss ?_ ?_<;>(intro h;first|exact sz h|refine sy h ?_)|exact sq|fail
  all_goals try(exfalso;simp at *;done)
  all_goals (refine kf ?_)
  all_goals exact⟨rfl,xg⟩
 rw[if_neg h0]
 have hp:0 < l.length:=Nat.pos_of_ne_zero fun h=>h0 (List.eq_nil_of_length_eq_zero h)
 by_cases h2:256 < l.length
 ·rw[if_pos h2]
  repeat' first|with_reducible intro _|refine sv ?_|refine ss ?_ ?_<;>(intro h;first|exact sz h|refine sy h ?_)|exact sq|fail
  all_goals try(exfalso;omega)
  refine kf ?_
  exact⟨rfl,xg⟩
 rw[if_neg h2]
 cases hb:l.any badP with
 | true =>
  rw[hb] at cc
  rw[if_pos rfl]
  repeat' first|with_reducible intro _|refine sv ?_|((with_reducible first|apply zp|apply zo|apply zj);exact gd;exact rfl;exact rfl;(first|exact cc _ (xg)))|refine ss ?_ ?_<;>(intro h;first|exact sz h|refine sy h ?_)|exact sq|fail
  all_goals try(exfalso;omega)
  refine kf ?_
  exact⟨rfl,xg⟩
 | false =>
  rw[hb] at cc
  rw[if_neg (by simp)]
  repeat' first|with_reducible intro _|refine sv ?_|((with_reducible first|apply zp|apply zo|apply zj);exact gd;exact rfl;exact rfl;(first|exact cc _ (xg)))|refine ss ?_ ?_<;>(intro h;first|exact sz h|refine sy h ?_)|exact sq|fail
  all_goals try(exfalso;omega)
  rename_i n1 M1 u1 u2 u3 n2 M2 u4 u5 u6 _ _ M3 u7 u8 n4 M4 u9 u10 u11
  obtain⟨i,o,rfl,hr⟩:∃ i o,a=some (i,o) /\ ∀ k (hk:k < l.length),Rd M i (o+k*2) 2 (ptc l[k]):=hs.resolve_left h0
  have a1:At M1 n1 (.cells true [.slice (some (i,o)) l.length f e] _):=At.new_same u1
  have a4:=(a1.grow u4.grow).grow (u7.trans u9.grow)
  have b2:=(At.new_same u4).grow (u7.trans u9.grow)
  have g4:Grow M M4:=(u1.grow.trans u4.grow).trans (u7.trans u9.grow)
  have c4:=At.new_same u9
  have hn2:M.next<=n2:=by omega
  have hl4:=g4.le
  clear u1 u4 u7 u9 u8
  have hsm:∀ p ∈ l,SmP 1000000 p:=fun p hp2=>by
   have h3:badP p=false:=by
    cases h4:badP p with
    | false=>rfl
    | true=>have h5:l.any badP=true:=List.any_eq_true.2 ⟨p,hp2,h4⟩
            rw[h5] at hb;cases hb
   unfold badP ptB btB at h3
   simp only[Bool.not_eq_false',Bool.and_eq_true,decide_eq_true_eq] at h3
   unfold SmP;omega
  have ch:=zmx [⟨88,[.ptr (some (n1,0))],(fun j=>j=n1 ∨ j=i),l⟩] (s:=n4) (o:=0) (f:=true) (e:=1) (M0:=M4)
   (fun k hk=>by
    obtain rfl:k=0:=by simpa using hk
    exact Rd1.of_at c4 rfl) (by simp)
   (fun g hg M' hM=>by
    obtain rfl:=List.mem_singleton.1 hg
    exact y_of (a4.grow hM) (fun k hk=>(hr k hk).grow (g4.trans hM)) (by show l.length<=_;omega))
   (fun g hg j hj=>by
    obtain rfl:=List.mem_singleton.1 hg
    rcases hj with rfl|rfl
    ·exact a4.2
    ·have:=(hr 0 hp).2;omega)
   (fun g hg q hq=>by
    obtain rfl:=List.mem_singleton.1 hg
    exact hsm q hq)
  rw[show List.flatMap (fun x:Gv=>x.pts) [⟨88,[.ptr (some (n1,0))],(fun j=>j=n1 ∨ j=i),l⟩]=l by simp] at ch
  repeat' first|with_reducible intro _|refine sv ?_|((with_reducible first|apply zp|apply zo|apply zj);exact gd;exact rfl;exact rfl;(first|exact ch))|refine ss ?_ ?_<;>(intro h;first|exact sz h|refine sy h ?_)|exact sq|fail
  rename_i M5 hg5 _ n6 M6 v1 v2 v3 M7 v4 v5 v6
  have b7:=At.upd_ne v4 (show n2 ≠ n6 by have:=b2.2;have:=hg5.le;omega) (At.grow (hg5.trans v1.grow) b2)
  have g7:Grow M M7:=(g4.trans (hg5.trans v1.grow)).upd v4 (by have:=hg5.le;omega)
  clear v1 v4 ch cc b2
  repeat' first|with_reducible intro _|refine sv ?_|((with_reducible first|apply zp|apply zo|apply zj);exact gd;exact rfl;exact rfl;(first|exact zeg _ _))|refine ss ?_ ?_<;>(intro h;first|exact sz h|refine sy h ?_)|exact sq|fail
  rename_i M8 w1 _ M9 w2 _ _
  have g9:=(g7.trans w1).upd w2 hn2
  refine kf ?_
  exact⟨rfl,g9⟩
end Go.Proofs.YtpgalhbplcanhaaGreatDoor.C
end
section
open Go PvL
set_option linter.unusedSimpArgs false
set_option linter.unusedVariables false
namespace Go.Proofs.YtpgalhbplcanhaaGreatDoor.C
def inR(r:Rg)(p:Pt):Prop:=(r.1.1<=p.1 /\ p.1<=r.1.2) /\ (r.2.1.1<=p.2 /\ p.2<=r.2.1.2) /\ (r.2.2.1.1<=p.1+p.2 /\ p.1+p.2<=r.2.2.1.2) /\ (r.2.2.2.1<=p.1 - p.2 /\ p.1 - p.2<=r.2.2.2.2)
def subR(r q:Rg):Prop:=(q.1.1<=r.1.1 /\ r.1.2<=q.1.2) /\ (q.2.1.1<=r.2.1.1 /\ r.2.1.2<=q.2.1.2) /\ (q.2.2.1.1<=r.2.2.1.1 /\ r.2.2.1.2<=q.2.2.1.2) /\ (q.2.2.2.1<=r.2.2.2.1 /\ r.2.2.2.2<=q.2.2.2.2)
theorem zm2{r q:Rg}(h1:subR r q)(h2:subR q r):r=q:=by
 obtain⟨⟨a,b⟩,⟨c,d⟩,⟨e,f⟩,⟨g,h⟩⟩:=r
 obtain⟨⟨a',b'⟩,⟨c',d'⟩,⟨e',f'⟩,⟨g',h'⟩⟩:=q
 unfold subR at h1 h2
 dsimp only at h1 h2
 obtain rfl:a=a':=by omega
 obtain rfl:b=b':=by omega
 obtain rfl:c=c':=by omega
 obtain rfl:d=d':=by omega
 obtain rfl:e=e':=by omega
 obtain rfl:f=f':=by omega
 obtain rfl:g=g':=by omega
 obtain rfl:h=h':=by omega
 rfl
theorem zm3(r:Rg):subR r r:=by unfold subR;omega
theorem zc4:∀(l:List Pt) (r0:Rg),∃ r,hullO (some r0) l=some r /\ subR r0 r /\ (∀ p ∈ l,inR r p) /\ ∀ q,subR r0 q->(∀ p ∈ l,inR q p)->subR r q
 | [],r0=>⟨r0,rfl,zm3 r0,fun p hp=>(by cases hp),fun q hq _=>hq⟩
 | p :: l,r0=>by
  obtain⟨r,h1,h2,h3,h4⟩:=zc4 l (map4 spanB r0 (ofP p))
  have e1:subR r0 (map4 spanB r0 (ofP p)) /\ inR (map4 spanB r0 (ofP p)) p /\ ∀ q,subR r0 q->inR q p->subR (map4 spanB r0 (ofP p)) q:=by
   unfold subR inR map4 spanB ofP iMin iMax
   dsimp only
   refine⟨by omega,by omega,fun q h1 h2=>by omega⟩
  obtain⟨e1,e2,e3⟩:=e1
  have hz:hullO (some r0) (p :: l)=some r:=h1
  clear h1
  generalize map4 spanB r0 (ofP p)=r1 at *
  refine⟨r,hz,?_,?_,?_⟩
  ·unfold subR at *;omega
  ·intro x hx
   rcases List.mem_cons.1 hx with rfl|hx
   ·unfold subR inR at *;omega
   ·exact h3 x hx
  ·intro q hq hall
   exact h4 q (e3 q hq (hall p List.mem_cons_self)) (fun x hx=>hall x (List.mem_cons_of_mem _ hx))
theorem zdf{l:List Pt}(h:l ≠ []):∃ r,hullO none l=some r /\ (∀ p ∈ l,inR r p) /\ ∀ q,(∀ p ∈ l,inR q p)->subR r q:=by
 cases l with
 | nil=>exact absurd rfl h
 | cons p l =>
  obtain⟨r,h1,h2,h3,h4⟩:=zc4 l (map4 spanB (ofP p) (ofP p))
  have e1:inR (map4 spanB (ofP p) (ofP p)) p /\ ∀ q,inR q p->subR (map4 spanB (ofP p) (ofP p)) q:=by
   unfold subR inR map4 spanB ofP iMin iMax
   dsimp only
   refine⟨by omega,fun q h2=>by omega⟩
  obtain⟨e2,e3⟩:=e1
  refine⟨r,h1,?_,?_⟩
  ·generalize map4 spanB (ofP p) (ofP p)=r1 at *
   intro x hx
   rcases List.mem_cons.1 hx with rfl|hx
   ·unfold subR inR at *;omega
   ·exact h3 x hx
  ·intro q hall
   exact h4 q (e3 q (hall p List.mem_cons_self)) (fun x hx=>hall x (List.mem_cons_of_mem _ hx))
theorem zf5{r:Rg}{t:Int × Int × Int}:t ∈ rowsL r ↔ ∃ x,r.1.1<=x /\ x<=r.1.2 /\ t=rowOf r x /\ t.2.1<=t.2.2:=by
 unfold rowsL rowsK rowsFrom
 rw[List.mem_filter,List.mem_map]
 unfold okRow
 rw[decide_eq_true_iff]
 constructor
 ·rintro⟨⟨j,hj,rfl⟩,h⟩
  have hj:=List.mem_range.1 hj
  unfold rowsN at hj
  exact⟨_,by omega,by omega,rfl,h⟩
 ·rintro⟨x,h1,h2,rfl,h⟩
  refine⟨⟨(x - r.1.1).toNat,List.mem_range.2 (by unfold rowsN;omega),?_⟩,h⟩
  rw[show r.1.1+((0+(x - r.1.1).toNat:Nat):Int)=x by omega]
theorem zaw{r:Rg}{p:Pt}:p ∈ endsL r ↔ ∃ t ∈ rowsL r,p=(t.1,t.2.1) ∨ p=(t.1,t.2.2):=by
 unfold endsL endsOf
 rw[List.mem_flatMap]
 constructor
 ·rintro⟨t,ht,hp⟩
  refine⟨t,ht,?_⟩
  unfold ends1 at hp
  split at hp
  ·exact .inl (List.mem_singleton.1 hp)
  ·rcases List.mem_cons.1 hp with rfl|hp
   ·exact .inl rfl
   ·exact .inr (List.mem_singleton.1 hp)
 ·rintro⟨t,ht,hp⟩
  refine⟨t,ht,?_⟩
  unfold ends1
  by_cases h:t.2.1=t.2.2
  ·rw[if_pos h]
   rcases hp with rfl|rfl
   ·exact List.mem_singleton.2 rfl
   ·exact List.mem_singleton.2 (by rw[h])
  ·rw[if_neg h]
   rcases hp with rfl|rfl
   ·exact List.mem_cons_self
   ·exact List.mem_cons_of_mem _ (List.mem_singleton.2 rfl)
theorem zol{r:Rg}{p:Pt}(h:p ∈ endsL r):inR r p:=by
 obtain⟨t,ht,hp⟩:=zaw.1 h
 obtain⟨x,h1,h2,rfl,h3⟩:=zf5.1 ht
 unfold rowOf iMax iMin at *
 unfold inR
 dsimp only at *
 rcases hp with rfl|rfl
 ·dsimp only;omega
 ·dsimp only;omega
theorem zdg{r:Rg}{p:Pt}(h:inR r p):∃ lo hi,(p.1,lo) ∈ endsL r /\ (p.1,hi) ∈ endsL r /\ lo<=p.2 /\ p.2<=hi:=by
 have hb:(rowOf r p.1).2.1<=p.2 /\ p.2<=(rowOf r p.1).2.2:=by
  unfold rowOf iMax iMin
  unfold inR at h
  dsimp only
  omega
 have ht:rowOf r p.1 ∈ rowsL r:=zf5.2 ⟨p.1,h.1.1,h.1.2,rfl,by omega⟩
 exact⟨_,_,zaw.2 ⟨_,ht,.inl rfl⟩,zaw.2 ⟨_,ht,.inr rfl⟩,hb.1,hb.2⟩
theorem zgu{l:List Pt}{r:Rg}(hl:l ≠ [])(h:hullO none l=some r):tightO r=some r:=by
 obtain⟨r',h1,h2,h3⟩:=zdf hl
 rw[h] at h1
 obtain rfl:=Option.some.inj h1
 have hne:endsL r ≠ []:=by
  cases l with
  | nil=>exact absurd rfl hl
  | cons p l =>
   obtain⟨lo,hi,h4,_⟩:=zdg (h2 p List.mem_cons_self)
   intro h5
   rw[h5] at h4;cases h4
 obtain⟨t,h4,h5,h6⟩:=zdf hne
 have s1:subR t r:=h6 r (fun p hp=>zol hp)
 have s2:subR r t:=h3 t (fun p hp=>by
  obtain⟨lo,hi,h7,h8,h9,h10⟩:=zdg (h2 p hp)
  have h7:=h5 _ h7
  have h8:=h5 _ h8
  unfold inR at *
  dsimp only at *
  omega)
 unfold tightO
 rw[h4,zm2 s1 s2]
