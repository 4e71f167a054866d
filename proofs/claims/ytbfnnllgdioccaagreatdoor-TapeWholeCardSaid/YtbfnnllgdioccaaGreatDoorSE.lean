/-
 Part of the proof of TapeWhole. No condition beyond those in each theorem.
-/
import Derived.Test.YtbfnnllgdioccaaGreatDoorSD
import Derived.Test.YtbfnnllgdioccaaGreatDoorSA
import Derived.Test.YtbfnnllgdioccaaGreatDoorSB
section
open Go PvL Go.Proofs
set_option linter.unusedSimpArgs false
set_option linter.unusedVariables false
namespace Go.Proofs.YtbfnnllgdioccaaGreatDoor.C
theorem ze5{s:ByteArray}:∀(j p n u:Nat) {c q:Nat},n < u->codeS s j p n u=some (c,q)->c < u*128 ^ j
 | 0,p,n,u,c,q,hn,h=>by cases h
 | j+1,p,n,u,c,q,hn,h=>by
  unfold codeS at h
  split at h
  ·cases h
  ·rename_i b p' hb
   have h1:b % 128*u<=127*u:=Nat.mul_le_mul_right _ (by omega)
   split at h
   ·split at h
    ·cases h
     have:u*128<=u*128 ^ (j+1):=Nat.mul_le_mul_left _ (by rw[Nat.pow_succ];exact Nat.le_mul_of_pos_left _ (Nat.pow_pos (by omega)))
     omega
    ·cases h
   ·have:=ze5 j p' _ _ (show n+b % 128*u < u*128 by omega) h
    rwa [Nat.mul_assoc,<- Nat.pow_succ'] at this
theorem zjm{s:ByteArray}{p c q:Nat}(h:codeB s p=some (c,q)):c < 2097152:=by
 have:=ze5 3 p 0 1 (by omega) h
 simpa using this
def nxS(last:Int)(c:Nat):Int:=if c % 2=0 then last+((c / 2:Nat) - 1) else last - (c / 2:Nat)
def smpB(s:ByteArray):Nat->Nat->Int->List Int->Option (List Int × Nat)
 | 0,p,_,acc=>some (acc,p)
 | k+1,p,last,acc=>match codeB s p with
  | none=>none
  | some (c,q)=>if c=0 then smpB s k q last (acc ++ [40000]) else if c=1 then smpB s k q last (acc ++ [40001]) else if knB (nxS last c) then smpB s k q (nxS last c) (acc ++ [nxS last c]) else none
def SmQ(a:Nat)(s:ByteArray)(r:Option (List Int × Nat))(M:Mem)(w:LV)(M':Mem):Prop:=∃ l q,r=some (l,q) /\ Vec M.next 1 3 intc M' w l /\ Keep (fun i=>i=a) M M' /\ At M' a (rdr s q)
set_option maxHeartbeats 4000000 in
theorem zfd{a:Nat}{s:ByteArray}{p:Nat}{M:Mem}{n:Nat}(ha:At M a (rdr s p))(hs:s.size<=1000000000000000)(hn:n<=1000000) :
  CallB Tryz.prog 149 [.ptr (some (a,0)),I n] M (SmQ a s (smpB s n p 0 []) M) (RdN a s (smpB s n p 0 []) M):=by
 refine z2n k149 rfl ?_
 dsimp only[x149,zM,zO,zI,zF,zS,zB,zL,zE,zN,zW,zC,zipE,Nat.reduceAdd]
 have haM:a < M.next:=ha.2
 repeat' first|with_reducible intro _|refine svb ?_|(refine sc ?_ ?_<;>(intro h;try exact sz h))|(refine sgb ?_ ?_<;>(intro h;first|exact sz h|refine sy h ?_))|exact sq|fail
 refine z9 (fun z E ms M1=>∃(i q:Nat) (acc:List Int) (last:Int) (v:LV),z=n - i /\ i<=n /\ ms=[] /\ Has E [(0,.ptr (some (a,0))),(5,v),(6,I last),(8,I n),(9,I i)] /\ acc.length=i /\ (-32767<=last /\ last<=32767) /\
   smpB s n p 0 []=smpB s (n - i) q last acc /\ Vec M.next 1 3 intc M1 v acc /\ Keep (fun i=>i=a) M M1 /\ M.next<=M1.next /\ At M1 a (rdr s q))
  ?_ n _ _ _ ⟨0,p,[],0,_,by omega,by omega,rfl,.cons rfl (.cons rfl (.cons rfl (.cons rfl (.cons rfl .nil)))),rfl,by omega,rfl,Vec.nil,Keep.refl _ _,Nat.le_refl _,ha⟩
 rintro z E ms M1 ⟨i,q,acc,last,v,rfl,hi,rfl,hE,hacc,hl,hc,hv,hk,hle,ha1⟩
 refine z0d hE ?_
 by_cases hlast:i=n
 ·subst hlast
  rw[Nat.sub_self] at hc
  repeat' first|with_reducible intro _|refine svb ?_|(refine sc ?_ ?_<;>(intro h;try exact sz h))|(refine sgb ?_ ?_<;>(intro h;first|exact sz h|refine sy h ?_))|exact sq|fail
  refine kf ?_
  exact⟨acc,q,hc,hv,hk,ha1⟩
 have hlt:i < n:=by omega
 obtain⟨k,hkn⟩:∃ k,n - i=k+1:=⟨n - i - 1,by omega⟩
 rw[hkn,show smpB s (k+1) q last acc=(match codeB s q with
  | none=>none
  | some (c,q)=>if c=0 then smpB s k q last (acc ++ [40000]) else if c=1 then smpB s k q last (acc ++ [40001]) else if knB (nxS last c) then smpB s k q (nxS last c) (acc ++ [nxS last c]) else none) from rfl] at hc
 have hkk:n - (i+1)=k:=by omega
 repeat' first|with_reducible intro _|refine svb ?_|(refine sc ?_ ?_<;>(intro h;try exact sz h))|(refine sgb ?_ ?_<;>(intro h;first|exact sz h|refine sy h ?_))|exact sq|fail
 refine x_rd gd rfl rfl (zmn ha1 hs) ?_ ?_
 ·intro g1 M2 g2 g3 q2 g4
  refine⟨?_,rfl,hk.trans g2 (fun i hi=>.inl hi),q2,g4⟩
  rw[hc,g1]
 intro c q2 g1 M2 g2 g3 g4
 have hcl:=zjm g1
 rw[g1] at hc
 simp only at hc
 have hk2:Keep (fun i=>i=a) M M2:=hk.trans g2 (fun i hi=>.inl hi)
 have hv2:Vec M.next 1 3 intc M2 v acc:=hv.keep g2 (fun i hi=>by subst hi;exact haM)
 have hle2:M.next<=M2.next:=by omega
 clear hk g2 ha1 ha hv
 have hn1:∀ {x:Int},knB x=true->-32767<=x /\ x<=32767:=fun h=>by unfold knB at h;exact of_decide_eq_true h
 repeat' first|with_reducible intro _|refine svb ?_|(refine sc ?_ ?_<;>(intro h;try exact sz h))|((with_reducible first|apply z0r|apply zbe);exact gd;exact rfl;exact rfl;(first|exact z7d _ _))|((with_reducible first|apply x_mu|apply b_mu);exact gd;exact rfl;exact rfl;(first|exact z93 _ _);infer_instance)|(refine sgb ?_ ?_<;>(intro h;first|exact sz h|refine sy h ?_))|exact sq|fail
 ·rename_i m M3 hnw e1 e2
  have hv3:=hv2.grow hnw.grow
  refine z39 (by exact gd) (l':=[40000]) hv3 rfl rfl rfl (by simp) (by rw[hacc,List.length_singleton];omega) rfl (z45 hnw) (fun _=>rfl) (fun _=>rfl) (by omega) ?_
  intro v' M4 hv4 e4 hk4
  repeat' first|with_reducible intro _|refine svb ?_|(refine sc ?_ ?_<;>(intro h;try exact sz h))|(refine sgb ?_ ?_<;>(intro h;first|exact sz h|refine sy h ?_))|exact sq|fail
  refine zj (n - (i+1)) (by omega) ⟨i+1,q2,acc ++ [40000],last,v',rfl,by omega,rfl,.cons rfl (.cons rfl (.cons rfl (.cons rfl (.cons rfl .nil)))),by simp[hacc],hl,?_,hv4,(hk2.new hnw).trans hk4 (fun i hi=>.inr hi.1),by omega,hk4.at (g4.grow hnw.grow) (fun hi=>by have:=hi.1;omega)⟩
  rw[hkk,hc,if_pos (by omega)]
 ·rename_i m M3 hnw e1 e2
  have hv3:=hv2.grow hnw.grow
  refine z39 (by exact gd) (l':=[40001]) hv3 rfl rfl rfl (by simp) (by rw[hacc,List.length_singleton];omega) rfl (z45 hnw) (fun _=>rfl) (fun _=>rfl) (by omega) ?_
  intro v' M4 hv4 e4 hk4
  repeat' first|with_reducible intro _|refine svb ?_|(refine sc ?_ ?_<;>(intro h;try exact sz h))|(refine sgb ?_ ?_<;>(intro h;first|exact sz h|refine sy h ?_))|exact sq|fail
  refine zj (n - (i+1)) (by omega) ⟨i+1,q2,acc ++ [40001],last,v',rfl,by omega,rfl,.cons rfl (.cons rfl (.cons rfl (.cons rfl (.cons rfl .nil)))),by simp[hacc],hl,?_,hv4,(hk2.new hnw).trans hk4 (fun i hi=>.inr hi.1),by omega,hk4.at (g4.grow hnw.grow) (fun hi=>by have:=hi.1;omega)⟩
  rw[hkk,hc,if_neg (by omega),if_pos (by omega)]
 ·rename_i hF
  have hx:nxS last c=last+(((c:Nat):Int) / 2 - 1):=by unfold nxS;rw[if_pos (by omega)];omega
  refine⟨?_,rfl,hk2,q2,g4⟩
  rw[hc,if_neg (by omega),if_neg (by omega),hx,if_neg (by rw[hF];decide)]
 ·rename_i hkn2 m M3 hnw e1 e2
  have hx:nxS last c=last+(((c:Nat):Int) / 2 - 1):=by unfold nxS;rw[if_pos (by omega)];omega
  have hv3:=hv2.grow hnw.grow
  refine z39 (by exact gd) (l':=[last+(((c:Nat):Int) / 2 - 1)]) hv3 rfl rfl rfl (by simp) (by rw[hacc,List.length_singleton];omega) rfl (z45 hnw) (fun _=>rfl) (fun _=>rfl) (by omega) ?_
  intro v' M4 hv4 e4 hk4
  repeat' first|with_reducible intro _|refine svb ?_|(refine sc ?_ ?_<;>(intro h;try exact sz h))|(refine sgb ?_ ?_<;>(intro h;first|exact sz h|refine sy h ?_))|exact sq|fail
  refine zj (n - (i+1)) (by omega) ⟨i+1,q2,acc ++ [last+(((c:Nat):Int) / 2 - 1)],last+(((c:Nat):Int) / 2 - 1),v',rfl,by omega,rfl,.cons rfl (.cons rfl (.cons rfl (.cons rfl (.cons rfl .nil)))),by simp[hacc],hn1 hkn2,?_,hv4,(hk2.new hnw).trans hk4 (fun i hi=>.inr hi.1),by omega,hk4.at (g4.grow hnw.grow) (fun hi=>by have:=hi.1;omega)⟩
  rw[hkk,hc,if_neg (by omega),if_neg (by omega),hx,if_pos hkn2]
 ·rename_i hF
  have hx:nxS last c=last - ((c:Nat):Int) / 2:=by unfold nxS;rw[if_neg (by omega)];omega
  refine⟨?_,rfl,hk2,q2,g4⟩
  rw[hc,if_neg (by omega),if_neg (by omega),hx,if_neg (by rw[hF];decide)]
 ·rename_i hkn2 m M3 hnw e1 e2
  have hx:nxS last c=last - ((c:Nat):Int) / 2:=by unfold nxS;rw[if_neg (by omega)];omega
  have hv3:=hv2.grow hnw.grow
  refine z39 (by exact gd) (l':=[last - ((c:Nat):Int) / 2]) hv3 rfl rfl rfl (by simp) (by rw[hacc,List.length_singleton];omega) rfl (z45 hnw) (fun _=>rfl) (fun _=>rfl) (by omega) ?_
  intro v' M4 hv4 e4 hk4
  repeat' first|with_reducible intro _|refine svb ?_|(refine sc ?_ ?_<;>(intro h;try exact sz h))|(refine sgb ?_ ?_<;>(intro h;first|exact sz h|refine sy h ?_))|exact sq|fail
  refine zj (n - (i+1)) (by omega) ⟨i+1,q2,acc ++ [last - ((c:Nat):Int) / 2],last - ((c:Nat):Int) / 2,v',rfl,by omega,rfl,.cons rfl (.cons rfl (.cons rfl (.cons rfl (.cons rfl .nil)))),by simp[hacc],hn1 hkn2,?_,hv4,(hk2.new hnw).trans hk4 (fun i hi=>.inr hi.1),by omega,hk4.at (g4.grow hnw.grow) (fun hi=>by have:=hi.1;omega)⟩
  rw[hkk,hc,if_neg (by omega),if_neg (by omega),hx,if_pos hkn2]
abbrev encU(_:Unit):LV:=.tup []
def crcX(s:ByteArray)(f p:Nat):Int:=crcK (s.extract f p) (s.extract f p).size
def chkB(s:ByteArray)(f p:Nat):Option (Unit × Nat):=match twoB s p with
 | none=>none
 | some (n,q)=>if (n:Int)=crcX s f p then some ((),q) else none
theorem zo9{E:Env}{M:Mem}{x lo hi:XO}{s:ByteArray}{f p:Nat}(hx:xval E x=some (.str s))(hlo:xval E lo=some (I f))(hhi:xval E hi=some (I p))(h1:f<=p)(h2:p<=s.size):ze Tryz.prog (.slS x (some lo) (some hi) none) E M=some (.val (.str (s.extract f p)) M):=by
 show ob (xval E x) _=_
 rw[hx,z0]
 have e1:xvalo E (some lo)=some (some (I f)):=by show ob (xval E lo) _=_;rw[hlo];rfl
 have e2:xvalo E (some hi)=some (some (I p)):=by show ob (xval E hi) _=_;rw[hhi];rfl
 rw[e1,z0,e2,z0]
 show guard' true (guard' (Nat.ble p s.size) (guard' (Nat.ble f p) (some (R1.val (LV.str (s.extract f p)) M))))=_
 rw[Nat.ble_eq_true_of_le h2,Nat.ble_eq_true_of_le h1];rfl
theorem zop{a:Nat}{s:ByteArray}{f p:Nat}{M:Mem}(ha:At M a (rdr s p))(hs:s.size<=140737488355328)(hfp:f<=p)(hp:p<=s.size) :
  CallB Tryz.prog 122 [.ptr (some (a,0)),I f] M (RdQ encU a s (chkB s f p) M) (RdN a s (chkB s f p) M):=by
 refine z2n k122 rfl ?_
 dsimp only[x122,zM,zO,zI,zF,zS,zB,zL,zA,zE,zN,zW,zC,zipE,Nat.reduceAdd]
 have hx:(s.extract f p).size<=140737488355328:=by rw[ByteArray.size_extract];omega
 repeat' first|with_reducible intro _|refine svb ?_|(refine sc ?_ ?_<;>(intro h;try exact sz h))|((with_reducible first|apply z0r|apply zbe);exact gd;exact rfl;exact rfl;(first|exact zmk _ hx _))|(refine sgb ?_ ?_<;>(intro h;first|exact sz h|refine sy h ?_))|exact sq|fail
 refine zoi gd (zo9 (f:=f) (p:=p) rfl rfl rfl hfp hp) ?_
 repeat' first|with_reducible intro _|refine svb ?_|(refine sc ?_ ?_<;>(intro h;try exact sz h))|((with_reducible first|apply z0r|apply zbe);exact gd;exact rfl;exact rfl;(first|exact zmk _ hx _))|(refine sgb ?_ ?_<;>(intro h;first|exact sz h|refine sy h ?_))|exact sq|fail
 refine x_rd gd rfl rfl (zgs ha (by omega)) ?_ ?_
 ·intro g1 M2 g2 g3 q2 g4
  refine⟨?_,rfl,g2,q2,g4⟩
  unfold chkB;rw[g1]
 intro n q2 g1 M2 g2 g3 g4
 have hb:=z7i (s.extract f p) (s.extract f p).size
 repeat' first|with_reducible intro _|refine svb ?_|(refine sc ?_ ?_<;>(intro h;try exact sz h))|((with_reducible first|apply x_mu|apply b_mu);exact gd;exact rfl;exact rfl;(first|exact z93 _ _);infer_instance)|(refine sgb ?_ ?_<;>(intro h;first|exact sz h|refine sy h ?_))|exact sq|fail
 ·rename_i hF
  refine⟨?_,rfl,g2,q2,g4⟩
  unfold chkB;rw[g1];exact if_neg hF
 ·rename_i hT
  refine kf ?_
  exact⟨(),q2,by unfold chkB;rw[g1];exact if_pos hT,rfl,g2,g4⟩
def FrD(s:ByteArray)(p:Nat):Option (Fr × Nat):=match twoB s p with
 | none=>none
 | some (m,p1)=>match twoB s p1 with
  | none=>none
  | some (sh,p2)=>match oneB s p2 with
   | none=>none
   | some (ch,p3)=>match oneB s p3 with
    | none=>none
    | some (n,p4)=>if m=42330 /\ 1<=n /\ n<=64 then(match smpB s n p4 0 [] with
     | none=>none
     | some (l,p5)=>if frB ((sh:Int),(ch:Int),l) then(match chkB s p p5 with
      | none=>none
      | some (_,p6)=>some (((sh:Int),(ch:Int),l),p6)) else none) else none
def FrQ(a:Nat)(s:ByteArray)(r:Option (Fr × Nat))(M:Mem)(w:LV)(M':Mem):Prop:=∃ x q,r=some (x,q) /\ (∃ v,w=.agg [I x.1,I x.2.1,v] /\ Vec M.next 1 3 intc M' v x.2.2) /\ Keep (fun i=>i=a) M M' /\ At M' a (rdr s q)
theorem z50{s:ByteArray}{p b q:Nat}(h:oneB s p=some (b,q)):p < q /\ q<=s.size:=by
 obtain⟨h1,_,h2⟩:=z8d h
 omega
theorem z6h{s:ByteArray}{p b q:Nat}(h:twoB s p=some (b,q)):p < q /\ q<=s.size /\ b < 65536:=by
 unfold twoB at h
 split at h
 ·cases h
 ·rename_i c p1 h1
  split at h
  ·cases h
  ·rename_i d p2 h2
   cases h
   have:=z50 h1
   have:=z50 h2
   have:=z2w h1
   have:=z2w h2
   omega
theorem ze4{s:ByteArray}:∀(j p n u:Nat) {c q:Nat},codeS s j p n u=some (c,q)->p < q /\ q<=s.size
 | 0,p,n,u,c,q,h=>by cases h
 | j+1,p,n,u,c,q,h=>by
  unfold codeS at h
  split at h
  ·cases h
  ·rename_i b p' hb
   have h1:=z50 hb
   split at h
   ·split at h
    ·cases h;exact h1
    ·cases h
   ·have:=ze4 j p' _ _ h
    omega
theorem z8n{s:ByteArray}:∀(n p:Nat) (last:Int) (acc:List Int) {l:List Int} {q:Nat},p<=s.size->smpB s n p last acc=some (l,q)->p<=q /\ q<=s.size /\ l.length=acc.length+n
 | 0,p,last,acc,l,q,hp,h=>by cases h;exact⟨Nat.le_refl _,hp,rfl⟩
 | n+1,p,last,acc,l,q,hp,h=>by
  unfold smpB at h
  split at h
  ·cases h
  ·rename_i c p' hc
   have h1:=ze4 _ _ _ _ hc
   split at h
   ·have:=z8n n p' _ _ h1.2 h
    rw[List.length_append] at this;simp at this;omega
   ·split at h
    ·have:=z8n n p' _ _ h1.2 h
     rw[List.length_append] at this;simp at this;omega
    ·split at h
     ·have:=z8n n p' _ _ h1.2 h
      rw[List.length_append] at this;simp at this;omega
     ·cases h
theorem Vec.low{α:Type}{b b' sz:Nat}{ty:TypeId}{enc:α->List LV}{M:Mem}{v:LV}{l:List α}(h:Vec b sz ty enc M v l)(hb:b'<=b):Vec b' sz ty enc M v l:=h.imp id fun⟨i,h1,h2,h3⟩=>⟨i,h1,h2,Nat.le_trans hb h3⟩
theorem Keep.wide{F:Nat->Prop}{M M':Mem}{n:Nat}(h:Keep F M M')(hn:M'.next<=n):Keep F M ⟨n,M'.tr⟩:=⟨Nat.le_trans h.le hn,fun i hi hf=>h.old i hi hf⟩
theorem At.wide{M:Mem}{n i:Nat}{lb:LB}(h:At M i lb)(hn:M.next<=n):At ⟨n,M.tr⟩ i lb:=⟨h.1,Nat.lt_of_lt_of_le h.2 hn⟩
theorem z75{s:ByteArray}:∀(n p:Nat) (last:Int) (acc:List Int) {l:List Int} {q:Nat},(∀ x ∈ acc,smB x=true)->smpB s n p last acc=some (l,q)->∀ x ∈ l,smB x=true
 | 0,p,last,acc,l,q,ha,h=>by cases h;exact ha
 | n+1,p,last,acc,l,q,ha,h=>by
  have hx:∀ y,smB y=true->∀ x ∈ acc ++ [y],smB x=true:=fun y hy x hx=>by
   rcases List.mem_append.1 hx with hx|hx
   ·exact ha x hx
   ·rw[List.mem_singleton.1 hx];exact hy
  unfold smpB at h
  split at h
  ·cases h
  ·split at h
   ·exact z75 n _ _ _ (hx _ rfl) h
   ·split at h
    ·exact z75 n _ _ _ (hx _ rfl) h
    ·split at h
     ·rename_i hk
      exact z75 n _ _ _ (hx _ (by unfold smB;rw[hk];rfl)) h
     ·cases h
theorem znm{x:Int}(h:smB x=true):I64 x:=by
 unfold smB knB at h
 simp only[Bool.or_eq_true,decide_eq_true_eq] at h
 unfold I64
 omega
set_option maxHeartbeats 8000000 in
theorem zje{a:Nat}{s:ByteArray}{p:Nat}{M:Mem}(ha:At M a (rdr s p))(hs:s.size<=140737488355328)(hp:p<=s.size) :
  CallB Tryz.prog 123 [.ptr (some (a,0))] M (FrQ a s (FrD s p) M) (RdN a s (FrD s p) M):=by
 refine z2n k123 rfl ?_
 dsimp only[x123,zM,zO,zI,zF,zS,zB,zL,zA,zE,zN,zW,zC,zipE,Nat.reduceAdd]
 have haM:a < M.next:=ha.2
 repeat' first|with_reducible intro _|refine svb ?_|refine su ?_|(refine sc ?_ ?_<;>(intro h;try exact sz h))|(refine sgb ?_ ?_<;>(intro h;first|exact sz h|refine sy h ?_))|exact sq|fail
 refine x_rd gd rfl rfl (zgs (p:=p) (xm) (by omega)) ?_ ?_
 ·intro g1 M2 g2 g3 q2 g4
  refine⟨?_,rfl,xk,q2,g4⟩
  unfold FrD;rw[g1]
 intro m p1 r1 N1 k1 l1 a1
 repeat' first|with_reducible intro _|refine svb ?_|refine su ?_|(refine sc ?_ ?_<;>(intro h;try exact sz h))|(refine sgb ?_ ?_<;>(intro h;first|exact sz h|refine sy h ?_))|exact sq|fail
 refine x_rd gd rfl rfl (zgs (p:=p1) (xm) (by omega)) ?_ ?_
 ·intro g1 M2 g2 g3 q2 g4
  refine⟨?_,rfl,xk,q2,g4⟩
  unfold FrD;rw[r1];simp only;rw[g1]
 intro sh p2 r2 N2 k2 l2 a2
 repeat' first|with_reducible intro _|refine svb ?_|refine su ?_|(refine sc ?_ ?_<;>(intro h;try exact sz h))|(refine sgb ?_ ?_<;>(intro h;first|exact sz h|refine sy h ?_))|exact sq|fail
 refine x_rd gd rfl rfl (zgq (p:=p2) (xm) (by omega)) ?_ ?_
 ·intro g1 M2 g2 g3 q2 g4
  refine⟨?_,rfl,xk,q2,g4⟩
  unfold FrD;rw[r1];simp only;rw[r2];simp only;rw[g1]
 intro ch p3 r3 N3 k3 l3 a3
 repeat' first|with_reducible intro _|refine svb ?_|refine su ?_|(refine sc ?_ ?_<;>(intro h;try exact sz h))|(refine sgb ?_ ?_<;>(intro h;first|exact sz h|refine sy h ?_))|exact sq|fail
 refine x_rd gd rfl rfl (zgq (p:=p3) (xm) (by omega)) ?_ ?_
 ·intro g1 M2 g2 g3 q2 g4
  refine⟨?_,rfl,xk,q2,g4⟩
  unfold FrD;rw[r1];simp only;rw[r2];simp only;rw[r3];simp only;rw[g1]
 intro n p4 r4 N4 k4 l4 a4
 repeat' first|with_reducible intro _|refine svb ?_|refine su ?_|(refine sc ?_ ?_<;>(intro h;try exact sz h))|((with_reducible first|apply z0r|apply zbe);exact gd;exact rfl;exact rfl;(first|exact zac _ _ _ _))|((with_reducible first|apply x_mu|apply b_mu);exact gd;exact rfl;exact rfl;(first|exact z93 _ _);infer_instance)|(refine sgb ?_ ?_<;>(intro h;first|exact sz h|refine sy h ?_))|exact sq|fail
 ·rename_i B
  refine⟨?_,rfl,xk,p4,xm⟩
  unfold FrD;rw[r1];simp only;rw[r2];simp only;rw[r3];simp only;rw[r4];simp only
  rw[if_neg fun h=>?_]
  unfold btB at B
  have:=of_decide_eq_false B
  omega
 ·rename_i n1 M5 A17 A16 A15 n2 M4 A14 A13 A12 q4 M3 A11 A10 A9 q3 M2 A8 A7 A6 q2 M1 A5 A4 A3 q1 M0 A2 A1 A0 q0 B
  have hbt:1<=n /\ n<=64:=by unfold btB at B;have:=of_decide_eq_true B;omega
  have hR:At M0 a (rdr s p4):=xm
  have hc1:At M0 n1 (.cells true [I 0,I 0,.slice none 0 true 0] 48):=xm
  have hK:Keep (fun i=>i=a) M M0:=xk
  have hm:M.next<=M0.next:=hK.le
  have hn1:M.next<=n1:=by omega
  have hn2:n1 < n2:=by omega
  have hF:FrD s p=(match smpB s n p4 0 [] with
     | none=>none
     | some (l,p5)=>if frB ((sh:Int),(ch:Int),l) then(match chkB s p p5 with
      | none=>none
      | some (_,p6)=>some (((sh:Int),(ch:Int),l),p6)) else none):=by
   unfold FrD;rw[r1];simp only;rw[r2];simp only;rw[r3];simp only;rw[r4];simp only
   rw[if_pos ⟨by omega,hbt⟩]
  clear A17 A16 A15 A14 A13 A12 q4 A11 A10 A9 q3 A8 A7 A6 q2 A5 A4 A3 q1 A2 A1 q0 k1 k2 k3 k4 l1 l2 l3 l4 a1 a2 a3 a4 ha
  refine zl2 gd rfl rfl (zfd hR (by omega) (by omega)) ?_ ?_
  ·rintro v M' ⟨e1,rfl,e3,pp,e4⟩
   have hg:Grow M0 ⟨M'.next,M0.tr⟩:=⟨e3.le,fun _ _=>rfl⟩
   repeat' first|with_reducible intro _|refine svb ?_|(refine sc ?_ ?_<;>(intro h;try exact sz h))|(refine sgb ?_ ?_<;>(intro h;first|exact sz h|refine sy h ?_))|exact sq|fail
   rename_i m5 M6 hnw x1 x2
   have hle:M'.next<=M6.next:=by rw[x2];exact Nat.le_succ _
   exact⟨by rw[hF,e1],rfl,Keep.wide (hK.trans e3 (fun i hi=>.inl hi)) hle,pp,At.wide e4 hle⟩
  ·rintro w M' ⟨l,p5,e1,hv,e3,e4⟩
   rw[e1] at hF
   simp only at hF
   have hm':M0.next<=M'.next:=e3.le
   obtain⟨aa,ff,ee,rfl,hsl⟩:=SlI.vec hv
   have hc2':=e3.at A0 (fun h=>by omega)
   have hc1':=e3.at hc1 (fun h=>by omega)
   have hK':Keep (fun i=>i=a) M M':=hK.trans e3 (fun i hi=>.inl hi)
   refine zq0 ?_
   repeat' first|with_reducible intro _|refine sv ?_|refine sc ?_ ?_<;>(intro h;try exact sz h)|refine sg ?_ ?_<;>(intro h;first|exact sz h|refine sy h ?_)|exact sq|fail
   rename_i n3 M6 B1 B2 B3 M7 B4 B5 B6
   have hn13:n1 < M'.next:=hc1'.2
   have hfr:FrV M7 (.agg [I sh,I ch,.slice aa l.length ff ee]) ((sh:Int),(ch:Int),l):=⟨aa,ff,ee,rfl,hsl.grow (xg)⟩
   have hb1:=z6h r1
   have hb2:=z6h r2
   have hb3:=z2w r3
   have hb4:=z50 r3
   have hb5:=z50 r4
   have hb6:=z8n n p4 0 [] hb5.2 e1
   have hin:FrIn ((sh:Int),(ch:Int),l):=⟨(show I64 (sh:Int) from by unfold I64;omega),(show I64 (ch:Int) from by unfold I64;omega),by have:=hb6.2.2;simp at this;show l.length<=_;omega,fun x hx=>znm (z75 n p4 0 [] (fun _ h=>by cases h) e1 x hx)⟩
   have hK7:Keep (fun i=>i=a) M M7:=xk
   have hR7:At M7 a (rdr s p5):=xm
   have hc17:At M7 n1 (.cells true [I 0,I 0,.slice none 0 true 0] 48):=xm
   have hlt1:n1 < M7.next:=by omega
   have hm7:M.next<=M7.next:=hK7.le
   have hv7:Vec M0.next 1 3 intc M7 (.slice aa l.length ff ee) l:=hv.grow (xg)
   have hn10:n1 < M0.next:=hc1.2
   have hn3a:a < n3:=by omega
   have hn3b:n1 < n3:=by omega
   have hn3c:n3 < M7.next:=B6.2
   clear B1 B2 B4 hc1' hc2' hK' hK hR hc1 A0 e3 e4 hv hsl
   repeat' first|with_reducible intro _|refine svb ?_|(refine sc ?_ ?_<;>(intro h;try exact sz h))|((with_reducible first|apply z1m|apply b_pure);exact gd;exact rfl;exact rfl;(first|exact z1l hfr hin))|((with_reducible first|apply x_mu|apply b_mu);exact gd;exact rfl;exact rfl;(first|exact z93 _ _);infer_instance)|(refine sgb ?_ ?_<;>(intro h;first|exact sz h|refine sy h ?_))|exact sq|fail
   ·rename_i M8 C1 C2 hF2
    refine⟨?_,rfl,xk,p5,xm⟩
    rw[hF,if_neg]
    intro hh
    unfold errF at hF2
    rw[if_pos hh] at hF2
    exact hF2 rfl
   rename_i M8 C1 C2 hT2
   have hfB:frB ((sh:Int),(ch:Int),l)=true:=by
    by_cases hh:frB ((sh:Int),(ch:Int),l)=true
    ·exact hh
    ·unfold errF at hT2
     rw[if_neg hh] at hT2
     exact absurd hT2 (by decide)
   rw[if_pos hfB] at hF
   refine x_rd gd rfl rfl (zop (f:=p) (p:=p5) (xm) hs (by omega) (by omega)) ?_ ?_
   ·intro g1 M2 g2 g3 q2 g4
    refine⟨?_,rfl,xk,q2,g4⟩
    rw[hF,g1]
   intro u p6 g1 M9 g2 g3 g4
   rw[g1] at hF
   have hc9:At M9 n1 (.cells true [I 0,I 0,.slice none 0 true 0] 48):=xm
   have hc39:At M9 n3 (.cells true [I sh,I ch,.slice aa l.length ff ee] 48):=xm
   have hv9:Vec M0.next 1 3 intc M9 (.slice aa l.length ff ee) l:=(hv7.grow C1).keep g2 (fun i hi=>by subst hi;omega)
   repeat' first|with_reducible intro _|refine svb ?_|(refine sc ?_ ?_<;>(intro h;try exact sz h))|(refine sgb ?_ ?_<;>(intro h;first|exact sz h|refine sy h ?_))|exact sq|fail
   rename_i M10 D1 D2 D3
   refine kf ?_
   have hv10:Vec M0.next 1 3 intc M10 (.slice aa l.length ff ee) l:=(hv9.keep ((Keep.refl (fun i=>i=n1) M9).upd D1 (.inl rfl)) (fun i hi=>by subst hi;exact hn10))
   exact⟨((sh:Int),(ch:Int),l),p6,hF,⟨_,rfl,Vec.low hv10 hm⟩,xk,xm⟩
 ·refine⟨?_,rfl,xk,p4,xm⟩
  unfold FrD;rw[r1];simp only;rw[r2];simp only;rw[r3];simp only;rw[r4];simp only
  rw[if_neg fun h=>by omega]
 ·exfalso;assumption
def rc1:XRec:=⟨15,4,some 1,.seq (
 .ops [
  ⟨(some 5),.mv (.t 1),none⟩,
  ⟨(some 6),.isn true (.t 5),none⟩]) (
 .cond (.t 6) (
  .seq (
  .seq (
  .ops [
   ⟨(some 8),.mv (.t 1),none⟩,
   ⟨(some 9),.asr 185 (.agg []) true (.t 8),none⟩,
   ⟨(some 7),.mv (.t 9),none⟩,
   ⟨(some 10),.ext 0 (.t 7),none⟩,
   ⟨(some 11),.ext 1 (.t 7),none⟩,
   ⟨(some 2),.new 185 [],none⟩,
   ⟨none,.st 0 (.t 2) (.t 10),none⟩,
   ⟨(some 3),.mv (.t 11),none⟩]) (
  .seq (
  .ops [
   ⟨(some 12),.mv (.t 3),none⟩,
   ⟨(some 13),.un .not (.t 12),none⟩]) (
  .cond (.t 13) (
   .ops [
    ⟨(some 14),.mv (.t 1),none⟩,
    ⟨none,.pan (.t 14),none⟩]) (
   .skip)))) (
  .ops [
   ⟨none,.st 1 (.t 0) (.c (.bool false)),none⟩])) (
  .skip))⟩
def rd1:XRead:=⟨6,[⟨(some 2),.new 4 [(.bool false)],none⟩],some 3,.mkf 119 [] [(.t 2)],none,.t 3,[],some 4,.mv (.t 0),some 5,.t 4,[],[⟨none,.st 1 (.t 2) (.c (.bool true)),none⟩],[.cell1 2]⟩
theorem kc1:cRec Tryz.prog 119=some rc1:=by kernel_rfl
theorem kd1:cRead Tryz.prog 71=some rd1:=by kernel_rfl
theorem zoz{n:Nat}{M:Mem}:DfrOk Tryz.prog 119 [.ptr (some (n,0))] .nilIface M (fun M'=>M'=M):=by
 refine zln kc1 rfl ?_
 dsimp only[rc1,zipE,Nat.reduceAdd]
 repeat' first|with_reducible intro _|refine sv ?_|refine sc ?_ ?_<;>(intro h;try exact sz h)|refine sg ?_ ?_<;>(intro h;first|exact sz h|refine sy h ?_)|exact sq|fail
 refine z3m gd (v:=.bool false) rfl ?_
 repeat' first|with_reducible intro _|refine sv ?_|refine sc ?_ ?_<;>(intro h;try exact sz h)|refine sg ?_ ?_<;>(intro h;first|exact sz h|refine sy h ?_)|exact sq|fail
 exact⟨fun i h=>(by cases h),rfl,rfl⟩
theorem zoy{n:Nat}{b:Bool}{M:Mem}(hn:At M n (.cells true [.bool b] 4)):DfrOk Tryz.prog 119 [.ptr (some (n,0))] bk M (fun M'=>Keep (fun i=>i=n) M M' /\ At M' n (.cells true [.bool false] 4)):=by
 refine zln kc1 rfl ?_
 dsimp only[rc1,zipE,Nat.reduceAdd]
 have hlt:n < M.next:=hn.2
 repeat' first|with_reducible intro _|refine sv ?_|refine sc ?_ ?_<;>(intro h;try exact sz h)|refine sg ?_ ?_<;>(intro h;first|exact sz h|refine sy h ?_)|exact sq|fail
 refine z3m gd (v:=.bool true) rfl ?_
 repeat' first|with_reducible intro _|refine sv ?_|refine sc ?_ ?_<;>(intro h;try exact sz h)|refine sg ?_ ?_<;>(intro h;first|exact sz h|refine sy h ?_)|exact sq|fail
 refine z3m gd (v:=.tup [.agg [],.bool true]) rfl ?_
 repeat' first|with_reducible intro _|refine sv ?_|refine sc ?_ ?_<;>(intro h;try exact sz h)|refine sg ?_ ?_<;>(intro h;first|exact sz h|refine sy h ?_)|exact sq|fail
 exact⟨fun i h=>(by cases h),rfl,xk,xm⟩
theorem zox{g:FuncId}{ca:List LV}{M:Mem}{F:Nat->Prop}{R R':Mem->Mem->Prop}(hF:∀ i,F i->i < M.next)
  (h:∀ M1,Grow M M1->CallB Tryz.prog g ca M1 (fun v M'=>Keep F M1 M' /\ R M1 M') (fun v M'=>v=bk /\ Keep F M1 M' /\ R' M1 M')) :
  za Tryz.prog 71 [.func (.func g) [] ca] M (fun w M'=>∃ M1 M2 n,Grow M M1 /\ M.next<=n /\ n < M1.next /\ Keep F M1 M2 /\ Keep (fun i=>i=n) M2 M' /\ ((w=.bool true /\ R M1 M2) ∨(w=.bool false /\ R' M1 M2))):=by
 refine znj kd1 rfl ?_
 dsimp only[rd1,zipE,Nat.reduceAdd]
 repeat' first|with_reducible intro _|refine sv ?_|refine sc ?_ ?_<;>(intro h;try exact sz h)|refine sg ?_ ?_<;>(intro h;first|exact sz h|refine sy h ?_)|exact sq|fail
 rename_i n M1 h1 h2 h3
 have hg:Grow M M1:=h1.grow
 have hA:At M1 n (.cells true [.bool false] 4):=xm
 refine⟨.func (.func 119) [] [.ptr (some (n,0))],.func (.func g) [] ca,119,[],[.ptr (some (n,0))],[],g,[],ca,[],rfl,rfl,rfl,rfl,rfl,rfl,?_⟩
 refine(h M1 hg).mono (fun v M2 ⟨k1,k2⟩=>?_) (fun v M2 ⟨k0,k1,k2⟩=>?_)
 ·have hA2:At M2 n (.cells true [.bool false] 4):=k1.at hA (fun hi=>by have:=hF n hi;omega)
  have hl:=k1.le
  dsimp only[putE]
  repeat' first|with_reducible intro _|refine sv ?_|refine sc ?_ ?_<;>(intro h;try exact sz h)|refine sg ?_ ?_<;>(intro h;first|exact sz h|refine sy h ?_)|exact sq|fail
  rename_i M3 e1 e2 e3
  obtain⟨M4,e4,rfl⟩:=zoz (n:=n) (M:=M3)
  refine⟨M4,e4,_,.cell1 rfl (Rd1.of_at e3 rfl).1 .nil,M1,M2,n,hg,by omega,by omega,k1,xk,.inl ⟨rfl,k2⟩⟩
 ·subst k0
  have hA2:At M2 n (.cells true [.bool false] 4):=k1.at hA (fun hi=>by have:=hF n hi;omega)
  obtain⟨M4,e4,e5,e6⟩:=zoy hA2
  refine⟨M4,e4,_,.cell1 rfl (Rd1.of_at e6 rfl).1 .nil,M1,M2,n,hg,by omega,by omega,k1,e5,.inr ⟨rfl,k2⟩⟩
theorem zjj{x fc a:Nat}{s:ByteArray}{p:Nat}{M:Mem}{z1 z2 z3:LV}(hx:At M x (.cells true [.ptr (some (a,0))] 117))(hf:At M fc (.cells true [z1,z2,z3] 48))(ha:At M a (rdr s p))(hne:fc ≠ a)(hs:s.size<=140737488355328)(hp:p<=s.size) :
  CallB Tryz.prog 127 [.ptr (some (x,0)),.ptr (some (fc,0))] M
   (fun _ M'=>Keep (fun i=>i=a ∨ i=fc) M M' /\ ∃ fr q sl,FrD s p=some (fr,q) /\ At M' a (rdr s q) /\ At M' fc (.cells true [I fr.1,I fr.2.1,sl] 48) /\ Vec M.next 1 3 intc M' sl fr.2.2)
   (fun v M'=>v=bk /\ Keep (fun i=>i=a ∨ i=fc) M M' /\ FrD s p=none /\ ∃ q,At M' a (rdr s q)):=by
 refine z2n k127 rfl ?_
 dsimp only[x127,zM,zO,zI,zF,zS,zB,zL,zE,zN,zW,zC,zipE,Nat.reduceAdd]
 have hfl:fc < M.next:=hf.2
 repeat' first|with_reducible intro _|refine svb ?_|(refine sc ?_ ?_<;>(intro h;try exact sz h))|(refine sgb ?_ ?_<;>(intro h;first|exact sz h|refine sy h ?_))|exact sq|fail
 refine zny gd rfl rfl ((zje ha hs hp).mono (fun _ _ h=>h) (fun v M' ⟨e1,e2,e3,q,e4⟩=>?_)) ?_
 ·exact⟨e2,e3.weaken (fun i hi=>.inl hi),e1,q,e4⟩
 rintro w M1 ⟨fr,q,e1,⟨sl,rfl,hv⟩,e3,e4⟩
 have hf1:At M1 fc (.cells true [z1,z2,z3] 48):=e3.at hf hne
 have hk1:Keep (fun i=>i=a ∨ i=fc) M M1:=e3.weaken (fun i hi=>.inl hi)
 obtain⟨aa,ff,ee,rfl⟩:=hv.shape
 refine x_st gd rfl rfl hf1 rfl rfl rfl ?_
 intro M2 h1 h2 h3
 repeat' first|with_reducible intro _|refine svb ?_|(refine sc ?_ ?_<;>(intro h;try exact sz h))|(refine sgb ?_ ?_<;>(intro h;first|exact sz h|refine sy h ?_))|exact sq|fail
 refine kf ?_
 exact⟨hk1.upd h1 (.inl (.inr rfl)),fr,q,_,e1,At.upd_ne h1 hne.symm e4,h3,hv.keep ((Keep.refl (fun i=>i=fc) M1).upd h1 (.inl rfl)) (fun i hi=>by subst hi;exact hfl)⟩
abbrev Bd:=Int × Int
abbrev bdc(x:Bd):List LV:=[I x.1,I x.2]
def lostA(L:List Bd)(p:Nat):List Bd:=match L.getLast? with
 | some x=>if x.2=(p:Int) - 1 then L.dropLast ++ [(x.1,(p:Int))] else L ++ [((p:Int),(p:Int))]
 | none=>L ++ [((p:Int),(p:Int))]
def whB(s:ByteArray):Nat->Nat->List Fr->List Bd->List Fr × List Bd
 | 0,_,F,L=>(F,L)
 | k+1,p,F,L=>if p < s.size then(match FrD s p with
  | some (x,q)=>whB s k q (F ++ [x]) L
  | none=>whB s k (p+1) F (lostA L p)) else(F,L)
def whA(s:ByteArray):List Fr × List Bd:=whB s s.size 0 [] []
theorem Vec.ge{α:Type}{b sz:Nat}{ty:TypeId}{enc:α->List LV}{M:Mem}{v:LV}{l:List α}(h:Vec b sz ty enc M v l){i o n e:Nat}{f:Bool}(hv:v=.slice (some (i,o)) n f e):b<=i:=by
 rcases h with⟨_,rfl⟩|⟨j,rfl,_,h3⟩
 ·cases hv
 ·cases hv;exact h3
theorem Vec.blt{α:Type}{b sz:Nat}{ty:TypeId}{enc:α->List LV}{M:Mem}{v:LV}{l:List α}(h:Vec b sz ty enc M v l){i o n e:Nat}{f:Bool}(hv:v=.slice (some (i,o)) n f e):i < M.next:=by
 rcases h with⟨_,rfl⟩|⟨j,rfl,h2,_⟩
 ·cases hv
 ·cases hv;exact h2.2
section
variable {α:Type} {b sz:Nat} {ty:TypeId} {enc:α->List LV} {M:Mem} {v:LV} {l:List α}
theorem Vec.appx{P:Program}[Orc P]{E:Env}{s x:XO}{by':Nat}{z:List LV}{l':List α}{xv:LV}(h:Vec b sz ty enc M v l)(hs:xval E s=some v)(hx:xval E x=some xv)(hn:z15 xv=some l'.length)(h0:0 < l'.length)
  (hb:(2*(l.length+l'.length)+2048)*by'<=140737488355328) (hz:(Nat.ble 1 sz && (Nat.ble 1 by' && Nat.beq z.length sz))=true) (hw:z0e sz l'.length xv M=some (l'.flatMap enc))
  (henc:∀ x,(enc x).length=sz) (hfl:∀ x,zc (enc x)=true) (hbM:b<=M.next) :
  ∃ v' M',ze P (.app ty sz by' z s x) E M=some (.val v' M') /\ Vec b sz ty enc M' v' (l ++ l') /\ M'.next=M.next+1 /\ Keep (fun i=>b<=i /\ ∃ o n f e,v=.slice (some (i,o)) n f e) M M' /\ ∃ n f e,v'=.slice (some (M.next,0)) n f e:=by
 have hf:=z2c (l:=l') (enc:=enc) (fun x _=>hfl x)
 rcases h with⟨rfl,rfl⟩|⟨i,rfl,h2,h3⟩
 ·refine⟨_,_,z6k hs hx hn h0 (by simpa using hb) hz rfl hw hf (.inl rfl),.inr ⟨M.next,?_,?_,hbM⟩,rfl,?_,_,_,_,rfl⟩
  ·rw[List.nil_append,Nat.zero_add]
  ·rw[List.nil_append,List.nil_append];exact⟨by rw[Mem.get_push,if_pos rfl],Nat.lt_succ_self _⟩
  ·have hN:New M M.next (.cells true ([] ++ l'.flatMap enc) (apE ty)) (M.push (.cells true ([] ++ l'.flatMap enc) (apE ty))):=⟨rfl,rfl⟩
   exact hN.grow.to_keep _
 ·have ho:z0e sz l.length (.slice (some (i,0)) l.length false sz) M=some (l.flatMap enc):=by
   rw[z3w h2 (by rw[z1s (fun x _=>henc x)];omega),List.drop_zero,List.take_of_length_le (by rw[z1s (fun x _=>henc x)];omega)]
  have hK:Kill M i M.next (.cells true (l.flatMap enc ++ l'.flatMap enc) (apE ty)) ((M.upd i none).push (.cells true (l.flatMap enc ++ l'.flatMap enc) (apE ty))):=⟨rfl,rfl⟩
  refine⟨_,_,z55 hs hx hn h0 hb hz ho hw hf h2 (by rw[show Nat.beq (apE ty) (apE ty)=true by simp,Bool.or_true]),.inr ⟨M.next,by rw[List.length_append],?_,hbM⟩,hK.next,hK.keep.weaken fun j hj=>?_,_,_,_,rfl⟩
  ·rw[List.flatMap_append];exact hK.same
  ·subst hj;exact⟨h3,_,_,_,_,rfl⟩
theorem z2b{P:Program}[Orc P]{s0:Nat}{E:Env}{K:Env->Mem->Prop}{ll:List XG}{d:Nat}{g:Option (Nat × Bool)}{s x:XO}{by':Nat}{z:List LV}{l':List α}{xv:LV}{μ:Md}(hg:GOn E g)(hv:Vec b sz ty enc M v l)(hs:xval E s=some v)(hx:xval E x=some xv)(hn:z15 xv=some l'.length)(h0:0 < l'.length)(hb:(2*(l.length+l'.length)+2048)*by'<=140737488355328)(hz:(Nat.ble 1 sz && (Nat.ble 1 by' && Nat.beq z.length sz))=true)(hw:z0e sz l'.length xv M=some (l'.flatMap enc))
  (henc:∀ x,(enc x).length=sz) (hfl:∀ x,zc (enc x)=true) (hbM:b<=M.next) (hk:∀ v' M',Vec b sz ty enc M' v' (l ++ l')->M'.next=M.next+1->Keep (fun i=>b<=i /\ ∃ o n f e,v=.slice (some (i,o)) n f e) M M'->(∃ n f e,v'=.slice (some (M.next,0)) n f e)->XW μ P s0 ll ((d,v') :: E) M' K):XW μ P s0 (⟨some d,.app ty sz by' z s x,g⟩ :: ll) E M K:=by
 obtain⟨v',M',h1,h2,h3,h4,h5⟩:=Vec.appx (P:=P) hv hs hx hn h0 hb hz hw henc hfl hbM
 exact zl1 hg h1 (hk v' M' h2 h3 h4 h5)
end
theorem za7{m:Nat}{x:Bd}{M M':Mem}{ty:TypeId}(hn:New M m (.cells true [I x.1,I x.2] ty) M'):z0e 2 1 (.slice (some (m,0)) 1 true 2) M'=some ([x].flatMap bdc) :=
 z3v (enc:=bdc) (l:=[x]) (fun _ _=>rfl) (fun k' hk'=>z2x (enc:=bdc) (l:=[x]) (At.new_same hn) (fun _ _=>rfl) hk')
theorem zgc{s:ByteArray}{p:Nat}{x:Fr}{q:Nat}(hp:p<=s.size)(h:FrD s p=some (x,q)):frB x=true /\ p < q /\ q<=s.size:=by
 unfold FrD at h
 split at h
 ·cases h
 ·rename_i m p1 h1
  split at h
  ·cases h
  ·rename_i sh p2 h2
   split at h
   ·cases h
   ·rename_i ch p3 h3
    split at h
    ·cases h
    ·rename_i n p4 h4
     split at h
     ·split at h
      ·cases h
      ·rename_i l p5 h5
       split at h
       ·rename_i hf
        split at h
        ·cases h
        ·rename_i u p6 h6
         cases h
         have g1:=z6h h1
         have g2:=z6h h2
         have g3:=z50 h3
         have g4:=z50 h4
         have g5:=z8n _ _ _ _ g4.2 h5
         unfold chkB at h6
         split at h6
         ·cases h6
         ·rename_i c p7 h7
          have g6:=z6h h7
          split at h6
          ·cases h6
           exact⟨hf,by omega,by omega⟩
          ·cases h6
       ·cases h
     ·cases h
set_option maxHeartbeats 8000000 in
theorem zmr{r:Nat}{R:Rk}{s:ByteArray}{M:Mem}(hR:RkM M r R)(hB:RkB R)(hs:s.size<=1000000) :
  za Tryz.prog 77 [.map (some r),.str s] M (fun w M'=>RkM M' r ((whA s).1.foldl rkA R) /\ RkB ((whA s).1.foldl rkA R) /\ Vec M.next 2 65 bdc M' w (whA s).2 /\ Keep (fun i=>i=r) M M'):=by
 refine zd k77 rfl ?_
 dsimp only[x77,zM,zO,zI,zF,zS,zB,zL,zA,zE,zN,zW,zC,zipE,Nat.reduceAdd]
 have hrM:r < M.next:=hR.lt
 repeat' first|with_reducible intro _|refine sv ?_|refine sc ?_ ?_<;>(intro h;try exact sz h)|refine sg ?_ ?_<;>(intro h;first|exact sz h|refine sy h ?_)|exact sq|fail
 rename_i a M1 A1 A2 A3 x M2 A4 A5 A6 M3 A7 A8 A9
 have ha:At M3 a (rdr s 0):=by
  have:At M3 a (.cells true [.str s,I 0] 120):=xm
  exact this
 have hg3:Grow M M3:=xg
 have hax:a < x:=by omega
 have hxb:x < M3.next:=A9.2
 have har:r < a:=by omega
 have haM:M.next<=a:=by omega
 have hb3:M.next<=M3.next:=hg3.le
 have hR3:RkMb (fun i=>i=a ∨ ∃ o n f e,zsl=.slice (some (i,o)) n f e) M3 r (([]:List Fr).foldl rkA R):=(hR.b.ge (fun i hi=>by
  rcases hi with rfl|⟨o,n,f,e,h⟩
  ·exact .inr haM
  ·cases h)).grow hg3
 have hk3:Keep (fun i=>i=r) M M3:=hg3.to_keep _
 clear A1 A4 A7
 refine z9 (fun z E ms M'=>∃(p k:Nat) (F:List Fr) (L:List Bd) (v:LV),z=s.size - p /\ p<=s.size /\ s.size - p<=k /\ ms=[] /\ Has E [(0,.map (some r)),(1,.str s),(5,v),(6,.ptr (some (x,0)))] /\ At M' x (.cells true [.ptr (some (a,0))] 117) /\ At M' a (rdr s p) /\
   RkMb (fun i=>i=a ∨ ∃ o n f e,v=.slice (some (i,o)) n f e) M' r (F.foldl rkA R) /\ RkB (F.foldl rkA R) /\ Vec M3.next 2 65 bdc M' v L /\ L.length<=p /\ (∀ y ∈ L,-1000000<=y.2 /\ y.2<=1000000) /\ Keep (fun i=>i=r) M M' /\ whA s=whB s k p F L /\ M3.next<=M'.next)
  ?_ s.size _ _ _ ⟨0,s.size,[],[],_,rfl,Nat.zero_le _,by omega,rfl,.cons rfl (.cons rfl (.cons rfl (.cons rfl .nil))),A9,ha,hR3,hB,Vec.nil,Nat.le_refl _,(fun _ h=>nomatch h),hk3,rfl,Nat.le_refl _⟩
 rintro z E ms N ⟨p,k,F,L,v,rfl,hp,hk,rfl,hE,hx1,ha1,hR1,hB1,hv1,hL1,hLb,hk1,hw,hNb⟩
 refine z0d hE ?_
 by_cases hlast:p=s.size
 ·subst hlast
  have hw2:whA s=(F,L):=by
   rw[hw]
   cases k with
   | zero=>rfl
   | succ k=>unfold whB;rw[if_neg (by omega)]
  repeat' first|with_reducible intro _|refine sv ?_|refine sc ?_ ?_<;>(intro h;try exact sz h)|refine sg ?_ ?_<;>(intro h;first|exact sz h|refine sy h ?_)|exact sq|fail
  refine kf ?_
  rw[hw2]
  exact⟨hR1.rk,hB1,Vec.low hv1 hb3,hk1⟩
 have hlt:p < s.size:=by omega
 obtain⟨k,rfl⟩:∃ j,k=j+1:=⟨k - 1,by omega⟩
 rw[show whB s (k+1) p F L=(if p < s.size then(match FrD s p with
  | some (x,q)=>whB s k q (F ++ [x]) L
  | none=>whB s k (p+1) F (lostA L p)) else(F,L)) from rfl,if_pos hlt] at hw
 repeat' first|with_reducible intro _|refine sv ?_|refine sc ?_ ?_<;>(intro h;try exact sz h)|refine sg ?_ ?_<;>(intro h;first|exact sz h|refine sy h ?_)|exact sq|fail
 rename_i fc N1 B1 B2 B3
 have hf1:At N1 fc (.cells true [I 0,I 0,.slice none 0 true 0] 48):=xm
 have hx2:At N1 x (.cells true [.ptr (some (a,0))] 117):=xm
 have ha2:At N1 a (rdr s p):=xm
 refine zq gd rfl rfl (zox (g:=127) (ca:=[.ptr (some (x,0)),.ptr (some (fc,0))]) (M:=N1) (F:=fun i=>i=a ∨ i=fc)
  (R:=fun M1 M'=>∃ fr q sl,FrD s p=some (fr,q) /\ At M' a (rdr s q) /\ At M' fc (.cells true [I fr.1,I fr.2.1,sl] 48) /\ Vec M1.next 1 3 intc M' sl fr.2.2)
  (R':=fun M1 M'=>FrD s p=none /\ ∃ q,At M' a (rdr s q)) (fun i hi=>by rcases hi with rfl|rfl;exact ha2.2;exact hf1.2)
  (fun M1 hg=>zjj (hx2.grow hg) (hf1.grow hg) (ha2.grow hg) (by omega) (by omega) hp)) ?_
 rintro w N5 ⟨M1',M2',n,g1,g2,g3,k1,k2,hres⟩
 have g1l:=g1.le
 have kN5:Keep (fun i=>i=a) N N5:=((((Keep.refl _ N).new B1).grow g1).trans k1 (fun i hi=>by rcases hi with h|h;exact .inl h;exact .inr (by omega))).trans k2 (fun i hi=>.inr (by omega))
 have hNr:¬(r=a ∨ ∃ o n f e,v=.slice (some (r,o)) n f e):=by
  rintro(h|⟨o,n,f,e,h⟩)
  ·omega
  ·have:=Vec.ge hv1 h;omega
 have hR5:=hR1.keep kN5 (fun i hi=>.inl hi) hNr
 have hv5:Vec M3.next 2 65 bdc N5 v L:=hv1.keep kN5 (fun i hi=>by subst hi;omega)
 have hx5:=kN5.at hx1 (fun h=>by omega)
 have hk5:Keep (fun i=>i=r) M N5:=hk1.trans kN5 (fun i hi=>by subst hi;exact .inr haM)
 have hN5:=kN5.le
 rcases hres with⟨rfl,fr,q,sl,e1,e2,e3,e4⟩|⟨rfl,e1,q,e2⟩
 ·have ha5:At N5 a (rdr s q):=k2.at e2 (fun h=>by omega)
  have hf5:At N5 fc (.cells true [I fr.1,I fr.2.1,sl] 48):=k2.at e3 (fun h=>by omega)
  have hs5:Vec M1'.next 1 3 intc N5 sl fr.2.2:=e4.keep k2 (fun i hi=>by subst hi;exact g3)
  obtain⟨aa,ff,ee,rfl,hsl⟩:=SlI.vec hs5
  obtain⟨o1,o2,o3⟩:=zgc hp e1
  rw[e1] at hw
  clear e2 e3 e4 hs5 k1 k2 g1 B1 hf1 hx2 ha2 hx1 ha1 hR1 hv1 hk1
  repeat' first|with_reducible intro _|refine sv ?_|refine sc ?_ ?_<;>(intro h;try exact sz h)|refine sg ?_ ?_<;>(intro h;first|exact sz h|refine sy h ?_)|exact sq|fail
  rename_i n6 N6 C1 C2 C3
  have hfs:FsV N6 (some (n6,0)) [fr]:=.inr ⟨n6,0,rfl,fun k hk=>by
   obtain rfl:k=0:=by simpa using hk
   exact⟨aa,ff,ee,Rd.of_at (At.new_same C1) rfl,hsl.grow C1.grow⟩⟩
  have hR6:=hR5.grow C1.grow
  have hx6:=hx5.grow C1.grow
  have ha6:=ha5.grow C1.grow
  have hv6:=hv5.grow C1.grow
  have hk6:=hk5.grow C1.grow
  have hN6:=C1.grow.le
  refine zq gd rfl rfl (zoo (f:=true) (e:=3) hR6 (fun i hi=>?_) hfs (fun y hy=>by rw[List.mem_singleton.1 hy];exact o1) hB1 (by show 1<=1000000;omega)) ?_
  ·rcases hi with rfl|⟨o,n,f,e,h⟩
   ·exact ha6.2
   ·exact Vec.blt hv6 h
  rintro w N7 ⟨hR7,k7⟩
  have k7l:=k7.le
  clear C1
  repeat' first|with_reducible intro _|refine sv ?_|refine sc ?_ ?_<;>(intro h;try exact sz h)|refine sg ?_ ?_<;>(intro h;first|exact sz h|refine sy h ?_)|exact sq|fail
  refine zj (s.size - q) (by omega) ⟨q,k,F ++ [fr],L,v,rfl,o3,by omega,rfl,.cons rfl (.cons rfl (.cons rfl (.cons rfl .nil))),k7.at hx6 (fun h=>by omega),k7.at ha6 (fun h=>by omega),?_,?_,hv6.keep k7 (fun i hi=>by subst hi;omega),by omega,hLb,hk6.trans k7 (fun i hi=>.inl hi),hw,by omega⟩
  ·rw[List.foldl_append];exact hR7
  ·rw[List.foldl_append];exact hB1.add (z68 o1).2
 ·have ha5:At N5 a (.cells true [.str s,I q] 120):=k2.at e2 (fun h=>by omega)
  rw[e1] at hw
  simp only at hw
  clear e2 k1 k2 g1 B1 hf1 hx2 ha2 hx1 ha1 hR1 hv1 hk1
  rcases List.eq_nil_or_concat L with rfl|⟨D,y,rfl⟩
  ·obtain⟨aa,ff,ee,rfl⟩:=hv5.shape
   repeat' first|with_reducible intro _|refine sv ?_|refine sc ?_ ?_<;>(intro h;try exact sz h)|refine sg ?_ ?_<;>(intro h;first|exact sz h|refine sy h ?_)|exact sq|fail
   rename_i hh N6 C1 C2 C3 n7 N7 C4 C5 C6
   have hR7:RkMb (fun i=>i=a ∨ ∃ o n f e,LV.slice aa ([]:List Bd).length ff ee=.slice (some (i,o)) n f e) N7 r (F.foldl rkA R):=(hR5.keep ((Keep.refl (fun i=>i=a) N5).upd C1 (.inl rfl)) (fun i hi=>.inl hi) hNr).grow C4.grow
   have hv7:Vec M3.next 2 65 bdc N7 (.slice aa ([]:List Bd).length ff ee) []:=(hv5.keep ((Keep.refl (fun i=>i=a) N5).upd C1 (.inl rfl)) (fun i hi=>by subst hi;omega)).grow C4.grow
   have hx7:At N7 x (.cells true [.ptr (some (a,0))] 117):=xm
   have ha7:At N7 a (rdr s (p+1)):=by
    have:At N7 a (.cells true [.str s,I ((p:Int)+1)] 120):=xm
    exact this
   have hk7:Keep (fun i=>i=r) M N7:=(hk5.upd C1 (.inr haM)).new C4
   have hbf:=za7 (x:=((p:Int),(p:Int))) C4
   clear hR5 hv5 hx5 hk5 C1 C4 ha5
   refine z2b (by exact gd) (l':=[((p:Int),(p:Int))]) hv7 rfl rfl rfl (by simp) (by simp) rfl hbf (fun _=>rfl) (fun _=>rfl) (by omega) ?_
   rintro v8 N8 hv8 e8 k8 ⟨n8,f8,q8,rfl⟩
   repeat' first|with_reducible intro _|refine sv ?_|refine sc ?_ ?_<;>(intro h;try exact sz h)|refine sg ?_ ?_<;>(intro h;first|exact sz h|refine sy h ?_)|exact sq|fail
   refine zj (s.size - (p+1)) (by omega) ⟨p+1,k,F,lostA [] p,_,rfl,by omega,by omega,rfl,.cons rfl (.cons rfl (.cons rfl (.cons rfl .nil))),k8.at hx7 (fun hi=>by have:=hi.1;omega),k8.at ha7 (fun hi=>by have:=hi.1;omega),?_,hB1,hv8,?_,?_,hk7.trans k8 (fun i hi=>.inr (by have:=hi.1;omega)),hw,by omega⟩
   ·refine((hR7.ge (b':=fun i=>(i=a ∨ ∃ o n f e,LV.slice aa ([]:List Bd).length ff ee=.slice (some (i,o)) n f e) ∨ i=N7.next) (fun i hi=>hi.imp id fun h=>by omega)).keep k8 (fun i hi=>.inl (.inr hi.2)) (fun h=>?_)).ge (fun i hi=>.inl ?_)
    ·rcases h with h|h
     ·exact hNr h
     ·omega
    ·rcases hi with h|⟨o,n,f,e,h⟩
     ·exact .inl (.inl h)
     ·cases h;exact .inr rfl
   ·show 1<=p+1;omega
   ·intro y hy
    obtain rfl:y=((p:Int),(p:Int)):=by simpa [lostA] using hy
    show -1000000<=(p:Int) /\ (p:Int)<=1000000
    omega
  ·rw[List.concat_eq_append] at *
   rcases hv5 with⟨h0,_⟩|⟨i,hveq,hvi,hib⟩
   ·simp at h0
   subst hveq
   have hlen:(D ++ [y]).length=D.length+1:=by simp
   have hyb:=hLb y (by simp)
   have hia:i ≠ a:=by omega
   have hnn:Int.toNat (((D ++ [y]).length:Int) - 1)=D.length:=by rw[hlen];omega
   have hset:z0c ((D ++ [y]).flatMap bdc) (0+Int.toNat (((D ++ [y]).length:Int) - 1)*2+1) [I p]=some ((D ++ [(y.1,(p:Int))]).flatMap bdc):=by
    rw[hnn,List.flatMap_append,List.flatMap_append]
    have:=z53 (D.flatMap bdc) [I y.1,I y.2] [I p] 1 [I y.1,I p] rfl (by simp)
    have hl2:(D.flatMap bdc).length=D.length*2:=z1s (enc:=bdc) (fun _ _=>rfl)
    rw[hl2] at this
    rw[Nat.zero_add];exact this
   have hla:lostA (D ++ [y]) p=if y.2=(p:Int) - 1 then D ++ [(y.1,(p:Int))] else(D ++ [y]) ++ [((p:Int),(p:Int))]:=by
    unfold lostA
    rw[List.getLast?_concat]
    simp only[List.dropLast_concat]
   repeat' first|with_reducible intro _|refine sv ?_|refine sc ?_ ?_<;>(intro h;try exact sz h)|refine sg ?_ ?_<;>(intro h;first|exact sz h|refine sy h ?_)|exact sq|fail
   rename_i hh N6 C1 C2 C3
   have hu5:Keep (fun i=>i=a) N5 N6:=(Keep.refl (fun i=>i=a) N5).upd C1 (.inl rfl)
   have hvi6:At N6 i (.cells true ((D ++ [y]).flatMap bdc) (apE 65)):=hu5.at hvi hia
   have hrd:Rd1 N6 i (0+Int.toNat (((D ++ [y]).length:Int) - 1)*2+1) (I y.2):=by
    have h1:=z2x (enc:=bdc) (sz:=2) hvi6 (fun _ _=>rfl) (k:=D.length) (by omega)
    have h2:(D ++ [y])[D.length]'(by omega)=y:=by simp
    rw[h2] at h1
    rw[hnn]
    exact Rd.nth (j:=1) h1 rfl
   have hR6:=hR5.keep hu5 (fun i hi=>.inl hi) hNr
   have hx6:At N6 x (.cells true [.ptr (some (a,0))] 117):=hu5.at hx5 (fun h=>by omega)
   have hk6:Keep (fun i=>i=r) M N6:=hk5.upd C1 (.inr haM)
   have hv6:Vec M3.next 2 65 bdc N6 (.slice (some (i,0)) (D ++ [y]).length false 2) (D ++ [y]):=.inr ⟨i,rfl,hvi6,hib⟩
   clear hR5 hx5 hk5 C1 hvi ha5
   refine x_l1 (by exact gd) rfl hrd ?_
   repeat' first|with_reducible intro _|refine sv ?_|refine sc ?_ ?_<;>(intro h;try exact sz h)|refine sg ?_ ?_<;>(intro h;first|exact sz h|refine sy h ?_)|exact sq|fail
   ·refine x_st (by exact gd) rfl rfl hvi6 rfl rfl hset ?_
    intro N7 D1 D2 D3
    have hu7:Keep (fun j=>j=i) N6 N7:=(Keep.refl (fun j=>j=i) N6).upd D1 (.inl rfl)
    have ha6:At N6 a (rdr s (p+1)):=C3
    repeat' first|with_reducible intro _|refine sv ?_|refine sc ?_ ?_<;>(intro h;try exact sz h)|refine sg ?_ ?_<;>(intro h;first|exact sz h|refine sy h ?_)|exact sq|fail
    refine zj (s.size - (p+1)) (by omega) ⟨p+1,k,F,D ++ [(y.1,(p:Int))],_,rfl,by omega,by omega,rfl,.cons rfl (.cons rfl (.cons rfl (.cons rfl .nil))),hu7.at hx6 (fun h=>by omega),hu7.at ha6 (fun h=>hia h.symm),?_,hB1,?_,?_,?_,hk6.upd D1 (.inr (by omega)),?_,by omega⟩
    ·exact hR6.keep hu7 (fun j hj=>.inr (by subst hj;exact⟨_,_,_,_,rfl⟩)) hNr
    ·refine .inr ⟨i,by rw[hlen,show(D ++ [(y.1,(p:Int))]).length=D.length+1 by simp],D3,hib⟩
    ·rw[show(D ++ [(y.1,(p:Int))]).length=D.length+1 by simp];omega
    ·intro z hz
     rcases List.mem_append.1 hz with hz|hz
     ·exact hLb z (by simp[hz])
     ·rw[List.mem_singleton.1 hz]
      show -1000000<=(p:Int) /\ (p:Int)<=1000000
      omega
    ·rw[hw,hla,if_pos ‹y.2=_›]
   ·rename_i n7 N7 C4 C5 C6
    have hR7:=hR6.grow C4.grow
    have hv7:=hv6.grow C4.grow
    have hx7:=hx6.grow C4.grow
    have ha7:At N7 a (rdr s (p+1)):=At.grow C4.grow C3
    have hk7:=hk6.grow C4.grow
    have hbf:=za7 (x:=((p:Int),(p:Int))) C4
    clear C4
    refine z2b (by exact gd) (l':=[((p:Int),(p:Int))]) hv7 rfl rfl rfl (by simp) (by rw[hlen];simp;omega) rfl hbf (fun _=>rfl) (fun _=>rfl) (by omega) ?_
    rintro v8 N8 hv8 e8 k8 ⟨n8,f8,q8,rfl⟩
    have hib7:i ≠ a:=hia
    repeat' first|with_reducible intro _|refine sv ?_|refine sc ?_ ?_<;>(intro h;try exact sz h)|refine sg ?_ ?_<;>(intro h;first|exact sz h|refine sy h ?_)|exact sq|fail
    have hxi:x ≠ i:=by omega
    refine zj (s.size - (p+1)) (by omega) ⟨p+1,k,F,(D ++ [y]) ++ [((p:Int),(p:Int))],_,rfl,by omega,by omega,rfl,.cons rfl (.cons rfl (.cons rfl (.cons rfl .nil))),k8.at hx7 (fun hi=>by have:=hi.1;omega),k8.at ha7 (fun hi=>by have:=hi.1;omega),?_,hB1,hv8,?_,?_,hk7.trans k8 (fun j hj=>.inr (by have:=hj.1;omega)),?_,by omega⟩
    ·refine((hR7.ge (b':=fun j=>(j=a ∨ ∃ o n f e,LV.slice (some (i,0)) (D ++ [y]).length false 2=.slice (some (j,o)) n f e) ∨ j=N7.next) (fun i hi=>hi.imp id fun h=>by omega)).keep k8 (fun i hi=>.inl (.inr hi.2)) (fun h=>?_)).ge (fun i hi=>.inl ?_)
     ·rcases h with h|h
      ·exact hNr h
      ·omega
     ·rcases hi with h|⟨o,n,f,e,h⟩
      ·exact .inl (.inl h)
      ·cases h;exact .inr rfl
    ·rw[List.length_append,hlen];simp;omega
    ·intro z hz
     rcases List.mem_append.1 hz with hz|hz
     ·exact hLb z hz
     ·rw[List.mem_singleton.1 hz]
      show -1000000<=(p:Int) /\ (p:Int)<=1000000
      omega
    ·rw[hw,hla,if_neg ‹¬ y.2=_›]
end Go.Proofs.YtbfnnllgdioccaaGreatDoor.C
end
section
open Go PvL Go.Proofs
set_option linter.unusedSimpArgs false
set_option linter.unusedVariables false
variable {μ:Md}
namespace Go.Proofs.YtbfnnllgdioccaaGreatDoor.C
def NV(v:LV)(i:Nat):Prop:=∃ o n f e,v=.slice (some (i,o)) n f e
theorem Vec.keepN{α:Type}{b sz:Nat}{ty:TypeId}{enc:α->List LV}{M M':Mem}{v:LV}{l:List α}{F:Nat->Prop}(h:Vec b sz ty enc M v l)(hk:Keep F M M')(hF:∀ i,F i->¬ NV v i):Vec b sz ty enc M' v l :=
 h.imp id fun⟨i,h1,h2,h3⟩=>⟨i,h1,hk.at h2 (fun hf=>hF i hf ⟨_,_,_,_,h1⟩),h3⟩
theorem NV.lt{α:Type}{b sz:Nat}{ty:TypeId}{enc:α->List LV}{M:Mem}{v:LV}{l:List α}(h:Vec b sz ty enc M v l){i:Nat}(hi:NV v i):i < M.next:=by
 obtain⟨o,n,f,e,h1⟩:=hi
 exact Vec.blt h h1
theorem NV.nil{n:Nat}{f:Bool}{e i:Nat}:¬ NV (.slice none n f e) i:=fun⟨o,n,f,e,h⟩=>by cases h
theorem NV.some{j o n:Nat}{f:Bool}{e i:Nat}(h:NV (.slice (some (j,o)) n f e) i):i=j:=by
 obtain⟨_,_,_,_,h⟩:=h
 cases h;rfl
end Go.Proofs.YtbfnnllgdioccaaGreatDoor.C
end
section
open Go PvL Go.Proofs
set_option linter.unusedSimpArgs false
set_option linter.unusedVariables false
namespace Go.Proofs.YtbfnnllgdioccaaGreatDoor.C
def Mt(s:ByteArray):Nat->List UInt8->Prop
 | _,[]=>True
 | p,b :: l=>p < s.size /\ byteAt s p=b.toNat /\ Mt s (p+1) l
theorem Mt.app{s:ByteArray}:∀ {p:Nat} {a b:List UInt8},Mt s p (a ++ b) ↔ Mt s p a /\ Mt s (p+a.length) b
 | p,[],b=>by simp[Mt]
 | p,x :: a,b=>by
  show(p < s.size /\ byteAt s p=x.toNat /\ Mt s (p+1) (a ++ b)) ↔(p < s.size /\ byteAt s p=x.toNat /\ Mt s (p+1) a) /\ Mt s (p+(a.length+1)) b
  rw[Mt.app (p:=p+1),show p+(a.length+1)=p+1+a.length by omega]
  constructor
  ·rintro⟨h1,h2,h3,h4⟩;exact⟨⟨h1,h2,h3⟩,h4⟩
  ·rintro⟨⟨h1,h2,h3⟩,h4⟩;exact⟨h1,h2,h3,h4⟩
theorem Mt.le{s:ByteArray}:∀ {p:Nat} {l:List UInt8},p<=s.size->Mt s p l->p+l.length<=s.size
 | p,[],hp,_=>hp
 | p,x :: l,hp,h=>by
  have:=Mt.le (l:=l) (show p+1<=s.size from h.1) h.2.2
  rw[List.length_cons];omega
theorem zga{s:ByteArray}{p:Nat}(h:p < s.size):s.data.toList[p]'h=u8 (byteAt s p):=by
 unfold byteAt u8
 have:s.data.toList.getD p 0=s.data.toList[p]'h:=by rw[List.getD_eq_getElem?_getD,List.getElem?_eq_getElem h];rfl
 rw[this]
 simp
theorem zbv(s:ByteArray)(p q:Nat):(s.extract p q).data.toList=(s.data.toList.drop p).take (q - p):=by
 rw[ByteArray.data_extract,Array.toList_extract]
theorem Mt.drop{s:ByteArray}:∀ {p:Nat} {l:List UInt8},p<=s.size->(Mt s p l ↔(s.data.toList.drop p).take l.length=l)
 | p,[],hp=>by simp[Mt]
 | p,x :: l,hp=>by
  by_cases hlt:p < s.size
  ·have hd:s.data.toList.drop p=u8 (byteAt s p) :: s.data.toList.drop (p+1):=by
    rw[<-zga hlt];exact List.drop_eq_getElem_cons hlt
   rw[hd,List.length_cons,List.take_succ_cons]
   have ih:=Mt.drop (s:=s) (p:=p+1) (l:=l) hlt
   constructor
   ·rintro⟨_,h2,h3⟩
    rw[ih.1 h3,h2]
    unfold u8;simp
   ·intro h
    injection h with h1 h2
    exact⟨hlt,by rw[<-h1,u8_n (z2y s p)],ih.2 h2⟩
  ·obtain rfl:p=s.size:=by omega
   constructor
   ·intro h;exact absurd h.1 hlt
   ·intro h
    rw[List.drop_of_length_le (by show s.size<=s.size;omega)] at h
    cases h
theorem zil(s:ByteArray):strL s.data.toList=s:=by
 unfold strL
 apply ByteArray.ext
 simp
theorem Mt.ext{s:ByteArray}{p:Nat}{l:List UInt8}(hp:p<=s.size):Mt s p l ↔ p+l.length<=s.size /\ s.extract p (p+l.length)=strL l:=by
 constructor
 ·intro h
  refine⟨h.le hp,?_⟩
  have h1:=(Mt.drop hp).1 h
  rw[<-zil (s.extract p (p+l.length)),zbv,show p+l.length - p=l.length by omega,h1]
 ·rintro⟨h1,h2⟩
  refine(Mt.drop hp).2 ?_
  have this:(s.extract p (p+l.length)).data.toList=(strL l).data.toList:=by rw[h2]
  rw[zbv,show p+l.length - p=l.length by omega] at this
  rw[this];rfl
theorem zcc{s:ByteArray}{p b q:Nat}(h:oneB s p=some (b,q)):Mt s p [u8 b] /\ q=p+1:=by
 obtain⟨h1,h2,h3⟩:=z8d h
 subst h2
 exact⟨⟨h1,by rw[u8_n (z2y s p)],trivial⟩,h3⟩
theorem z9j{s:ByteArray}{p:Nat}{b:UInt8}{l:List UInt8}(h:Mt s p (b :: l)):oneB s p=some (b.toNat,p+1):=by
 unfold oneB
 rw[if_pos h.1,h.2.1]
theorem zio{s:ByteArray}{p n q:Nat}(h:twoB s p=some (n,q)):Mt s p (twoL n) /\ q=p+2 /\ n < 65536:=by
 have hle:=z6h h
 unfold twoB at h
 split at h
 ·cases h
 ·rename_i a p1 h1
  split at h
  ·cases h
  ·rename_i b p2 h2
   cases h
   obtain⟨g1,rfl⟩:=zcc h1
   obtain⟨g2,rfl⟩:=zcc h2
   have:=z2w h1
   have:=z2w h2
   refine⟨?_,rfl,hle.2.2⟩
   unfold twoL
   rw[show(256*a+b) / 256=a by omega,show(256*a+b) % 256=b by omega]
   exact⟨g1.1,g1.2.1,g2.1,g2.2.1,trivial⟩
theorem zhy{s:ByteArray}{p n:Nat}(hn:n < 65536)(h:Mt s p (twoL n)):twoB s p=some (n,p+2):=by
 unfold twoB
 have h1:=z9j (l:=[u8 (n % 256)]) h
 have h2:=z9j (l:=[]) h.2.2
 rw[h1];simp only;rw[h2];simp only
 rw[u8_n (by omega),u8_n (by omega)]
 congr 2;omega
theorem zp1{s:ByteArray}:∀(j p n u:Nat) {c q:Nat},codeS s j p n u=some (c,q)->1<=u->∃ m,c=n+m*u /\ q=p+(cdN m).length /\ Mt s p (cdN m) /\ (0 < m ∨ u=1) /\ m < 128 ^ j
 | 0,p,n,u,c,q,h,_=>by cases h
 | j+1,p,n,u,c,q,h,hu=>by
  unfold codeS at h
  split at h
  ·cases h
  ·rename_i b p' hb
   obtain⟨g1,rfl⟩:=zcc hb
   have hb256:=z2w hb
   split at h
   ·rename_i h128
    split at h
    ·rename_i hz
     cases h
     refine⟨b,by rw[Nat.mod_eq_of_lt h128],by rw[zbl h128];rfl,by rw[zbl h128];exact g1,hz,?_⟩
     have:128<=128 ^ (j+1):=by rw[Nat.pow_succ];exact Nat.le_mul_of_pos_left _ (Nat.pow_pos (by omega))
     omega
    ·cases h
   ·obtain⟨m,e1,e2,e3,e4,e5⟩:=zp1 j (p+1) _ _ h (by omega)
    have hm:0 < m:=by omega
    have hc:=ze3 (n:=b % 128+128*m) (by omega)
    rw[show(b % 128+128*m) % 128+128=b by omega,show(b % 128+128*m) / 128=m by omega] at hc
    refine⟨b % 128+128*m,?_,?_,?_,.inl (by omega),?_⟩
    ·rw[e1,Nat.add_mul,Nat.add_assoc];congr 2;rw[Nat.mul_comm 128 m,Nat.mul_assoc,Nat.mul_comm u 128]
    ·rw[hc,List.length_cons,e2];omega
    ·rw[hc];exact⟨g1.1,g1.2.1,e3⟩
    ·rw[Nat.pow_succ];omega
theorem zpf{s:ByteArray}:∀(j p n u m:Nat),Mt s p (cdN m)->m < 128 ^ j->(0 < m ∨ u=1 /\ 0 < j)->codeS s j p n u=some (n+m*u,p+(cdN m).length)
 | 0,p,n,u,m,h,hm,hz=>by
  have hm:m < 1:=hm
  omega
 | j+1,p,n,u,m,h,hm,hz=>by
  unfold codeS
  by_cases h128:128<=m
  ·rw[ze3 h128] at h ⊢
   rw[z9j h,u8_n (by omega)]
   simp only
   rw[if_neg (by omega),zpf j (p+1) _ _ (m / 128) h.2.2 (by rw[Nat.pow_succ] at hm;omega) (.inl (by omega)),List.length_cons]
   congr 2
   ·rw[show(m % 128+128) % 128=m % 128 by omega]
    have:m*u=(m % 128+128*(m / 128))*u:=by rw[Nat.mod_add_div]
    rw[this,Nat.add_mul,Nat.add_assoc];congr 2;rw[Nat.mul_comm 128 (m / 128),Nat.mul_assoc,Nat.mul_comm u 128]
   ·omega
  ·rw[zbl (by omega)] at h ⊢
   rw[z9j h,u8_n (by omega)]
   simp only
   rw[if_pos (by omega),if_pos (by omega),Nat.mod_eq_of_lt (by omega)];rfl
theorem zn8{s:ByteArray}{p m:Nat}(h:Mt s p (cdN m))(hm:m < 2097152):codeB s p=some (m,p+(cdN m).length):=by
 have:=zpf 3 p 0 1 m h (by omega) (.inr ⟨rfl,by omega⟩)
 unfold codeB
 rw[this];congr 2;omega
theorem zmt{s:ByteArray}{p c q:Nat}(h:codeB s p=some (c,q)):Mt s p (cdN c) /\ q=p+(cdN c).length:=by
 obtain⟨m,e1,e2,e3,_,_⟩:=zp1 3 p 0 1 h (by omega)
 obtain rfl:c=m:=by omega
 exact⟨e3,e2⟩
def csL:Int->List Int->List UInt8
 | _,[]=>[]
 | last,n :: l=>cdN (cdS n last).1.toNat ++ csL (cdS n last).2 l
theorem ze6(l:List Int):∀(r:List Int) (k:Nat),l.drop k=r->k<=l.length->cdsL l l.length=cdsL l k ++ csL (lsA l k) r
 | [],k,hr,hk=>by
  have:l.length<=k:=by
   have:=congrArg List.length hr
   rw[List.length_drop] at this
   simp at this;omega
  rw[show k=l.length by omega]
  simp[csL]
 | x :: r,k,hr,hk=>by
  have hlt:k < l.length:=by
   have:=congrArg List.length hr
   rw[List.length_drop,List.length_cons] at this
   omega
  have hx:getG l k=x:=by
   unfold getG
   rw[List.getD_eq_getElem?_getD,List.getElem?_eq_getElem hlt]
   have h1:=List.drop_eq_getElem_cons hlt
   rw[hr] at h1
   injection h1 with h1 _
   simp[h1]
  have hr2:l.drop (k+1)=r:=by
   have h1:=List.drop_eq_getElem_cons hlt
   rw[hr] at h1
   injection h1 with _ h2
   exact h2.symm
  rw[ze6 l r (k+1) hr2 hlt,zlk,List.append_assoc]
  congr 1
  show cdN (cdA l k).toNat ++ _=cdN (cdS x (lsA l k)).1.toNat ++ csL (cdS x (lsA l k)).2 r
  unfold cdA
  rw[hx,show lsA l (k+1)=(cdS (getG l k) (lsA l k)).2 from rfl,hx]
theorem zmu(l:List Int):cdsL l l.length=csL 0 l:=by
 have:=ze6 l l 0 rfl (Nat.zero_le _)
 rw[this]
 show [] ++ csL 0 l=_
 rfl
theorem zr6{last:Int}{c:Nat}(h2:2<=c)(hk:knB (nxS last c)=true):cdS (nxS last c) last=((c:Int),nxS last c):=by
 have hb:-32767<=nxS last c /\ nxS last c<=32767:=of_decide_eq_true hk
 unfold cdS
 rw[if_neg (by omega),if_pos hk]
 unfold nxS
 split
 ·rw[if_neg (by omega)];congr 1;omega
 ·rw[if_pos (by omega)];congr 1;omega
theorem zqu{n last:Int}(hn:smB n=true)(hl:-32767<=last /\ last<=32767):(∃ c:Nat,(cdS n last).1=c /\ c < 2097152 /\ ((c=0 /\ n=40000 /\ (cdS n last).2=last) ∨(c=1 /\ n=40001 /\ (cdS n last).2=last) ∨(2<=c /\ nxS last c=n /\ knB n=true /\ (cdS n last).2=n))):=by
 by_cases h1:n=40001
 ·subst h1
  exact⟨1,rfl,by omega,.inr (.inl ⟨rfl,rfl,rfl⟩)⟩
 by_cases hk:knB n=true
 ·have hb:-32767<=n /\ n<=32767:=of_decide_eq_true hk
  unfold cdS
  rw[if_neg h1,if_pos hk]
  by_cases hd:n - last < 0
  ·rw[if_pos hd]
   refine⟨(1 - 2*(n - last)).toNat,by show _=_;simp only;omega,by omega,.inr (.inr ⟨by omega,?_,hk,rfl⟩)⟩
   unfold nxS;rw[if_neg (by omega)];omega
  ·rw[if_neg hd]
   refine⟨(2*(n - last)+2).toNat,by show _=_;simp only;omega,by omega,.inr (.inr ⟨by omega,?_,hk,rfl⟩)⟩
   unfold nxS;rw[if_pos (by omega)];omega
 ·have h0:n=40000:=by
   unfold smB at hn
   simp only[Bool.or_eq_true,decide_eq_true_eq] at hn
   rcases hn with h|h|h
   ·exact absurd h hk
   ·exact h
   ·exact absurd h h1
  subst h0
  exact⟨0,rfl,by omega,.inl ⟨rfl,rfl,rfl⟩⟩
theorem zm1{s:ByteArray}:∀(k p:Nat) (last:Int) (acc:List Int) {l:List Int} {q:Nat},smpB s k p last acc=some (l,q)->∃ r,l=acc ++ r /\ r.length=k /\ q=p+(csL last r).length /\ Mt s p (csL last r)
 | 0,p,last,acc,l,q,h=>by cases h;exact⟨[],by simp,rfl,rfl,trivial⟩
 | k+1,p,last,acc,l,q,h=>by
  unfold smpB at h
  split at h
  ·cases h
  ·rename_i c p' hc
   obtain⟨g1,rfl⟩:=zmt hc
   have fin:∀(x last':Int),cdS x last=((c:Int),last')->smpB s k (p+(cdN c).length) last' (acc ++ [x])=some (l,q)->∃ r,l=acc ++ r /\ r.length=k+1 /\ q=p+(csL last r).length /\ Mt s p (csL last r):=fun x last' hx h'=>by
    obtain⟨r,e1,e2,e3,e4⟩:=zm1 k _ last' _ h'
    have hcs:csL last (x :: r)=cdN c ++ csL last' r:=by
     show cdN (cdS x last).1.toNat ++ csL (cdS x last).2 r=_
     rw[hx];rfl
    exact⟨x :: r,by rw[e1];simp,by rw[List.length_cons,e2],by rw[hcs,List.length_append,e3];omega,by rw[hcs];exact Mt.app.2 ⟨g1,e4⟩⟩
   split at h
   ·rename_i h0;subst h0;exact fin 40000 last rfl h
   ·split at h
    ·rename_i h1;subst h1;exact fin 40001 last rfl h
    ·split at h
     ·rename_i hk;exact fin _ _ (zr6 (by omega) hk) h
     ·cases h
theorem zeo{s:ByteArray}:∀(r:List Int) (p:Nat) (last:Int) (acc:List Int),(∀ x ∈ r,smB x=true)->-32767<=last /\ last<=32767->Mt s p (csL last r)->smpB s r.length p last acc=some (acc ++ r,p+(csL last r).length)
 | [],p,last,acc,_,_,_=>by simp[smpB,csL]
 | n :: r,p,last,acc,hs,hl,h=>by
  obtain⟨c,e1,e2,e3⟩:=zqu (hs n (by simp)) hl
  have hcs:csL last (n :: r)=cdN c ++ csL (cdS n last).2 r:=by
   show cdN (cdS n last).1.toNat ++ _=_
   rw[e1];rfl
  rw[hcs] at h ⊢
  obtain⟨h1,h2⟩:=Mt.app.1 h
  have hcd:=zn8 h1 e2
  have hs':∀ x ∈ r,smB x=true:=fun x hx=>hs x (by simp[hx])
  rw[List.length_cons,show smpB s (r.length+1) p last acc=(match codeB s p with
   | none=>none
   | some (c,q)=>if c=0 then smpB s r.length q last (acc ++ [40000]) else if c=1 then smpB s r.length q last (acc ++ [40001]) else if knB (nxS last c) then smpB s r.length q (nxS last c) (acc ++ [nxS last c]) else none) from rfl,hcd]
  simp only
  rcases e3 with⟨rfl,rfl,h3⟩|⟨rfl,rfl,h3⟩|⟨hc2,hn,hk,h3⟩
  ·rw[if_pos rfl,h3] at *
   rw[zeo r _ last _ hs' hl h2,List.length_append]
   simp;omega
  ·rw[if_neg (by omega),if_pos rfl]
   rw[h3] at h2 ⊢
   rw[zeo r _ last _ hs' hl h2,List.length_append]
   simp;omega
  ·rw[if_neg (by omega),if_neg (by omega),hn,if_pos hk]
   rw[h3] at h2 ⊢
   have hb:-32767<=n /\ n<=32767:=of_decide_eq_true hk
   rw[zeo r _ n _ hs' hb h2,List.length_append]
   simp;omega
theorem znp{s:ByteArray}{k p:Nat}{l:List Int}{q:Nat}(h:smpB s k p 0 []=some (l,q)):l.length=k /\ q=p+(csL 0 l).length /\ Mt s p (csL 0 l):=by
 obtain⟨r,e1,e2,e3,e4⟩:=zm1 k p 0 [] h
 rw[List.nil_append] at e1
 subst e1
 exact⟨e2,e3,e4⟩
theorem zp6{x:Fr}(h:frB x=true):∀ n ∈ x.2.2,smB n=true:=fun n hn=>by
 unfold frB smsB at h
 simp only[Bool.and_eq_true] at h
 exact List.all_eq_true.1 h.2.2.2 n hn
theorem zgk(x:Fr):bodyL x=[165,90] ++(twoL x.1.toNat ++([u8 x.2.1.toNat] ++([u8 x.2.2.length] ++ csL 0 x.2.2))):=by
 unfold bodyL hdL
 rw[zmu]
 simp
theorem zgy{s:ByteArray}{p:Nat}{l:List UInt8}(hp:p<=s.size)(h:Mt s p l):crcX s p (p+l.length)=crcK (strL l) l.length:=by
 unfold crcX
 rw[((Mt.ext hp).1 h).2];rfl
theorem zoe{s:ByteArray}{p:Nat}{x:Fr}{q:Nat}(hp:p<=s.size)(h:FrD s p=some (x,q)):frB x=true /\ q=p+(pkL x).length /\ Mt s p (pkL x):=by
 have hok:=zgc hp h
 unfold FrD at h
 split at h
 ·cases h
 ·rename_i m p1 h1
  split at h
  ·cases h
  ·rename_i sh p2 h2
   split at h
   ·cases h
   ·rename_i ch p3 h3
    split at h
    ·cases h
    ·rename_i n p4 h4
     split at h
     ·rename_i hc
      split at h
      ·cases h
      ·rename_i l p5 h5
       split at h
       ·rename_i hf
        split at h
        ·cases h
        ·rename_i u p6 h6
         cases h
         obtain⟨g1,rfl,_⟩:=zio h1
         obtain⟨g2,rfl,hsh⟩:=zio h2
         obtain⟨g3,rfl⟩:=zcc h3
         obtain⟨g4,rfl⟩:=zcc h4
         obtain⟨g5,rfl,g6⟩:=znp h5
         have hch:=z2w h3
         obtain⟨rfl,hc2⟩:=hc
         have hb:bodyL ((sh:Int),(ch:Int),l)=twoL 42330 ++(twoL sh ++([u8 ch] ++([u8 n] ++ csL 0 l))):=by
          rw[zgk]
          show [165,90] ++(twoL (sh:Int).toNat ++([u8 (ch:Int).toNat] ++([u8 l.length] ++ csL 0 l)))=_
          rw[g5,Int.toNat_natCast,Int.toNat_natCast];rfl
         have hM:Mt s p (bodyL ((sh:Int),(ch:Int),l)):=by
          rw[hb]
          refine Mt.app.2 ⟨g1,Mt.app.2 ⟨g2,Mt.app.2 ⟨g3,Mt.app.2 ⟨g4,?_⟩⟩⟩⟩
          exact g6
         have hbl:p+(bodyL ((sh:Int),(ch:Int),l)).length=p+2+2+1+1+(csL 0 l).length:=by
          rw[hb];simp[twoL];omega
         unfold chkB at h6
         split at h6
         ·cases h6
         ·rename_i c p7 h7
          obtain⟨g7,rfl,hc7⟩:=zio h7
          split at h6
          ·rename_i hcrc
           cases h6
           rw[<-hbl,zgy hp hM] at hcrc
           have hpk:pkL ((sh:Int),(ch:Int),l)=bodyL ((sh:Int),(ch:Int),l) ++ twoL c:=by
            unfold pkL chkL
            rw[<-hcrc,Int.toNat_natCast]
           refine⟨hf,?_,?_⟩
           ·rw[hpk,List.length_append,<- Nat.add_assoc,hbl];rfl
           ·rw[hpk];exact Mt.app.2 ⟨hM,by rw[hbl];exact g7⟩
          ·cases h6
       ·cases h
     ·cases h
theorem zpd{s:ByteArray}{p:Nat}{x:Fr}(hp:p<=s.size)(hf:frB x=true)(h:Mt s p (pkL x)):FrD s p=some (x,p+(pkL x).length):=by
 obtain⟨sh,ch,l⟩:=x
 have hbd:=z9a hf
 have hln:=z68 hf
 simp only at hbd hln
 obtain⟨sh,rfl⟩:∃ n:Nat,sh=n:=⟨sh.toNat,by omega⟩
 obtain⟨ch,rfl⟩:∃ n:Nat,ch=n:=⟨ch.toNat,by omega⟩
 have hb:bodyL ((sh:Int),(ch:Int),l)=twoL 42330 ++(twoL sh ++([u8 ch] ++([u8 l.length] ++ csL 0 l))):=by
  rw[zgk]
  show [165,90] ++(twoL (sh:Int).toNat ++([u8 (ch:Int).toNat] ++([u8 l.length] ++ csL 0 l)))=_
  rw[Int.toNat_natCast,Int.toNat_natCast];rfl
 have hbl:p+(bodyL ((sh:Int),(ch:Int),l)).length=p+2+2+1+1+(csL 0 l).length:=by
  rw[hb];simp[twoL];omega
 unfold pkL chkL at h
 obtain⟨hM,hC⟩:=Mt.app.1 h
 have hcr:=zgy hp hM
 have hM':=hM
 rw[hb] at hM
 obtain⟨m1,hM⟩:=Mt.app.1 hM
 obtain⟨m2,hM⟩:=Mt.app.1 hM
 obtain⟨m3,hM⟩:=Mt.app.1 hM
 obtain⟨m4,m5⟩:=Mt.app.1 hM
 have r1:=zhy (by omega) m1
 have r2:=zhy (by omega) m2
 have r3:=z9j m3
 have r4:=z9j m4
 rw[u8_n (by omega)] at r3 r4
 have r5:=zeo l _ 0 [] (zp6 hf) (by omega) m5
 rw[List.nil_append] at r5
 have hbd2:=z7i (strL (bodyL ((sh:Int),(ch:Int),l))) (bodyL ((sh:Int),(ch:Int),l)).length
 have r6:=zhy (by omega) hC
 rw[hbl] at r6 hcr
 unfold FrD
 simp only[twoL,List.length_cons,List.length_nil] at r1 r2 r3 r4 r5 r6
 rw[r1];simp only;rw[r2];simp only;rw[r3];simp only;rw[r4];simp only
 rw[if_pos ⟨by first|trivial|rfl,by omega,by omega⟩,r5]
 simp only
 rw[if_pos hf]
 unfold chkB
 rw[r6]
 simp only
 rw[if_pos (by rw[hcr];omega)]
 simp only
 unfold pkL chkL
 rw[List.length_append,<- Nat.add_assoc,hbl]
 rfl
end Go.Proofs.YtbfnnllgdioccaaGreatDoor.C
end
section
open Go PvL Go.Proofs
set_option linter.unusedSimpArgs false
set_option linter.unusedVariables false
variable {μ:Md}
namespace Go.Proofs.YtbfnnllgdioccaaGreatDoor.C
def salP(s:ByteArray):(List Fr × List Bd) × Int :=
 if 65536 < s.size then(([],[]),3) else if 128 <(z20 (whA s).1).length then(([],[]),6) else((z20 (whA s).1,(whA s).2),0)
theorem zis{s:ByteArray}:∀(k p:Nat) (F:List Fr) (L:List Bd),p<=s.size->FrOk F->F.length<=p->FrOk (whB s k p F L).1 /\ (whB s k p F L).1.length<=s.size
 | 0,p,F,L,hp,h,hl=>⟨h,by show F.length<=_;omega⟩
 | k+1,p,F,L,hp,h,hl=>by
  unfold whB
  split
  ·split
   ·rename_i x q hx
    have h1:=zgc hp hx
    refine zis k q _ _ h1.2.2 (fun y hy=>?_) (by rw[List.length_append];simp;omega)
    rcases List.mem_append.1 hy with hy|hy
    ·exact h y hy
    ·rw[List.mem_singleton.1 hy];exact h1.1
   ·exact zis k (p+1) F _ (by omega) h (by omega)
  ·exact⟨h,by show F.length<=_;omega⟩
theorem zpu(s:ByteArray):FrOk (whA s).1 /\ (whA s).1.length<=s.size:=zis s.size 0 [] [] (Nat.zero_le _) (fun _ h=>nomatch h) (Nat.le_refl _)
theorem zci(l:List Fr):(rackF l).length<=l.length:=by
 have:∀(l:List Fr) (R:Rk),(l.foldl rkA R).length<=R.length+l.length:=fun l=>by
  induction l with
  | nil=>intro R;exact Nat.le_refl _
  | cons z l ih =>
   intro R
   have h1:=ih (rkA R z)
   have h2:(rkA R z).length<=R.length+1:=by
    have:=congrArg List.length (zdq R (fky z) (z0o ((lkK R (fky z)).getD []) z.2.2))
    rw[List.length_map] at this
    unfold rkA
    rw[this]
    split<;>simp
   rw[List.foldl_cons,List.length_cons];omega
 have:=this l []
 unfold rackF
 have h0:([]:Rk).length=0:=rfl
 omega
theorem ne9{l:List Fr}(h:FrOk l):∀ z ∈ z20 l,z.2.2 ≠ []:=fun z hz=>by
 have h1:=z68 (zh6 (J:=[]) (fun _ h=>absurd h List.not_mem_nil) h z hz)
 intro h2;rw[h2] at h1;exact absurd h1.1 (by decide)
set_option maxHeartbeats 8000000 in
theorem zgo{s:ByteArray}{M:Mem}(hs:s.size<=1000000000000000) :
  CallN Tryz.prog 31 [.str s] M (fun w M'=>∃ a f e v,w=.tup [.slice a (salP s).1.1.length f e,v,I (salP s).2] /\ FsV1 M' a (salP s).1.1 /\ Vec 0 2 65 bdc M' v (salP s).1.2 /\ Grow M M'):=by
 refine z3b k31 rfl ?_
 dsimp only[x31,zM,zO,zI,zF,zS,zB,zL,zA,zE,zN,zW,zC,zipE,Nat.reduceAdd]
 by_cases hlong:65536 < s.size
 ·have hj:salP s=(([],[]),3):=by unfold salP;rw[if_pos hlong]
  rw[hj]
  repeat' first|with_reducible intro _|refine sv ?_|refine sc ?_ ?_<;>(intro h;try exact sz h)|refine sg ?_ ?_<;>(intro h;first|exact sz h|refine sy h ?_)|exact sq|fail
  all_goals first|(exfalso;omega)|skip
  refine kf ?_
  exact⟨none,true,0,_,rfl,.inl rfl,Vec.nil,xg⟩
 repeat' first|with_reducible intro _|refine sv ?_|refine sc ?_ ?_<;>(intro h;try exact sz h)|refine sg ?_ ?_<;>(intro h;first|exact sz h|refine sy h ?_)|exact sq|fail
 all_goals first|(exfalso;omega)|skip
 rename_i r M1 h1 h2 h3
 have hR1:=RkM.nil h1
 have hg1:Grow M M1:=h1.grow
 have hrM:M.next<=r:=by omega
 refine zq gd rfl rfl (zmr hR1 RkB.nil (by omega)) ?_
 rintro w M2 ⟨hR2,hB2,hv2,hk2⟩
 have hg2:Grow M M2:=hg1.keep hk2 (fun i hi=>by subst hi;exact hrM)
 have hwo:=zpu s
 have hrl:=zci (whA s).1
 have hrj:=znl hwo.1.k
 repeat' first|with_reducible intro _|refine sv ?_|refine sc ?_ ?_<;>(intro h;try exact sz h)|refine sg ?_ ?_<;>(intro h;first|exact sz h|refine sy h ?_)|exact sq|fail
 refine z8p gd rfl rfl (zjf hR2 hrj (ne9 hwo.1) (by unfold rackF at hrl;omega)) ?_
 rintro w3 M3 ⟨hc,hg3⟩
 have hg23:=hg2.trans hg3
 have hv3:=hv2.grow hg3
 obtain⟨aa,ff,ee,rfl⟩:=hv3.shape
 rcases hc with⟨hl,a,f,e,rfl,hf3⟩|⟨hl,rfl⟩
 ·have hj:salP s=((z20 (whA s).1,(whA s).2),0):=by unfold salP;rw[if_neg hlong,if_neg (by omega)]
  rw[hj]
  repeat' first|with_reducible intro _|refine sv ?_|refine sc ?_ ?_<;>(intro h;try exact sz h)|refine sg ?_ ?_<;>(intro h;first|exact sz h|refine sy h ?_)|exact sq|fail
  refine kf ?_
  exact⟨a,f,e,_,rfl,hf3,Vec.low hv3 (Nat.zero_le _),hg23⟩
 ·have hj:salP s=(([],[]),6):=by unfold salP;rw[if_neg hlong,if_pos hl]
  rw[hj]
  repeat' first|with_reducible intro _|refine sv ?_|refine sc ?_ ?_<;>(intro h;try exact sz h)|refine sg ?_ ?_<;>(intro h;first|exact sz h|refine sy h ?_)|exact sq|fail
  refine kf ?_
  exact⟨none,true,0,_,rfl,.inl rfl,Vec.nil,hg23⟩
