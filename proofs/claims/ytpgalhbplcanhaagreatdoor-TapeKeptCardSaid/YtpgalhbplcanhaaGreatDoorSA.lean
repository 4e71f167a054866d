/-
 Part of the proof of TapeKept. No condition beyond those in each theorem.
-/
import Derived.Test.YtpgalhbplcanhaaGreatDoorTW
import Derived.Test.YtpgalhbplcanhaaGreatDoorPvG
import Derived.Test.YtpgalhbplcanhaaGreatDoorTX
set_option linter.unusedVariables false
set_option linter.unusedSimpArgs false
section
open Go PvL Go.Proofs
namespace Go.Proofs.YtpgalhbplcanhaaGreatDoor.C
def ewk:Entry:=⟨22,[],64,tabs,.bool true,283,[]⟩
set_option maxRecDepth 100000 in
theorem cwk:chk Tryz.prog [] 100000 ewk=true:=by kernel_rfl
theorem kwk:ewk.Ok Tryz.prog:=znv mix (fun e h=>by cases h) cwk
theorem orcOk:OrcOk Tryz.prog where
 fn f l m v h:=by
  obtain⟨rfl,rfl,rfl,_⟩:=z8d h
  exact kwk.fn
 imp f l m v h:=by
  obtain⟨rfl,rfl,rfl,_⟩:=z8d h
  exact kwk.imp
 sim f l m v h:=by
  obtain⟨rfl,rfl,rfl,hp⟩:=z8d h
  exact zsq kwk zt5 zjb rfl rfl rfl rfl m hp
end Go.Proofs.YtpgalhbplcanhaaGreatDoor.C
end
section
open PvL
namespace Go.Proofs.YtpgalhbplcanhaaGreatDoor.C
variable {k:Nat} {B C:Int}
abbrev Bnd:=Int×Int
abbrev Rg:=Bnd×Bnd×Bnd×Bnd
def rowOf (r:Rg)(x:Int):Int×Int×Int:=(x,iMax (iMax r.2.1.1 (r.2.2.1.1-x)) (x-r.2.2.2.2),iMin (iMin r.2.1.2 (r.2.2.1.2-x)) (x-r.2.2.2.1))
abbrev okRow (t:Int×Int×Int):Bool:=decide (t.2.1<=t.2.2)
def rowsFrom (r:Rg)(k n:Nat):List (Int×Int×Int):=((List.range n).map fun j=>rowOf r (r.1.1+((k+j:Nat):Int))).filter okRow
def rowsK (r:Rg)(k:Nat):List (Int×Int×Int):=rowsFrom r 0 k
def rowsN (r:Rg):Nat:=(r.1.2+1-r.1.1).toNat
def rowsL (r:Rg):List (Int×Int×Int):=rowsK r (rowsN r)
theorem z6r (r:Rg)(k n:Nat):rowsFrom r k (n+1)=(if okRow (rowOf r (r.1.1+(k:Int))) then [rowOf r (r.1.1+(k:Int))] else [])++rowsFrom r (k+1) n:=by
 unfold rowsFrom
 rw[List.range_succ_eq_map,List.map_cons,List.map_map,List.filter_cons]
 have e:((fun j=>rowOf r (r.1.1+((k+j:Nat):Int)))∘Nat.succ)=fun j=>rowOf r (r.1.1+((k+1+j:Nat):Int)):=by
  funext j
  show rowOf r (r.1.1+((k+(j+1):Nat):Int))=_
  rw[show k+(j+1)=k+1+j by omega]
 rw[e,Nat.add_zero]
 by_cases h:okRow (rowOf r (r.1.1+(k:Int)))=true
 ·rw[if_pos h,if_pos h];rfl
 ·rw[if_neg h,if_neg h];rfl
theorem z7c (r:Rg)(k:Nat):rowsK r (k+1)=rowsK r k ++(if okRow (rowOf r (r.1.1+(k:Int))) then [rowOf r (r.1.1+(k:Int))] else []):=by
 unfold rowsK rowsFrom
 rw[List.range_succ,List.map_append,List.filter_append]
 congr 1
 simp only[List.map_cons,List.map_nil,List.filter_cons,List.filter_nil,Nat.zero_add]
theorem za1 (r:Rg):∀(n k:Nat),rowsK r (k+n)=rowsK r k++rowsFrom r k n
 | 0,k=>by rw[Nat.add_zero];unfold rowsFrom;simp
 | n+1,k=>by rw[show k+(n+1)=(k+1)+n by omega,za1 r n (k+1),z7c,List.append_assoc,z6r]
theorem zmb (r:Rg){n:Nat}(h:k<n)(a:okRow (rowOf r (r.1.1+(k:Int)))=true):(rowsK r n)[(rowsK r k).length]?=some (rowOf r (r.1.1+(k:Int))):=by
 obtain⟨m,rfl⟩:∃ m,n=k+(m+1):=⟨n-k-1,by omega⟩
 rw[za1,List.getElem?_append_right (Nat.le_refl _),Nat.sub_self,z6r,if_pos a];rfl
def ends1 (t:Int×Int×Int):List (Int×Int):=if t.2.1=t.2.2 then [(t.1,t.2.1)] else [(t.1,t.2.1),(t.1,t.2.2)]
def endsOf (l:List (Int×Int×Int)):List (Int×Int):=l.flatMap ends1
def endsL (r:Rg):List (Int×Int):=endsOf (rowsL r)
theorem zdk (l:List (Int×Int×Int)){t:Int×Int×Int}(h:l[k]?=some t):endsOf l=endsOf (l.take k) ++(ends1 t++endsOf (l.drop (k+1))):=by
 obtain⟨a,rfl⟩:=List.getElem?_eq_some_iff.1 h
 unfold endsOf
 conv=>lhs;rw[<-List.take_append_drop k l,List.flatMap_append,List.drop_eq_getElem_cons a]
 rfl
theorem zfa (l:List (Int×Int×Int)){t:Int×Int×Int}(h:l[k]?=some t):endsOf (l.take (k+1))=endsOf (l.take k)++ends1 t:=by
 obtain⟨a,rfl⟩:=List.getElem?_eq_some_iff.1 h
 unfold endsOf
 rw[List.take_succ_eq_append_getElem a,List.flatMap_append]
 simp
def ofP (p:Int×Int):Rg:=((p.1,p.1),(p.2,p.2),(p.1+p.2,p.1+p.2),(p.1-p.2,p.1-p.2))
def spanB (a b:Bnd):Bnd:=(iMin a.1 b.1,iMax a.2 b.2)
def map4 (f:Bnd->Bnd->Bnd)(r q:Rg):Rg:=(f r.1 q.1,f r.2.1 q.2.1,f r.2.2.1 q.2.2.1,f r.2.2.2 q.2.2.2)
def zRg:Rg:=((0,0),(0,0),(0,0),(0,0))
def hstep (o:Option Rg)(p:Int×Int):Option Rg:=some (map4 spanB (o.getD (ofP p)) (ofP p))
def hullO (o:Option Rg)(l:List (Int×Int)):Option Rg:=l.foldl hstep o
theorem zii (o:Option Rg)(l:List (Int×Int)){p:Int×Int}(h:l[k]?=some p):hullO o (l.take (k+1))=hstep (hullO o (l.take k)) p:=by
 obtain⟨a,rfl⟩:=List.getElem?_eq_some_iff.1 h
 unfold hullO
 rw[List.take_succ_eq_append_getElem a,List.foldl_append];rfl
def Sm (B:Int)(r:Rg):Prop:=(-B<=r.1.1/\r.1.1<=B)/\(-B<=r.1.2/\r.1.2<=B)/\(-B<=r.2.1.1/\r.2.1.1<=B)/\(-B<=r.2.1.2/\r.2.1.2<=B)/\(-B<=r.2.2.1.1/\r.2.2.1.1<=B)/\(-B<=r.2.2.1.2/\r.2.2.1.2<=B)/\(-B<=r.2.2.2.1/\r.2.2.2.1<=B)/\(-B<=r.2.2.2.2/\r.2.2.2.2<=B)
abbrev SmP (B:Int)(p:Int×Int):Prop:=(-B<=p.1/\p.1<=B)/\(-B<=p.2/\p.2<=B)
theorem Sm.mono {r:Rg}(h:Sm B r)(a:B<=C):Sm C r:=by unfold Sm at *;omega
theorem SmP.mono {p:Int×Int}(h:SmP B p)(a:B<=C):SmP C p:=by unfold SmP at *;omega
theorem zh8 {r:Rg}{t:Int×Int×Int}(h:t∈rowsL r):∃ x,r.1.1<=x/\x<=r.1.2/\t=rowOf r x/\t.2.1<=t.2.2:=by
 unfold rowsL rowsK rowsFrom at h
 rw[List.mem_filter] at h
 obtain⟨c,d⟩:=h
 obtain⟨j,a,rfl⟩:=List.mem_map.1 c
 have a:=List.mem_range.1 a
 unfold rowsN at a
 exact⟨_,by omega,by omega,rfl,of_decide_eq_true d⟩
theorem zvm {r:Rg}(h:Sm B r){x:Int}(h1:r.1.1<=x)(a:x<=r.1.2):(-B<=(rowOf r x).1/\(rowOf r x).1<=B)/\(-(2*B)<=(rowOf r x).2.1/\(rowOf r x).2.1<=2*B)/\(-(2*B)<=(rowOf r x).2.2/\(rowOf r x).2.2<=2*B):=by
 unfold Sm at h
 unfold rowOf iMax iMin
 dsimp only
 omega
theorem zkm {r:Rg}(h:Sm B r){q:Int×Int}(a:q∈endsL r):SmP (2*B) q:=by
 unfold endsL endsOf at a
 obtain⟨t,g,a⟩:=List.mem_flatMap.1 a
 obtain⟨x,c,d,rfl,i⟩:=zh8 g
 have:=zvm h c d
 have j:0<=B:=by unfold Sm at h;omega
 unfold ends1 at a
 unfold SmP
 split at a
 ·obtain rfl:=List.mem_singleton.1 a
  omega
 ·rcases List.mem_cons.1 a with rfl|a
  ·omega
  ·obtain rfl:=List.mem_singleton.1 a
   omega
theorem zo3 {o:Option Rg}(g:∀ r,o=some r->Sm (2*B) r){p:Int×Int}(h:SmP B p)(r:Rg)(i:hstep o p=some r):Sm (2*B) r:=by
 cases i
 unfold SmP at h
 have c:Sm (2*B) (ofP p):=by unfold Sm ofP;dsimp only;omega
 have d:Sm (2*B) (o.getD (ofP p)):=by
  cases o with
  | none=>exact c
  | some r=>exact g r rfl
 generalize o.getD (ofP p)=a at d
 generalize ofP p=b at c
 unfold Sm at *
 unfold map4 spanB iMin iMax
 dsimp only
 omega
theorem zgy:∀(l:List (Int×Int)) (o:Option Rg),(∀ r,o=some r->Sm (2*B) r)->(∀ p∈l,SmP B p)->∀ r,hullO o l=some r->Sm (2*B) r
 | [],o,c,_,r,a=>c r a
 | p::l,o,c,d,r,a=>zgy l (hstep o p) (fun r a=>zo3 c (d p List.mem_cons_self) r a) (fun q g=>d q (List.mem_cons_of_mem _ g)) r a
theorem zsa (l:List (Int×Int))(a:∀ p∈l,SmP B p)(d:0<=B):Sm (2*B) ((hullO none l).getD zRg):=by
 cases h:hullO none l with
 | none=>unfold Sm zRg;dsimp only[Option.getD];omega
 | some r=>exact zgy l none (fun r c=>by cases c) a r h
def tightO (r:Rg):Option Rg:=hullO none (endsL r)
theorem z8a {r:Rg}(h:Sm B r):Sm (4*B) ((tightO r).getD zRg):=by
 have c:0<=B:=by unfold Sm at h;omega
 have:=zsa (endsL r) (fun p a=>zkm h a) (by omega:0<=2*B)
 rw[show 2*(2*B)=4*B by omega] at this
 exact this
abbrev fitsP (l:Int)(b:Bnd):Prop:=-l<=b.1/\b.1<=b.2/\b.2<=l
abbrev RgOk (r:Rg):Prop:=fitsP 32768 r.1/\fitsP 32768 r.2.1/\fitsP 65536 r.2.2.1/\fitsP 65536 r.2.2.2
theorem RgOk.sm {r:Rg}(h:RgOk r):Sm 65536 r:=by unfold Sm;dsimp only[RgOk,fitsP] at h;omega
def tightF (r:Rg):Rg×Int:=if RgOk r then(match tightO r with|some t=>(t,0)|none=>(zRg,4)) else(zRg,11)
abbrev Pt:=Int×Int
abbrev ptv (p:Int×Int):LV:=.agg [I p.1,I p.2]
abbrev rgv (r:Rg):LV:=.agg [I r.1.1,I r.1.2,I r.2.1.1,I r.2.1.2,I r.2.2.1.1,I r.2.2.1.2,I r.2.2.2.1,I r.2.2.2.2]
def eRg (r:Rg):Int:=if RgOk r then 0 else 11
abbrev rowv (t:Int×Int×Int):LV:=.agg [I t.1,I t.2.1,I t.2.2]
abbrev rgc (r:Rg):List LV:=[I r.1.1,I r.1.2,I r.2.1.1,I r.2.1.2,I r.2.2.1.1,I r.2.2.1.2,I r.2.2.2.1,I r.2.2.2.2]
abbrev resv (x:Rg×Int):LV:=.tup [rgv x.1,I x.2]
def eTi (r:Rg):Int:=if (tightO r).isSome then 0 else 4
end Go.Proofs.YtpgalhbplcanhaaGreatDoor.C
end
section
open Go PvL Go.Proofs
namespace Go.Proofs.YtpgalhbplcanhaaGreatDoor.C
variable {p s e:Nat} {own f:Bool} {ty:TypeId} {M0:Mem}
instance:IsB Tryz.prog 4:=⟨by kernel_rfl⟩
theorem zk4 (n lo hi:Int)(M:Mem):zc Tryz.prog 91 [I n,I lo,I hi] M (fun w M'=>w=.bool (decide (lo<=n/\n<=hi))/\M'=M):=by
 refine zd Y91.2 rfl ?_
 delta Y91;refine un ?_
 repeat' first|with_reducible intro _|refine sv ?_|refine ss ?_ ?_<;>(intro h;first|exact sz h|refine sy h ?_)|exact sq|fail
 all_goals (apply zl0;exact .tmp rfl .nil;refine⟨?_,rfl⟩)
 all_goals first
  | exact zl9 (by omega)
  | exact lb_f (by omega)
  | exact lb_t (by omega)
theorem zrh (l n:Int)(a:0<=l/\l<=1000000)(M:Mem):zc Tryz.prog 95 [I l,I n] M (fun w M'=>w=I (iMax (-l) (iMin n l))/\M'=M):=by
 refine zd Y95.2 rfl ?_
 delta Y95;refine un ?_
 refine Wh ?_
 all_goals (apply zl0;exact .tmp rfl .nil;refine⟨rfl,rfl⟩)
theorem zu9 (l a b:Int)(c:0<=l/\l<=1000000)(M:Mem):zc Tryz.prog 151 [I l,.agg [I a,I b]] M (fun w M'=>w=.bool (decide (-l<=a/\a<=b/\b<=l))/\Grow M M'):=by
 refine zd Y151.2 rfl ?_
 delta Y151;refine un ?_
 repeat' first|with_reducible intro _|refine sv ?_|refine ss ?_ ?_<;>(intro h;first|exact sz h|refine sy h ?_)|exact sq|fail
 all_goals (apply zl0;exact .tmp rfl .nil;refine⟨?_,?_⟩)
 all_goals first
  |(exact xg;done)
  | exact zl9 (by omega)
  | exact lb_f (by omega)
  | exact lb_t (by omega)
theorem z3v (r:Rg)(M:Mem):zc Tryz.prog 92 [rgv r] M (fun w M'=>w=rgv r/\Grow M M'):=by
 refine zd Y92.2 rfl ?_
 delta Y92;refine un ?_
 refine Wh ?_;intros
 refine kf ?_
 exact⟨rfl,xg⟩
theorem zni (r:Rg)(M:Mem):zc Tryz.prog 89 [rgv r] M (fun w M'=>w=rgv r/\Grow M M'):=by
 refine zd Y89.2 rfl ?_
 delta Y89;refine un ?_
 refine Wh ?_;intros
 refine kf ?_
 exact⟨rfl,xg⟩
theorem c_of (p:Int×Int)(h:-1000000<=p.1/\p.1<=1000000 /\ -1000000<=p.2/\p.2<=1000000)(M:Mem):zc Tryz.prog 148 [ptv p] M (fun w M'=>w=rgv (ofP p)/\Grow M M'):=by
 refine zd Y148.2 rfl ?_
 delta Y148;refine un ?_
 repeat' first|with_reducible intro _|refine sv ?_|refine su ?_|refine ss ?_ ?_<;>(intro h;first|exact sz h|refine sy h ?_)|exact sq|fail
 refine kf ?_
 exact⟨rfl,xg⟩
theorem zum (a a' b b':Int)(M:Mem):zc Tryz.prog 150 [.agg [I a,I a'],.agg [I b,I b']] M (fun w M'=>w=.agg [I (iMin a b),I (iMax a' b')]/\Grow M M'):=by
 refine zd Y150.2 rfl ?_
 delta Y150;refine un ?_
 refine Wh ?_;intros
 refine kf ?_
 exact⟨rfl,xg⟩
theorem z4k (r q:Rg)(M:Mem):zc Tryz.prog 149 [rgv r,rgv q,.func (.func 150) [] []] M (fun w M'=>w=rgv (map4 spanB r q)/\Grow M M'):=by
 refine zd Y149.2 rfl ?_
 delta Y149;refine un ?_
 repeat' first|with_reducible intro _|refine sv ?_|refine su ?_|((with_reducible first|apply zw|apply zx|apply zm);exact gd;exact rfl;exact rfl;(first|exact zum _ _ _ _ _))|refine ss ?_ ?_<;>(intro h;first|exact sz h|refine sy h ?_)|exact sq|fail
 refine kf ?_
 exact⟨rfl,xg⟩
theorem z2v (r:Rg)(M:Mem):zc Tryz.prog 90 [rgv r] M (fun w M'=>w=I (eRg r)/\Grow M M'):=by
 refine zd k90 rfl ?_
 delta x90;refine un ?_
 repeat' first|with_reducible intro _|refine sv ?_|refine su ?_|((with_reducible first|apply zw|apply zx|apply zm);exact gd;exact rfl;exact rfl;(first|exact z3v _ _|exact zu9 _ _ _ (by omega) _))|refine ss ?_ ?_<;>(intro h;first|exact sz h|refine sy h ?_)|exact sq|fail
 all_goals (refine kf ?_)
 all_goals refine⟨?_,?_⟩
 all_goals first
  |(exact xg;done)
  |(unfold eRg;split<;>first|rfl|(exfalso;omega))
set_option maxHeartbeats 4000000 in
theorem zqx (r:Rg)(Z:Sm 10000000 r)(X:At M0 p (.cells own (rgc r) ty)) :
  PvL.Yields Tryz.prog 249 [] [.ptr (some (p,0))] (fun i=>i=p) ((rowsL r).map fun t=>[rowv t]) M0:=by
 intro l A J D hA U v K step x
 have G:¬ A p:=U p rfl
 unfold Sm at Z
 refine zd Y249.2 rfl ?_
 dsimp only[Y249,Ev,List.map_cons,List.map_nil,zipE,Nat.reduceAdd,List.nil_append,List.cons_append]
 refine Wh ?_
 refine zg (fun n E O M=>∃ k:Nat,n=rowsN r-k/\k<=rowsN r/\O=[]/\Has E [(0,.func (.yield l) [] []),(1,.ptr (some (p,0))),(3,I (r.1.1+(k:Int)))]/\Keep A M0 M/\J (rowsK r k).length M) ?_ (rowsN r) _ _ _ ⟨0,by omega,by omega,rfl,.cons rfl (.cons rfl (.cons (congrArg (fun z=>some (I z)) (Int.add_zero _).symm) .nil)),Keep.refl _ _,x⟩
 rintro n E O M ⟨k,rfl,hk,rfl,S,a,L⟩
 have Y:At M p (.cells own (rgc r) ty):=a.at X G
 have F:=a.le
 have o:∀ w,Grow M w->J (rowsK r k).length w:=fun w N=>v _ _ _ L N.le fun i q=>N.old i (Nat.lt_of_lt_of_le q F)
 have hn:rowsN r=(r.1.2+1-r.1.1).toNat:=rfl
 refine z06 S ?_
 by_cases g:k=rowsN r
 ·have V:r.1.2<r.1.1+(k:Int):=by omega
  refine Wh ?_;intro h
  refine kf ?_
  exact⟨a,.inl (by rw[List.length_map];unfold rowsL;rw[<-g];exact L)⟩
 ·have V:r.1.1+(k:Int)<=r.1.2:=by omega
  have m:∀ j:Env,PvL.look j 0=some (.func (.yield l) [] [])->PvL.look j 1=some (.ptr (some (p,0)))->PvL.look j 3=some (I (r.1.1+(k:Int)+1))->Has j [(0,.func (.yield l) [] []),(1,.ptr (some (p,0))),(3,I (r.1.1+((k+1:Nat):Int)))]:=fun j x P Q=>
   .cons x (.cons P (.cons (by rw[Q,Int.natCast_add,Int.add_assoc];rfl) .nil))
  by_cases c:okRow (rowOf r (r.1.1+(k:Int)))=true
  ·have hx:((rowsL r).map fun t=>[rowv t])[(rowsK r k).length]?=some [rowv (rowOf r (r.1.1+(k:Int)))]:=by
    rw[List.getElem?_map];unfold rowsL;rw[zmb r (by omega) c];rfl
   have H:(rowsK r (k+1)).length=(rowsK r k).length+1:=by rw[z7c,if_pos c,List.length_append];rfl
   have u:iMax (iMax r.2.1.1 (r.2.2.1.1-(r.1.1+(k:Int)))) (r.1.1+(k:Int)-r.2.2.2.2)<=iMin (iMin r.2.1.2 (r.2.2.1.2-(r.1.1+(k:Int)))) (r.1.1+(k:Int)-r.2.2.2.1):=of_decide_eq_true c
   repeat' first|with_reducible intro _|refine sv ?_|((with_reducible first|apply zk|apply zp|apply zh);exact gd;exact rfl;exact rfl;(first|exact step _ _ hx _ (by omega) (o _ (xg))))|refine ss ?_ ?_<;>(intro h;first|exact sz h|refine sy h ?_)|exact sq|fail
   obtain⟨d,⟨rfl,y⟩|⟨rfl,R⟩⟩:=‹Keep A _ _/\_›
   ·have:=d.le
    refine Wh ?_;intro h
    refine zi (rowsN r-(k+1)) (by omega) ⟨k+1,rfl,by omega,rfl,m _ rfl rfl rfl,Keep.trans (xk) d (fun i q=>.inl q),by rw[H];exact y⟩
   ·have:=d.le
    refine Wh ?_;intro h
    refine kf ?_
    exact⟨Keep.trans (xk) d (fun i q=>.inl q),.inr R⟩
  ·have H:rowsK r (k+1)=rowsK r k:=by rw[z7c,if_neg c,List.append_nil]
   have u:iMin (iMin r.2.1.2 (r.2.2.1.2-(r.1.1+(k:Int)))) (r.1.1+(k:Int)-r.2.2.2.1)<iMax (iMax r.2.1.1 (r.2.2.1.1-(r.1.1+(k:Int)))) (r.1.1+(k:Int)-r.2.2.2.2):=by
    have:¬ _:=fun h=>c (decide_eq_true h)
    exact Int.not_le.1 this
   refine Wh ?_;intros
   refine zi (rowsN r-(k+1)) (by omega) ⟨k+1,rfl,by omega,rfl,m _ rfl rfl rfl,xk,by rw[H];exact o _ (xg)⟩
abbrev rowsV (p:Nat):LV:=.func (.func 249) [] [.ptr (some (p,0))]
abbrev endsV (p:Nat):LV:=.func (.func 199) [] [.ptr (some (p,0))]
theorem zpx (r:Rg)(M:Mem):zc Tryz.prog 200 [rgv r] M (MkAt rowsV (.cells true (rgc r) 208) M):=by
 refine zd Y200.2 rfl ?_
 delta Y200;refine un ?_
 refine Wh ?_;intros
 refine kf ?_
 exact⟨_,rfl,xm,by omega,by omega,xg⟩
theorem zu8 (r:Rg)(M:Mem):zc Tryz.prog 152 [rgv r] M (MkAt endsV (.cells true (rgc r) 208) M):=by
 refine zd Y152.2 rfl ?_
 delta Y152;refine un ?_
 refine Wh ?_;intros
 refine kf ?_
 exact⟨_,rfl,xm,by omega,by omega,xg⟩
set_option maxHeartbeats 4000000 in
theorem zwp (r:Rg)(hr:Sm 10000000 r)(hp:At M0 p (.cells own (rgc r) ty)) :
  PvL.Yields Tryz.prog 199 [] [.ptr (some (p,0))] (fun i=>i=p) ((endsL r).map fun q=>[ptv q]) M0:=by
 intro l A J D hA hS g m step h0
 have c8:¬ A p:=hS p rfl
 refine zd k199 rfl ?_
 dsimp only[x199,zS,zB,zC,zL,zN,zA,zE,zW,zI,zF,zM,zO,zH,zK,zX,zJ,zP,zY2,zY3,zY4,zY8,zT,zR,zU,zV,List.map_cons,List.map_nil,zipE,Nat.reduceAdd,List.nil_append,List.cons_append]
 repeat' first|with_reducible intro _|refine sv ?_|((with_reducible first|apply za8|apply z8u);exact gd;exact rfl;exact rfl;(first|exact zpx r _))|refine ss ?_ ?_<;>(intro h;first|exact sz h|refine sy h ?_)|exact sq|fail
 rename_i n1 Ma a0 e1 e2 p2 Mb b4 e3 c3 Z c5
 apply zeo
 exact rfl
 intro lb d u M1 P b3 hd e4 e5 hl e6 e7
 have ed:At P d .defr:=At.new_old hl (At.new_same hd)
 have el:At P u (lb .ready none):=At.new_same hl
 have a1:At P p2 (.cells true (rgc r) 208):=At.new_old hl (At.new_old hd b4)
 have hy:At P n1 (.cells true [.func (.yield l) [] []] _):=At.new_old hl (At.new_old hd (At.grow Z (At.new_same a0)))
 have b0:J 0 P:=g _ _ _ h0 (by omega) fun i c=>by
  rw[hl.grow.old i (by omega),hd.grow.old i (by omega),Z.old i (by omega),a0.grow.old i (by omega)]
 refine(zqx r hr a1 u (fun i=>A i∨i=u∨i=n1∨i=d)
  (fun k M=>J (endsOf ((rowsL r).take k)).length M/\At M u (lb .ready none)/\At M n1 (.cells true [.func (.yield l) [] []] _)/\At M d .defr)
  (fun M=>D M/\At M u (lb .done (some .ret))/\At M d .defr) ?_ ?_ ?_ ?_ ?_ ⟨b0,el,hy,ed⟩).mono ?_
 ·rintro i (c|rfl|rfl|rfl)
  ·have:=hA i c;omega
  all_goals omega
 ·rintro i rfl (c|c|c|c)
  ·have:=hA _ c;omega
  all_goals omega
 ·rintro k M a ⟨z,E,R,h4⟩ j o
  exact⟨g _ _ _ z j fun i c=>o i (by omega),E.same j (o _ (by omega)),R.same j (o _ (by omega)),h4.same j (o _ (by omega))⟩
 ·rintro M a ⟨z,E,R⟩ j o
  exact⟨m _ _ z j fun i c=>o i (by omega),E.same j (o _ (by omega)),R.same j (o _ (by omega))⟩
 ·rintro k x hx M j ⟨z,E,R,h4⟩
  rw[List.getElem?_map] at hx
  obtain⟨t,ht,rfl⟩:=Option.map_eq_some_iff.1 hx
  refine z5e b3 E rfl ?_
  dsimp only[zipP]
  have b2:∀ a,Keep (fun i=>i=u) M a->∀ i,i<M0.next->a.get i=M.get i:=fun a n i c=>n.old i (by omega) (by intro e;omega)
  have a9:∀ a,Keep (fun i=>i=u) M a->J (endsOf ((rowsL r).take k)).length a:=fun a n=>g _ _ _ z n.le (b2 a n)
  have a2:=zdk (rowsL r) ht
  have a4:=zfa (rowsL r) ht
  have b5:((endsL r).map fun q=>[ptv q])[(endsOf ((rowsL r).take k)).length]?=some [ptv (t.1,t.2.1)]:=by
   rw[List.getElem?_map];unfold endsL;rw[a2,List.getElem?_append_right (Nat.le_refl _),Nat.sub_self]
   unfold ends1
   split<;>rfl
  repeat' first|with_reducible intro _|refine sv ?_|((with_reducible first|apply zk|apply zp|apply zh);exact gd;exact rfl;exact rfl;(first|exact step _ _ b5 _ (by omega) (a9 _ (xk))))|refine ss ?_ ?_<;>(intro h;first|exact sz h|refine sy h ?_)|exact sq|fail
  rename_i w4 Q N
  obtain⟨F,N⟩:=N
  have b7:Keep (fun i=>A i∨i=u∨i=n1∨i=d) M Q:=Keep.trans (xk) F (fun i c=>.inl (.inl c))
  have c1:=F.le
  have c7:=F.weaken hA
  clear F
  rcases N with⟨rfl,V⟩|⟨rfl,a6⟩
  ·have X:∀ a,Keep (fun i=>i=u) Q a->J ((endsOf ((rowsL r).take k)).length+1) a:=fun a n=>g _ _ _ V n.le fun i c=>n.old i (by omega) (by intro e;omega)
   by_cases a5:t.2.1=t.2.2
   ·have he:ends1 t=[(t.1,t.2.1)]:=if_pos a5
    have y:(endsOf ((rowsL r).take (k+1))).length=(endsOf ((rowsL r).take k)).length+1:=by rw[a4,List.length_append,he];rfl
    refine Wh ?_;intros
    exact⟨xk,.inl ⟨rfl,by rw[y];exact X _ (xk),xm,xm,xm⟩⟩
   ·have he:ends1 t=[(t.1,t.2.1),(t.1,t.2.2)]:=if_neg a5
    have y:(endsOf ((rowsL r).take (k+1))).length=(endsOf ((rowsL r).take k)).length+1+1:=by rw[a4,List.length_append,he];rfl
    have b6:((endsL r).map fun q=>[ptv q])[(endsOf ((rowsL r).take k)).length+1]?=some [ptv (t.1,t.2.2)]:=by
     rw[List.getElem?_map];unfold endsL;rw[a2,List.getElem?_append_right (by omega),Nat.add_sub_cancel_left,he];rfl
    repeat' first|with_reducible intro _|refine sv ?_|((with_reducible first|apply zk|apply zp|apply zh);exact gd;exact rfl;exact rfl;(first|exact step _ _ b6 _ (by omega) V))|refine ss ?_ ?_<;>(intro h;first|exact sz h|refine sy h ?_)|exact sq|fail
    rename_i w5 H O
    obtain⟨G,O⟩:=O
    have b8:Keep (fun i=>A i∨i=u∨i=n1∨i=d) M H:=Keep.trans (xk) G (fun i c=>.inl (.inl c))
    have c2:=G.le
    have b9:=G.weaken hA
    clear G
    rcases O with⟨rfl,b1⟩|⟨rfl,a7⟩
    ·have Y:∀ a,Keep (fun i=>i=u) H a->J ((endsOf ((rowsL r).take k)).length+1+1) a:=fun a n=>g _ _ _ b1 n.le fun i c=>n.old i (by omega) (by intro e;omega)
     refine Wh ?_;intros
     exact⟨xk,.inl ⟨rfl,by rw[y];exact Y _ (xk),xm,xm,xm⟩⟩
    ·have U:∀ a,Keep (fun i=>i=u) H a->D a:=fun a n=>m _ _ a7 n.le fun i c=>n.old i (by omega) (by intro e;omega)
     refine Wh ?_;intros
     exact⟨xk,.inr ⟨rfl,U _ (xk),xm,xm⟩⟩
  ·have S:∀ a,Keep (fun i=>i=u) Q a->D a:=fun a n=>m _ _ a6 n.le fun i c=>n.old i (by omega) (by intro e;omega)
   refine Wh ?_;intros
   exact⟨xk,.inr ⟨rfl,S _ (xk),xm,xm⟩⟩
 ·rintro v M3 ⟨hk,w⟩
  have c4:Keep A M0 M3:=Keep.trans (xk) hk (by rintro i (c|rfl|rfl|rfl)<;>first|exact .inl c|exact .inr (by omega))
  have c0:=hk.le
  clear hk
  have a3:∀ a,Keep (fun i=>i=u∨i=d) M3 a->∀ i,i<M0.next->a.get i=M3.get i:=fun a n i c=>n.old i (by omega) (by rintro(e|e)<;>omega)
  rcases w with⟨z,E,R,h4⟩|⟨z,E,h4⟩
  ·refine z9c E (by simp) fun Q hu e8 a8=>?_
   refine Wh ?_
   refine z1y (.inl rfl) (by simp) (by intro q w;obtain rfl:=List.mem_singleton.1 w;exact xm) fun H L=>⟨_,.nil,?_⟩
   have K:Keep A M0 H:=Keep.unmark (xk) L (by intro q w;obtain rfl:=List.mem_singleton.1 w;right;omega)
   refine⟨K,.inl ?_⟩
   rw[List.length_map]
   rw[show(endsL r).length=(endsOf ((rowsL r).take ((rowsL r).map fun t=>[rowv t]).length)).length by rw[List.length_map,List.take_length];rfl]
   exact g _ _ _ z (by rw[L.next];omega) (a3 _ (Keep.unmark (xk) L (by intro q w;obtain rfl:=List.mem_singleton.1 w;exact .inl (.inr rfl))))
  ·refine z77 E (by simp) fun Q hu e8 a8=>?_
   refine Wh ?_
   refine z1y (.inr rfl) (by simp) (by intro q w;obtain rfl:=List.mem_singleton.1 w;exact xm) fun H L=>⟨_,.nil,?_⟩
   have K:Keep A M0 H:=Keep.unmark (xk) L (by intro q w;obtain rfl:=List.mem_singleton.1 w;right;omega)
   refine⟨K,.inr ?_⟩
   exact m _ _ z (by rw[L.next];omega) (a3 _ (Keep.unmark (xk) L (by intro q w;obtain rfl:=List.mem_singleton.1 w;exact .inl (.inr rfl))))
structure Gv where
 gf:FuncId
 ca:List LV
 S:Nat->Prop
 pts:List (Int × Int)
abbrev Gv.lv (g:Gv):LV:=.func (.func g.gf) [] g.ca
theorem zc2:∀ ds:List Nat,dnat (ds.map .mark)=ds
 | []=>rfl
 | d::ds=>by show d::dnat (ds.map .mark)=_;rw[zc2 ds]
theorem zlq:∀ ds:List Nat,onlyMarks (ds.map .mark)=true
 | []=>rfl
 | d::ds=>zlq ds
set_option maxHeartbeats 4000000 in
theorem zuc (a:List Gv){o:Nat}(hs:∀ k (hk:k<a.length),Rd1 M0 s (o+k*1) a[k].lv)(b4:a.length<=1000000)(hy:∀ g∈a,∀ M',Grow M0 M'->PvL.Yields Tryz.prog g.gf [] g.ca g.S (g.pts.map fun p=>[ptv p]) M')(hS:∀ g∈a,∀ i,g.S i->i<M0.next)(hp:∀ g∈a,∀ p∈g.pts,SmP 1000000 p) :
  zc Tryz.prog 87 [.slice (some (s,o)) a.length f e] M0 (fun w M'=>w=.tup [rgv ((hullO none (a.flatMap (·.pts))).getD zRg),.bool (hullO none (a.flatMap (·.pts))).isSome]/\Grow M0 M'):=by
 refine zd Y87.2 rfl ?_
 delta Y87;refine un ?_
 refine Wh ?_;intro Y M1 b2 e1 e2 Z M2 b3 e3 e4
 refine zg (fun n E ms M=>∃(k:Nat) (y:List Nat),n=a.length-k/\k<=a.length/\ms=y.map .mark/\y.Nodup/\(∀ d∈y,At M d .defr/\M2.next<=d) /\
   Has E [(2,.ptr (some (Y,0))),(3,.ptr (some (Z,0))),(7,.slice (some (s,o)) a.length f e),(8,I a.length),(9,I k)]/\Grow M0 M/\M2.next<=M.next /\
   At M Y (.cells true (rgc ((hullO none ((a.take k).flatMap (·.pts))).getD zRg)) 208)/\At M Z (.cells true [.bool (hullO none ((a.take k).flatMap (·.pts))).isSome] 4))
  ?_ a.length _ _ _ ⟨0,[],by omega,by omega,rfl,List.nodup_nil,fun d H=>(by cases H),hz,xg,by omega,xm,xm⟩
 rintro n E _ M ⟨k,y,rfl,hk,rfl,U,u,hE,hg,b1,a7,a8⟩
 refine z06 hE ?_
 by_cases K:k=a.length
 ·subst K
  refine Wh ?_;intro h M5 _ _ _ M6 _ _ _
  refine z1y (.inr rfl) (by rw[zc2];exact U) (by rw[zc2];intro d H;obtain⟨F,G⟩:=u d H;exact xm) (fun M7 hm=>?_) (zlq y)
  rw[zc2] at hm
  have R:Y∉y:=fun h=>by have:=(u _ h).2;omega
  have S:Z∉y:=fun h=>by have:=(u _ h).2;omega
  have a2:At M6 Y (.cells true (rgc ((hullO none ((a.take a.length).flatMap (·.pts))).getD zRg)) 208):=xm
  have a3:At M6 Z (.cells true [.bool (hullO none ((a.take a.length).flatMap (·.pts))).isSome] 4):=xm
  refine⟨_,.cellN rfl (Rd.of_at (a2.unmark hm R) rfl).1 (.cell1 rfl (Rd1.of_at (a3.unmark hm S) rfl).1 .nil),?_,Grow.unmark (xg) hm (fun d H=>by have:=(u d H).2;omega)⟩
  rw[List.take_length];rfl
 ·have L:k<a.length:=by omega
  have A:a[k]∈a:=List.getElem_mem L
  have N:(a.take (k+1)).flatMap (·.pts)=(a.take k).flatMap (·.pts)++a[k].pts:=by rw[List.take_succ_eq_append_getElem L,List.flatMap_append];simp
  have a6:=hs k L;refine Wh ?_;intro h
  apply zeo
  exact rfl
  intro lb d l M3 M4 a0 H e5 e6 hl e7 e8
  have m:∀ j∈d::y,At M4 j .defr/\M2.next<=j/\j<l:=fun j c=>by
   rcases List.mem_cons.1 c with rfl|c
   ·exact⟨At.new_old hl (At.new_same H),by omega,by omega⟩
   ·obtain⟨F,G⟩:=u j c
    have:=F.lt
    exact⟨At.new_old hl (At.new_old H F),G,by omega⟩
  have V:(d::y).Nodup:=List.nodup_cons.2 ⟨fun h=>by have:=(u d h).1.lt;omega,U⟩
  refine(hy a[k] A M4 (xg) l (fun i=>M0.next<=i/\i<M4.next)
   (fun q M=>At M Y (.cells true (rgc ((hullO (hullO none ((a.take k).flatMap (·.pts))) (a[k].pts.take q)).getD zRg)) 208)/\At M Z (.cells true [.bool (hullO (hullO none ((a.take k).flatMap (·.pts))) (a[k].pts.take q)).isSome] 4)/\At M l (lb .ready none) /\ ∀ j∈d::y,At M j .defr)
   (fun _=>False) ?_ ?_ ?_ ?_ ?_ ⟨xm,xm,xm,fun j c=>(m j c).1⟩).mono ?_
  ·rintro i ⟨F,G⟩;exact G
  ·intro i Q h
   have:=hS a[k] A i Q
   omega
  ·rintro q M M' ⟨F,G,P,O⟩ t D
   exact⟨F.same t (D _ (by omega)),G.same t (D _ (by omega)),P.same t (D _ (by omega)),fun j c=>(O j c).same t (D _ (by have:=(m j c).2.2;omega))⟩
  ·intro M M' h;exact h.elim
  ·rintro q x hx M' t ⟨F,G,P,O⟩
   rw[List.getElem?_map] at hx
   obtain⟨p,X,rfl⟩:=Option.map_eq_some_iff.1 hx
   have a1:SmP 1000000 p:=hp a[k] A p (List.mem_of_getElem? X)
   have a4:=zii (hullO none ((a.take k).flatMap (·.pts))) a[k].pts X
   rw[a4]
   generalize hullO (hullO none ((a.take k).flatMap (·.pts))) (a[k].pts.take q)=oq at *
   unfold SmP at a1
   refine z5e a0 P rfl ?_
   dsimp only[zipP]
   cases oq with
   | none=>
    repeat' first|with_reducible intro _|refine sv ?_|((with_reducible first|apply zw|apply zx|apply zm);exact gd;exact rfl;exact rfl;(first|exact c_of p (by omega) _|exact z4k (ofP p) (ofP p) _))|refine ss ?_ ?_<;>(intro h;first|exact sz h|refine sy h ?_)|exact sq|fail
    exact⟨xk,.inl ⟨rfl,xm,xm,xm,fun j c=>by have hq:=O j c;obtain⟨_,q1,q2⟩:=m j c;exact xm⟩⟩
   | some r=>
    repeat' first|with_reducible intro _|refine sv ?_|((with_reducible first|apply zw|apply zx|apply zm);exact gd;exact rfl;exact rfl;(first|exact c_of p (by omega) _|exact z4k r (ofP p) _))|refine ss ?_ ?_<;>(intro h;first|exact sz h|refine sy h ?_)|exact sq|fail
    exact⟨xk,.inl ⟨rfl,xm,xm,xm,fun j c=>by have hq:=O j c;obtain⟨_,q1,q2⟩:=m j c;exact xm⟩⟩
  ·rintro v M5 ⟨J,⟨F,G,P,O⟩|h⟩
   ·have b0:Grow M0 M5:=(Grow.to_keep (xg) (fun _=>False) |>.trans J (fun i Q=>.inr Q.1)).to_grow (fun i Q=>Q.elim)
    have a5:=J.le
    have z:hullO none ((a.take (k+1)).flatMap (·.pts))=hullO (hullO none ((a.take k).flatMap (·.pts))) (a[k].pts.take (a[k].pts.map fun p=>[ptv p]).length):=by
     rw[N,List.length_map,List.take_length];unfold hullO;rw[List.foldl_append]
    clear J
    refine z9c P (by simp) fun M6 hu e9 a9=>?_
    refine Wh ?_
    refine zi (a.length-(k+1)) (by omega) ⟨k+1,d::y,rfl,by omega,rfl,V,fun j c=>⟨by have hq:=O j c;obtain⟨_,q1,q2⟩:=m j c;exact xm,(m j c).2.1⟩,hz,xg,by omega,?_,?_⟩
    ·rw[z];exact xm
    ·rw[z];exact xm
   ·exact h.elim
theorem zrg (r:Rg)(d:Sm 500000 r)(c:At M0 p (.cells own (rgc r) ty))(u:Rd1 M0 s 0 (endsV p)) :
  zc Tryz.prog 87 [.slice (some (s,0)) 1 f e] M0 (fun w M'=>w=.tup [rgv ((tightO r).getD zRg),.bool (tightO r).isSome]/\Grow M0 M'):=by
 have h:=zuc [⟨199,[.ptr (some (p,0))],(fun i=>i=p),endsL r⟩] (s:=s) (o:=0) (f:=f) (e:=e) (M0:=M0)
  (fun k n=>by obtain rfl:k=0:=by simpa using n
               exact u) (by simp)
  (fun g a M' j=>by obtain rfl:=List.mem_singleton.1 a;exact zwp r (d.mono (by omega)) (At.grow j c))
  (fun g a i m=>by obtain rfl:=List.mem_singleton.1 a;obtain rfl:i=p:=m;exact c.2)
  (fun g a q t=>by obtain rfl:=List.mem_singleton.1 a;exact(zkm d t).mono (by omega))
 rw[show List.flatMap (fun x:Gv=>x.pts) [⟨199,[.ptr (some (p,0))],(fun i=>i=p),endsL r⟩]=endsL r by simp] at h
 exact h
theorem z71 (r:Rg)(a:Sm 500000 r)(M:Mem):zc Tryz.prog 93 [rgv r] M (fun w M'=>w=.tup [rgv ((tightO r).getD zRg),I (eTi r)]/\Grow M M'):=by
 refine zd Y93.2 rfl ?_
 delta Y93;refine un ?_
 repeat' first|with_reducible intro _|refine sv ?_|((with_reducible first|apply zw|apply zx|apply zm);exact gd;exact rfl;exact rfl;(first|exact zrg r a (xm) (Rd1.of_at (At.new_same (by assumption)) rfl)))|((with_reducible first|apply za8|apply z8u);exact gd;exact rfl;exact rfl;(first|exact zu8 r _))|refine ss ?_ ?_<;>(intro h;first|exact sz h|refine sy h ?_)|exact sq|fail
 all_goals (refine kf ?_)
 all_goals refine⟨?_,xg⟩
 all_goals (unfold eTi;cases c:tightO r<;>first|rfl|(simp[c] at *;done))
theorem zjw (r:Rg)(e:Int)(M:Mem):zc Tryz.prog 96 [rgv r,I e] M (fun w M'=>w=resv (if e=0 then(r,0) else(zRg,e))/\Grow M M'):=by
 refine zd Y96.2 rfl ?_
 delta Y96;refine un ?_
 repeat' first|with_reducible intro _|refine sv ?_|((with_reducible first|apply zw|apply zx|apply zm);exact gd;exact rfl;exact rfl;(first|exact zni r _))|refine ss ?_ ?_<;>(intro h;first|exact sz h|refine sy h ?_)|exact sq|fail
 all_goals (refine kf ?_)
 all_goals refine⟨?_,xg⟩
 ·rw[if_neg (by omega)];rfl
 ·rw[if_pos (by omega)];rfl
theorem zf0 (r:Rg)(M:Mem):zc Tryz.prog 264 [rgv r] M (fun w M'=>w=resv (tightF r)/\Grow M M'):=by
 refine zd Y264.2 rfl ?_
 delta Y264;refine un ?_
 by_cases a:RgOk r
 ·have c:eRg r=0:=if_pos a
  repeat' first|with_reducible intro _|refine sv ?_|((with_reducible first|apply zw|apply zx|apply zm);exact gd;exact rfl;exact rfl;(first|exact z2v r _|exact z3v r _|exact z71 r (a.sm.mono (by omega)) _|exact zjw ((tightO r).getD zRg) (eTi r) _))|refine ss ?_ ?_<;>(intro h;first|exact sz h|refine sy h ?_)|exact sq|fail
  all_goals (refine kf ?_)
  all_goals refine⟨?_,xg⟩
  all_goals (unfold tightF eTi;rw[if_pos a];cases tightO r<;>rfl)
 ·have c:eRg r=11:=if_neg a
  repeat' first|with_reducible intro _|refine sv ?_|((with_reducible first|apply zw|apply zx|apply zm);exact gd;exact rfl;exact rfl;(first|exact z2v r _))|refine ss ?_ ?_<;>(intro h;first|exact sz h|refine sy h ?_)|exact sq|fail
  all_goals (refine kf ?_)
  all_goals refine⟨?_,xg⟩
  all_goals (unfold tightF;rw[if_neg a,c];rfl)
end Go.Proofs.YtpgalhbplcanhaaGreatDoor.C
end
section
open Go PvL Go.Proofs
set_option maxHeartbeats 4000000
namespace Go.Proofs.YtpgalhbplcanhaaGreatDoor.C
theorem z83(a b:Int){s:Nat}{f:Bool}{e:Nat}{M:Mem}(c:Rd1 M s 0 (I a))(h1:Rd1 M s 1 (I b)):zc Tryz.prog 269 [.slice (some (s,0)) 2 f e] M (fun w M'=>w=I (if a=0 then b else a)/\M'=M):=by
 refine zd Y269.2 rfl ?_
 delta Y269;refine un ?_
 repeat' first|with_reducible intro _|refine sv ?_|refine su ?_|refine ss ?_ ?_<;>(intro h;first|exact sz h|refine sy h ?_)|exact sq|fail
 all_goals (refine kf ?_)
 all_goals refine⟨?_,rfl⟩
 ·rw[if_neg (by omega)];rfl
 ·rw[if_pos (by omega)];rfl
 ·rw[if_pos (by omega)];exact congrArg I (by omega)
end Go.Proofs.YtpgalhbplcanhaaGreatDoor.C
end
section
open Go PvL Go.Proofs
namespace Go.Proofs.YtpgalhbplcanhaaGreatDoor.C
def mnsB(a b:Bnd):Bnd:=(a.1-b.2,a.2-b.1)
def cutB(a b:Bnd):Bnd:=(iMax a.1 b.1,iMin a.2 b.2)
theorem zng(a a' b b':Int)(h1:-1000000<=a/\a<=1000000)(c:-1000000<=a'/\a'<=1000000)(d:-1000000<=b/\b<=1000000)(g:-1000000<=b'/\b'<=1000000)(M:Mem):zc Tryz.prog 307 [.agg [I a,I a'],.agg [I b,I b']] M (fun w M'=>w=.agg [I (a-b'),I (a'-b)]/\Grow M M'):=by
 refine zd Y307.2 rfl ?_
 delta Y307;refine un ?_
 refine Wh ?_;intros
 refine kf ?_
 exact⟨rfl,xg⟩
theorem zad(r q:Rg)(c:Sm 1000000 r)(a:Sm 1000000 q)(M:Mem):zc Tryz.prog 149 [rgv r,rgv q,.func (.func 307) [] []] M (fun w M'=>w=rgv (map4 mnsB r q)/\Grow M M'):=by
 unfold Sm at c a
 refine zd Y149.2 rfl ?_
 delta Y149;refine un ?_
 repeat' first|with_reducible intro _|refine sv ?_|refine su ?_|((with_reducible first|apply zw|apply zx|apply zm);exact gd;exact rfl;exact rfl;(first|exact zng _ _ _ _ (by omega) (by omega) (by omega) (by omega) _))|refine ss ?_ ?_<;>(intro h;first|exact sz h|refine sy h ?_)|exact sq|fail
 refine kf ?_
 exact⟨rfl,xg⟩
theorem zu7(a a' b b':Int)(M:Mem):zc Tryz.prog 359 [.agg [I a,I a'],.agg [I b,I b']] M (fun w M'=>w=.agg [I (iMax a b),I (iMin a' b')]/\Grow M M'):=by
 refine zd Y359.2 rfl ?_
 delta Y359;refine un ?_
 refine Wh ?_;intros
 refine kf ?_
 exact⟨rfl,xg⟩
theorem z8n(r q:Rg)(M:Mem):zc Tryz.prog 149 [rgv r,rgv q,.func (.func 359) [] []] M (fun w M'=>w=rgv (map4 cutB r q)/\Grow M M'):=by
 refine zd Y149.2 rfl ?_
 delta Y149;refine un ?_
 repeat' first|with_reducible intro _|refine sv ?_|refine su ?_|((with_reducible first|apply zw|apply zx|apply zm);exact gd;exact rfl;exact rfl;(first|exact zu7 _ _ _ _ _))|refine ss ?_ ?_<;>(intro h;first|exact sz h|refine sy h ?_)|exact sq|fail
 refine kf ?_
 exact⟨rfl,xg⟩
theorem zuq{B:Int}{a b:Rg}(c:Sm B a)(d:Sm B b):Sm B (map4 cutB a b):=by
 unfold Sm at *
 unfold map4 cutB iMax iMin
 dsimp only
 omega
def RgR(w:LV):Prop:=∃(r:Rg) (e:Int),w=.tup [rgv r,I e]
theorem zr9(a b:Rg)(M:Mem):zc Tryz.prog 343 [rgv a,rgv b] M (fun w M'=>RgR w/\Grow M M'):=by
 refine zd Y343.2 rfl ?_
 delta Y343;refine un ?_
 by_cases c:RgOk a/\RgOk b
 ·have n:eRg a=0:=if_pos c.1
  have g:eRg b=0:=if_pos c.2
  have j:(if eRg a=0 then eRg b else eRg a)=0:=by rw[n,g];rfl
  have i:=zuq (c.1.sm.mono (by omega:(65536:Int)<=500000)) (c.2.sm.mono (by omega:(65536:Int)<=500000))
  repeat' first|with_reducible intro _|refine sv ?_|((with_reducible first|apply z01|apply z05|apply zr);exact gd;exact rfl;exact rfl;(first|exact z83 _ _ (Rd1.of_at (At.new_same (by assumption)) rfl) (Rd1.of_at (At.new_same (by assumption)) rfl)))|((with_reducible first|apply zw|apply zx|apply zm);exact gd;exact rfl;exact rfl;(first|exact z2v a _|exact z2v b _|exact z3v a _|exact z3v b _|exact z8n a b _|exact z71 (map4 cutB a b) i _|exact zjw ((tightO (map4 cutB a b)).getD zRg) (eTi (map4 cutB a b)) _))|refine ss ?_ ?_<;>(intro h;first|exact sz h|refine sy h ?_)|exact sq|fail
  all_goals (refine kf ?_)
  all_goals exact⟨⟨_,_,rfl⟩,xg⟩
 ·have j:(if eRg a=0 then eRg b else eRg a)=11:=by
   unfold eRg
   by_cases d:RgOk a
   ·rw[if_pos d,if_pos rfl,if_neg (fun m=>c ⟨d,m⟩)]
   ·rw[if_neg d];rfl
  repeat' first|with_reducible intro _|refine sv ?_|((with_reducible first|apply z01|apply z05|apply zr);exact gd;exact rfl;exact rfl;(first|exact z83 _ _ (Rd1.of_at (At.new_same (by assumption)) rfl) (Rd1.of_at (At.new_same (by assumption)) rfl)))|((with_reducible first|apply zw|apply zx|apply zm);exact gd;exact rfl;exact rfl;(first|exact z2v a _|exact z2v b _))|refine ss ?_ ?_<;>(intro h;first|exact sz h|refine sy h ?_)|exact sq|fail
  all_goals (refine kf ?_)
  all_goals exact⟨⟨zRg,_,rfl⟩,xg⟩
def pwW(j:Nat):Int:=((2^j:Nat):Int)
theorem zoq(j:Nat):pwW (j+1)=2*pwW j:=by unfold pwW;rw[Nat.pow_succ];omega
theorem zsu(j:Nat):0<pwW j:=by unfold pwW;have:0<2^j:=Nat.pow_pos (by omega);omega
theorem zvg{j k:Nat}(h:j<=k):pwW j<=pwW k:=by unfold pwW;have:=Nat.pow_le_pow_right (n:=2) (by omega) h;omega
def p2W:Nat->Int | 0=>0|j+1=>pwW j
theorem zoo(j:Nat):p2W (j+1)/2=p2W j:=by
 cases j with
 | zero=>decide
 | succ j=>show pwW (j+1)/2=pwW j;rw[zoq];omega
theorem mulW{a b A:Int}(h1:0<=a)(d:a<=A)(c:0<=b)(g:b<=A):0<=a*b/\a*b<=A*A :=
 ⟨Int.mul_nonneg h1 c,Int.mul_le_mul d g c (by omega)⟩
theorem sqW{r:Int}(g:0<=r)(h:r*r<=1099511627776):r<=1048576:=by
 by_cases i:r<=1048576
 ·exact i
 ·have:=Int.mul_le_mul (a:=1048577) (b:=1048577) (c:=r) (d:=r) (by omega) (by omega) (by omega) g
  omega
set_option maxHeartbeats 1000000 in
theorem zrj(n:Int)(z:0<=n/\n<=1099511627776)(M:Mem):zc Tryz.prog 153 [I n] M (fun w M'=>(∃ r:Int,w=I r/\0<=r/\r<=1048576)/\M'=M):=by
 refine zd Y153.2 rfl ?_
 delta Y153;refine un ?_
 refine Wh ?_
 refine zg (fun m E i M'=>∃(j:Nat) (r:Int),m=j/\j<=21/\i=[]/\Has E [(0,I n),(3,I r),(4,I (p2W j))]/\M'=M/\0<=r/\r<=1048576/\r*r<=n) ?_ 21 _ _ _
  ⟨21,0,rfl,by omega,rfl,hz,rfl,by omega,by omega,by omega⟩
 rintro j E i v ⟨_,r,rfl,y,rfl,q,rfl,d,g,o⟩
 refine z06 q ?_
 cases j with
 | zero=>
  rw[show p2W 0=0 from rfl]
  refine Wh ?_;intros
  refine kf ?_
  exact⟨⟨r,rfl,d,g⟩,rfl⟩
 | succ j=>
  have c:=zoo j
  have u:=zsu j
  have t:pwW j<=1048576:=zvg (k:=20) (by omega)
  rw[show p2W (j+1)=pwW j from rfl] at c ⊢
  have x:=mulW (a:=r+pwW j) (b:=r+pwW j) (A:=2097152) (by omega) (by omega) (by omega) (by omega)
  repeat' first|with_reducible intro _|refine sv ?_|refine ss ?_ ?_<;>(intro h;first|exact sz h|refine sy h ?_)|exact sq|fail
  ·refine zi j (by omega) ⟨j,r+pwW j,rfl,by omega,rfl,.cons rfl (.cons rfl (.cons (by rw[<-c];rfl) .nil)),rfl,by omega,sqW (by omega) (by omega),by assumption⟩
  ·exact zi j (by omega) ⟨j,r,rfl,by omega,rfl,.cons rfl (.cons rfl (.cons (by rw[<-c];rfl) .nil)),rfl,d,g,o⟩
set_option maxHeartbeats 1000000 in
theorem zf2(n:Int)(H:0<=n/\n<=256)(M:Mem):zc Tryz.prog 94 [I n] M (fun w M'=>(∃ r:Int,w=I r/\0<=r/\r<=1048576)/\M'=M):=by
 have q:=mulW (a:=n) (b:=n) (A:=256) (by omega) (by omega) (by omega) (by omega)
 have i:0<=2*n*n/\2*n*n<=200000:=by rw[Int.mul_assoc];omega
 refine zd Y94.2 rfl ?_
 delta Y94;refine un ?_
 repeat' first|with_reducible intro _|refine sv ?_|((with_reducible first|apply zk|apply zp|apply zh);exact gd;exact rfl;exact rfl;(first|exact zrj (2*n*n) (by omega) _))|refine ss ?_ ?_<;>(intro h;first|exact sz h|refine sy h ?_)|exact sq|fail
 rename_i w g t
 obtain⟨⟨r,rfl,c,u⟩,rfl⟩:=t
 refine Wh ?_
 obtain⟨k,rfl⟩:=Int.eq_ofNat_of_zero_le c
 refine zg (fun m E d M'=>∃ j:Nat,m=j/\j<=1048576/\d=[]/\Has E [(0,I n),(3,I j)]/\M'=g) ?_ k _ _ _ ⟨k,rfl,by omega,rfl,.cons rfl (.cons rfl .nil),rfl⟩
 clear c u
 rintro j E d v ⟨_,rfl,G,rfl,o,rfl⟩
 refine z06 o ?_
 have x:=mulW (a:=(j:Int)/2) (b:=(j:Int)/2) (A:=1048576) (by omega) (by omega) (by omega) (by omega)
 have y:=mulW (a:=(j:Int)-(j:Int)/2) (b:=(j:Int)-(j:Int)/2) (A:=1048576) (by omega) (by omega) (by omega) (by omega)
 cases j with
 | zero=>
  have z:((0:Nat):Int)/2=0:=by decide
  have D:(((0:Nat):Int)-((0:Nat):Int)/2)*(((0:Nat):Int)-((0:Nat):Int)/2)=0:=by decide
  have F:((0:Nat):Int)/2*(((0:Nat):Int)/2)=0:=by decide
  refine Wg ?_;intros
  refine kf ?_
  exact⟨⟨0,rfl,by omega,by omega⟩,rfl⟩
 | succ j=>
  repeat' first|with_reducible intro _|refine sv ?_|refine ss ?_ ?_<;>(intro h;first|exact sz h|refine sy h ?_)|exact sq|fail
  ·exact zi j (by omega) ⟨j,rfl,by omega,rfl,.cons rfl (.cons (by show some (I _)=_;congr 2;omega) .nil),rfl⟩
  ·refine kf ?_
   exact⟨⟨_,rfl,by omega,by omega⟩,rfl⟩
abbrev clW(l x:Int):LV:=I (iMax (-l) (iMin x l))
abbrev rchW(a b c d e f g h n m:Int):Nat->List LV
 | 0=>[I a,I b,I c,I d,I e,I f,I g,I h]
 | 1=>[clW 32768 (a-n),clW 32768 (b+n),I c,I d,I e,I f,I g,I h]
 | 2=>[clW 32768 (a-n),clW 32768 (b+n),clW 32768 (c-n),clW 32768 (d+n),I e,I f,I g,I h]
 | 3=>[clW 32768 (a-n),clW 32768 (b+n),clW 32768 (c-n),clW 32768 (d+n),clW 65536 (e-m),clW 65536 (f+m),I g,I h]
 | _=>[clW 32768 (a-n),clW 32768 (b+n),clW 32768 (c-n),clW 32768 (d+n),clW 65536 (e-m),clW 65536 (f+m),clW 65536 (g-m),clW 65536 (h+m)]
def clB(l a b:Int):Bnd:=(iMax (-l) (iMin a l),iMax (-l) (iMin b l))
def rchB(a b c d e f g h n m:Int):Rg:=(clB 32768 (a-n) (b+n),clB 32768 (c-n) (d+n),clB 65536 (e-m) (f+m),clB 65536 (g-m) (h+m))
theorem zsv{a b c d e f g h n m:Int}:Sm 500000 (rchB a b c d e f g h n m):=by
 unfold Sm rchB clB iMax iMin
 dsimp only
 omega
set_option maxHeartbeats 2000000 in
theorem zbt(r:Rg){n:Int}(hn:0<=n/\n<=256)(M:Mem):zc Tryz.prog 33 [rgv r,I n] M (fun w M'=>RgR w/\Grow M M'):=by
 have P:=fun M'=>z2v r M'
 have cb:=fun M'=>z3v r M'
 refine zd k33 rfl ?_
 delta x33;refine un ?_
 by_cases J:RgOk r
 rotate_left
 ·rw[show eRg r=11 from if_neg J] at P
  refine Wpg @P ?_;intros;rename_i h _ _ _ _
  refine kf ?_
  exact⟨⟨zRg,_,rfl⟩,xg⟩
 rw[show eRg r=0 from if_pos J] at P
 have Q:=fun M'=>z71 r (J.sm.mono (by omega)) M'
 have R:=z8a (J.sm)
 have cf:=fun M'=>zf2 n hn M'
 have K:=fun(l m:Int) (h:0<=l/\l<=1000000) M'=>zrh l m h M'
 have cw:=fun M'=>zk4 n 0 32768 M'
 generalize (tightO r).getD zRg=t at *
 obtain⟨⟨c,d⟩,⟨g,i⟩,⟨j,o⟩,q,u⟩:=t
 unfold Sm at R
 dsimp only at R
 by_cases Y:eTi r=0
 rotate_left
 ·generalize eTi r=er at *
  repeat' first|with_reducible intro _|refine sv ?_|((with_reducible first|apply z01|apply z05|apply zr);exact gd;exact rfl;exact rfl;(first|exact cw _))|((with_reducible first|apply zw|apply zx|apply zm);exact gd;exact rfl;exact rfl;(first|exact P _|exact cb _|exact Q _))|refine ss ?_ ?_<;>(intro h;first|exact sz h|refine sy h ?_)|exact sq|fail
  all_goals try(exfalso;omega)
  refine kf ?_
  exact⟨⟨zRg,_,rfl⟩,xg⟩
 rw[Y] at Q
 have Q:∀ M',zc Tryz.prog 93 [rgv r] M' (fun w O=>w=.tup [.agg [I c,I d,I g,I i,I j,I o,I q,I u],I 0]/\Grow M' O):=Q
 repeat' first|with_reducible intro _|refine sv ?_|((with_reducible first|apply z01|apply z05|apply zr);exact gd;exact rfl;exact rfl;(first|exact cw _))|((with_reducible first|apply zw|apply zx|apply zm);exact gd;exact rfl;exact rfl;(first|exact P _|exact cb _|exact Q _))|((with_reducible first|apply zk|apply zp|apply zh);exact gd;exact rfl;exact rfl;(first|exact cf _))|refine ss ?_ ?_<;>(intro h;first|exact sz h|refine sy h ?_)|exact sq|fail
 all_goals try(exfalso;omega)
 rename_i n2 M1 u1 u2 u3 N M2 u4 u5 u6 M3 u7 u8 b1 b2 M4 u9 b5 M5 Z b6 D M6 a0 b7 b8 M7 a1 b9 a2 w Mf hq
 obtain⟨⟨m,rfl,a9,b0⟩,rfl⟩:=hq
 have V:∀ M',zc Tryz.prog 93 [.agg [clW 32768 (c-n),clW 32768 (d+n),clW 32768 (g-n),clW 32768 (i+n),clW 65536 (j-m),clW 65536 (o+m),clW 65536 (q-m),clW 65536 (u+m)]] M' (fun w O=>w=.tup [rgv ((tightO (rchB c d g i j o q u n m)).getD zRg),I (eTi (rchB c d g i j o q u n m))]/\Grow M' O):=fun M'=>z71 _ zsv M'
 generalize (tightO (rchB c d g i j o q u n m)).getD zRg=rb at *
 generalize eTi (rchB c d g i j o q u n m)=eb at *
 have cd:=fun M'=>zjw rb eb M'
 refine Wh ?_;intro x M8 a3 c0 c1 y M9 a4 c2 c3 a8 a5 c4 a6 A a7 c5 S
 have U:At A N (.cells true [I 0,I 0,I 0,I 0,I 0,I 0,I 0,I 0] 28):=xm
 have v:At A D (.cells true (rchW c d g i j o q u n m 0) 208):=xm
 have F:At A x (.cells true [I 32768,I 32768,I 65536,I 65536] 219):=xm
 have G:At A y (.cells true [I n,I n,I m,I m] 220):=S
 have X:Grow M A:=xg
 clear u1 u4 u7 u9 Z a0 a1 a3 a4 a5 a7
 have q4:=U.2
 have q7:=v.2
 have b3:=F.2
 have b4:=G.2
 refine zg (fun z E ms M'=>∃ k:Nat,z=4-k/\k<=4/\ms=[]/\Has E [(4,.ptr (some (N,0))),(7,.ptr (some (D,0))),(10,.ptr (some (x,0))),(11,.ptr (some (y,0))),(42,.agg [I c,I d,I g,I i,I j,I o,I q,I u]),(43,I k)]/\Grow M M'/\A.next<=M'.next/\At M' N (.cells true [I 0,I 0,I 0,I 0,I 0,I 0,I 0,I 0] 28)/\At M' D (.cells true (rchW c d g i j o q u n m k) 208)/\At M' x (.cells true [I 32768,I 32768,I 65536,I 65536] 219)/\At M' y (.cells true [I n,I n,I m,I m] 220))
  ?_ 4 _ _ _ ⟨0,rfl,by omega,rfl,hz,X,Nat.le_refl _,U,v,F,G⟩
 clear U v F G S a6 a2
 rintro z E ms H ⟨k,rfl,L,rfl,a,g5,l5,U,v,F,G⟩
 match k,L,a,v with
 | 0,L,a,v=>
  have a:Has E [(4,.ptr (some (N,0))),(7,.ptr (some (D,0))),(10,.ptr (some (x,0))),(11,.ptr (some (y,0))),(42,.agg [I c,I d,I g,I i,I j,I o,I q,I u]),(43,I 0)]:=a
  have v:At H D (.cells true [I c,I d,I g,I i,I j,I o,I q,I u] 208):=v
  refine z06 a ?_
  repeat' first|with_reducible intro _|refine sv ?_|((with_reducible first|apply z01|apply z05|apply zr);exact gd;exact rfl;exact rfl;(first|exact K 32768 (c-n) (by omega) _|exact K 32768 (d+n) (by omega) _))|refine ss ?_ ?_<;>(intro h;first|exact sz h|refine sy h ?_)|exact sq|fail
  all_goals try(exfalso;omega)
  refine zi 3 (by omega) ⟨1,rfl,by omega,rfl,hz,xg,by omega,xm,xm,xm,xm⟩
 | 1,L,a,v=>
  have a:Has E [(4,.ptr (some (N,0))),(7,.ptr (some (D,0))),(10,.ptr (some (x,0))),(11,.ptr (some (y,0))),(42,.agg [I c,I d,I g,I i,I j,I o,I q,I u]),(43,I 1)]:=a
  have v:At H D (.cells true [clW 32768 (c-n),clW 32768 (d+n),I g,I i,I j,I o,I q,I u] 208):=v
  refine z06 a ?_
  repeat' first|with_reducible intro _|refine sv ?_|((with_reducible first|apply z01|apply z05|apply zr);exact gd;exact rfl;exact rfl;(first|exact K 32768 (g-n) (by omega) _|exact K 32768 (i+n) (by omega) _))|refine ss ?_ ?_<;>(intro h;first|exact sz h|refine sy h ?_)|exact sq|fail
  all_goals try(exfalso;omega)
  refine zi 2 (by omega) ⟨2,rfl,by omega,rfl,hz,xg,by omega,xm,xm,xm,xm⟩
 | 2,L,a,v=>
  have a:Has E [(4,.ptr (some (N,0))),(7,.ptr (some (D,0))),(10,.ptr (some (x,0))),(11,.ptr (some (y,0))),(42,.agg [I c,I d,I g,I i,I j,I o,I q,I u]),(43,I 2)]:=a
  have v:At H D (.cells true [clW 32768 (c-n),clW 32768 (d+n),clW 32768 (g-n),clW 32768 (i+n),I j,I o,I q,I u] 208):=v
  refine z06 a ?_
  repeat' first|with_reducible intro _|refine sv ?_|((with_reducible first|apply z01|apply z05|apply zr);exact gd;exact rfl;exact rfl;(first|exact K 65536 (j-m) (by omega) _|exact K 65536 (o+m) (by omega) _))|refine ss ?_ ?_<;>(intro h;first|exact sz h|refine sy h ?_)|exact sq|fail
  all_goals try(exfalso;omega)
  refine zi 1 (by omega) ⟨3,rfl,by omega,rfl,hz,xg,by omega,xm,xm,xm,xm⟩
 | 3,L,a,v=>
  have a:Has E [(4,.ptr (some (N,0))),(7,.ptr (some (D,0))),(10,.ptr (some (x,0))),(11,.ptr (some (y,0))),(42,.agg [I c,I d,I g,I i,I j,I o,I q,I u]),(43,I 3)]:=a
  have v:At H D (.cells true [clW 32768 (c-n),clW 32768 (d+n),clW 32768 (g-n),clW 32768 (i+n),clW 65536 (j-m),clW 65536 (o+m),I q,I u] 208):=v
  refine z06 a ?_
  repeat' first|with_reducible intro _|refine sv ?_|((with_reducible first|apply z01|apply z05|apply zr);exact gd;exact rfl;exact rfl;(first|exact K 65536 (q-m) (by omega) _|exact K 65536 (u+m) (by omega) _))|refine ss ?_ ?_<;>(intro h;first|exact sz h|refine sy h ?_)|exact sq|fail
  all_goals try(exfalso;omega)
  refine zi 0 (by omega) ⟨4,rfl,by omega,rfl,hz,xg,by omega,xm,xm,xm,xm⟩
 | 4,L,a,v=>
  have a:Has E [(4,.ptr (some (N,0))),(7,.ptr (some (D,0))),(10,.ptr (some (x,0))),(11,.ptr (some (y,0))),(42,.agg [I c,I d,I g,I i,I j,I o,I q,I u]),(43,I 4)]:=a
  refine z06 a ?_
  refine Wp2g @V @cd ?_;intros
  refine kf ?_
  exact⟨⟨_,_,rfl⟩,xg⟩
 | k+5,L,_,_=>exact absurd L (by omega)
theorem sqS{a A:Int}(h1:-A<=a)(c:a<=A):0<=a*a/\a*a<=A*A:=by
 by_cases h:0<=a
 ·exact⟨Int.mul_nonneg h h,Int.mul_le_mul c c h (by omega)⟩
 ·have e:a*a=(-a)*(-a):=by rw[Int.neg_mul_neg]
  rw[e]
  exact⟨Int.mul_nonneg (by omega) (by omega),Int.mul_le_mul (by omega) (by omega) (by omega) (by omega)⟩
theorem zsy{r:Rg}(a:Sm 1000000 r){t:Int×Int×Int}(c:t∈rowsL r):(-2000000<=t.1/\t.1<=2000000)/\(-2000000<=t.2.1/\t.2.1<=2000000)/\(-2000000<=t.2.2/\t.2.2<=2000000):=by
 obtain⟨x,d,g,rfl,h⟩:=zh8 c
 unfold Sm at a
 unfold rowOf iMax iMin at *
 dsimp only at *
 omega
abbrev bdv(b:Bnd):LV:=.agg [I b.1,I b.2]
def nrS(t:Int×Int×Int):Int:=iMax t.2.1 (iMin 0 t.2.2)-0
def sqN(t:Int×Int×Int):Bnd:=((t.1-0)*(t.1-0)+nrS t*nrS t,(t.1-0)*(t.1-0)+iMax ((t.2.1-0)*(t.2.1-0)) ((t.2.2-0)*(t.2.2-0)))
set_option maxHeartbeats 2000000 in
theorem y_sq(r:Rg)(hr:Sm 1000000 r){p q:Nat}{own u:Bool}{ty L:TypeId}{M0:Mem}(hp:At M0 p (.cells own (rgc r) ty))(a2:At M0 q (.cells u [I 0,I 0] L)) :
  PvL.Yields Tryz.prog 344 [] [.ptr (some (p,0)),.ptr (some (q,0))] (fun i=>i=p∨i=q) ((rowsL r).map fun t=>[bdv (sqN t)]) M0:=by
 intro l A J D hA hS n o step h0
 refine zd Y344.2 rfl ?_
 dsimp only[Y344,Ev,List.map_cons,List.map_nil,zipE,Nat.reduceAdd,List.nil_append,List.cons_append]
 repeat' first|with_reducible intro _|refine sv ?_|((with_reducible first|apply za8|apply z8u);exact gd;exact rfl;exact rfl;(first|exact zpx r _))|refine ss ?_ ?_<;>(intro h;first|exact sz h|refine sy h ?_)|exact sq|fail
 rename_i n1 Ma Q e1 e2 p2 Mb c0 e3 d0 O d3
 have c2:¬ A q:=hS q (.inr rfl)
 apply zeo
 exact rfl
 intro lb d y M1 U b9 hd e4 e5 X e6 e7
 have ed:At U d .defr:=At.new_old X (At.new_same hd)
 have el:At U y (lb .ready none):=At.new_same X
 have a1:At U p2 (.cells true (rgc r) 208):=At.new_old X (At.new_old hd c0)
 have hy:At U n1 (.cells true [.func (.yield l) [] []] _):=At.new_old X (At.new_old hd (At.grow O (At.new_same Q)))
 have c1:At U q (.cells u [I 0,I 0] L):=At.new_old X (At.new_old hd (At.grow O (At.new_old Q a2)))
 have c9:=a2.2
 have a7:J 0 U:=n _ _ _ h0 (by omega) fun i m=>by
  rw[X.grow.old i (by omega),hd.grow.old i (by omega),O.old i (by omega),Q.grow.old i (by omega)]
 refine(zqx r (hr.mono (by omega)) a1 y (fun i=>A i∨i=y∨i=n1∨i=d)
  (fun k M=>J k M/\At M y (lb .ready none)/\At M n1 (.cells true [.func (.yield l) [] []] _)/\At M d .defr/\At M q (.cells u [I 0,I 0] L))
  (fun M=>D M/\At M y (lb .done (some .ret))/\At M d .defr) ?_ ?_ ?_ ?_ ?_ ⟨a7,el,hy,ed,c1⟩).mono ?_
 ·rintro i (m|rfl|rfl|rfl)
  ·have:=hA i m;omega
  all_goals omega
 ·rintro i rfl (m|m|m|m)
  ·have:=hA _ m;omega
  all_goals omega
 ·rintro k M c ⟨G,H,Y,h4,h5⟩ g j
  exact⟨n _ _ _ G g fun i m=>j i (by omega),H.same g (j _ (by omega)),Y.same g (j _ (by omega)),h4.same g (j _ (by omega)),h5.same g (j _ (by omega))⟩
 ·rintro M c ⟨G,H,Y⟩ g j
  exact⟨o _ _ G g fun i m=>j i (by omega),H.same g (j _ (by omega)),Y.same g (j _ (by omega))⟩
 ·rintro k x hx M g ⟨G,H,Y,h4,h5⟩
  rw[List.getElem?_map] at hx
  obtain⟨t,ht,rfl⟩:=Option.map_eq_some_iff.1 hx
  have c3:=zsy hr (List.mem_of_getElem? ht)
  have a4:((rowsL r).map fun t=>[bdv (sqN t)])[k]?=some [bdv (sqN t)]:=by rw[List.getElem?_map,ht];rfl
  have S:=fun c (b8:M0.next<=c.next) (hj:J k c)=>step _ _ a4 c b8 hj
  unfold sqN nrS at S
  clear hx ht a4
  obtain⟨tx,K,F⟩:=t
  dsimp only at c3 S
  have b1:=sqS (a:=tx-0) (A:=2000000) (by omega) (by omega)
  have b2:=sqS (a:=iMax K (iMin 0 F)-0) (A:=2000000) (by unfold iMax iMin;omega) (by unfold iMax iMin;omega)
  have b3:=sqS (a:=K-0) (A:=2000000) (by omega) (by omega)
  have b4:=sqS (a:=F-0) (A:=2000000) (by omega) (by omega)
  have b5:-2000000<=iMax K (iMin 0 F)/\iMax K (iMin 0 F)<=2000000:=by unfold iMax iMin;omega
  have b6:0<=iMax ((K-0)*(K-0)) ((F-0)*(F-0))/\iMax ((K-0)*(K-0)) ((F-0)*(F-0))<=2000000*2000000:=by unfold iMax;omega
  have b7:-2000000<=iMin 0 F/\iMin 0 F<=2000000:=by unfold iMin;omega
  show RoundOk Tryz.prog y [.agg [I tx,I K,I F]] M _
  refine z5e b9 H rfl ?_
  dsimp only[zipP]
  have b0:∀ c,Keep (fun i=>i=y) M c->∀ i,i<M0.next->c.get i=M.get i:=fun c w i m=>w.old i (by omega) (by intro e;omega)
  have a6:∀ c,Keep (fun i=>i=y) M c->J k c:=fun c w=>n _ _ _ G w.le (b0 c w)
  repeat' first|with_reducible intro _|refine sv ?_|((with_reducible first|apply zk|apply zp|apply zh);exact gd;exact rfl;exact rfl;(first|exact S _ (by omega) (a6 _ (xk))))|refine ss ?_ ?_<;>(intro h;first|exact sz h|refine sy h ?_)|exact sq|fail
  all_goals try(exfalso;omega)
  rename_i w4 V R
  obtain⟨E,R⟩:=R
  have c4:Keep (fun i=>A i∨i=y∨i=n1∨i=d) M V:=Keep.trans (xk) E (fun i m=>.inl (.inl m))
  have c7:=E.le
  have d4:=E.weaken hA
  have c8:At V q (.cells u [I 0,I 0] L):=by
   have d1:=h5
   refine At.keep E c2 ?_
   exact xm
  clear E
  rcases R with⟨rfl,a9⟩|⟨rfl,a5⟩
  ·have a0:∀ c,Keep (fun i=>i=y) V c->J (k+1) c:=fun c w=>n _ _ _ a9 w.le fun i m=>w.old i (by omega) (by intro e;omega)
   refine Wh ?_;intros
   exact⟨xk,.inl ⟨rfl,a0 _ (xk),xm,xm,xm,xm⟩⟩
  ·have Z:∀ c,Keep (fun i=>i=y) V c->D c:=fun c w=>o _ _ a5 w.le fun i m=>w.old i (by omega) (by intro e;omega)
   refine Wh ?_;intros
   exact⟨xk,.inr ⟨rfl,Z _ (xk),xm,xm⟩⟩
 ·rintro v M3 ⟨hk,hq⟩
  have d2:Keep A M0 M3:=Keep.trans (xk) hk (by rintro i (m|rfl|rfl|rfl)<;>first|exact .inl m|exact .inr (by omega))
  have c5:=hk.le
  clear hk
  have a3:∀ c,Keep (fun i=>i=y∨i=d) M3 c->∀ i,i<M0.next->c.get i=M3.get i:=fun c w i m=>w.old i (by omega) (by rintro(e|e)<;>omega)
  rcases hq with⟨G,H,Y,h4,h5⟩|⟨G,H,h4⟩
  ·refine z9c H (by simp) fun V hu e8 a8=>?_
   refine Wh ?_
   refine z1y (.inl rfl) (by simp) (by intro z hz;obtain rfl:=List.mem_singleton.1 hz;exact xm) fun M5 P=>⟨_,.nil,?_⟩
   have N:Keep A M0 M5:=Keep.unmark (xk) P (by intro z hz;obtain rfl:=List.mem_singleton.1 hz;right;omega)
   refine⟨N,.inl ?_⟩
   rw[List.length_map] at G ⊢
   exact n _ _ _ G (by rw[P.next];omega) (a3 _ (Keep.unmark (xk) P (by intro z hz;obtain rfl:=List.mem_singleton.1 hz;exact .inl (.inr rfl))))
  ·refine z77 H (by simp) fun V hu e8 a8=>?_
   refine Wh ?_
   refine z1y (.inr rfl) (by simp) (by intro z hz;obtain rfl:=List.mem_singleton.1 hz;exact xm) fun M5 P=>⟨_,.nil,?_⟩
   have N:Keep A M0 M5:=Keep.unmark (xk) P (by intro z hz;obtain rfl:=List.mem_singleton.1 hz;right;omega)
   refine⟨N,.inr ?_⟩
   exact o _ _ G (by rw[P.next];omega) (a3 _ (Keep.unmark (xk) P (by intro z hz;obtain rfl:=List.mem_singleton.1 hz;exact .inl (.inr rfl))))
