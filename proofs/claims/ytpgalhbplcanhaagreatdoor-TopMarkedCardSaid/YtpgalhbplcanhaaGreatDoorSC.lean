/-
 Part of the proof of TopMarked. No condition beyond those in each theorem.
-/
import Derived.Test.YtpgalhbplcanhaaGreatDoorPvG
import Derived.Test.YtpgalhbplcanhaaGreatDoorSB
import Derived.Test.YtpgalhbplcanhaaGreatDoorPvH
import Derived.Test.YtpgalhbplcanhaaGreatDoorSA
import Derived.Test.YtpgalhbplcanhaaGreatDoorTX
import Derived.Test.YtpgalhbplcanhaaGreatDoorTW
section
open PvL
set_option linter.unusedSimpArgs false
set_option linter.unusedVariables false
namespace Go.Proofs.YtpgalhbplcanhaaGreatDoor.C
abbrev Bd:=Int × Int
abbrev Rg:=Bd × Bd × Bd × Bd
def rowOf(r:Rg)(x:Int):Int × Int × Int:=(x,iMax (iMax r.2.1.1 (r.2.2.1.1 - x)) (x - r.2.2.2.2),iMin (iMin r.2.1.2 (r.2.2.1.2 - x)) (x - r.2.2.2.1))
abbrev okRow(t:Int × Int × Int):Bool:=decide (t.2.1<=t.2.2)
def rowsFrom(r:Rg)(k n:Nat):List (Int × Int × Int):=((List.range n).map fun j=>rowOf r (r.1.1+((k+j:Nat):Int))).filter okRow
def rowsK(r:Rg)(k:Nat):List (Int × Int × Int):=rowsFrom r 0 k
def rowsN(r:Rg):Nat:=(r.1.2+1 - r.1.1).toNat
def rowsL(r:Rg):List (Int × Int × Int):=rowsK r (rowsN r)
theorem z5s(r:Rg)(k n:Nat):rowsFrom r k (n+1)=(if okRow (rowOf r (r.1.1+(k:Int))) then [rowOf r (r.1.1+(k:Int))] else []) ++ rowsFrom r (k+1) n:=by
 unfold rowsFrom
 rw[List.range_succ_eq_map,List.map_cons,List.map_map,List.filter_cons]
 have e:((fun j=>rowOf r (r.1.1+((k+j:Nat):Int))) ∘ Nat.succ)=fun j=>rowOf r (r.1.1+((k+1+j:Nat):Int)):=by
  funext j
  show rowOf r (r.1.1+((k+(j+1):Nat):Int))=_
  rw[show k+(j+1)=k+1+j by omega]
 rw[e,Nat.add_zero]
 by_cases h:okRow (rowOf r (r.1.1+(k:Int)))=true
 ·rw[if_pos h,if_pos h];rfl
 ·rw[if_neg h,if_neg h];rfl
theorem z4k(r:Rg)(k:Nat):rowsK r (k+1)=rowsK r k ++(if okRow (rowOf r (r.1.1+(k:Int))) then [rowOf r (r.1.1+(k:Int))] else []):=by
 unfold rowsK rowsFrom
 rw[List.range_succ,List.map_append,List.filter_append]
 congr 1
 simp only[List.map_cons,List.map_nil,List.filter_cons,List.filter_nil,Nat.zero_add]
theorem z58(r:Rg):∀(n k:Nat),rowsK r (k+n)=rowsK r k ++ rowsFrom r k n
 | 0,k=>by rw[Nat.add_zero];unfold rowsFrom;simp
 | n+1,k=>by rw[show k+(n+1)=(k+1)+n by omega,z58 r n (k+1),z4k,List.append_assoc,z5s]
theorem zjd(r:Rg){k n:Nat}(h:k < n)(hok:okRow (rowOf r (r.1.1+(k:Int)))=true):(rowsK r n)[(rowsK r k).length]?=some (rowOf r (r.1.1+(k:Int))):=by
 obtain⟨m,rfl⟩:∃ m,n=k+(m+1):=⟨n - k - 1,by omega⟩
 rw[z58,List.getElem?_append_right (Nat.le_refl _),Nat.sub_self,z5s,if_pos hok];rfl
def ends1(t:Int × Int × Int):List (Int × Int):=if t.2.1=t.2.2 then [(t.1,t.2.1)] else [(t.1,t.2.1),(t.1,t.2.2)]
def endsOf(l:List (Int × Int × Int)):List (Int × Int):=l.flatMap ends1
def endsL(r:Rg):List (Int × Int):=endsOf (rowsL r)
theorem zby(l:List (Int × Int × Int)){k:Nat}{t:Int × Int × Int}(h:l[k]?=some t):endsOf l=endsOf (l.take k) ++(ends1 t ++ endsOf (l.drop (k+1))):=by
 obtain⟨hk,rfl⟩:=List.getElem?_eq_some_iff.1 h
 unfold endsOf
 conv=>lhs;rw[<-List.take_append_drop k l,List.flatMap_append,List.drop_eq_getElem_cons hk]
 rfl
theorem zdb(l:List (Int × Int × Int)){k:Nat}{t:Int × Int × Int}(h:l[k]?=some t):endsOf (l.take (k+1))=endsOf (l.take k) ++ ends1 t:=by
 obtain⟨hk,rfl⟩:=List.getElem?_eq_some_iff.1 h
 unfold endsOf
 rw[List.take_succ_eq_append_getElem hk,List.flatMap_append]
 simp
def ofP(p:Int × Int):Rg:=((p.1,p.1),(p.2,p.2),(p.1+p.2,p.1+p.2),(p.1 - p.2,p.1 - p.2))
def spanB(a b:Bd):Bd:=(iMin a.1 b.1,iMax a.2 b.2)
def map4(f:Bd->Bd->Bd)(r q:Rg):Rg:=(f r.1 q.1,f r.2.1 q.2.1,f r.2.2.1 q.2.2.1,f r.2.2.2 q.2.2.2)
def zRg:Rg:=((0,0),(0,0),(0,0),(0,0))
def hstep(o:Option Rg)(p:Int × Int):Option Rg:=some (map4 spanB (o.getD (ofP p)) (ofP p))
def hullO(o:Option Rg)(l:List (Int × Int)):Option Rg:=l.foldl hstep o
theorem zg2(o:Option Rg)(l:List (Int × Int)){k:Nat}{p:Int × Int}(h:l[k]?=some p):hullO o (l.take (k+1))=hstep (hullO o (l.take k)) p:=by
 obtain⟨hk,rfl⟩:=List.getElem?_eq_some_iff.1 h
 unfold hullO
 rw[List.take_succ_eq_append_getElem hk,List.foldl_append];rfl
def Sm(B:Int)(r:Rg):Prop:=(-B<=r.1.1 /\ r.1.1<=B) /\ (-B<=r.1.2 /\ r.1.2<=B) /\ (-B<=r.2.1.1 /\ r.2.1.1<=B) /\ (-B<=r.2.1.2 /\ r.2.1.2<=B) /\ (-B<=r.2.2.1.1 /\ r.2.2.1.1<=B) /\ (-B<=r.2.2.1.2 /\ r.2.2.1.2<=B) /\ (-B<=r.2.2.2.1 /\ r.2.2.2.1<=B) /\ (-B<=r.2.2.2.2 /\ r.2.2.2.2<=B)
abbrev SmP(B:Int)(p:Int × Int):Prop:=(-B<=p.1 /\ p.1<=B) /\ (-B<=p.2 /\ p.2<=B)
theorem Sm.mono{B C:Int}{r:Rg}(h:Sm B r)(hc:B<=C):Sm C r:=by unfold Sm at *;omega
theorem SmP.mono{B C:Int}{p:Int × Int}(h:SmP B p)(hc:B<=C):SmP C p:=by unfold SmP at *;omega
theorem zax{r:Rg}{t:Int × Int × Int}(h:t ∈ rowsL r):∃ x,r.1.1<=x /\ x<=r.1.2 /\ t=rowOf r x /\ t.2.1<=t.2.2:=by
 unfold rowsL rowsK rowsFrom at h
 rw[List.mem_filter] at h
 obtain⟨h1,h2⟩:=h
 obtain⟨j,hj,rfl⟩:=List.mem_map.1 h1
 have hj:=List.mem_range.1 hj
 unfold rowsN at hj
 exact⟨_,by omega,by omega,rfl,of_decide_eq_true h2⟩
theorem zlu{r:Rg}{x:Int}(h1:r.1.1<=x)(h2:x<=r.1.2)(h:(rowOf r x).2.1<=(rowOf r x).2.2):rowOf r x ∈ rowsL r:=by
 unfold rowsL rowsK rowsFrom rowsN
 rw[List.mem_filter]
 refine⟨List.mem_map.2 ⟨(x - r.1.1).toNat,List.mem_range.2 (by omega),?_⟩,decide_eq_true h⟩
 rw[Nat.zero_add,Int.toNat_of_nonneg (by omega),Int.add_comm,Int.sub_add_cancel]
theorem zrv{B:Int}{r:Rg}(h:Sm B r){x:Int}(h1:r.1.1<=x)(h2:x<=r.1.2):(-B<=(rowOf r x).1 /\ (rowOf r x).1<=B) /\ (-(2*B)<=(rowOf r x).2.1 /\ (rowOf r x).2.1<=2*B) /\ (-(2*B)<=(rowOf r x).2.2 /\ (rowOf r x).2.2<=2*B):=by
 unfold Sm at h
 unfold rowOf iMax iMin
 dsimp only
 omega
theorem zom{B:Int}{r:Rg}(h:Sm B r){q:Int × Int}(hq:q ∈ endsL r):SmP (2*B) q:=by
 unfold endsL endsOf at hq
 obtain⟨t,ht,hq⟩:=List.mem_flatMap.1 hq
 obtain⟨x,h1,h2,rfl,h3⟩:=zax ht
 have:=zrv h h1 h2
 have hB:0<=B:=by unfold Sm at h;omega
 unfold ends1 at hq
 unfold SmP
 split at hq
 ·obtain rfl:=List.mem_singleton.1 hq
  omega
 ·rcases List.mem_cons.1 hq with rfl|hq
  ·omega
  ·obtain rfl:=List.mem_singleton.1 hq
   omega
def tightO(r:Rg):Option Rg:=hullO none (endsL r)
abbrev fitsP(l:Int)(b:Bd):Prop:=-l<=b.1 /\ b.1<=b.2 /\ b.2<=l
abbrev RgOk(r:Rg):Prop:=fitsP 32768 r.1 /\ fitsP 32768 r.2.1 /\ fitsP 65536 r.2.2.1 /\ fitsP 65536 r.2.2.2
theorem RgOk.sm{r:Rg}(h:RgOk r):Sm 65536 r:=by unfold Sm;dsimp only[RgOk,fitsP] at h;omega
abbrev Pt:=Int × Int
abbrev ptc(p:Pt):List LV:=[I p.1,I p.2]
abbrev Pl(x y:Int):Prop:=-32768<=x /\ x<=32768 /\ -32768<=y /\ y<=32768
abbrev PlP(p:Pt):Prop:=Pl p.1 p.2
abbrev ptv(p:Int × Int):LV:=.agg [I p.1,I p.2]
abbrev rgv(r:Rg):LV:=.agg [I r.1.1,I r.1.2,I r.2.1.1,I r.2.1.2,I r.2.2.1.1,I r.2.2.1.2,I r.2.2.2.1,I r.2.2.2.2]
def eRg(r:Rg):Int:=if RgOk r then 0 else 11
abbrev rowv(t:Int × Int × Int):LV:=.agg [I t.1,I t.2.1,I t.2.2]
abbrev rgc(r:Rg):List LV:=[I r.1.1,I r.1.2,I r.2.1.1,I r.2.1.2,I r.2.2.1.1,I r.2.2.1.2,I r.2.2.2.1,I r.2.2.2.2]
abbrev resv(x:Rg × Int):LV:=.tup [rgv x.1,I x.2]
def eTi(r:Rg):Int:=if (tightO r).isSome then 0 else 4
end Go.Proofs.YtpgalhbplcanhaaGreatDoor.C
end
section
open Go PvL Go.Proofs
set_option linter.unusedSimpArgs false
set_option linter.unusedVariables false
namespace Go.Proofs.YtpgalhbplcanhaaGreatDoor.C
instance:IsB Tryz.prog 4:=⟨by kernel_rfl⟩
theorem zhd(n lo hi:Int)(M:Mem):ze Tryz.prog 91 [I n,I lo,I hi] M (fun w M'=>w=.bool (decide (lo<=n /\ n<=hi)) /\ M'=M):=by
 refine zf k91 rfl ?_
 delta x91;refine un ?_
 repeat' first|with_reducible intro _|refine sv ?_|refine ss ?_ ?_<;>(intro h;first|exact sz h|refine sy h ?_)|exact sq|fail
 all_goals (apply zdj;exact .tmp rfl .nil;refine⟨?_,rfl⟩)
 all_goals first
  | exact zep (by omega)
  | exact lb_f (by omega)
  | exact lb_t (by omega)
theorem zh9(l n:Int)(hl:0<=l /\ l<=1000000)(M:Mem):ze Tryz.prog 95 [I l,I n] M (fun w M'=>w=I (iMax (-l) (iMin n l)) /\ M'=M):=by
 refine zf k95 rfl ?_
 delta x95;refine un ?_
 repeat' first|with_reducible intro _|refine sv ?_|refine ss ?_ ?_<;>(intro h;first|exact sz h|refine sy h ?_)|exact sq|fail
 all_goals (apply zdj;exact .tmp rfl .nil;refine⟨rfl,rfl⟩)
theorem zqo(l a b:Int)(hl:0<=l /\ l<=1000000)(M:Mem):ze Tryz.prog 151 [I l,.agg [I a,I b]] M (fun w M'=>w=.bool (decide (-l<=a /\ a<=b /\ b<=l)) /\ Grow M M'):=by
 refine zf k151 rfl ?_
 delta x151;refine un ?_
 repeat' first|with_reducible intro _|refine sv ?_|refine ss ?_ ?_<;>(intro h;first|exact sz h|refine sy h ?_)|exact sq|fail
 all_goals (apply zdj;exact .tmp rfl .nil;refine⟨?_,?_⟩)
 all_goals first
  |(exact xg;done)
  | exact zep (by omega)
  | exact lb_f (by omega)
  | exact lb_t (by omega)
theorem zag(r:Rg)(M:Mem):ze Tryz.prog 92 [rgv r] M (fun w M'=>w=rgv r /\ Grow M M'):=by
 refine zf k92 rfl ?_
 delta x92;refine un ?_
 repeat' first|with_reducible intro _|refine sv ?_|refine ss ?_ ?_<;>(intro h;first|exact sz h|refine sy h ?_)|exact sq|fail
 refine kf ?_
 exact⟨rfl,xg⟩
theorem zeg(r:Rg)(M:Mem):ze Tryz.prog 89 [rgv r] M (fun w M'=>w=rgv r /\ Grow M M'):=by
 refine zf k89 rfl ?_
 delta x89;refine un ?_
 repeat' first|with_reducible intro _|refine sv ?_|refine ss ?_ ?_<;>(intro h;first|exact sz h|refine sy h ?_)|exact sq|fail
 refine kf ?_
 exact⟨rfl,xg⟩
theorem c_of(p:Int × Int)(h:-1000000<=p.1 /\ p.1<=1000000 /\ -1000000<=p.2 /\ p.2<=1000000)(M:Mem):ze Tryz.prog 148 [ptv p] M (fun w M'=>w=rgv (ofP p) /\ Grow M M'):=by
 refine zf k148 rfl ?_
 delta x148;refine un ?_
 repeat' first|with_reducible intro _|refine sv ?_|refine su ?_|refine ss ?_ ?_<;>(intro h;first|exact sz h|refine sy h ?_)|exact sq|fail
 refine kf ?_
 exact⟨rfl,xg⟩
theorem zr0(a a' b b':Int)(M:Mem):ze Tryz.prog 150 [.agg [I a,I a'],.agg [I b,I b']] M (fun w M'=>w=.agg [I (iMin a b),I (iMax a' b')] /\ Grow M M'):=by
 refine zf k150 rfl ?_
 delta x150;refine un ?_
 repeat' first|with_reducible intro _|refine sv ?_|refine ss ?_ ?_<;>(intro h;first|exact sz h|refine sy h ?_)|exact sq|fail
 refine kf ?_
 exact⟨rfl,xg⟩
theorem z3w(r q:Rg)(M:Mem):ze Tryz.prog 149 [rgv r,rgv q,.func (.func 150) [] []] M (fun w M'=>w=rgv (map4 spanB r q) /\ Grow M M'):=by
 refine zf k149 rfl ?_
 delta x149;refine un ?_
 repeat' first|with_reducible intro _|refine sv ?_|refine su ?_|((with_reducible first|apply zp|apply zo|apply zj);exact gd;exact rfl;exact rfl;(first|exact zr0 _ _ _ _ _))|refine ss ?_ ?_<;>(intro h;first|exact sz h|refine sy h ?_)|exact sq|fail
 refine kf ?_
 exact⟨rfl,xg⟩
theorem zd0(r:Rg)(M:Mem):ze Tryz.prog 90 [rgv r] M (fun w M'=>w=I (eRg r) /\ Grow M M'):=by
 refine zf k90 rfl ?_
 delta x90;refine un ?_
 repeat' first|with_reducible intro _|refine sv ?_|refine su ?_|((with_reducible first|apply zp|apply zo|apply zj);exact gd;exact rfl;exact rfl;(first|exact zag _ _|exact zqo _ _ _ (by omega) _))|refine ss ?_ ?_<;>(intro h;first|exact sz h|refine sy h ?_)|exact sq|fail
 all_goals (refine kf ?_)
 all_goals refine⟨?_,?_⟩
 all_goals first
  |(exact xg;done)
  |(unfold eRg;split<;>first|rfl|(exfalso;omega))
set_option maxHeartbeats 4000000 in
theorem znp(r:Rg)(hr:Sm 10000000 r){p:Nat}{own:Bool}{ty:TypeId}{M0:Mem}(hp:At M0 p (.cells own (rgc r) ty)) :
  PvL.Yields Tryz.prog 249 [] [.ptr (some (p,0))] (fun i=>i=p) ((rowsL r).map fun t=>[rowv t]) M0:=by
 intro l A J D hA hS stab stabD step h0
 have hpA:¬ A p:=hS p rfl
 unfold Sm at hr
 refine zf k249 rfl ?_
 dsimp only[x249,zM,zO,zI,zF,zS,zB,zL,zA,zE,zN,zW,zC,zH,zK,zX,zQ,zJ,zP,zY2,zY3,zY4,zY8,zT,zR,zU,zV,zG,List.map_cons,List.map_nil,zipE,Nat.reduceAdd,List.nil_append,List.cons_append]
 repeat' first|with_reducible intro _|refine sv ?_|refine ss ?_ ?_<;>(intro h;first|exact sz h|refine sy h ?_)|exact sq|fail
 refine zi (fun n E ms M=>∃ k:Nat,n=rowsN r - k /\ k<=rowsN r /\ ms=[] /\ Has E [(0,.func (.yield l) [] []),(1,.ptr (some (p,0))),(3,I (r.1.1+(k:Int)))] /\ Keep A M0 M /\ J (rowsK r k).length M) ?_ (rowsN r) _ _ _ ⟨0,by omega,by omega,rfl,.cons rfl (.cons rfl (.cons (congrArg (fun z=>some (I z)) (Int.add_zero _).symm) .nil)),Keep.refl _ _,h0⟩
 rintro n E ms M ⟨k,rfl,hk,rfl,hE,hkeep,hJ⟩
 have hp1:At M p (.cells own (rgc r) ty):=hkeep.at hp hpA
 have hle:=hkeep.le
 have hJ':∀ M',Grow M M'->J (rowsK r k).length M':=fun M' hg=>stab _ _ _ hJ hg.le fun i hi=>hg.old i (Nat.lt_of_lt_of_le hi hle)
 have hn:rowsN r=(r.1.2+1 - r.1.1).toNat:=rfl
 refine z02 hE ?_
 by_cases hlast:k=rowsN r
 ·have hl:r.1.2 < r.1.1+(k:Int):=by omega
  repeat' first|with_reducible intro _|refine sv ?_|refine ss ?_ ?_<;>(intro h;first|exact sz h|refine sy h ?_)|exact sq|fail
  refine kf ?_
  exact⟨hkeep,.inl (by rw[List.length_map];unfold rowsL;rw[<-hlast];exact hJ)⟩
 ·have hl:r.1.1+(k:Int)<=r.1.2:=by omega
  have hE':∀ E':Env,PvL.look E' 0=some (.func (.yield l) [] [])->PvL.look E' 1=some (.ptr (some (p,0)))->PvL.look E' 3=some (I (r.1.1+(k:Int)+1))->Has E' [(0,.func (.yield l) [] []),(1,.ptr (some (p,0))),(3,I (r.1.1+((k+1:Nat):Int)))]:=fun E' h0 h1 h3 =>
   .cons h0 (.cons h1 (.cons (by rw[h3,Int.natCast_add,Int.add_assoc];rfl) .nil))
  by_cases hok:okRow (rowOf r (r.1.1+(k:Int)))=true
  ·have hx:((rowsL r).map fun t=>[rowv t])[(rowsK r k).length]?=some [rowv (rowOf r (r.1.1+(k:Int)))]:=by
    rw[List.getElem?_map];unfold rowsL;rw[zjd r (by omega) hok];rfl
   have hs:(rowsK r (k+1)).length=(rowsK r k).length+1:=by rw[z4k,if_pos hok,List.length_append];rfl
   have hok':iMax (iMax r.2.1.1 (r.2.2.1.1 - (r.1.1+(k:Int)))) (r.1.1+(k:Int) - r.2.2.2.2)<=iMin (iMin r.2.1.2 (r.2.2.1.2 - (r.1.1+(k:Int)))) (r.1.1+(k:Int) - r.2.2.2.1):=of_decide_eq_true hok
   repeat' first|with_reducible intro _|refine sv ?_|((with_reducible first|apply zt|apply zz|apply zn);exact gd;exact rfl;exact rfl;(first|exact step _ _ hx _ (by omega) (hJ' _ (xg))))|refine ss ?_ ?_<;>(intro h;first|exact sz h|refine sy h ?_)|exact sq|fail
   obtain⟨hk2,⟨rfl,hJ2⟩|⟨rfl,hD⟩⟩:=‹Keep A _ _ /\ _›
   ·have:=hk2.le
    repeat' first|with_reducible intro _|refine sv ?_|refine ss ?_ ?_<;>(intro h;first|exact sz h|refine sy h ?_)|exact sq|fail
    refine zq (rowsN r - (k+1)) (by omega) ⟨k+1,rfl,by omega,rfl,hE' _ rfl rfl rfl,Keep.trans (xk) hk2 (fun i hi=>.inl hi),by rw[hs];exact hJ2⟩
   ·have:=hk2.le
    repeat' first|with_reducible intro _|refine sv ?_|refine ss ?_ ?_<;>(intro h;first|exact sz h|refine sy h ?_)|exact sq|fail
    refine kf ?_
    exact⟨Keep.trans (xk) hk2 (fun i hi=>.inl hi),.inr hD⟩
  ·have hs:rowsK r (k+1)=rowsK r k:=by rw[z4k,if_neg hok,List.append_nil]
   have hok':iMin (iMin r.2.1.2 (r.2.2.1.2 - (r.1.1+(k:Int)))) (r.1.1+(k:Int) - r.2.2.2.1) < iMax (iMax r.2.1.1 (r.2.2.1.1 - (r.1.1+(k:Int)))) (r.1.1+(k:Int) - r.2.2.2.2):=by
    have:¬ _:=fun h=>hok (decide_eq_true h)
    exact Int.not_le.1 this
   repeat' first|with_reducible intro _|refine sv ?_|refine ss ?_ ?_<;>(intro h;first|exact sz h|refine sy h ?_)|exact sq|fail
   refine zq (rowsN r - (k+1)) (by omega) ⟨k+1,rfl,by omega,rfl,hE' _ rfl rfl rfl,xk,by rw[hs];exact hJ' _ (xg)⟩
abbrev rowsV(p:Nat):LV:=.func (.func 249) [] [.ptr (some (p,0))]
abbrev endsV(p:Nat):LV:=.func (.func 199) [] [.ptr (some (p,0))]
theorem zmz(r:Rg)(M:Mem):ze Tryz.prog 200 [rgv r] M (MkAt rowsV (.cells true (rgc r) 208) M):=by
 refine zf k200 rfl ?_
 delta x200;refine un ?_
 repeat' first|with_reducible intro _|refine sv ?_|refine ss ?_ ?_<;>(intro h;first|exact sz h|refine sy h ?_)|exact sq|fail
 refine kf ?_
 exact⟨_,rfl,xm,by omega,by omega,xg⟩
theorem zqn(r:Rg)(M:Mem):ze Tryz.prog 152 [rgv r] M (MkAt endsV (.cells true (rgc r) 208) M):=by
 refine zf k152 rfl ?_
 delta x152;refine un ?_
 repeat' first|with_reducible intro _|refine sv ?_|refine ss ?_ ?_<;>(intro h;first|exact sz h|refine sy h ?_)|exact sq|fail
 refine kf ?_
 exact⟨_,rfl,xm,by omega,by omega,xg⟩
set_option maxHeartbeats 4000000 in
theorem zt4(r:Rg)(hr:Sm 10000000 r){p:Nat}{own:Bool}{ty:TypeId}{M0:Mem}(hp:At M0 p (.cells own (rgc r) ty)) :
  PvL.Yields Tryz.prog 199 [] [.ptr (some (p,0))] (fun i=>i=p) ((endsL r).map fun q=>[ptv q]) M0:=by
 intro l A J D hA hS stab stabD step h0
 have hpA:¬ A p:=hS p rfl
 refine zf k199 rfl ?_
 dsimp only[x199,zM,zO,zI,zF,zS,zB,zL,zA,zE,zN,zW,zC,zH,zK,zX,zQ,zJ,zP,zY2,zY3,zY4,zY8,zT,zR,zU,zV,zG,List.map_cons,List.map_nil,zipE,Nat.reduceAdd,List.nil_append,List.cons_append]
 repeat' first|with_reducible intro _|refine sv ?_|((with_reducible first|apply zjr|apply d_mkat);exact gd;exact rfl;exact rfl;(first|exact zmz r _))|refine ss ?_ ?_<;>(intro h;first|exact sz h|refine sy h ?_)|exact sq|fail
 rename_i n1 Ma hn1 e1 e2 p2 Mb hp2 e3 e3' hg2 hgl
 apply zjq
 exact rfl
 intro lb d l2 M1 M2 hlb hd e4 e5 hl e6 e7
 have ed:At M2 d .defr:=At.new_old hl (At.new_same hd)
 have el:At M2 l2 (lb .ready none):=At.new_same hl
 have hp2':At M2 p2 (.cells true (rgc r) 208):=At.new_old hl (At.new_old hd hp2)
 have hy:At M2 n1 (.cells true [.func (.yield l) [] []] _):=At.new_old hl (At.new_old hd (At.grow hg2 (At.new_same hn1)))
 have hJ0:J 0 M2:=stab _ _ _ h0 (by omega) fun i hi=>by
  rw[hl.grow.old i (by omega),hd.grow.old i (by omega),hg2.old i (by omega),hn1.grow.old i (by omega)]
 refine(znp r hr hp2' l2 (fun i=>A i ∨ i=l2 ∨ i=n1 ∨ i=d)
  (fun k M=>J (endsOf ((rowsL r).take k)).length M /\ At M l2 (lb .ready none) /\ At M n1 (.cells true [.func (.yield l) [] []] _) /\ At M d .defr)
  (fun M=>D M /\ At M l2 (lb .done (some .ret)) /\ At M d .defr) ?_ ?_ ?_ ?_ ?_ ⟨hJ0,el,hy,ed⟩).mono ?_
 ·rintro i (hi|rfl|rfl|rfl)
  ·have:=hA i hi;omega
  all_goals omega
 ·rintro i rfl (hi|hi|hi|hi)
  ·have:=hA _ hi;omega
  all_goals omega
 ·rintro k M M' ⟨h1,h2,h3,h4⟩ hle hA'
  exact⟨stab _ _ _ h1 hle fun i hi=>hA' i (by omega),h2.same hle (hA' _ (by omega)),h3.same hle (hA' _ (by omega)),h4.same hle (hA' _ (by omega))⟩
 ·rintro M M' ⟨h1,h2,h3⟩ hle hA'
  exact⟨stabD _ _ h1 hle fun i hi=>hA' i (by omega),h2.same hle (hA' _ (by omega)),h3.same hle (hA' _ (by omega))⟩
 ·rintro k x hx M hle ⟨h1,h2,h3,h4⟩
  rw[List.getElem?_map] at hx
  obtain⟨t,ht,rfl⟩:=Option.map_eq_some_iff.1 hx
  refine z7i hlb h2 rfl ?_
  dsimp only[zipP]
  have hgA:∀ M',Keep (fun i=>i=l2) M M'->∀ i,i < M0.next->M'.get i=M.get i:=fun M' hg i hi=>hg.old i (by omega) (by intro e;omega)
  have hJ':∀ M',Keep (fun i=>i=l2) M M'->J (endsOf ((rowsL r).take k)).length M':=fun M' hg=>stab _ _ _ h1 hg.le (hgA M' hg)
  have hsp:=zby (rowsL r) ht
  have hsu:=zdb (rowsL r) ht
  have hx1:((endsL r).map fun q=>[ptv q])[(endsOf ((rowsL r).take k)).length]?=some [ptv (t.1,t.2.1)]:=by
   rw[List.getElem?_map];unfold endsL;rw[hsp,List.getElem?_append_right (Nat.le_refl _),Nat.sub_self]
   unfold ends1
   split<;>rfl
  repeat' first|with_reducible intro _|refine sv ?_|((with_reducible first|apply zt|apply zz|apply zn);exact gd;exact rfl;exact rfl;(first|exact step _ _ hx1 _ (by omega) (hJ' _ (xk))))|refine ss ?_ ?_<;>(intro h;first|exact sz h|refine sy h ?_)|exact sq|fail
  rename_i w4 M4 hq4
  obtain⟨hk4,hq4⟩:=hq4
  have hKM4:Keep (fun i=>A i ∨ i=l2 ∨ i=n1 ∨ i=d) M M4:=Keep.trans (xk) hk4 (fun i hi=>.inl (.inl hi))
  have hle4:=hk4.le
  have hkw:=hk4.weaken hA
  clear hk4
  rcases hq4 with⟨rfl,hJ4⟩|⟨rfl,hD4⟩
  ·have hJ4':∀ M',Keep (fun i=>i=l2) M4 M'->J ((endsOf ((rowsL r).take k)).length+1) M':=fun M' hg=>stab _ _ _ hJ4 hg.le fun i hi=>hg.old i (by omega) (by intro e;omega)
   by_cases hte:t.2.1=t.2.2
   ·have he:ends1 t=[(t.1,t.2.1)]:=if_pos hte
    have hlen:(endsOf ((rowsL r).take (k+1))).length=(endsOf ((rowsL r).take k)).length+1:=by rw[hsu,List.length_append,he];rfl
    repeat' first|with_reducible intro _|refine sv ?_|refine ss ?_ ?_<;>(intro h;first|exact sz h|refine sy h ?_)|exact sq|fail
    exact⟨xk,.inl ⟨rfl,by rw[hlen];exact hJ4' _ (xk),xm,xm,xm⟩⟩
   ·have he:ends1 t=[(t.1,t.2.1),(t.1,t.2.2)]:=if_neg hte
    have hlen:(endsOf ((rowsL r).take (k+1))).length=(endsOf ((rowsL r).take k)).length+1+1:=by rw[hsu,List.length_append,he];rfl
    have hx2:((endsL r).map fun q=>[ptv q])[(endsOf ((rowsL r).take k)).length+1]?=some [ptv (t.1,t.2.2)]:=by
     rw[List.getElem?_map];unfold endsL;rw[hsp,List.getElem?_append_right (by omega),Nat.add_sub_cancel_left,he];rfl
    repeat' first|with_reducible intro _|refine sv ?_|((with_reducible first|apply zt|apply zz|apply zn);exact gd;exact rfl;exact rfl;(first|exact step _ _ hx2 _ (by omega) hJ4))|refine ss ?_ ?_<;>(intro h;first|exact sz h|refine sy h ?_)|exact sq|fail
    rename_i w5 M5 hq5
    obtain⟨hk5,hq5⟩:=hq5
    have hKM5:Keep (fun i=>A i ∨ i=l2 ∨ i=n1 ∨ i=d) M M5:=Keep.trans (xk) hk5 (fun i hi=>.inl (.inl hi))
    have hle5:=hk5.le
    have hkw5:=hk5.weaken hA
    clear hk5
    rcases hq5 with⟨rfl,hJ5⟩|⟨rfl,hD5⟩
    ·have hJ5':∀ M',Keep (fun i=>i=l2) M5 M'->J ((endsOf ((rowsL r).take k)).length+1+1) M':=fun M' hg=>stab _ _ _ hJ5 hg.le fun i hi=>hg.old i (by omega) (by intro e;omega)
     repeat' first|with_reducible intro _|refine sv ?_|refine ss ?_ ?_<;>(intro h;first|exact sz h|refine sy h ?_)|exact sq|fail
     exact⟨xk,.inl ⟨rfl,by rw[hlen];exact hJ5' _ (xk),xm,xm,xm⟩⟩
    ·have hD5':∀ M',Keep (fun i=>i=l2) M5 M'->D M':=fun M' hg=>stabD _ _ hD5 hg.le fun i hi=>hg.old i (by omega) (by intro e;omega)
     repeat' first|with_reducible intro _|refine sv ?_|refine ss ?_ ?_<;>(intro h;first|exact sz h|refine sy h ?_)|exact sq|fail
     exact⟨xk,.inr ⟨rfl,hD5' _ (xk),xm,xm⟩⟩
  ·have hD4':∀ M',Keep (fun i=>i=l2) M4 M'->D M':=fun M' hg=>stabD _ _ hD4 hg.le fun i hi=>hg.old i (by omega) (by intro e;omega)
   repeat' first|with_reducible intro _|refine sv ?_|refine ss ?_ ?_<;>(intro h;first|exact sz h|refine sy h ?_)|exact sq|fail
   exact⟨xk,.inr ⟨rfl,hD4' _ (xk),xm,xm⟩⟩
 ·rintro v M3 ⟨hk,hq⟩
  have hK3:Keep A M0 M3:=Keep.trans (xk) hk (by rintro i (hi|rfl|rfl|rfl)<;>first|exact .inl hi|exact .inr (by omega))
  have hle3:=hk.le
  clear hk
  have hst:∀ M',Keep (fun i=>i=l2 ∨ i=d) M3 M'->∀ i,i < M0.next->M'.get i=M3.get i:=fun M' hg i hi=>hg.old i (by omega) (by rintro(e|e)<;>omega)
  rcases hq with⟨h1,h2,h3,h4⟩|⟨h1,h2,h4⟩
  ·refine zen h2 (by simp) fun M4 hu e8 a8=>?_
   repeat' first|with_reducible intro _|refine sv ?_|refine ss ?_ ?_<;>(intro h;first|exact sz h|refine sy h ?_)|exact sq|fail
   refine z42 (.inl rfl) (by simp) (by intro q hq;obtain rfl:=List.mem_singleton.1 hq;exact xm) fun M5 hm=>⟨_,.nil,?_⟩
   have hK5:Keep A M0 M5:=Keep.unmark (xk) hm (by intro q hq;obtain rfl:=List.mem_singleton.1 hq;right;omega)
   refine⟨hK5,.inl ?_⟩
   rw[List.length_map]
   rw[show(endsL r).length=(endsOf ((rowsL r).take ((rowsL r).map fun t=>[rowv t]).length)).length by rw[List.length_map,List.take_length];rfl]
   exact stab _ _ _ h1 (by rw[hm.next];omega) (hst _ (Keep.unmark (xk) hm (by intro q hq;obtain rfl:=List.mem_singleton.1 hq;exact .inl (.inr rfl))))
  ·refine zg6 h2 (by simp) fun M4 hu e8 a8=>?_
   repeat' first|with_reducible intro _|refine sv ?_|refine ss ?_ ?_<;>(intro h;first|exact sz h|refine sy h ?_)|exact sq|fail
   refine z42 (.inr rfl) (by simp) (by intro q hq;obtain rfl:=List.mem_singleton.1 hq;exact xm) fun M5 hm=>⟨_,.nil,?_⟩
   have hK5:Keep A M0 M5:=Keep.unmark (xk) hm (by intro q hq;obtain rfl:=List.mem_singleton.1 hq;right;omega)
   refine⟨hK5,.inr ?_⟩
   exact stabD _ _ h1 (by rw[hm.next];omega) (hst _ (Keep.unmark (xk) hm (by intro q hq;obtain rfl:=List.mem_singleton.1 hq;exact .inl (.inr rfl))))
structure Gv where
 gf:FuncId
 ca:List LV
 S:Nat->Prop
 pts:List (Int × Int)
abbrev Gv.lv(g:Gv):LV:=.func (.func g.gf) [] g.ca
theorem zar:∀ ds:List Nat,dnat (ds.map .mark)=ds
 | []=>rfl
 | d :: ds=>by show d :: dnat (ds.map .mark)=_;rw[zar ds]
theorem zir:∀ ds:List Nat,onlyMarks (ds.map .mark)=true
 | []=>rfl
 | d :: ds=>zir ds
set_option maxHeartbeats 4000000 in
theorem zmx(gs:List Gv){s o:Nat}{f:Bool}{e:Nat}{M0:Mem}(hs:∀ k (hk:k < gs.length),Rd1 M0 s (o+k*1) gs[k].lv)(hsz:gs.length<=1000000)
  (hy:∀ g ∈ gs,∀ M',Grow M0 M'->PvL.Yields Tryz.prog g.gf [] g.ca g.S (g.pts.map fun p=>[ptv p]) M') (hS:∀ g ∈ gs,∀ i,g.S i->i < M0.next) (hp:∀ g ∈ gs,∀ p ∈ g.pts,SmP 1000000 p) :
  ze Tryz.prog 87 [.slice (some (s,o)) gs.length f e] M0 (fun w M'=>w=.tup [rgv ((hullO none (gs.flatMap (·.pts))).getD zRg),.bool (hullO none (gs.flatMap (·.pts))).isSome] /\ Grow M0 M'):=by
 refine zf k87 rfl ?_
 delta x87;refine un ?_
 repeat' first|with_reducible intro _|refine sv ?_|refine ss ?_ ?_<;>(intro h;first|exact sz h|refine sy h ?_)|exact sq|fail
 rename_i n2 M1 hn2 e1 e2 n3 M2 hn3 e3 e4
 refine zi (fun n E ms M=>∃(k:Nat) (ds:List Nat),n=gs.length - k /\ k<=gs.length /\ ms=ds.map .mark /\ ds.Nodup /\ (∀ d ∈ ds,At M d .defr /\ M2.next<=d) /\
   Has E [(2,.ptr (some (n2,0))),(3,.ptr (some (n3,0))),(7,.slice (some (s,o)) gs.length f e),(8,I gs.length),(9,I k)] /\ Grow M0 M /\ M2.next<=M.next /\
   At M n2 (.cells true (rgc ((hullO none ((gs.take k).flatMap (·.pts))).getD zRg)) 208) /\ At M n3 (.cells true [.bool (hullO none ((gs.take k).flatMap (·.pts))).isSome] 4))
  ?_ gs.length _ _ _ ⟨0,[],by omega,by omega,rfl,List.nodup_nil,fun d hd=>(by cases hd),.cons rfl (.cons rfl (.cons rfl (.cons rfl (.cons rfl .nil)))),xg,by omega,xm,xm⟩
 rintro n E _ M ⟨k,ds,rfl,hk,rfl,hnd,hms,hE,hg,hle,hA2,hA3⟩
 refine z02 hE ?_
 by_cases hlast:k=gs.length
 ·subst hlast
  repeat' first|with_reducible intro _|refine sv ?_|refine ss ?_ ?_<;>(intro h;first|exact sz h|refine sy h ?_)|exact sq|fail
  rename_i M5 _ _ _ M6 _ _ _
  refine z42 (.inr rfl) (by rw[zar];exact hnd) (by rw[zar];intro d hd;obtain⟨h1,h2⟩:=hms d hd;exact xm) (fun M7 hm=>?_) (zir ds)
  rw[zar] at hm
  have hn2':n2 ∉ ds:=fun h=>by have:=(hms _ h).2;omega
  have hn3':n3 ∉ ds:=fun h=>by have:=(hms _ h).2;omega
  have a2:At M6 n2 (.cells true (rgc ((hullO none ((gs.take gs.length).flatMap (·.pts))).getD zRg)) 208):=xm
  have a3:At M6 n3 (.cells true [.bool (hullO none ((gs.take gs.length).flatMap (·.pts))).isSome] 4):=xm
  refine⟨_,.cellN rfl (Rd.of_at (a2.unmark hm hn2') rfl).1 (.cell1 rfl (Rd1.of_at (a3.unmark hm hn3') rfl).1 .nil),?_,Grow.unmark (xg) hm (fun d hd=>by have:=(hms d hd).2;omega)⟩
  rw[List.take_length];rfl
 ·have hlt:k < gs.length:=by omega
  have hmem:gs[k] ∈ gs:=List.getElem_mem hlt
  have htake:(gs.take (k+1)).flatMap (·.pts)=(gs.take k).flatMap (·.pts) ++ gs[k].pts:=by rw[List.take_succ_eq_append_getElem hlt,List.flatMap_append];simp
  (have hrd0:=hs k hlt;repeat' (first|(with_reducible intro _)|refine sv ?_|refine ss ?_ ?_<;>(intro h;first|exact sz h|refine sy h ?_)|exact sq|fail))
  apply zjq
  exact rfl
  intro lb d l M3 M4 hlb hd e5 e6 hl e7 e8
  have hdef:∀ d' ∈ d :: ds,At M4 d' .defr /\ M2.next<=d' /\ d' < l:=fun d' hd'=>by
   rcases List.mem_cons.1 hd' with rfl|hd'
   ·exact⟨At.new_old hl (At.new_same hd),by omega,by omega⟩
   ·obtain⟨h1,h2⟩:=hms d' hd'
    have:=h1.lt
    exact⟨At.new_old hl (At.new_old hd h1),h2,by omega⟩
  have hnd':(d :: ds).Nodup:=List.nodup_cons.2 ⟨fun h=>by have:=(hms d h).1.lt;omega,hnd⟩
  refine(hy gs[k] hmem M4 (xg) l (fun i=>M0.next<=i /\ i < M4.next)
   (fun q M=>At M n2 (.cells true (rgc ((hullO (hullO none ((gs.take k).flatMap (·.pts))) (gs[k].pts.take q)).getD zRg)) 208) /\ At M n3 (.cells true [.bool (hullO (hullO none ((gs.take k).flatMap (·.pts))) (gs[k].pts.take q)).isSome] 4) /\ At M l (lb .ready none) /\ ∀ d' ∈ d :: ds,At M d' .defr)
   (fun _=>False) ?_ ?_ ?_ ?_ ?_ ⟨xm,xm,xm,fun d' hd'=>(hdef d' hd').1⟩).mono ?_
  ·rintro i ⟨h1,h2⟩;exact h2
  ·intro i hi h
   have:=hS gs[k] hmem i hi
   omega
  ·rintro q M M' ⟨h1,h2,h3,h4⟩ hle' hA'
   exact⟨h1.same hle' (hA' _ (by omega)),h2.same hle' (hA' _ (by omega)),h3.same hle' (hA' _ (by omega)),fun d' hd'=>(h4 d' hd').same hle' (hA' _ (by have:=(hdef d' hd').2.2;omega))⟩
  ·intro M M' h;exact h.elim
  ·rintro q x hx M' hle' ⟨h1,h2,h3,h4⟩
   rw[List.getElem?_map] at hx
   obtain⟨p,hpq,rfl⟩:=Option.map_eq_some_iff.1 hx
   have hsm:SmP 1000000 p:=hp gs[k] hmem p (List.mem_of_getElem? hpq)
   have hsu:=zg2 (hullO none ((gs.take k).flatMap (·.pts))) gs[k].pts hpq
   rw[hsu]
   generalize hullO (hullO none ((gs.take k).flatMap (·.pts))) (gs[k].pts.take q)=oq at *
   unfold SmP at hsm
   refine z7i hlb h3 rfl ?_
   dsimp only[zipP]
   cases oq with
   | none =>
    repeat' first|with_reducible intro _|refine sv ?_|((with_reducible first|apply zp|apply zo|apply zj);exact gd;exact rfl;exact rfl;(first|exact c_of p (by omega) _|exact z3w (ofP p) (ofP p) _))|refine ss ?_ ?_<;>(intro h;first|exact sz h|refine sy h ?_)|exact sq|fail
    exact⟨xk,.inl ⟨rfl,xm,xm,xm,fun d' hd'=>by have hq:=h4 d' hd';obtain⟨_,q1,q2⟩:=hdef d' hd';exact xm⟩⟩
   | some r =>
    repeat' first|with_reducible intro _|refine sv ?_|((with_reducible first|apply zp|apply zo|apply zj);exact gd;exact rfl;exact rfl;(first|exact c_of p (by omega) _|exact z3w r (ofP p) _))|refine ss ?_ ?_<;>(intro h;first|exact sz h|refine sy h ?_)|exact sq|fail
    exact⟨xk,.inl ⟨rfl,xm,xm,xm,fun d' hd'=>by have hq:=h4 d' hd';obtain⟨_,q1,q2⟩:=hdef d' hd';exact xm⟩⟩
  ·rintro v M5 ⟨hk5,⟨h1,h2,h3,h4⟩|h⟩
   ·have hg5:Grow M0 M5:=(Grow.to_keep (xg) (fun _=>False) |>.trans hk5 (fun i hi=>.inr hi.1)).to_grow (fun i hi=>hi.elim)
    have hle5:=hk5.le
    have hfold:hullO none ((gs.take (k+1)).flatMap (·.pts))=hullO (hullO none ((gs.take k).flatMap (·.pts))) (gs[k].pts.take (gs[k].pts.map fun p=>[ptv p]).length):=by
     rw[htake,List.length_map,List.take_length];unfold hullO;rw[List.foldl_append]
    clear hk5
    refine zen h3 (by simp) fun M6 hu e9 a9=>?_
    repeat' first|with_reducible intro _|refine sv ?_|refine ss ?_ ?_<;>(intro h;first|exact sz h|refine sy h ?_)|exact sq|fail
    refine zq (gs.length - (k+1)) (by omega) ⟨k+1,d :: ds,rfl,by omega,rfl,hnd',fun d' hd'=>⟨by have hq:=h4 d' hd';obtain⟨_,q1,q2⟩:=hdef d' hd';exact xm,(hdef d' hd').2.1⟩,.cons rfl (.cons rfl (.cons rfl (.cons rfl (.cons rfl .nil)))),xg,by omega,?_,?_⟩
    ·rw[hfold];exact xm
    ·rw[hfold];exact xm
   ·exact h.elim
theorem zo8(r:Rg)(hr:Sm 500000 r){p:Nat}{own:Bool}{ty:TypeId}{s:Nat}{f:Bool}{e:Nat}{M0:Mem}(hp:At M0 p (.cells own (rgc r) ty))(hs:Rd1 M0 s 0 (endsV p)) :
  ze Tryz.prog 87 [.slice (some (s,0)) 1 f e] M0 (fun w M'=>w=.tup [rgv ((tightO r).getD zRg),.bool (tightO r).isSome] /\ Grow M0 M'):=by
 have h:=zmx [⟨199,[.ptr (some (p,0))],(fun i=>i=p),endsL r⟩] (s:=s) (o:=0) (f:=f) (e:=e) (M0:=M0)
  (fun k hk=>by obtain rfl:k=0:=by simpa using hk
                exact hs) (by simp)
  (fun g hg M' hM=>by obtain rfl:=List.mem_singleton.1 hg;exact zt4 r (hr.mono (by omega)) (At.grow hM hp))
  (fun g hg i hi=>by obtain rfl:=List.mem_singleton.1 hg;obtain rfl:i=p:=hi;exact hp.2)
  (fun g hg q hq=>by obtain rfl:=List.mem_singleton.1 hg;exact(zom hr hq).mono (by omega))
 rw[show List.flatMap (fun x:Gv=>x.pts) [⟨199,[.ptr (some (p,0))],(fun i=>i=p),endsL r⟩]=endsL r by simp] at h
 exact h
theorem zhe(r:Rg)(hr:Sm 500000 r)(M:Mem):ze Tryz.prog 93 [rgv r] M (fun w M'=>w=.tup [rgv ((tightO r).getD zRg),I (eTi r)] /\ Grow M M'):=by
 refine zf k93 rfl ?_
 delta x93;refine un ?_
 repeat' first|with_reducible intro _|refine sv ?_|((with_reducible first|apply zp|apply zo|apply zj);exact gd;exact rfl;exact rfl;(first|exact zo8 r hr (xm) (Rd1.of_at (At.new_same (by assumption)) rfl)))|((with_reducible first|apply zjr|apply d_mkat);exact gd;exact rfl;exact rfl;(first|exact zqn r _))|refine ss ?_ ?_<;>(intro h;first|exact sz h|refine sy h ?_)|exact sq|fail
 all_goals (refine kf ?_)
 all_goals refine⟨?_,xg⟩
 all_goals (unfold eTi;cases ht:tightO r<;>first|rfl|(simp[ht] at *;done))
theorem zqm(r:Rg)(e:Int)(M:Mem):ze Tryz.prog 96 [rgv r,I e] M (fun w M'=>w=resv (if e=0 then(r,0) else(zRg,e)) /\ Grow M M'):=by
 refine zf k96 rfl ?_
 delta x96;refine un ?_
 repeat' first|with_reducible intro _|refine sv ?_|((with_reducible first|apply zp|apply zo|apply zj);exact gd;exact rfl;exact rfl;(first|exact zeg r _))|refine ss ?_ ?_<;>(intro h;first|exact sz h|refine sy h ?_)|exact sq|fail
 all_goals (refine kf ?_)
 all_goals refine⟨?_,xg⟩
 ·rw[if_neg (by omega)];rfl
 ·rw[if_pos (by omega)];rfl
def ePt(x y:Int):Int:=if Pl x y then 0 else 10
theorem z1h(x y:Int)(M:Mem):ze Tryz.prog 35 [.agg [I x,I y]] M (fun w M'=>w=I (ePt x y) /\ Grow M M'):=by
 refine zf k35 rfl ?_
 delta x35;refine un ?_
 repeat' first|with_reducible intro _|refine sv ?_|refine su ?_|((with_reducible first|apply z0c|apply z0a|apply zx);exact gd;exact rfl;exact rfl;(first|exact zh9 _ _ (by omega) _))|refine ss ?_ ?_<;>(intro h;first|exact sz h|refine sy h ?_)|exact sq|fail
 all_goals (apply zdj;exact .tmp rfl .nil;refine⟨?_,?_⟩)
 all_goals (try unfold iMax iMin at *)
 all_goals first
  |(exact xg;done)
  |(unfold ePt;split<;>first|rfl|(exfalso;omega))
end Go.Proofs.YtpgalhbplcanhaaGreatDoor.C
end
section
open Go PvL
set_option linter.unusedSimpArgs false
set_option linter.unusedVariables false
namespace Go.Proofs.YtpgalhbplcanhaaGreatDoor.C
theorem ze0:∀ l:List LV,z0h l 0 []=some l
 | []=>rfl
 | _ :: _=>rfl
theorem z8x:∀(vs rest ws:List LV),ws.length=vs.length->z0h (vs ++ rest) 0 ws=some (ws ++ rest)
 | [],rest,[],_=>by rw[List.nil_append];exact ze0 _
 | v :: vs,rest,w :: ws,h=>by
  show ob (z0h (vs ++ rest) 0 ws) (fun l=>some (w :: l))=_
  rw[z8x vs rest ws (by simpa using h)]
  rfl
theorem z8v:∀(pre l vs:List LV) (k:Nat) (r:List LV),z0h l k vs=some r->vs ≠ []->z0h (pre ++ l) (pre.length+k) vs=some (pre ++ r)
 | [],l,vs,k,r,h,_=>by rw[List.length_nil,Nat.zero_add];exact h
 | p :: pre,l,[],k,r,h,hv=>absurd rfl hv
 | p :: pre,l,v :: vs,k,r,h,hv=>by
  rw[show(p :: pre).length+k=(pre.length+k)+1 from by rw[List.length_cons];omega]
  show ob (z0h (pre ++ l) (pre.length+k) (v :: vs)) (fun l=>some (p :: l))=_
  rw[z8v pre l (v :: vs) k r h hv]
  rfl
theorem z75{α:Type}{enc:α->List LV}{sz:Nat}(henc:∀ x,(enc x).length=sz)(h0:0 < sz):∀(l:List α) (k:Nat) (v:α),k < l.length->z0h (l.flatMap enc) (k*sz) (enc v)=some ((l.set k v).flatMap enc)
 | [],k,v,h=>absurd h (Nat.not_lt_zero _)
 | x :: l,0,v,h=>by
  rw[Nat.zero_mul,List.set_cons_zero,List.flatMap_cons,List.flatMap_cons]
  exact z8x _ _ _ (by rw[henc,henc])
 | x :: l,k+1,v,h=>by
  rw[List.set_cons_succ,List.flatMap_cons,List.flatMap_cons,show(k+1)*sz=(enc x).length+k*sz from by rw[henc,Nat.add_mul,Nat.one_mul,Nat.add_comm]]
  refine z8v _ _ _ _ _ (z75 henc h0 l k v (by simpa using h)) fun he=>?_
  have:=henc v
  rw[he] at this
  simp at this
  omega
def tabL{α:Type}(enc:α->List LV)(G:Nat->α)(n:Nat):List LV:=((List.range n).map G).flatMap enc
theorem zm6{α:Type}{enc:α->List LV}{sz:Nat}(henc:∀ x,(enc x).length=sz)(h0:0 < sz){G G':Nat->α}{n k:Nat}(hk:k < n)(h:∀ i,i < n->i ≠ k->G' i=G i):z0h (tabL enc G n) (k*sz) (enc (G' k))=some (tabL enc G' n):=by
 unfold tabL
 rw[z75 henc h0 _ _ _ (by simpa using hk)]
 congr 2
 refine List.ext_getElem (by simp) fun i h1 h2=>?_
 rw[List.getElem_set]
 by_cases he:k=i
 ·subst he;simp
 ·rw[if_neg he]
  simp only[List.getElem_map,List.getElem_range]
  exact(h i (by simpa using h2) (fun h=>he h.symm)).symm
theorem zpe{α:Type}{enc:α->List LV}{sz:Nat}(henc:∀ x,(enc x).length=sz){G:Nat->α}{n k:Nat}{M:Mem}{i:Nat}{own:Bool}{ty:TypeId}(ha:At M i (.cells own (tabL enc G n) ty))(hk:k < n):Rd M i (0+k*sz) sz (enc (G k)):=by
 have:=z8r (enc:=enc) (l:=(List.range n).map G) (sz:=sz) ha (fun x _=>henc x) (k:=k) (by simpa using hk)
 simpa using this
structure Ky where
 fst:Int
 snd:Int
 ok:(-1<=fst /\ fst<=100000) /\ (-1<=snd /\ snd<=100000)
theorem Ky.ext2{a b:Ky}(h1:a.1=b.1)(h2:a.2=b.2):a=b:=by
 obtain⟨x,y,h⟩:=a
 obtain⟨z,w,h'⟩:=b
 obtain rfl:x=z:=h1
 obtain rfl:y=w:=h2
 rfl
instance:DecidableEq Ky:=fun a b=>if h:a.1=b.1 /\ a.2=b.2 then isTrue (Ky.ext2 h.1 h.2) else isFalse fun e=>h (by rw[e];exact⟨rfl,rfl⟩)
def kz:Ky:=⟨0,0,by omega⟩
instance:Inhabited Ky:=⟨kz⟩
abbrev kyc(k:Ky):List LV:=[I k.1,I k.2]
def klt(a b:Ky):Prop:=a.1 < b.1 ∨(a.1=b.1 /\ a.2 < b.2)
instance (a b:Ky):Decidable (klt a b):=by unfold klt;infer_instance
def cmpC(a b:Ky):Int:=if a.1 ≠ b.1 then a.1 - b.1 else a.2 - b.2
theorem z0u(a b:Ky):cmpC a b < 0 ↔ klt a b:=by
 unfold cmpC klt
 by_cases h1:a.1=b.1
 ·rw[if_neg (fun h=>h h1)];omega
 ·rw[if_pos h1];omega
theorem z45(a:Ky):¬ klt a a:=by unfold klt;omega
theorem zc8{a b c:Ky}(h:klt a b)(h':klt b c):klt a c:=by unfold klt at *;omega
theorem z8a{a b c:Ky}(h:¬ klt b a)(h':¬ klt c b):¬ klt c a:=by unfold klt at *;omega
theorem z8b{a b:Ky}(h:klt a b):¬ klt b a:=by unfold klt at *;omega
theorem zi9{a b:Ky}(h:a ≠ b):klt a b ∨ klt b a:=by
 unfold klt
 have:¬(a.1=b.1 /\ a.2=b.2):=fun⟨h1,h2⟩=>h (Ky.ext2 h1 h2)
 omega
def sw(G:Nat->Ky)(i j:Nat):Nat->Ky:=fun t=>if t=j then G i else if t=i then G j else G t
theorem sw_j(G:Nat->Ky)(i j:Nat):sw G i j j=G i:=by unfold sw;rw[if_pos rfl]
theorem sw_i(G:Nat->Ky)(i j:Nat):sw G i j i=G j:=by
 unfold sw
 by_cases h:i=j
 ·subst h;rw[if_pos rfl]
 ·rw[if_neg h,if_pos rfl]
theorem z4o{G:Nat->Ky}{i j t:Nat}(h1:t ≠ i)(h2:t ≠ j):sw G i j t=G t:=by unfold sw;rw[if_neg h2,if_neg h1]
inductive Sw (a b:Nat) (G:Nat->Ky):(Nat->Ky)->Prop
 | refl:Sw a b G G
 | step {G':Nat->Ky} {i j:Nat} (h:Sw a b G G') (h1:a<=i) (h2:i < b) (h3:a<=j) (h4:j < b):Sw a b G (sw G' i j)
theorem Sw.trans{a b:Nat}{G G1 G2:Nat->Ky}(h:Sw a b G G1)(h':Sw a b G1 G2):Sw a b G G2:=by
 induction h' with
 | refl=>exact h
 | step _ h1 h2 h3 h4 ih=>exact .step ih h1 h2 h3 h4
theorem Sw.wider{a b a' b':Nat}{G G1:Nat->Ky}(h:Sw a b G G1)(ha:a'<=a)(hb:b<=b'):Sw a' b' G G1:=by
 induction h with
 | refl=>exact .refl
 | step _ h1 h2 h3 h4 ih=>exact .step ih (by omega) (by omega) (by omega) (by omega)
theorem Sw.one{a b i j:Nat}{G:Nat->Ky}(h1:a<=i)(h2:i < b)(h3:a<=j)(h4:j < b):Sw a b G (sw G i j):=.step .refl h1 h2 h3 h4
theorem Sw.out{a b:Nat}{G G':Nat->Ky}(h:Sw a b G G'){t:Nat}(ht:t < a ∨ b<=t):G' t=G t:=by
 induction h with
 | refl=>rfl
 | step _ h1 h2 h3 h4 ih=>rw[z4o (by omega) (by omega),ih]
theorem Sw.all{a b:Nat}{G G':Nat->Ky}(h:Sw a b G G'){p:Ky->Prop}(hp:∀ t,a<=t->t < b->p (G t)):∀ t,a<=t->t < b->p (G' t):=by
 induction h with
 | refl=>exact hp
 | step _ h1 h2 h3 h4 ih =>
  intro t ht1 ht2
  unfold sw
  split
  ·exact ih _ h1 h2
  ·split
   ·exact ih _ h3 h4
   ·exact ih _ ht1 ht2
def Inj(n:Nat)(G:Nat->Ky):Prop:=∀ i j,i < n->j < n->G i=G j->i=j
theorem Sw.inj{a b n:Nat}{G G':Nat->Ky}(h:Sw a b G G')(hb:b<=n)(hi:Inj n G):Inj n G':=by
 induction h with
 | refl=>exact hi
 | @step G' i j _ h1 h2 h3 h4 ih =>
  intro x y hx hy hxy
  unfold sw at hxy
  by_cases hxj:x=j
  ·by_cases hyj:y=j
   ·omega
   ·rw[if_pos hxj,if_neg hyj] at hxy
    by_cases hyi:y=i
    ·rw[if_pos hyi] at hxy;have:=ih _ _ (by omega) (by omega) hxy;omega
    ·rw[if_neg hyi] at hxy;have:=ih _ _ (by omega) hy hxy;omega
  ·rw[if_neg hxj] at hxy
   by_cases hxi:x=i
   ·rw[if_pos hxi] at hxy
    by_cases hyj:y=j
    ·rw[if_pos hyj] at hxy;have:=ih _ _ (by omega) (by omega) hxy;omega
    ·rw[if_neg hyj] at hxy
     by_cases hyi:y=i
     ·omega
     ·rw[if_neg hyi] at hxy;have:=ih _ _ (by omega) hy hxy;omega
   ·rw[if_neg hxi] at hxy
    by_cases hyj:y=j
    ·rw[if_pos hyj] at hxy;have:=ih _ _ hx (by omega) hxy;omega
    ·rw[if_neg hyj] at hxy
     by_cases hyi:y=i
     ·rw[if_pos hyi] at hxy;have:=ih _ _ hx (by omega) hxy;omega
     ·rw[if_neg hyi] at hxy;exact ih _ _ hx hy hxy
def Srt(a b:Nat)(G:Nat->Ky):Prop:=∀ i j,a<=i->i < j->j < b->¬ klt (G j) (G i)
theorem Srt.short{a b:Nat}{G:Nat->Ky}(h:b<=a+1):Srt a b G:=fun i j h1 h2 h3=>by omega
def Ins(a b j:Nat)(G:Nat->Ky):Prop:=∀ p q,a<=p->p < q->q < b->q ≠ j->¬ klt (G q) (G p)
theorem Ins.start{a i:Nat}{G:Nat->Ky}(h:Srt a i G):Ins a (i+1) i G:=fun p q h1 h2 h3 h4=>h p q h1 h2 (by omega)
theorem Ins.step{a b j:Nat}{G:Nat->Ky}(h:Ins a b (j+1) G)(hj:a<=j)(hlt:klt (G (j+1)) (G j)):Ins a b j (sw G (j+1) j):=by
 intro p q h1 h2 h3 h4
 by_cases hq1:q=j+1
 ·subst hq1
  rw[sw_i]
  by_cases hp:p=j
  ·subst hp;rw[sw_j];exact z8b hlt
  ·rw[z4o (by omega) (by omega)]
   exact h p j h1 (by omega) (by omega) (by omega)
 ·by_cases hq:q<=j
  ·rw[z4o (by omega) (by omega),z4o (by omega) (by omega)]
   exact h p q h1 h2 h3 hq1
  ·rw[show sw G (j+1) j q=G q from z4o (by omega) (by omega)]
   by_cases hp1:p=j+1
   ·subst hp1;rw[sw_i];exact h j q hj (by omega) h3 (by omega)
   ·by_cases hp:p=j
    ·subst hp;rw[sw_j];exact h (p+1) q (by omega) (by omega) h3 (by omega)
    ·rw[z4o hp1 hp];exact h p q h1 h2 h3 (by omega)
theorem Ins.done{a b j:Nat}{G:Nat->Ky}(h:Ins a b j G)(hd:j<=a ∨ ¬ klt (G j) (G (j - 1))):Srt a b G:=by
 intro p q h1 h2 h3
 by_cases hq:q=j
 ·subst hq
  rcases hd with hd|hd
  ·omega
  ·by_cases hp:p=q - 1
   ·subst hp;exact hd
   ·exact z8a (h p (q - 1) h1 (by omega) (by omega) (by omega)) hd
 ·exact h p q h1 h2 h3 hq
end Go.Proofs.YtpgalhbplcanhaaGreatDoor.C
end
section
open Go PvL Go.Proofs
set_option linter.unusedSimpArgs false
set_option linter.unusedVariables false
namespace Go.Proofs.YtpgalhbplcanhaaGreatDoor.C
abbrev kyv(k:Ky):LV:=.agg [I k.1,I k.2]
theorem zqx(a1 a2 b1 b2:Int)(ha:(-1<=a1 /\ a1<=100000) /\ (-1<=a2 /\ a2<=100000))(hb:(-1<=b1 /\ b1<=100000) /\ (-1<=b2 /\ b2<=100000))(M:Mem):ze Tryz.prog 158 [.agg [I a1,I a2],.agg [I b1,I b2]] M (fun w M'=>w=I (if a1 ≠ b1 then a1 - b1 else a2 - b2) /\ Grow M M'):=by
 refine zf k158 rfl ?_
 delta x158;refine un ?_
 repeat' first|with_reducible intro _|refine sv ?_|refine ss ?_ ?_<;>(intro h;first|exact sz h|refine sy h ?_)|exact sq|fail
 all_goals (refine kf ?_)
 all_goals refine⟨?_,xg⟩
 ·rw[if_pos (by assumption)];rfl
 ·rw[if_neg (fun h=>h (by assumption))];rfl
theorem z2x(a b:Ky)(M:Mem):ze Tryz.prog 158 [kyv a,kyv b] M (fun w M'=>w=I (cmpC a b) /\ Grow M M'):=zqx a.1 a.2 b.1 b.2 a.ok b.ok M
abbrev cf:LV:=.func (.func 158) [] []
abbrev KT(M:Mem)(p n:Nat)(ty:TypeId)(G:Nat->Ky):Prop:=At M p (.cells true (tabL kyc G n) ty)
theorem z0z{M:Mem}{p n k:Nat}{ty:TypeId}{G:Nat->Ky}(h:KT M p n ty G)(hk:k < n):Rd M p (0+k*2) 2 [I (G k).1,I (G k).2]:=zpe (enc:=kyc) (fun _=>rfl) h hk
theorem z0r{n k:Nat}{G:Nat->Ky}(hk:k < n)(x:Ky):z0h (tabL kyc G n) (0+k*2) [I x.1,I x.2]=some (tabL kyc (fun t=>if t=k then x else G t) n):=by
 have:=zm6 (enc:=kyc) (sz:=2) (G:=G) (G':=fun t=>if t=k then x else G t) (n:=n) (k:=k) (fun _=>rfl) (by omega) hk (fun i _ hi=>by simp[hi])
 simpa using this
set_option maxHeartbeats 4000000 in
theorem zt8{M:Mem}{p n a b:Nat}{f:Bool}{e:Nat}{ty:TypeId}{G:Nat->Ky}(hA:KT M p n ty G)(hb:b<=n)(hab:a<=b)(hn:n<=1100) :
  ze Tryz.prog 250 [.slice (some (p,0)) n f e,I a,I b,cf] M (fun w M'=>∃ G',Sw a b G G' /\ Srt a b G' /\ KT M' p n ty G' /\ Keep (fun i=>i=p) M M'):=by
 refine zf k250 rfl ?_
 delta x250;refine un ?_
 repeat' first|with_reducible intro _|refine sv ?_|refine ss ?_ ?_<;>(intro h;first|exact sz h|refine sy h ?_)|exact sq|fail
 refine zi (fun z E ms M'=>∃(i:Nat) (G':Nat->Ky),z=b+1 - i /\ a+1<=i /\ (i<=b ∨ i=a+1) /\ ms=[] /\ Has E [(0,.slice (some (p,0)) n f e),(1,I a),(2,I b),(3,cf),(8,I i)] /\ Sw a b G G' /\ Srt a i G' /\ KT M' p n ty G' /\ Keep (fun i=>i=p) M M')
  ?_ (b+1 - (a+1)) _ _ _ ⟨a+1,G,rfl,by omega,.inr rfl,rfl,.cons rfl (.cons rfl (.cons rfl (.cons rfl (.cons rfl .nil)))),.refl,Srt.short (by omega),hA,Keep.refl _ _⟩
 rintro z E ms M1 ⟨i,G1,rfl,hi,hib,rfl,hE,hw1,hs1,hA1,hk1⟩
 refine z02 hE ?_
 by_cases hlast:b<=i
 ·repeat' first|with_reducible intro _|refine sv ?_|refine ss ?_ ?_<;>(intro h;first|exact sz h|refine sy h ?_)|exact sq|fail
  all_goals try(exfalso;omega)
  refine kf ?_
  exact⟨G1,hw1,fun x y h1 h2 h3=>hs1 x y h1 h2 (by omega),hA1,hk1⟩
 have hlt:i < b:=by omega
 repeat' first|with_reducible intro _|refine sv ?_|refine ss ?_ ?_<;>(intro h;first|exact sz h|refine sy h ?_)|exact sq|fail
 all_goals try(exfalso;omega)
 refine zi (fun z E ms M'=>∃(G':Nat->Ky),a<=z /\ z<=i /\ ms=[] /\ Has E [(0,.slice (some (p,0)) n f e),(1,I a),(2,I b),(3,cf),(8,I i),(9,I z)] /\ Sw a b G G' /\ Ins a (i+1) z G' /\ KT M' p n ty G' /\ Keep (fun i=>i=p) M M')
  ?_ i _ _ _ ⟨G1,by omega,Nat.le_refl _,rfl,.cons rfl (.cons rfl (.cons rfl (.cons rfl (.cons rfl (.cons rfl .nil))))),hw1,Ins.start hs1,hA1,hk1⟩
 rintro j E ms M2 ⟨G2,hj1,hj2,rfl,hE,hw2,hs2,hA2,hk2⟩
 refine z02 hE ?_
 by_cases hja:j=a
 ·subst hja
  repeat' first|with_reducible intro _|refine sv ?_|refine ss ?_ ?_<;>(intro h;first|exact sz h|refine sy h ?_)|exact sq|fail
  all_goals try(exfalso;omega)
  refine zq (b+1 - (i+1)) (by omega) ⟨i+1,G2,rfl,by omega,by omega,rfl,.cons rfl (.cons rfl (.cons rfl (.cons rfl (.cons rfl .nil)))),hw2,hs2.done (.inl (Nat.le_refl _)),hA2,hk2⟩
 obtain⟨j',rfl⟩:∃ j',j=j' + 1:=⟨j - 1,by omega⟩
 have hz:(((j' + 1:Nat):Int) - 1).toNat=j':=by omega
 have hr1:=z0z hA2 (show j' + 1 < n by omega)
 have hr2:=z0z hA2 (show j' < n by omega)
 rw[<-hz] at hr2
 rw[hz] at hr2
 have hr3:Rd M2 p (0+(((j' + 1:Nat):Int) - 1).toNat*2) 2 [I (G2 j').1,I (G2 j').2]:=by rw[hz];exact hr2
 have co:=fun M'=>z2x (G2 (j' + 1)) (G2 j') M'
 have hlt9:=z0u (G2 (j' + 1)) (G2 j')
 (have hrd0:=hr1;have hrd1:=hr3;repeat' (first|(with_reducible intro _)|refine sv ?_|((with_reducible first|apply zp|apply zo|apply zj);exact gd;exact rfl;exact rfl;(first|exact co _))|refine ss ?_ ?_<;>(intro h;first|exact sz h|refine sy h ?_)|exact sq|fail))
 ·rename_i hgt M5 hg5 q5
  have hA5:KT M5 p n ty G2:=hA2.grow hg5
  refine d_st (by exact gd) rfl rfl hA5 rfl rfl (z0r (by omega) (G2 j')) ?_
  intro M6 hU6 e6 hA6
  repeat' first|with_reducible intro _|refine sv ?_|refine ss ?_ ?_<;>(intro h;first|exact sz h|refine sy h ?_)|exact sq|fail
  refine d_st (by exact gd) rfl rfl hA6 rfl rfl (by rw[hz];exact z0r (by omega) (G2 (j' + 1))) ?_
  intro M7 hU7 e7 hA7
  have hk7:Keep (fun i=>i=p) M M7:=xk
  have hlt8:=hlt9.1 h
  repeat' first|with_reducible intro _|refine sv ?_|refine ss ?_ ?_<;>(intro h;first|exact sz h|refine sy h ?_)|exact sq|fail
  refine zq j' (by omega) ⟨sw G2 (j' + 1) j',by omega,by omega,rfl,.cons rfl (.cons rfl (.cons rfl (.cons rfl (.cons rfl (.cons ?_ .nil))))),.step hw2 (by omega) (by omega) (by omega) (by omega),hs2.step (by omega) hlt8,hA7,hk7⟩
  show some (I _)=some (I _)
  rw[show((j' + 1:Nat):Int) - 1=j' by omega]
 ·rename_i hgt M5 hg5 q5
  have hA5:KT M5 p n ty G2:=hA2.grow hg5
  have hk5:Keep (fun i=>i=p) M M5:=xk
  refine zq (b+1 - (i+1)) (by omega) ⟨i+1,G2,rfl,by omega,by omega,rfl,.cons rfl (.cons rfl (.cons rfl (.cons rfl (.cons rfl .nil)))),hw2,hs2.done (.inr (fun hk=>absurd (hlt9.2 hk) (Int.not_lt.2 h))),hA5,hk5⟩
structure Gd where
 xo:Int
 yo:Int
 sz:Int
 ac:Int
 dn:Int
 cl:List Bd
abbrev bdc7(b:Bd):List LV:=[I b.1,I b.2]
abbrev gdc(g:Gd)(a:Option (Nat × Nat))(f:Bool)(e:Nat):List LV:=[I g.xo,I g.yo,I g.sz,I g.ac,I g.dn,.slice a g.cl.length f e]
abbrev gdv(g:Gd)(a:Option (Nat × Nat))(f:Bool)(e:Nat):LV:=.agg (gdc g a f e)
def SlC(M:Mem)(a:Option (Nat × Nat))(l:List Bd):Prop:=l=[] ∨ ∃ i o,a=some (i,o) /\ ∀ k (hk:k < l.length),Rd M i (o+k*2) 2 (bdc7 l[k])
theorem SlC.grow{M M':Mem}{a:Option (Nat × Nat)}{l:List Bd}(h:SlC M a l)(hg:Grow M M'):SlC M' a l :=
 h.imp id fun⟨i,o,h1,h2⟩=>⟨i,o,h1,fun k hk=>(h2 k hk).grow hg⟩
theorem SlC.rd{M:Mem}{a:Option (Nat × Nat)}{l:List Bd}(h:SlC M a l){k:Nat}(hk:k < l.length):∃ i o,a=some (i,o) /\ ∀ j (hj:j < l.length),Rd M i (o+j*2) 2 (bdc7 l[j]):=by
 rcases h with rfl|⟨i,o,h1,h2⟩
 ·exact absurd hk (Nat.not_lt_zero _)
 ·exact⟨i,o,h1,h2⟩
def lastC(l:List Bd):Nat->Int
 | 0=>-1
 | k+1=>(l.getD k (0,0)).2
def clsAt(l:List Bd)(k:Nat):Prop:=lastC l k <(l.getD k (0,0)).1 /\ (l.getD k (0,0)).1<=(l.getD k (0,0)).2 /\ (l.getD k (0,0)).2<=17179869184
structure GdOk (g:Gd):Prop where
 pl:Pl g.xo g.yo
 sz:1<=g.sz /\ g.sz<=1000
 ac:1<=g.ac /\ g.ac<=16
 dn:1<=g.dn /\ g.dn<=16
 n1:1<=g.cl.length
 n4:g.cl.length<=4
 cl:∀ k,k < g.cl.length->clsAt g.cl k
open Classical in
noncomputable def errG(g:Gd):Int:=if GdOk g then 0 else 70
theorem z36(n lo hi:Int)(M:Mem):ze Tryz.prog 159 [I n,I lo,I hi] M (fun w M'=>w=.bool (decide (lo<=n /\ n<=hi)) /\ M'=M):=by
 refine zf k159 rfl ?_
 delta x159;refine un ?_
 repeat' first|with_reducible intro _|refine sv ?_|refine ss ?_ ?_<;>(intro h;first|exact sz h|refine sy h ?_)|exact sq|fail
 all_goals (apply zdj;exact .tmp rfl .nil;refine⟨?_,rfl⟩)
 all_goals first
  | exact zep (by omega)
  | exact lb_f (by omega)
  | exact lb_t (by omega)
theorem zn7{g:Gd}(h:¬ GdOk g):errG g=70:=if_neg h
theorem zhu{g:Gd}(h:GdOk g):errG g=0:=if_pos h
set_option maxHeartbeats 4000000 in
theorem zbp{xo yo szz ac dn:Int}{cl:List Bd}{a:Option (Nat × Nat)}{f:Bool}{e:Nat}{M:Mem}(hs:SlC M a cl)(hl:cl.length<=1000000000000000):ze Tryz.prog 102 [.agg [I xo,I yo,I szz,I ac,I dn,.slice a cl.length f e]] M (fun w M'=>w=I (errG ⟨xo,yo,szz,ac,dn,cl⟩) /\ Grow M M'):=by
 have hno:=fun h=>zn7 (g:=⟨xo,yo,szz,ac,dn,cl⟩) h
 refine zf k102 rfl ?_
 delta x102;refine un ?_
 by_cases h0:Pl xo yo /\ (1<=szz /\ szz<=1000) /\ (1<=ac /\ ac<=16) /\ (1<=dn /\ dn<=16) /\ (1<=cl.length /\ cl.length<=4)
 ·obtain⟨q1,q2,q3,q4,q5⟩:=h0
  have he:ePt xo yo=0:=if_pos q1
  have cp:=fun M'=>z1h xo yo M'
  rw[he] at cp
  repeat' first|with_reducible intro _|refine sv ?_|((with_reducible first|apply z0c|apply z0a|apply zx);exact gd;exact rfl;exact rfl;(first|exact z36 _ _ _ _))|((with_reducible first|apply zp|apply zo|apply zj);exact gd;exact rfl;exact rfl;(first|exact cp _))|refine ss ?_ ?_<;>(intro h;first|exact sz h|refine sy h ?_)|exact sq|fail
  all_goals try(exfalso;omega)
  rename_i n1 M1 u1 u2 u3 M2 u4 u5 _ _ _
  have g2:Grow M M2:=u1.grow.trans u4
  clear u1 u4
  obtain⟨i,o,rfl,hr⟩:=hs.rd (show 0 < cl.length by omega)
  refine zi (fun m E ms M'=>∃(k:Nat),m=cl.length - k /\ k<=cl.length /\ ms=[] /\ Has E [(3,I (lastC cl k)),(36,.slice (some (i,o)) cl.length f e),(37,I cl.length),(38,I k)] /\ Grow M M' /\ ∀ j,j < k->clsAt cl j)
   ?_ cl.length _ _ _ ⟨0,by omega,by omega,rfl,.cons rfl (.cons rfl (.cons rfl (.cons rfl .nil))),g2,fun j hj=>by omega⟩
  rintro m E ms M3 ⟨k,rfl,hk,rfl,hE3,hg3,hall⟩
  refine z02 hE3 ?_
  by_cases hlast:k=cl.length
  ·subst hlast
   repeat' first|with_reducible intro _|refine sv ?_|refine ss ?_ ?_<;>(intro h;first|exact sz h|refine sy h ?_)|exact sq|fail
   all_goals try(exfalso;omega)
   refine kf ?_
   rw[zhu ⟨q1,q2,q3,q4,q5.1,q5.2,hall⟩]
   exact⟨rfl,xg⟩
  ·have hlt:k < cl.length:=by omega
   have r1:=(hr k hlt).grow hg3
   have hgk:cl.getD k (0,0)=cl[k]:=by rw[List.getD_eq_getElem?_getD,List.getElem?_eq_getElem hlt];rfl
   have hck:clsAt cl k ↔ lastC cl k < cl[k].1 /\ cl[k].1<=cl[k].2 /\ cl[k].2<=17179869184:=by unfold clsAt;rw[hgk]
   have hnx:lastC cl (k+1)=cl[k].2:=by show(cl.getD k (0,0)).2=_;rw[hgk]
   have hno2:¬ clsAt cl k->errG ⟨xo,yo,szz,ac,dn,cl⟩=70:=fun h=>hno fun h'=>h (h'.cl k hlt)
   generalize lastC cl k=l1 at *
   generalize cl[k]=b at *
   obtain⟨lo,hi⟩:=b
   dsimp only at hck hnx
   have r1:Rd M3 i (o+k*2) 2 [I lo,I hi]:=r1
   by_cases hc:clsAt cl k
   ·have hc':=hck.1 hc
    (have hrd0:=r1;repeat' (first|(with_reducible intro _)|refine sv ?_|refine ss ?_ ?_<;>(intro h;first|exact sz h|refine sy h ?_)|exact sq|fail))
    all_goals try(exfalso;omega)
    rename_i n4 M4 z1 z2 z3 M5 z4 z5 z6 _ _
    have g5:Grow M M5:=(hg3.trans z1.grow).upd z4 (by have:=hg3.le;omega)
    refine zq (cl.length - (k+1)) (by omega) ⟨k+1,rfl,by omega,rfl,.cons (by rw[hnx];rfl) (.cons rfl (.cons rfl (.cons rfl .nil))),g5,fun j hj=>by
     rcases Nat.lt_or_ge j k with h1|h1
     ·exact hall j h1
     ·obtain rfl:j=k:=by omega
      exact hc⟩
   ·rw[hno2 hc]
    have hc':¬(l1 < lo /\ lo<=hi /\ hi<=17179869184):=fun h=>hc (hck.2 h)
    have hl3:=hg3.le
    (have hrd0:=r1;repeat' (first|(with_reducible intro _)|refine sv ?_|refine ss ?_ ?_<;>(intro h;first|exact sz h|refine sy h ?_)|exact sq|fail))
    all_goals first
     |((refine kf ?_);exact⟨rfl,xg⟩)
     |(exfalso;omega)
 ·rw[hno (fun h=>h0 ⟨h.pl,h.sz,h.ac,h.dn,h.n1,h.n4⟩)]
  have he:ePt xo yo=0 ∨ ePt xo yo=10:=by unfold ePt;split<;>simp
  have hp:ePt xo yo=0->Pl xo yo:=fun h=>Classical.byContradiction fun h'=>by unfold ePt at h;rw[if_neg h'] at h;exact absurd h (by decide)
  have cp:=fun M'=>z1h xo yo M'
  generalize ePt xo yo=pe at *
  repeat' first|with_reducible intro _|refine sv ?_|((with_reducible first|apply z0c|apply z0a|apply zx);exact gd;exact rfl;exact rfl;(first|exact z36 _ _ _ _))|((with_reducible first|apply zp|apply zo|apply zj);exact gd;exact rfl;exact rfl;(first|exact cp _))|refine ss ?_ ?_<;>(intro h;first|exact sz h|refine sy h ?_)|exact sq|fail
  all_goals first
   |((refine kf ?_);exact⟨rfl,xg⟩)
   |(exfalso;have:=hp (by omega);omega)
theorem z7t{g:Gd}{a:Option (Nat × Nat)}{f:Bool}{e:Nat}{M:Mem}(hs:SlC M a g.cl)(hl:g.cl.length<=1000000000000000):ze Tryz.prog 102 [gdv g a f e] M (fun w M'=>w=I (errG g) /\ Grow M M'):=zbp hs hl
end Go.Proofs.YtpgalhbplcanhaaGreatDoor.C
end
section
open PvL
set_option linter.unusedSimpArgs false
set_option linter.unusedVariables false
namespace Go.Proofs.YtpgalhbplcanhaaGreatDoor.C
def SlA{α:Type}(sz:Nat)(enc:α->List LV)(M:Mem)(a:Option (Nat × Nat))(l:List α):Prop:=l=[] ∨ ∃ i o,a=some (i,o) /\ ∀ k (hk:k < l.length),Rd M i (o+k*sz) sz (enc l[k])
theorem SlA.grow{α:Type}{sz:Nat}{enc:α->List LV}{M M':Mem}{a:Option (Nat × Nat)}{l:List α}(h:SlA sz enc M a l)(hg:Grow M M'):SlA sz enc M' a l :=
 h.imp id fun⟨i,o,h1,h2⟩=>⟨i,o,h1,fun k hk=>(h2 k hk).grow hg⟩
end Go.Proofs.YtpgalhbplcanhaaGreatDoor.C
end
section
open Go PvL Go.Proofs
set_option linter.unusedSimpArgs false
set_option linter.unusedVariables false
namespace Go.Proofs.YtpgalhbplcanhaaGreatDoor.C
def flF(a b:Int):Int:=if a.tmod b < 0 then a.tdiv b - 1 else a.tdiv b
theorem zra{a b:Int}(hb:0 < b):flF a b=a / b:=by
 unfold flF
 have h1:=Int.emod_nonneg a (show b ≠ 0 by omega)
 have h2:=Int.emod_lt_of_pos a hb
 have h3:=Int.ediv_mul_add_emod a b
 have h4:=Int.mul_tdiv_add_tmod a b
 rcases Int.lt_or_le a 0 with h|h
 ·have e1:a.tdiv b=-((-a) / b):=by rw[<-Int.tdiv_eq_ediv_of_nonneg (by omega),Int.neg_tdiv,Int.neg_neg]
  have e2:a.tmod b=-((-a) % b):=by rw[<-Int.tmod_eq_emod_of_nonneg (by omega),Int.neg_tmod,Int.neg_neg]
  have h5:=Int.emod_nonneg (-a) (show b ≠ 0 by omega)
  have h6:=Int.emod_lt_of_pos (-a) hb
  have h7:=Int.ediv_mul_add_emod (-a) b
  rw[e1,e2]
  generalize (-a) / b=q at *
  generalize (-a) % b=r at *
  split
  ·rename_i hr
   symm
   rw[Int.ediv_eq_iff_of_pos hb]
   rw[Int.sub_mul,Int.neg_mul,Int.one_mul]
   omega
  ·rename_i hr
   symm
   rw[Int.ediv_eq_iff_of_pos hb]
   rw[Int.neg_mul]
   omega
 ·rw[Int.tdiv_eq_ediv_of_nonneg h,Int.tmod_eq_emod_of_nonneg h,if_neg (by omega)]
theorem zhx{a b:Int}(hb:1<=b)(ha:-1000000<=a /\ a<=1000000):-1000000<=flF a b /\ flF a b<=1000000:=by
 rw[zra (by omega)]
 constructor
 ·rw[Int.le_ediv_iff_mul_le (by omega)]
  have:=Int.mul_le_mul_of_nonneg_left hb (show(0:Int)<=1000000 by decide)
  omega
 ·refine Int.le_of_lt_add_one ?_
  rw[Int.ediv_lt_iff_lt_mul (by omega)]
  have:=Int.mul_le_mul_of_nonneg_left hb (show(0:Int)<=1000001 by decide)
  omega
theorem zh7(a b:Int)(hb:1<=b /\ b<=1000000)(ha:-1000000<=a /\ a<=1000000)(M:Mem):ze Tryz.prog 160 [I a,I b] M (fun w M'=>w=I (flF a b) /\ M'=M):=by
 have hf:flF a b=if a.tmod b < 0 then a.tdiv b - 1 else a.tdiv b:=rfl
 have hbd:=zhx (a:=a) (b:=b) hb.1 ha
 have hq:-1000000<=a.tdiv b /\ a.tdiv b<=1000001:=by rw[hf] at hbd;split at hbd<;>omega
 refine zf k160 rfl ?_
 delta x160;refine un ?_
 rw[hf]
 clear hbd hf
 repeat' first|with_reducible intro _|refine sv ?_|refine ss ?_ ?_<;>(intro h;first|exact sz h|refine sy h ?_)|exact sq|fail
 all_goals (refine kf ?_)
 ·exact⟨by rw[if_pos (by assumption)];rfl,rfl⟩
 ·exact⟨by rw[if_neg (by omega)];rfl,rfl⟩
def NonM(M:Mem):Prop:=∃ own,At M 1 (.cells own (intsL .i64 zs0) 0)
theorem NonM.grow{M M':Mem}(h:NonM M)(hg:Grow M M'):NonM M':=by
 obtain⟨own,h⟩:=h
 exact⟨own,At.grow hg h⟩
theorem NonM.rd{M:Mem}(h:NonM M):Rd M 1 0 2 [I (-1),I (-1)]:=by
 obtain⟨own,h⟩:=h
 exact Rd.of_at h rfl
def d2F(a b:Pt):Int:=(a.1 - b.1)*(a.1 - b.1)+(a.2 - b.2)*(a.2 - b.2)
def inC(l:List Bd)(d:Int)(k:Nat):Prop:=(l.getD k (0,0)).1<=d /\ d<=(l.getD k (0,0)).2
instance {l:List Bd} {d:Int} {k:Nat}:Decidable (inC l d k):=by unfold inC;infer_instance
def clsF(l:List Bd)(d:Int):Option Nat:=(List.range l.length).find? fun k=>decide (inC l d k)
def colF(g:Gd)(a b:Pt):Int:=flF (a.1+b.1 - 2*g.xo) (2*g.sz)
def rowF(g:Gd)(a b:Pt):Int:=flF (a.2+b.2 - 2*g.yo) (2*g.sz)
def cellF(g:Gd)(a b:Pt):Int × Int :=
 if (0<=colF g a b /\ colF g a b<=g.ac - 1) /\ (0<=rowF g a b /\ rowF g a b<=g.dn - 1) then
  match clsF g.cl (d2F a b) with
  | some i=>(rowF g a b*g.ac+colF g a b,(i:Int))
  | none=>(-1,-1)
 else(-1,-1)
theorem zhi{l:List Bd}{d:Int}{k:Nat}(hk:k < l.length)(h:inC l d k)(h0:∀ j,j < k->¬ inC l d j):clsF l d=some k:=by
 unfold clsF
 rw[List.find?_range_eq_some]
 exact⟨by simpa using h,List.mem_range.2 hk,fun j hj=>by simpa using h0 j hj⟩
theorem zhh{l:List Bd}{d:Int}(h0:∀ j,j < l.length->¬ inC l d j):clsF l d=none:=by
 unfold clsF
 rw[List.find?_eq_none]
 intro j hj
 have:=h0 j (List.mem_range.1 hj)
 simpa using this
theorem zof{l:List Bd}{d:Int}{k:Nat}(h:clsF l d=some k):k < l.length:=by
 unfold clsF at h
 exact List.mem_range.1 (List.mem_of_find?_eq_some h)
theorem mul16{r c w h:Int}(hr:0<=r /\ r<=h - 1)(hc:0<=c /\ c<=w - 1)(hw:1<=w /\ w<=16)(hh:1<=h /\ h<=16):0<=r*w /\ r*w+c<=255 /\ r*w+c < h*w:=by
 have h1:0<=r*w:=Int.mul_nonneg hr.1 (by omega)
 have h2:r*w<=15*w:=Int.mul_le_mul_of_nonneg_right (by omega) (by omega)
 have h3:(r+1)*w<=h*w:=Int.mul_le_mul_of_nonneg_right (by omega) (by omega)
 rw[Int.add_mul,Int.one_mul] at h3
 omega
theorem zan{g:Gd}(hg:GdOk g)(a b:Pt):(cellF g a b=(-1,-1)) ∨((0<=(cellF g a b).1 /\ (cellF g a b).1<=255 /\ (cellF g a b).1 < g.dn*g.ac) /\ (0<=(cellF g a b).2 /\ (cellF g a b).2 < g.cl.length)):=by
 unfold cellF
 split
 ·rename_i h
  have:=mul16 h.2 h.1 hg.ac hg.dn
  cases hc:clsF g.cl (d2F a b) with
  | none=>exact .inl rfl
  | some i =>
   have hi:=zof hc
   refine .inr ⟨?_,?_⟩<;>dsimp only<;>omega
 ·exact .inl rfl
theorem zrz{x:Int}(h:-70000<=x /\ x<=70000):0<=x*x /\ x*x<=4900000000:=by
 have h1:0<=x*x:=by
  rcases Int.le_total 0 x with h|h
  ·exact Int.mul_nonneg h h
  ·exact Int.mul_nonneg_of_nonpos_of_nonpos h h
 have:=znc (a:=x) (b:=x) (A:=70000) (B:=70000) h h
 omega
set_option maxHeartbeats 8000000 in
theorem zo6{xo yo szz ac dn:Int}{cl:List Bd}{ca:Option (Nat × Nat)}{f:Bool}{e:Nat}{ax ay bx bY:Int}{M:Mem}(hs:SlC M ca cl)(hg:GdOk ⟨xo,yo,szz,ac,dn,cl⟩)(hpa:Pl ax ay)(hpb:Pl bx bY)(hN:NonM M) :
  ze Tryz.prog 103 [.agg [I xo,I yo,I szz,I ac,I dn,.slice ca cl.length f e],.agg [I ax,I ay],.agg [I bx,I bY]] M (fun w M'=>w=.agg [I (cellF ⟨xo,yo,szz,ac,dn,cl⟩ (ax,ay) (bx,bY)).1,I (cellF ⟨xo,yo,szz,ac,dn,cl⟩ (ax,ay) (bx,bY)).2] /\ Grow M M'):=by
 have hgo:=hg.pl
 have hgs:=hg.sz
 have hga:=hg.ac
 have hgd:=hg.dn
 have hgn:=hg.n4
 have hgn1:=hg.n1
 dsimp only at hgo hgs hga hgd hgn hgn1
 have hcf:cellF ⟨xo,yo,szz,ac,dn,cl⟩ (ax,ay) (bx,bY)=(if (0<=flF (ax+bx - 2*xo) (2*szz) /\ flF (ax+bx - 2*xo) (2*szz)<=ac - 1) /\ (0<=flF (ay+bY - 2*yo) (2*szz) /\ flF (ay+bY - 2*yo) (2*szz)<=dn - 1) then match clsF cl ((ax - bx)*(ax - bx)+(ay - bY)*(ay - bY)) with
  | some i=>(flF (ay+bY - 2*yo) (2*szz)*ac+flF (ax+bx - 2*xo) (2*szz),(i:Int))
  | none=>(-1,-1) else(-1,-1)):=rfl
 rw[hcf]
 have hc1:=zhx (a:=ax+bx - 2*xo) (b:=2*szz) (by omega) (by omega)
 have hc2:=zhx (a:=ay+bY - 2*yo) (b:=2*szz) (by omega) (by omega)
 have cf1:=zh7 (ax+bx - 2*xo) (2*szz) (by omega) (by omega)
 have cf2:=zh7 (ay+bY - 2*yo) (2*szz) (by omega) (by omega)
 have hx2:=zrz (x:=ax - bx) (by omega)
 have hy2:=zrz (x:=ay - bY) (by omega)
 have hm16:=fun h1 h2=>mul16 (r:=flF (ay+bY - 2*yo) (2*szz)) (c:=flF (ax+bx - 2*xo) (2*szz)) h1 h2 hga hgd
 clear hcf
 generalize flF (ax+bx - 2*xo) (2*szz)=cc at *
 generalize flF (ay+bY - 2*yo) (2*szz)=rr at *
 refine zf k103 rfl ?_
 delta x103;refine un ?_
 have r1:=hN.rd
 have hN1:1 < M.next:=r1.2
 (have hrd0:=r1;repeat' (first|(with_reducible intro _)|refine sv ?_|((with_reducible first|apply z0c|apply z0a|apply zx);exact gd;exact rfl;exact rfl;(first|exact cf1 _|exact cf2 _|exact z36 _ _ _ _))|refine ss ?_ ?_<;>(intro h;first|exact sz h|refine sy h ?_)|exact sq|fail))
 ·refine kf ?_
  exact⟨by rw[if_neg (by omega)];rfl,xg⟩
 ·refine kf ?_
  exact⟨by rw[if_neg (by omega)];rfl,xg⟩
 rename_i n1 M1 b1 b2 b3 n2 M2 b4 b5 b6 n3 M3 b7 b8 b9 n6 M4 b10 b11 b12 hcc
 have hrr:=h
 rw[if_pos ⟨hcc,hrr⟩]
 have A1:At M4 n1 (.cells true [I xo,I yo,I szz,I ac,I dn,.slice ca cl.length f e] 105):=At.new_old b10 (At.new_old b7 (At.new_old b4 (At.new_same b1)))
 have A6:At M4 n6 (.cells true [I 0,I 0] 122):=At.new_same b10
 have g4:Grow M M4:=((b1.grow.trans b4.grow).trans b7.grow).trans b10.grow
 have hn14:n1 < n6:=by omega
 have hl4:=g4.le
 have hNn:n6=M3.next:=b11
 have g3:Grow M M3:=(b1.grow.trans b4.grow).trans b7.grow
 have k34:=b10
 clear b1 b4 b7
 obtain⟨i,o,rfl,hr⟩:=hs.rd (show 0 < cl.length by omega)
 have hm16:=hm16 hrr hcc
 refine zi (fun m E ms M'=>∃(k:Nat),m=cl.length - k /\ k<=cl.length /\ ms=[] /\ Has E [(3,.ptr (some (n1,0))),(6,.ptr (some (n6,0))),(7,I cc),(8,I rr),(9,I (ax - bx)),(10,I (ay - bY)),(67,.slice (some (i,o)) cl.length f e),(68,I cl.length),(69,I k)] /\ Grow M4 M' /\ ∀ j,j < k->¬ inC cl ((ax - bx)*(ax - bx)+(ay - bY)*(ay - bY)) j)
  ?_ cl.length _ _ _ ⟨0,by omega,by omega,rfl,.cons rfl (.cons rfl (.cons rfl (.cons rfl (.cons rfl (.cons rfl (.cons rfl (.cons rfl (.cons rfl .nil)))))))),Grow.refl _,fun j hj=>by omega⟩
 rintro m E ms M5 ⟨k,rfl,hk,rfl,hE5,hg5,hall⟩
 refine z02 hE5 ?_
 have A1':=A1.grow hg5
 have A6':=A6.grow hg5
 have g5:=g4.trans hg5
 have hl5:=hg5.le
 have q1:=A1.2
 have q6:=A6.2
 by_cases hlast:k=cl.length
 ·subst hlast
  rw[zhh hall]
  have r1':=(r1.grow g5)
  (have hrd0:=r1';repeat' (first|(with_reducible intro _)|refine sv ?_|refine ss ?_ ?_<;>(intro h;first|exact sz h|refine sy h ?_)|exact sq|fail))
  all_goals try(exfalso;omega)
  rename_i M6 c1 c2 c3
  refine kf ?_
  exact⟨rfl,Keep.to_grow' g3 (((k34.grow.trans hg5).to_keep (fun i=>i=n6)).upd c1 (.inl rfl)) (fun i hi=>by omega)⟩
 ·have hlt:k < cl.length:=by omega
  have rk:=(hr k hlt).grow g5
  have hgk:cl.getD k (0,0)=cl[k]:=by rw[List.getD_eq_getElem?_getD,List.getElem?_eq_getElem hlt];rfl
  have hin:∀ d,inC cl d k ↔ cl[k].1<=d /\ d<=cl[k].2:=fun d=>by unfold inC;rw[hgk]
  have hin:=hin ((ax - bx)*(ax - bx)+(ay - bY)*(ay - bY))
  have hsome:=fun h=>zhi (d:=(ax - bx)*(ax - bx)+(ay - bY)*(ay - bY)) hlt h hall
  clear hgk
  generalize cl[k]=b at *
  obtain⟨lo,hi⟩:=b
  dsimp only at hin
  have rk:Rd M5 i (o+k*2) 2 [I lo,I hi]:=rk
  (have hrd0:=rk;repeat' (first|(with_reducible intro _)|refine sv ?_|((with_reducible first|apply z0c|apply z0a|apply zx);exact gd;exact rfl;exact rfl;(first|exact z36 _ _ _ _))|refine ss ?_ ?_<;>(intro h;first|exact sz h|refine sy h ?_)|exact sq|fail))
  all_goals try(exfalso;omega)
  ·rename_i n7 M6 z1 z2 z3 M7 z4 z5 z6 M8 z7 z8 z9
   rw[hsome (hin.2 (by omega))]
   refine kf ?_
   have k68:Keep (fun i=>i=n6) M3 M5:=(k34.grow.trans hg5).to_keep _
   have k67:Grow M5 M7:=z1.grow.upd z4 (by omega)
   exact⟨rfl,Keep.to_grow' g3 ((k68.grow k67).upd z7 (.inl rfl)) (fun i hi=>by omega)⟩
  ·rename_i n7 M6 z1 z2 z3 M7 z4 z5 z6
   refine zq (cl.length - (k+1)) (by omega) ⟨k+1,rfl,by omega,rfl,.cons rfl (.cons rfl (.cons rfl (.cons rfl (.cons rfl (.cons rfl (.cons rfl (.cons rfl (.cons rfl .nil)))))))),hg5.trans (z1.grow.upd z4 (by omega)),fun j hj=>by
    rcases Nat.lt_or_ge j k with h1|h1
    ·exact hall j h1
    ·obtain rfl:j=k:=by omega
     exact fun h'=>by have:=hin.1 h';omega⟩
theorem zmv{g:Gd}{ca:Option (Nat × Nat)}{f:Bool}{e:Nat}{a b:Pt}{M:Mem}(hs:SlC M ca g.cl)(hg:GdOk g)(hpa:PlP a)(hpb:PlP b)(hN:NonM M) :
  ze Tryz.prog 103 [gdv g ca f e,ptv a,ptv b] M (fun w M'=>w=.agg [I (cellF g a b).1,I (cellF g a b).2] /\ Grow M M'):=zo6 hs hg hpa hpb hN
