/- Memories that no exchange of later places touches; drawn orders that differ by such an exchange. -/
import Derived.Test.YtgeedikghjcebaamXG
import Derived.Test.YtgeedikghjcebaamXM
namespace Go.Proofs.Ytgeedikghjcebaa.Ai
open Go Go.Proofs
set_option linter.unusedVariables false
set_option linter.unusedSimpArgs false
set_option maxRecDepth 10000
set_option maxHeartbeats 4000000
theorem aEJ {i j k m:Nat} (hi:m≤i) (hj:m≤j) (hk:k < m):tr2 i j k=k:=by
 unfold tr2
 rw [if_neg (by omega),if_neg (by omega)]
def aCb (m:Nat) (x:AV):Prop:=∀ i j,m≤i→m≤j→aAU i j x=x
def aIA (m:Nat) (cs:List (List AV)):Prop:=∀ i j,m≤i→m≤j→cs.map (aBK i j)=cs
def aHL (m:Nat) (o:AObj):Prop:=∀ i j,m≤i→m≤j→aDO i j o=o
def Ren (m:Nat) (h:aA0):Prop:=∀ i j,m≤i→m≤j→h.map (aDO i j)=h
theorem aCb.mono {m m':Nat} {x:AV} (h:aCb m x) (hm:m≤m'):aCb m' x:=fun i j hi hj=>h i j (by omega) (by omega)
theorem aIA.mono {m m':Nat} {x:List (List AV)} (h:aIA m x) (hm:m≤m'):aIA m' x:=fun i j hi hj=>h i j (by omega) (by omega)
theorem aHL.mono {m m':Nat} {x:AObj} (h:aHL m x) (hm:m≤m'):aHL m' x:=fun i j hi hj=>h i j (by omega) (by omega)
theorem Ren.mono {m m':Nat} {x:aA0} (h:Ren m x) (hm:m≤m'):Ren m' x:=fun i j hi hj=>h i j (by omega) (by omega)
theorem aBF {m v sz:Nat} {x:Bool} {cs:List (List AV)}:aHL m (.arr v sz x cs)↔aIA m cs:=by
 constructor
 ·intro h i j hi hj
  have:=h i j hi hj
  simp only [aDO,AObj.arr.injEq,true_and] at this
  exact this
 ·intro h i j hi hj
  simp only [aDO,h i j hi hj]
theorem aIA.append {m:Nat} {a b:List (List AV)} (ha:aIA m a) (hb:aIA m b):aIA m (a++b):=fun i j hi hj=>by rw [List.map_append,ha i j hi hj,hb i j hi hj]
theorem aCL {m:Nat} {x:AV} (hx:aCb m x):aIA m [[x]]:=fun i j hi hj=>by simp [aBK,hx i j hi hj]
theorem Ren.push {m:Nat} {h:aA0} (hr:Ren m h) {o:AObj} (ho:aHL m o):Ren m (h++[o]):=fun i j hi hj=>by rw [List.map_append,hr i j hi hj,List.map_cons,List.map_nil,ho i j hi hj]
theorem Ren.set {m:Nat} {h:aA0} (hr:Ren m h) {o:AObj} (ho:aHL m o) (k:Nat):Ren m (h.set k o):=fun i j hi hj=>by rw [List.map_set,hr i j hi hj,ho i j hi hj]
theorem Ren.get {m k:Nat} {h:aA0} (hr:Ren m h) {o:AObj} (e:h[k]?=some o):aHL m o:=fun i j hi hj=>by
 have:=congrArg (fun l:aA0=>l[k]?) (hr i j hi hj)
 simp only [List.getElem?_map,e,Option.map_some,Option.some.injEq] at this
 exact this
theorem aFm {m k v o n:Nat} {c:Option Nat} (hk:k < m):aCb m (.hsl k v o n c):=fun i j hi hj=>by simp [aAU,aEJ hi hj hk]
theorem aDw {m k v o n:Nat} (hk:k < m):aCb m (.ptr k v o n):=fun i j hi hj=>by simp [aAU,aEJ hi hj hk]
theorem aKk (m:Nat) (k:IntKind) (n:Int):aCb m (.int k n):=fun i j hi hj=>by simp [aAU]
theorem aQZ (m:Nat):aCb m .nilS:=fun i j hi hj=>by simp [aAU]
theorem aQY (m:Nat) (e:Bool) (l:List (List AV)):aCb m (.vsl e l):=fun i j hi hj=>by simp [aAU]
theorem aAu.pushX {sz:Nat} {rows:List (List AV)} {c:List AV} {v w:AV} {h:aA0} {q:Option Nat} (hel:aAC h sz w=some [c]) (ho:aAu sz rows v h q) (hsz:c.length=sz) (hc:c.all aAp=true) (hall:rows.all (fun c=>c.length==sz && c.all aAp)=true) (bytes:Nat) (hb:bytes≤1000) (hl:rows.length≤1000000) :
  ∃ i ver h',aD9 h sz bytes v w=some (.hsl i ver 0 (rows.length+1) none,h')∧aAu sz (rows++[c]) (.hsl i ver 0 (rows.length+1) none) h' (some i) ∧
   ((rows=[]∧q=none∧i=h.length∧ver=0∧h'=h++[.arr 0 sz false [c]])∨(∃ v0,q=some i∧ver=v0+1∧v=.hsl i v0 0 rows.length none∧h[i]?=some (.arr v0 sz false rows)∧h'=h.set i (.arr (v0+1) sz false (rows++[c])))):=by
 have hc1:(c.length==sz && c.all aAp)=true:=by rw [hc,hsz];simp
 unfold aD9
 rw [hel]
 simp only [Option.elim_some,aCP,List.length_cons,List.length_nil]
 rcases ho with ⟨rfl,rfl,rfl⟩ | ⟨h1,i,ver,rfl,rfl,h3⟩
 ·have hcd:[c].length*(bytes+1)≤68719476736∧[c].all (fun c=>c.length==sz && c.all aAp)=true:=⟨by simp;omega,by simp only [List.all_cons,List.all_nil,hc1];rfl⟩
  refine ⟨h.length,0,h++[.arr 0 sz false [c]],by simp only [aCS,aC8];rw [if_pos hcd];rfl,.inr ⟨by simp,h.length,0,rfl,by simp,by simp⟩,.inl ⟨rfl,rfl,rfl,rfl,rfl⟩⟩
 ·have hne:¬ (0+rows.length+[c].length≤rows.length∧aHS (rows.length+[c].length) none=true):=by
   simp only [List.length_cons,List.length_nil];omega
  have hc2:True∧0+rows.length≤rows.length:=⟨trivial,by omega⟩
  have htk:(List.drop 0 rows).take rows.length=rows:=by rw [List.drop_zero];exact List.take_of_length_le (Nat.le_refl _)
  have hall2:(rows++[c]).all (fun c=>c.length==sz && c.all aAp)=true:=by rw [List.all_append,hall];simp only [List.all_cons,List.all_nil,hc1];rfl
  have hlen:(rows++[c]).length=rows.length+1:=by simp
  have hcd:(rows++[c]).length*(bytes+1)≤68719476736∧(rows++[c]).all (fun c=>c.length==sz && c.all aAp)=true:=by
   refine ⟨?_,hall2⟩
   rw [hlen]
   have:(rows.length+1)*(bytes+1)≤1000001*1001:=Nat.mul_le_mul (by omega) (by omega)
   omega
  refine ⟨i,ver+1,h.set i (.arr (ver+1) sz false (rows++[c])),?_,.inr ⟨by simp,i,ver+1,rfl,by simp,aAr h3⟩,.inr ⟨ver,rfl,rfl,rfl,h3,rfl⟩⟩
  simp only [aCS,aAk,h3,if_true]
  rw [if_pos hc2,if_neg hne]
  simp only [htk]
  rw [if_pos hcd,hlen]
  rfl
theorem aAu.pushL {rows:List (List AV)} {v w:AV} {h:aA0} {q:Option Nat} (ho:aAu 1 rows v h q) (hp:pure1 w=true) (hw:cellsOf w=[w]∧aAp w=true) (hR:∀ m,aCb m w) (hall:rows.all (fun c=>c.length==1 && c.all aAp)=true) (bytes:Nat) (hb:bytes≤1000) (hl:rows.length≤1000000) (z:AV) (hr:Ren h.length h) :
  ∃ i ver h',(∀ h,aBH h false 1 1 [z] [(0,w)]=some (.vsl true [[w]],h))∧aD9 h 1 bytes v (.vsl true [[w]])=some (.hsl i ver 0 (rows.length+1) none,h')∧aAu 1 (rows++[[w]]) (.hsl i ver 0 (rows.length+1) none) h' (some i)∧(∀ j o,h[j]?=some o→q≠some j→h'[j]?=some o)∧(q=some i∨(q=none∧i=h.length))∧h.length≤h'.length∧Ren h'.length h':=by
 have hc:([w]:List AV).all aAp=true:=by simp [hw.2]
 have e2:aAC h 1 (.vsl true [[w]])=some [[w]]:=by simp [aAC]
 obtain ⟨i,ver,h',r1,r2,r3⟩:=aAu.pushX (c:=[w]) e2 ho rfl hc hall bytes hb hl
 refine ⟨i,ver,h',fun h=>aGC h z w hp hw.1,r1,r2,?_⟩
 rcases r3 with ⟨g1,g2,g3,g4,g5⟩ | ⟨v0,g1,g2,g3,g4,g5⟩
 ·subst g5
  refine ⟨fun j o e _=>aAJ e _,.inr ⟨g2,g3⟩,by simp,?_⟩
  rw [List.length_append]
  exact (hr.push (aBF.2 (aCL (hR _)))).mono (by omega)
 ·subst g5
  refine ⟨fun j o e hn=>aAs e (fun he=>hn (by rw [g1,he])),.inl g1,by simp,?_⟩
  rw [List.length_set]
  exact hr.set (aBF.2 ((aBF.1 (hr.get g4)).append (aCL (hR _)))) i
theorem aKi {m:Nat} {a b:St} {ps:List (Nat × Nat)} (h1:aDP m a.h.length a.t b.t []=ps) (h2:aHk m ps a=some b):aDv m (some a) (some b)=true:=by
 have:aJA (some b) (some b)=true:=by rw [aJ1];simp
 simp only [aDv,h1,h2,this,Bool.or_true]
end Go.Proofs.Ytgeedikghjcebaa.Ai
namespace Go.Proofs.Ytgeedikghjcebaa.Ai
open Go Go.Proofs
open AV renaming junk → J
open List renaming getD_cons_zero → Q0, getD_cons_succ → Q1, set_cons_zero → Q2, set_cons_succ → Q3, length_cons → Q4, length_nil → Q5, cons_append → Q6, nil_append → Q7, replicate_succ → Q8, replicate_zero → Q9, map_cons → Z2
open Option.some renaming injEq → Z0
open Option renaming map_some → Z1
set_option linter.unusedVariables false
set_option linter.unusedSimpArgs false
set_option maxRecDepth 10000
set_option maxHeartbeats 4000000
def aJn (n:Int):Option (List (Int × Int)):=if n=0 then some [] else if n=3 then some [(3,0)] else if 0 < n∧n % 4=1 then some [(1,n / 4)] else if 0 < n∧n % 4=2 then some [(2,n / 4)] else none
def aH3:Option (List (Int × Int))→AV
 | none=>.tup [.nilS,.bool false]
 | some []=>.tup [.nilS,.bool true]
 | some l=>.tup [.vsl true (l.map aHI),.bool true]
theorem aM7 (h:aA0) (a b:Int):aBH h false 2 1 [.int .i64 0,.int .i64 0] [(0,.agg [.int .i64 a,.int .i64 b])]=some (.vsl true [[.int .i64 a,.int .i64 b]],h):=by
 simp [aBH,aAF,aB4,aAv,cellsOf,aCh,pure1]
theorem aRw (n:Int) (hn : -9223372036854775808≤n∧n≤9223372036854775807):∃ h',aB8 (lim G0.cfg) 1 aF6 [.int .i64 n] []=some (aH3 (aJn n),h'):=by
 rw [aPA]
 unfold aJn
 have f3:aDT [.int .i64 0,.int .i64 0] [(0,1,.int .i64 3)]=some (.agg [.int .i64 3,.int .i64 0]):=rfl
 have f2:∀ a b:Int,aDT [.int .i64 0,.int .i64 0] [(0,1,.int .i64 a),(1,1,.int .i64 b)]=some (.agg [.int .i64 a,.int .i64 b]):=fun _ _=>rfl
 by_cases c0:n=0
 ·have d0:decide (n=0)=true:=decide_eq_true c0
  rw [if_pos c0]
  simp only [Zaf,Zag,Zah,Zai,Zam,Zan,Zao,Zaq,Zas,Zav,Zbc,Zbm,Zbo,Zbu,Zcy,Zcz,Zda,Zdb,Q2,Q3,Q0,Q1,Z1,Zdp,Q4,Q5,Nat.reduceAdd,Nat.reduceSub,eq_self,true_and,Q4,Q5,Q8,Q9,Q6,Q7,d0,aH3,aAa,aA8,aAc,Z0,Prod.mk.injEq,true_and,exists_eq']
 have d0:decide (n=0)=false:=decide_eq_false c0
 rw [if_neg c0]
 by_cases c1:n=3
 ·have d1:decide (n=3)=true:=decide_eq_true c1
  rw [if_pos c1]
  simp only [Zaf,Zag,Zah,Zai,Zam,Zan,Zao,Zaq,Zas,Zav,Zaw,Zbc,Zbd,Zbm,Zbo,Zbu,Zcq,Zcr,Zcy,Zcz,Zda,Zdb,Q2,Q3,Q0,Q1,Z1,Zdp,Q4,Q5,Nat.reduceAdd,Nat.reduceSub,eq_self,true_and,Q4,Q5,Q8,Q9,Q6,Q7,d0,d1,evp,f3,ev2,aM7,aH3,Z2,List.map_nil,aHI,aAa,aA8,aAc,Z0,Prod.mk.injEq,true_and,exists_eq']
 have d1:decide (n=3)=false:=decide_eq_false c1
 rw [if_neg c1]
 by_cases c2:0 < n
 case neg =>
  rw [if_neg (fun h=>c2 h.1),if_neg (fun h=>c2 h.1)]
  simp only [Zae,Zaf,Zag,Zah,Zai,Zam,Zan,Zao,Zar,Zaw,Zbc,Zbi,Zbl,Zbm,Zbn,Zbo,Zbp,Zbu,Zcy,Zcz,Zda,Zdb,Q2,Q3,Q0,Q1,Z1,Zdn,Zdp,decide_false,Q4,Q5,Nat.reduceAdd,Nat.reduceSub,eq_self,true_and,Q4,Q5,Q8,Q9,Q6,Q7,d0,d1,c2,aH3,aAa,aA8,aAc,Z0,Prod.mk.injEq,true_and,exists_eq']
 case pos =>
 have t1:n.tmod 4=n % 4:=Int.tmod_eq_emod_of_nonneg (by omega)
 have t2:n.tdiv 4=n / 4:=Int.tdiv_eq_ediv_of_nonneg (by omega)
 have w1:IntKind.i64.wrap (n / 4)=n / 4:=w64 (by omega) (by omega)
 have rm:aB6 .rem .num (.int .i64 n) (.int .i64 4)=some (.int .i64 (n % 4)):=by simp [aB6,aF0,t1]
 have qu:aB6 .quo .num (.int .i64 n) (.int .i64 4)=some (.int .i64 (n / 4)):=by simp [aB6,aF0,t2,w1]
 by_cases c3:n % 4=1
 ·have d3:decide (n % 4=1)=true:=decide_eq_true c3
  rw [if_pos ⟨c2,c3⟩]
  simp only [Zaf,Zag,Zah,Zai,Zam,Zan,Zao,Zaq,Zas,Zav,Zaw,Zbc,Zbd,Zbf,Zbk,Zbm,Zbn,Zbo,Zbp,Zbu,Zcq,Zcr,Zcy,Zcz,Zda,Zdb,Q2,Q3,Q0,Q1,Z1,Zdn,Zdp,decide_true,Q4,Q5,Nat.reduceAdd,Nat.reduceSub,eq_self,true_and,Q4,Q5,Q8,Q9,Q6,Q7,d0,d1,c2,rm,qu,d3,evp,f2,ev2,aM7,aH3,Z2,List.map_nil,aHI,aAa,aA8,aAc,Z0,Prod.mk.injEq,true_and,exists_eq']
 have d3:decide (n % 4=1)=false:=decide_eq_false c3
 rw [if_neg (fun h=>c3 h.2)]
 by_cases c4:n % 4=2
 ·have d4:decide (n % 4=2)=true:=decide_eq_true c4
  rw [if_pos ⟨c2,c4⟩]
  simp only [Zaf,Zag,Zah,Zai,Zam,Zan,Zao,Zaq,Zas,Zav,Zaw,Zbc,Zbd,Zbf,Zbk,Zbm,Zbn,Zbo,Zbp,Zbu,Zcq,Zcr,Zcy,Zcz,Zda,Zdb,Q2,Q3,Q0,Q1,Z1,Zdn,Zdp,decide_true,Q4,Q5,Nat.reduceAdd,Nat.reduceSub,eq_self,true_and,Q4,Q5,Q8,Q9,Q6,Q7,d0,d1,c2,rm,qu,d3,d4,evp,f2,ev2,aM7,aH3,Z2,List.map_nil,aHI,aAa,aA8,aAc,Z0,Prod.mk.injEq,true_and,exists_eq']
 have d4:decide (n % 4=2)=false:=decide_eq_false c4
 rw [if_neg (fun h=>c4 h.2)]
 simp only [Zae,Zaf,Zag,Zah,Zai,Zam,Zan,Zao,Zar,Zaw,Zbc,Zbf,Zbk,Zbm,Zbn,Zbo,Zbp,Zbu,Zcy,Zcz,Zda,Zdb,Q2,Q3,Q0,Q1,Z1,Zdn,Zdp,decide_true,Q4,Q5,Nat.reduceAdd,Nat.reduceSub,eq_self,true_and,Q4,Q5,Q8,Q9,Q6,Q7,d0,d1,c2,rm,d3,d4,aH3,aAa,aA8,aAc,Z0,Prod.mk.injEq,true_and,exists_eq']
theorem aSA (o:Option (List (Int × Int))) (h:aA0):freeze h 1000 (aH3 o)=some (aH3 o,true):=by
 match o with
 | none=>rfl
 | some []=>rfl
 | some (a::l)=>rfl
theorem aTU (n:Int) (hn : -9223372036854775808≤n∧n≤9223372036854775807) (H:aA0):lim G0.cfg (.func 40) [.int .i64 n] H=some (aH3 (aJn n),H) :=
 aAP rfl rfl aPE 1 (fun h=>aES rfl) (aRw n hn) (aSA _) H
def aHs (l:List (Int × Int)):AV:=match l with
 | []=>.nilS
 | l=>.vsl true (l.map aHI)
theorem aQD (l:List (Int × Int)):aH3 (some l)=.tup [aHs l,.bool true]:=by cases l <;> rfl
theorem aIw (l:List (Int × Int)):LiA l (aHs l):=by
 cases l with
 | nil=>exact .inl ⟨rfl,rfl⟩
 | cons a l=>exact .inr ⟨true,rfl⟩
theorem aPn (l:List (Int × Int)):pure1 (aHs l)=true:=by cases l <;> rfl
theorem aQq (l:List (Int × Int)) (m:Nat):aCb m (aHs l):=by
 cases l with
 | nil=>exact aQZ m
 | cons a l=>exact aQY m _ _
def eCs (xs:List (List (Int × Int))):List (List AV):=xs.map fun l=>[aHs l]
theorem aJK (xs:List (List (Int × Int))):(eCs xs).length=xs.length:=by simp [eCs]
theorem aRl (xs:List (List (Int × Int))) (l:List (Int × Int)):eCs (xs++[l])=eCs xs++[[aHs l]]:=by simp [eCs]
theorem aSk (xs:List (List (Int × Int))):(eCs xs).all (fun c=>c.length==1 && c.all aAp)=true:=by
 simp only [eCs,List.all_map,List.all_eq_true,Function.comp_apply]
 intro l _
 simp [(aIw l).cell.2]
def okA (p:PackD) (s i d:Nat):Bool:=(List.range' i d).all fun (k:Nat)=>(aJn (atD p.a s k)).isSome
def aGT (p:PackD) (s i d:Nat):List (List (Int × Int)):=(List.range' i d).map fun (k:Nat)=>(aJn (atD p.a s k)).getD []
def aGS (p:PackD) (s i d:Nat):List Int:=(List.range' i d).map fun (k:Nat)=>IntKind.i64.wrap (atD p.g s k - 1)
structure RtOk (c:RowT):Prop where
 l1:c.base.length≤1000000000
 l2:c.val.length≤1000000000
 l3:c.own.length≤1000000000
 l4:c.row.length≤1000000000
 b1:∀ x ∈ c.base, -9223372036854775808≤x∧x≤9223372036854775807
 b2:∀ x ∈ c.val, -9223372036854775808≤x∧x≤9223372036854775807
theorem RtOk.at {c:RowT} (h:RtOk c) (row col:Int) : -9223372036854775808≤atD c row col∧atD c row col≤9223372036854775807:=by
 unfold atD
 split
 ·omega
 ·split
  ·omega
  ·split
   ·omega
   ·rename_i n1 n2 n3
    refine h.b2 _ ?_
    have:(c.base.getD (c.row.getD row.toNat 0).toNat 0+col).toNat < c.val.length:=by omega
    rw [List.getD_eq_getElem?_getD,List.getElem?_eq_getElem this,Option.getD_some]
    exact List.getElem_mem _
section
variable {p : PackD} {ca cg : List AV} {w7 w54 w55 : AV} {B : Nat}
theorem aEz (hA:RT p.a ca) (hG:RT p.g cg) (h:aA0) (e:h[0]?=some (.arr 0 10 true [[.int .i64 p.tms,.int .i64 p.nts]++ca++cg])):aAb h 4 true (.ptr 0 0 0 2)=some (.agg ca)∧aAb h 4 true (.ptr 0 0 0 6)=some (.agg cg)∧aAb h 1 false (.ptr 0 0 0 0)=some (.int .i64 p.tms)∧aAb h 1 false (.ptr 0 0 0 1)=some (.int .i64 p.nts):=by
 obtain ⟨a1,a2,a3,a4,rfl,_,_,_,_⟩:=hA
 obtain ⟨b1,b2,b3,b4,rfl,_,_,_,_⟩:=hG
 refine ⟨?_,?_,?_,?_⟩
 ·rw [aB5 h 4 0 0 0 2 true 10 true _ _ e rfl];rfl
 ·rw [aB5 h 4 0 0 0 6 true 10 true _ _ e rfl];rfl
 ·rw [aB5 h 1 0 0 0 0 false 10 true _ _ e rfl];rfl
 ·rw [aB5 h 1 0 0 0 1 false 10 true _ _ e rfl];rfl
theorem aTs (hA:RT p.a ca) (hG:RT p.g cg) (ok:RtOk p.a) (s tm N:Nat) (htm:tm≤1000) (hB:3≤B):∀ (d i m:Nat) (xs:List (List (Int × Int))) (h:aA0) (w:AV) (q:Option Nat),tm=i+d→d < m→h[0]?=some (.arr 0 10 true [[.int .i64 p.tms,.int .i64 p.nts]++ca++cg])→h[1]?=some (.arr 0 2 true [[.nilS,.nilS]])→aAu 1 (eCs xs) w h q→(∀ i,q=some i→B≤i)→B≤h.length→xs.length=i→Ren h.length h →
  (okA p s i d=true→∃ (h':aA0) (w':AV) (q':Option Nat),aAw (aA9 (lim G0.cfg) N aCf) m ⟨(J::.ptr 0 0 0 0::.ptr 1 0 0 0::J::J::.ptr 2 0 0 0::.int .i64 s::w::J::J::J::J::J::J::J::J::J::J::J::J::J::J::J::J::J::J::J::J::J::J::J::J::J::J::J::J::J::J::J::J::J::J::J::J::J::J::J::J::J::J::J::J::J::J::w54::w55::J::J::J::.int .i64 tm::.int .i64 i::J::J::J::J::J::J::J::J::J::J::J::J::J::J::J::J::J::J::J::J::J::J::J::J::J::J::J::J::J::J::J::J::J::J::J::J::J::J::J::J::J::J::J::J::J::J::J::J::J::J::J::J::J::J::J::J::J::J::J::J::J::J::J::J::J::J::J::J::J::J::J::J::J::J::J::J::J::J::J::J::J::J::J::J::J::J::[]),h⟩=some (.exit 2,⟨(J::.ptr 0 0 0 0::.ptr 1 0 0 0::J::J::.ptr 2 0 0 0::.int .i64 s::w'::J::J::J::J::J::J::J::J::J::J::J::J::J::J::J::J::J::J::J::J::J::J::J::J::J::J::J::J::J::J::J::J::J::J::J::J::J::J::J::J::J::J::J::J::J::J::w54::w55::J::J::J::J::J::J::J::J::J::J::J::J::J::J::J::J::J::J::J::J::J::J::J::J::J::J::J::J::J::J::J::J::J::J::J::J::J::J::J::J::J::J::J::J::J::J::J::J::J::J::J::J::J::J::J::J::J::J::J::J::J::J::J::J::J::J::J::J::J::J::J::J::J::J::J::J::J::J::J::J::J::J::J::J::J::J::J::J::J::J::J::[]),h'⟩) ∧
   aAu 1 (eCs (xs++aGT p s i d)) w' h' q'∧(∀ i,q'=some i→B≤i)∧B≤h'.length∧(∀ (j:Nat) (o:AObj),j < B→h[j]?=some o→h'[j]?=some o)∧Ren h'.length h') ∧
  (okA p s i d=false→∃ h',aAw (aA9 (lim G0.cfg) N aCf) m ⟨(J::.ptr 0 0 0 0::.ptr 1 0 0 0::J::J::.ptr 2 0 0 0::.int .i64 s::w::J::J::J::J::J::J::J::J::J::J::J::J::J::J::J::J::J::J::J::J::J::J::J::J::J::J::J::J::J::J::J::J::J::J::J::J::J::J::J::J::J::J::J::J::J::J::w54::w55::J::J::J::.int .i64 tm::.int .i64 i::J::J::J::J::J::J::J::J::J::J::J::J::J::J::J::J::J::J::J::J::J::J::J::J::J::J::J::J::J::J::J::J::J::J::J::J::J::J::J::J::J::J::J::J::J::J::J::J::J::J::J::J::J::J::J::J::J::J::J::J::J::J::J::J::J::J::J::J::J::J::J::J::J::J::J::J::J::J::J::J::J::J::J::J::J::J::[]),h⟩=some (.ret,⟨(J::J::.ptr 1 0 0 0::.int .i64 34::J::J::J::J::J::J::J::J::J::J::J::J::J::J::J::J::J::J::J::J::J::J::J::J::J::J::J::J::J::J::J::J::J::J::J::J::J::J::J::J::J::J::J::J::J::J::J::J::J::J::J::J::J::J::J::J::J::J::J::J::J::J::J::J::J::J::J::J::J::J::J::J::J::J::J::J::J::J::J::J::J::J::J::J::J::J::J::J::J::J::J::J::J::J::J::J::J::J::J::J::J::J::J::J::J::J::J::J::J::J::J::J::J::J::J::J::J::J::J::J::J::J::J::J::J::J::J::J::J::J::J::J::J::J::J::J::J::J::J::J::J::J::J::[]),h'⟩)∧h'[1]?=some (.arr 0 2 true [[.nilS,.nilS]])):=by
 intro d
 induction d with
 | zero =>
  intro i m xs h w q h1 h2 e0 e1 ow tv lb lx hr
  obtain ⟨m,rfl⟩:∃ q,m=q+1:=⟨m - 1,by omega⟩
  have h3:¬ ((i:Int) < tm):=by omega
  have r0:aGT p s i 0=[]:=rfl
  rw [r0,List.append_nil]
  refine ⟨fun _=>⟨h,w,q,?_,ow,tv,lb,fun _ _ _ e=>e,hr⟩,fun e=>(by cases e)⟩
  simp only [aAj,aFE,Zaf,Zag,Zah,Zak,Zal,Zan,Zao,Zap,Zaw,Zaz,Zbc,Zbm,Zbu,Zcz,Zdb,Zdf,Zdg,Zdh,Q2,Q3,Q0,Q1,Zdl,decide_false,eq_self,h3]
 | succ d ih =>
  intro i m xs h w q h1 h2 e0 e1 ow tv lb lx hr
  obtain ⟨m,rfl⟩:∃ q,m=q+1:=⟨m - 1,by omega⟩
  have h3':(i:Int) < tm:=by omega
  have hw:=aC7 (n:=i) (by omega)
  have fat:=fun H=>aTd hA ok.l1 ok.l2 ok.l3 ok.b1 s i (by omega) H
  have la:=(aEz hA hG h e0).1
  obtain ⟨x,hx⟩:∃ x,x=atD p.a s i:=⟨_,rfl⟩
  have xb:=ok.at s i
  rw [← hx] at fat xb
  have fac:=aTU x xb
  have o1:okA p s i (d+1)=((aJn x).isSome && okA p s (i+1) d):=by unfold okA;rw [List.range'_succ,List.all_cons,← hx]
  have o2:aGT p s i (d+1)=(aJn x).getD []::aGT p s (i+1) d:=by unfold aGT;rw [List.range'_succ,Z2,← hx]
  rw [o1,o2]
  cases ea:aJn x with
  | none =>
   rw [ea] at fac
   have fac':∀ H,lim G0.cfg (.func 40) [.int .i64 x] H=some (.tup [.nilS,.bool false],H):=fac
   have f0:aDT [.nilS,.nilS] []=some (.agg [.nilS,.nilS]):=rfl
   have st:aAB h 2 (.ptr 1 0 0 0) (.agg [.nilS,.nilS])=some (h.set 1 (.arr 0 2 true [[.nilS,.nilS]])):=aCd (b:=true) e1 rfl rfl rfl rfl
   refine ⟨fun e=>(by cases e),fun _=>⟨h.set 1 (.arr 0 2 true [[.nilS,.nilS]]),?_,aAr e1⟩⟩
   simp only [aAj,aFE,Zae,Zaf,Zag,Zah,Zai,Zak,Zam,Zan,Zao,Zaq,Zas,Zav,Zba,Zbc,Zbd,Zbe,Zbm,Zbo,Zbs,Zbt,Zbu,Zbv,Zcc,Zcj,Zcq,Zct,Zcu,Zcz,Zda,Zdb,Zdc,Zdd,Zde,Zdf,Zdg,Zdh,Q2,Q3,Q0,Q1,Zdl,Zdv,Zeb,Zeq,decide_true,Bool.not_false,List.getElem?_cons_zero,List.getElem?_cons_succ,Nat.reduceAdd,eq_self,Q6,Q7,h3',la,fat,fac',evp,f0,st]
  | some l =>
   rw [ea,aQD] at fac
   obtain ⟨iv,ver1,H1,t1,r1,r2,r3,r4,r5,r6⟩:=ow.pushL (aPn l) (aIw l).cell (aQq l) (aSk _) 24 (by omega) (by rw [aJK];omega) .nilS hr
   rw [aJK] at r1 r2
   rw [← aRl] at r2
   have tiv:B≤iv:=by
    rcases r4 with g | ⟨_,g⟩
    ·exact tv iv g
    ·omega
   obtain ⟨vvx,hvx⟩:∃ x,x=AV.hsl iv ver1 0 (xs.length+1) none:=⟨_,rfl⟩
   rw [← hvx] at r1 r2
   obtain ⟨k1,k2⟩:=ih (i+1) m (xs++[l]) H1 vvx (some iv) (by omega) (by omega) (r3 0 _ e0 (fun f=>by have:=tv 0 f;omega)) (r3 1 _ e1 (fun f=>by have:=tv 1 f;omega)) r2 (fun i f=>by cases f;exact tiv) (by omega) (by simp [lx]) r6
   have run:aAw (aA9 (lim G0.cfg) N aCf) (m+1) ⟨(J::.ptr 0 0 0 0::.ptr 1 0 0 0::J::J::.ptr 2 0 0 0::.int .i64 s::w::J::J::J::J::J::J::J::J::J::J::J::J::J::J::J::J::J::J::J::J::J::J::J::J::J::J::J::J::J::J::J::J::J::J::J::J::J::J::J::J::J::J::J::J::J::J::w54::w55::J::J::J::.int .i64 tm::.int .i64 i::J::J::J::J::J::J::J::J::J::J::J::J::J::J::J::J::J::J::J::J::J::J::J::J::J::J::J::J::J::J::J::J::J::J::J::J::J::J::J::J::J::J::J::J::J::J::J::J::J::J::J::J::J::J::J::J::J::J::J::J::J::J::J::J::J::J::J::J::J::J::J::J::J::J::J::J::J::J::J::J::J::J::J::J::J::J::[]),h⟩=aAw (aA9 (lim G0.cfg) N aCf) m ⟨(J::.ptr 0 0 0 0::.ptr 1 0 0 0::J::J::.ptr 2 0 0 0::.int .i64 s::vvx::J::J::J::J::J::J::J::J::J::J::J::J::J::J::J::J::J::J::J::J::J::J::J::J::J::J::J::J::J::J::J::J::J::J::J::J::J::J::J::J::J::J::J::J::J::J::w54::w55::J::J::J::.int .i64 tm::.int .i64 (i+1:Nat)::J::J::J::J::J::J::J::J::J::J::J::J::J::J::J::J::J::J::J::J::J::J::J::J::J::J::J::J::J::J::J::J::J::J::J::J::J::J::J::J::J::J::J::J::J::J::J::J::J::J::J::J::J::J::J::J::J::J::J::J::J::J::J::J::J::J::J::J::J::J::J::J::J::J::J::J::J::J::J::J::J::J::J::J::J::J::[]),H1⟩:=by
    simp only [aAj,aFE,Zae,Zaf,Zag,Zah,Zai,Zak,Zan,Zao,Zar,Zav,Zaw,Zay,Zbc,Zbd,Zbm,Zbo,Zbs,Zbu,Zbv,Zcc,Zcj,Zcm,Zcr,Zct,Zcu,Zcz,Zda,Zdb,Zdd,Zde,Zdf,Zdg,Zdh,Q2,Q3,Q0,Q1,Zdi,Zdl,Zdv,Zeb,Zeq,decide_true,Bool.not_true,List.getElem?_cons_zero,List.getElem?_cons_succ,Nat.reduceAdd,eq_self,Q6,Q7,h3',la,fat,fac,ev2,t1,r1,hw]
   rw [run,Option.isSome_some,Bool.true_and,Option.getD_some]
   refine ⟨fun hk => ?_,k2⟩
   obtain ⟨h',w',q',e,g1,g2,g3,g4,g5⟩:=k1 hk
   refine ⟨h',w',q',e,?_,g2,g3,fun j o hj e=>g4 j o hj (r3 j o e (fun f=>by have:=tv j f;omega)),g5⟩
   rw [List.append_assoc] at g1
   exact g1
theorem aTr (hA:RT p.a ca) (hG:RT p.g cg) (ok:RtOk p.g) (s tm N:Nat) (htm:tm≤1000) (hB:3≤B):∀ (d i m:Nat) (xs:List Int) (h:aA0) (w:AV) (q:Option Nat),tm=i+d→d < m→h[0]?=some (.arr 0 10 true [[.int .i64 p.tms,.int .i64 p.nts]++ca++cg])→aAu 1 (eIs xs) w h q→(∀ i,q=some i→B≤i)→B≤h.length→xs.length=i→Ren h.length h →
  ∃ (h':aA0) (w':AV) (q':Option Nat),aAw (aA9 (lim G0.cfg) N aDK) m ⟨(J::.ptr 0 0 0 0::.ptr 1 0 0 0::J::J::.ptr 2 0 0 0::.int .i64 s::w7::J::J::J::w::J::J::J::J::J::J::J::J::J::J::J::J::J::J::J::J::J::J::J::J::J::J::J::J::J::J::J::J::J::J::J::J::J::J::J::J::J::J::J::J::J::J::w54::w55::J::J::J::J::J::J::J::J::J::J::J::J::J::J::J::J::J::J::J::J::J::J::J::J::J::.int .i64 tm::.int .i64 i::J::J::J::J::J::J::J::J::J::J::J::J::J::J::J::J::J::J::J::J::J::J::J::J::J::J::J::J::J::J::J::J::J::J::J::J::J::J::J::J::J::J::J::J::J::J::J::J::J::J::J::J::J::J::J::J::J::J::J::J::J::J::J::J::[]),h⟩=some (.exit 4,⟨(J::.ptr 0 0 0 0::.ptr 1 0 0 0::J::J::.ptr 2 0 0 0::J::w7::J::J::J::w'::J::J::J::J::J::J::J::J::J::J::J::J::J::J::J::J::J::J::J::J::J::J::J::J::J::J::J::J::J::J::J::J::J::J::J::J::J::J::J::J::J::J::w54::w55::J::J::J::J::J::J::J::J::J::J::J::J::J::J::J::J::J::J::J::J::J::J::J::J::J::J::J::J::J::J::J::J::J::J::J::J::J::J::J::J::J::J::J::J::J::J::J::J::J::J::J::J::J::J::J::J::J::J::J::J::J::J::J::J::J::J::J::J::J::J::J::J::J::J::J::J::J::J::J::J::J::J::J::J::J::J::J::J::J::J::J::[]),h'⟩) ∧
   aAu 1 (eIs (xs++aGS p s i d)) w' h' q'∧(∀ i,q'=some i→B≤i)∧B≤h'.length∧(∀ (j:Nat) (o:AObj),j < B→h[j]?=some o→h'[j]?=some o)∧Ren h'.length h':=by
 intro d
 induction d with
 | zero =>
  intro i m xs h w q h1 h2 e0 ow tv lb lx hr
  obtain ⟨m,rfl⟩:∃ q,m=q+1:=⟨m - 1,by omega⟩
  have h3:¬ ((i:Int) < tm):=by omega
  have r0:aGS p s i 0=[]:=rfl
  rw [r0,List.append_nil]
  refine ⟨h,w,q,?_,ow,tv,lb,fun _ _ _ e=>e,hr⟩
  simp only [aAj,aI9,Zaf,Zag,Zah,Zak,Zal,Zan,Zao,Zap,Zaw,Zaz,Zbc,Zbm,Zbu,Zcz,Zdb,Zdf,Zdg,Zdh,Q2,Q3,Q0,Q1,Zdl,decide_false,eq_self,h3]
 | succ d ih =>
  intro i m xs h w q h1 h2 e0 ow tv lb lx hr
  obtain ⟨m,rfl⟩:∃ q,m=q+1:=⟨m - 1,by omega⟩
  have h3':(i:Int) < tm:=by omega
  have hw:=aC7 (n:=i) (by omega)
  have fat:=fun H=>aTd hG ok.l1 ok.l2 ok.l3 ok.b1 s i (by omega) H
  have la:=(aEz hA hG h e0).2.1
  obtain ⟨x,hx⟩:∃ x,x=atD p.g s i:=⟨_,rfl⟩
  rw [← hx] at fat
  have o2:aGS p s i (d+1)=IntKind.i64.wrap (x - 1)::aGS p s (i+1) d:=by unfold aGS;rw [List.range'_succ,Z2,← hx]
  rw [o2]
  obtain ⟨y,hy⟩:∃ y,y=IntKind.i64.wrap (x - 1):=⟨_,rfl⟩
  rw [← hy]
  obtain ⟨iv,ver1,H1,t1,r1,r2,r3,r4,r5,r6⟩:=ow.pushL (w:=.int .i64 y) rfl ⟨rfl,rfl⟩ (fun m=>aKk m _ _) (aEp _) 8 (by omega) (by rw [Zet];omega) (.int .i64 0) hr
  rw [Zet] at r1 r2
  rw [← aKr] at r2
  have tiv:B≤iv:=by
   rcases r4 with g | ⟨_,g⟩
   ·exact tv iv g
   ·omega
  obtain ⟨vvx,hvx⟩:∃ x,x=AV.hsl iv ver1 0 (xs.length+1) none:=⟨_,rfl⟩
  rw [← hvx] at r1 r2
  obtain ⟨h',w',q',e,g1,g2,g3,g4,g5⟩:=ih (i+1) m (xs++[y]) H1 vvx (some iv) (by omega) (by omega) (r3 0 _ e0 (fun f=>by have:=tv 0 f;omega)) r2 (fun i f=>by cases f;exact tiv) (by omega) (by simp [lx]) r6
  refine ⟨h',w',q',?_,?_,g2,g3,fun j o hj e=>g4 j o hj (r3 j o e (fun f=>by have:=tv j f;omega)),g5⟩
  ·rw [← e]
   simp only [aAj,aI9,Zae,Zaf,Zag,Zah,Zai,Zak,Zan,Zao,Zar,Zav,Zay,Zbc,Zbd,Zbm,Zbo,Zbs,Zbu,Zcc,Zcm,Zcr,Zct,Zcu,Zcz,Zda,Zdb,Zdd,Zde,Zdf,Zdg,Zdh,Q2,Q3,Q0,Q1,Zdi,Zdj,Zdl,Zeb,decide_true,Nat.reduceAdd,eq_self,Q6,Q7,h3',la,fat,← hy,ev2,t1,r1,hw]
  ·rw [List.append_assoc] at g1
   exact g1
end
end Go.Proofs.Ytgeedikghjcebaa.Ai
namespace Go.Proofs.Ytgeedikghjcebaa.Ai
open Go Go.Proofs
open AV renaming junk → J
open Nat renaming ble_eq_true_of_le → Q0, le_refl → Q1
open List renaming length_set → Q2, set_append_left → Q3
set_option linter.unusedVariables false
set_option linter.unusedSimpArgs false
set_option maxRecDepth 10000
set_option maxHeartbeats 4000000
theorem aMu (k:Nat):Nat.beq k k=true:=by induction k with | zero=>rfl | succ k ih=>exact ih
theorem aOD {a b:Nat} (h:a≠b):Nat.beq a b=false:=by
 cases e:Nat.beq a b with
 | false=>rfl
 | true=>exact absurd (Nat.eq_of_beq_eq_true e) h
def aCp (m:Nat) (x:AV):Prop:=∀ k,plc x=some k→k < m
theorem aRs {m k:Nat}:∀ {ps:List (Nat × Nat)},(∀ p ∈ ps,m≤p.1∧m≤p.2)→k < m→aD0 ps k=k:=by
 intro ps
 induction ps with
 | nil=>intro _ _;rfl
 | cons p ps ih =>
  intro h hk
  have hp:=h p (by simp)
  rw [aD0,aEJ hp.1 hp.2 hk]
  exact ih (fun q hq=>h q (by simp [hq])) hk
theorem aMa (m n:Nat) (ps:List (Nat × Nat)):aDP m n [] [] ps=ps:=rfl
theorem aRd (m n:Nat) (x:AV) (xs ys:List AV):aDP m n (x::xs) (x::ys) []=aDP m n xs ys []:=by
 simp only [aDP]
 cases plc x with
 | none=>rfl
 | some k=>simp [aD0]
theorem aET {m n:Nat} {x:AV} {xs ys:List AV} {ps:List (Nat × Nat)} (hp:∀ p ∈ ps,m≤p.1∧m≤p.2) (hx:aCp m x):aDP m n (x::xs) (x::ys) ps=aDP m n xs ys ps:=by
 simp only [aDP]
 cases e:plc x with
 | none=>rfl
 | some k =>
  simp only [aRs hp (hx k e),aMu,Bool.true_or,if_true]
theorem aNt {m n i j v o l v' o' l':Nat} {c c':Option Nat} {xs ys:List AV} {ps:List (Nat × Nat)} (h:aD0 ps i=j):aDP m n (.hsl i v o l c::xs) (.hsl j v' o' l' c'::ys) ps=aDP m n xs ys ps:=by
 simp only [aDP,plc,h,aMu,Bool.true_or,if_true]
theorem aPc {m n i i' j v o l v' o' l':Nat} {c c':Option Nat} {xs ys:List AV} {ps:List (Nat × Nat)} (h:aD0 ps i=i') (h1:i'≠j) (h2:m≤i') (h3:m≤j) (h4:i'+1≤n) (h5:j+1≤n):aDP m n (.hsl i v o l c::xs) (.hsl j v' o' l' c'::ys) ps=aDP m n xs ys (ps++[(i',j)]):=by
 simp only [aDP,plc,h,aOD h1,Q0 h2,Q0 h3,Q0 h4,Q0 h5,Bool.and_self,Bool.not_true,Bool.or_self,if_neg Bool.false_ne_true]
theorem aNf (m:Nat):aCp m J:=fun _ e=>by cases e
theorem aOE (m:Nat) (k:IntKind) (n:Int):aCp m (.int k n):=fun _ e=>by cases e
theorem aS6 (m:Nat):aCp m .nilS:=fun _ e=>by cases e
theorem aGO {m k v o n:Nat} (h:k < m):aCp m (.ptr k v o n):=fun _ e=>by cases e;exact h
theorem aHR {m k v o n:Nat} {c:Option Nat} (h:k < m):aCp m (.hsl k v o n c):=fun _ e=>by cases e;exact h
theorem aHj {m i j:Nat} {r:List (Nat × Nat)} {a b:St} (h1:m≤i) (h2:m≤j) (h3:i≠j) (h4:i < a.h.length) (h5:j < a.h.length) (hb:aGz i j a=b):aHk m ((i,j)::r) a=aHk m r b:=by
 rw [aHk,aOD h3,Q0 h1,Q0 h2,Q0 (show i+1≤a.h.length by omega),Q0 (show j+1≤a.h.length by omega),hb]
 rfl
theorem aOz {α:Type} (h:List α) (a b:α) (r:List α):aCW (h.length+1) h.length (h++a::b::r)=h++b::a::r:=by
 have e1:(h++a::b::r)[h.length+1]?=some b:=by rw [aDk];rfl
 have e0:(h++a::b::r)[h.length]?=some a:=by rw [aIn];rfl
 simp only [aCW,e1,e0]
 rw [aFq,aRb]
 rfl
theorem aRQ {α:Type} (h:List α) (a b c:α) (r:List α):aCW (h.length+2) (h.length+1) (h++a::b::c::r)=h++a::c::b::r:=by
 have e1:(h++a::b::c::r)[h.length+2]?=some c:=by rw [aDk];rfl
 have e0:(h++a::b::c::r)[h.length+1]?=some b:=by rw [aDk];rfl
 simp only [aCW,e1,e0]
 rw [aFq,aFq]
 rfl
theorem aOV (i j:Nat):tr2 i j i=j:=by unfold tr2;rw [if_pos rfl]
theorem aIb {i j:Nat} (h:j≠i):tr2 i j j=i:=by unfold tr2;rw [if_neg h,if_pos rfl]
theorem aHh {i j k:Nat} (h1:k≠i) (h2:k≠j):tr2 i j k=k:=by unfold tr2;rw [if_neg h1,if_neg h2]
section
variable {wx wy w54 w55 : AV} {h : aA0} {c5 : AObj}
theorem aTi {csA csG:List (List AV)} {iA iG vA vG:Nat} (hA:h[iA]?=some (.arr vA 1 false csA)) (hG:h[iG]?=some (.arr vG 1 false csG)) (e2:h[2]?=some (.arr 0 2 true [[.hsl iA vA 0 csA.length none,.hsl iG vG 0 csG.length none]])) (hne:iA≠iG) (h2A:iA≠2) (h2G:iG≠2)
  (nA:csA≠[]) (nG:csG≠[]) (allA:csA.all (fun c=>c.length==1 && c.all aAp)=true) (allG:csG.all (fun c=>c.length==1 && c.all aAp)=true) (lA:csA.length≤1000000) (lG:csG.length≤1000000)
  (px:pure1 wx=false) (py:pure1 wy=false) (hx:cellsOf wx=[wx]∧aAp wx=true) (hy:cellsOf wy=[wy]∧aAp wy=true) (rx:aCb h.length wx) (ry:aCb h.length wy) (ox:aCp h.length wx) (oy:aCp h.length wy) (r54:aCb h.length w54) (r55:aCb h.length w55) (o54:aCp h.length w54) (o55:aCp h.length w55) (hr:Ren h.length h) :
  ∃ (t':List AV),t'=(J::.ptr 0 0 0 0::.ptr 1 0 0 0::J::J::.ptr 2 0 0 0::J::wx::J::J::J::wy::J::J::J::J::J::J::J::J::J::J::J::J::J::J::J::J::J::J::J::J::J::J::J::J::J::J::J::J::J::J::J::J::J::J::J::J::J::J::J::J::J::J::w54::w55::J::J::J::J::J::J::J::J::J::J::J::J::J::J::J::J::J::J::J::J::J::J::J::J::J::J::J::J::J::J::J::J::J::J::J::J::J::J::J::.ptr 2 0 0 0::.hsl iA vA 0 csA.length none::wx::.hsl h.length 0 0 1 none::.hsl iA (vA+1) 0 (csA.length+1) none::.ptr 2 0 0 1::.hsl iG vG 0 csG.length none::wy::.hsl (h.length+1) 0 0 1 none::.hsl iG (vG+1) 0 (csG.length+1) none::.ptr 2 0 0 0::.ptr 2 0 0 1::J::J::J::J::J::J::J::J::J::J::J::J::J::J::J::J::J::J::J::J::J::J::J::J::J::J::J::J::J::J::J::J::J::J::J::J::J::J::J::J::[]) ∧
   eq3 (lim G0.cfg) aA7 aA5 aA6 h.length 14 [false,false,false,false,false,false,false,false,false,false,false,false,false,false] (J::.ptr 0 0 0 0::.ptr 1 0 0 0::J::J::.ptr 2 0 0 0::J::wx::J::J::J::wy::J::J::J::J::J::J::J::J::J::J::J::J::J::J::J::J::J::J::J::J::J::J::J::J::J::J::J::J::J::J::J::J::J::J::J::J::J::J::J::J::J::J::w54::w55::J::J::J::J::J::J::J::J::J::J::J::J::J::J::J::J::J::J::J::J::J::J::J::J::J::J::J::J::J::J::J::J::J::J::J::J::J::J::J::J::J::J::J::J::J::J::J::J::J::J::J::J::J::J::J::J::J::J::J::J::J::J::J::J::J::J::J::J::J::J::J::J::J::J::J::J::J::J::J::J::J::J::J::J::J::J::J::J::J::J::J::[]) h =
   some ⟨t',((h.set iA (.arr (vA+1) 1 false (csA++[[wx]]))).set iG (.arr (vG+1) 1 false (csG++[[wy]]))).set 2 (.arr 0 2 true [[.hsl iA (vA+1) 0 (csA.length+1) none,.hsl iG (vG+1) 0 (csG.length+1) none]])++[.arr 0 1 true [[wx]],.arr 0 1 true [[wy]]]⟩:=by
 obtain ⟨LA,hLA⟩:∃ o,o=AObj.arr 0 1 true [[wx]]:=⟨_,rfl⟩
 obtain ⟨LG,hLG⟩:∃ o,o=AObj.arr 0 1 true [[wy]]:=⟨_,rfl⟩
 have lit:∀ (H:aA0) (w:AV),pure1 w=false→cellsOf w=[w]→aBH H false 1 1 [.nilS] [(0,w)]=some (.hsl H.length 0 0 1 none,H++[.arr 0 1 true [[w]]]):=fun H w p c=>by
  simp [aBH,aAF,aB4,aAv,c,aCh,p]
 have litA:=fun H=>lit H wx px hx.1
 have litG:=fun H=>lit H wy py hy.1
 rw [← hLA] at litA
 rw [← hLG] at litG
 obtain ⟨oA,hoA⟩:∃ o,o=AObj.arr (vA+1) 1 false (csA++[[wx]]):=⟨_,rfl⟩
 obtain ⟨oG,hoG⟩:∃ o,o=AObj.arr (vG+1) 1 false (csG++[[wy]]):=⟨_,rfl⟩
 obtain ⟨h1,hh1⟩:∃ H,H=h.set iA oA:=⟨_,rfl⟩
 obtain ⟨h2,hh2⟩:∃ H,H=h1.set iG oG:=⟨_,rfl⟩
 have ln1:h1.length=h.length:=by rw [hh1,Q2]
 have ln2:h2.length=h.length:=by rw [hh2,Q2,ln1]
 have ltA:=aBS hA
 have ltG:=aBS hG
 have lt2:=aBS e2
 -- appending where the literal lies
 have app:∀ (H:aA0) (i v:Nat) (cs:List (List AV)) (w wl:AV) (L:aA0),H[i]?=some (.arr v 1 false cs)→cs≠[]→cs.all (fun c=>c.length==1 && c.all aAp)=true→cs.length≤1000000→aAp w=true→aAC (H++L) 1 wl=some [[w]]→aD9 (H++L) 1 24 (.hsl i v 0 cs.length none) wl=some (.hsl i (v+1) 0 (cs.length+1) none,H.set i (.arr (v+1) 1 false (cs++[[w]]))++L):=by
  intro H i v cs w wl L e ne al ll ok el
  have ho:aAu 1 cs (.hsl i v 0 cs.length none) (H++L) (some i):=.inr ⟨ne,i,v,rfl,rfl,aAJ e L⟩
  obtain ⟨i',ver,h',r1,r2,r3⟩:=aAu.pushX (c:=[w]) el ho rfl (by simp [ok]) al 24 (by omega) ll
  rcases r3 with ⟨g,_⟩ | ⟨v0,g1,g2,g3,g4,g5⟩
  ·exact absurd g ne
  ·cases g1
   simp only [AV.hsl.injEq,true_and,and_true] at g3
   subst g2;subst g3;subst g5
   rw [r1,Q3 _ _ (aBS e)]
 have el:∀ (H:aA0) (w:AV) (L:aA0),aAC (H++AObj.arr 0 1 true [[w]]::L) 1 (.hsl H.length 0 0 1 none)=some [[w]]:=fun H w L=>by simp [aAC,aAk]
 have el1:∀ (H:aA0) (o:AObj) (w:AV) (L:aA0),aAC (H++o::AObj.arr 0 1 true [[w]]::L) 1 (.hsl (H.length+1) 0 0 1 none)=some [[w]]:=fun H o w L=>by
  have:(H++o::AObj.arr 0 1 true [[w]]::L)[H.length+1]?=some (.arr 0 1 true [[w]]):=by rw [aDk];rfl
  simp [aAC,aAk]
 have aA1:=app h iA vA csA wx (.hsl h.length 0 0 1 none) [LA] hA nA allA lA hx.2 (by rw [hLA];exact el h wx [])
 have aA2:=app h iA vA csA wx (.hsl h.length 0 0 1 none) [LA,LG] hA nA allA lA hx.2 (by rw [hLA];exact el h wx [LG])
 have aA3:=app h iA vA csA wx (.hsl (h.length+1) 0 0 1 none) [LG,LA] hA nA allA lA hx.2 (by rw [hLA];exact el1 h LG wx [])
 rw [← hoA,← hh1] at aA1 aA2 aA3
 have hG1:h1[iG]?=some (.arr vG 1 false csG):=by rw [hh1];exact aAs hG hne
 have aG1:=app h1 iG vG csG wy (.hsl (h.length+1) 0 0 1 none) [LA,LG] hG1 nG allG lG hy.2 (by rw [hLG,← ln1];exact el1 h1 LA wy [])
 have aG2:=app h1 iG vG csG wy (.hsl h.length 0 0 1 none) [LG,LA] hG1 nG allG lG hy.2 (by rw [hLG,← ln1];exact el h1 wy [LA])
 rw [← hoG,← hh2] at aG1 aG2
 -- the table's cells
 have e21:h1[2]?=some (.arr 0 2 true [[.hsl iA vA 0 csA.length none,.hsl iG vG 0 csG.length none]]):=by rw [hh1];exact aAs e2 h2A
 have e22:h2[2]?=some (.arr 0 2 true [[.hsl iA vA 0 csA.length none,.hsl iG vG 0 csG.length none]]):=by rw [hh2];exact aAs e21 h2G
 have ld0:∀ (H:aA0) (a b:AV),H[2]?=some (.arr 0 2 true [[a,b]])→∀ L,aAb (H++L) 1 false (.ptr 2 0 0 0)=some a:=fun H a b e L=>by rw [aB5 _ 1 2 0 0 0 false 2 true _ _ (aAJ e L) rfl];rfl
 have ld1:∀ (H:aA0) (a b:AV),H[2]?=some (.arr 0 2 true [[a,b]])→∀ L,aAb (H++L) 1 false (.ptr 2 0 0 1)=some b:=fun H a b e L=>by rw [aB5 _ 1 2 0 0 1 false 2 true _ _ (aAJ e L) rfl];rfl
 have a0:=ld0 h _ _ e2
 have a1:=ld1 h _ _ e2
 have a0n:=a0 []
 have a1n:=a1 []
 rw [List.append_nil] at a0n a1n
 have b0:=ld0 h1 _ _ e21
 have b1:=ld1 h1 _ _ e21
 obtain ⟨wA',hwA⟩:∃ w,w=AV.hsl iA (vA+1) 0 (csA.length+1) none:=⟨_,rfl⟩
 obtain ⟨wG',hwG⟩:∃ w,w=AV.hsl iG (vG+1) 0 (csG.length+1) none:=⟨_,rfl⟩
 obtain ⟨h3,hh3⟩:∃ H,H=h2.set 2 (.arr 0 2 true [[wA',.hsl iG vG 0 csG.length none]]):=⟨_,rfl⟩
 obtain ⟨h4,hh4⟩:∃ H,H=h2.set 2 (.arr 0 2 true [[wA',wG']]):=⟨_,rfl⟩
 have ln4:h4.length=h.length:=by rw [hh4,Q2,ln2]
 have s0:∀ L,aAB (h2++L) 1 (.ptr 2 0 0 0) wA'=some (h3++L):=fun L=>by
  have e:=aAJ e22 L
  have:(h2++L).set 2 (.arr 0 2 true [[wA',.hsl iG vG 0 csG.length none]])=h3++L:=by rw [hh3,Q3 _ _ (by omega)]
  rw [← this,hwA]
  simp [aAB,aAv,aAk,e,cellsOf,aAp]
 have e23:h3[2]?=some (.arr 0 2 true [[wA',.hsl iG vG 0 csG.length none]]):=by rw [hh3];exact aAr e22
 have s1:∀ L,aAB (h3++L) 1 (.ptr 2 0 0 1) wG'=some (h4++L):=fun L=>by
  have e:=aAJ e23 L
  have ln3:h3.length=h.length:=by rw [hh3,Q2,ln2]
  have:(h3++L).set 2 (.arr 0 2 true [[wA',wG']])=h4++L:=by rw [Q3 _ _ (by omega),hh3,hh4,set_set]
  rw [← this,hwG]
  simp [aAB,aAv,aAk,e,cellsOf,aAp]
 rw [← hwA] at aA1 aA2 aA3
 rw [← hwG] at aG1 aG2
 obtain ⟨wA,hwA0⟩:∃ w,w=AV.hsl iA vA 0 csA.length none:=⟨_,rfl⟩
 obtain ⟨wG,hwG0⟩:∃ w,w=AV.hsl iG vG 0 csG.length none:=⟨_,rfl⟩
 rw [← hwA0] at aA1 aA2 aA3 a0 a0n b0
 rw [← hwG0] at aG1 aG2 a1 a1n b1
 -- the orders end alike
 have rO:∀ (v:Nat) (x:Bool) (w:AV),aCb h.length w→aHL h.length (.arr v 1 x [[w]]):=fun v x w hw=>aBF.2 (aCL hw)
 have R4:Ren h.length h4:=by
  rw [hh4,hh2,hh1,hoA,hoG,hwA,hwG]
  refine ((hr.set (aBF.2 ((aBF.1 (hr.get hA)).append (aCL rx))) iA).set (aBF.2 ((aBF.1 (hr.get hG)).append (aCL ry))) iG).set (aBF.2 (fun i j hi hj => ?_)) 2
  simp [aBK,aAU,aEJ hi hj ltA,aEJ hi hj ltG]
 have same:aDv h.length (some ⟨(J::.ptr 0 0 0 0::.ptr 1 0 0 0::J::J::.ptr 2 0 0 0::J::wx::J::J::J::wy::J::J::J::J::J::J::J::J::J::J::J::J::J::J::J::J::J::J::J::J::J::J::J::J::J::J::J::J::J::J::J::J::J::J::J::J::J::J::J::J::J::J::w54::w55::J::J::J::J::J::J::J::J::J::J::J::J::J::J::J::J::J::J::J::J::J::J::J::J::J::J::J::J::J::J::J::J::J::J::J::J::J::J::J::.ptr 2 0 0 0::wA::wx::.hsl (h.length+1) 0 0 1 none::wA'::.ptr 2 0 0 1::wG::wy::.hsl h.length 0 0 1 none::wG'::.ptr 2 0 0 0::.ptr 2 0 0 1::J::J::J::J::J::J::J::J::J::J::J::J::J::J::J::J::J::J::J::J::J::J::J::J::J::J::J::J::J::J::J::J::J::J::J::J::J::J::J::J::[]),h4++[LG,LA]⟩)
   (some ⟨(J::.ptr 0 0 0 0::.ptr 1 0 0 0::J::J::.ptr 2 0 0 0::J::wx::J::J::J::wy::J::J::J::J::J::J::J::J::J::J::J::J::J::J::J::J::J::J::J::J::J::J::J::J::J::J::J::J::J::J::J::J::J::J::J::J::J::J::J::J::J::J::w54::w55::J::J::J::J::J::J::J::J::J::J::J::J::J::J::J::J::J::J::J::J::J::J::J::J::J::J::J::J::J::J::J::J::J::J::J::J::J::J::J::.ptr 2 0 0 0::wA::wx::.hsl h.length 0 0 1 none::wA'::.ptr 2 0 0 1::wG::wy::.hsl (h.length+1) 0 0 1 none::wG'::.ptr 2 0 0 0::.ptr 2 0 0 1::J::J::J::J::J::J::J::J::J::J::J::J::J::J::J::J::J::J::J::J::J::J::J::J::J::J::J::J::J::J::J::J::J::J::J::J::J::J::J::J::[]),h4++[LA,LG]⟩)=true:=by
  have ps1:∀ p ∈ [(h.length+1,h.length)],h.length≤p.1∧h.length≤p.2:=fun p hp=>by rw [List.mem_singleton] at hp;subst hp;exact ⟨by omega,Q1 _⟩
  have lj:=aNf h.length
  have l0:∀ a b c,aCp h.length (.ptr 0 a b c):=fun a b c=>aGO (by omega)
  have l1:∀ a b c,aCp h.length (.ptr 1 a b c):=fun a b c=>aGO (by omega)
  have l2:∀ a b c,aCp h.length (.ptr 2 a b c):=fun a b c=>aGO (by omega)
  have lwA:aCp h.length wA':=by rw [hwA];exact aHR ltA
  have lwG:aCp h.length wG':=by rw [hwG];exact aHR ltG
  have lwG0:aCp h.length wG:=by rw [hwG0];exact aHR ltG
  have rv:=fun (x:AV) (hx:aCb h.length x)=>hx (h.length+1) h.length (by omega) (Q1 _)
  have v1:=rv wx rx
  have v2:=rv wy ry
  have v3:=rv wA (by rw [hwA0];exact aFm ltA)
  have v4:=rv wA' (by rw [hwA];exact aFm ltA)
  have v5:=rv wG (by rw [hwG0];exact aFm ltG)
  have v6:=rv wG' (by rw [hwG];exact aFm ltG)
  have v7:=rv w54 r54
  have v8:=rv w55 r55
  have q0:∀ a b c,aAU (h.length+1) h.length (.ptr 0 a b c)=.ptr 0 a b c:=fun a b c=>rv _ (aDw (by omega))
  have q1:∀ a b c,aAU (h.length+1) h.length (.ptr 1 a b c)=.ptr 1 a b c:=fun a b c=>rv _ (aDw (by omega))
  have q2:∀ a b c,aAU (h.length+1) h.length (.ptr 2 a b c)=.ptr 2 a b c:=fun a b c=>rv _ (aDw (by omega))
  have q3:aAU (h.length+1) h.length J=J:=rfl
  have q4:aAU (h.length+1) h.length (.hsl (h.length+1) 0 0 1 none)=.hsl h.length 0 0 1 none:=by simp [aAU,aOV]
  have q5:aAU (h.length+1) h.length (.hsl h.length 0 0 1 none)=.hsl (h.length+1) 0 0 1 none:=by
   have:=aIb (i:=h.length+1) (j:=h.length) (by omega)
   simp [aAU,this]
  refine aKi (ps:=[(h.length+1,h.length)]) ?_ ?_
  ·have lnZ:(h4++[LG,LA]).length=h.length+2:=by simp [ln4]
   simp only [lnZ,aRd]
   rw [aPc (i':=h.length+1) rfl (by omega) (by omega) (by omega) (by omega) (by omega),List.nil_append]
   have ap:aD0 [(h.length+1,h.length)] h.length=h.length+1:=by
    simp only [aD0];exact aIb (by omega)
   simp only [aET ps1 lwA,aET ps1 (l2 _ _ _),aET ps1 lwG0,aET ps1 oy,aNt ap,aET ps1 lwG,aET ps1 lj,aMa]
  ·rw [aHj (b:=⟨(J::.ptr 0 0 0 0::.ptr 1 0 0 0::J::J::.ptr 2 0 0 0::J::wx::J::J::J::wy::J::J::J::J::J::J::J::J::J::J::J::J::J::J::J::J::J::J::J::J::J::J::J::J::J::J::J::J::J::J::J::J::J::J::J::J::J::J::J::J::J::J::w54::w55::J::J::J::J::J::J::J::J::J::J::J::J::J::J::J::J::J::J::J::J::J::J::J::J::J::J::J::J::J::J::J::J::J::J::J::J::J::J::J::.ptr 2 0 0 0::wA::wx::.hsl h.length 0 0 1 none::wA'::.ptr 2 0 0 1::wG::wy::.hsl (h.length+1) 0 0 1 none::wG'::.ptr 2 0 0 0::.ptr 2 0 0 1::J::J::J::J::J::J::J::J::J::J::J::J::J::J::J::J::J::J::J::J::J::J::J::J::J::J::J::J::J::J::J::J::J::J::J::J::J::J::J::J::[]),h4++[LA,LG]⟩) (by omega) (Q1 _) (by omega) (by simp [ln4]) (by simp [ln4]) ?_]
   ·rfl
   ·simp only [aGz,aBK,v1,v2,v3,v4,v5,v6,v7,v8,q0,q1,q2,q3,q4,q5]
    have e1:(h4++[LG,LA]).map (aDO (h.length+1) h.length)=h4++[LG,LA]:=by
     rw [List.map_append,R4 _ _ (by omega) (Q1 _),List.map_cons,List.map_cons,List.map_nil,hLA,hLG,rO 0 true wx rx _ _ (by omega) (Q1 _),rO 0 true wy ry _ _ (by omega) (Q1 _)]
    rw [e1]
    have:=aOz h4 LG LA []
    rw [ln4] at this
    rw [this]
 refine ⟨_,rfl,?_⟩
 rw [← hoA,← hh1,← hoG,← hh2,← hwA,← hwG,← hh4,← hwA0,← hwG0,← hLA,← hLG]
 simp only [Zan,Zbc,Zbd,Zbe,Zbm,Zbo,Zbs,Zbt,Zcc,Zcm,Zcr,Zcz,Zdb,Zdc,List.set_cons_zero,List.set_cons_succ,List.getD_cons_zero,List.getD_cons_succ,Zeb,List.length_cons,List.length_nil,eq_self,List.length_cons,List.length_nil,List.cons_append,List.nil_append,aHf,aHe,aHd,aHc,aHb,aHa,aH9,aH8,aH7,aH6,aGw,aGv,aGu,aGt,aGs,aGr,aGq,aGp,aGo,aGn,aGm,aGl,aGk,aGj,aGi,aGh,aGg,aGf,aGe,aGd,aGc,aMe,aMc,aMd,aI1,List.length_append,Nat.zero_add,List.append_assoc,ln1,ev2,litA,litG,a0,a1,a0n,a1n,b1,aA1,aA2,aA3,aG1,aG2,s0,s1,aRm _ _ _ _ same]
end
end Go.Proofs.Ytgeedikghjcebaa.Ai
