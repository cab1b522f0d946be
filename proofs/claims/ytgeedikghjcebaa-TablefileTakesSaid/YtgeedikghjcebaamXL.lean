/- Put as the reference does it: a packed table as bytes. -/
import Derived.Test.YtgeedikghjcebaamXC
import Derived.Test.YtgeedikghjcebaamXK
namespace Go.Proofs.Ytgeedikghjcebaa.Ai
open Go Go.Proofs
open List renaming length_cons → Q0, length_nil → Q1
set_option linter.unusedVariables false
set_option linter.unusedSimpArgs false
set_option maxRecDepth 10000
set_option maxHeartbeats 4000000
def PackD.lists (p:PackD):List (List Int):=[p.a.row,p.a.base,p.a.val,p.a.own,p.g.row,p.g.base,p.g.val,p.g.own]
theorem aIy {h:aA0} {i:Nat} {c0 c1 c2 c3 c4 c5 c6 c7 c8 c9:AV} (e:h[i]?=some (.arr 0 10 true [[c0,c1,c2,c3,c4,c5,c6,c7,c8,c9]])) :
  aAd h 1 false (.ptr i 0 0 0)=some c0∧aAd h 1 false (.ptr i 0 0 1)=some c1∧aAd h 1 false (.ptr i 0 0 2)=some c2∧aAd h 1 false (.ptr i 0 0 3)=some c3∧aAd h 1 false (.ptr i 0 0 4)=some c4∧aAd h 1 false (.ptr i 0 0 5)=some c5∧aAd h 1 false (.ptr i 0 0 6)=some c6∧aAd h 1 false (.ptr i 0 0 7)=some c7∧aAd h 1 false (.ptr i 0 0 8)=some c8∧aAd h 1 false (.ptr i 0 0 9)=some c9:=by
 refine ⟨?_,?_,?_,?_,?_,?_,?_,?_,?_,?_⟩ <;> rw [aAS _ 1 i 0 0 _ false 10 true _ _ e rfl] <;> rfl
theorem aVY (h:aA0) (z a b c d e f g k:AV) (ha:pure1 a=true) (hb:pure1 b=true) (hc:pure1 c=true) (hd:pure1 d=true) (he:pure1 e=true) (hf:pure1 f=true) (hg:pure1 g=true) (hk:pure1 k=true)
  (xa:cellsOf a=[a]) (xb:cellsOf b=[b]) (xc:cellsOf c=[c]) (xd:cellsOf d=[d]) (xe:cellsOf e=[e]) (xf:cellsOf f=[f]) (xg:cellsOf g=[g]) (xk:cellsOf k=[k]) :
  aC4 h false 1 8 [z] [(0,a),(1,b),(2,c),(3,d),(4,e),(5,f),(6,g),(7,k)]=some (.vsl true [[a],[b],[c],[d],[e],[f],[g],[k]],h):=by
 simp [aC4,aAJ,aBg,aAy,xa,xb,xc,xd,xe,xf,xg,xk,aD4,ha,hb,hc,hd,he,hf,hg,hk]
theorem aBE.ten {p:PackD} {cs:List AV} (hp:aBE p cs):∃ a1 a2 a3 a4 b1 b2 b3 b4,cs=[.int .i64 p.tms,.int .i64 p.nts,a1,a2,a3,a4,b1,b2,b3,b4]∧Li p.a.row a1∧Li p.a.base a2∧Li p.a.val a3∧Li p.a.own a4∧Li p.g.row b1∧Li p.g.base b2∧Li p.g.val b3∧Li p.g.own b4:=by
 obtain ⟨ca,cg,rfl,⟨a1,a2,a3,a4,rfl,ha1,ha2,ha3,ha4⟩,⟨b1,b2,b3,b4,rfl,hb1,hb2,hb3,hb4⟩⟩:=hp
 exact ⟨a1,a2,a3,a4,b1,b2,b3,b4,rfl,ha1,ha2,ha3,ha4,hb1,hb2,hb3,hb4⟩
section
variable {p : PackD} {cs : List AV}
theorem aQ1 (hp:aBE p cs):∃ w,LiR p.lists w∧∀ H,lim G0.cfg (.func 26) [.agg cs] H=some (w,H):=by
 have fz:=fun h=>aDa (hp.fz h 998)
 obtain ⟨p1,p2,p3⟩:=hp.cells
 have bx:=aF5 [] p3 p1
 obtain ⟨a1,a2,a3,a4,b1,b2,b3,b4,rfl,x1,x2,x3,x4,y1,y2,y3,y4⟩:=hp.ten
 refine ⟨.vsl true [[a1],[a2],[a3],[a4],[b1],[b2],[b3],[b4]],.inr ⟨true,_,rfl,rfl,fun j hj => ?_⟩,fun H => ?_⟩
 ·have:p.lists.length=8:=rfl
  rw [this] at hj
  rcases j with _ | _ | _ | _ | _ | _ | _ | _ | j
  ·exact ⟨a1,rfl,x1⟩
  ·exact ⟨a2,rfl,x2⟩
  ·exact ⟨a3,rfl,x3⟩
  ·exact ⟨a4,rfl,x4⟩
  ·exact ⟨b1,rfl,y1⟩
  ·exact ⟨b2,rfl,y2⟩
  ·exact ⟨b3,rfl,y3⟩
  ·exact ⟨b4,rfl,y4⟩
  ·omega
 ·refine aAF rfl rfl aPR 1 fz ?_ (fun _=>rfl) H
  obtain ⟨X,hX⟩:∃ X,X=AObj.arr 0 10 true [[.int .i64 p.tms,.int .i64 p.nts,a1,a2,a3,a4,b1,b2,b3,b4]]:=⟨_,rfl⟩
  obtain ⟨l0,l1,l2,l3,l4,l5,l6,l7,l8,l9⟩:=aIy (h:=[X]) (i:=0) (by rw [hX];rfl)
  have t:=fun h=>aVY h .nilS a1 a2 a3 a4 b1 b2 b3 b4 x1.pure1 x2.pure1 x3.pure1 x4.pure1 y1.pure1 y2.pure1 y3.pure1 y4.pure1 x1.cell.1 x2.cell.1 x3.cell.1 x4.cell.1 y1.cell.1 y2.cell.1 y3.cell.1 y4.cell.1
  rw [aPK]
  simp only [Zaf,Zag,Zam,Zan,Zao,Zbc,Zbd,Zbm,Zbo,Zbr,Zbs,Zcc,Zcr,Zcw,Zcy,Zcz,Zda,Zdb,List.set_cons_zero,List.set_cons_succ,List.getD_cons_zero,List.getD_cons_succ,Option.map_some,Zeb,Zef,Q0,Q1,if_true,Nat.reduceAdd,Nat.reduceSub,eq_self,true_and,Q0,Q1,List.replicate_succ,List.replicate_zero,List.cons_append,List.nil_append,ev2,← hX,l2,l3,l4,l5,l6,l7,l8,l9,t,aA5,aA4,aA8,Option.some.injEq,Prod.mk.injEq,true_and,exists_eq']
end
def aEt (l:List UInt8):List UInt8:=[UInt8.ofNat (aFM l / 16777216),UInt8.ofNat (aFM l / 65536),UInt8.ofNat (aFM l / 256),UInt8.ofNat (aFM l)]
theorem aNo (q:EqK) (n:Nat):aBc .shr q (.int .u32 n) (.int .u64 24)=some (.int .u32 ((n / 16777216:Nat):Int)):=aQX q .u32 .u64 n 24 (by decide)
theorem aNp (q:EqK) (n:Nat):aBc .shr q (.int .u32 n) (.int .u64 16)=some (.int .u32 ((n / 65536:Nat):Int)):=aQX q .u32 .u64 n 16 (by decide)
theorem sh8 (q:EqK) (n:Nat):aBc .shr q (.int .u32 n) (.int .u64 8)=some (.int .u32 ((n / 256:Nat):Int)):=aQX q .u32 .u64 n 8 (by decide)
theorem aVL (h:aA0) (a b c d:UInt8):aC4 h false 1 4 [.int .u8 0] [(0,.int .u8 a.toNat),(1,.int .u8 b.toNat),(2,.int .u8 c.toNat),(3,.int .u8 d.toNat)]=some (.vsl true (eBs [a,b,c,d]),h):=by
 simp [aC4,aAJ,aBg,aAy,cellsOf,aD4,pure1,eBs,eB]
theorem aRG (h:aA0) (a b c d:UInt8):aC4 h true 1 4 [.int .u8 0] [(0,.int .u8 a.toNat),(1,.int .u8 b.toNat),(2,.int .u8 c.toNat),(3,.int .u8 d.toNat)]=some (.hsl h.length 0 0 4 none,h++[.arr 0 1 true (eBs [a,b,c,d])]):=by
 simp [aC4,aAJ,aBg,aAy,cellsOf,aD4,eBs,eB]
section
variable {i : Nat}
theorem aSJ {l:List UInt8} {v:AV} {h:aA0} (ho:aCy l v h i) (hl:l.length≤10000000) :
  ∃ (v':AV) (h':aA0),lim G0.cfg (.func 24) [v] h=some (v',h')∧aCy (l++aEt l) v' h' i∧(∀ j o,j≠i→h[j]?=some o→h'[j]?=some o)∧h'.length=h.length:=by
 obtain ⟨v',h',e1,o1,f1,g1⟩:=ho.add (w:=.vsl true (eBs (aEt l))) (m:=aEt l) ((aDj true _).elems h) (by simp [aEt]) 1 (by omega) (by have:(aEt l).length=4:=rfl;omega)
 have e0:=aUT ho hl
 obtain ⟨s,hs⟩:∃ s,s=aFM l:=⟨_,rfl⟩
 have es:aEt l=[UInt8.ofNat (s / 16777216),UInt8.ofNat (s / 65536),UInt8.ofNat (s / 256),UInt8.ofNat s]:=by rw [hs];rfl
 rw [← hs] at e0
 refine ⟨v',h',aAW rfl aPc 1 ?_,o1,f1,g1⟩
 rw [es] at e1
 have t:=aVL h (UInt8.ofNat (s / 16777216)) (UInt8.ofNat (s / 65536)) (UInt8.ofNat (s / 256)) (UInt8.ofNat s)
 rw [aP5]
 simp only [Zaf,Zag,Zam,Zan,Zao,Zbc,Zbd,Zbm,Zbo,Zbu,Zbw,Zcm,Zcr,Zct,Zcu,Zcy,Zcz,Zda,Zdb,Zdd,Zde,List.set_cons_zero,List.set_cons_succ,List.getD_cons_zero,List.getD_cons_succ,Option.map_some,Q0,Q1,Nat.reduceAdd,Nat.reduceSub,eq_self,Q0,Q1,List.replicate_succ,List.replicate_zero,List.cons_append,List.nil_append,e0,aNo,aNp,sh8,aLa,ev2,t,e1,aA5,aA4,aA8]
end
def aFH:List UInt8:=[65,82,66,49]
section
variable {N : Nat} {i : Nat}
variable {p : PackD} {cs : List AV}
theorem aUZ (h:aA0):aC4 h true 1 4 [.int .u8 0] [(0,.int .u8 65),(1,.int .u8 82),(2,.int .u8 66),(3,.int .u8 49)]=some (.hsl h.length 0 0 4 none,h++[.arr 0 1 true (eBs aFH)]):=aRG h 65 82 66 49
theorem aVt (h:aA0) (l:List (List AV)) (n:Nat) (hn:0 < n):aH5 (h++[.arr 0 1 true l]) (.hsl h.length 0 0 n none)=some (.hsl h.length 0 0 n none):=by
 simp [aH5,aAj,hn]
theorem aSP (h:aA0):aCy aFH (.hsl h.length 0 0 4 none) (h++[.arr 0 1 true (eBs aFH)]) h.length:=⟨by decide,0,true,rfl,aBO _ _⟩
end
end Go.Proofs.Ytgeedikghjcebaa.Ai
namespace Go.Proofs.Ytgeedikghjcebaa.Ai
open Go Go.Proofs
set_option linter.unusedVariables false
set_option linter.unusedSimpArgs false
set_option maxRecDepth 10000
set_option maxHeartbeats 4000000
def aJK (i:Nat):List (List AV):=[[.ptr i 0 0 2],[.ptr i 0 0 3],[.ptr i 0 0 4],[.ptr i 0 0 5],[.ptr i 0 0 6],[.ptr i 0 0 7],[.ptr i 0 0 8],[.ptr i 0 0 9]]
theorem aUh (i:Nat) (h:aA0):lim G0.cfg (.func 20) [.ptr i 0 0 0] h=some (.hsl h.length 0 0 8 none,h++[.arr 0 1 true (aJK i)]):=by
 refine aAW rfl aLe 1 ?_
 have t:aC4 h false 1 8 [.nilP] [(0,.ptr i 0 0 2),(1,.ptr i 0 0 3),(2,.ptr i 0 0 4),(3,.ptr i 0 0 5),(4,.ptr i 0 0 6),(5,.ptr i 0 0 7),(6,.ptr i 0 0 8),(7,.ptr i 0 0 9)]=some (.hsl h.length 0 0 8 none,h++[.arr 0 1 true (aJK i)]):=by
  simp [aC4,aAJ,aBg,aAy,cellsOf,aD4,pure1,aJK]
 rw [aLb]
 simp only [Zaf,Zag,Zam,Zan,Zao,Zbc,Zbd,Zbm,Zbo,Zcc,Zcd,Zcr,Zcy,Zcz,Zda,Zdb,List.set_cons_zero,List.set_cons_succ,List.getD_cons_zero,List.getD_cons_succ,Option.map_some,Zeb,List.length_cons,List.length_nil,Nat.reduceAdd,Nat.reduceSub,eq_self,List.length_cons,List.length_nil,List.replicate_succ,List.replicate_zero,List.cons_append,List.nil_append,aBD,ev2,t,aA5,aA4,aA8]
theorem aRC (i j:Nat) (hj:j < 8):(aJK i)[j]?=some [.ptr i 0 0 (2+j)]:=by
 rcases j with _ | _ | _ | _ | _ | _ | _ | _ | j <;> first | rfl | omega
section
variable {p : PackD} {cs : List AV} {N : Nat}
theorem aBE.row (hp:aBE p cs) (i j:Nat) (hj:j < p.lists.length):∃ rv,Li p.lists[j] rv∧∀ h:aA0,h[i]?=some (.arr 0 10 true [cs])→aAd h 1 false (.ptr i 0 0 (2+j))=some rv:=by
 obtain ⟨a1,a2,a3,a4,b1,b2,b3,b4,rfl,x1,x2,x3,x4,y1,y2,y3,y4⟩:=hp.ten
 have l8:p.lists.length=8:=rfl
 rw [l8] at hj
 rcases j with _ | _ | _ | _ | _ | _ | _ | _ | j
 ·exact ⟨a1,x1,fun h e=>(aIy e).2.2.1⟩
 ·exact ⟨a2,x2,fun h e=>(aIy e).2.2.2.1⟩
 ·exact ⟨a3,x3,fun h e=>(aIy e).2.2.2.2.1⟩
 ·exact ⟨a4,x4,fun h e=>(aIy e).2.2.2.2.2.1⟩
 ·exact ⟨b1,y1,fun h e=>(aIy e).2.2.2.2.2.2.1⟩
 ·exact ⟨b2,y2,fun h e=>(aIy e).2.2.2.2.2.2.2.1⟩
 ·exact ⟨b3,y3,fun h e=>(aIy e).2.2.2.2.2.2.2.2.1⟩
 ·exact ⟨b4,y4,fun h e=>(aIy e).2.2.2.2.2.2.2.2.2⟩
 ·omega
end
end Go.Proofs.Ytgeedikghjcebaa.Ai
namespace Go.Proofs.Ytgeedikghjcebaa.Ai
open Go Go.Proofs
open AV renaming junk → J
open List renaming getD_cons_zero → Q0, getD_cons_succ → Q1, set_cons_zero → Q2, set_cons_succ → Q3, length_cons → Q4, nil_append → Q5, cons_append → Q6, length_nil → Q7, replicate_succ → Q8
set_option linter.unusedVariables false
set_option linter.unusedSimpArgs false
set_option maxRecDepth 10000
set_option maxHeartbeats 4000000
theorem aNJ:∀ (k:Nat) (s:List UInt8 × Bool),(aDf k s).1.length=k∧(aDf k s).2.1.length≤s.1.length
 | 0,s=>⟨rfl,Nat.le_refl _⟩
 | k+1,s=>by
  have h1:=aNJ k (aAH s).2
  have h2:=aFm s
  simp only [aDf,Q4]
  omega
theorem aNT (s:List UInt8 × Bool):(aE5 s).1.length≤s.1.length+1∧(aE5 s).2.1.length≤s.1.length:=by
 unfold aE5
 have h1:=aNJ (min (aAH s).1 ((aAH s).2.1.length+1)) (aAH s).2
 have h2:=aFm s
 omega
def aBT:Nat→List UInt8 × Bool→List (List Int) × (List UInt8 × Bool)
 | 0,s=>([],s)
 | k+1,s=>((aE5 s).1::(aBT k (aE5 s).2).1,(aBT k (aE5 s).2).2)
section
variable {r B N : Nat}
theorem aV0 (hr:r < B) (L0:Nat) (h0:L0≤40000) (K:Int):∀ (d i m:Nat) (s:List UInt8 × Bool) (w v:AV) (xs:List Int) (q:Option Nat) (h:aA0),K=((i+d:Nat):Int)→d < m→i+d≤100000→s.1.length≤L0→LiB s.1 w→h[r]?=some (rdO w s.2)→aAi 1 (eIs xs) v h q→xs.length=i→(∀ i,q=some i→B≤i)→B≤h.length →
  ∃ (w' v':AV) (q':Option Nat) (h':aA0),aAp (aA7 (lim G0.cfg) N aDb) m ⟨[J,.fn (.func 19) [.ptr r 0 0 0] [],J,J,J,J,v,J,J,J,J,J,J,.int .i64 K,.int .i64 i,J,J,J,J,J,J,J,J],h⟩=some (.exit 0,⟨[J,J,J,J,J,J,v',J,J,J,J,J,J,J,J,J,J,J,J,J,J,J,J],h'⟩) ∧
   LiB (aDf d s).2.1 w'∧h'[r]?=some (rdO w' (aDf d s).2.2)∧aAi 1 (eIs (xs++(aDf d s).1)) v' h' q'∧(∀ i,q'=some i→B≤i)∧B≤h'.length∧(∀ (j:Nat) (o:AObj),j < B→j≠r→h[j]?=some o→h'[j]?=some o):=by
 intro d
 induction d with
 | zero =>
  intro i m s w v xs q h h1 h2 hk hs hl er ow lx hq hB
  obtain ⟨m,rfl⟩:∃ q,m=q+1:=⟨m - 1,by omega⟩
  have h3:¬ ((i:Int) < K):=by omega
  refine ⟨w,v,q,h,?_,hl,er,by simp only [aDf,List.append_nil];exact ow,hq,hB,fun _ _ _ _ e=>e⟩
  simp only [aAc,aGz,Zaf,Zag,Zah,Zak,Zal,Zan,Zao,Zap,Zaw,Zaz,Zbc,Zbm,Zbu,Zcz,Zdb,Zdf,Zdg,Zdh,Q2,Q3,Q0,Q1,Zdl,decide_false,eq_self,h3]
 | succ d ih =>
  intro i m s w v xs q h h1 h2 hk hs hl er ow lx hq hB
  obtain ⟨m,rfl⟩:∃ q,m=q+1:=⟨m - 1,by omega⟩
  have h3:(i:Int) < K:=by omega
  have hw:=aB6 (n:=i) (by omega)
  obtain ⟨w1,lw,e1⟩:=aI7 hl (by omega) er
  have e1':lim G0.cfg (.func 19) [.ptr r 0 0 0] h=some (.int .i64 (aAH s).1,h.set r (rdO w1 (aAH s).2.2)):=e1
  obtain ⟨h1',hh1⟩:∃ h1',h1'=h.set r (rdO w1 (aAH s).2.2):=⟨_,rfl⟩
  rw [← hh1] at e1'
  have er1:h1'[r]?=some (rdO w1 (aAH s).2.2):=by rw [hh1];exact aAh er
  have f1:∀ (j:Nat) (o:AObj),j≠r→h[j]?=some o→h1'[j]?=some o:=fun j o hj e=>by rw [hh1];exact aAk e (Ne.symm hj)
  have ow1:aAi 1 (eIs xs) v h1' q:=ow.frame (fun i o e g=>f1 i o (by have:=hq i e;omega) g)
  have t1:=aD8 h1' (.int .i64 0) (.int .i64 (aAH s).1) rfl rfl
  obtain ⟨iv,ver,H1,r1,r2,r3,r4,r5⟩:=ow1.push true (c:=[.int .i64 (aAH s).1]) rfl rfl (aBA _) 8 (by omega) (by rw [Zet];omega)
  rw [Zet] at r1 r2
  have ln1:h1'.length=h.length:=by rw [hh1];simp
  have tiv:B≤iv:=by
   rcases r4 with g | ⟨_,g⟩
   ·exact hq iv g
   ·omega
  have eS:eIs xs++[[.int .i64 (aAH s).1]]=eIs (xs++[((aAH s).1:Int)]):=by simp [eIs,eI]
  rw [eS] at r2
  obtain ⟨vv,hvv⟩:∃ vv,vv=AV.hsl iv ver 0 (xs.length+1) none:=⟨_,rfl⟩
  rw [← hvv] at r1 r2
  have b1:=aFm s
  obtain ⟨w',v',q',h',g1,g2,g3,g4,g5,g6,g7⟩:=ih (i+1) m (aAH s).2 w1 vv (xs++[((aAH s).1:Int)]) (some iv) H1 (by omega) (by omega) (by omega) (by omega) lw (r3 r _ er1 (fun e=>by have:=hq r e;omega)) r2 (by simp [lx]) (fun i e=>by cases e;exact tiv) (by omega)
  refine ⟨w',v',q',h',?_,g2,g3,?_,g5,g6,fun j o hj hn e=>g7 j o hj hn (r3 j o (f1 j o hn e) (fun e=>by have:=hq j e;omega))⟩
  ·rw [← g1]
   simp only [aAc,aGz,Zae,Zaf,Zag,Zah,Zai,Zak,Zan,Zao,Zar,Zav,Zay,Zbc,Zbd,Zbm,Zbo,Zbu,Zcm,Zcr,Zct,Zcu,Zcz,Zda,Zdb,Zdd,Zdf,Zdg,Zdh,Q2,Q3,Q0,Q1,Zdi,Zdl,decide_true,eq_self,Q6,Q5,h3,e1',ev2,t1,r1,hw]
  ·rw [List.append_assoc] at g4
   exact g4
theorem aVu (a b:Int):aJj false [.int .i64 a,.int .i64 b]=some (.int .i64 (min a b)):=by
 simp only [aJj,amm]
 by_cases h:a≤b
 ·rw [Int.min_eq_left h];simp;omega
 ·rw [Int.min_eq_right (by omega)];simp;omega
theorem aV9 {h:aA0} {c:Nat} {w:AV} {l:List UInt8} {b:Bool} (ec:h[c]?=some (.arr 0 1 true [[.ptr r 0 0 0]])) (hl:LiB l w) (er:h[r]?=some (rdO w b)):lim G0.cfg (.func 22) [.ptr c 0 0 0] h=some (.int .i64 l.length,h):=by
 refine aAW rfl aKO 1 ?_
 have l0:aAd h 1 false (.ptr c 0 0 0)=some (.ptr r 0 0 0):=by rw [aAS h 1 c 0 0 0 false 1 true _ _ ec rfl];rfl
 have l1:=aOg er
 have nl:=hl.len
 rw [aKL]
 simp only [Zaf,Zag,Zam,Zan,Zao,Zbc,Zbm,Zbo,Zbs,Zcc,Zcd,Zck,Zcy,Zcz,Zda,Zdb,Q2,Q3,Q0,Q1,Option.map_some,Zeb,Q4,Q7,Nat.reduceAdd,Nat.reduceSub,eq_self,Q4,Q7,Q8,List.replicate_zero,Q6,Q5,l0,aBD,l1,nl,aA5,aA4,aA8]
theorem aUi {h:aA0} {c:Nat} {w:AV} {s:List UInt8 × Bool} (hl:LiB s.1 w) (hn:s.1.length≤40000) (er:h[r]?=some (rdO w s.2)) (hc:c≠r) (ec:h[c]?=some (.arr 0 1 true [[.ptr r 0 0 0]])) :
  ∃ (w' v':AV) (q':Option Nat) (h':aA0),lim G0.cfg (.func 21) [.fn (.func 22) [] [.ptr c 0 0 0],.fn (.func 19) [.ptr r 0 0 0] []] h=some (v',h') ∧
   LiB (aE5 s).2.1 w'∧h'[r]?=some (rdO w' (aE5 s).2.2)∧aAi 1 (eIs (aE5 s).1) v' h' q'∧(∀ i,q'=some i→h.length≤i)∧h.length≤h'.length∧(∀ (j:Nat) (o:AObj),j≠r→h[j]?=some o→h'[j]?=some o):=by
 obtain ⟨w1,lw,e1⟩:=aI7 hl (by omega) er
 have e1':lim G0.cfg (.func 19) [.ptr r 0 0 0] h=some (.int .i64 (aAH s).1,h.set r (rdO w1 (aAH s).2.2)):=e1
 obtain ⟨h1,hh1⟩:∃ h1,h1=h.set r (rdO w1 (aAH s).2.2):=⟨_,rfl⟩
 rw [← hh1] at e1'
 have er1:h1[r]?=some (rdO w1 (aAH s).2.2):=by rw [hh1];exact aAh er
 have f1:∀ (j:Nat) (o:AObj),j≠r→h[j]?=some o→h1[j]?=some o:=fun j o hj e=>by rw [hh1];exact aAk e (Ne.symm hj)
 have ln1:h1.length=h.length:=by rw [hh1];simp
 have e2:=aV9 (f1 c _ hc ec) lw er1
 have b1:=aFm s
 have wl:IntKind.i64.wrap (((aAH s).2.1.length:Int)+1)=(((aAH s).2.1.length+1:Nat):Int):=by rw [w64 (by omega) (by omega)];omega
 have em:=aVu (aAH s).1 (((aAH s).2.1.length+1:Nat):Int)
 have eM:min ((aAH s).1:Int) (((aAH s).2.1.length+1:Nat):Int)=((min (aAH s).1 ((aAH s).2.1.length+1):Nat):Int):=by omega
 rw [eM] at em
 obtain ⟨w',v',q',h',g1,g2,g3,g4,g5,g6,g7⟩:=aV0 (N:=100000) (B:=h1.length) (aBz er1) 40000 (by omega) ((min (aAH s).1 ((aAH s).2.1.length+1):Nat):Int) (min (aAH s).1 ((aAH s).2.1.length+1)) 0 100000 (aAH s).2 w1 .nilS [] none h1 (by omega) (by omega) (by omega) (by omega) lw er1 (aAi.nil 1 _) rfl (fun _ e=>by cases e) (Nat.le_refl _)
 rw [z0] at g1
 rw [Q5] at g4
 refine ⟨w',v',q',h',aAW rfl aM2 100000 ?_,g2,g3,g4,fun i e=>by have:=g5 i e;omega,by omega,fun j o hj e=>g7 j o (by rw [ln1];exact aBz e) hj (f1 j o hj e)⟩
 rw [aM1]
 simp only [Zaf,Zag,Zai,Zaj,Zak,Zam,Zan,Zao,Zat,Zax,Zbc,Zbd,Zbm,Zbo,Zbu,Zcp,Zct,Zcu,Zcy,Zcz,Zda,Zdb,Zdd,Zde,Zdf,Zdg,Zdh,Q2,Q3,Q0,Q1,Option.map_some,Zdi,Q4,Q7,Nat.reduceAdd,Nat.reduceSub,eq_self,Q4,Q7,Q8,List.replicate_zero,Q6,Q5,e1',e2,wl,em,g1,aA5,aA4,aA8]
end
def FrL (B:Nat):List (List Int)→List AV→aA0→Prop
 | [],[],_=>True
 | x::xs,v::vs,h=>(∃ q,aAi 1 (eIs x) v h q∧∀ i,q=some i→B≤i)∧FrL B xs vs h
 | _,_,_=>False
theorem FrL.frame {B:Nat} {h h':aA0} (hf:∀ (j:Nat) (o:AObj),B≤j→h[j]?=some o→h'[j]?=some o):∀ (xs:List (List Int)) (vs:List AV),FrL B xs vs h→FrL B xs vs h'
 | [],[],_=>trivial
 | x::xs,v::vs,⟨⟨q,h1,h2⟩,h3⟩=>⟨⟨q,h1.frame (fun i o e g=>hf i o (h2 i e) g),h2⟩,FrL.frame hf xs vs h3⟩
 | [],_::_,h=>h.elim
 | _::_,[],h=>h.elim
theorem FrL.snoc {B:Nat} {h:aA0} {x:List Int} {v:AV} {q:Option Nat} (ho:aAi 1 (eIs x) v h q) (hq:∀ i,q=some i→B≤i):∀ (xs:List (List Int)) (vs:List AV),FrL B xs vs h→FrL B (xs++[x]) (vs++[v]) h
 | [],[],_=>⟨⟨q,ho,hq⟩,trivial⟩
 | _::xs,_::vs,⟨a,b⟩=>⟨a,FrL.snoc ho hq xs vs b⟩
 | [],_::_,h=>h.elim
 | _::_,[],h=>h.elim
theorem aUI {h:aA0} {P:Nat} {pre post:List AV} {v:AV} {n:Nat} (e:h[P]?=some (.arr 0 n true [pre++.nilS::post])) (hc:cellsOf v=[v]∧aAo v=true):aAw h 1 (.ptr P 0 0 pre.length) v=some (h.set P (.arr 0 n true [pre++v::post])):=by
 rw [aHm h 1 P 0 0 pre.length _ n true _ _ e rfl (by rw [hc.1];rfl) (by simp) (by rw [hc.1];simp [hc.2])]
 rw [hc.1]
 have:aAy (pre++.nilS::post) pre.length [v]=pre++v::post:=by
  simp [aAy]
 rw [this];rfl
section
variable {r c P Q B N : Nat}
theorem aUH (hrc:c≠r) (hrP:P≠r) (hcP:c≠P) (hQr:Q≠r) (hQP:Q≠P) (hB1:r < B) (hB2:P < B) (t2:AV) (p0:List AV) (hp0:p0.length=2) :
  ∀ (d j m:Nat) (s:List UInt8 × Bool) (w:AV) (xs:List (List Int)) (vs:List AV) (h:aA0),8=j+d→d < m→s.1.length≤40000→LiB s.1 w→h[r]?=some (rdO w s.2)→h[c]?=some (.arr 0 1 true [[.ptr r 0 0 0]])→h[Q]?=some (.arr 0 1 true (aJK P)) →
   h[P]?=some (.arr 0 10 true [p0++vs++List.replicate d .nilS])→vs.length=j→FrL B xs vs h→B≤h.length →
  ∃ (w':AV) (vs':List AV) (h':aA0),aAp (aA7 (lim G0.cfg) N aDc) m ⟨(J::J::t2::J::J::J::J::.ptr c 0 0 0::.fn (.func 19) [.ptr r 0 0 0] []::.ptr P 0 0 0::J::J::J::J::J::J::J::J::J::J::J::J::J::J::J::J::J::J::J::J::J::J::J::J::J::J::J::J::J::J::J::J::J::J::J::J::J::J::J::J::J::J::J::J::J::J::J::J::J::J::J::J::J::J::J::J::J::J::J::.hsl Q 0 0 8 none::.int .i64 8::.int .i64 j::J::J::J::J::J::J::J::J::J::J::J::J::J::J::J::J::J::J::J::J::J::J::J::J::J::J::J::[]),h⟩=some (.exit 1,⟨(J::J::t2::J::J::J::J::.ptr c 0 0 0::J::.ptr P 0 0 0::J::J::J::J::J::J::J::J::J::J::J::J::J::J::J::J::J::J::J::J::J::J::J::J::J::J::J::J::J::J::J::J::J::J::J::J::J::J::J::J::J::J::J::J::J::J::J::J::J::J::J::J::J::J::J::J::J::J::J::J::J::J::J::J::J::J::J::J::J::J::J::J::J::J::J::J::J::J::J::J::J::J::J::J::J::J::J::J::J::[]),h'⟩) ∧
   LiB (aBT d s).2.1 w'∧h'[r]?=some (rdO w' (aBT d s).2.2)∧h'[P]?=some (.arr 0 10 true [p0++vs'])∧vs'.length=8∧FrL B (xs++(aBT d s).1) vs' h'∧(∀ (j:Nat) (o:AObj),j≠r→j≠P→h[j]?=some o→h'[j]?=some o):=by
 intro d
 induction d with
 | zero =>
  intro j m s w xs vs h h1 h2 hs hl er ec eQ eP lv fr hB
  obtain ⟨m,rfl⟩:∃ q,m=q+1:=⟨m - 1,by omega⟩
  have h3:¬ ((j:Int) < 8):=by omega
  refine ⟨w,vs,h,?_,hl,er,by simpa using eP,by omega,by simp only [aBT,List.append_nil];exact fr,fun _ _ _ _ e=>e⟩
  simp only [aAc,aGA,Zaf,Zag,Zah,Zak,Zal,Zan,Zao,Zap,Zaw,Zaz,Zbc,Zbm,Zbu,Zcz,Zdb,Zdf,Zdg,Zdh,Q2,Q3,Q0,Q1,Zdl,decide_false,eq_self,h3]
 | succ d ih =>
  intro j m s w xs vs h h1 h2 hs hl er ec eQ eP lv fr hB
  obtain ⟨m,rfl⟩:∃ q,m=q+1:=⟨m - 1,by omega⟩
  have h3:(j:Int) < 8:=by omega
  have hw:=aB6 (n:=j) (by omega)
  have ix:=aBq (c:=none) (n:=8) eQ (k:=.i64) (j:=j) (by omega)
  have lp:aAd h 1 false (.ptr Q 0 j 0)=some (.ptr P 0 0 (2+j)):=by rw [aAS h 1 Q 0 j 0 false 1 true _ _ eQ (aRC P j (by omega))];rfl
  obtain ⟨w1,v1,q1,h1',e1,lw,er1,ow,hq,ln,fm⟩:=aUi hl hs er hrc ec
  have eP1:=fm P _ hrP eP
  have pl:(p0++vs).length=2+j:=by rw [List.length_append,hp0,lv]
  rw [Q8] at eP1
  have sp:=aUI (v:=v1) eP1 ow.cell
  rw [pl] at sp
  obtain ⟨h2',hh2⟩:∃ h2',h2'=h1'.set P (.arr 0 10 true [p0++vs++v1::List.replicate d .nilS]):=⟨_,rfl⟩
  rw [← hh2] at sp
  have f2:∀ (k:Nat) (o:AObj),k≠P→h1'[k]?=some o→h2'[k]?=some o:=fun k o hk e=>by rw [hh2];exact aAk e (Ne.symm hk)
  have ln2:h2'.length=h1'.length:=by rw [hh2];simp
  have b1:=aNT s
  obtain ⟨w',vs',h',g1,g2,g3,g4,g5,g6,g7⟩:=ih (j+1) m (aE5 s).2 w1 (xs++[(aE5 s).1]) (vs++[v1]) h2' (by omega) (by omega) (by omega) lw (f2 r _ (Ne.symm hrP) er1) (f2 c _ hcP (fm c _ hrc ec)) (f2 Q _ hQP (fm Q _ hQr eQ))
   (by rw [hh2,aAh eP1];simp) (by simp [lv])
   (FrL.snoc (ow.frame (fun i o e g=>f2 i o (by have:=hq i e;omega) g)) (fun i e=>by have:=hq i e;omega) _ _ (FrL.frame (fun k o hk e=>f2 k o (by omega) (fm k o (by omega) e)) _ _ fr)) (by omega)
  refine ⟨w',vs',h',?_,g2,g3,g4,g5,?_,fun k o hk hk2 e=>g7 k o hk hk2 (f2 k o hk2 (fm k o hk e))⟩
  ·rw [← g1]
   simp only [aAc,aGA,Zae,Zaf,Zag,Zah,Zai,Zak,Zan,Zao,Zar,Zav,Zay,Zbc,Zbd,Zbe,Zbm,Zbo,Zbs,Zbt,Zbu,Zbx,Zcd,Zcf,Zct,Zcu,Zcz,Zda,Zdb,Zdc,Zdd,Zde,Zdf,Zdg,Zdh,Q2,Q3,Q0,Q1,Zdi,Zdl,decide_true,eq_self,Q6,Q5,h3,ix,lp,e1,aBD,sp,hw]
  ·rw [List.append_assoc] at g6
   exact g6
end
end Go.Proofs.Ytgeedikghjcebaa.Ai
