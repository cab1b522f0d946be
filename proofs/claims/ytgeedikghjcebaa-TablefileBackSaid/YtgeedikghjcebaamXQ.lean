/- The reference's table: read out of a packed one. -/
import Derived.Test.YtgeedikghjcebaamXP
namespace Go.Proofs.Ytgeedikghjcebaa.Ai
open Go Go.Proofs
open AV renaming junk → J
open List renaming getD_cons_zero → Q0, getD_cons_succ → Q1, set_cons_zero → Q2, set_cons_succ → Q3, range'_succ → Q4, nil_append → Q5, cons_append → Q7, append_assoc → Q8, append_nil → Z0
open Bool renaming false_and → Q6, true_and → Q9
set_option linter.unusedVariables false
set_option linter.unusedSimpArgs false
set_option maxRecDepth 10000
set_option maxHeartbeats 4000000
def okG (p:PackD) (s i d:Nat):Bool:=(List.range' i d).all fun (k:Nat)=>decide (0≤atD p.g s k) && decide (atD p.g s k≤(p.n:Int))
def aH3 (p:PackD) (tm nt s d:Nat):Bool:=(List.range' s d).all fun k=>okA p k 0 tm && okG p k 0 nt
section
variable {p : PackD} {ca cg : List AV} {B : Nat}
theorem aJT (hA:RT p.a ca) (hG:RT p.g cg) (h:aA0) (e:h[0]?=some (.arr 0 10 true [[.int .i64 p.tms,.int .i64 p.nts]++ca++cg])):(∃ w,aAc h 1 false (.ptr 0 0 0 2)=some w∧Li p.a.row w)∧∃ w,aAc h 1 false (.ptr 0 0 0 6)=some w∧Li p.g.row w:=by
 obtain ⟨a1,a2,a3,a4,rfl,q1,_,_,_⟩:=hA
 obtain ⟨b1,b2,b3,b4,rfl,q2,_,_,_⟩:=hG
 exact ⟨⟨a1,by rw [aAV h 1 0 0 0 2 false 10 true _ _ e rfl];rfl,q1⟩,b1,by rw [aAV h 1 0 0 0 6 false 10 true _ _ e rfl];rfl,q2⟩
theorem aUh (hA:RT p.a ca) (hG:RT p.g cg) (ok:RtOk p.a) (s tm N:Nat) (htm:tm≤1000) (etm:p.tms=tm) (hB:3≤B):∀ (d i m:Nat) (xs:List (List (Int × Int))) (h:aA0) (w:AV) (q:Option Nat),tm=i+d→d < m→h[0]?=some (.arr 0 10 true [[.int .i64 p.tms,.int .i64 p.nts]++ca++cg])→h[1]?=some (.arr 0 2 true [[.nilS,.nilS]])→aAi 1 (eCs xs) w h q→(∀ i,q=some i→B≤i)→B≤h.length→xs.length=i →
  (okA p s i d=true→∃ (h':aA0) (w':AV) (q':Option Nat),aAu (aA7 (lim G0.cfg) N aCr) m ⟨(J::.ptr 0 0 0 0::.ptr 1 0 0 0::J::.ptr 2 0 0 0::.int .i64 s::w::.int .i64 i::J::J::J::J::J::J::J::J::J::J::J::J::J::J::J::J::J::J::J::J::J::J::J::J::J::J::J::J::J::J::J::J::J::J::J::J::J::J::J::J::J::J::J::J::J::J::J::J::J::J::J::J::J::J::J::J::J::J::J::J::J::J::J::J::J::J::J::J::J::J::J::J::J::J::J::J::J::J::J::J::J::J::J::J::J::J::J::J::J::J::J::J::J::J::J::J::J::J::J::J::J::J::J::J::J::[]),h⟩=some (.exit 2,⟨(J::.ptr 0 0 0 0::.ptr 1 0 0 0::J::.ptr 2 0 0 0::.int .i64 s::w'::J::J::J::J::J::J::J::J::J::J::J::J::J::J::J::J::J::J::J::J::J::J::J::J::J::J::J::J::J::J::J::J::J::J::J::J::J::J::J::J::J::J::J::J::J::J::J::J::J::J::J::J::J::J::J::J::J::J::J::J::J::J::J::J::J::J::J::J::J::J::J::J::J::J::J::J::J::J::J::J::J::J::J::J::J::J::J::J::J::J::J::J::J::J::J::J::J::J::J::J::J::J::J::J::J::J::[]),h'⟩) ∧
   aAi 1 (eCs (xs++aEd p s i d)) w' h' q'∧(∀ i,q'=some i→B≤i)∧B≤h'.length∧(∀ (j:Nat) (o:AObj),j < B→h[j]?=some o→h'[j]?=some o)) ∧
  (okA p s i d=false→∃ h',aAu (aA7 (lim G0.cfg) N aCr) m ⟨(J::.ptr 0 0 0 0::.ptr 1 0 0 0::J::.ptr 2 0 0 0::.int .i64 s::w::.int .i64 i::J::J::J::J::J::J::J::J::J::J::J::J::J::J::J::J::J::J::J::J::J::J::J::J::J::J::J::J::J::J::J::J::J::J::J::J::J::J::J::J::J::J::J::J::J::J::J::J::J::J::J::J::J::J::J::J::J::J::J::J::J::J::J::J::J::J::J::J::J::J::J::J::J::J::J::J::J::J::J::J::J::J::J::J::J::J::J::J::J::J::J::J::J::J::J::J::J::J::J::J::J::J::J::J::J::[]),h⟩=some (.ret,⟨(J::J::.ptr 1 0 0 0::.bool false::J::J::J::J::J::J::J::J::J::J::J::J::J::J::J::J::J::J::J::J::J::J::J::J::J::J::J::J::J::J::J::J::J::J::J::J::J::J::J::J::J::J::J::J::J::J::J::J::J::J::J::J::J::J::J::J::J::J::J::J::J::J::J::J::J::J::J::J::J::J::J::J::J::J::J::J::J::J::J::J::J::J::J::J::J::J::J::J::J::J::J::J::J::J::J::J::J::J::J::J::J::J::J::J::J::J::J::J::J::[]),h'⟩)∧h'[1]?=some (.arr 0 2 true [[.nilS,.nilS]])):=by
 intro d
 induction d with
 | zero =>
  intro i m xs h w q h1 h2 e0 e1 ow tv lb lx
  obtain ⟨m,rfl⟩:∃ q,m=q+1:=⟨m - 1,by omega⟩
  have h3:¬ ((i:Int) < tm):=by omega
  have lt:=(aCb hA hG h e0).2.2.1
  rw [etm] at lt
  have r0:aEd p s i 0=[]:=rfl
  rw [r0,Z0]
  refine ⟨fun _=>⟨h,w,q,?_,ow,tv,lb,fun _ _ _ e=>e⟩,fun e=>(by cases e)⟩
  simp only [aAd,aGI,Zaf,Zag,Zah,Zak,Zal,Zan,Zao,Zap,Zaw,Zaz,Zbc,Zbm,Zbo,Zbs,Zbu,Zcc,Zcz,Zdb,Zdf,Zdg,Zdh,Q2,Q3,Q0,Q1,Zdl,Zeb,decide_false,Nat.reduceAdd,eq_self,lt,h3]
 | succ d ih =>
  intro i m xs h w q h1 h2 e0 e1 ow tv lb lx
  obtain ⟨m,rfl⟩:∃ q,m=q+1:=⟨m - 1,by omega⟩
  have h3':(i:Int) < tm:=by omega
  have hw:=aBb (n:=i) (by omega)
  have fat:=fun H=>aVx hA ok.l1 ok.l2 ok.l3 ok.b1 s i (by omega) H
  have lt:=(aCb hA hG h e0).2.2.1
  rw [etm] at lt
  have la:=(aCb hA hG h e0).1
  obtain ⟨x,hx⟩:∃ x,x=atD p.a s i:=⟨_,rfl⟩
  have xb:=ok.at s i
  rw [← hx] at fat xb
  have fac:=aWl x xb
  have o1:okA p s i (d+1)=((aFV x).isSome && okA p s (i+1) d):=by unfold okA;rw [Q4,List.all_cons,← hx]
  have o2:aEd p s i (d+1)=(aFV x).getD []::aEd p s (i+1) d:=by unfold aEd;rw [Q4,List.map_cons,← hx]
  rw [o1,o2]
  cases ea:aFV x with
  | none =>
   rw [ea] at fac
   have fac':∀ H,lim G0.cfg (.func 45) [.int .i64 x] H=some (.tup [.nilS,.bool false],H):=fac
   have f0:aCK [.nilS,.nilS] []=some (.agg [.nilS,.nilS]):=rfl
   have st:aAw h 2 (.ptr 1 0 0 0) (.agg [.nilS,.nilS])=some (h.set 1 (.arr 0 2 true [[.nilS,.nilS]])):=aB4 (b:=true) e1 rfl rfl rfl rfl
   refine ⟨fun e=>(by cases e),fun _=>⟨h.set 1 (.arr 0 2 true [[.nilS,.nilS]]),?_,aAm e1⟩⟩
   simp only [aAd,aGI,Zae,Zaf,Zag,Zah,Zai,Zak,Zam,Zan,Zao,Zaq,Zas,Zav,Zba,Zbc,Zbd,Zbe,Zbm,Zbo,Zbs,Zbt,Zbu,Zbv,Zcc,Zcj,Zcq,Zct,Zcu,Zcz,Zda,Zdb,Zdc,Zdd,Zde,Zdf,Zdg,Zdh,Q2,Q3,Q0,Q1,Zdl,Zdv,Zeb,Zeq,decide_true,Bool.not_false,List.getElem?_cons_zero,List.getElem?_cons_succ,Nat.reduceAdd,eq_self,Q7,Q5,lt,h3',la,fat,fac',evp,f0,st]
  | some l =>
   rw [ea,aOq] at fac
   obtain ⟨iv,ver1,H1,r1,r2,r3,r4,r5⟩:=ow.push true (c:=[aGU l]) rfl (by simp [(aGG l).cell.2]) (aQP _) 24 (by omega) (by rw [aIb];omega)
   rw [aIb] at r1 r2
   rw [← aPm] at r2
   have tiv:B≤iv:=by
    rcases r4 with g | ⟨_,g⟩
    ·exact tv iv g
    ·omega
   obtain ⟨vvx,hvx⟩:∃ x,x=AV.hsl iv ver1 0 (xs.length+1) none:=⟨_,rfl⟩
   rw [← hvx] at r1 r2
   obtain ⟨k1,k2⟩:=ih (i+1) m (xs++[l]) H1 vvx (some iv) (by omega) (by omega) (r3 0 _ e0 (fun f=>by have:=tv 0 f;omega)) (r3 1 _ e1 (fun f=>by have:=tv 1 f;omega)) r2 (fun i f=>by cases f;exact tiv) (by omega) (by simp [lx])
   have t1:=fun h:aA0=>aDe h .nilS (aGU l) (aMZ l) (aGG l).cell.1
   have run:aAu (aA7 (lim G0.cfg) N aCr) (m+1) ⟨(J::.ptr 0 0 0 0::.ptr 1 0 0 0::J::.ptr 2 0 0 0::.int .i64 s::w::.int .i64 i::J::J::J::J::J::J::J::J::J::J::J::J::J::J::J::J::J::J::J::J::J::J::J::J::J::J::J::J::J::J::J::J::J::J::J::J::J::J::J::J::J::J::J::J::J::J::J::J::J::J::J::J::J::J::J::J::J::J::J::J::J::J::J::J::J::J::J::J::J::J::J::J::J::J::J::J::J::J::J::J::J::J::J::J::J::J::J::J::J::J::J::J::J::J::J::J::J::J::J::J::J::J::J::J::J::[]),h⟩=aAu (aA7 (lim G0.cfg) N aCr) m ⟨(J::.ptr 0 0 0 0::.ptr 1 0 0 0::J::.ptr 2 0 0 0::.int .i64 s::vvx::.int .i64 (i+1:Nat)::J::J::J::J::J::J::J::J::J::J::J::J::J::J::J::J::J::J::J::J::J::J::J::J::J::J::J::J::J::J::J::J::J::J::J::J::J::J::J::J::J::J::J::J::J::J::J::J::J::J::J::J::J::J::J::J::J::J::J::J::J::J::J::J::J::J::J::J::J::J::J::J::J::J::J::J::J::J::J::J::J::J::J::J::J::J::J::J::J::J::J::J::J::J::J::J::J::J::J::J::J::J::J::J::J::[]),H1⟩:=by
    simp only [aAd,aGI,Zae,Zaf,Zag,Zah,Zai,Zak,Zan,Zao,Zar,Zav,Zaw,Zay,Zbc,Zbd,Zbm,Zbo,Zbs,Zbu,Zbv,Zcc,Zcj,Zcm,Zcr,Zct,Zcu,Zcz,Zda,Zdb,Zdd,Zde,Zdf,Zdg,Zdh,Q2,Q3,Q0,Q1,Zdi,Zdl,Zdv,Zeb,Zeq,decide_true,Bool.not_true,List.getElem?_cons_zero,List.getElem?_cons_succ,Nat.reduceAdd,eq_self,Q7,Q5,lt,h3',la,fat,fac,ev2,t1,r1,hw]
   rw [run,Option.isSome_some,Q9,Option.getD_some]
   refine ⟨fun hk => ?_,k2⟩
   obtain ⟨h',w',q',e,g1,g2,g3,g4⟩:=k1 hk
   refine ⟨h',w',q',e,?_,g2,g3,fun j o hj e=>g4 j o hj (r3 j o e (fun f=>by have:=tv j f;omega))⟩
   rw [Q8] at g1
   exact g1
theorem aUg (hA:RT p.a ca) (hG:RT p.g cg) (ok:RtOk p.g) (s tm N:Nat) (htm:tm≤1000) (etm:p.nts=tm) (hn:p.n≤100000) (hB:3≤B) (w6:AV):∀ (d i m:Nat) (xs:List Int) (h:aA0) (w:AV) (q:Option Nat),tm=i+d→d < m→h[0]?=some (.arr 0 10 true [[.int .i64 p.tms,.int .i64 p.nts]++ca++cg])→h[1]?=some (.arr 0 2 true [[.nilS,.nilS]])→aAi 1 (eIs xs) w h q→(∀ i,q=some i→B≤i)→B≤h.length→xs.length=i →
  (okG p s i d=true→∃ (h':aA0) (w':AV) (q':Option Nat),aAu (aA7 (lim G0.cfg) N aCq) m ⟨(J::.ptr 0 0 0 0::.ptr 1 0 0 0::J::.ptr 2 0 0 0::.int .i64 s::w6::J::J::J::w::.int .i64 i::J::J::J::J::J::J::J::J::J::J::J::J::J::J::J::J::J::J::J::J::J::J::J::J::J::J::J::J::J::J::J::J::J::J::J::J::J::J::J::J::J::J::J::J::J::J::J::J::J::J::J::J::J::J::J::J::J::J::J::J::J::J::J::J::J::J::J::J::J::J::J::J::J::J::J::J::J::J::J::J::J::J::J::J::J::J::J::J::J::J::J::J::J::J::J::J::J::J::J::J::J::[]),h⟩=some (.exit 4,⟨(J::.ptr 0 0 0 0::.ptr 1 0 0 0::J::.ptr 2 0 0 0::.int .i64 s::w6::J::J::J::w'::J::J::J::J::J::J::J::J::J::J::J::J::J::J::J::J::J::J::J::J::J::J::J::J::J::J::J::J::J::J::J::J::J::J::J::J::J::J::J::J::J::J::J::J::J::J::J::J::J::J::J::J::J::J::J::J::J::J::J::J::J::J::J::J::J::J::J::J::J::J::J::J::J::J::J::J::J::J::J::J::J::J::J::J::J::J::J::J::J::J::J::J::J::J::J::J::J::J::J::J::J::J::[]),h'⟩) ∧
   aAi 1 (eIs (xs++aDI p s i d)) w' h' q'∧(∀ i,q'=some i→B≤i)∧B≤h'.length∧(∀ (j:Nat) (o:AObj),j < B→h[j]?=some o→h'[j]?=some o)) ∧
  (okG p s i d=false→∃ h',aAu (aA7 (lim G0.cfg) N aCq) m ⟨(J::.ptr 0 0 0 0::.ptr 1 0 0 0::J::.ptr 2 0 0 0::.int .i64 s::w6::J::J::J::w::.int .i64 i::J::J::J::J::J::J::J::J::J::J::J::J::J::J::J::J::J::J::J::J::J::J::J::J::J::J::J::J::J::J::J::J::J::J::J::J::J::J::J::J::J::J::J::J::J::J::J::J::J::J::J::J::J::J::J::J::J::J::J::J::J::J::J::J::J::J::J::J::J::J::J::J::J::J::J::J::J::J::J::J::J::J::J::J::J::J::J::J::J::J::J::J::J::J::J::J::J::J::J::J::J::[]),h⟩=some (.ret,⟨(J::J::.ptr 1 0 0 0::.bool false::J::J::J::J::J::J::J::J::J::J::J::J::J::J::J::J::J::J::J::J::J::J::J::J::J::J::J::J::J::J::J::J::J::J::J::J::J::J::J::J::J::J::J::J::J::J::J::J::J::J::J::J::J::J::J::J::J::J::J::J::J::J::J::J::J::J::J::J::J::J::J::J::J::J::J::J::J::J::J::J::J::J::J::J::J::J::J::J::J::J::J::J::J::J::J::J::J::J::J::J::J::J::J::J::J::J::J::J::J::[]),h'⟩)∧h'[1]?=some (.arr 0 2 true [[.nilS,.nilS]])):=by
 intro d
 induction d with
 | zero =>
  intro i m xs h w q h1 h2 e0 e1 ow tv lb lx
  obtain ⟨m,rfl⟩:∃ q,m=q+1:=⟨m - 1,by omega⟩
  have h3:¬ ((i:Int) < tm):=by omega
  have lt:=(aCb hA hG h e0).2.2.2
  rw [etm] at lt
  have r0:aDI p s i 0=[]:=rfl
  rw [r0,Z0]
  refine ⟨fun _=>⟨h,w,q,?_,ow,tv,lb,fun _ _ _ e=>e⟩,fun e=>(by cases e)⟩
  simp only [aAd,aFb,Zaf,Zag,Zah,Zak,Zal,Zan,Zao,Zap,Zaw,Zaz,Zbc,Zbm,Zbo,Zbs,Zbu,Zcc,Zcz,Zdb,Zdf,Zdg,Zdh,Q2,Q3,Q0,Q1,Zdl,Zeb,decide_false,Nat.reduceAdd,eq_self,lt,h3]
 | succ d ih =>
  intro i m xs h w q h1 h2 e0 e1 ow tv lb lx
  obtain ⟨m,rfl⟩:∃ q,m=q+1:=⟨m - 1,by omega⟩
  have h3':(i:Int) < tm:=by omega
  have hw:=aBb (n:=i) (by omega)
  have fat:=fun H=>aVx hG ok.l1 ok.l2 ok.l3 ok.b1 s i (by omega) H
  have lt:=(aCb hA hG h e0).2.2.2
  rw [etm] at lt
  have la:=(aCb hA hG h e0).2.1
  obtain ⟨⟨wr,lr,qr⟩,_⟩:=aJT hA hG h e0
  have nr:=qr.len
  have hnr:p.a.row.length=p.n:=rfl
  rw [hnr] at nr
  obtain ⟨x,hx⟩:∃ x,x=atD p.g s i:=⟨_,rfl⟩
  rw [← hx] at fat
  have o1:okG p s i (d+1)=((decide (0≤x) && decide (x≤(p.n:Int))) && okG p s (i+1) d):=by unfold okG;rw [Q4,List.all_cons,← hx]
  have o2:aDI p s i (d+1)=IntKind.i64.wrap (x - 1)::aDI p s (i+1) d:=by unfold aDI;rw [Q4,List.map_cons,← hx]
  rw [o1,o2]
  have f0:aCK [.nilS,.nilS] []=some (.agg [.nilS,.nilS]):=rfl
  have st:aAw h 2 (.ptr 1 0 0 0) (.agg [.nilS,.nilS])=some (h.set 1 (.arr 0 2 true [[.nilS,.nilS]])):=aB4 (b:=true) e1 rfl rfl rfl rfl
  by_cases c1:x < 0
  case pos =>
   rw [decide_eq_false (by omega:¬ 0≤x),Q6,Q6]
   refine ⟨fun e=>(by cases e),fun _=>⟨h.set 1 (.arr 0 2 true [[.nilS,.nilS]]),?_,aAm e1⟩⟩
   simp only [aAd,aFb,Zae,Zaf,Zag,Zah,Zai,Zak,Zam,Zan,Zao,Zaq,Zas,Zav,Zba,Zbc,Zbd,Zbe,Zbh,Zbk,Zbm,Zbn,Zbo,Zbp,Zbs,Zbt,Zbu,Zcc,Zcq,Zct,Zcu,Zcz,Zda,Zdb,Zdc,Zdd,Zde,Zdf,Zdg,Zdh,Q2,Q3,Q0,Q1,Zdl,Zeb,decide_true,Nat.reduceAdd,eq_self,Q7,Q5,lt,h3',la,fat,c1,evp,f0,st]
  case neg =>
  by_cases c2:(p.n:Int) < x
  case pos =>
   rw [decide_eq_false (by omega:¬ x≤(p.n:Int)),Bool.and_false,Q6]
   refine ⟨fun e=>(by cases e),fun _=>⟨h.set 1 (.arr 0 2 true [[.nilS,.nilS]]),?_,aAm e1⟩⟩
   simp only [aAd,aFb,Zae,Zaf,Zag,Zah,Zai,Zak,Zam,Zan,Zao,Zaq,Zas,Zav,Zba,Zbc,Zbd,Zbe,Zbg,Zbl,Zbm,Zbn,Zbo,Zbp,Zbs,Zbt,Zbu,Zcc,Zck,Zcq,Zct,Zcu,Zcz,Zda,Zdb,Zdc,Zdd,Zde,Zdf,Zdg,Zdh,Q2,Q3,Q0,Q1,Zdl,Zdn,Zeb,decide_true,decide_false,Nat.reduceAdd,eq_self,Q7,Q5,lt,h3',la,fat,c1,lr,nr,c2,evp,f0,st]
  case neg =>
  rw [decide_eq_true (by omega:0≤x),decide_eq_true (by omega:x≤(p.n:Int)),Q9,Q9]
  obtain ⟨y,hy⟩:∃ y,y=IntKind.i64.wrap (x - 1):=⟨_,rfl⟩
  rw [← hy]
  obtain ⟨iv,ver1,H1,r1,r2,r3,r4,r5⟩:=ow.push true (c:=[.int .i64 y]) rfl rfl (aC0 _) 8 (by omega) (by rw [Zet];omega)
  rw [Zet] at r1 r2
  rw [← aDk] at r2
  have tiv:B≤iv:=by
   rcases r4 with g | ⟨_,g⟩
   ·exact tv iv g
   ·omega
  obtain ⟨vvx,hvx⟩:∃ x,x=AV.hsl iv ver1 0 (xs.length+1) none:=⟨_,rfl⟩
  rw [← hvx] at r1 r2
  obtain ⟨k1,k2⟩:=ih (i+1) m (xs++[y]) H1 vvx (some iv) (by omega) (by omega) (r3 0 _ e0 (fun f=>by have:=tv 0 f;omega)) (r3 1 _ e1 (fun f=>by have:=tv 1 f;omega)) r2 (fun i f=>by cases f;exact tiv) (by omega) (by simp [lx])
  have t1:=fun h:aA0=>aDe h (.int .i64 0) (.int .i64 y) rfl rfl
  have run:aAu (aA7 (lim G0.cfg) N aCq) (m+1) ⟨(J::.ptr 0 0 0 0::.ptr 1 0 0 0::J::.ptr 2 0 0 0::.int .i64 s::w6::J::J::J::w::.int .i64 i::J::J::J::J::J::J::J::J::J::J::J::J::J::J::J::J::J::J::J::J::J::J::J::J::J::J::J::J::J::J::J::J::J::J::J::J::J::J::J::J::J::J::J::J::J::J::J::J::J::J::J::J::J::J::J::J::J::J::J::J::J::J::J::J::J::J::J::J::J::J::J::J::J::J::J::J::J::J::J::J::J::J::J::J::J::J::J::J::J::J::J::J::J::J::J::J::J::J::J::J::J::[]),h⟩=aAu (aA7 (lim G0.cfg) N aCq) m ⟨(J::.ptr 0 0 0 0::.ptr 1 0 0 0::J::.ptr 2 0 0 0::.int .i64 s::w6::J::J::J::vvx::.int .i64 (i+1:Nat)::J::J::J::J::J::J::J::J::J::J::J::J::J::J::J::J::J::J::J::J::J::J::J::J::J::J::J::J::J::J::J::J::J::J::J::J::J::J::J::J::J::J::J::J::J::J::J::J::J::J::J::J::J::J::J::J::J::J::J::J::J::J::J::J::J::J::J::J::J::J::J::J::J::J::J::J::J::J::J::J::J::J::J::J::J::J::J::J::J::J::J::J::J::J::J::J::J::J::J::J::J::[]),H1⟩:=by
   simp only [aAd,aFb,Zae,Zaf,Zag,Zah,Zai,Zak,Zan,Zao,Zar,Zav,Zaw,Zay,Zbc,Zbd,Zbg,Zbl,Zbm,Zbn,Zbo,Zbp,Zbs,Zbu,Zcc,Zck,Zcm,Zcr,Zct,Zcu,Zcz,Zda,Zdb,Zdd,Zde,Zdf,Zdg,Zdh,Q2,Q3,Q0,Q1,Zdi,Zdj,Zdl,Zdn,Zeb,decide_true,decide_false,Nat.reduceAdd,eq_self,Q7,Q5,lt,h3',la,fat,c1,lr,nr,c2,← hy,ev2,t1,r1,hw]
  rw [run]
  refine ⟨fun hk => ?_,k2⟩
  obtain ⟨h',w',q',e,g1,g2,g3,g4⟩:=k1 hk
  refine ⟨h',w',q',e,?_,g2,g3,fun j o hj e=>g4 j o hj (r3 j o e (fun f=>by have:=tv j f;omega))⟩
  rw [Q8] at g1
  exact g1
theorem aUi (hA:RT p.a ca) (hG:RT p.g cg) (kA:RtOk p.a) (kG:RtOk p.g) (tm nt N:Nat) (htm:p.tms=tm) (hnt:p.nts=nt) (tm1:tm≤1000) (nt1:nt≤1000) (hn:p.n≤100000) (hN:2000≤N) :
  ∀ (d s m:Nat) (A:List (List (List (Int × Int)))) (G:List (List Int)) (h:aA0) (wA wG:AV) (csA csG:List (List AV)) (qA qG:Option Nat) (S:Nat→Prop),p.n=s+d→d < m→h[0]?=some (.arr 0 10 true [[.int .i64 p.tms,.int .i64 p.nts]++ca++cg])→h[1]?=some (.arr 0 2 true [[.nilS,.nilS]])→h[2]?=some (.arr 0 2 true [[wA,wG]]) →
   aAi 1 csA wA h qA→Nest eCs A csA h S→aAi 1 csG wG h qG→Nest eIs G csG h S→(∀ i,S i→3≤i∧i < h.length)→(∀ i,qA=some i→3≤i∧¬ S i)→(∀ i,qG=some i→3≤i∧¬ S i)→(∀ i,qA=some i→qG≠some i)→A.length=s→G.length=s →
  (aH3 p tm nt s d=true→∃ (h':aA0) (wA' wG':AV) (csA' csG':List (List AV)) (qA' qG':Option Nat) (S':Nat→Prop),aAu (aA7 (lim G0.cfg) N aCs) m ⟨(J::.ptr 0 0 0 0::.ptr 1 0 0 0::J::.ptr 2 0 0 0::.int .i64 s::J::J::J::J::J::J::J::J::J::J::J::J::J::J::J::J::J::J::J::J::J::J::J::J::J::J::J::J::J::J::J::J::J::J::J::J::J::J::J::J::J::J::J::J::J::J::J::J::J::J::J::J::J::J::J::J::J::J::J::J::J::J::J::J::J::J::J::J::J::J::J::J::J::J::J::J::J::J::J::J::J::J::J::J::J::J::J::J::J::J::J::J::J::J::J::J::J::J::J::J::J::J::J::J::J::J::J::[]),h⟩=some (.exit 0,⟨(J::J::.ptr 1 0 0 0::J::.ptr 2 0 0 0::J::J::J::J::J::J::J::J::J::J::J::J::J::J::J::J::J::J::J::J::J::J::J::J::J::J::J::J::J::J::J::J::J::J::J::J::J::J::J::J::J::J::J::J::J::J::J::J::J::J::J::J::J::J::J::J::J::J::J::J::J::J::J::J::J::J::J::J::J::J::J::J::J::J::J::J::J::J::J::J::J::J::J::J::J::J::J::J::J::J::J::J::J::J::J::J::J::J::J::J::J::J::J::J::J::J::J::J::[]),h'⟩) ∧
   h'[1]?=some (.arr 0 2 true [[.nilS,.nilS]])∧h'[2]?=some (.arr 0 2 true [[wA',wG']])∧aAi 1 csA' wA' h' qA'∧Nest eCs (A++aFa p tm s d) csA' h' S'∧aAi 1 csG' wG' h' qG'∧Nest eIs (G++aE1 p nt s d) csG' h' S'∧(∀ i,S' i→3≤i)∧(∀ i,qA'=some i→3≤i)∧(∀ i,qG'=some i→3≤i)) ∧
  (aH3 p tm nt s d=false→∃ h',aAu (aA7 (lim G0.cfg) N aCs) m ⟨(J::.ptr 0 0 0 0::.ptr 1 0 0 0::J::.ptr 2 0 0 0::.int .i64 s::J::J::J::J::J::J::J::J::J::J::J::J::J::J::J::J::J::J::J::J::J::J::J::J::J::J::J::J::J::J::J::J::J::J::J::J::J::J::J::J::J::J::J::J::J::J::J::J::J::J::J::J::J::J::J::J::J::J::J::J::J::J::J::J::J::J::J::J::J::J::J::J::J::J::J::J::J::J::J::J::J::J::J::J::J::J::J::J::J::J::J::J::J::J::J::J::J::J::J::J::J::J::J::J::J::J::J::[]),h⟩=some (.ret,⟨(J::J::.ptr 1 0 0 0::.bool false::J::J::J::J::J::J::J::J::J::J::J::J::J::J::J::J::J::J::J::J::J::J::J::J::J::J::J::J::J::J::J::J::J::J::J::J::J::J::J::J::J::J::J::J::J::J::J::J::J::J::J::J::J::J::J::J::J::J::J::J::J::J::J::J::J::J::J::J::J::J::J::J::J::J::J::J::J::J::J::J::J::J::J::J::J::J::J::J::J::J::J::J::J::J::J::J::J::J::J::J::J::J::J::J::J::J::J::J::J::[]),h'⟩)∧h'[1]?=some (.arr 0 2 true [[.nilS,.nilS]])):=by
 intro d
 induction d with
 | zero =>
  intro s m A G h wA wG csA csG qA qG S h1 h2 e0 e1 e2 oA nA oG nG hS hqA hqG hq lA lG
  obtain ⟨m,rfl⟩:∃ q,m=q+1:=⟨m - 1,by omega⟩
  have h3:¬ ((s:Int) < p.n):=by omega
  obtain ⟨⟨wr,lr,qr⟩,_⟩:=aJT hA hG h e0
  have nr:=qr.len
  have hnr:p.a.row.length=p.n:=rfl
  rw [hnr] at nr
  have r1:aFa p tm s 0=[]:=rfl
  have r2:aE1 p nt s 0=[]:=rfl
  rw [r1,r2,Z0,Z0]
  refine ⟨fun _=>⟨h,wA,wG,csA,csG,qA,qG,S,?_,e1,e2,oA,nA,oG,nG,fun i k=>(hS i k).1,fun i k=>(hqA i k).1,fun i k=>(hqG i k).1⟩,fun e=>(by cases e)⟩
  simp only [aAd,aFc,Zaf,Zag,Zah,Zak,Zal,Zan,Zao,Zap,Zaw,Zaz,Zbc,Zbm,Zbo,Zbs,Zbu,Zcc,Zck,Zcz,Zdb,Zdf,Zdg,Zdh,Q2,Q3,Q0,Q1,Zdl,Zeb,decide_false,Nat.reduceAdd,eq_self,lr,nr,h3]
 | succ d ih =>
  intro s m A G h wA wG csA csG qA qG S h1 h2 e0 e1 e2 oA nA oG nG hS hqA hqG hq lA lG
  obtain ⟨m,rfl⟩:∃ q,m=q+1:=⟨m - 1,by omega⟩
  have h3':(s:Int) < p.n:=by omega
  have hw:=aBb (n:=s) (by omega)
  obtain ⟨⟨wr,lr,qr⟩,_⟩:=aJT hA hG h e0
  have nr:=qr.len
  have hnr:p.a.row.length=p.n:=rfl
  rw [hnr] at nr
  have len3:3≤h.length:=by have:=aBI e2;omega
  have o1:aH3 p tm nt s (d+1)=((okA p s 0 tm && okG p s 0 nt) && aH3 p tm nt (s+1) d):=by unfold aH3;rw [Q4,List.all_cons]
  have o2:aFa p tm s (d+1)=aEd p s 0 tm::aFa p tm (s+1) d:=by unfold aFa;rw [Q4,List.map_cons]
  have o3:aE1 p nt s (d+1)=aDI p s 0 nt::aE1 p nt (s+1) d:=by unfold aE1;rw [Q4,List.map_cons]
  rw [o1,o2,o3]
  obtain ⟨k1,k2⟩:=aUh (B:=h.length) hA hG kA s tm N tm1 htm len3 tm 0 N [] h .nilS none (by omega) (by omega) e0 e1 (aAi.nil 1 _) (fun _ e=>by cases e) (Nat.le_refl _) rfl
  rw [z0,Q5] at k1
  rw [z0] at k2
  by_cases c:okA p s 0 tm=true
  case neg =>
   have c':okA p s 0 tm=false:=by simpa using c
   obtain ⟨h',e,e1'⟩:=k2 c'
   rw [c',Q6,Q6]
   refine ⟨fun e=>(by cases e),fun _=>⟨h',?_,e1'⟩⟩
   simp only [aAd,aFc,Zae,Zaf,Zag,Zah,Zai,Zaj,Zak,Zan,Zao,Zaq,Zas,Zav,Zax,Zba,Zbc,Zbm,Zbo,Zbs,Zbu,Zcc,Zck,Zcz,Zda,Zdb,Zdf,Zdg,Zdh,Q2,Q3,Q0,Q1,Zdl,Zeb,decide_true,Nat.reduceAdd,eq_self,lr,nr,h3',e]
  case pos =>
  obtain ⟨h4,wx,qx,e4,ox,bx,l4,f4⟩:=k1 c
  rw [c,Q9]
  obtain ⟨j1,j2⟩:=aUg (B:=h4.length) hA hG kG s nt N nt1 hnt hn (by omega) wx nt 0 N [] h4 .nilS none (by omega) (by omega) (f4 0 _ (by omega) e0) (f4 1 _ (by omega) e1) (aAi.nil 1 _) (fun _ e=>by cases e) (Nat.le_refl _) rfl
  rw [z0,Q5] at j1
  rw [z0] at j2
  by_cases c2:okG p s 0 nt=true
  case neg =>
   have c':okG p s 0 nt=false:=by simpa using c2
   obtain ⟨h',e,e1'⟩:=j2 c'
   rw [c',Q6]
   refine ⟨fun e=>(by cases e),fun _=>⟨h',?_,e1'⟩⟩
   simp only [aAd,aFc,Zae,Zaf,Zag,Zah,Zai,Zaj,Zak,Zan,Zao,Zaq,Zas,Zat,Zav,Zax,Zba,Zbc,Zbm,Zbo,Zbs,Zbu,Zcc,Zck,Zcz,Zda,Zdb,Zdf,Zdg,Zdh,Q2,Q3,Q0,Q1,Zdl,Zeb,decide_true,Nat.reduceAdd,eq_self,lr,nr,h3',e4,e]
  case pos =>
  obtain ⟨h5,wy,qy,e5,oy,by',l5,f5⟩:=j1 c2
  rw [c2,Q9]
  have up5:∀ (j:Nat) (o:AObj),j < h.length→h[j]?=some o→h5[j]?=some o:=fun j o hj e=>f5 j o (by omega) (f4 j o hj e)
  have qxl:∀ i,qx=some i→i < h4.length:=fun i e=>by rw [e] at ox;exact ox.lt
  have qyl:∀ i,qy=some i→i < h5.length:=fun i e=>by rw [e] at oy;exact oy.lt
  have ox5:=ox.frame (h':=h5) fun i o e k=>f5 i o (qxl i e) k
  have qAl:∀ i,qA=some i→i < h.length:=fun i e=>by rw [e] at oA;exact oA.lt
  have qGl:∀ i,qG=some i→i < h.length:=fun i e=>by rw [e] at oG;exact oG.lt
  have oA5:=oA.frame (h':=h5) fun i o e k=>up5 i o (qAl i e) k
  have oG5:=oG.frame (h':=h5) fun i o e k=>up5 i o (qGl i e) k
  have nA5:=nA.frame (h':=h5) fun i o e k=>up5 i o (hS i e).2 k
  have nG5:=nG.frame (h':=h5) fun i o e k=>up5 i o (hS i e).2 k
  have e25:=up5 2 _ (by omega) e2
  obtain ⟨S',hS'⟩:∃ S':Nat→Prop,S'=fun i=>S i∨qx=some i∨qy=some i:=⟨_,rfl⟩
  have lS':∀ i,S' i→3≤i∧i < h5.length:=fun i hs=>by
   rw [hS'] at hs
   rcases hs with hs | hs | hs
   ·have:=hS i hs;omega
   ·have:=bx i hs;have:=qxl i hs;omega
   ·have:=by' i hs;have:=qyl i hs;omega
  have nSA:∀ i,qA=some i→¬ S' i:=fun i e hs=>by
   rw [hS'] at hs
   rcases hs with hs | hs | hs
   ·exact (hqA i e).2 hs
   ·have:=bx i hs;have:=qAl i e;omega
   ·have:=by' i hs;have:=qAl i e;omega
  have nSG:∀ i,qG=some i→¬ S' i:=fun i e hs=>by
   rw [hS'] at hs
   rcases hs with hs | hs | hs
   ·exact (hqG i e).2 hs
   ·have:=bx i hs;have:=qGl i e;omega
   ·have:=by' i hs;have:=qGl i e;omega
  have nq0:∀ k,k < 3→qA≠some k∧qG≠some k:=fun k hk=>⟨fun e=>by have:=(hqA k e).1;omega,fun e=>by have:=(hqG k e).1;omega⟩
  -- the actions' row
  obtain ⟨lt2,H5a,iA,verA,H6,t2,r1,r2,r3,r4,r5⟩:=oA5.pushRow ox5.cell nA5.all 24 (by omega) (by rw [nA.len];omega) .nilS
  obtain ⟨wA',hwA⟩:∃ x,x=AV.hsl iA verA 0 (csA.length+1) none:=⟨_,rfl⟩
  rw [← hwA] at r1 r2
  have e26:=r3 2 _ e25 (nq0 2 (by omega)).1
  have lA6:aAc h5 1 false (.ptr 2 0 0 0)=some wA:=by rw [aAV h5 1 2 0 0 0 false 2 true _ _ e25 rfl];rfl
  have sA:aAw H6 1 (.ptr 2 0 0 0) wA'=some (H6.set 2 (.arr 0 2 true [[wA',wG]])):=by
   have:=r2.cell
   simp [aAw,aAx,aAe,e26,this.1,this.2]
  obtain ⟨H7,hH7⟩:∃ H,H=H6.set 2 (.arr 0 2 true [[wA',wG]]):=⟨_,rfl⟩
  rw [← hH7] at sA
  have e27:H7[2]?=some (.arr 0 2 true [[wA',wG]]):=by rw [hH7];exact aAm e26
  have f67:∀ (i:Nat) (o:AObj),i≠2→H6[i]?=some o→H7[i]?=some o:=fun i o n e=>by rw [hH7];exact aAv e n.symm
  have f57:∀ (i:Nat) (o:AObj),i≠2→qA≠some i→h5[i]?=some o→H7[i]?=some o:=fun i o n k e=>f67 i o n (r3 i o e k)
  have iA3:3≤iA:=by
   rcases r4 with k | ⟨_,k⟩
   ·exact (hqA _ k).1
   ·omega
  have oA7:=r2.frame (h':=H7) fun i o f e=>f67 i o (by cases f;omega) e
  have nA7:=((nA5.mono (S':=S') (fun i k=>by rw [hS'];exact .inl k)).push (x:=aEd p s 0 tm) ox5 (fun i k=>by rw [hS'];exact .inr (.inl k))).frame (h':=H7) fun i o k e=>f57 i o (by have:=(lS' i k).1;omega) (fun f=>nSA i f k) e
  have oG7:=oG5.frame (h':=H7) fun i o f e=>f57 i o (by have:=(hqG i f).1;omega) (fun k=>hq i k f) e
  have nG7:=((nG5.mono (S':=S') (fun i k=>by rw [hS'];exact .inl k)).push (x:=aDI p s 0 nt) oy (fun i k=>by rw [hS'];exact .inr (.inr k))).frame (h':=H7) fun i o k e=>f57 i o (by have:=(lS' i k).1;omega) (fun f=>nSA i f k) e
  have nG7':=(nG5.frame (h':=H7) fun i o k e=>f57 i o (by have:=(hS i k).1;omega) (fun f=>(hqA i f).2 k) e)
  have l7:H7.length=H6.length:=by rw [hH7,List.length_set]
  -- the gotos' row
  obtain ⟨lt3,H7a,iG,verG,H8,t3,p1,p2,p3,p4,p5⟩:=oG7.pushRow oy.cell nG7'.all 24 (by omega) (by rw [nG.len];omega) .nilS
  obtain ⟨wG',hwG⟩:∃ x,x=AV.hsl iG verG 0 (csG.length+1) none:=⟨_,rfl⟩
  rw [← hwG] at p1 p2
  have e28:=p3 2 _ e27 (nq0 2 (by omega)).2
  have lG7:aAc H7 1 false (.ptr 2 0 0 1)=some wG:=by rw [aAV H7 1 2 0 0 1 false 2 true _ _ e27 rfl];rfl
  have sG:aAw H8 1 (.ptr 2 0 0 1) wG'=some (H8.set 2 (.arr 0 2 true [[wA',wG']])):=by
   have:=p2.cell
   simp [aAw,aAx,aAe,e28,this.1,this.2]
  obtain ⟨H9,hH9⟩:∃ H,H=H8.set 2 (.arr 0 2 true [[wA',wG']]):=⟨_,rfl⟩
  rw [← hH9] at sG
  have e29:H9[2]?=some (.arr 0 2 true [[wA',wG']]):=by rw [hH9];exact aAm e28
  have f89:∀ (i:Nat) (o:AObj),i≠2→H8[i]?=some o→H9[i]?=some o:=fun i o n e=>by rw [hH9];exact aAv e n.symm
  have f79:∀ (i:Nat) (o:AObj),i≠2→qG≠some i→H7[i]?=some o→H9[i]?=some o:=fun i o n k e=>f89 i o n (p3 i o e k)
  have iG3:3≤iG:=by
   rcases p4 with k | ⟨_,k⟩
   ·exact (hqG _ k).1
   ·omega
  have neAG:qG≠some iA:=fun k=>by
   rcases r4 with u | ⟨_,u⟩
   ·exact hq iA u k
   ·have:=qGl iA k;omega
  have oA9:=oA7.frame (h':=H9) fun i o f e=>f79 i o (by cases f;omega) (by cases f;exact neAG) e
  have nA9:=nA7.frame (h':=H9) fun i o k e=>f79 i o (by have:=(lS' i k).1;omega) (fun f=>nSG i f k) e
  have oG9:=p2.frame (h':=H9) fun i o f e=>f89 i o (by cases f;omega) e
  have nG9:=nG7.frame (h':=H9) fun i o k e=>f79 i o (by have:=(lS' i k).1;omega) (fun f=>nSG i f k) e
  have l9:H9.length=H8.length:=by rw [hH9,List.length_set]
  have gne:iA≠iG:=fun k=>by
   rcases p4 with u | ⟨_,u⟩
   ·exact neAG (by rw [k];exact u)
   ·have:=oA7.lt;omega
  have g0:=f79 0 _ (by omega) (nq0 0 (by omega)).2 (f57 0 _ (by omega) (nq0 0 (by omega)).1 (up5 0 _ (by omega) e0))
  have g1:=f79 1 _ (by omega) (nq0 1 (by omega)).2 (f57 1 _ (by omega) (nq0 1 (by omega)).1 (up5 1 _ (by omega) e1))
  obtain ⟨k1,k2⟩:=ih (s+1) m (A++[aEd p s 0 tm]) (G++[aDI p s 0 nt]) H9 wA' wG' (csA++[[wx]]) (csG++[[wy]]) (some iA) (some iG) S' (by omega) (by omega) g0 g1 e29 oA9 nA9 oG9 nG9 (fun i hs=>by have:=lS' i hs;omega)
   (fun i e=>by
    cases e
    rcases r4 with k | ⟨_,k⟩
    ·exact ⟨iA3,nSA _ k⟩
    ·exact ⟨iA3,fun hs=>by have:=lS' _ hs;omega⟩)
   (fun i e=>by
    cases e
    rcases p4 with k | ⟨_,k⟩
    ·exact ⟨iG3,nSG _ k⟩
    ·exact ⟨iG3,fun hs=>by have:=lS' _ hs;omega⟩)
   (fun i e f=>by cases e;cases f;exact gne rfl) (by simp [lA]) (by simp [lG])
  have run:aAu (aA7 (lim G0.cfg) N aCs) (m+1) ⟨(J::.ptr 0 0 0 0::.ptr 1 0 0 0::J::.ptr 2 0 0 0::.int .i64 s::J::J::J::J::J::J::J::J::J::J::J::J::J::J::J::J::J::J::J::J::J::J::J::J::J::J::J::J::J::J::J::J::J::J::J::J::J::J::J::J::J::J::J::J::J::J::J::J::J::J::J::J::J::J::J::J::J::J::J::J::J::J::J::J::J::J::J::J::J::J::J::J::J::J::J::J::J::J::J::J::J::J::J::J::J::J::J::J::J::J::J::J::J::J::J::J::J::J::J::J::J::J::J::J::J::J::J::[]),h⟩=aAu (aA7 (lim G0.cfg) N aCs) m ⟨(J::.ptr 0 0 0 0::.ptr 1 0 0 0::J::.ptr 2 0 0 0::.int .i64 (s+1:Nat)::J::J::J::J::J::J::J::J::J::J::J::J::J::J::J::J::J::J::J::J::J::J::J::J::J::J::J::J::J::J::J::J::J::J::J::J::J::J::J::J::J::J::J::J::J::J::J::J::J::J::J::J::J::J::J::J::J::J::J::J::J::J::J::J::J::J::J::J::J::J::J::J::J::J::J::J::J::J::J::J::J::J::J::J::J::J::J::J::J::J::J::J::J::J::J::J::J::J::J::J::J::J::J::J::J::J::J::[]),H9⟩:=by
   simp only [aAd,aFc,Zae,Zaf,Zag,Zah,Zai,Zaj,Zak,Zan,Zao,Zar,Zat,Zav,Zax,Zay,Zbc,Zbd,Zbe,Zbm,Zbo,Zbs,Zbt,Zbu,Zcc,Zck,Zcm,Zcr,Zcz,Zda,Zdb,Zdc,Zdf,Zdg,Zdh,Q2,Q3,Q0,Q1,Zdi,Zdl,Zeb,decide_true,Nat.reduceAdd,eq_self,lr,nr,h3',e4,e5,lA6,ev2,t2,r1,sA,lG7,t3,p1,sG,hw]
  rw [run]
  refine ⟨fun hk => ?_,k2⟩
  obtain ⟨h',a1,a2,a3,a4,a5,a6,a7,b1,b2,b3,b4,b5,b6,b7,b8⟩:=k1 hk
  refine ⟨h',a1,a2,a3,a4,a5,a6,a7,b1,b2,b3,b4,?_,b6,?_,b8⟩
  ·rw [Q8] at b5;exact b5
  ·rw [Q8] at b7;exact b7
end
end Go.Proofs.Ytgeedikghjcebaa.Ai
namespace Go.Proofs.Ytgeedikghjcebaa.Ai
open Go Go.Proofs
open List renaming length_cons → Q0, length_nil → Q1, nil_append → Q2, cons_append → Q3, getD_cons_zero → Q4, getD_cons_succ → Q5, replicate_succ → Q6, replicate_zero → Q7, set_cons_zero → Q8, set_cons_succ → Q9, getElem?_cons_zero → Z2, getElem?_cons_succ → Z3, all_eq_true → Z5
open Option renaming map_some → Z0
open Bool renaming not_true → Z1, not_false → Z4, decide_and → Z6, true_and → Z8
open Option.some renaming injEq → Z7
set_option linter.unusedVariables false
set_option linter.unusedSimpArgs false
set_option maxRecDepth 10000
set_option maxHeartbeats 4000000
def aI5 (p:PackD):Prop:=aMR p∧aH3 p p.tm p.nt 0 p.n=true
section
variable {p : PackD} {cs : List AV}
theorem aS2 (hp:aBi p cs) (kA:RtOk p.a) (kG:RtOk p.g) :
  (aI5 p→∃ (raw av gv:AV) (c:Bool) (h':aA0),aAW (lim G0.cfg) 5000 aEz [.agg cs] []=some (raw,h')∧freeze h' 1000 raw=some (.tup [.agg [av,gv],.bool true],c)∧LiG (LiG LiA) (aBs p).acts av∧LiR (aBs p).gotos gv) ∧
  (¬ aI5 p→∃ (h':aA0),aAW (lim G0.cfg) 5000 aEz [.agg cs] []=some (.tup [.agg [.nilS,.nilS],.bool false],h')):=by
 obtain ⟨p1,p2,p3⟩:=hp.cells
 have bx:=aDL [] p3 p1
 obtain ⟨ca,cg,hcs,hA,hG⟩:=hp
 obtain ⟨X,hX⟩:∃ X,X=AObj.arr 0 10 true [cs]:=⟨_,rfl⟩
 obtain ⟨Y,hY⟩:∃ Y,Y=AObj.arr 0 2 true [[AV.nilS,.nilS]]:=⟨_,rfl⟩
 have e0:∀ l:aA0,(X::l)[0]?=some (.arr 0 10 true [[.int .i64 p.tms,.int .i64 p.nts]++ca++cg]):=fun l=>by rw [hX,hcs];rfl
 have f0:aCK [.nilS,.nilS] []=some (.agg [.nilS,.nilS]):=rfl
 have ldt:aAc [X,Y] 1 false (.ptr 0 0 0 0)=some (.int .i64 p.tms):=(aCb hA hG _ (e0 [Y])).2.2.1
 have ldn:aAc [X,Y] 1 false (.ptr 0 0 0 1)=some (.int .i64 p.nts):=(aCb hA hG _ (e0 [Y])).2.2.2
 obtain ⟨⟨w1,l1,q1⟩,w2,l2,q2⟩:=aJT hA hG _ (e0 [Y])
 have n1:=q1.len
 have n2:=q2.len
 have hnr:p.a.row.length=p.n:=rfl
 rw [hnr] at n1
 obtain ⟨z1,z2,z3⟩:=aIc [X,Y] [] (by rw [hY];rfl)
 have zs:([X,Y]:aA0).set 1 (.arr 0 2 true [[.nilS,.nilS]])=[X,Y]:=by rw [hY];rfl
 rw [zs] at z1 z2
 have v1:=aGr p.tms 2 256
 have v2:=aGr p.nts 1 512
 have v3:=aGr p.n 1 4096
 rw [aQg]
 by_cases c1:2≤p.tms∧p.tms≤256
 case neg =>
  have d1:(decide (2≤p.tms) && decide (p.tms≤256))=false:=by rw [← Z6];exact decide_eq_false c1
  rw [d1] at v1
  refine ⟨fun k=>absurd ⟨k.1.1,k.1.2.1⟩ c1,fun _=>⟨[X,Y],?_⟩⟩
  simp only [Zaf,Zag,Zah,Zam,Zan,Zao,Zaq,Zav,Zbc,Zbd,Zbe,Zbh,Zbk,Zbm,Zbn,Zbo,Zbp,Zbq,Zbr,Zbs,Zbt,Zbv,Zcc,Zcq,Zct,Zcu,Zcw,Zcy,Zcz,Zda,Zdb,Zdc,Zdd,Zde,Q8,Q9,Q4,Q5,Z0,Zdv,Zeb,Z4,Q0,Q1,if_true,Nat.reduceAdd,Nat.reduceSub,eq_self,Q0,Q1,Q6,Q7,Q3,Q2,p1,p3,eq_self,if_true,evp,← hX,← hY,ldt,v1,f0,z1,z2,aA5,aA4,aA8]
 case pos =>
 have d1:(decide (2≤p.tms) && decide (p.tms≤256))=true:=by rw [← Z6];exact decide_eq_true c1
 rw [d1] at v1
 by_cases c2:1≤p.nts∧p.nts≤512
 case neg =>
  have d2:(decide (1≤p.nts) && decide (p.nts≤512))=false:=by rw [← Z6];exact decide_eq_false c2
  rw [d2] at v2
  refine ⟨fun k=>absurd ⟨k.1.2.2.1,k.1.2.2.2.1⟩ c2,fun _=>⟨[X,Y],?_⟩⟩
  simp only [Zaf,Zag,Zah,Zam,Zan,Zao,Zaq,Zav,Zbc,Zbd,Zbe,Zbg,Zbh,Zbk,Zbl,Zbm,Zbn,Zbo,Zbp,Zbq,Zbr,Zbs,Zbt,Zbv,Zcc,Zcq,Zct,Zcu,Zcw,Zcy,Zcz,Zda,Zdb,Zdc,Zdd,Zde,Q8,Q9,Q4,Q5,Z0,Zdv,Zeb,Z1,Z4,Q0,Q1,if_true,Nat.reduceAdd,Nat.reduceSub,eq_self,Q0,Q1,Q6,Q7,Q3,Q2,p1,p3,eq_self,if_true,evp,← hX,← hY,ldt,ldn,v1,v2,f0,z1,z2,aA5,aA4,aA8]
 case pos =>
 have d2:(decide (1≤p.nts) && decide (p.nts≤512))=true:=by rw [← Z6];exact decide_eq_true c2
 rw [d2] at v2
 by_cases c3:1≤p.n∧p.n≤4096
 case neg =>
  have d3:(decide ((1:Int)≤p.n) && decide ((p.n:Int)≤4096))=false:=by rw [← Z6];exact decide_eq_false (by omega)
  rw [d3] at v3
  refine ⟨fun k=>absurd ⟨k.1.2.2.2.2.1,k.1.2.2.2.2.2.1⟩ c3,fun _=>⟨[X,Y],?_⟩⟩
  simp only [Zaf,Zag,Zah,Zam,Zan,Zao,Zaq,Zav,Zbc,Zbd,Zbe,Zbg,Zbh,Zbk,Zbl,Zbm,Zbn,Zbo,Zbp,Zbq,Zbr,Zbs,Zbt,Zbv,Zcc,Zck,Zcq,Zct,Zcu,Zcw,Zcy,Zcz,Zda,Zdb,Zdc,Zdd,Zde,Q8,Q9,Q4,Q5,Z0,Zdv,Zeb,Z1,Z4,Q0,Q1,if_true,Nat.reduceAdd,Nat.reduceSub,eq_self,Q0,Q1,Q6,Q7,Q3,Q2,p1,p3,eq_self,if_true,evp,← hX,← hY,ldt,ldn,l1,n1,v1,v2,v3,f0,z1,z2,aA5,aA4,aA8]
 case pos =>
 have d3:(decide ((1:Int)≤p.n) && decide ((p.n:Int)≤4096))=true:=by rw [← Z6];exact decide_eq_true (by omega)
 rw [d3] at v3
 by_cases c7:p.g.row.length=p.n
 case neg =>
  have d7:decide ((p.g.row.length:Int)=p.n)=false:=decide_eq_false (by omega)
  refine ⟨fun k=>absurd k.1.2.2.2.2.2.2 c7,fun _=>⟨[X,Y],?_⟩⟩
  simp only [Zaf,Zag,Zah,Zam,Zan,Zao,Zaq,Zav,Zbc,Zbd,Zbe,Zbg,Zbl,Zbm,Zbn,Zbo,Zbp,Zbq,Zbr,Zbs,Zbt,Zbu,Zbv,Zcc,Zck,Zcq,Zct,Zcu,Zcw,Zcy,Zcz,Zda,Zdb,Zdc,Zdd,Zde,Q8,Q9,Q4,Q5,Z0,Zdq,Zdv,Zeb,Z1,Z4,Q0,Q1,if_true,Nat.reduceAdd,Nat.reduceSub,eq_self,Q0,Q1,Q6,Q7,Q3,Q2,p1,p3,eq_self,if_true,evp,← hX,← hY,l1,l2,n1,n2,ldt,ldn,v1,v2,v3,d7,f0,z1,z2,aA5,aA4,aA8]
 case pos =>
 have d7:decide ((p.g.row.length:Int)=p.n)=true:=decide_eq_true (by omega)
 have fr:aMR p:=⟨c1.1,c1.2,c2.1,c2.2,c3.1,c3.2,c7⟩
 have tmE:p.tms=(p.tm:Int):=by unfold PackD.tm;omega
 have ntE:p.nts=(p.nt:Int):=by unfold PackD.nt;omega
 obtain ⟨k1,k2⟩:=aUi hA hG kA kG p.tm p.nt 5000 tmE ntE (by omega) (by omega) (by omega) (by omega) p.n 0 5000 [] [] [X,Y,Y] .nilS .nilS [] [] none none (fun _=>False) (by omega) (by omega) (e0 [Y,Y]) (by rw [hY];rfl) (by rw [hY];rfl) (aAi.nil 1 _) (Nest.nil _ _ _) (aAi.nil 1 _) (Nest.nil _ _ _) (fun _ e=>e.elim) (fun _ e=>by cases e) (fun _ e=>by cases e) (fun _ e=>by cases e) rfl rfl
 rw [z0] at k1 k2
 rw [Q2,Q2] at k1
 by_cases c8:aH3 p p.tm p.nt 0 p.n=true
 case neg =>
  obtain ⟨h',e,e1⟩:=k2 (by simpa using c8)
  have z4:=(aIc h' [] e1).2.2
  refine ⟨fun k=>absurd k.2 c8,fun _=>⟨h',?_⟩⟩
  simp only [Zae,Zaf,Zag,Zah,Zai,Zaj,Zak,Zan,Zao,Zaq,Zas,Zaw,Zax,Zbc,Zbd,Zbg,Zbl,Zbm,Zbn,Zbo,Zbp,Zbq,Zbr,Zbs,Zbu,Zbv,Zcc,Zck,Zct,Zcu,Zcw,Zcy,Zcz,Zda,Zdb,Zdd,Zde,Zdf,Zdg,Zdh,Q8,Q9,Q4,Q5,Z0,Zdq,Zdv,Zeb,Z1,Q0,Q1,if_true,Nat.reduceAdd,Nat.reduceSub,eq_self,Q0,Q1,Q6,Q7,Q3,Q2,p1,p3,eq_self,if_true,← hX,← hY,l1,l2,n1,n2,ldt,ldn,v1,v2,v3,d7,e,z4,aA5,aA4,aA8]
 case pos =>
 obtain ⟨h',wA,wG,csA,csG,qA,qG,S,e,g1,g2,oA,nA,oG,nG,hS,hqA,hqG⟩:=k1 c8
 have cc:cellsOf (.agg [wA,wG])=[wA,wG]:=by simp [cellsOf]
 have ck:[wA,wG].all aAq=true:=by simp only [List.all_cons,List.all_nil,oA.cell.2,oG.cell.2,Bool.and_self]
 have lt5:aAc h' 2 true (.ptr 2 0 0 0)=some (.agg [wA,wG]):=aB1 (b:=true) g2 rfl
 have y3:aAw h' 2 (.ptr 1 0 0 0) (.agg [wA,wG])=some (h'.set 1 (.arr 0 2 true [[wA,wG]])):=aB4 (b:=true) g1 rfl rfl cc ck
 have y4:aAc (h'.set 1 (.arr 0 2 true [[wA,wG]])) 2 true (.ptr 1 0 0 0)=some (.agg [wA,wG]):=aB1 (b:=true) (aAm g1) rfl
 obtain ⟨F,hF⟩:∃ F,F=h'.set 1 (.arr 0 2 true [[wA,wG]]):=⟨_,rfl⟩
 rw [← hF] at y3 y4
 have upF:∀ (i:Nat) (o:AObj),3≤i→h'[i]?=some o→F[i]?=some o:=fun i o hi e=>by rw [hF];exact aAv e (by omega)
 obtain ⟨av2,ba2,fa2,ga2⟩:=(nA.frame (h':=F) (fun i o k e=>upF i o (hS i k) e)).fzA (oA.frame (h':=F) (fun i o k e=>upF i o (hqA i k) e)) 995
 obtain ⟨gv2,bg2,fg2,gg2⟩:=(nG.frame (h':=F) (fun i o k e=>upF i o (hS i k) e)).fz (oG.frame (h':=F) (fun i o k e=>upF i o (hqG i k) e)) 995
 have fz2:=aNN (k:=999) (aL9 (k:=998) fa2 fg2) (rfl:freeze F 999 (.bool true)=some (.bool true,true))
 refine ⟨fun _=>⟨.tup [.agg [wA,wG],.bool true],av2,gv2,_,F,?_,fz2,ga2,gg2⟩,fun k=>absurd ⟨fr,c8⟩ k⟩
 simp only [Zae,Zaf,Zag,Zah,Zai,Zaj,Zak,Zam,Zan,Zao,Zat,Zaw,Zax,Zbc,Zbd,Zbe,Zbg,Zbl,Zbm,Zbn,Zbo,Zbp,Zbq,Zbr,Zbs,Zbt,Zbu,Zbv,Zcc,Zck,Zct,Zcu,Zcw,Zcy,Zcz,Zda,Zdb,Zdc,Zdd,Zde,Zdf,Zdg,Zdh,Q8,Q9,Q4,Q5,Z0,Zdq,Zdv,Zeb,Z1,Q0,Q1,if_true,Nat.reduceAdd,Nat.reduceSub,eq_self,Q0,Q1,Q6,Q7,Q3,Q2,p1,p3,eq_self,if_true,← hX,← hY,l1,l2,n1,n2,ldt,ldn,v1,v2,v3,d7,e,lt5,y3,y4,aA5,aA4,aA8]
theorem aUx (hp:aBi p cs) (kA:RtOk p.a) (kG:RtOk p.g) :
  (aI5 p→∃ (av gv:AV),LiG (LiG LiA) (aBs p).acts av∧LiR (aBs p).gotos gv∧∀ H,lim G0.cfg (.func 37) [.agg cs] H=some (.tup [.agg [av,gv],.bool true],H)) ∧
  (¬ aI5 p→∀ H,lim G0.cfg (.func 37) [.agg cs] H=some (.tup [.agg [.nilS,.nilS],.bool false],H)):=by
 obtain ⟨k1,k2⟩:=aS2 hp kA kG
 refine ⟨fun k => ?_,fun k H => ?_⟩
 ·obtain ⟨raw,av,gv,c,h',r,f,g1,g2⟩:=k1 k
  exact ⟨av,gv,g1,g2,fun H=>aDY rfl rfl aLO 5000 (fun h=>aCG (hp.fz h 998)) r f H⟩
 ·obtain ⟨h',r⟩:=k2 k
  exact aDY rfl rfl aLO 5000 (fun h=>aCG (hp.fz h 998)) r (rfl:freeze h' 1000 (.tup [.agg [.nilS,.nilS],.bool false])=some (.tup [.agg [.nilS,.nilS],.bool false],true)) H
end
def eqP (p q:PackD):Bool:=decide (p.tms=q.tms) && (decide (p.nts=q.nts) && (eqR p.a q.a && eqR p.g q.g))
theorem aQM (p q:PackD):eqP p q=true↔p=q:=by
 obtain ⟨a1,a2,a3,a4⟩:=p
 obtain ⟨b1,b2,b3,b4⟩:=q
 simp [eqP,aJd]
theorem aUA {p q:PackD} {cs ds:List AV} (hc:aBi p cs) (hd:aBi q ds) (l1:RtOk p.a) (l2:RtOk p.g) (H:aA0):lim G0.cfg (.func 39) [.agg cs,.agg ds] H=some (.bool (eqP p q),H):=by
 refine aAF rfl rfl aRJ 1 (fun h=>aFw (hc.fz h 998) (hd.fz h 998)) ?_ (fun _=>rfl) H
 obtain ⟨p1,p2,p3⟩:=hc.cells
 obtain ⟨q1,q2,q3⟩:=hd.cells
 have bx1:=aDL [] p3 p1
 obtain ⟨A,hA⟩:∃ A,A=AObj.arr 0 10 true [cs]:=⟨_,rfl⟩
 rw [← hA] at bx1
 have bx2:=aDL [A] q3 q1
 obtain ⟨B,hB⟩:∃ B,B=AObj.arr 0 10 true [ds]:=⟨_,rfl⟩
 rw [← hB] at bx2
 obtain ⟨ca,cg,e1,ha,hg⟩:=hc
 obtain ⟨da,dg,e2,ka,kg⟩:=hd
 have s1:=aLB ha ka l1.l4 l1.l1 l1.l2 l1.l3
 have s2:=aLB hg kg l2.l4 l2.l1 l2.l2 l2.l3
 obtain ⟨a1,a2,a3,a4,rfl,_,_,_,_⟩:=ha
 obtain ⟨b1,b2,b3,b4,rfl,_,_,_,_⟩:=hg
 obtain ⟨x1,x2,x3,x4,rfl,_,_,_,_⟩:=ka
 obtain ⟨y1,y2,y3,y4,rfl,_,_,_,_⟩:=kg
 have g0:([A,B]:aA0)[0]?=some (.arr 0 10 true [cs]):=by rw [hA];rfl
 have g1:([A,B]:aA0)[1]?=some (.arr 0 10 true [ds]):=by rw [hB];rfl
 have t1:aAc [A,B] 1 false (.ptr 0 0 0 0)=some (.int .i64 p.tms):=by rw [aAV _ 1 0 0 0 0 false 10 true _ cs g0 rfl,e1];rfl
 have t2:aAc [A,B] 1 false (.ptr 0 0 0 1)=some (.int .i64 p.nts):=by rw [aAV _ 1 0 0 0 1 false 10 true _ cs g0 rfl,e1];rfl
 have t3:aAc [A,B] 4 true (.ptr 0 0 0 2)=some (.agg [a1,a2,a3,a4]):=by rw [aAV _ 4 0 0 0 2 true 10 true _ cs g0 rfl,e1];rfl
 have t4:aAc [A,B] 4 true (.ptr 0 0 0 6)=some (.agg [b1,b2,b3,b4]):=by rw [aAV _ 4 0 0 0 6 true 10 true _ cs g0 rfl,e1];rfl
 have u1:aAc [A,B] 1 false (.ptr 1 0 0 0)=some (.int .i64 q.tms):=by rw [aAV _ 1 1 0 0 0 false 10 true _ ds g1 rfl,e2];rfl
 have u2:aAc [A,B] 1 false (.ptr 1 0 0 1)=some (.int .i64 q.nts):=by rw [aAV _ 1 1 0 0 1 false 10 true _ ds g1 rfl,e2];rfl
 have u3:aAc [A,B] 4 true (.ptr 1 0 0 2)=some (.agg [x1,x2,x3,x4]):=by rw [aAV _ 4 1 0 0 2 true 10 true _ ds g1 rfl,e2];rfl
 have u4:aAc [A,B] 4 true (.ptr 1 0 0 6)=some (.agg [y1,y2,y3,y4]):=by rw [aAV _ 4 1 0 0 6 true 10 true _ ds g1 rfl,e2];rfl
 rw [aRB]
 unfold eqP
 by_cases c1:p.tms=q.tms
 case neg =>
  have d1:decide (p.tms=q.tms)=false:=decide_eq_false c1
  rw [d1,Bool.false_and]
  simp only [Zaf,Zag,Zam,Zan,Zao,Zbc,Zbd,Zbi,Zbl,Zbm,Zbn,Zbo,Zbp,Zbr,Zbs,Zbu,Zcc,Zcw,Zcy,Zcz,Zda,Zdb,Q8,Q9,Q4,Q5,Z0,Zdp,Zeb,Q0,Q1,if_true,Nat.reduceAdd,Nat.reduceSub,eq_self,true_and,Q0,Q1,Q6,Q7,Q3,Q2,Q0,Q1,Nat.zero_add,Q3,Q2,p1,q1,p3,q3,eq_self,if_true,← hA,← hB,t1,u1,d1,aA5,aA4,aA8,Z7,Prod.mk.injEq,true_and,exists_eq']
 case pos =>
 have d1:decide (p.tms=q.tms)=true:=decide_eq_true c1
 by_cases c2:p.nts=q.nts
 case neg =>
  have d2:decide (p.nts=q.nts)=false:=decide_eq_false c2
  rw [d1,d2,Z8,Bool.false_and]
  simp only [Zaf,Zag,Zam,Zan,Zao,Zbc,Zbd,Zbf,Zbi,Zbk,Zbl,Zbm,Zbn,Zbo,Zbp,Zbr,Zbs,Zbu,Zcc,Zcw,Zcy,Zcz,Zda,Zdb,Q8,Q9,Q4,Q5,Z0,Zdp,Zeb,Q0,Q1,if_true,Nat.reduceAdd,Nat.reduceSub,eq_self,true_and,Q0,Q1,Q6,Q7,Q3,Q2,Q0,Q1,Nat.zero_add,Q3,Q2,p1,q1,p3,q3,eq_self,if_true,← hA,← hB,t1,t2,u1,u2,d1,d2,aA5,aA4,aA8,Z7,Prod.mk.injEq,true_and,exists_eq']
 case pos =>
 have d2:decide (p.nts=q.nts)=true:=decide_eq_true c2
 rw [d1,d2,Z8,Z8]
 generalize eqR p.a q.a=b1 at s1 ⊢
 generalize eqR p.g q.g=b2 at s2 ⊢
 cases b1
 ·rw [Bool.false_and]
  simp only [Zaf,Zag,Zam,Zan,Zao,Zbc,Zbd,Zbf,Zbi,Zbk,Zbl,Zbm,Zbn,Zbo,Zbp,Zbr,Zbs,Zbu,Zcc,Zct,Zcu,Zcw,Zcy,Zcz,Zda,Zdb,Zdd,Zde,Q8,Q9,Q4,Q5,Z0,Zdp,Zeb,Q0,Q1,if_true,Nat.reduceAdd,Nat.reduceSub,eq_self,true_and,Q0,Q1,Q6,Q7,Q3,Q2,Q0,Q1,Nat.zero_add,Q3,Q2,p1,q1,p3,q3,eq_self,if_true,← hA,← hB,t1,t2,t3,u1,u2,u3,s1,d1,d2,aA5,aA4,aA8,Z7,Prod.mk.injEq,true_and,exists_eq']
 ·rw [Z8]
  simp only [Zaf,Zag,Zam,Zan,Zao,Zbc,Zbd,Zbf,Zbk,Zbm,Zbn,Zbo,Zbp,Zbr,Zbs,Zbu,Zcc,Zct,Zcu,Zcw,Zcy,Zcz,Zda,Zdb,Zdd,Zde,Q8,Q9,Q4,Q5,Z0,Zdp,Zeb,Q0,Q1,if_true,Nat.reduceAdd,Nat.reduceSub,eq_self,true_and,Q0,Q1,Q6,Q7,Q3,Q2,Q0,Q1,Nat.zero_add,Q3,Q2,p1,q1,p3,q3,eq_self,if_true,← hA,← hB,t1,t2,t3,t4,u1,u2,u3,u4,s1,s2,d1,d2,aA5,aA4,aA8,Z7,Prod.mk.injEq,true_and,exists_eq']
section
variable {p : PackD} {cs : List AV}
theorem aTy (n x:Int) (h:0≤aBO n x):aBO n x - 1=x ∧ -1≤x∧x < n:=by
 unfold aBO at h ⊢
 split at h
 ·omega
 ·rename_i c
  rw [if_neg c];omega
theorem aR6 {l:List Int} (h:aAS l=true):∀ x ∈ l,0≤x:=fun x hx=>by
 have:=Z5.1 h x hx
 simpa using this
theorem aRO {x:Int} (hx : -9223372036854775808≤x∧x≤9223372036854775807) {n:Nat} (hn:n≤4096) (h:0≤aBO n (IntKind.i64.wrap (x - 1))):0≤x∧x≤n:=by
 obtain ⟨_,h2,h3⟩:=aTy _ _ h
 by_cases c : -9223372036854775807≤x
 ·have w:IntKind.i64.wrap (x - 1)=x - 1:=w64 (by omega) (by omega)
  rw [w] at h2 h3
  omega
 ·have e:x = -9223372036854775808:=by omega
  subst e
  have w:IntKind.i64.wrap (-9223372036854775808 - 1)=9223372036854775807:=by decide
  rw [w] at h3
  omega
theorem aTO (kG:RtOk p.g):aBq p↔(aI5 p∧(aBs p).ok∧p=aAQ (aBs p)):=by
 constructor
 ·rintro ⟨fr,h1,h2,h3⟩
  refine ⟨⟨fr,?_⟩,h2,h3.symm⟩
  obtain ⟨f1,f2,f3,f4,f5,f6,f7⟩:=fr
  unfold aH3
  rw [Z5]
  intro s hs
  have a1:okA p s 0 p.tm=true:=Z5.1 h1 s hs
  rw [a1,Z8]
  unfold okG
  rw [Z5]
  intro k hk
  obtain ⟨_,_,o3⟩:=TabD.ok_len h2
  have m1:aDI p s 0 p.nt ∈ (aBs p).gotos:=List.mem_map.2 ⟨s,hs,rfl⟩
  have m2:IntKind.i64.wrap (atD p.g s k - 1) ∈ aDI p s 0 p.nt:=List.mem_map.2 ⟨k,hk,rfl⟩
  have nn:=aR6 (Z5.1 o3 _ (List.mem_map.2 ⟨_,m1,rfl⟩)) _ (List.mem_map.2 ⟨_,m2,rfl⟩)
  rw [(aLT p).1] at nn
  obtain ⟨g1,g2⟩:=aRO (kG.at s k) f6 nn
  rw [decide_eq_true g1,decide_eq_true g2];rfl
 ·rintro ⟨⟨fr,h1⟩,h2,h3⟩
  refine ⟨fr,?_,h2,h3.symm⟩
  unfold aIK
  rw [Z5]
  intro s hs
  have:=Z5.1 h1 s hs
  rw [Bool.and_eq_true] at this
  exact this.1
theorem aVw (hp:aBi p cs) (kA:RtOk p.a) (kG:RtOk p.g) (hw:p.g.val.length≤1048576) :
  (aBq p→∃ (av gv:AV),LiG (LiG LiA) (aBs p).acts av∧LiR (aBs p).gotos gv∧∀ H,lim G0.cfg (.func 32) [.agg cs] H=some (.tup [.agg [av,gv],.int .i64 0],H)) ∧
  (¬ aBq p→∀ H,lim G0.cfg (.func 32) [.agg cs] H=some (.tup [.agg [.nilS,.nilS],.int .i64 34],H)):=by
 rw [aTO kG]
 obtain ⟨k1,k2⟩:=aUx hp kA kG
 have hp':=hp
 obtain ⟨p1,p2,p3⟩:=hp.cells
 have bx:=aDL [] p3 p1
 obtain ⟨X,hX⟩:∃ X,X=AObj.arr 0 10 true [cs]:=⟨_,rfl⟩
 obtain ⟨Y,hY⟩:∃ Y,Y=AObj.arr 0 2 true [[AV.nilS,.nilS]]:=⟨_,rfl⟩
 obtain ⟨B,hB⟩:∃ B,B=AObj.arr 0 10 true [aAy]:=⟨_,rfl⟩
 have f0:aCK [.nilS,.nilS] []=some (.agg [.nilS,.nilS]):=rfl
 have lX:∀ l:aA0,aAc (X::l) 10 true (.ptr 0 0 0 0)=some (.agg cs):=fun l=>aB1 (b:=true) (by rw [hX];rfl) p3
 have z1:∀ l:aA0,aAw (X::Y::l) 2 (.ptr 1 0 0 0) (.agg [.nilS,.nilS])=some (X::Y::l):=fun l=>by
  have:=aB4 (h:=X::Y::l) (i:=1) (ver:=0) (n:=2) (b:=true) (z:=[.nilS,.nilS]) (l:=[.nilS,.nilS]) (by rw [hY];rfl) rfl rfl rfl rfl
  rw [← hY] at this
  exact this
 have z2:∀ l:aA0,aAc (X::Y::l) 2 true (.ptr 1 0 0 0)=some (.agg [.nilS,.nilS]):=fun l=>aB1 (b:=true) (by rw [hY];rfl) rfl
 have z3:aAw [X,Y,Y] 2 (.ptr 2 0 0 0) (.agg [.nilS,.nilS])=some [X,Y,Y]:=by
  have:=aB4 (h:=[X,Y,Y]) (i:=2) (ver:=0) (n:=2) (b:=true) (z:=[.nilS,.nilS]) (l:=[.nilS,.nilS]) (by rw [hY];rfl) rfl rfl rfl rfl
  rw [← hY] at this
  exact this
 have bad:∀ (h':aA0) (N:Nat),aAW (lim G0.cfg) N aG6 [.agg cs] []=some (.tup [.agg [.nilS,.nilS],.int .i64 34],h')→∀ H,lim G0.cfg (.func 32) [.agg cs] H=some (.tup [.agg [.nilS,.nilS],.int .i64 34],H):=fun h' N r H =>
  aDY rfl rfl aNd N (fun h=>aCG (hp.fz h 998)) r (rfl:freeze h' 1000 (.tup [.agg [.nilS,.nilS],.int .i64 34])=some (.tup [.agg [.nilS,.nilS],.int .i64 34],true)) H
 by_cases c1:aI5 p
 case neg =>
  have e:=k2 c1
  refine ⟨fun k=>absurd k.1 c1,fun _=>bad [X,Y,Y] 1 ?_⟩
  rw [aFX]
  simp only [Zaf,Zag,Zah,Zam,Zan,Zao,Zaq,Zav,Zbc,Zbd,Zbe,Zbm,Zbo,Zbq,Zbr,Zbs,Zbt,Zbv,Zcj,Zcq,Zct,Zcu,Zcw,Zcy,Zcz,Zda,Zdb,Zdc,Zdd,Zde,Q8,Q9,Q4,Q5,Z0,Zdv,Zeq,Z4,Z2,Z3,Q0,Q1,if_true,Nat.reduceAdd,Nat.reduceSub,eq_self,Q0,Q1,Q6,Q7,Q3,Q2,p1,p3,eq_self,if_true,evp,← hX,← hY,lX,e,z3,f0,z1,z2,aA5,aA4,aA8]
 case pos =>
 obtain ⟨av,gv,g1,g2,e⟩:=k1 c1
 have tl:=(aLT p).1
 obtain ⟨q1,q2⟩:=aWF g1 g2
 have cc:cellsOf (.agg [av,gv])=[av,gv]:=by simp [cellsOf]
 have ck:[av,gv].all aAq=true:=by simp only [List.all_cons,List.all_nil,g1.cell.2,g2.cell.2,Bool.and_self]
 obtain ⟨T,hT⟩:∃ T,T=AObj.arr 0 2 true [[av,gv]]:=⟨_,rfl⟩
 have y1:aAw [X,Y,Y] 2 (.ptr 2 0 0 0) (.agg [av,gv])=some [X,Y,T]:=by
  have:=aB4 (h:=[X,Y,Y]) (i:=2) (ver:=0) (n:=2) (b:=true) (z:=[.nilS,.nilS]) (l:=[av,gv]) (by rw [hY];rfl) rfl rfl cc ck
  rw [← hT] at this
  exact this
 have y2:∀ l:aA0,aAc (X::Y::T::l) 2 true (.ptr 2 0 0 0)=some (.agg [av,gv]):=fun l=>aB1 (b:=true) (by rw [hT];rfl) rfl
 have y3:∀ l:aA0,aAw (X::Y::T::l) 2 (.ptr 1 0 0 0) (.agg [av,gv])=some (X::T::T::l):=fun l=>by
  have:=aB4 (h:=X::Y::T::l) (i:=1) (ver:=0) (n:=2) (b:=true) (z:=[.nilS,.nilS]) (l:=[av,gv]) (by rw [hY];rfl) rfl rfl cc ck
  rw [← hT] at this
  exact this
 have y4:∀ l:aA0,aAc (X::T::l) 2 true (.ptr 1 0 0 0)=some (.agg [av,gv]):=fun l=>aB1 (b:=true) (by rw [hT];rfl) rfl
 have zz:[AV.int .i64 0,.int .i64 0,.nilS,.nilS,.nilS,.nilS,.nilS,.nilS,.nilS,.nilS]=aAy:=rfl
 have zl:aAy.length=10:=rfl
 have s6:∀ (q:PackD) (qs:List AV) (hq:aBi q qs),aAw [X,Y,T,B] 10 (.ptr 3 0 0 0) (.agg qs)=some [X,Y,T,.arr 0 10 true [qs]]:=fun q qs hq=>by
  obtain ⟨u1,u2,u3⟩:=hq.cells
  exact aB4 (h:=[X,Y,T,B]) (i:=3) (ver:=0) (n:=10) (b:=true) (z:=aAy) (l:=qs) (by rw [hB];rfl) rfl u3 u1 u2
 have d34:decide ((34:Int)=0)=false:=rfl
 have d0:decide ((0:Int)=0)=true:=rfl
 by_cases c2:(aBs p).ok
 case neg =>
  have eo:=q2 c2
  have s:=s6 aCC aAy aCW
  rw [← hB] at s
  refine ⟨fun k=>absurd k.2.1 c2,fun _=>bad [X,Y,T,B] 1 ?_⟩
  rw [aFX]
  simp only [Zae,Zaf,Zag,Zah,Zam,Zan,Zao,Zaq,Zav,Zaw,Zbc,Zbd,Zbe,Zbh,Zbk,Zbm,Zbn,Zbo,Zbp,Zbq,Zbr,Zbs,Zbt,Zbu,Zbv,Zcj,Zcq,Zct,Zcu,Zcw,Zcy,Zcz,Zda,Zdb,Zdc,Zdd,Zde,Q8,Q9,Q4,Q5,Z0,Zdq,Zdv,Zeq,decide_false,Z1,Z4,Z2,Z3,Q0,Q1,if_true,Nat.reduceAdd,Nat.reduceSub,Int.reduceEq,eq_self,Q0,Q1,Q6,Q7,Q3,Q2,p1,p3,eq_self,if_true,evp,← hX,← hY,lX,e,y1,y2,eo,zz,zl,← hB,s,f0,z1,z2,aA5,aA4,aA8]
 case pos =>
 by_cases c4:(aAQ (aBs p)).g.val.length≤1048576
 case neg =>
  have eo:=(q1 c2).2 c4
  have s:=s6 aCC aAy aCW
  rw [← hB] at s
  have d35:decide ((35:Int)=0)=false:=rfl
  refine ⟨fun k=>absurd (by rw [← k.2.2];exact hw) c4,fun _=>bad [X,Y,T,B] 1 ?_⟩
  rw [aFX]
  simp only [Zae,Zaf,Zag,Zah,Zam,Zan,Zao,Zaq,Zav,Zaw,Zbc,Zbd,Zbe,Zbh,Zbk,Zbm,Zbn,Zbo,Zbp,Zbq,Zbr,Zbs,Zbt,Zbu,Zbv,Zcj,Zcq,Zct,Zcu,Zcw,Zcy,Zcz,Zda,Zdb,Zdc,Zdd,Zde,Q8,Q9,Q4,Q5,Z0,Zdq,Zdv,Zeq,decide_false,Z1,Z4,Z2,Z3,Q0,Q1,if_true,Nat.reduceAdd,Nat.reduceSub,Int.reduceEq,eq_self,Q0,Q1,Q6,Q7,Q3,Q2,p1,p3,eq_self,if_true,evp,← hX,← hY,lX,e,y1,y2,eo,zz,zl,← hB,s,f0,z1,z2,aA5,aA4,aA8]
 case pos =>
 obtain ⟨qs,hq,eo⟩:=(q1 c2).1 c4
 have s:=s6 _ qs hq
 obtain ⟨Q,hQ⟩:∃ Q,Q=AObj.arr 0 10 true [qs]:=⟨_,rfl⟩
 rw [← hQ] at s
 have lQ:aAc [X,Y,T,Q] 10 true (.ptr 3 0 0 0)=some (.agg qs):=aB1 (b:=true) (by rw [hQ];rfl) hq.cells.2.2
 have sm:=aUA hp' hq kA kG
 by_cases c3:p=aAQ (aBs p)
 case neg =>
  have dm:eqP p (aAQ (aBs p))=false:=by
   cases x:eqP p (aAQ (aBs p)) with
   | false=>rfl
   | true=>exact absurd ((aQM _ _).1 x) c3
  rw [dm] at sm
  refine ⟨fun k=>absurd k.2.2 c3,fun _=>bad [X,Y,T,Q] 1 ?_⟩
  rw [aFX]
  simp only [Zae,Zaf,Zag,Zah,Zam,Zan,Zao,Zaq,Zav,Zaw,Zbc,Zbd,Zbe,Zbg,Zbl,Zbm,Zbn,Zbo,Zbp,Zbq,Zbr,Zbs,Zbt,Zbu,Zbv,Zcj,Zcq,Zct,Zcu,Zcw,Zcy,Zcz,Zda,Zdb,Zdc,Zdd,Zde,Q8,Q9,Q4,Q5,Z0,Zdq,Zdv,Zeq,decide_true,Z1,Z4,Z2,Z3,Q0,Q1,if_true,Nat.reduceAdd,Nat.reduceSub,eq_self,Q0,Q1,Q6,Q7,Q3,Q2,p1,p3,eq_self,if_true,evp,← hX,← hY,lX,e,y1,y2,eo,zz,zl,← hB,s,lQ,sm,f0,z1,z2,aA5,aA4,aA8]
 case pos =>
 have dm:eqP p (aAQ (aBs p))=true:=(aQM _ _).2 c3
 rw [dm] at sm
 have fz2:=fun h=>aNN (h:=h) (k:=999) (aL9 (k:=998) (g1.fz h 997) (g2.fz h 997)) (rfl:freeze h 999 (.int .i64 0)=some (.int .i64 0,true))
 refine ⟨fun _=>⟨av,gv,g1,g2,fun H=>aDY rfl rfl aNd 1 (fun h=>aCG (hp.fz h 998)) (h':=[X,T,T,Q]) ?_ (fz2 _) H⟩,fun k=>absurd ⟨c1,c2,c3⟩ k⟩
 rw [aFX]
 simp only [Zae,Zaf,Zag,Zah,Zam,Zan,Zao,Zaw,Zbc,Zbd,Zbe,Zbg,Zbl,Zbm,Zbn,Zbo,Zbp,Zbq,Zbr,Zbs,Zbt,Zbu,Zbv,Zcj,Zct,Zcu,Zcw,Zcy,Zcz,Zda,Zdb,Zdc,Zdd,Zde,Q8,Q9,Q4,Q5,Z0,Zdq,Zdv,Zeq,decide_true,Z1,Z2,Z3,Q0,Q1,if_true,Nat.reduceAdd,Nat.reduceSub,eq_self,Q0,Q1,Q6,Q7,Q3,Q2,p1,p3,eq_self,if_true,← hX,← hY,lX,e,y1,y2,eo,zz,zl,← hB,s,lQ,sm,y3,y4,aA5,aA4,aA8]
end
end Go.Proofs.Ytgeedikghjcebaa.Ai
