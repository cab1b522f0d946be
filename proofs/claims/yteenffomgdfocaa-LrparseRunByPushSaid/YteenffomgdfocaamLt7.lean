/- The parser's machine: reduce and push, walked. -/
import Derived.Test.YteenffomgdfocaamXE
import Derived.Test.YteenffomgdfocaamXD
namespace Go.Proofs.Yteenffomgdfocaa.Ai
open Go Go.Proofs
open AV renaming junk → J
open List renaming length_nil → Q0, length_cons → Q1, getD_cons_zero → Q2, getD_cons_succ → Q3, set_cons_zero → Q4, set_cons_succ → Q5, getElem_mem → Q6, cons_append → Q7, nil_append → Q8, replicate_succ → Q9, replicate_zero → Z0
open Option renaming map_some → Z1
set_option linter.unusedVariables false
set_option linter.unusedSimpArgs false
set_option maxRecDepth 10000
set_option maxHeartbeats 8000000
theorem aNL {g:GramD} {av gv sv mvv s2:AV} {i:Nat} {l mv:List Int} {H:aA0} (h1:H[i]?=some (.arr 0 9 true [mC g av gv sv mvv])) (h2:SL H l s2) (p2:plc s2≠some i) (h3:SL H mv mvv) (p3:plc mvv≠some i) (ap:∀ k,plc s2=some k→plc mvv≠some k) (n:Int) (hl:l.length≤1000000000) :
  ∃ s3 H2 H3,aGw H 1 8 s2 (.vsl true [[.int .i64 n]])=some (s3,H2)∧aAq H2 1 (.ptr i 0 0 7) s3=some H3∧H3[i]?=some (.arr 0 9 true [mC g av gv s3 mvv])∧SL H3 (l++[n]) s3∧SL H3 mv mvv∧plc s3≠some i∧(∀ k,plc s3=some k→plc mvv≠some k):=by
 obtain ⟨s3,H2,e1,e2,e3,e4,e5⟩:=h2.append n hl
 have g2:=e4 i _ h1 p2
 have q3:plc s3≠some i:=e5 i (aGG h1) p2
 refine ⟨s3,H2,H2.set i (.arr 0 9 true [mC g av gv s3 mvv]),e1,aNF g2 (by simp) e2.cell,aEx g2,e2.set q3 _,?_,q3,fun k hk hk' => ?_⟩
 ·refine (h3.keep fun k o hk ho=>e4 k o ho fun e=>ap k e hk).set p3 _
 ·exact e5 k (h3.plc hk') (fun e=>ap k e hk') hk
theorem aR8 {g:GramD} {av gv sv mvv:AV} {i:Nat} {l mv:List Int} {H:aA0} (h1:H[i]?=some (.arr 0 9 true [mC g av gv sv mvv])) (h2:SL H l sv) (p2:plc sv≠some i) (h3:SL H mv mvv) (p3:plc mvv≠some i) (ap:∀ k,plc sv=some k→plc mvv≠some k) (n:Int) (hl:mv.length≤1000000000) :
  ∃ m3 H2 H3,aGw H 1 8 mvv (.vsl true [[.int .i64 n]])=some (m3,H2)∧aAq H2 1 (.ptr i 0 0 8) m3=some H3∧MS g av gv i l (mv++[n]) H3:=by
 obtain ⟨m3,H2,e1,e2,e3,e4,e5⟩:=h3.append n hl
 have g2:=e4 i _ h1 p3
 have q3:plc m3≠some i:=e5 i (aGG h1) p3
 refine ⟨m3,H2,H2.set i (.arr 0 9 true [mC g av gv sv m3]),e1,aNF g2 (by simp) e2.cell,sv,m3,aEx g2,?_,e2.set q3 _,p2,q3,fun k hk hk' => ?_⟩
 ·refine (h2.keep fun k o hk ho=>e4 k o ho fun e=>ap k hk e).set p2 _
 ·exact e5 k (h2.plc hk) (ap k hk) hk'
def aEg (g:GramD) (t:TabD) (n:Int) (st mv:List Int):Int × List Int × List Int :=
 if (st.length:Int) - (aBd g n).right.length < 1∨aEb t (st.getD (st.length - (aBd g n).right.length - 1) 0) (aBd g n).left < 0 then (34,st,mv)
 else if mv.length=100000 then (29,st,mv)
 else (0,st.take (st.length - (aBd g n).right.length)++[aEb t (st.getD (st.length - (aBd g n).right.length - 1) 0) (aBd g n).left],mv++[n])
section
variable {t : TabD} {av gv : AV} (ha : LiG (LiG LiA) t.acts av) (hgv : LiR t.gotos gv) {g : GramD} (hg : g.Ok) (ht : TabOk g t) (h0 : aBl g = 0)
include hgv hg ht h0
theorem aQo {i:Nat} {st mv:List Int} {H:aA0} (hM:MS g av gv i st mv H) (hst:aFv t st) (hb:st.length≤500000000) (hmv:mv.length≤100000) {q:Nat} (hq:q < g.rules.length) :
  ∃ H',lim G0.cfg (.func 36) [.ptr i 0 0 0,.int .i64 q] H=some (.int .i64 (aEg g t q st mv).1,H')∧MS g av gv i (aEg g t q st mv).2.1 (aEg g t q st mv).2.2 H':=by
 obtain ⟨sv,mvv,m1,m2,m3,m4,m5,m6⟩:=hM
 have hr:aBd g q=g.rules[q]:=by simp [aBd,hq]
 have hrl:=(hg.rule _ (Q6 hq)).right
 rw [aAp] at hrl
 have hleft:=(aGF h0).2.2 _ (Q6 hq)
 unfold aEg
 rw [hr]
 generalize hrr:g.rules[q]=r at hr hrl hleft ⊢
 have ldR:aA2 H 1 false (.ptr i 0 0 3)=some (.vsl false (g.rules.map aAt)):=aBz m1 rfl
 have ixR:aAs H 5 (.vsl false (g.rules.map aAt)) (.int .i64 q)=some (.vptr (aAt r) 0):=by rw [aBg aAt _ 5 _ g.rules _ q hq rfl,hrr]
 have al5:aA2 H 5 true (.vptr (aAt r) 0)=some (.agg (aAt r)):=rfl
 have s1:aAq (H++[.arr 0 5 true [[.int .i64 0,.nilS,.nilS,.str [],.int .i64 0]]]) 5 (.ptr H.length 0 0 0) (.agg (aAt r))=some (H++[.arr 0 5 true [aAt r]]):=aLH H 5 5 _ _ rfl rfl rfl
 have M1:(H++[.arr 0 5 true [aAt r]])[i]?=some (.arr 0 9 true [mC g av gv sv mvv]):=aAX m1 _
 have S1:=m2.app [.arr 0 5 true [aAt r]]
 have V1:=m3.app [.arr 0 5 true [aAt r]]
 have kr1:aA2 (H++[.arr 0 5 true [aAt r]]) 1 false (.ptr H.length 0 0 1)=some (.vsl false (eIs r.right)):=aBz (aB9 H _) rfl
 generalize hH1:H++[AObj.arr 0 5 true [aAt r]]=H1 at s1 M1 S1 V1 kr1
 have k7:aA2 H1 1 false (.ptr i 0 0 7)=some sv:=aBz M1 rfl
 have k8:aA2 H1 1 false (.ptr i 0 0 8)=some mvv:=aBz M1 rfl
 have k6:aA2 H1 1 false (.ptr i 0 0 6)=some gv:=aBz M1 rfl
 have hw1:IntKind.i64.wrap ((st.length:Int) - r.right.length)=(st.length:Int) - r.right.length:=w64 (by omega) (by omega)
 by_cases qA:(st.length:Int) - r.right.length < 1
 ·refine ⟨H1,aEi rfl aB6 1 ?_,?_⟩
  ·rw [if_pos (.inl qA)]
   rw [aBu]
   simp only [Zaf,Zag,Zah,Zam,Zan,Zao,Zaq,Zav,Zbc,Zbe,Zbh,Zbk,Zbm,Zbn,Zbo,Zbp,Zbq,Zbs,Zbt,Zbu,Zcc,Zcd,Zcf,Zck,Zcy,Zcz,Zda,Zdb,Zdc,Q4,Q5,Q2,Q3,Z1,Zdj,Zdl,Zdx,Zeb,Zet,decide_true,Q1,Q0,Nat.reduceAdd,Nat.reduceSub,eq_self,Q1,Q0,Q9,Z0,Q7,Q8,aFu,ldR,ixR,al5,s1,k7,S1.len,kr1,hw1,qA,aA6,aA5,aA7]
  ·rw [if_pos (.inl qA)]
   exact ⟨sv,mvv,M1,S1,V1,m4,m5,m6⟩
 ·obtain ⟨p,hp⟩:∃ p:Nat,(st.length:Int) - r.right.length=((p+1:Nat):Int):=⟨((st.length:Int) - r.right.length - 1).toNat,by omega⟩
  have hp1:st.length - r.right.length=p+1:=by omega
  have hps:p < st.length:=by omega
  have hpn:¬ (((p+1:Nat):Int) < 1):=by omega
  rw [hp] at hw1
  rw [hp1,Nat.add_sub_cancel]
  have hsp:=hst.2 _ (Q6 hps)
  obtain ⟨pt,g1,g2⟩:=S1.get p hps
  have egd:st.getD p 0=st[p]:=by simp [hps]
  rw [egd]
  obtain ⟨sn,hsn⟩:∃ sn:Nat,st[p]=(sn:Int):=⟨st[p].toNat,by omega⟩
  rw [hsn] at g2 hsp ⊢
  have hsn':sn < t.gotos.length:=by rw [ht.n3];omega
  obtain ⟨ov,o1,o2⟩:=hgv.ix sn hsn'
  have hrow:=ht.rg _ (Q6 hsn')
  obtain ⟨ln,hln⟩:∃ ln:Nat,r.left=(ln:Int):=⟨r.left.toNat,by omega⟩
  have hln':ln < (t.gotos[sn]).length:=by rw [hrow];omega
  have ixl:=fun h=>o1.ix h .i64 ln hln'
  have kl:aA2 H1 1 false (.ptr H.length 0 0 0)=some (.int .i64 ln):=by rw [← hH1];exact aBz (aB9 H _) (by rw [← hln];rfl)
  have eg:aEb t sn r.left=(t.gotos[sn])[ln]:=by rw [hln];simp [aEb,hsn',hln']
  rw [eg]
  generalize (t.gotos[sn])[ln]=x at ixl
  have hw2:IntKind.i64.wrap (((p+1:Nat):Int) - 1)=(p:Int):=by rw [w64 (by omega) (by omega)];omega
  have a2:∀ (y:AV),aA2 H1 1 false (.vptr [y] 0)=some y:=fun y=>rfl
  by_cases qB:x < 0
  ·refine ⟨H1,aEi rfl aB6 1 ?_,?_⟩
   ·rw [if_pos (.inr qB)]
    rw [aBu]
    simp only [Zaf,Zag,Zah,Zam,Zan,Zao,Zaq,Zav,Zbc,Zbe,Zbg,Zbl,Zbm,Zbn,Zbo,Zbp,Zbq,Zbs,Zbt,Zbu,Zcc,Zcd,Zcf,Zck,Zcy,Zcz,Zda,Zdb,Zdc,Q4,Q5,Q2,Q3,Z1,Zdj,Zdl,Zdx,Zeb,Zer,Zet,decide_true,decide_false,Q1,Q0,Nat.reduceAdd,Nat.reduceSub,eq_self,Q1,Q0,Q9,Z0,Q7,Q8,aFu,ldR,ixR,al5,s1,k7,k6,S1.len,kr1,hp,hw1,hw2,hpn,g1,g2,o2,a2,kl,ixl,qB,aA6,aA5,aA7]
   ·rw [if_pos (.inr qB)]
    exact ⟨sv,mvv,M1,S1,V1,m4,m5,m6⟩
  ·have hno:¬ (((p+1:Nat):Int) < 1∨x < 0):=by omega
   rw [hp,if_neg hno]
   by_cases qC:mv.length=100000
   ·have qC':(mv.length:Int)=100000:=by omega
    refine ⟨H1,aEi rfl aB6 1 ?_,?_⟩
    ·rw [if_pos qC]
     rw [aBu]
     simp only [Zae,Zaf,Zag,Zah,Zam,Zan,Zao,Zaq,Zav,Zaw,Zbc,Zbe,Zbg,Zbl,Zbm,Zbn,Zbo,Zbp,Zbq,Zbs,Zbt,Zbu,Zcc,Zcd,Zcf,Zck,Zcy,Zcz,Zda,Zdb,Zdc,Q4,Q5,Q2,Q3,Z1,Zdj,Zdl,Zdp,Zdx,Zeb,Zer,Zet,decide_true,decide_false,Q1,Q0,Nat.reduceAdd,Nat.reduceSub,eq_self,Q1,Q0,Q9,Z0,Q7,Q8,aFu,ldR,ixR,al5,s1,k7,k6,k8,S1.len,V1.len,kr1,hp,hw1,hw2,hpn,g1,g2,o2,a2,kl,ixl,qB,qC',aA6,aA5,aA7]
    ·rw [if_pos qC]
     exact ⟨sv,mvv,M1,S1,V1,m4,m5,m6⟩
   ·have qC':¬ ((mv.length:Int)=100000):=by omega
    rw [if_neg qC]
    obtain ⟨s2,sl1,sl2,sl3⟩:=S1.slice p (by omega)
    obtain ⟨s3,H2,H3,u1,u2,u3,u4,u5,u6,u7⟩:=aNL M1 sl2 (by rw [sl3];exact m4) V1 m5 (by rw [sl3];exact m6) x (by rw [List.length_take];omega)
    obtain ⟨mm3,H4,H5,y1,y2,y3⟩:=aR8 u3 u4 u6 u5 m5 u7 q (by omega)
    have k8':aA2 H3 1 false (.ptr i 0 0 8)=some mvv:=aBz u3 rfl
    refine ⟨H5,aEi rfl aB6 1 ?_,y3⟩
    rw [aBu]
    simp only [Zae,Zaf,Zag,Zah,Zam,Zan,Zao,Zaw,Zbc,Zbd,Zbe,Zbg,Zbl,Zbm,Zbn,Zbo,Zbp,Zbq,Zbs,Zbt,Zbu,Zca,Zcc,Zcd,Zcf,Zck,Zcm,Zcr,Zcy,Zcz,Zda,Zdb,Zdc,Q4,Q5,Q2,Q3,Z1,Zdj,Zdl,Zdp,Zdx,Zeb,Zer,Zet,decide_false,Q1,Q0,Nat.reduceAdd,Nat.reduceSub,eq_self,Q1,Q0,Q9,Z0,Q7,Q8,aFu,Option.map_none,ldR,ixR,al5,s1,k7,k6,k8,k8',S1.len,V1.len,kr1,hp,hw1,hw2,hpn,g1,g2,o2,a2,kl,ixl,qB,qC',sl1,aEN,ev2,u1,u2,y1,y2,aA6,aA5,aA7]
include ha
theorem aPa {i:Nat} {x:Nat} (hx:x < g.terms.length) (n:Nat):∀ (f m:Nat) (st mv:List Int) (H:aA0),MS g av gv i st mv H→aFv t st→f+mv.length=100001→mv.length≤100000→st.length+f≤500000000→f < m →
  ∃ H',MS g av gv i (aAL g t x f st mv).2.1 (aAL g t x f st mv).2.2 H'∧aAj (aA1 (lim G0.cfg) n aB7) m ⟨(.ptr i 0 0 0::.int .i64 x::J::J::J::J::J::J::J::J::J::J::J::J::J::J::J::J::J::J::J::J::J::J::J::J::J::J::J::J::J::J::J::J::J::J::J::J::J::J::J::J::J::J::J::J::J::J::J::J::J::J::J::J::J::J::J::J::J::J::[]),H⟩=some (.ret,⟨(J::J::J::J::.int .i64 (aAL g t x f st mv).1::J::J::J::J::J::J::J::J::J::J::J::J::J::J::J::J::J::J::J::J::J::J::J::J::J::J::J::J::J::J::J::J::J::J::J::J::J::J::J::J::J::J::J::J::J::J::J::J::J::J::J::J::J::J::J::[]),H'⟩):=by
 intro f
 induction f with
 | zero=>intro m st mv H hM hst h1 h2 h3 h4;omega
 | succ f ih =>
  intro m st mv H hM hst h1 h2 h3 h4
  obtain ⟨m,rfl⟩:∃ q,m=q+1:=⟨m - 1,by omega⟩
  have hM0:=hM
  obtain ⟨sv,mvv,m1,m2,m3,m4,m5,m6⟩:=hM
  have hne:=hst.1
  obtain ⟨p,hp⟩:∃ p,st.length=p+1:=⟨st.length - 1,by have:st.length≠0:=fun e=>hne (List.length_eq_zero_iff.1 e);omega⟩
  have hps:p < st.length:=by omega
  have hsp:=hst.2 _ (Q6 hps)
  obtain ⟨pt,g1,g2⟩:=m2.get p hps
  have elast:st.getLastD 0=st[p]:=by
   rw [List.getLastD_eq_getLast?,List.getLast?_eq_getElem?,hp,Nat.add_sub_cancel]
   simp [hps]
  obtain ⟨sn,hsn⟩:∃ sn:Nat,st[p]=(sn:Int):=⟨st[p].toNat,by omega⟩
  rw [hsn] at g2 hsp elast
  have hsn':sn < t.acts.length:=by omega
  obtain ⟨rv,r1,r2⟩:=ha.ix sn hsn'
  have hrow:=ht.ra _ (Q6 hsn')
  have hx':x < (t.acts[sn]).length:=by omega
  obtain ⟨cv,c1,c2⟩:=r1.ix x hx'
  have hac:=ht.ac _ (Q6 hsn') _ (Q6 hx')
  have eA:aIU t (st.getLastD 0) x=((t.acts[sn])[x]).head?:=by rw [elast];simp [aIU,hsn',hx']
  simp only [aAL,eA]
  generalize (t.acts[sn])[x]=cell at c1 hac ⊢
  have k7:aA2 H 1 false (.ptr i 0 0 7)=some sv:=aBz m1 rfl
  have k5:aA2 H 1 false (.ptr i 0 0 5)=some av:=aBz m1 rfl
  have a2:∀ (y:AV),aA2 H 1 false (.vptr [y] 0)=some y:=fun y=>rfl
  have hw:IntKind.i64.wrap ((st.length:Int) - 1)=(p:Int):=by rw [w64 (by omega) (by omega)];omega
  cases cell with
  | nil =>
   refine ⟨H,hM0,?_⟩
   simp only [aAb,aB4,Zae,Zaf,Zag,Zah,Zai,Zak,Zam,Zan,Zao,Zaq,Zas,Zav,Zba,Zbc,Zbm,Zbo,Zbs,Zbu,Zcc,Zcd,Zcf,Zck,Zcz,Zda,Zdb,Zdf,Zdg,Zdh,Q4,Q5,Q2,Q3,Zdj,Zdp,Zeb,decide_true,Q0,Nat.reduceAdd,eq_self,Q0,aFu,k7,k5,m2.len,hw,g1,g2,r2,c2,c1.len,a2,List.head?_nil,z0]
  | cons a rest =>
   obtain ⟨k,nn⟩:=a
   have hlen:¬ (((rest.length+1:Nat):Int)=0):=by omega
   have ix0:=fun h=>c1.ix h .i64 0 (by simp)
   simp only [z0,List.getElem_cons_zero] at ix0
   have al2:aA2 H 2 true (.vptr (aAv (k,nn)) 0)=some (.agg (aAv (k,nn))):=rfl
   have s1:aAq (H++[.arr 0 2 true [[.int .i64 0,.int .i64 0]]]) 2 (.ptr H.length 0 0 0) (.agg (aAv (k,nn)))=some (H++[.arr 0 2 true [aAv (k,nn)]]):=aLH H 2 2 _ _ rfl rfl rfl
   have hM1:=hM0.app [.arr 0 2 true [aAv (k,nn)]]
   have b0:aA2 (H++[.arr 0 2 true [aAv (k,nn)]]) 1 false (.ptr H.length 0 0 0)=some (.int .i64 k):=aBz (aB9 H _) rfl
   have b1:aA2 (H++[.arr 0 2 true [aAv (k,nn)]]) 1 false (.ptr H.length 0 0 1)=some (.int .i64 nn):=aBz (aB9 H _) rfl
   have M1:(H++[.arr 0 2 true [aAv (k,nn)]])[i]?=some (.arr 0 9 true [mC g av gv sv mvv]):=aAX m1 _
   have S1:=m2.app [.arr 0 2 true [aAv (k,nn)]]
   have V1:=m3.app [.arr 0 2 true [aAv (k,nn)]]
   have hA:=hac (k,nn) (List.mem_cons_self ..)
   simp only [List.head?_cons]
   generalize hH1:H++[AObj.arr 0 2 true [aAv (k,nn)]]=H1 at s1 M1 S1 V1 hM1 b0 b1
   have k7':aA2 H1 1 false (.ptr i 0 0 7)=some sv:=aBz M1 rfl
   by_cases k1:k=1
   ·subst k1
    obtain ⟨s3,H2,H3,u1,u2,u3,u4,u5,u6,u7⟩:=aNL M1 S1 m4 V1 m5 m6 nn (by omega)
    refine ⟨H3,⟨s3,mvv,u3,u4,u5,u6,m5,u7⟩,?_⟩
    simp only [aAb,aB4,Zae,Zaf,Zag,Zah,Zai,Zak,Zam,Zan,Zao,Zaq,Zar,Zas,Zav,Zaw,Zba,Zbc,Zbd,Zbe,Zbm,Zbo,Zbq,Zbs,Zbt,Zbu,Zcc,Zcd,Zcf,Zck,Zcm,Zcr,Zcz,Zda,Zdb,Zdc,Zdf,Zdg,Zdh,Q4,Q5,Q2,Q3,Zdj,Zdp,Zeb,decide_true,decide_false,Q1,Q0,if_true,if_false,Nat.reduceAdd,Int.reduceEq,eq_self,Q1,Q0,aFu,k7,k7',k5,m2.len,hw,g1,g2,r2,c2,c1.len,a2,hlen,ix0,al2,s1,b0,b1,aEN,ev2,u1,u2]
   ·rw [if_neg k1]
    by_cases k2:k=2
    ·subst k2
     obtain ⟨q,hq⟩:∃ q:Nat,nn=(q:Int):=⟨nn.toNat,by omega⟩
     subst hq
     obtain ⟨H2,w1,w2⟩:=aQo hgv hg ht h0 hM1 hst (by omega) h2 (q:=q) (by omega)
     have hD:(if (st.length:Int) - (aBd g q).right.length < 1∨aEb t (st.getD (st.length - (aBd g q).right.length - 1) 0) (aBd g q).left < 0 then ((34:Int),st,mv)
       else if mv.length=100000 then (29,st,mv)
       else aAL g t x f (st.take (st.length - (aBd g q).right.length)++[aEb t (st.getD (st.length - (aBd g q).right.length - 1) 0) (aBd g q).left]) (mv++[(q:Int)])) =
       if (aEg g t q st mv).1=0 then aAL g t x f (aEg g t q st mv).2.1 (aEg g t q st mv).2.2 else aEg g t q st mv:=by
      unfold aEg
      split
      ·rfl
      ·split
       ·rfl
       ·rfl
     simp only [if_true]
     rw [hD]
     by_cases e0:(aEg g t q st mv).1=0
     ·rw [if_pos e0]
      rw [e0] at w1
      have hred:aFv t (aEg g t q st mv).2.1∧(aEg g t q st mv).2.2.length=mv.length+1∧(aEg g t q st mv).2.2.length≤100000∧(aEg g t q st mv).2.1.length≤st.length+1:=by
       unfold aEg at e0 ⊢
       split at e0
       ·cases e0
       ·rename_i c1
        split at e0
        ·cases e0
        ·rename_i c2
         rw [if_neg c1,if_neg c2]
         refine ⟨⟨by simp,fun s hs => ?_⟩,by simp,by simp <;> omega,by simp <;> omega⟩
         rcases List.mem_append.1 hs with q1 | q1
         ·exact hst.2 s (List.mem_of_mem_take q1)
         ·simp only [List.mem_singleton] at q1
          subst q1
          exact ⟨by omega,aLZ ht _ _⟩
      obtain ⟨d1,d2,d3,d4⟩:=hred
      obtain ⟨H',v1,v2⟩:=ih m _ _ H2 w2 d1 (by omega) d3 (by omega) (by omega)
      refine ⟨H',v1,?_⟩
      simp only [aAb,aB4,Zae,Zaf,Zag,Zah,Zai,Zak,Zal,Zan,Zao,Zap,Zat,Zau,Zav,Zaw,Zay,Zbc,Zbd,Zbe,Zbm,Zbo,Zbq,Zbs,Zbt,Zbu,Zcc,Zcd,Zcf,Zck,Zct,Zcu,Zcz,Zda,Zdb,Zdc,Zdd,Zde,Zdf,Zdg,Zdh,Q4,Q5,Q2,Q3,Nat.reduceBEq,Zdj,Zdp,Zdq,Zeb,decide_true,decide_false,Bool.not_true,Q1,Q0,Nat.reduceAdd,Int.reduceEq,eq_self,Q1,Q0,Q7,Q8,aFu,k7,k5,m2.len,hw,g1,g2,r2,c2,c1.len,a2,hlen,ix0,al2,s1,b0,b1,w1,v2]
     ·rw [if_neg e0]
      refine ⟨H2,w2,?_⟩
      simp only [aAb,aB4,Zae,Zaf,Zag,Zah,Zai,Zak,Zam,Zan,Zao,Zaq,Zas,Zav,Zaw,Zba,Zbc,Zbd,Zbe,Zbm,Zbo,Zbq,Zbs,Zbt,Zbu,Zcc,Zcd,Zcf,Zck,Zct,Zcu,Zcz,Zda,Zdb,Zdc,Zdd,Zde,Zdf,Zdg,Zdh,Q4,Q5,Q2,Q3,Zdj,Zdp,Zdq,Zeb,decide_true,decide_false,Bool.not_false,Q1,Q0,Nat.reduceAdd,Int.reduceEq,eq_self,Q1,Q0,Q7,Q8,aFu,k7,k5,m2.len,hw,g1,g2,r2,c2,c1.len,a2,hlen,ix0,al2,s1,b0,b1,w1,e0]
    ·rw [if_neg k2]
     refine ⟨H1,hM1,?_⟩
     simp only [aAb,aB4,Zae,Zaf,Zag,Zah,Zai,Zak,Zam,Zan,Zao,Zaq,Zar,Zas,Zaw,Zba,Zbc,Zbe,Zbm,Zbo,Zbq,Zbs,Zbt,Zbu,Zcc,Zcd,Zcf,Zck,Zcz,Zda,Zdb,Zdc,Zdf,Zdg,Zdh,Q4,Q5,Q2,Q3,Zdj,Zdp,Zeb,decide_false,Q1,Q0,Nat.reduceAdd,eq_self,Q1,Q0,aFu,k7,k5,m2.len,hw,g1,g2,r2,c2,c1.len,a2,hlen,ix0,al2,s1,b0,k1,k2]
theorem aPs {i:Nat} {x:Nat} (hx:x < g.terms.length) {st mv:List Int} {H:aA0} (hM:MS g av gv i st mv H) (hst:aFv t st) (h2:mv.length≤100000) (h3:st.length≤400000000) :
  ∃ H',MS g av gv i (aAL g t x (100001 - mv.length) st mv).2.1 (aAL g t x (100001 - mv.length) st mv).2.2 H'∧lim G0.cfg (.func 25) [.ptr i 0 0 0,.int .i64 x] H=some (.int .i64 (aAL g t x (100001 - mv.length) st mv).1,H'):=by
 obtain ⟨H',v1,v2⟩:=aPa ha hgv hg ht h0 hx 100002 (100001 - mv.length) 100002 st mv H hM hst (by omega) h2 (by omega) (by omega)
 refine ⟨H',v1,aEi rfl aE3 100002 ?_⟩
 rw [aGx]
 simp only [Zaf,Zag,Zai,Zaj,Zak,Zan,Zao,Zas,Zax,Zbm,Zbo,Zcy,Zda,Zdb,Zdf,Zdg,Zdh,Q4,Q5,Q2,Q3,Z1,Q1,Q0,Nat.reduceAdd,Nat.reduceSub,eq_self,Q1,Q0,Q9,Z0,Q7,Q8,v2,aA6,aA5,aA7]
end
end Go.Proofs.Yteenffomgdfocaa.Ai
