/- The law: a run is the composition of single pushes, walked. -/
import Derived.Test.YteenffomgdfocaamXF
import Derived.Test.YteenffomgdfocaamLt5
namespace Go.Proofs.Yteenffomgdfocaa.Ai
open Go Go.Proofs
open AV renaming junk → J
open List renaming getD_cons_zero → Q0, getD_cons_succ → Q1, set_cons_zero → Q2, set_cons_succ → Q3, cons_append → Q4, getElem?_cons_zero → Q5, getElem?_cons_succ → Q6, nil_append → Q7, length_cons → Q8, length_nil → Z0, drop_eq_getElem_cons → Z2, replicate_succ → Z3, replicate_zero → Z4
open Bool renaming not_true → Q9, not_false → Z1
set_option linter.unusedVariables false
set_option linter.unusedSimpArgs false
set_option maxRecDepth 10000
set_option maxHeartbeats 8000000
theorem aQJ {a b:List Int} {v u:AV} (ha:Li a v) (hb:Li b u) (hm:a.length≤1000000000):∃ h',aAS (lim G0.cfg) (a.length+1) aDU [v,u] []=some (.bool (decide (a=b)),h'):=by
 rw [aOG]
 by_cases q:(a.length:Int)=b.length
 case neg =>
  have:¬ a=b:=fun e=>q (by rw [e])
  simp only [Zaf,Zag,Zah,Zam,Zan,Zao,Zaq,Zav,Zbc,Zbm,Zbo,Zbu,Zck,Zcy,Zcz,Zda,Zdb,Q2,Q3,Q0,Q1,Option.map_some,Zdq,decide_false,Z1,Q8,Z0,Nat.reduceAdd,Nat.reduceSub,eq_self,true_and,Q8,Z0,Z3,Z4,Q4,Q7,ha.len,hb.len,q,this,aA6,aA5,aA7,Option.some.injEq,Prod.mk.injEq,true_and,exists_eq']
 case pos =>
  have hl:a.length=b.length:=by omega
  have lp:∀ (d i m:Nat),a.length=i+d→d < m→aAj (aA1 (lim G0.cfg) (a.length+1) aDI) m ⟨[v,u,J,J,J,.int .i64 i,J,J,J,J,J,J,J,J,J,J,J,J,J,J,J,J,J,J,J,J],[]⟩=if a.drop i=b.drop i then some (.exit 0,⟨[J,J,J,J,J,J,J,J,J,J,J,J,J,J,J,J,J,J,J,J,J,J,J,J,J,J],[]⟩) else some (.ret,⟨[J,J,J,J,.bool false,J,J,J,J,J,J,J,J,J,J,J,J,J,J,J,J,J,J,J,J,J],[]⟩):=by
   intro d
   induction d with
   | zero =>
    intro i m h1 h2
    obtain ⟨m,rfl⟩:∃ q,m=q+1:=⟨m - 1,by omega⟩
    have h3:¬ ((i:Int) < a.length):=by omega
    have h4:¬ ((i:Int) < b.length):=by omega
    rw [List.drop_of_length_le (by omega:a.length≤i),List.drop_of_length_le (by omega:b.length≤i),if_pos rfl]
    simp only [aAb,aFx,Zaf,Zag,Zah,Zak,Zal,Zan,Zao,Zap,Zaw,Zaz,Zbc,Zbm,Zbo,Zbu,Zck,Zcz,Zdb,Zdg,Zdh,Q2,Q3,Q0,Q1,Zdl,decide_false,eq_self,ha.len,h3]
   | succ d ih =>
    intro i m h1 h2
    obtain ⟨m,rfl⟩:∃ q,m=q+1:=⟨m - 1,by omega⟩
    have h3:i < a.length:=by omega
    have h3b:i < b.length:=by omega
    have h3':(i:Int) < a.length:=by omega
    have hw:=aAV (n:=i) (by omega)
    have ix:=fun h=>ha.ix h .i64 i h3
    have ix2:=fun h=>hb.ix h .i64 i h3b
    have e1:=ih (i+1) m (by omega) (by omega)
    rw [Z2 h3,Z2 h3b]
    by_cases c:a[i]=b[i]
    ·rw [c]
     have:(b[i]::a.drop (i+1)=b[i]::b.drop (i+1))↔a.drop (i+1)=b.drop (i+1):=⟨fun e=>(List.cons.inj e).2,fun e=>by rw [e]⟩
     simp only [this]
     rw [← e1]
     rw [c] at ix
     simp only [aAb,aFx,Zae,Zaf,Zag,Zah,Zai,Zak,Zan,Zao,Zar,Zav,Zaw,Zay,Zbc,Zbm,Zbo,Zbs,Zbu,Zcf,Zck,Zcz,Zda,Zdb,Zdf,Zdg,Zdh,Q2,Q3,Q0,Q1,Zdi,Zdl,Zdq,Zer,decide_true,Q9,eq_self,ha.len,h3',ix,ix2,hw]
    ·have:¬ (a[i]::a.drop (i+1)=b[i]::b.drop (i+1)):=fun e=>c (List.cons.inj e).1
     rw [if_neg this]
     simp only [aAb,aFx,Zae,Zaf,Zag,Zah,Zai,Zak,Zam,Zan,Zao,Zaq,Zas,Zav,Zba,Zbc,Zbm,Zbo,Zbs,Zbu,Zcf,Zck,Zcz,Zda,Zdb,Zdf,Zdg,Zdh,Q2,Q3,Q0,Q1,Zdl,Zdq,Zer,decide_true,decide_false,Z1,eq_self,ha.len,h3',ix,ix2,c]
  have e:=lp a.length 0 (a.length+1) (by omega) (by omega)
  rw [z0,List.drop_zero,List.drop_zero] at e
  by_cases c:a=b
  ·rw [if_pos c] at e
   have dt:decide (a=b)=true:=decide_eq_true c
   rw [dt]
   simp only [Zae,Zaf,Zag,Zah,Zai,Zaj,Zak,Zam,Zan,Zao,Zat,Zaw,Zax,Zbc,Zbm,Zbo,Zbu,Zck,Zcy,Zcz,Zda,Zdb,Zdf,Zdg,Zdh,Q2,Q3,Q0,Q1,Option.map_some,Zdq,decide_true,Q9,Q8,Z0,Nat.reduceAdd,Nat.reduceSub,eq_self,true_and,Q8,Z0,Z3,Z4,Q4,Q7,ha.len,hb.len,q,e,aA6,aA5,aA7,Option.some.injEq,Prod.mk.injEq,true_and,exists_eq']
  ·rw [if_neg c] at e
   have dt:decide (a=b)=false:=decide_eq_false c
   rw [dt]
   simp only [Zae,Zaf,Zag,Zah,Zai,Zaj,Zak,Zan,Zao,Zaq,Zas,Zaw,Zax,Zbc,Zbm,Zbo,Zbu,Zck,Zcy,Zcz,Zda,Zdb,Zdf,Zdg,Zdh,Q2,Q3,Q0,Q1,Option.map_some,Zdq,decide_true,Q9,Q8,Z0,Nat.reduceAdd,Nat.reduceSub,eq_self,true_and,Q8,Z0,Z3,Z4,Q4,Q7,ha.len,hb.len,q,e,aA6,aA5,aA7,Option.some.injEq,Prod.mk.injEq,true_and,exists_eq']
theorem aS7 {a b:List Int} {v u v' u':AV} {c c':Bool} {H:aA0} (fa:freeze H 1000 v'=some (v,c)) (fb:freeze H 1000 u'=some (u,c')) (ha:Li a v) (hb:Li b u) (hm:a.length≤1000000000):lim G0.cfg (.func 10) [v',u'] H=some (.bool (decide (a=b)),H):=by
 obtain ⟨h',e⟩:=aQJ ha hb hm
 exact aHz rfl rfl aJA (a.length+1) (aFd fa fb) e (rfl:freeze h' 1000 (.bool (decide (a=b)))=some (.bool (decide (a=b)),true)) (Bool.or_true _)
theorem aPb (g:GramD) (t:TabD) (x:Int):∀ (f:Nat) (st mv:List Int),(aAL g t x f st mv).2.1.length≤st.length+f∧(mv.length≤100000→(aAL g t x f st mv).2.2.length≤100000):=by
 intro f
 induction f with
 | zero=>intro st mv;exact ⟨Nat.le_refl _,fun h=>h⟩
 | succ f ihf =>
  intro st mv
  simp only [aAL]
  split
  ·exact ⟨by simp,fun h=>h⟩
  ·split
   ·exact ⟨by simp <;> omega,fun h=>h⟩
   ·split
    ·split
     ·exact ⟨by simp,fun h=>h⟩
     ·split
      ·exact ⟨by simp,fun h=>h⟩
      ·rename_i c
       obtain ⟨q1,q2⟩:=ihf (st.take (st.length - (aBd g _).right.length)++[aEb t (st.getD (st.length - (aBd g _).right.length - 1) 0) (aBd g _).left]) (mv++[_])
       refine ⟨Nat.le_trans q1 (by simp <;> omega),fun h=>q2 (by simp <;> omega)⟩
    ·exact ⟨by simp,fun h=>h⟩
theorem Li.elems {l:List Int} {v:AV} (h:Li l v) (H:aA0):aAI H 1 v=some (eIs l):=by
 rcases h with ⟨rfl,rfl⟩ | ⟨e,rfl⟩
 ·rfl
 ·cases l with
  | nil=>rfl
  | cons a r=>simp [aAI,eIs,eI]
section
variable {t : TabD} {av gv : AV} (ha : LiG (LiG LiA) t.acts av) (hgv : LiR t.gotos gv) {g : GramD} (hg : g.Ok) (ht : TabOk g t) (h0 : aBl g = 0) (hl : TabLen t)
include ha hgv hg ht h0
theorem aQj (hk:∀ H,lim G0.cfg (.func 7) [] H=some (.bool true,H)) (cT:∀ H,lim G0.cfg (.func 34) [.agg (aA8 g),.agg [av,gv]] H=some (.bool true,H)) {wv mvv:AV} {w:List Int} (hw:Li w wv) (hwl:w.length≤1000) (hwt:∀ x ∈ w,isT g x=true)
  (R:List Int × Int × Int) (hR:Li R.1 mvv) (n:Nat):∀ (d i m:Nat) (st all:List Int) (sv alv:AV) (H:aA0),w.length+1=i+d→d < m→Li st sv→aFv t st→Own all alv H→H[0]?=some (.arr 0 5 true [aA8 g])→H[1]?=some (.arr 0 2 true [[av,gv]])→st.length+d*100001≤300000000→all.length+d*100001≤900000000 →
  aGW g t R ((aBp w).drop i) i st all=true→∃ H',
  (∃ all' alv',Own all' alv' H'∧R.2.2=0∧R.2.1=w.length∧R.1=all'∧all'.length≤900000000∧aAj (aA1 (lim G0.cfg) n aAE) m ⟨(J::J::wv::.ptr 0 0 0 0::.ptr 1 0 0 0::J::J::mvv::.int .i64 R.2.1::.int .i64 R.2.2::sv::alv::.int .i64 i::J::J::J::J::J::J::J::J::J::J::J::J::J::J::J::J::J::J::J::J::J::J::J::J::J::J::J::J::J::J::J::J::J::J::J::J::J::J::J::J::J::J::J::J::J::J::J::J::J::J::J::J::J::J::J::J::J::J::J::J::J::J::J::J::J::J::J::J::J::J::J::J::J::J::J::J::J::J::J::J::J::J::J::J::J::J::J::J::J::J::J::J::J::J::J::J::J::J::J::J::J::J::J::J::J::J::J::J::J::[]),H⟩=some (.exit 0,⟨(J::J::wv::J::J::J::J::mvv::.int .i64 R.2.1::.int .i64 R.2.2::J::alv'::J::J::J::J::J::J::J::J::J::J::J::J::J::J::J::J::J::J::J::J::J::J::J::J::J::J::J::J::J::J::J::J::J::J::J::J::J::J::J::J::J::J::J::J::J::J::J::J::J::J::J::J::J::J::J::J::J::J::J::J::J::J::J::J::J::J::J::J::J::J::J::J::J::J::J::J::J::J::J::J::J::J::J::J::J::J::J::J::J::J::J::J::J::J::J::J::J::J::J::J::J::J::J::J::J::J::J::J::J::J::[]),H'⟩)) ∨
  aAj (aA1 (lim G0.cfg) n aAE) m ⟨(J::J::wv::.ptr 0 0 0 0::.ptr 1 0 0 0::J::J::mvv::.int .i64 R.2.1::.int .i64 R.2.2::sv::alv::.int .i64 i::J::J::J::J::J::J::J::J::J::J::J::J::J::J::J::J::J::J::J::J::J::J::J::J::J::J::J::J::J::J::J::J::J::J::J::J::J::J::J::J::J::J::J::J::J::J::J::J::J::J::J::J::J::J::J::J::J::J::J::J::J::J::J::J::J::J::J::J::J::J::J::J::J::J::J::J::J::J::J::J::J::J::J::J::J::J::J::J::J::J::J::J::J::J::J::J::J::J::J::J::J::J::J::J::J::J::J::J::J::[]),H⟩=some (.ret,⟨(J::J::J::J::J::J::.bool true::J::J::J::J::J::J::J::J::J::J::J::J::J::J::J::J::J::J::J::J::J::J::J::J::J::J::J::J::J::J::J::J::J::J::J::J::J::J::J::J::J::J::J::J::J::J::J::J::J::J::J::J::J::J::J::J::J::J::J::J::J::J::J::J::J::J::J::J::J::J::J::J::J::J::J::J::J::J::J::J::J::J::J::J::J::J::J::J::J::J::J::J::J::J::J::J::J::J::J::J::J::J::J::J::J::J::J::J::J::J::J::J::J::J::J::[]),H'⟩):=by
 have hT:=(aGF h0).1
 intro d
 induction d with
 | zero =>
  intro i m st all sv alv H h1 h2 hs hst hal g0 g1 b1 b2 hlaw
  obtain ⟨m,rfl⟩:∃ q,m=q+1:=⟨m - 1,by omega⟩
  have h3:¬ ((i:Int)≤w.length):=by omega
  have:(aBp w).drop i=[]:=List.drop_eq_nil_iff.2 (by simp [aBp];omega)
  rw [this] at hlaw
  simp only [aGW,Bool.and_eq_true,decide_eq_true_eq] at hlaw
  refine ⟨H,.inl ⟨all,alv,hal,hlaw.1.1,by omega,hlaw.2,by omega,?_⟩⟩
  simp only [aAb,aAD,Zaf,Zag,Zah,Zak,Zal,Zan,Zao,Zap,Zaw,Zaz,Zbc,Zbm,Zbo,Zbu,Zck,Zcz,Zdb,Zdf,Zdg,Zdh,Q2,Q3,Q0,Q1,Zdm,decide_false,eq_self,hw.len,h3]
 | succ d ih =>
  intro i m st all sv alv H h1 h2 hs hst hal g0 g1 b1 b2 hlaw
  obtain ⟨m,rfl⟩:∃ q,m=q+1:=⟨m - 1,by omega⟩
  have h3:(i:Int)≤w.length:=by omega
  have hi:i < (aBp w).length:=by simp [aBp];omega
  have hws:=aAV (n:=i) (by omega)
  have ld0:aA2 H 5 true (.ptr 0 0 0 0)=some (.agg (aA8 g)):=aJf g0 rfl
  have ld1:aA2 H 2 true (.ptr 1 0 0 0)=some (.agg [av,gv]):=aJf g1 rfl
  obtain ⟨x,hx,hxe,hwalk⟩:∃ x:Nat,(x=0∨isT g x=true)∧(aBp w)[i]=(x:Int)∧((i < w.length∧∀ h,aAs h 1 wv (.int .i64 i)=some (.vptr (eI x) 0))∨(¬ i < w.length∧x=0)):=by
   by_cases hiw:i < w.length
   ·have e:(aBp w)[i]=w[i]:=by simp [aBp,hiw]
    have hi2:=hwt _ (List.getElem_mem hiw)
    have hi3:=hi2
    simp only [isT,Bool.and_eq_true,decide_eq_true_eq] at hi3
    obtain ⟨x,hx⟩:∃ x:Nat,w[i]=(x:Int):=⟨w[i].toNat,by omega⟩
    refine ⟨x,.inr (by rw [← hx];exact hi2),by rw [e,hx],.inl ⟨hiw,fun h => ?_⟩⟩
    have:=hw.ix h .i64 i hiw
    rw [hx] at this;exact this
   ·refine ⟨0,.inl rfl,?_,.inr ⟨hiw,rfl⟩⟩
    have:i=w.length:=by omega
    subst this
    simp [aBp]
  have edrop:(aBp w).drop i=(x:Int)::(aBp w).drop (i+1):=by rw [Z2 hi,hxe]
  rw [edrop] at hlaw
  simp only [aGW] at hlaw
  obtain ⟨s',m',p1,p2,p3⟩:=aS5 ha hgv hg ht h0 cT hs hst (by omega) hx
  have hok:=aIK ht x 100001 st [] hst
  obtain ⟨hl1,hl2⟩:=aPb g t x 100001 st []
  replace hl2:=hl2 (by simp)
  have hPR:aDN g t true st x=if (aAL g t x 100001 st []).1=0 then ((aAL g t x 100001 st []).2.1,(aAL g t x 100001 st []).2.2,0) else ([],[],(aAL g t x 100001 st []).1):=by simp [aDN]
  rw [hPR] at p1 p2 p3
  generalize aAL g t x 100001 st []=P at hlaw p1 p2 p3 hok hl1 hl2
  obtain ⟨e,st',mm⟩:=P
  simp only at hlaw p1 p2 p3 hok hl1 hl2
  by_cases e0:e=0
  ·subst e0
   simp only [if_true] at hlaw p1 p2 p3
   have hne:=hok.1
   rw [if_neg hne] at hlaw
   obtain ⟨alv',H2,a1,a2,a3⟩:=hal.append (p2.elems H) (by omega)
   have hsl:¬ ((st'.length:Int)=0):=fun e=>hne (List.length_eq_zero_iff.1 (by omega))
   have q0:=a3 0 _ g0 (fun ver l e=>by cases e)
   have q1:=a3 1 _ g1 (fun ver l e=>by cases e)
   have ec:((i:Int)+1)=((i+1:Nat):Int):=by omega
   rw [ec] at hlaw
   obtain ⟨H',hH'⟩:=ih (i+1) m st' (all++mm) s' alv' H2 (by omega) (by omega) p1 hok a2 q0 q1 (by omega) (by rw [List.length_append];omega) hlaw
   have st1:aAj (aA1 (lim G0.cfg) n aAE) (m+1) ⟨(J::J::wv::.ptr 0 0 0 0::.ptr 1 0 0 0::J::J::mvv::.int .i64 R.2.1::.int .i64 R.2.2::sv::alv::.int .i64 i::J::J::J::J::J::J::J::J::J::J::J::J::J::J::J::J::J::J::J::J::J::J::J::J::J::J::J::J::J::J::J::J::J::J::J::J::J::J::J::J::J::J::J::J::J::J::J::J::J::J::J::J::J::J::J::J::J::J::J::J::J::J::J::J::J::J::J::J::J::J::J::J::J::J::J::J::J::J::J::J::J::J::J::J::J::J::J::J::J::J::J::J::J::J::J::J::J::J::J::J::J::J::J::J::J::J::J::J::J::[]),H⟩ =
     aAj (aA1 (lim G0.cfg) n aAE) m ⟨(J::J::wv::.ptr 0 0 0 0::.ptr 1 0 0 0::J::J::mvv::.int .i64 R.2.1::.int .i64 R.2.2::s'::alv'::.int .i64 (i+1:Nat)::J::J::J::J::J::J::J::J::J::J::J::J::J::J::J::J::J::J::J::J::J::J::J::J::J::J::J::J::J::J::J::J::J::J::J::J::J::J::J::J::J::J::J::J::J::J::J::J::J::J::J::J::J::J::J::J::J::J::J::J::J::J::J::J::J::J::J::J::J::J::J::J::J::J::J::J::J::J::J::J::J::J::J::J::J::J::J::J::J::J::J::J::J::J::J::J::J::J::J::J::J::J::J::J::J::J::J::J::J::[]),H2⟩:=by
    rcases hwalk with ⟨w1,w2⟩ | ⟨w1,w2⟩
    ·have w1':(i:Int) < w.length:=by omega
     simp only [aAb,aAD,Zae,Zaf,Zag,Zah,Zai,Zak,Zan,Zao,Zar,Zav,Zaw,Zay,Zbc,Zbd,Zbm,Zbo,Zbs,Zbu,Zcf,Zcj,Zck,Zcm,Zct,Zcu,Zcz,Zda,Zdb,Zdd,Zde,Zdf,Zdg,Zdh,Q2,Q3,Q0,Q1,Zdi,Zdl,Zdm,Zdp,Zdq,Zeq,Zer,decide_true,decide_false,Q9,Q5,Q6,eq_self,Q4,Q7,h3,hw.len,w1',w2,ld0,ld1,p3,a1,p1.len,hsl,hws]
    ·have w1':¬ ((i:Int) < w.length):=by omega
     subst w2
     rw [z0] at p3
     simp only [aAb,aAD,Zae,Zaf,Zag,Zah,Zai,Zak,Zan,Zao,Zar,Zav,Zaw,Zay,Zbc,Zbd,Zbm,Zbo,Zbs,Zbu,Zcj,Zck,Zcm,Zct,Zcu,Zcz,Zda,Zdb,Zdd,Zde,Zdf,Zdg,Zdh,Q2,Q3,Q0,Q1,Zdi,Zdl,Zdm,Zdp,Zdq,Zeq,decide_true,decide_false,Q9,Q5,Q6,eq_self,Q4,Q7,h3,hw.len,w1',ld0,ld1,p3,a1,p1.len,hsl,hws]
   rw [st1]
   exact ⟨H',hH'⟩
  ·rw [if_neg e0] at hlaw p1 p2
   simp only [if_neg e0] at p3
   simp only [Bool.and_eq_true,Bool.or_eq_true,decide_eq_true_eq] at hlaw
   obtain ⟨⟨l1,l2⟩,l3⟩:=hlaw
   have hml:(R.1.length:Int)=0:=by rw [l3];rfl
   refine ⟨H,.inr ?_⟩
   rw [← l1]
   rw [← l1] at l2
   by_cases e31:e=31
   ·have hat:R.2.1=(i:Int):=l2.resolve_left (fun h=>h e31)
    subst e31
    rcases hwalk with ⟨w1,w2⟩ | ⟨w1,w2⟩
    ·have w1':(i:Int) < w.length:=by omega
     simp only [aAb,aAD,Zae,Zaf,Zag,Zah,Zai,Zak,Zam,Zan,Zao,Zaq,Zas,Zav,Zba,Zbc,Zbd,Zbf,Zbg,Zbk,Zbl,Zbm,Zbn,Zbo,Zbp,Zbs,Zbu,Zcf,Zcj,Zck,Zct,Zcu,Zcz,Zda,Zdb,Zdd,Zde,Zdf,Zdg,Zdh,Q2,Q3,Q0,Q1,Zdl,Zdm,Zdp,Zdq,Zeq,Zer,decide_true,decide_false,Q9,Z1,Q5,Q6,Int.reduceEq,eq_self,Q4,Q7,h3,hw.len,w1',w2,ld0,ld1,p3,hat,hR.len,hml,hk]
    ·have w1':¬ ((i:Int) < w.length):=by omega
     subst w2
     rw [z0] at p3
     simp only [aAb,aAD,Zae,Zaf,Zag,Zah,Zai,Zak,Zam,Zan,Zao,Zaq,Zas,Zav,Zaw,Zba,Zbc,Zbd,Zbf,Zbg,Zbk,Zbl,Zbm,Zbn,Zbo,Zbp,Zbs,Zbu,Zcj,Zck,Zct,Zcu,Zcz,Zda,Zdb,Zdd,Zde,Zdf,Zdg,Zdh,Q2,Q3,Q0,Q1,Zdl,Zdm,Zdp,Zdq,Zeq,decide_true,decide_false,Q9,Z1,Q5,Q6,Int.reduceEq,eq_self,Q4,Q7,h3,hw.len,w1',ld0,ld1,p3,hat,hR.len,hml,hk]
   ·rcases hwalk with ⟨w1,w2⟩ | ⟨w1,w2⟩
    ·have w1':(i:Int) < w.length:=by omega
     simp only [aAb,aAD,Zae,Zaf,Zag,Zah,Zai,Zak,Zam,Zan,Zao,Zaq,Zas,Zav,Zba,Zbc,Zbd,Zbf,Zbh,Zbk,Zbm,Zbn,Zbo,Zbp,Zbs,Zbu,Zcf,Zcj,Zck,Zct,Zcu,Zcz,Zda,Zdb,Zdd,Zde,Zdf,Zdg,Zdh,Q2,Q3,Q0,Q1,Zdl,Zdm,Zdp,Zdq,Zeq,Zer,decide_true,decide_false,Z1,Q5,Q6,eq_self,Q4,Q7,h3,hw.len,w1',w2,ld0,ld1,p3,e0,e31,hR.len,hml,hk]
    ·have w1':¬ ((i:Int) < w.length):=by omega
     subst w2
     rw [z0] at p3
     simp only [aAb,aAD,Zae,Zaf,Zag,Zah,Zai,Zak,Zam,Zan,Zao,Zaq,Zas,Zav,Zaw,Zba,Zbc,Zbd,Zbf,Zbh,Zbk,Zbm,Zbn,Zbo,Zbp,Zbs,Zbu,Zcj,Zck,Zct,Zcu,Zcz,Zda,Zdb,Zdd,Zde,Zdf,Zdg,Zdh,Q2,Q3,Q0,Q1,Zdl,Zdm,Zdp,Zdq,Zeq,decide_true,decide_false,Z1,Q5,Q6,eq_self,Q4,Q7,h3,hw.len,w1',ld0,ld1,p3,e0,e31,hR.len,hml,hk]
end
end Go.Proofs.Yteenffomgdfocaa.Ai
namespace Go.Proofs.Yteenffomgdfocaa.Ai
open Go Go.Proofs
open AV renaming junk → J
open List renaming set_cons_zero → Q0, length_cons → Q1, cons_append → Q2, length_nil → Q3, nil_append → Q4, getElem?_cons_zero → Q5, getElem?_cons_succ → Q6, getD_cons_zero → Q7, getD_cons_succ → Q8, take_succ_cons → Q9, set_cons_succ → Z0, replicate_succ → Z2, replicate_zero → Z3, drop_zero → Z4, take_nil → Z6
open Option renaming bind_some → Z1, map_some → Z7
open Option.some renaming injEq → Z5
open Bool renaming not_true → Z8, not_false → Z9
set_option linter.unusedVariables false
set_option linter.unusedSimpArgs false
set_option maxRecDepth 10000
set_option maxHeartbeats 8000000
section
variable {t : TabD} {av gv : AV} (ha : LiG (LiG LiA) t.acts av) (hgv : LiR t.gotos gv) {g : GramD} (hg : g.Ok) (hl : TabLen t)
include ha hgv hg hl
theorem aNb (hk:∀ H,lim G0.cfg (.func 7) [] H=some (.bool true,H)) {wv:AV} {w:List Int} (hw:Li w wv) (H:aA0):lim G0.cfg (.func 3) [.agg (aA8 g),.agg [av,gv],wv] H=some (.bool true,H):=by
 refine aAy rfl rfl aGz 100 (fun h=>aQk (aAU g h) (aEy ha hgv h) (hw.fz h 999)) ?_ (fun _=>rfl) H
 obtain ⟨b1,c1⟩:=aSB ha hgv hl g hg
 have c2:=aNJ g hg
 obtain ⟨b3,hb3,c3⟩:=aQ8 ha hgv hl g hg
 rw [aGy]
 cases b1
 case false=>simp only [Zaf,Zag,Zah,Zam,Zan,Zao,Zaq,Zav,Zbc,Zbd,Zbh,Zbk,Zbm,Zbn,Zbo,Zbp,Zbr,Zbs,Zbv,Zct,Zcu,Zcw,Zcy,Zcz,Zda,Zdb,Zdd,Zde,Q0,Z0,Q7,Q8,Z1,Z7,Zdv,Zee,Zef,Z9,Q5,Q6,Q1,Q3,if_true,Nat.reduceAdd,Nat.reduceSub,Nat.reduceLeDiff,eq_self,true_and,Q1,Q3,Z2,Z3,Q2,Q4,aA2,aA4,aA3,part,Z4,Q9,Z6,Q2,Q4,Q0,c1,hk,aA6,aA5,aA7,Z5,Prod.mk.injEq,true_and,exists_eq']
 by_cases q1:(30:Int) < w.length
 case pos=>simp only [Zaf,Zag,Zah,Zam,Zan,Zao,Zaq,Zav,Zbc,Zbd,Zbg,Zbh,Zbk,Zbl,Zbm,Zbn,Zbo,Zbp,Zbr,Zbs,Zbu,Zbv,Zck,Zct,Zcu,Zcw,Zcy,Zcz,Zda,Zdb,Zdd,Zde,Q0,Z0,Q7,Q8,Z1,Z7,Zdn,Zdv,Zee,Zef,decide_true,Z8,Q5,Q6,Q1,Q3,if_true,Nat.reduceAdd,Nat.reduceSub,Nat.reduceLeDiff,eq_self,true_and,Q1,Q3,Z2,Z3,Q2,Q4,aA2,aA4,aA3,part,Z4,Q9,Z6,Q2,Q4,Q0,c1,hw.len,q1,hk,aA6,aA5,aA7,Z5,Prod.mk.injEq,true_and,exists_eq']
 by_cases h0:aBl g=0
 case neg=>simp only [Zaf,Zag,Zah,Zam,Zan,Zao,Zaq,Zav,Zbc,Zbd,Zbg,Zbh,Zbk,Zbl,Zbm,Zbn,Zbo,Zbp,Zbr,Zbs,Zbu,Zbv,Zck,Zct,Zcu,Zcw,Zcy,Zcz,Zda,Zdb,Zdd,Zde,Q0,Z0,Q7,Q8,Z1,Z7,Zdn,Zdq,Zdv,Zee,Zef,decide_false,Z8,Z9,Q5,Q6,Q1,Q3,if_true,Nat.reduceAdd,Nat.reduceSub,Nat.reduceLeDiff,eq_self,true_and,Q1,Q3,Z2,Z3,Q2,Q4,aA2,aA4,aA3,part,Z4,Q9,Z6,Q2,Q4,Q0,c1,c2,h0,hw.len,q1,hk,aA6,aA5,aA7,Z5,Prod.mk.injEq,true_and,exists_eq']
 rw [h0] at c2
 cases b3
 case false=>simp only [Zaf,Zag,Zah,Zam,Zan,Zao,Zaq,Zav,Zbc,Zbd,Zbg,Zbl,Zbm,Zbn,Zbo,Zbp,Zbr,Zbs,Zbu,Zbv,Zck,Zct,Zcu,Zcw,Zcy,Zcz,Zda,Zdb,Zdd,Zde,Q0,Z0,Q7,Q8,Z1,Z7,Zdn,Zdq,Zdv,Zee,Zef,decide_true,decide_false,Z8,Z9,Q5,Q6,Q1,Q3,if_true,Nat.reduceAdd,Nat.reduceSub,Nat.reduceLeDiff,eq_self,true_and,Q1,Q3,Z2,Z3,Q2,Q4,aA2,aA4,aA3,part,Z4,Q9,Z6,Q2,Q4,Q0,c1,c2,c3,hw.len,q1,hk,aA6,aA5,aA7,Z5,Prod.mk.injEq,true_and,exists_eq']
 obtain ⟨ht,_⟩:=hb3 rfl
 obtain ⟨b,cT⟩:=aQm ha hgv hl g hg h0
 obtain ⟨mvv,m1,m2⟩:=aSC ha hgv hg ht h0 cT hw (by omega)
 by_cases e21:(aDv g t b w).2.2=21
 case pos =>
  rw [e21] at m2
  simp only [Zae,Zaf,Zag,Zah,Zam,Zan,Zao,Zaq,Zav,Zaw,Zbc,Zbd,Zbg,Zbh,Zbk,Zbl,Zbm,Zbn,Zbo,Zbp,Zbr,Zbs,Zbu,Zbv,Zcj,Zck,Zct,Zcu,Zcw,Zcy,Zcz,Zda,Zdb,Zdd,Zde,Q0,Z0,Q7,Q8,Z1,Z7,Zdn,Zdp,Zdq,Zdv,Zee,Zef,Zeq,decide_true,decide_false,Z8,Q5,Q6,Q1,Q3,if_true,Nat.reduceAdd,Nat.reduceSub,Nat.reduceLeDiff,eq_self,true_and,Q1,Q3,Z2,Z3,Q2,Q4,aA2,aA4,aA3,part,Z4,Q9,Z6,Q2,Q4,Q0,c1,c2,c3,hw.len,q1,m2,hk,aA6,aA5,aA7,Z5,Prod.mk.injEq,true_and,exists_eq']
 by_cases e29:(aDv g t b w).2.2=29
 case pos =>
  rw [e29] at m2
  simp only [Zae,Zaf,Zag,Zah,Zam,Zan,Zao,Zaq,Zav,Zaw,Zbc,Zbd,Zbg,Zbl,Zbm,Zbn,Zbo,Zbp,Zbr,Zbs,Zbu,Zbv,Zcj,Zck,Zct,Zcu,Zcw,Zcy,Zcz,Zda,Zdb,Zdd,Zde,Q0,Z0,Q7,Q8,Z1,Z7,Zdn,Zdp,Zdq,Zdv,Zee,Zef,Zeq,decide_true,decide_false,Z8,Q5,Q6,Q1,Q3,if_true,Nat.reduceAdd,Nat.reduceSub,Nat.reduceLeDiff,Int.reduceEq,eq_self,true_and,Q1,Q3,Z2,Z3,Q2,Q4,aA2,aA4,aA3,part,Z4,Q9,Z6,Q2,Q4,Q0,c1,c2,c3,hw.len,q1,m2,hk,aA6,aA5,aA7,Z5,Prod.mk.injEq,true_and,exists_eq']
 have hst:aFv t [0]:=⟨by simp,fun s hs=>by simp at hs;subst hs;have:=ht.n1;omega⟩
 cases b
 case false =>
  -- the table is none of the program's: both say so
  have hR:aDv g t false w=([],0,34):=by simp [aDv]
  rw [hR] at m1 m2
  have hp:∀ x:Nat,(x=0∨isT g x=true)→True:=fun _ _=>trivial
  have cw:=aKh ha hgv hg h0 cT
  have cP:∀ (sv:AV) (x:Int) (H:aA0),Li [0] sv→lim G0.cfg (.func 9) [.agg (aA8 g),.agg [av,gv],sv,.int .i64 x] H=some (.tup [.nilS,.nilS,.int .i64 34],H):=by
   intro sv x H hs
   refine aAy rfl rfl aDT 2 (fun h => ?_) ?_ (fun _=>rfl) H
   ·have e1:freeze h 1000 (.int .i64 x)=some (.int .i64 x,true):=rfl
    simp only [aAk,aAU,aEy ha hgv,hs.fz h 999,e1,List.map_cons,List.map_nil]
   ·rw [aDS]
    simp only [Zaf,Zag,Zah,Zam,Zan,Zao,Zaq,Zav,Zbc,Zbd,Zbm,Zbo,Zbr,Zbs,Zbu,Zct,Zcu,Zcw,Zcy,Zcz,Zda,Zdb,Zdd,Zde,Q0,Z0,Q7,Q8,Z1,Z7,Zdq,Zee,Zef,decide_false,Z9,Q5,Q6,Q1,Q3,if_true,if_false,Nat.reduceAdd,Nat.reduceSub,Nat.reduceLeDiff,Int.reduceEq,eq_self,true_and,Q1,Q3,Z2,Z3,Q2,Q4,aA2,aA4,aA3,part,Z4,Q9,Z6,Q2,Q4,Q0,cw,aA6,aA5,aA7,Z5,Prod.mk.injEq,true_and,exists_eq',Bool.false_eq_true]
  have cP0:=fun x H=>cP (.vsl true [[.int .i64 0]]) x H (.inr ⟨true,rfl⟩)
  have h3:(0:Int)≤w.length:=by omega
  have lp:aAj (aA1 (lim G0.cfg) 100 aAE) 100 ⟨(J::J::wv::.ptr 0 0 0 0::.ptr 1 0 0 0::J::J::mvv::.int .i64 0::.int .i64 34::.vsl true [[.int .i64 0]]::.nilS::.int .i64 0::J::J::J::J::J::J::J::J::J::J::J::J::J::J::J::J::J::J::J::J::J::J::J::J::J::J::J::J::J::J::J::J::J::J::J::J::J::J::J::J::J::J::J::J::J::J::J::J::J::J::J::J::J::J::J::J::J::J::J::J::J::J::J::J::J::J::J::J::J::J::J::J::J::J::J::J::J::J::J::J::J::J::J::J::J::J::J::J::J::J::J::J::J::J::J::J::J::J::J::J::J::J::J::J::J::J::J::J::J::[]),[.arr 0 5 true [aA8 g],.arr 0 2 true [[av,gv]]]⟩=some (.ret,⟨(J::J::J::J::J::J::.bool true::J::J::J::J::J::J::J::J::J::J::J::J::J::J::J::J::J::J::J::J::J::J::J::J::J::J::J::J::J::J::J::J::J::J::J::J::J::J::J::J::J::J::J::J::J::J::J::J::J::J::J::J::J::J::J::J::J::J::J::J::J::J::J::J::J::J::J::J::J::J::J::J::J::J::J::J::J::J::J::J::J::J::J::J::J::J::J::J::J::J::J::J::J::J::J::J::J::J::J::J::J::J::J::J::J::J::J::J::J::J::J::J::J::J::J::[]),[.arr 0 5 true [aA8 g],.arr 0 2 true [[av,gv]]]⟩):=by
   show aAj _ (99+1) _=_
   have hml:aBt [.arr 0 5 true [aA8 g],.arr 0 2 true [[av,gv]]] .slice mvv=some (.int .i64 (([]:List Int).length:Nat)):=m1.len _
   rw [Q3,z0] at hml
   by_cases hz:(0:Int) < w.length
   ·have ix:=fun h=>hw.ix h .i64 0 (by omega)
    simp only [z0] at ix
    simp only [aAb,aAD,Zae,Zaf,Zag,Zah,Zai,Zak,Zam,Zan,Zao,Zaq,Zas,Zav,Zba,Zbc,Zbd,Zbf,Zbh,Zbk,Zbm,Zbn,Zbo,Zbp,Zbs,Zbu,Zcf,Zcj,Zck,Zct,Zcu,Zcz,Zda,Zdb,Zdd,Zde,Zdf,Zdg,Zdh,Q0,Z0,Q7,Q8,Z1,Zdl,Zdm,Zdp,Zdq,Zed,Zee,Zeq,decide_true,decide_false,Z9,Q5,Q6,Q1,Q3,if_true,Nat.reduceAdd,Nat.reduceLeDiff,Int.reduceEq,eq_self,Q1,Q3,Q2,Q4,aA2,aA4,aA3,part,eI,Z4,Q9,Z6,Q2,Q4,Q0,h3,hw.len,hz,ix,cP0,hml,hk]
   ·simp only [aAb,aAD,Zae,Zaf,Zag,Zah,Zai,Zak,Zam,Zan,Zao,Zaq,Zas,Zav,Zaw,Zba,Zbc,Zbd,Zbf,Zbh,Zbk,Zbm,Zbn,Zbo,Zbp,Zbs,Zbu,Zcj,Zck,Zct,Zcu,Zcz,Zda,Zdb,Zdd,Zde,Zdf,Zdg,Zdh,Q0,Z0,Q7,Q8,Z1,Zdl,Zdm,Zdp,Zdq,Zee,Zeq,decide_true,decide_false,Z9,Q5,Q6,Q1,Q3,if_true,Nat.reduceAdd,Nat.reduceLeDiff,Int.reduceEq,eq_self,Q1,Q3,Q2,Q4,aA2,aA4,aA3,part,Z4,Q9,Z6,Q2,Q4,Q0,h3,hw.len,hz,cP0,hml,hk]
  simp only [Zae,Zaf,Zag,Zah,Zai,Zaj,Zak,Zan,Zao,Zaq,Zas,Zaw,Zax,Zbc,Zbd,Zbg,Zbl,Zbm,Zbn,Zbo,Zbp,Zbr,Zbs,Zbu,Zbv,Zcj,Zck,Zcr,Zct,Zcu,Zcw,Zcy,Zcz,Zda,Zdb,Zdd,Zde,Zdf,Zdg,Zdh,Q0,Z0,Q7,Q8,Z1,Z7,Zdn,Zdp,Zdq,Zdv,Zee,Zef,Zeq,decide_true,decide_false,Z8,Q5,Q6,Q1,Q3,if_true,Nat.reduceAdd,Nat.reduceSub,Nat.reduceLeDiff,Int.reduceEq,eq_self,true_and,Q1,Q3,Z2,Z3,Q2,Q4,aA2,aA4,aA3,part,Z4,Q9,Z6,Q2,Q4,Q0,c1,c2,c3,hw.len,q1,m2,ev2,aEN,lp,aA6,aA5,aA7,Z5,Prod.mk.injEq,true_and,exists_eq']
 case true =>
  have hany:(w.any fun x => !isT g x)=false:=by
   cases e:(w.any fun x => !isT g x) with
   | false=>rfl
   | true=>exact absurd (by simp [aDv,e]) e21
  have hwt:∀ x ∈ w,isT g x=true:=fun x hx=>by
   have:=List.any_eq_false.1 hany x hx
   simpa using this
  have hR:aDv g t true w=aCk g t (aBp w) 0 [0] []:=by simp [aDv,hany]
  rw [hR] at m1 m2 e21 e29
  have hlaw:=aRf g t ht (aBp w) 0 [0] [] hst (by simp) e29
  obtain ⟨R,hRR⟩:∃ R,R=aCk g t (aBp w) 0 [0] []:=⟨_,rfl⟩
  rw [← hRR] at m1 m2 e21 e29 hlaw
  obtain ⟨H',hH'⟩:=aQj ha hgv hg ht h0 hk cT hw (by omega) hwt R m1 100 (w.length+1) 0 100 [0] [] (.vsl true [[.int .i64 0]]) .nilS [.arr 0 5 true [aA8 g],.arr 0 2 true [[av,gv]]] (by omega) (by omega) (.inr ⟨true,rfl⟩) hst (.nil _) rfl rfl (by simp;omega) (by simp;omega) (by rw [Z4];exact hlaw)
  rw [z0] at hH'
  rcases hH' with ⟨all',alv',a1,a2,a3,a4,a5,a6⟩ | h
  ·obtain ⟨fv,fc,hfr⟩:∃ fv fc,freeze H' 1000 alv'=some (fv,fc)∧Li all' fv:=by
    obtain ⟨c,e⟩:=a1.freeze
    exact ⟨_,c,e,aRb _⟩
   have cI:lim G0.cfg (.func 10) [mvv,alv'] H'=some (.bool true,H'):=by
    have ci:=aS7 (m1.fz H' 999) hfr.1 m1 hfr.2 (by rw [a4];omega)
    rw [a4] at ci
    simpa using ci
   rw [a2] at m2 a6 e21 e29
   rw [a3] at m2 a6
   simp only [Zae,Zaf,Zag,Zah,Zai,Zaj,Zak,Zam,Zan,Zao,Zat,Zaw,Zax,Zbc,Zbd,Zbf,Zbg,Zbk,Zbl,Zbm,Zbn,Zbo,Zbp,Zbr,Zbs,Zbu,Zbv,Zcj,Zck,Zcr,Zct,Zcu,Zcw,Zcy,Zcz,Zda,Zdb,Zdd,Zde,Zdf,Zdg,Zdh,Q0,Z0,Q7,Q8,Z1,Z7,Zdn,Zdp,Zdq,Zdv,Zee,Zef,Zeq,decide_true,decide_false,Z8,Q5,Q6,Q1,Q3,if_true,Nat.reduceAdd,Nat.reduceSub,Nat.reduceLeDiff,Int.reduceEq,eq_self,true_and,Q1,Q3,Z2,Z3,Q2,Q4,aA2,aA4,aA3,part,Z4,Q9,Z6,Q2,Q4,Q0,c1,c2,c3,hw.len,q1,m2,ev2,aEN,a6,cI,hk,aA6,aA5,aA7,Z5,Prod.mk.injEq,true_and,exists_eq']
  ·simp only [Zae,Zaf,Zag,Zah,Zai,Zaj,Zak,Zan,Zao,Zaq,Zas,Zaw,Zax,Zbc,Zbd,Zbg,Zbl,Zbm,Zbn,Zbo,Zbp,Zbr,Zbs,Zbu,Zbv,Zcj,Zck,Zcr,Zct,Zcu,Zcw,Zcy,Zcz,Zda,Zdb,Zdd,Zde,Zdf,Zdg,Zdh,Q0,Z0,Q7,Q8,Z1,Z7,Zdn,Zdp,Zdq,Zdv,Zee,Zef,Zeq,decide_true,decide_false,Z8,Q5,Q6,Q1,Q3,if_true,Nat.reduceAdd,Nat.reduceSub,Nat.reduceLeDiff,eq_self,true_and,Q1,Q3,Z2,Z3,Q2,Q4,aA2,aA4,aA3,part,Z4,Q9,Z6,Q2,Q4,Q0,c1,c2,c3,hw.len,q1,m2,e21,e29,ev2,aEN,h,aA6,aA5,aA7,Z5,Prod.mk.injEq,true_and,exists_eq']
end
end Go.Proofs.Yteenffomgdfocaa.Ai
