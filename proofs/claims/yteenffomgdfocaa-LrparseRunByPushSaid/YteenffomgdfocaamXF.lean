/- Run and Push, walked. -/
import Derived.Test.YteenffomgdfocaamLt7
import Derived.Test.YteenffomgdfocaamXD
namespace Go.Proofs.Yteenffomgdfocaa.Ai
open Go Go.Proofs
open AV renaming junk → J
open List renaming set_cons_zero → Q0, cons_append → Q1, nil_append → Q2, getD_cons_zero → Q3, getD_cons_succ → Q4, length_cons → Q5, set_cons_succ → Q6, length_nil → Q7, replicate_succ → Q8, replicate_zero → Q9, take_succ_cons → Z1, drop_zero → Z4, getElem?_cons_zero → Z5, take_zero → Z6
open Option.some renaming injEq → Z0
open Option renaming map_some → Z2, bind_some → Z3
set_option linter.unusedVariables false
set_option linter.unusedSimpArgs false
set_option maxRecDepth 10000
set_option maxHeartbeats 8000000
def isT (g:GramD) (x:Int):Bool:=decide (2≤x) && decide (x < g.terms.length)
theorem aM7 (g:GramD) (x:Int) (H:aA0):lim G0.cfg (.func 24) [.agg (aA8 g),.int .i64 x] H=some (.bool (isT g x),H):=by
 refine aAy rfl rfl aFZ 1 (fun h=>aDX (aAU g h) rfl) ?_ (fun _=>rfl) H
 rw [aIX]
 unfold isT
 by_cases q1:2≤x
 ·by_cases q2:x < g.terms.length
  ·simp only [Zaf,Zag,Zam,Zan,Zao,Zbc,Zbd,Zbf,Zbk,Zbm,Zbn,Zbo,Zbp,Zbr,Zbs,Zbu,Zcc,Zck,Zcw,Zcy,Zcz,Zda,Zdb,Q0,Q6,Q3,Q4,Z3,Z2,Zdl,Zdo,Zdx,Zeb,Zed,Zef,Zeu,decide_true,Z5,Q5,Q7,if_true,Nat.reduceAdd,Nat.reduceSub,Nat.reduceLeDiff,eq_self,true_and,Q5,Q7,Q8,Q9,Q1,Q2,aA2,aA4,aA3,part,Bool.and_self,Z4,Z1,Z6,Q1,Q2,Q0,q1,q2,aA6,aA5,aA7,Z0,Prod.mk.injEq,true_and,exists_eq']
  ·simp only [Zaf,Zag,Zam,Zan,Zao,Zbc,Zbd,Zbf,Zbk,Zbm,Zbn,Zbo,Zbp,Zbr,Zbs,Zbu,Zcc,Zck,Zcw,Zcy,Zcz,Zda,Zdb,Q0,Q6,Q3,Q4,Z3,Z2,Zdl,Zdo,Zdx,Zeb,Zed,Zef,Zeu,decide_true,decide_false,Z5,Q5,Q7,if_true,Nat.reduceAdd,Nat.reduceSub,Nat.reduceLeDiff,eq_self,true_and,Q5,Q7,Q8,Q9,Q1,Q2,aA2,aA4,aA3,part,Z4,Z1,Z6,Q1,Q2,Q0,q1,q2,aA6,aA5,aA7,Z0,Prod.mk.injEq,true_and,Bool.and_false,exists_eq']
 ·simp only [Zaf,Zag,Zam,Zan,Zao,Zbc,Zbd,Zbi,Zbl,Zbm,Zbn,Zbo,Zbp,Zbr,Zbu,Zcw,Zcy,Zcz,Zda,Zdb,Q0,Q6,Q3,Q4,Z2,Zdo,Zef,decide_false,Q5,Q7,if_true,Nat.reduceAdd,Nat.reduceSub,eq_self,true_and,Q5,Q7,Q8,Q9,Q1,Q2,Q1,Q2,Q0,q1,aA6,aA5,aA7,Z0,Prod.mk.injEq,true_and,Bool.false_and,exists_eq']
theorem aS4 (g:GramD) (x:Int) (H:aA0):lim G0.cfg (.func 23) [.int .i64 x,.vptr (aA8 g) 0] H=some (.bool (!isT g x),H):=by
 refine aAy rfl rfl aGk 1 (fun h=>aDX rfl rfl) ?_ (fun _=>rfl) H
 have c:=aM7 g x
 rw [aJv]
 generalize isT g x=b at c
 cases b
 ·simp only [Zaf,Zag,Zam,Zan,Zao,Zbc,Zbd,Zbm,Zbo,Zbs,Zbv,Zct,Zcu,Zcy,Zcz,Zda,Zdb,Zdd,Zde,Q0,Q6,Q3,Q4,Z3,Z2,Zdv,Zee,Bool.not_false,Q5,Q7,if_true,Nat.reduceAdd,Nat.reduceSub,Nat.reduceLeDiff,eq_self,true_and,Q5,Q7,Q8,Q9,Q1,Q2,aA2,aA4,part,Z4,Z1,List.take_nil,Q1,Q2,Q0,c,aA6,aA5,aA7,Z0,Prod.mk.injEq,true_and,exists_eq']
 ·simp only [Zaf,Zag,Zam,Zan,Zao,Zbc,Zbd,Zbm,Zbo,Zbs,Zbv,Zct,Zcu,Zcy,Zcz,Zda,Zdb,Zdd,Zde,Q0,Q6,Q3,Q4,Z3,Z2,Zdv,Zee,Bool.not_true,Q5,Q7,if_true,Nat.reduceAdd,Nat.reduceSub,Nat.reduceLeDiff,eq_self,true_and,Q5,Q7,Q8,Q9,Q1,Q2,aA2,aA4,part,Z4,Z1,List.take_nil,Q1,Q2,Q0,c,aA6,aA5,aA7,Z0,Prod.mk.injEq,true_and,exists_eq']
section
variable {t : TabD} {av gv : AV} (ha : LiG (LiG LiA) t.acts av) (hgv : LiR t.gotos gv)
include ha
theorem aRq (x:Int) (H:aA0):lim G0.cfg (.func 26) [.int .i64 x,.vptr [av,gv] 0] H=some (.bool (decide (x < 0) || decide ((t.acts.length:Int)≤x)),H):=by
 refine aAy rfl rfl aG0 1 (fun h=>aDX rfl rfl) ?_ (fun _=>rfl) H
 rw [aIY]
 by_cases q1:x < 0
 ·simp only [Zaf,Zag,Zam,Zan,Zao,Zbc,Zbh,Zbk,Zbm,Zbn,Zbo,Zbp,Zbu,Zcy,Zcz,Zda,Zdb,Q0,Q6,Q3,Q4,Z2,Zdl,decide_true,Q5,Q7,Nat.reduceAdd,Nat.reduceSub,eq_self,true_and,Q5,Q7,Q8,Q9,Q1,Q2,Q1,Q2,Q0,q1,aA6,aA5,aA7,Z0,Prod.mk.injEq,true_and,Bool.true_or,exists_eq']
 ·by_cases q2:(t.acts.length:Int)≤x
  ·simp only [Zaf,Zag,Zam,Zan,Zao,Zbc,Zbg,Zbl,Zbm,Zbn,Zbo,Zbp,Zbs,Zbu,Zcc,Zck,Zcy,Zcz,Zda,Zdb,Q0,Q6,Q3,Q4,Z3,Z2,Zdl,Zdo,Zec,Zed,decide_true,decide_false,Q5,Q7,if_true,Nat.reduceAdd,Nat.reduceSub,Nat.reduceLeDiff,eq_self,true_and,Q5,Q7,Q8,Q9,Q1,Q2,aA2,aA4,part,Z4,Z1,Z6,Q1,Q2,Q0,ha.len,q1,q2,aA6,aA5,aA7,Z0,Prod.mk.injEq,true_and,Bool.or_true,exists_eq']
  ·simp only [Zaf,Zag,Zam,Zan,Zao,Zbc,Zbg,Zbl,Zbm,Zbn,Zbo,Zbp,Zbs,Zbu,Zcc,Zck,Zcy,Zcz,Zda,Zdb,Q0,Q6,Q3,Q4,Z3,Z2,Zdl,Zdo,Zec,Zed,decide_false,Q5,Q7,if_true,Nat.reduceAdd,Nat.reduceSub,Nat.reduceLeDiff,eq_self,true_and,Q5,Q7,Q8,Q9,Q1,Q2,aA2,aA4,part,Z4,Z1,Z6,Q1,Q2,Q0,ha.len,q1,q2,aA6,aA5,aA7,Z0,Prod.mk.injEq,true_and,Bool.or_false,exists_eq']
variable {g : GramD} (hg : g.Ok) (ht : TabOk g t) (h0 : aBl g = 0) (hl : TabLen t)
include hgv hg h0
theorem aKh {b:Bool} (cT:∀ H,lim G0.cfg (.func 34) [.agg (aA8 g),.agg [av,gv]] H=some (.bool b,H)) (H:aA0):lim G0.cfg (.func 21) [.agg (aA8 g),.agg [av,gv]] H=some (.int .i64 (if b then 0 else 34),H):=by
 refine aAy rfl rfl aGj 1 (fun h=>aDX (aAU g h) (aEy ha hgv h)) ?_ (fun _=>rfl) H
 have c:=aNQ g hg
 rw [h0] at c
 rw [aJu]
 cases b
 ·simp only [Zae,Zaf,Zag,Zah,Zam,Zan,Zao,Zaq,Zav,Zaw,Zbc,Zbd,Zbm,Zbo,Zbr,Zbs,Zbu,Zbv,Zct,Zcu,Zcw,Zcy,Zcz,Zda,Zdb,Zdd,Zde,Q0,Q6,Q3,Q4,Z3,Z2,Zdq,Zdv,Zee,Zef,decide_true,Bool.not_true,Bool.not_false,Z5,List.getElem?_cons_succ,Q5,Q7,if_true,if_false,Nat.reduceAdd,Nat.reduceSub,Nat.reduceLeDiff,eq_self,true_and,Q5,Q7,Q8,Q9,Q1,Q2,aA2,aA4,aA3,part,Z4,Z1,List.take_nil,Q1,Q2,Q0,c,cT,aA6,aA5,aA7,Z0,Prod.mk.injEq,true_and,exists_eq',Bool.false_eq_true]
 ·simp only [Zae,Zaf,Zag,Zah,Zam,Zan,Zao,Zaw,Zbc,Zbd,Zbm,Zbo,Zbr,Zbs,Zbu,Zbv,Zct,Zcu,Zcw,Zcy,Zcz,Zda,Zdb,Zdd,Zde,Q0,Q6,Q3,Q4,Z3,Z2,Zdq,Zdv,Zee,Zef,decide_true,Bool.not_true,Z5,List.getElem?_cons_succ,Q5,Q7,if_true,Nat.reduceAdd,Nat.reduceSub,Nat.reduceLeDiff,eq_self,true_and,Q5,Q7,Q8,Q9,Q1,Q2,aA2,aA4,aA3,part,Z4,Z1,List.take_nil,Q1,Q2,Q0,c,cT,aA6,aA5,aA7,Z0,Prod.mk.injEq,true_and,exists_eq']
def aBp (w:List Int):List Int:=w++[0]
include ht
theorem aPZ {wv:AV} {w:List Int} (hw:Li w wv) (hwl:w.length≤1000) (hwt:∀ x ∈ w,isT g x=true) (n:Nat):∀ (d i m:Nat) (st mv:List Int) (H:aA0),w.length+1=i+d→d < m→MS g av gv 2 st mv H→aFv t st→mv.length≤100000→st.length+d*100001≤300000000 →
    ∃ (e:Int) (mv':List Int) (at_:Int) (H':aA0),aCk g t ((aBp w).drop i) i st mv=(if e=0 then mv' else [],at_,e) ∧
      ((e=0∧∃ st',MS g av gv 2 st' mv' H'∧aAj (aA1 (lim G0.cfg) n aBf) m ⟨(J::J::wv::J::J::J::J::J::J::J::.ptr 2 0 0 0::J::J::J::J::J::J::J::J::J::J::J::J::J::J::J::J::J::J::J::.int .i64 (w.length+1:Nat)::.int .i64 i::J::J::J::J::J::J::J::J::J::J::J::J::J::J::J::J::J::J::J::J::J::J::J::J::J::J::J::J::[]),H⟩=some (.exit 0,⟨(J::J::wv::J::J::J::J::J::J::J::.ptr 2 0 0 0::J::J::J::J::J::J::J::J::J::J::J::J::J::J::J::J::J::J::J::J::J::J::J::J::J::J::J::J::J::J::J::J::J::J::J::J::J::J::J::J::J::J::J::J::J::J::J::J::J::[]),H'⟩)) ∨
       (e≠0∧aAj (aA1 (lim G0.cfg) n aBf) m ⟨(J::J::wv::J::J::J::J::J::J::J::.ptr 2 0 0 0::J::J::J::J::J::J::J::J::J::J::J::J::J::J::J::J::J::J::J::.int .i64 (w.length+1:Nat)::.int .i64 i::J::J::J::J::J::J::J::J::J::J::J::J::J::J::J::J::J::J::J::J::J::J::J::J::J::J::J::J::[]),H⟩=some (.ret,⟨(J::J::J::J::J::J::.nilS::.int .i64 at_::.int .i64 e::J::J::J::J::J::J::J::J::J::J::J::J::J::J::J::J::J::J::J::J::J::J::J::J::J::J::J::J::J::J::J::J::J::J::J::J::J::J::J::J::J::J::J::J::J::J::J::J::J::J::J::[]),H'⟩))):=by
  have hT:=(aGF h0).1
  intro d
  induction d with
  | zero =>
    intro i m st mv H h1 h2 hM hst hmv hb
    obtain ⟨m,rfl⟩:∃ q,m=q+1:=⟨m - 1,by omega⟩
    have h3:¬ ((i:Int) < (w.length+1:Nat)):=by omega
    refine ⟨0,mv,i - 1,H,?_,.inl ⟨rfl,st,hM,?_⟩⟩
    · have:(aBp w).drop i=[]:=List.drop_eq_nil_iff.2 (by simp [aBp];omega)
      rw [this];simp [aCk]
    · simp only [aAb,aBj,Zaf,Zag,Zah,Zak,Zal,Zan,Zao,Zap,Zaw,Zaz,Zbc,Zbm,Zbu,Zcz,Zdb,Zdf,Zdg,Zdh,Q0,Q6,Q3,Q4,Zdl,decide_false,eq_self,h3]
  | succ d ih =>
    intro i m st mv H h1 h2 hM hst hmv hb
    obtain ⟨m,rfl⟩:∃ q,m=q+1:=⟨m - 1,by omega⟩
    have h3:(i:Int) < (w.length+1:Nat):=by omega
    have hi:i < (aBp w).length:=by simp [aBp];omega
    have hws:=aAV (n:=i) (by omega)
    -- the terminal
    obtain ⟨x,hx,hxe,hwalk⟩:∃ x:Nat,x < g.terms.length∧(aBp w)[i]=(x:Int)∧((i < w.length∧∀ h,aAs h 1 wv (.int .i64 i)=some (.vptr (eI x) 0))∨(¬ i < w.length∧x=0)):=by
      by_cases hiw:i < w.length
      · have e:(aBp w)[i]=w[i]:=by simp [aBp,hiw]
        have hi2:=hwt _ (List.getElem_mem hiw)
        simp only [isT,Bool.and_eq_true,decide_eq_true_eq] at hi2
        obtain ⟨x,hx⟩:∃ x:Nat,w[i]=(x:Int):=⟨w[i].toNat,by omega⟩
        refine ⟨x,by omega,by rw [e,hx],.inl ⟨hiw,fun h => ?_⟩⟩
        have:=hw.ix h .i64 i hiw
        rw [hx] at this;exact this
      · refine ⟨0,by omega,?_,.inr ⟨hiw,rfl⟩⟩
        have:i=w.length:=by omega
        subst this
        simp [aBp]
    have edrop:(aBp w).drop i=(x:Int)::(aBp w).drop (i+1):=by rw [List.drop_eq_getElem_cons hi,hxe]
    rw [edrop,aCk]
    obtain ⟨H1,v1,v2⟩:=aPs ha hgv hg ht h0 hx hM hst hmv (by omega)
    have hok:=aIK ht x (100001 - mv.length) st mv hst
    have hlen:∀ (f:Nat) (st mv:List Int),(aAL g t x f st mv).2.1.length≤st.length+f∧(mv.length≤100000→(aAL g t x f st mv).2.2.length≤100000):=by
      intro f
      induction f with
      | zero=>intro st mv;exact ⟨Nat.le_refl _,fun h=>h⟩
      | succ f ihf =>
        intro st mv
        simp only [aAL]
        split
        · exact ⟨by simp,fun h=>h⟩
        · split
          · exact ⟨by simp <;> omega,fun h=>h⟩
          · split
            · split
              · exact ⟨by simp,fun h=>h⟩
              · split
                · exact ⟨by simp,fun h=>h⟩
                · rename_i c
                  obtain ⟨q1,q2⟩:=ihf (st.take (st.length - (aBd g _).right.length)++[aEb t (st.getD (st.length - (aBd g _).right.length - 1) 0) (aBd g _).left]) (mv++[_])
                  refine ⟨Nat.le_trans q1 (by simp <;> omega),fun h=>q2 (by simp <;> omega)⟩
            · exact ⟨by simp,fun h=>h⟩
    obtain ⟨hl1,hl2⟩:=hlen (100001 - mv.length) st mv
    replace hl2:=hl2 hmv
    generalize hP:aAL g t x (100001 - mv.length) st mv=P at v1 v2 hok hl1 hl2 ⊢
    obtain ⟨e,st',mv'⟩:=P
    simp only at v1 v2 hok hl1 hl2 ⊢
    by_cases e0:e=0
    · subst e0
      rw [if_pos rfl]
      obtain ⟨e2,mv2,at2,H2,f1,f2⟩:=ih (i+1) m st' mv' H1 (by omega) (by omega) v1 hok hl2 (by omega)
      have ec:((i:Int)+1)=((i+1:Nat):Int):=by omega
      rw [ec]
      refine ⟨e2,mv2,at2,H2,f1,?_⟩
      have st1:aAj (aA1 (lim G0.cfg) n aBf) (m+1) ⟨(J::J::wv::J::J::J::J::J::J::J::.ptr 2 0 0 0::J::J::J::J::J::J::J::J::J::J::J::J::J::J::J::J::J::J::J::.int .i64 (w.length+1:Nat)::.int .i64 i::J::J::J::J::J::J::J::J::J::J::J::J::J::J::J::J::J::J::J::J::J::J::J::J::J::J::J::J::[]),H⟩=aAj (aA1 (lim G0.cfg) n aBf) m ⟨(J::J::wv::J::J::J::J::J::J::J::.ptr 2 0 0 0::J::J::J::J::J::J::J::J::J::J::J::J::J::J::J::J::J::J::J::.int .i64 (w.length+1:Nat)::.int .i64 (i+1:Nat)::J::J::J::J::J::J::J::J::J::J::J::J::J::J::J::J::J::J::J::J::J::J::J::J::J::J::J::J::[]),H1⟩:=by
        rcases hwalk with ⟨w1,w2⟩ | ⟨w1,w2⟩
        · have w1':(i:Int) < w.length:=by omega
          simp only [aAb,aBj,Zae,Zaf,Zag,Zah,Zai,Zak,Zan,Zao,Zar,Zav,Zay,Zbc,Zbd,Zbm,Zbo,Zbs,Zbu,Zcf,Zck,Zct,Zcu,Zcz,Zda,Zdb,Zdd,Zde,Zdf,Zdg,Zdh,Q0,Q6,Q3,Q4,Zdi,Zdl,Zdp,Zer,decide_true,eq_self,Q1,Q2,h3,hw.len,w1',w2,v2,hws]
        · have w1':¬ ((i:Int) < w.length):=by omega
          subst w2
          rw [z0] at v2
          simp only [aAb,aBj,Zae,Zaf,Zag,Zah,Zai,Zak,Zan,Zao,Zar,Zav,Zaw,Zay,Zbc,Zbd,Zbm,Zbo,Zbu,Zck,Zct,Zcu,Zcz,Zda,Zdb,Zdd,Zde,Zdf,Zdg,Zdh,Q0,Q6,Q3,Q4,Zdi,Zdl,Zdp,decide_true,decide_false,eq_self,Q1,Q2,h3,hw.len,w1',v2,hws]
      rw [st1]
      exact f2
    · rw [if_neg e0]
      by_cases e31:e=31
      · subst e31
        rw [if_pos rfl]
        refine ⟨31,[],i,H1,rfl,.inr ⟨e0,?_⟩⟩
        rcases hwalk with ⟨w1,w2⟩ | ⟨w1,w2⟩
        · have w1':(i:Int) < w.length:=by omega
          simp only [aAb,aBj,Zae,Zaf,Zag,Zah,Zai,Zak,Zam,Zan,Zao,Zaq,Zas,Zav,Zaw,Zba,Zbc,Zbd,Zbm,Zbo,Zbs,Zbu,Zcf,Zck,Zct,Zcu,Zcz,Zda,Zdb,Zdd,Zde,Zdf,Zdg,Zdh,Q0,Q6,Q3,Q4,Zdl,Zdp,Zer,decide_true,decide_false,Int.reduceEq,eq_self,Q1,Q2,h3,hw.len,w1',w2,v2]
        · have w1':¬ ((i:Int) < w.length):=by omega
          subst w2
          rw [z0] at v2
          simp only [aAb,aBj,Zae,Zaf,Zag,Zah,Zai,Zak,Zam,Zan,Zao,Zaq,Zas,Zav,Zaw,Zba,Zbc,Zbd,Zbm,Zbo,Zbu,Zck,Zct,Zcu,Zcz,Zda,Zdb,Zdd,Zde,Zdf,Zdg,Zdh,Q0,Q6,Q3,Q4,Zdl,Zdp,decide_true,decide_false,Int.reduceEq,eq_self,Q1,Q2,h3,hw.len,w1',v2]
      · rw [if_neg e31]
        refine ⟨e,[],0,H1,by rw [if_neg e0],.inr ⟨e0,?_⟩⟩
        rcases hwalk with ⟨w1,w2⟩ | ⟨w1,w2⟩
        · have w1':(i:Int) < w.length:=by omega
          simp only [aAb,aBj,Zae,Zaf,Zag,Zah,Zai,Zak,Zam,Zan,Zao,Zaq,Zas,Zav,Zaw,Zba,Zbc,Zbd,Zbm,Zbo,Zbs,Zbu,Zcf,Zck,Zct,Zcu,Zcz,Zda,Zdb,Zdd,Zde,Zdf,Zdg,Zdh,Q0,Q6,Q3,Q4,Zdl,Zdp,Zer,decide_true,decide_false,eq_self,Q1,Q2,h3,hw.len,w1',w2,v2,e0,e31]
        · have w1':¬ ((i:Int) < w.length):=by omega
          subst w2
          rw [z0] at v2
          simp only [aAb,aBj,Zae,Zaf,Zag,Zah,Zai,Zak,Zam,Zan,Zao,Zaq,Zas,Zav,Zaw,Zba,Zbc,Zbd,Zbm,Zbo,Zbu,Zck,Zct,Zcu,Zcz,Zda,Zdb,Zdd,Zde,Zdf,Zdg,Zdh,Q0,Q6,Q3,Q4,Zdl,Zdp,decide_true,decide_false,eq_self,Q1,Q2,h3,hw.len,w1',v2,e0,e31]
end
end Go.Proofs.Yteenffomgdfocaa.Ai
namespace Go.Proofs.Yteenffomgdfocaa.Ai
open Go Go.Proofs
open List renaming set_cons_zero → Q0, length_cons → Q1, cons_append → Q2, length_nil → Q3, nil_append → Q4, getElem?_cons_zero → Q5, getElem?_cons_succ → Q6, getD_cons_zero → Q7, getD_cons_succ → Q8, replicate_succ → Q9, replicate_zero → Z0, set_cons_succ → Z1, take_succ_cons → Z2, drop_zero → Z3, take_nil → Z6, drop_succ_cons → Z9
open Option renaming map_some → Z4, bind_some → Z5
open Bool renaming not_true → Z7, not_false → Z8
set_option linter.unusedVariables false
set_option linter.unusedSimpArgs false
set_option maxRecDepth 10000
set_option maxHeartbeats 8000000
theorem SL.fz {H:aA0} {l:List Int} {v:AV} (h:SL H l v) (d:Nat):∃ v' c,Ai.freeze H (d+2) v=some (v',c)∧Li l v':=by
 rcases h with ⟨rfl,rfl⟩ | ⟨n,rfl,rfl⟩ | ⟨k,ver,x,junk,rfl,h1⟩
 ·exact ⟨_,_,rfl,.inl ⟨rfl,rfl⟩⟩
 ·exact ⟨_,_,rfl,.inr ⟨true,rfl⟩⟩
 ·have hg:aA3 H k ver=some (1,x,eIs l++eIs junk):=by simp only [aA3,h1,if_true]
  have htk:((eIs l++eIs junk).drop 0).take l.length=eIs l:=by
   rw [Z3,List.take_append_of_le_length (by rw [Zet];exact Nat.le_refl _)];exact List.take_of_length_le (by rw [Zet];exact Nat.le_refl _)
  have hm:aAk (aAk (Ai.freeze H (d+1))) (((eIs l++eIs junk).drop 0).take l.length)=some (l.map fun y=>[(.int .i64 y,true)]):=by rw [htk];exact aF8 H d l
  have:=aGZ (d:=d+1) (c:=none) hg (by rw [List.length_append,Zet];omega) hm
  refine ⟨_,_,this,.inr ⟨false,?_⟩⟩
  simp [eIs,eI,Function.comp_def]
def aDv (g:GramD) (t:TabD) (b:Bool) (w:List Int):List Int × Int × Int :=
 if b=false then ([],0,34) else if w.any (fun x => !isT g x)=true then ([],0,21) else aCk g t (aBp w) 0 [0] []
def aDN (g:GramD) (t:TabD) (b:Bool) (st:List Int) (x:Nat):List Int × List Int × Int :=
 if b=false then ([],[],34) else if (aAL g t x 100001 st []).1=0 then ((aAL g t x 100001 st []).2.1,(aAL g t x 100001 st []).2.2,0) else ([],[],(aAL g t x 100001 st []).1)
theorem aQL (g:GramD) (av gv sv:AV) (hs:cellsOf sv=[sv]):aLC [.nilS,.nilS,.nilS,.nilS,.nilS,.nilS,.nilS,.nilS,.nilS] [(0,5,.agg (aA8 g)),(5,2,.agg [av,gv]),(7,1,sv)]=some (.agg (mC g av gv sv .nilS)):=by
 have e1:cellsOf (.agg (aA8 g))=aA8 g:=rfl
 have e2:cellsOf (.agg [av,gv])=[av,gv]:=rfl
 simp [aLC,aAG,aAm,hs,e1,e2]
section
variable {t : TabD} {av gv : AV} (ha : LiG (LiG LiA) t.acts av) (hgv : LiR t.gotos gv) {g : GramD} (hg : g.Ok) (ht : TabOk g t) (h0 : aBl g = 0)
include ha hgv hg ht h0
theorem aSC {b:Bool} (cT:∀ H,lim G0.cfg (.func 34) [.agg (aA8 g),.agg [av,gv]] H=some (.bool b,H)) {wv:AV} {w:List Int} (hw:Li w wv) (hwl:w.length≤1000) :
  ∃ mvv,Li (aDv g t b w).1 mvv∧∀ H,lim G0.cfg (.func 8) [.agg (aA8 g),.agg [av,gv],wv] H=some (.tup [mvv,.int .i64 (aDv g t b w).2.1,.int .i64 (aDv g t b w).2.2],H):=by
 have fza:∀ h,aAk (freeze h 1000) [.agg (aA8 g),.agg [av,gv],wv]=some ([.agg (aA8 g),.agg [av,gv],wv].map fun x=>(x,true)):=fun h=>aQk (aAU g h) (aEy ha hgv h) (hw.fz h 999)
 have c1:=aKh ha hgv hg h0 cT
 have flat:∀ (a e:Int),(∃ h',aAS (lim G0.cfg) 1002 aCy [.agg (aA8 g),.agg [av,gv],wv] []=some (.tup [.nilS,.int .i64 a,.int .i64 e],h'))→aDv g t b w=([],a,e) →
   ∃ mvv,Li (aDv g t b w).1 mvv∧∀ H,lim G0.cfg (.func 8) [.agg (aA8 g),.agg [av,gv],wv] H=some (.tup [mvv,.int .i64 (aDv g t b w).2.1,.int .i64 (aDv g t b w).2.2],H):=by
  intro a e hr he
  rw [he]
  exact ⟨.nilS,.inl ⟨rfl,rfl⟩,fun H=>aAy rfl rfl aFw 1002 fza hr (fun _=>rfl) H⟩
 cases b
 ·refine flat 0 34 ?_ (by simp [aDv])
  rw [aEd]
  simp only [Zaf,Zag,Zah,Zam,Zan,Zao,Zaq,Zav,Zbc,Zbd,Zbm,Zbo,Zbr,Zbs,Zbu,Zct,Zcu,Zcw,Zcy,Zcz,Zda,Zdb,Zdd,Zde,Q0,Z1,Q7,Q8,Z5,Z4,Zdq,Zee,Zef,decide_false,Z8,Q5,Q6,Q1,Q3,if_true,if_false,Nat.reduceAdd,Nat.reduceSub,Nat.reduceLeDiff,Int.reduceEq,eq_self,true_and,Q1,Q3,Q9,Z0,Q2,Q4,aA2,aA4,aA3,part,Z3,Z2,Z6,Q2,Q4,Q0,c1,aA6,aA5,aA7,Option.some.injEq,Prod.mk.injEq,true_and,exists_eq',Bool.false_eq_true]
 ·simp only [if_true] at c1
  have cf:lim G0.cfg (.func 22) [wv,.fn (.func 23) [] [.ptr 0 0 0 0]] [.arr 0 5 true [aA8 g],.arr 0 2 true [[av,gv]]]=some (.bool (w.any fun x => !isT g x),[.arr 0 5 true [aA8 g],.arr 0 2 true [[av,gv]]]) :=
   aQu hw (caps':=[.vptr (aA8 g) 0]) (bs:=[(.vptr (aA8 g) 0,false)]) rfl rfl (fun x _ H=>aS4 g x H) (by rw [aAp];omega) (fun _=>rfl)
  cases hany:(w.any fun x => !isT g x)
  ·rw [hany] at cf
   have hwt:∀ x ∈ w,isT g x=true:=fun x hx=>by
    have:=List.any_eq_false.1 hany x hx
    simpa using this
   have hR:aDv g t true w=aCk g t (aBp w) 0 [0] []:=by simp [aDv,hany]
   have hst:aFv t [0]:=⟨by simp,fun s hs=>by simp at hs;subst hs;have:=ht.n1;omega⟩
   have hM:MS g av gv 2 [0] [] [.arr 0 5 true [aA8 g],.arr 0 2 true [[av,gv]],.arr 0 9 true [mC g av gv (.vsl true [[.int .i64 0]]) .nilS]] :=
    ⟨_,_,rfl,.inr (.inl ⟨0,rfl,rfl⟩),.inl ⟨rfl,rfl⟩,by simp [plc],by simp [plc],fun k hk=>by cases hk⟩
   obtain ⟨e,mv',at_,H',f1,f2⟩:=aPZ ha hgv hg ht h0 hw hwl hwt 1002 (w.length+1) 0 1002 [0] [] _ (by omega) (by omega) hM hst (by simp) (by simp;omega)
   rw [Z3,z0] at f1
   rw [z0] at f2
   have wl:IntKind.i64.wrap ((w.length:Int)+1)=((w.length+1:Nat):Int):=aAV (by omega)
   have fl:=aQL g av gv (.vsl true [[.int .i64 0]]) rfl
   rcases f2 with ⟨e0,st',q1,q2⟩ | ⟨e0,q2⟩
   ·subst e0
    have hat:at_=(w.length:Int):=by
     have gen:∀ (ts:List Int) (i:Int) (st mv:List Int),(aCk g t ts i st mv).2.2=0→(aCk g t ts i st mv).2.1=i+ts.length - 1:=by
      intro ts
      induction ts with
      | nil=>intro i st mv h;simp [aCk]
      | cons x ts ih =>
       intro i st mv h
       simp only [aCk] at h ⊢
       split at h
       ·rename_i c;rw [if_pos c,ih _ _ _ h];simp;omega
       ·rename_i c
        split at h
        ·simp at h
        ·exact absurd h c
     have:=gen (aBp w) 0 [0] [] (by rw [f1])
     rw [f1] at this
     simp [aBp] at this
     omega
    obtain ⟨sv,mvv,n1,n2,n3,_⟩:=q1
    have k8:aA2 H' 1 false (.ptr 2 0 0 8)=some mvv:=aBz n1 rfl
    obtain ⟨v',c,z1,z2⟩:=n3.fz 997
    rw [hR,f1]
    refine ⟨v',by simpa using z2,fun H => ?_⟩
    refine aLV rfl rfl aFw 1002 fza (x:=.tup [mvv,.int .i64 w.length,.int .i64 0]) (h':=H') (c:=c && (true && (true && true))) ?_ ?_ H
    ·rw [aEd]
     simp only [Zae,Zaf,Zag,Zah,Zai,Zaj,Zak,Zam,Zan,Zao,Zat,Zaw,Zax,Zbc,Zbd,Zbm,Zbo,Zbr,Zbs,Zbu,Zbx,Zcc,Zcd,Zck,Zcq,Zcr,Zct,Zcu,Zcw,Zcy,Zcz,Zda,Zdb,Zdd,Zde,Zdf,Zdg,Zdh,Q0,Z1,Q7,Q8,Z5,Z4,Zdi,Zdq,Zeb,Zed,Zee,Zef,decide_true,Z7,Q5,Q6,Q1,Q3,if_true,Nat.reduceAdd,Nat.reduceSub,Nat.reduceLeDiff,eq_self,Q1,Q3,Q9,Z0,Q2,Q4,aA2,aA4,aA3,part,Z3,Z9,Z2,Z6,Q2,Q4,Q0,c1,cf,ev2,aEN,evp,fl,hw.len,wl,q2,aFu,n1,aA6,aA5,aA7]
    ·rw [hat]
     show (aAk (freeze H' 999) [mvv,.int .i64 w.length,.int .i64 0]).map (fun l=>(AV.tup (l.map (·.1)),l.all (·.2)))=_
     rw [aPf z1 rfl rfl]
     rfl
   ·rw [if_neg e0] at f1
    refine flat at_ e ?_ (by rw [hR,f1])
    refine ⟨H',?_⟩
    rw [aEd]
    simp only [Zae,Zaf,Zag,Zah,Zai,Zaj,Zak,Zan,Zao,Zaq,Zas,Zaw,Zax,Zbc,Zbd,Zbm,Zbo,Zbr,Zbs,Zbu,Zbx,Zck,Zcq,Zcr,Zct,Zcu,Zcw,Zcy,Zcz,Zda,Zdb,Zdd,Zde,Zdf,Zdg,Zdh,Q0,Z1,Q7,Q8,Z5,Z4,Zdi,Zdq,Zee,Zef,decide_true,Z7,Q5,Q6,Q1,Q3,if_true,Nat.reduceAdd,Nat.reduceSub,Nat.reduceLeDiff,eq_self,Q1,Q3,Q9,Z0,Q2,Q4,aA2,aA4,aA3,part,Z3,Z2,Z6,Q2,Q4,Q0,c1,cf,ev2,aEN,evp,fl,hw.len,wl,q2,aA6,aA5,aA7]
  ·rw [hany] at cf
   refine flat 0 21 ?_ (by simp [aDv,hany])
   rw [aEd]
   simp only [Zae,Zaf,Zag,Zah,Zam,Zan,Zao,Zaq,Zav,Zaw,Zbc,Zbd,Zbm,Zbo,Zbr,Zbs,Zbu,Zbx,Zct,Zcu,Zcw,Zcy,Zcz,Zda,Zdb,Zdd,Zde,Q0,Z1,Q7,Q8,Z5,Z4,Zdq,Zee,Zef,decide_true,Z7,Q5,Q6,Q1,Q3,if_true,Nat.reduceAdd,Nat.reduceSub,Nat.reduceLeDiff,eq_self,true_and,Q1,Q3,Q9,Z0,Q2,Q4,aA2,aA4,aA3,part,Z3,Z2,Z6,Q2,Q4,Q0,c1,cf,aA6,aA5,aA7,Option.some.injEq,Prod.mk.injEq,true_and,exists_eq']
omit ha hgv hg ht h0 in
theorem aRr {st:List Int} {sv:AV} (hs:Li st sv) (hne:st≠[]) (hb:st.length≤500000000) (H:aA0):lim G0.cfg (.func 27) [sv] H=some (.hsl H.length 0 0 st.length none,H++[.arr 0 1 false (eIs st)]):=by
 refine aEi rfl aDV 1 ?_
 rcases hs with ⟨rfl,_⟩ | ⟨e,rfl⟩
 ·exact absurd rfl hne
 ·obtain ⟨a,r,rfl⟩:=List.exists_cons_of_ne_nil hne
  have l0:aKl H false 1 0 [.int .i64 0] []=some (.vsl true [],H):=rfl
  have q:aBE .eql .slice (.vsl e (eIs (a::r))) .nilS=some (.bool false):=rfl
  have ap:aGw H 1 8 (.vsl true []) (.vsl e (eIs (a::r)))=some (.hsl H.length 0 0 (a::r).length none,H++[.arr 0 1 false (eIs (a::r))]):=by
   have el:aAI H 1 (.vsl e (eIs (a::r)))=some (eIs (a::r)):=by simp [aAI,eIs,eI]
   unfold aGw
   rw [el]
   simp only [Option.elim_some,aD0,Zet]
   rw [if_neg (by simp)]
   simp only [aEl,Q4,aBq]
   rw [if_pos ⟨by rw [Zet];omega,aGL _⟩,Zet]
  rw [aG8]
  simp only [Zae,Zaf,Zag,Zah,Zam,Zan,Zao,Zaw,Zbc,Zbd,Zbm,Zbo,Zbu,Zcm,Zcr,Zcy,Zcz,Zda,Zdb,Q0,Z1,Q7,Q8,Z4,Q1,Q3,Nat.reduceAdd,Nat.reduceSub,eq_self,Q1,Q3,Q9,Z0,Q2,Q4,q,ev2,l0,ap,aA6,aA5,aA7]
theorem aS5 {b:Bool} (cT:∀ H,lim G0.cfg (.func 34) [.agg (aA8 g),.agg [av,gv]] H=some (.bool b,H)) {sv:AV} {st:List Int} (hs:Li st sv) (hst:aFv t st) (hb:st.length≤400000000) {x:Nat} (hx:x=0∨isT g x=true) :
  ∃ s' m',Li (aDN g t b st x).1 s'∧Li (aDN g t b st x).2.1 m'∧∀ H,lim G0.cfg (.func 9) [.agg (aA8 g),.agg [av,gv],sv,.int .i64 x] H=some (.tup [s',m',.int .i64 (aDN g t b st x).2.2],H):=by
 have fza:∀ h,aAk (freeze h 1000) [.agg (aA8 g),.agg [av,gv],sv,.int .i64 x]=some ([.agg (aA8 g),.agg [av,gv],sv,.int .i64 x].map fun x=>(x,true)):=fun h=>by
  have e1:freeze h 1000 (.int .i64 (x:Int))=some (.int .i64 x,true):=rfl
  simp only [aAk,aAU,aEy ha hgv,hs.fz h 999,e1,List.map_cons,List.map_nil]
 have c1:=aKh ha hgv hg h0 cT
 have flat:∀ (e:Int),(∃ h',aAS (lim G0.cfg) 2 aC9 [.agg (aA8 g),.agg [av,gv],sv,.int .i64 x] []=some (.tup [.nilS,.nilS,.int .i64 e],h'))→aDN g t b st x=([],[],e) →
   ∃ s' m',Li (aDN g t b st x).1 s'∧Li (aDN g t b st x).2.1 m'∧∀ H,lim G0.cfg (.func 9) [.agg (aA8 g),.agg [av,gv],sv,.int .i64 x] H=some (.tup [s',m',.int .i64 (aDN g t b st x).2.2],H):=by
  intro e hr he
  rw [he]
  exact ⟨.nilS,.nilS,.inl ⟨rfl,rfl⟩,.inl ⟨rfl,rfl⟩,fun H=>aAy rfl rfl aDT 2 fza hr (fun _=>rfl) H⟩
 cases b
 ·refine flat 34 ?_ (by simp [aDN])
  rw [aDS]
  simp only [Zaf,Zag,Zah,Zam,Zan,Zao,Zaq,Zav,Zbc,Zbd,Zbm,Zbo,Zbr,Zbs,Zbu,Zct,Zcu,Zcw,Zcy,Zcz,Zda,Zdb,Zdd,Zde,Q0,Z1,Q7,Q8,Z5,Z4,Zdq,Zee,Zef,decide_false,Z8,Q5,Q6,Q1,Q3,if_true,if_false,Nat.reduceAdd,Nat.reduceSub,Nat.reduceLeDiff,Int.reduceEq,eq_self,true_and,Q1,Q3,Q9,Z0,Q2,Q4,aA2,aA4,aA3,part,Z3,Z2,Z6,Q2,Q4,Q0,c1,aA6,aA5,aA7,Option.some.injEq,Prod.mk.injEq,true_and,exists_eq',Bool.false_eq_true]
 ·simp only [if_true] at c1
  have hlen:¬ ((st.length:Int)=0):=fun e=>hst.1 (List.length_eq_zero_iff.1 (by omega))
  have hany:(st.any fun x=>decide (x < 0) || decide ((t.acts.length:Int)≤x))=false:=by
   rw [List.any_eq_false]
   intro s hs
   have:=hst.2 s hs
   simp;omega
  have fcap:aAk (freeze [.arr 0 5 true [aA8 g],.arr 0 2 true [[av,gv]]] 999) [AV.ptr 1 0 0 0]=some [(.vptr [av,gv] 0,false)]:=by
   have f1:freeze [.arr 0 5 true [aA8 g],.arr 0 2 true [[av,gv]]] 998 av=some (av,true):=ha.fz _ 997
   have f2:freeze [.arr 0 5 true [aA8 g],.arr 0 2 true [[av,gv]]] 998 gv=some (gv,true):=hgv.fz _ 997
   exact aPg (aPo (d:=998) rfl (aFd f1 f2))
  have cf:lim G0.cfg (.func 22) [sv,.fn (.func 26) [] [.ptr 1 0 0 0]] [.arr 0 5 true [aA8 g],.arr 0 2 true [[av,gv]]]=some (.bool (st.any fun x=>decide (x < 0) || decide ((t.acts.length:Int)≤x)),[.arr 0 5 true [aA8 g],.arr 0 2 true [[av,gv]]]) :=
   aQu hs (caps':=[.vptr [av,gv] 0]) fcap rfl (fun x _ H=>aRq ha x H) (by rw [aAp];omega) (fun _=>rfl)
  rw [hany] at cf
  have ci:=aM7 g x
  have cc:=aRr hs hst.1 (by omega)
  have hT:=(aGF h0).1
  have hxt:x < g.terms.length:=by
   rcases hx with rfl | hx
   ·omega
   ·simp only [isT,Bool.and_eq_true,decide_eq_true_eq] at hx;omega
  have hM:MS g av gv 3 st [] [.arr 0 5 true [aA8 g],.arr 0 2 true [[av,gv]],.arr 0 1 false (eIs st),.arr 0 9 true [mC g av gv (.hsl 2 0 0 st.length none) .nilS]] :=
   ⟨_,_,rfl,.inr (.inr ⟨2,0,false,[],rfl,by simp [eIs]⟩),.inl ⟨rfl,rfl⟩,by simp [plc],by simp [plc],fun k hk=>by simp [plc]⟩
  obtain ⟨H',v1,v2⟩:=aPs ha hgv hg ht h0 hxt hM hst (by simp) hb
  have e100:100001 - ([]:List Int).length=100001:=rfl
  rw [e100] at v1 v2
  have fl:=aQL g av gv (.hsl 2 0 0 st.length none) rfl
  have nlen:([]:aA0).length=0:=rfl
  obtain ⟨sv',mv',n1,n2,n3,_⟩:=v1
  have k7:aA2 H' 1 false (.ptr 3 0 0 7)=some sv':=aBz n1 rfl
  have k8:aA2 H' 1 false (.ptr 3 0 0 8)=some mv':=aBz n1 rfl
  by_cases e0:(aAL g t x 100001 st []).1=0
  ·have hP:aDN g t true st x=((aAL g t x 100001 st []).2.1,(aAL g t x 100001 st []).2.2,0):=by simp [aDN,e0]
   rw [e0] at v2
   obtain ⟨u1,d1,z1,z2⟩:=n2.fz 997
   obtain ⟨u2,d2,y1,y2⟩:=n3.fz 997
   rw [hP]
   refine ⟨u1,u2,z2,y2,fun H=>aLV rfl rfl aDT 2 fza (x:=.tup [sv',mv',.int .i64 0]) (h':=H') (c:=d1 && (d2 && (true && true))) ?_ ?_ H⟩
   ·rw [aDS]
    by_cases x0:x=0
    ·subst x0
     rw [z0] at v2
     simp only [Zae,Zaf,Zag,Zah,Zam,Zan,Zao,Zaw,Zbc,Zbd,Zbg,Zbi,Zbl,Zbm,Zbn,Zbo,Zbp,Zbr,Zbs,Zbu,Zbx,Zcc,Zcd,Zck,Zcq,Zct,Zcu,Zcw,Zcy,Zcz,Zda,Zdb,Zdd,Zde,Q0,Z1,Q7,Q8,Z5,Z4,Zdp,Zdq,Zeb,Zed,Zee,Zef,decide_true,decide_false,Z7,Q5,Q6,Q1,Q3,if_true,Nat.reduceAdd,Nat.reduceSub,Nat.reduceLeDiff,eq_self,Q1,Q3,Q9,Z0,Q2,Q4,aA2,aA4,aA3,part,Z3,Z9,Z2,List.take_zero,Z6,Q2,Q4,Q0,aCX,aCu,aCt,aCs,aCr,aCq,aCp,aCo,aCn,aCm,aCl,aC4,aC3,aOq,aOo,aOp,aLB,aJD,hs.len,hlen,c1,cf,cc,evp,fl,v2,aFu,n1,z0,aA6,aA5,aA7]
    ·have x0':¬ ((x:Int)=0):=by omega
     rw [hx.resolve_left x0] at ci
     simp only [Zae,Zaf,Zag,Zah,Zam,Zan,Zao,Zaw,Zbc,Zbd,Zbf,Zbg,Zbk,Zbl,Zbm,Zbn,Zbo,Zbp,Zbr,Zbs,Zbu,Zbv,Zbx,Zcc,Zcd,Zck,Zcq,Zct,Zcu,Zcw,Zcy,Zcz,Zda,Zdb,Zdd,Zde,Q0,Z1,Q7,Q8,Z5,Z4,Zdp,Zdq,Zdv,Zeb,Zed,Zee,Zef,decide_true,decide_false,Z7,Z8,Q5,Q6,Q1,Q3,if_true,Nat.reduceAdd,Nat.reduceSub,Nat.reduceLeDiff,eq_self,Q1,Q3,Q9,Z0,Q2,Q4,aA2,aA4,aA3,part,Z3,Z9,Z2,List.take_zero,Z6,Q2,Q4,Q0,aCX,aCu,aCt,aCs,aCr,aCq,aCp,aCo,aCn,aCm,aCl,aC4,aC3,aOq,aOo,aOp,aLB,aJD,hs.len,hlen,c1,cf,cc,ci,x0',evp,fl,v2,aFu,n1,aA6,aA5,aA7]
   ·show (aAk (freeze H' 999) [sv',mv',.int .i64 0]).map (fun l=>(AV.tup (l.map (·.1)),l.all (·.2)))=_
    rw [aPf z1 y1 rfl]
    rfl
  ·refine flat (aAL g t x 100001 st []).1 ⟨H',?_⟩ (by simp [aDN,e0])
   generalize (aAL g t x 100001 st []).1=e at v2 e0 ⊢
   rw [aDS]
   by_cases x0:x=0
   ·subst x0
    rw [z0] at v2
    simp only [Zae,Zaf,Zag,Zah,Zam,Zan,Zao,Zaq,Zav,Zaw,Zbc,Zbd,Zbg,Zbi,Zbl,Zbm,Zbn,Zbo,Zbp,Zbr,Zbs,Zbu,Zbx,Zck,Zcq,Zct,Zcu,Zcw,Zcy,Zcz,Zda,Zdb,Zdd,Zde,Q0,Z1,Q7,Q8,Z5,Z4,Zdp,Zdq,Zee,Zef,decide_true,decide_false,Z7,Z8,Q5,Q6,Q1,Q3,if_true,Nat.reduceAdd,Nat.reduceSub,Nat.reduceLeDiff,eq_self,Q1,Q3,Q9,Z0,Q2,Q4,aA2,aA4,aA3,part,Z3,Z2,Z6,Q2,Q4,Q0,aCX,aCu,aCt,aCs,aCr,aCq,aCp,aCo,aCn,aCm,aCl,aC4,aC3,aOq,aOo,aOp,aLB,aJD,hs.len,hlen,c1,cf,cc,evp,fl,v2,e0,z0,aA6,aA5,aA7]
   ·have x0':¬ ((x:Int)=0):=by omega
    rw [hx.resolve_left x0] at ci
    simp only [Zae,Zaf,Zag,Zah,Zam,Zan,Zao,Zaq,Zav,Zaw,Zbc,Zbd,Zbf,Zbg,Zbk,Zbl,Zbm,Zbn,Zbo,Zbp,Zbr,Zbs,Zbu,Zbv,Zbx,Zck,Zcq,Zct,Zcu,Zcw,Zcy,Zcz,Zda,Zdb,Zdd,Zde,Q0,Z1,Q7,Q8,Z5,Z4,Zdp,Zdq,Zdv,Zee,Zef,decide_true,decide_false,Z7,Z8,Q5,Q6,Q1,Q3,if_true,Nat.reduceAdd,Nat.reduceSub,Nat.reduceLeDiff,eq_self,Q1,Q3,Q9,Z0,Q2,Q4,aA2,aA4,aA3,part,Z3,Z2,Z6,Q2,Q4,Q0,aCX,aCu,aCt,aCs,aCr,aCq,aCp,aCo,aCn,aCm,aCl,aC4,aC3,aOq,aOo,aOp,aLB,aJD,hs.len,hlen,c1,cf,cc,ci,x0',evp,fl,v2,e0,aA6,aA5,aA7]
end
end Go.Proofs.Yteenffomgdfocaa.Ai
