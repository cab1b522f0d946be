/- Take, the program's. -/
import Derived.Test.YtgeedikghjcebaamXL
import Derived.Test.YtgeedikghjcebaamXP
namespace Go.Proofs.Ytgeedikghjcebaa.Ai
open Go Go.Proofs
open List renaming length_cons → Q0, length_nil → Q1, nil_append → Q2, cons_append → Q3, getD_cons_zero → Q4, getD_cons_succ → Q5, replicate_succ → Q6, replicate_zero → Q7, set_cons_zero → Q8, set_cons_succ → Q9, length_append → Z2
open Option.some renaming injEq → Z0
open Option renaming map_some → Z1, map_none → Z3
open Bool renaming not_true → Z4
set_option linter.unusedVariables false
set_option linter.unusedSimpArgs false
set_option maxRecDepth 10000
set_option maxHeartbeats 4000000
theorem aON {a b:List UInt8} {v w:AV} (ha:LiB a v) (hb:LiB b w) (H:aA0):lim G0.cfg (.func 18) [v,w] H=some (.bool (decide (a=b)),H):=by
 refine aAP rfl rfl aMU 1 (fun h=>aHF (ha.fz h 999) (hb.fz h 999)) ?_ (fun _=>rfl) H
 have e1:=ha.str
 have e2:=hb.str
 rw [aMS]
 simp only [Zab,Zaf,Zag,Zam,Zan,Zao,Zbc,Zbm,Zbo,Zbu,Zcy,Zcz,Zda,Zdb,Q8,Q9,Q4,Q5,Z1,Zdr,Q0,Q1,Nat.reduceAdd,Nat.reduceSub,eq_self,true_and,Q0,Q1,Q6,Q7,Q3,Q2,e1,e2,aAa,aA8,aAc,Z0,Prod.mk.injEq,true_and,exists_eq']
theorem aRi {a b:List UInt8} {v w:AV} {H:aA0} {i:Nat} (ha:LiB a v) (hb:aBt b w H i):lim G0.cfg (.func 18) [v,w] H=some (.bool (decide (a=b)),H) :=
 aJE rfl (l:=[(v,true),(.vsl false (eBs b),false)]) (aJ8 (ha.fz H 999) (hb.fz 998)) (aJ8 (ha.fz [] 999) ((aD1 false b).fz [] 999)) (aON ha (aD1 false b) []) rfl
theorem aOi {a b:List UInt8} {v w:AV} (ha:LiB a v) (hb:LiB b w) (hn:b.length≤1000000) (H:aA0):lim G0.cfg (.func 17) [v,w] H=some (.bool (decide (a.take b.length=b)),H):=by
 refine aAP rfl rfl aJT 1 (fun h=>aHF (ha.fz h 999) (hb.fz h 999)) ?_ (fun _=>rfl) H
 have n1:=ha.len
 have n2:=hb.len
 rw [aJP]
 by_cases c:b.length≤a.length
 case pos =>
  have d:decide ((b.length:Int)≤a.length)=true:=decide_eq_true (by omega)
  obtain ⟨x,e1,lx⟩:=ha.upto [] .i64 b.length c
  have e2:=aON lx hb
  simp only [Zaf,Zag,Zam,Zan,Zao,Zbc,Zbd,Zbf,Zbk,Zbm,Zbn,Zbo,Zbp,Zbu,Zca,Zck,Zct,Zcu,Zcy,Zcz,Zda,Zdb,Zdd,Zde,Q8,Q9,Q4,Q5,Z1,Zdo,Q0,Q1,Nat.reduceAdd,Nat.reduceSub,eq_self,true_and,Q0,Q1,Q6,Q7,Q3,Q2,n1,n2,d,Z3,e1,e2,aAa,aA8,aAc,Z0,Prod.mk.injEq,true_and,exists_eq']
 case neg =>
  have d:decide ((b.length:Int)≤a.length)=false:=decide_eq_false (by omega)
  have d2:decide (a.take b.length=b)=false:=decide_eq_false (fun h=>c (by
   have:=congrArg List.length h
   rw [List.length_take] at this
   omega))
  rw [d2]
  simp only [Zaf,Zag,Zam,Zan,Zao,Zbc,Zbi,Zbl,Zbm,Zbn,Zbo,Zbp,Zbu,Zck,Zcy,Zcz,Zda,Zdb,Q8,Q9,Q4,Q5,Z1,Zdo,Q0,Q1,Nat.reduceAdd,Nat.reduceSub,eq_self,true_and,Q0,Q1,Q6,Q7,Q3,Q2,n1,n2,d,aAa,aA8,aAc,Z0,Prod.mk.injEq,true_and,exists_eq']
theorem aNx {a b:List UInt8} {v w:AV} {H:aA0} {i:Nat} (ha:LiB a v) (hb:aBt b w H i) (hn:b.length≤1000000):lim G0.cfg (.func 17) [v,w] H=some (.bool (decide (a.take b.length=b)),H) :=
 aJE rfl (l:=[(v,true),(.vsl false (eBs b),false)]) (aJ8 (ha.fz H 999) (hb.fz 998)) (aJ8 (ha.fz [] 999) ((aD1 false b).fz [] 999)) (aOi ha (aD1 false b) hn []) rfl
def LiL:List (List Int)→List AV→Prop
 | [],[]=>True
 | x::xs,v::vs=>Li x v∧LiL xs vs
 | _,_=>False
theorem FrL.fz {B:Nat} {h:aA0} (d:Nat):∀ (xs:List (List Int)) (vs:List AV),FrL B xs vs h→∃ l,aAq (freeze h (d+2)) vs=some l∧LiL xs (l.map (·.1))
 | [],[],_=>⟨[],rfl,trivial⟩
 | x::xs,v::vs,⟨⟨q,h1,_⟩,h3⟩=>by
  obtain ⟨y,c,e1,e2⟩:=fzI h1 d
  obtain ⟨l,e3,e4⟩:=FrL.fz d xs vs h3
  exact ⟨(y,c)::l,by simp only [aAq,e1,e3],e2,e4⟩
 | [],_::_,h=>h.elim
 | _::_,[],h=>h.elim
theorem FrL.ok {B:Nat} {h:aA0}:∀ (xs:List (List Int)) (vs:List AV),FrL B xs vs h→vs.all aAp=true∧xs.length=vs.length
 | [],[],_=>⟨rfl,rfl⟩
 | x::xs,v::vs,⟨⟨q,h1,_⟩,h3⟩=>by
  obtain ⟨a,b⟩:=FrL.ok xs vs h3
  exact ⟨by rw [List.all_cons,h1.cell.2,a];rfl,by rw [Q0,Q0,b]⟩
 | [],_::_,h=>h.elim
 | _::_,[],h=>h.elim
def mkP (t n:Int) (ls:List (List Int)):PackD:=⟨t,n,⟨ls.getD 0 [],ls.getD 1 [],ls.getD 2 [],ls.getD 3 []⟩,⟨ls.getD 4 [],ls.getD 5 [],ls.getD 6 [],ls.getD 7 []⟩⟩
theorem aM6 {α β:Type} {f:α→Option β}:∀ {l:List α} {r:List β},aAq f l=some r→r.length=l.length
 | [],r,h=>by cases h;rfl
 | a::l,r,h=>by
  simp only [aAq] at h
  cases c:f a with
  | none=>rw [c] at h;cases h
  | some x =>
   rw [c] at h
   cases c2:aAq f l with
   | none=>rw [c2] at h;cases h
   | some y =>
    rw [c2] at h
    cases h
    simp [aM6 c2]
theorem LiL.out {xs:List (List Int)} {v:AV} {vs:List AV} (h:LiL xs (v::vs)):∃ x ys,xs=x::ys∧Li x v∧LiL ys vs:=by
 cases xs with
 | nil=>exact h.elim
 | cons x ys=>exact ⟨x,ys,rfl,h.1,h.2⟩
theorem aEF {α:Type} {l:List α} {n:Nat} (h:l.length=n+1):∃ a r,l=a::r∧r.length=n:=by
 cases l with
 | nil=>cases h
 | cons a r=>exact ⟨a,r,rfl,by simpa using h⟩
theorem aRE (t n:Int) (xs:List (List Int)) (vs:List AV) (h:LiL xs vs) (hl:vs.length=8):aBO (mkP t n xs) ([.int .i64 t,.int .i64 n]++vs):=by
 obtain ⟨a1,w0,e0,hl0⟩:=aEF hl
 subst e0
 obtain ⟨a2,w1,e1,hl1⟩:=aEF hl0
 subst e1
 obtain ⟨a3,w2,e2,hl2⟩:=aEF hl1
 subst e2
 obtain ⟨a4,w3,e3,hl3⟩:=aEF hl2
 subst e3
 obtain ⟨b1,w4,e4,hl4⟩:=aEF hl3
 subst e4
 obtain ⟨b2,w5,e5,hl5⟩:=aEF hl4
 subst e5
 obtain ⟨b3,w6,e6,hl6⟩:=aEF hl5
 subst e6
 obtain ⟨b4,w7,e7,hl7⟩:=aEF hl6
 subst e7
 have e8:w7=[]:=List.length_eq_zero_iff.1 hl7
 subst e8
 obtain ⟨x1,z0,f0,h1,g0⟩:=h.out
 subst f0
 obtain ⟨x2,z1,f1,h2,g1⟩:=g0.out
 subst f1
 obtain ⟨x3,z2,f2,h3,g2⟩:=g1.out
 subst f2
 obtain ⟨x4,z3,f3,h4,g3⟩:=g2.out
 subst f3
 obtain ⟨y1,z4,f4,k1,g4⟩:=g3.out
 subst f4
 obtain ⟨y2,z5,f5,k2,g5⟩:=g4.out
 subst f5
 obtain ⟨y3,z6,f6,k3,g6⟩:=g5.out
 subst f6
 obtain ⟨y4,z7,f7,k4,g7⟩:=g6.out
 subst f7
 cases z7 with
 | cons _ _=>exact g7.elim
 | nil =>
 exact ⟨[a1,a2,a3,a4],[b1,b2,b3,b4],rfl,⟨a1,a2,a3,a4,rfl,h1,h2,h3,h4⟩,⟨b1,b2,b3,b4,rfl,k1,k2,k3,k4⟩⟩
open Classical in
noncomputable def aEl (b:List UInt8):PackD × Int :=
 if b.length < 8∨b.take 4≠aC3 then (aDx,3) else
 if b.drop (b.length - 4)≠aCK (b.take (b.length - 4)) then (aDx,33) else
 if (aBG 8 (aAD (aAD ((b.take (b.length - 4)).drop 4,false)).2).2).2.2=true∨(aBG 8 (aAD (aAD ((b.take (b.length - 4)).drop 4,false)).2).2).2.1≠[] then (aDx,3) else
 if aCa (mkP (aAD ((b.take (b.length - 4)).drop 4,false)).1 (aAD (aAD ((b.take (b.length - 4)).drop 4,false)).2).1 (aBG 8 (aAD (aAD ((b.take (b.length - 4)).drop 4,false)).2).2).1) then (mkP (aAD ((b.take (b.length - 4)).drop 4,false)).1 (aAD (aAD ((b.take (b.length - 4)).drop 4,false)).2).1 (aBG 8 (aAD (aAD ((b.take (b.length - 4)).drop 4,false)).2).2).1,0) else (aDx,34)
def aJB (x:Int):Prop:=0≤x∧x < 2147483648
theorem aMk:∀ (k:Nat) (s:List UInt8 × Bool),∀ x ∈ (aCx k s).1,aJB x
 | 0,s,x,h=>by simp [aCx] at h
 | k+1,s,x,h=>by
  simp only [aCx,List.mem_cons] at h
  rcases h with rfl | h
  ·have:=aFn s;exact ⟨by omega,by omega⟩
  ·exact aMk k _ x h
theorem aL9:∀ (k:Nat) (s:List UInt8 × Bool),(aBG k s).1.length=k∧∀ l ∈ (aBG k s).1,l.length≤s.1.length+1∧∀ x ∈ l,aJB x
 | 0,s=>⟨rfl,fun l h=>by simp [aBG] at h⟩
 | k+1,s=>by
  obtain ⟨h1,h2⟩:=aL9 k (aDa s).2
  have b:=aMx s
  refine ⟨by simp [aBG,h1],fun l h => ?_⟩
  simp only [aBG,List.mem_cons] at h
  rcases h with rfl | h
  ·exact ⟨b.1,fun x hx=>aMk _ _ x hx⟩
  ·obtain ⟨c1,c2⟩:=h2 l h
   exact ⟨by omega,c2⟩
theorem aSS {t n:Int} {ls:List (List Int)} {M:Nat} (hM:M≤1000000) (h:∀ l ∈ ls,l.length≤M∧∀ x ∈ l,aJB x):RtOk (mkP t n ls).a∧RtOk (mkP t n ls).g∧(mkP t n ls).n≤M∧(mkP t n ls).g.val.length≤M:=by
 have k:∀ j,(ls.getD j []).length≤M∧∀ x ∈ ls.getD j [],aJB x:=fun j=>by
  by_cases c:j < ls.length
  ·have:ls.getD j []=ls[j]:=by simp [c]
   rw [this];exact h _ (List.getElem_mem c)
  ·have:ls.getD j []=[]:=by simp [c]
   rw [this];exact ⟨by simp,fun x hx=>by simp at hx⟩
 have r:∀ j,∀ x ∈ ls.getD j [], -9223372036854775808≤x∧x≤9223372036854775807:=fun j x hx=>by
  have:=(k j).2 x hx
  unfold aJB at this
  omega
 have q:∀ j,(ls.getD j []).length≤1000000000:=fun j=>by have:=(k j).1;omega
 exact ⟨⟨q 1,q 2,q 3,q 0,r 1,r 2⟩,⟨q 5,q 6,q 7,q 4,r 5,r 6⟩,(k 0).1,(k 6).1⟩
theorem aTa {b:List UInt8} {v:AV} (hb:LiB b v) (hn:b.length≤30000):∃ cs,aBO (aEl b).1 cs∧((aEl b).2≠0→cs=aAE)∧∀ H,lim G0.cfg (.func 8) [v] H=some (.tup [.agg cs,.int .i64 (aEl b).2],H):=by
 have fz:=fun h=>aES (hb.fz h 999)
 have nl:=hb.len
 have c0:¬ ((1048576:Int) < b.length):=by omega
 obtain ⟨Z,hZ⟩:∃ Z,Z=AObj.arr 0 10 true [aAE]:=⟨_,rfl⟩
 have zz:[AV.int .i64 0,.int .i64 0,.nilS,.nilS,.nilS,.nilS,.nilS,.nilS,.nilS,.nilS]=aAE:=rfl
 have zl:aAE.length=10:=rfl
 have fl:aDT aAE []=some (.agg aAE):=rfl
 have sZ:∀ l:aA0,l[0]?=some Z→aAB l 10 (.ptr 0 0 0 0) (.agg aAE)=some l∧aAb l 10 true (.ptr 0 0 0 0)=some (.agg aAE):=fun l e=>by
  have e2:=e
  rw [hZ] at e2
  have:=aCd (l:=aAE) e2 rfl rfl rfl rfl
  rw [← hZ,aBq e] at this
  exact ⟨this,aBL e2 rfl⟩
 unfold aEl
 by_cases c1:b.length < 8
 case pos =>
  rw [if_pos (.inl c1)]
  have d1:(b.length:Int) < 8:=by omega
  obtain ⟨s1,s2⟩:=sZ [Z] rfl
  refine ⟨aAE,aDM,fun _=>rfl,fun H=>aAP rfl rfl aBZ 1 fz ?_ (fun _=>rfl) H⟩
  rw [aBY]
  simp only [Zaf,Zag,Zah,Zai,Zam,Zan,Zao,Zaq,Zas,Zav,Zaw,Zbc,Zbe,Zbh,Zbk,Zbm,Zbn,Zbo,Zbp,Zbq,Zbt,Zbu,Zck,Zcq,Zcy,Zcz,Zda,Zdb,Zdc,Q8,Q9,Q4,Q5,Z1,Zdl,Zdn,decide_true,decide_false,Q0,Q1,Nat.reduceAdd,Nat.reduceSub,eq_self,true_and,Q0,Q1,Q6,Q7,Q3,Q2,zz,zl,← hZ,nl,c0,d1,evp,fl,s1,s2,aAa,aA8,aAc,Z0,Prod.mk.injEq,true_and,exists_eq']
 case neg =>
 have d1:¬ (b.length:Int) < 8:=by omega
 have mk:=aQ3 [Z]
 have am:=aQA [Z] (eBs aC3) 4 (by omega)
 have om:=aNb [Z]
 obtain ⟨h0,hh0⟩:∃ h0,h0=[Z]++[AObj.arr 0 1 true (eBs aC3)]:=⟨_,rfl⟩
 rw [← hh0] at mk am om
 have e00:h0[0]?=some Z:=by rw [hh0];rfl
 have n0:h0.length=2:=by rw [hh0];rfl
 have l1:([Z]:aA0).length=1:=rfl
 rw [l1] at mk am om
 have hp:=aNx hb om (by decide)
 have lm:aC3.length=4:=rfl
 rw [lm] at hp
 by_cases c2:b.take 4=aC3
 case neg =>
  rw [if_pos (.inr c2)]
  rw [decide_eq_false c2] at hp
  obtain ⟨s1,s2⟩:=sZ h0 e00
  refine ⟨aAE,aDM,fun _=>rfl,fun H=>aAP rfl rfl aBZ 1 fz ?_ (fun _=>rfl) H⟩
  rw [aBY]
  simp only [Zad,Zaf,Zag,Zah,Zai,Zam,Zan,Zao,Zaq,Zas,Zav,Zaw,Zbc,Zbd,Zbe,Zbg,Zbl,Zbm,Zbn,Zbo,Zbp,Zbq,Zbt,Zbu,Zbv,Zck,Zcq,Zcr,Zct,Zcu,Zcy,Zcz,Zda,Zdb,Zdc,Zdd,Zde,Q8,Q9,Q4,Q5,Z1,Zdl,Zdn,Zdv,decide_false,Bool.not_false,Q0,Q1,Nat.reduceAdd,Nat.reduceSub,eq_self,true_and,Q0,Q1,Q6,Q7,Q3,Q2,zz,zl,← hZ,nl,c0,d1,evp,ev2,mk,am,hp,fl,s1,s2,aAa,aA8,aAc,Z0,Prod.mk.injEq,true_and,exists_eq']
 case pos =>
 rw [if_neg (fun h=>h.elim c1 (fun k=>k c2))]
 rw [decide_eq_true c2] at hp
 have w4:IntKind.i64.wrap ((b.length:Int) - 4)=((b.length - 4:Nat):Int):=by rw [w64 (by omega) (by omega)];omega
 obtain ⟨v1,x1,lv1⟩:=hb.upto3 h0 .i64 .i64 (b.length - 4) (by omega)
 obtain ⟨body,hbody⟩:∃ body,body=b.take (b.length - 4):=⟨_,rfl⟩
 have lbody:body.length=b.length - 4:=by rw [hbody,List.length_take];omega
 rw [← hbody] at lv1 ⊢
 have n1:=lv1.len
 rw [lbody] at n1
 have fs:=aRG lv1 (by omega)
 obtain ⟨v2,x2,lv2⟩:=hb.from h0 .i64 (b.length - 4) (by omega)
 obtain ⟨s,hs⟩:∃ s,s=aE2 body:=⟨_,rfl⟩
 have es:aCK body=[UInt8.ofNat (s / 16777216),UInt8.ofNat (s / 65536),UInt8.ofNat (s / 256),UInt8.ofNat s]:=by rw [hs];rfl
 have t4:=aNg h0 (UInt8.ofNat (s / 16777216)) (UInt8.ofNat (s / 65536)) (UInt8.ofNat (s / 256)) (UInt8.ofNat s)
 rw [← es] at t4
 have o4:aBt (aCK body) (.hsl h0.length 0 0 4 none) (h0++[.arr 0 1 true (eBs (aCK body))]) h0.length:=⟨by simp [aCK],0,true,rfl,aBz _ _⟩
 rw [n0] at t4 o4
 obtain ⟨h1,hh1⟩:∃ h1,h1=h0++[AObj.arr 0 1 true (eBs (aCK body))]:=⟨_,rfl⟩
 rw [← hh1] at t4 o4
 have up1:∀ (i:Nat) (o:AObj),h0[i]?=some o→h1[i]?=some o:=fun i o e=>by rw [hh1];exact aAJ e _
 have e01:=up1 0 _ e00
 have n2:h1.length=3:=by rw [hh1,Z2,n0];rfl
 have he:=aRi lv2 o4
 rw [← hs] at fs
 by_cases c3:b.drop (b.length - 4)=aCK body
 case neg =>
  rw [if_pos c3]
  rw [decide_eq_false c3] at he
  obtain ⟨s1,s2⟩:=sZ h1 e01
  refine ⟨aAE,aDM,fun _=>rfl,fun H=>aAP rfl rfl aBZ 1 fz ?_ (fun _=>rfl) H⟩
  rw [aBY]
  simp only [Zad,Zae,Zaf,Zag,Zah,Zai,Zam,Zan,Zao,Zaq,Zar,Zav,Zaw,Zbc,Zbd,Zbe,Zbg,Zbl,Zbm,Zbn,Zbo,Zbp,Zbq,Zbt,Zbu,Zbv,Zbw,Zca,Zck,Zcq,Zcr,Zct,Zcu,Zcy,Zcz,Zda,Zdb,Zdc,Zdd,Zde,Q8,Q9,Q4,Q5,Z1,Zdj,Zdl,Zdn,Zdv,decide_false,Z4,Bool.not_false,Q0,Q1,Nat.reduceAdd,Nat.reduceSub,eq_self,true_and,Q0,Q1,Q6,Q7,Q3,Q2,zz,zl,← hZ,nl,c0,d1,evp,ev2,mk,am,hp,w4,Z3,x1,fs,n1,x2,aM0,aM1,sh8,aHv,t4,he,fl,s1,s2,aAa,aA8,aAc,Z0,Prod.mk.injEq,true_and,exists_eq']
 case pos =>
 rw [if_neg (fun h=>h c3)]
 rw [decide_eq_true c3] at he
 -- the reader
 obtain ⟨v3,x3,lv3⟩:=lv1.from h1 .i64 4 (by omega)
 have x3:aBs h1 1 v1 (some (.int .i64 4)) none none=some v3:=x3
 obtain ⟨s0,hs0⟩:∃ s0:List UInt8 × Bool,s0=(body.drop 4,false):=⟨_,rfl⟩
 rw [← hs0]
 have lv3:LiB s0.1 v3:=by rw [hs0];exact lv3
 have ls0:s0.1.length≤30000:=by rw [hs0];simp only [List.length_drop];omega
 have fb:aDT [.nilS,.bool false] [(0,1,v3)]=some (.agg [v3,.bool false]):=by simp [aDT,aAF,aAv,lv3.cell.1]
 obtain ⟨h2,hh2⟩:∃ h2,h2=h1++[rdO v3 false]:=⟨_,rfl⟩
 have bh:h1++[AObj.arr 0 2 true [[v3,AV.bool false]]]=h2:=hh2.symm
 have n3:h2.length=4:=by rw [hh2,Z2,n2];rfl
 have up2:∀ (i:Nat) (o:AObj),h1[i]?=some o→h2[i]?=some o:=fun i o e=>by rw [hh2];exact aAJ e _
 have g3:h2[3]?=some (rdO v3 s0.2):=by rw [hs0,hh2,← n2];exact aBz _ _
 obtain ⟨h3,hh3⟩:∃ h3,h3=h2++[AObj.arr 0 1 true [[.ptr 3 0 0 0]]]:=⟨_,rfl⟩
 have sc:aAB (h2++[AObj.arr 0 1 true [[.nilP]]]) 1 (.ptr 4 0 0 0) (.ptr 3 0 0 0)=some h3:=by
  have e:(h2++[AObj.arr 0 1 true [[.nilP]]])[4]?=some (.arr 0 1 true [[.nilP]]):=by rw [← n3];exact aBz _ _
  rw [aKh _ 1 4 0 0 0 _ 1 true _ _ e rfl rfl (by simp) rfl,hh3,← n3,aGL];rfl
 have n4:h3.length=5:=by rw [hh3,Z2,n3];rfl
 have up3:∀ (i:Nat) (o:AObj),h2[i]?=some o→h3[i]?=some o:=fun i o e=>by rw [hh3];exact aAJ e _
 have g4:h3[4]?=some (.arr 0 1 true [[.ptr 3 0 0 0]]):=by rw [hh3,← n3];exact aBz _ _
 have lc:∀ h:aA0,h[4]?=some (.arr 0 1 true [[.ptr 3 0 0 0]])→aAb h 1 false (.ptr 4 0 0 0)=some (.ptr 3 0 0 0):=fun h e=>by rw [aB5 h 1 4 0 0 0 false 1 true _ _ e rfl];rfl
 have lc3:=lc h3 g4
 obtain ⟨w1,lw1,q1⟩:=aGF lv3 (by omega) (up3 3 _ g3)
 have q1':lim G0.cfg (.func 19) [.ptr 3 0 0 0] h3=some (.int .i64 (aAD s0).1,h3.set 3 (rdO w1 (aAD s0).2.2)):=q1
 obtain ⟨h4,hh4⟩:∃ h4,h4=h3.set 3 (rdO w1 (aAD s0).2.2):=⟨_,rfl⟩
 rw [← hh4] at q1'
 have g5:h4[3]?=some (rdO w1 (aAD s0).2.2):=by rw [hh4];exact aAr (up3 3 _ g3)
 have lw1:LiB (aAD s0).2.1 w1:=lw1
 have b1:=aFn s0
 obtain ⟨w2,lw2,q2⟩:=aGF lw1 (by omega) g5
 have q2':lim G0.cfg (.func 19) [.ptr 3 0 0 0] h4=some (.int .i64 (aAD (aAD s0).2).1,h4.set 3 (rdO w2 (aAD (aAD s0).2).2.2)):=q2
 obtain ⟨h5,hh5⟩:∃ h5,h5=h4.set 3 (rdO w2 (aAD (aAD s0).2).2.2):=⟨_,rfl⟩
 rw [← hh5] at q2'
 have g6:h5[3]?=some (rdO w2 (aAD (aAD s0).2).2.2):=by rw [hh5];exact aAr g5
 have lw2:LiB (aAD (aAD s0).2).2.1 w2:=lw2
 have b2:=aFn (aAD s0).2
 have n5:h5.length=5:=by rw [hh5,hh4];simp [n4]
 have k0:∀ (i:Nat) (o:AObj),i≠3→h3[i]?=some o→h5[i]?=some o:=fun i o hi e=>by rw [hh5,hh4];exact aAs (aAs e (Ne.symm hi)) (Ne.symm hi)
 obtain ⟨tn,htn⟩:∃ tn:Int,tn=((aAD s0).1:Nat):=⟨_,rfl⟩
 obtain ⟨nn,hnn⟩:∃ nn:Int,nn=((aAD (aAD s0).2).1:Nat):=⟨_,rfl⟩
 rw [← htn] at q1' ⊢
 rw [← hnn] at q2' ⊢
 obtain ⟨s2',hs2⟩:∃ s2',s2'=(aAD (aAD s0).2).2:=⟨_,rfl⟩
 rw [← hs2] at g6 lw2 b2 ⊢
 obtain ⟨p0,hp0⟩:∃ p0:List AV,p0=[.int .i64 tn,.int .i64 nn]:=⟨_,rfl⟩
 have fp:aDT aAE [(0,1,.int .i64 tn),(1,1,.int .i64 nn)]=some (.agg (p0++[]++List.replicate 8 .nilS)):=by rw [hp0];rfl
 obtain ⟨cs0,hcs0⟩:∃ cs0,cs0=p0++[]++List.replicate 8 AV.nilS:=⟨_,rfl⟩
 rw [← hcs0] at fp
 obtain ⟨h6,hh6⟩:∃ h6,h6=h5++[AObj.arr 0 10 true [cs0]]:=⟨_,rfl⟩
 have sp:aAB (h5++[Z]) 10 (.ptr 5 0 0 0) (.agg cs0)=some h6:=by
  have e:(h5++[Z])[5]?=some (.arr 0 10 true [aAE]):=by rw [← n5,← hZ];exact aBz _ _
  rw [aCd e rfl (by rw [hcs0,hp0];rfl) rfl (by rw [hcs0,hp0];rfl),hh6,← n5,aGL]
 have n6:h6.length=6:=by rw [hh6,Z2,n5];rfl
 have up6:∀ (i:Nat) (o:AObj),h5[i]?=some o→h6[i]?=some o:=fun i o e=>by rw [hh6];exact aAJ e _
 have g7:h6[5]?=some (.arr 0 10 true [cs0]):=by rw [hh6,← n5];exact aBz _ _
 have fl8:=aOH 5 h6
 obtain ⟨h7,hh7⟩:∃ h7,h7=h6++[AObj.arr 0 1 true (aFG 5)]:=⟨_,rfl⟩
 rw [← hh7,n6] at fl8
 have n7:h7.length=7:=by rw [hh7,Z2,n6];rfl
 have up7:∀ (i:Nat) (o:AObj),h6[i]?=some o→h7[i]?=some o:=fun i o e=>by rw [hh7];exact aAJ e _
 have g8:h7[6]?=some (.arr 0 1 true (aFG 5)):=by rw [hh7,← n6];exact aBz _ _
 have c4h:=up7 4 _ (up6 4 _ (k0 4 _ (by decide) g4))
 have c0h:=up7 0 _ (up6 0 _ (k0 0 _ (by decide) (up3 0 _ (up2 0 _ e01))))
 obtain ⟨w',vs',h',y1,y2,y3,y4,y5,y6,y7⟩:=aSG (N:=9) (r:=3) (c:=4) (P:=5) (Q:=6) (B:=7) (by decide) (by decide) (by decide) (by decide) (by decide) (by decide) (by decide) (.ptr 0 0 0 0) p0 (by rw [hp0];rfl) 8 0 9 s2' w2 [] [] h7 (by omega) (by omega) (by omega) lw2 (up7 3 _ (up6 3 _ g6)) c4h g8 (by rw [up7 5 _ g7,hcs0]) rfl trivial (by omega)
 rw [z0] at y1
 rw [Q2] at y6
 obtain ⟨LS,hLS⟩:∃ LS,LS=aBG 8 s2':=⟨_,rfl⟩
 have rg:=aL9 8 s2'
 rw [← hLS] at y2 y3 y6 rg ⊢
 have c4':=y7 4 _ (by decide) (by decide) c4h
 have c0':=y7 0 _ (by decide) (by decide) c0h
 have lc':=lc h' c4'
 have lb:=aRB y3
 have lw:=aMY y3
 have nw:=y2.len
 have c8:((8:Nat):Int)=8:=rfl
 by_cases c5:LS.2.2=true
 case pos =>
  rw [if_pos (.inl c5)]
  rw [c5] at lb
  obtain ⟨s1,s2⟩:=sZ h' c0'
  refine ⟨aAE,aDM,fun _=>rfl,fun H=>aAP rfl rfl aBZ 9 fz ?_ (fun _=>rfl) H⟩
  rw [aBY]
  simp only [Zad,Zae,Zaf,Zag,Zah,Zai,Zaj,Zak,Zam,Zan,Zao,Zaq,Zar,Zat,Zav,Zaw,Zax,Zbc,Zbd,Zbe,Zbg,Zbh,Zbk,Zbl,Zbm,Zbn,Zbo,Zbp,Zbq,Zbr,Zbs,Zbt,Zbu,Zbv,Zbw,Zbx,Zca,Zcc,Zcd,Zck,Zcq,Zcr,Zct,Zcu,Zcw,Zcy,Zcz,Zda,Zdb,Zdc,Zdd,Zde,Zdf,Zdg,Zdh,Q8,Q9,Q4,Q5,Z1,Zdj,Zdl,Zdn,Zdv,Zdz,Zeb,Zef,decide_false,Z4,Q0,Q1,if_true,Nat.reduceAdd,Nat.reduceSub,eq_self,true_and,Q0,Q1,Q6,Q7,Q3,Q2,zz,zl,← hZ,nl,c0,d1,evp,ev2,mk,am,hp,w4,Z3,x1,fs,n1,x2,aM0,aM1,sh8,aHv,t4,he,x3,fb,bh,n2,n3,sc,lc3,q1',q2',fp,n5,sp,fl8,c8,y1,lc',aE8,lb,fl,s1,s2,aAa,aA8,aAc,Z0,Prod.mk.injEq,true_and,exists_eq']
 case neg =>
 have c5':LS.2.2=false:=by simpa using c5
 rw [c5'] at lb
 by_cases c6:LS.2.1=[]
 case neg =>
  rw [if_pos (.inr c6)]
  have d6:(0:Int) < LS.2.1.length:=by have:=List.length_pos_iff.2 c6;omega
  obtain ⟨s1,s2⟩:=sZ h' c0'
  refine ⟨aAE,aDM,fun _=>rfl,fun H=>aAP rfl rfl aBZ 9 fz ?_ (fun _=>rfl) H⟩
  rw [aBY]
  simp only [Zad,Zae,Zaf,Zag,Zah,Zai,Zaj,Zak,Zam,Zan,Zao,Zaq,Zar,Zat,Zav,Zaw,Zax,Zbc,Zbd,Zbe,Zbg,Zbl,Zbm,Zbn,Zbo,Zbp,Zbq,Zbr,Zbs,Zbt,Zbu,Zbv,Zbw,Zbx,Zca,Zcc,Zcd,Zck,Zcq,Zcr,Zct,Zcu,Zcw,Zcy,Zcz,Zda,Zdb,Zdc,Zdd,Zde,Zdf,Zdg,Zdh,Q8,Q9,Q4,Q5,Z1,Zdj,Zdl,Zdn,Zdv,Zdz,Zeb,Zef,decide_true,decide_false,Z4,Q0,Q1,if_true,Nat.reduceAdd,Nat.reduceSub,eq_self,true_and,Q0,Q1,Q6,Q7,Q3,Q2,zz,zl,← hZ,nl,c0,d1,evp,ev2,mk,am,hp,w4,Z3,x1,fs,n1,x2,aM0,aM1,sh8,aHv,t4,he,x3,fb,bh,n2,n3,sc,lc3,q1',q2',fp,n5,sp,fl8,c8,y1,lc',aE8,lb,lw,nw,d6,fl,s1,s2,aAa,aA8,aAc,Z0,Prod.mk.injEq,true_and,exists_eq']
 case pos =>
 rw [if_neg (fun h=>h.elim c5 (fun k=>k c6))]
 have d6:¬ (0:Int) < LS.2.1.length:=by rw [c6];decide
 -- the table
 have hlen:(p0++vs').length=10:=by rw [Z2,hp0,y5];rfl
 have lP:aAb h' 10 true (.ptr 5 0 0 0)=some (.agg (p0++vs')):=aBL y4 hlen
 obtain ⟨l,el,ll⟩:=FrL.fz (h:=h') 997 LS.1 vs' y6
 obtain ⟨ok,eqn⟩:=FrL.ok LS.1 vs' y6
 have pv:=aRE tn nn LS.1 (l.map (·.1)) ll (by rw [List.length_map,aM6 el];exact y5)
 obtain ⟨r1,r2,r3,r4⟩:=aSS (t:=tn) (n:=nn) (M:=30001) (by omega) (fun x hx=>⟨by have:=(rg.2 x hx).1;omega,(rg.2 x hx).2⟩)
 obtain ⟨k1,k2⟩:=aOM pv r1 r2 (by omega)
 have fa:aAq (freeze h' 1000) [.agg (p0++vs')]=some [(.agg ([.int .i64 tn,.int .i64 nn]++l.map (·.1)),true && (true && l.all (·.2)))]:=by
  refine aDH ?_
  have e:freeze h' 1000 (.agg (p0++vs'))=(aAq (freeze h' 999) (p0++vs')).map fun l=>(.agg (l.map (·.1)),l.all (·.2)):=rfl
  rw [e,hp0]
  have i1:∀ n:Int,freeze h' 999 (.int .i64 n)=some (.int .i64 n,true):=fun _=>rfl
  simp only [Q3,Q2,aAq,i1,el]
  simp
 have fA:∀ y:Bool,(∀ H,lim G0.cfg (.func 23) [.agg ([.int .i64 tn,.int .i64 nn]++l.map (·.1))] H=some (.bool y,H))→lim G0.cfg (.func 23) [.agg (p0++vs')] h'=some (.bool y,h'):=fun y e =>
  aJE rfl fa (aDH (pv.fz [] 998)) (e []) rfl
 by_cases c7:aCa (mkP tn nn LS.1)
 case neg =>
  rw [if_neg c7]
  have ef:=fA false (k2 c7)
  obtain ⟨s1,s2⟩:=sZ h' c0'
  refine ⟨aAE,aDM,fun _=>rfl,fun H=>aAP rfl rfl aBZ 9 fz ?_ (fun _=>rfl) H⟩
  rw [aBY]
  simp only [Zad,Zae,Zaf,Zag,Zah,Zai,Zaj,Zak,Zam,Zan,Zao,Zaq,Zar,Zat,Zav,Zaw,Zax,Zbc,Zbd,Zbe,Zbg,Zbl,Zbm,Zbn,Zbo,Zbp,Zbq,Zbr,Zbs,Zbt,Zbu,Zbv,Zbw,Zbx,Zca,Zcc,Zcd,Zck,Zcq,Zcr,Zct,Zcu,Zcw,Zcy,Zcz,Zda,Zdb,Zdc,Zdd,Zde,Zdf,Zdg,Zdh,Q8,Q9,Q4,Q5,Z1,Zdj,Zdl,Zdn,Zdv,Zdz,Zeb,Zef,decide_false,Z4,Bool.not_false,Q0,Q1,if_true,Nat.reduceAdd,Nat.reduceSub,eq_self,true_and,Q0,Q1,Q6,Q7,Q3,Q2,zz,zl,← hZ,nl,c0,d1,evp,ev2,mk,am,hp,w4,Z3,x1,fs,n1,x2,aM0,aM1,sh8,aHv,t4,he,x3,fb,bh,n2,n3,sc,lc3,q1',q2',fp,n5,sp,fl8,c8,y1,lc',aE8,lb,lw,nw,d6,lP,ef,fl,s1,s2,aAa,aA8,aAc,Z0,Prod.mk.injEq,true_and,exists_eq']
 case pos =>
  rw [if_pos c7]
  have ef:=fA true (k1 c7)
  have ckA:(p0++vs').all aAp=true:=by rw [List.all_append,ok,hp0];rfl
  have s1:aAB h' 10 (.ptr 0 0 0 0) (.agg (p0++vs'))=some (h'.set 0 (.arr 0 10 true [p0++vs'])):=aCd (by rw [c0',hZ]) rfl hlen rfl ckA
  obtain ⟨h'',hh''⟩:∃ h'',h''=h'.set 0 (AObj.arr 0 10 true [p0++vs']):=⟨_,rfl⟩
  rw [← hh''] at s1
  have s2:aAb h'' 10 true (.ptr 0 0 0 0)=some (.agg (p0++vs')):=aBL (by rw [hh''];exact aAr c0') hlen
  have y6':FrL 7 LS.1 vs' h'':=FrL.frame (fun j o hj e=>by rw [hh''];exact aAs e (by omega)) _ _ y6
  obtain ⟨l2,el2,ll2⟩:=FrL.fz (h:=h'') 996 LS.1 vs' y6'
  have pv2:=aRE tn nn LS.1 (l2.map (·.1)) ll2 (by rw [List.length_map,aM6 el2];exact y5)
  refine ⟨[.int .i64 tn,.int .i64 nn]++l2.map (·.1),pv2,fun h=>absurd rfl h,fun H => ?_⟩
  have e998:freeze h'' 999 (.agg (p0++vs'))=some (.agg ([.int .i64 tn,.int .i64 nn]++l2.map (·.1)),true && (true && l2.all (·.2))):=by
   have e:freeze h'' 999 (.agg (p0++vs'))=(aAq (freeze h'' 998) (p0++vs')).map fun l=>(.agg (l.map (·.1)),l.all (·.2)):=rfl
   rw [e,hp0]
   have i1:∀ n:Int,freeze h'' 998 (.int .i64 n)=some (.int .i64 n,true):=fun _=>rfl
   simp only [Q3,Q2,aAq,i1,el2]
   simp
  refine aJa rfl rfl aBZ 9 fz (h':=h'') (x:=.tup [.agg (p0++vs'),.int .i64 0]) ?_ (aT2 (k:=999) e998 (rfl:freeze h'' 999 (.int .i64 0)=some (.int .i64 0,true))) H
  rw [aBY]
  simp only [Zad,Zae,Zaf,Zag,Zah,Zai,Zaj,Zak,Zam,Zan,Zao,Zar,Zat,Zaw,Zax,Zbc,Zbd,Zbe,Zbg,Zbl,Zbm,Zbn,Zbo,Zbp,Zbq,Zbr,Zbs,Zbt,Zbu,Zbv,Zbw,Zbx,Zca,Zcc,Zcd,Zck,Zcq,Zcr,Zct,Zcu,Zcw,Zcy,Zcz,Zda,Zdb,Zdc,Zdd,Zde,Zdf,Zdg,Zdh,Q8,Q9,Q4,Q5,Z1,Zdj,Zdl,Zdn,Zdv,Zdz,Zeb,Zef,decide_false,Z4,Q0,Q1,if_true,Nat.reduceAdd,Nat.reduceSub,eq_self,Q0,Q1,Q6,Q7,Q3,Q2,zz,zl,← hZ,nl,c0,d1,evp,ev2,mk,am,hp,w4,Z3,x1,fs,n1,x2,aM0,aM1,sh8,aHv,t4,he,x3,fb,bh,n2,n3,sc,lc3,q1',q2',fp,n5,sp,fl8,c8,y1,lc',aE8,lb,lw,nw,d6,lP,ef,s1,s2,aAa,aA8,aAc]
end Go.Proofs.Ytgeedikghjcebaa.Ai
namespace Go.Proofs.Ytgeedikghjcebaa.Ai
open Go Go.Proofs
open List renaming length_cons → Q0, length_nil → Q1, getD_cons_zero → Q2, getD_cons_succ → Q3, replicate_succ → Q4, replicate_zero → Q5
set_option linter.unusedVariables false
set_option linter.unusedSimpArgs false
set_option maxRecDepth 10000
set_option maxHeartbeats 4000000
def aHD (p:PackD) (b:Bool):AV :=
 match b,aPu p with
 | false,_=>.tup [.nilS,.int .i64 34]
 | true,true=>.tup [.vsl false (eBs (aDQ p)),.int .i64 0]
 | true,false=>.tup [.nilS,.int .i64 2]
section
variable {p : PackD} {cs : List AV}
theorem aTV (hp:aBO p cs) {b:Bool} (hR:∀ H,lim G0.cfg (.func 23) [.agg cs] H=some (.bool b,H)) (ht:b=true→inR p.tms=true∧inR p.nts=true) (hn:∀ r ∈ p.lists,r.length≤100000) (hB:(aDB p).length≤1000000) (H:aA0) :
  lim G0.cfg (.func 12) [.agg cs] H=some (aHD p b,H):=by
 have fz:=fun h=>aES (hp.fz h 998)
 obtain ⟨p1,p2,p3⟩:=hp.cells
 have bx:=aH1 [] p3 p1
 obtain ⟨X,hX⟩:∃ X,X=AObj.arr 0 10 true [cs]:=⟨_,rfl⟩
 have lX:aAb [X] 10 true (.ptr 0 0 0 0)=some (.agg cs):=aBL (b:=true) (by rw [hX];rfl) p3
 cases b with
 | false =>
  refine aAP rfl rfl aF2 1 fz ?_ (fun _=>rfl) H
  rw [aF1]
  simp only [Zaf,Zag,Zah,Zam,Zan,Zao,Zaq,Zav,Zbc,Zbd,Zbm,Zbo,Zbr,Zbs,Zbv,Zct,Zcu,Zcw,Zcy,Zcz,Zda,Zdb,Zdd,Zde,List.set_cons_zero,List.set_cons_succ,Q2,Q3,Option.map_some,Zdv,Bool.not_false,Q0,Q1,if_true,Nat.reduceAdd,Nat.reduceSub,eq_self,true_and,Q0,Q1,Q4,Q5,List.cons_append,List.nil_append,p1,p3,eq_self,if_true,← hX,lX,hR,aHD,aAa,aA8,aAc,Option.some.injEq,Prod.mk.injEq,true_and,exists_eq']
 | true =>
 obtain ⟨ht1,ht2⟩:=ht rfl
 rw [aJG] at ht1 ht2
 have mk:=aQ3 [X]
 have am:=aQA [X] (eBs aC3) 4 (by omega)
 have om:=aNb [X]
 obtain ⟨h0,hh0⟩:∃ h0,h0=[X]++[AObj.arr 0 1 true (eBs aC3)]:=⟨_,rfl⟩
 rw [← hh0] at mk am om
 have z0':h0[0]?=some (.arr 0 10 true [cs]):=by rw [hh0,hX];rfl
 have l1:([X]:aA0).length=1:=rfl
 rw [l1] at mk am om
 have n0:h0.length=2:=by rw [hh0];rfl
 have qq:aAb h0 1 false (.ptr 0 0 0 0)=some (.int .i64 p.tms)∧aAb h0 1 false (.ptr 0 0 0 1)=some (.int .i64 p.nts):=by
  obtain ⟨a1,a2,a3,a4,b1,b2,b3,b4,rfl,_⟩:=hp.ten
  exact ⟨(aEN z0').1,(aEN z0').2.1⟩
 obtain ⟨q1,q2⟩:=qq
 have t2:=aTP h0 p.tms p.nts
 obtain ⟨h1,hh1⟩:∃ h1,h1=h0++[AObj.arr 0 1 true (eIs [p.tms,p.nts])]:=⟨_,rfl⟩
 rw [← hh1,n0] at t2
 have up1:∀ (i:Nat) (o:AObj),h0[i]?=some o→h1[i]?=some o:=fun i o e=>by rw [hh1];exact aAJ e _
 have g2:h1[2]?=some (.arr 0 1 true (eIs [p.tms,p.nts])):=by rw [hh1,← n0];exact aBz _ _
 have om1:=om.frame (h':=h1) (fun o e=>up1 1 o e)
 have n1:h1.length=3:=by rw [hh1,List.length_append,n0];rfl
 have lm:aC3.length=4:=rfl
 obtain ⟨v1,H1,e1,o1,f1,g1⟩:=aPg (aPZ (xs:=[p.tms,p.nts]) g2) (by intro f;have:=Option.some.inj f;omega) (by
  intro x hx
  simp only [List.mem_cons,List.not_mem_nil,or_false] at hx
  rcases hx with rfl | rfl
  ·exact ht1
  ·exact ht2) (by simp) om1 (by omega)
 have l2:[p.tms,p.nts].length=2:=rfl
 rw [l2] at e1
 have b1:=aEW [p.tms,p.nts]
 rw [l2] at b1
 have fl:=aOH 0 H1
 have n2:H1.length=3:=by omega
 rw [n2] at fl
 obtain ⟨h2,hh2⟩:∃ h2,h2=H1++[AObj.arr 0 1 true (aFG 0)]:=⟨_,rfl⟩
 rw [← hh2] at fl
 have up2:∀ (i:Nat) (o:AObj),H1[i]?=some o→h2[i]?=some o:=fun i o e=>by rw [hh2];exact aAJ e _
 have zz:=up2 0 _ (f1 0 _ (by decide) (up1 0 _ z0'))
 have z3:h2[3]?=some (.arr 0 1 true (aFG 0)):=by rw [hh2,← n2];exact aBz _ _
 have l8:p.lists.length=8:=rfl
 have c8:((8:Nat):Int)=8:=rfl
 obtain ⟨j1,j2⟩:=aT3 (N:=9) hp hn (q:=3) (by decide) 8 0 9 _ v1 h2 (by omega) (by omega) (o1.frame (fun o e=>up2 1 o e)) zz z3 (by rw [List.length_append];omega)
 rw [z0,List.drop_zero] at j1 j2
 cases c:aPu p with
 | false =>
  obtain ⟨h',e⟩:=j2 c
  have:aHD p true=.tup [.nilS,.int .i64 2]:=by unfold aHD;rw [c]
  rw [this]
  refine aAP rfl rfl aF2 9 fz ?_ (fun _=>rfl) H
  rw [aF1]
  simp only [Zad,Zae,Zaf,Zag,Zah,Zai,Zaj,Zak,Zan,Zao,Zaq,Zas,Zaw,Zax,Zbc,Zbd,Zbm,Zbo,Zbr,Zbs,Zbv,Zcc,Zck,Zcr,Zct,Zcu,Zcw,Zcy,Zcz,Zda,Zdb,Zdd,Zde,Zdf,Zdg,Zdh,List.set_cons_zero,List.set_cons_succ,Q2,Q3,Option.map_some,Zdv,Zdz,Zeb,Bool.not_true,Q0,Q1,if_true,Nat.reduceAdd,Nat.reduceSub,eq_self,true_and,Q0,Q1,Q4,Q5,List.cons_append,List.nil_append,p1,p3,eq_self,if_true,← hX,lX,hR,ev2,mk,am,q1,q2,t2,e1,fl,c8,e,aAa,aA8,aAc,Option.some.injEq,Prod.mk.injEq,true_and,exists_eq']
 | true =>
  obtain ⟨v3,H3,e3,o3⟩:=j1 c
  have:aHD p true=.tup [.vsl false (eBs (aDQ p)),.int .i64 0]:=by unfold aHD;rw [c]
  rw [this]
  have eE:aC3++aCn [p.tms,p.nts]++p.lists.flatMap aHr=aDB p:=by simp [aCn,aDB]
  rw [eE] at o3
  have ln:=o3.len H3
  have fs:=aQf o3 (by omega)
  obtain ⟨l,hl⟩:∃ l,l=aDB p:=⟨_,rfl⟩
  rw [← hl] at o3 ln fs hB
  obtain ⟨s,hs⟩:∃ s,s=aE2 l:=⟨_,rfl⟩
  have es:aCK l=[UInt8.ofNat (s / 16777216),UInt8.ofNat (s / 65536),UInt8.ofNat (s / 256),UInt8.ofNat s]:=by rw [hs];rfl
  have t4:=aNg H3 (UInt8.ofNat (s / 16777216)) (UInt8.ofNat (s / 65536)) (UInt8.ofNat (s / 256)) (UInt8.ofNat s)
  rw [← es] at t4
  have o4:aBt (aCK l) (.hsl H3.length 0 0 4 none) (H3++[.arr 0 1 true (eBs (aCK l))]) H3.length:=⟨by simp [aCK],0,true,rfl,aBz _ _⟩
  have o5:aBt l v3 (H3++[.arr 0 1 true (eBs (aCK l))]) 1:=o3.frame (fun o e=>aAJ e _)
  obtain ⟨v4,H4,e4,o6,f4,g4⟩:=o5.add o4.elems (by simp [aCK]) 1 (by omega) (by have:(aCK l).length=4:=rfl;omega)
  have w4:IntKind.i64.wrap ((l.length:Int)+4)=((l.length+4:Nat):Int):=by rw [w64 (by omega) (by omega)];omega
  have c4:¬ ((1048576:Int) < (l.length+4:Nat)):=by omega
  rw [← hs] at fs
  have eP:aDQ p=l++aCK l:=by rw [hl];rfl
  rw [eP]
  refine aJa rfl rfl aF2 9 fz (h':=H4) (x:=.tup [v4,.int .i64 0]) ?_ (aT2 (k:=999) (o6.fz 997) (rfl:freeze H4 999 (.int .i64 0)=some (.int .i64 0,true))) H
  rw [aF1]
  simp only [Zad,Zae,Zaf,Zag,Zah,Zai,Zaj,Zak,Zam,Zan,Zao,Zat,Zaw,Zax,Zbc,Zbd,Zbm,Zbo,Zbr,Zbs,Zbu,Zbv,Zbw,Zcc,Zck,Zcm,Zcr,Zct,Zcu,Zcw,Zcy,Zcz,Zda,Zdb,Zdd,Zde,Zdf,Zdg,Zdh,List.set_cons_zero,List.set_cons_succ,Q2,Q3,Option.map_some,Zdi,Zdn,Zdv,Zdz,Zeb,decide_false,Bool.not_true,Q0,Q1,if_true,Nat.reduceAdd,Nat.reduceSub,eq_self,Q0,Q1,Q4,Q5,List.cons_append,List.nil_append,p1,p3,eq_self,if_true,← hX,lX,hR,ev2,mk,am,q1,q2,t2,e1,fl,c8,e3,ln,w4,c4,fs,aM0,aM1,sh8,aHv,t4,e4,aAa,aA8,aAc]
end
end Go.Proofs.Ytgeedikghjcebaa.Ai
