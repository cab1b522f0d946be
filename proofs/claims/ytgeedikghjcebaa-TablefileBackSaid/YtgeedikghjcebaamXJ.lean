/- pack.numbers. -/
import Derived.Test.YtgeedikghjcebaamXG
import Derived.Test.YtgeedikghjcebaamXH
namespace Go.Proofs.Ytgeedikghjcebaa.Ai
open Go Go.Proofs
open AV renaming junk → J
open List renaming getD_cons_zero → Q0, getD_cons_succ → Q1, set_cons_zero → Q2, set_cons_succ → Q3, drop_eq_getElem_cons → Q5, nil_append → Q6, drop_eq_nil_iff → Q7, append_assoc → Q8, cons_append → Q9
open Bool renaming false_and → Q4
set_option linter.unusedVariables false
set_option linter.unusedSimpArgs false
set_option maxRecDepth 10000
set_option maxHeartbeats 4000000
def aON (n:Int) (tm nt:Nat) (a:List (List (Int × Int))) (g:List Int):Bool:=(decide (a.length=tm) && decide (g.length=nt)) && (aAS (a.map (aAU n)) && aAS (g.map (aBO n)))
def aHX (n:Int) (tm nt:Nat):List (List (List (Int × Int)))→List (List Int)→Bool
 | a::al,g::gl=>aON n tm nt a g && aHX n tm nt al gl
 | _,_=>true
def aCU (n:Int) (l:List (List (List (Int × Int)))):List (List Int):=l.map fun r=>r.map (aAU n)
def aCT (n:Int) (l:List (List Int)):List (List Int):=l.map fun r=>r.map (aBO n)
section
variable {v2 v3 v7 v6 v8 v9 v10 v55 v56 : AV} {B : Nat}
theorem aWs {row:List (List (Int × Int))} {rv:AV} (hr:LiG LiA row rv) (hm:row.length≤1000) (n:Nat) (hn:n≤4096) (N:Nat) (hB:1≤B):∀ (d i m:Nat) (xs:List Int) (h:aA0) (w:AV) (q:Option Nat),row.length=i+d→d < m→aAi 1 (eIs xs) w h q→(∀ i,q=some i→B≤i)→B≤h.length→xs.length=i →
  ∃ (h':aA0) (w':AV) (q':Option Nat),aAu (aA7 (lim G0.cfg) N aDq) m ⟨(J::.ptr 0 0 0 0::v2::v3::J::.int .i64 n::v6::v7::v8::w::v10::J::J::J::J::J::J::J::J::J::J::J::J::J::J::J::J::J::J::J::J::J::J::J::J::J::J::J::J::J::J::J::J::J::J::J::J::J::J::J::J::J::J::J::J::v55::v56::J::J::J::J::J::J::J::J::J::J::J::J::J::J::J::J::J::J::J::J::J::J::J::J::rv::.int .i64 row.length::.int .i64 i::J::J::J::J::J::J::J::J::J::J::J::J::J::J::J::J::J::J::J::J::J::J::J::J::J::J::J::J::J::J::J::J::J::J::J::J::J::J::J::J::J::J::J::J::J::J::J::J::J::J::J::J::[]),h⟩=some (.exit 2,⟨(J::.ptr 0 0 0 0::v2::v3::J::.int .i64 n::v6::v7::v8::w'::v10::J::J::J::J::J::J::J::J::J::J::J::J::J::J::J::J::J::J::J::J::J::J::J::J::J::J::J::J::J::J::J::J::J::J::J::J::J::J::J::J::J::J::J::J::v55::v56::J::J::J::J::J::J::J::J::J::J::J::J::J::J::J::J::J::J::J::J::J::J::J::J::J::J::J::J::J::J::J::J::J::J::J::J::J::J::J::J::J::J::J::J::J::J::J::J::J::J::J::J::J::J::J::J::J::J::J::J::J::J::J::J::J::J::J::J::J::J::J::J::J::J::J::J::J::J::J::[]),h'⟩) ∧
   aAi 1 (eIs (xs++(row.drop i).map (aAU n))) w' h' q'∧(∀ i,q'=some i→B≤i)∧B≤h'.length∧(∀ (j:Nat) (o:AObj),j < B→h[j]?=some o→h'[j]?=some o):=by
 intro d
 induction d with
 | zero =>
  intro i m xs h w q h1 h2 ow tv lb lx
  obtain ⟨m,rfl⟩:∃ q,m=q+1:=⟨m - 1,by omega⟩
  have h3:¬ ((i:Int) < row.length):=by omega
  have q1:row.drop i=[]:=Q7.2 (by omega)
  rw [q1,List.map_nil,List.append_nil]
  refine ⟨h,w,q,?_,ow,tv,lb,fun _ _ _ e=>e⟩
  simp only [aAd,aHO,Zaf,Zag,Zah,Zak,Zal,Zan,Zao,Zap,Zaw,Zaz,Zbc,Zbm,Zbu,Zcz,Zdb,Zdf,Zdg,Zdh,Q2,Q3,Q0,Q1,Zdl,decide_false,eq_self,h3]
 | succ d ih =>
  intro i m xs h w q h1 h2 ow tv lb lx
  obtain ⟨m,rfl⟩:∃ q,m=q+1:=⟨m - 1,by omega⟩
  have h3:i < row.length:=by omega
  have h3':(i:Int) < row.length:=by omega
  have hw:=aBb (n:=i) (by omega)
  have q1:row.drop i=row[i]::row.drop (i+1):=Q5 h3
  obtain ⟨cv,hc,xc⟩:=hr.ix i h3
  have lv:∀ (h:aA0),aAc h 1 false (.vptr [cv] 0)=some cv:=fun _=>rfl
  have fc:=aTF hc (n:Int) ⟨by omega,by omega⟩
  obtain ⟨y,hy⟩:∃ y,y=aAU n row[i]:=⟨_,rfl⟩
  rw [← hy] at fc
  obtain ⟨iv,ver1,H1,r1,r2,r3,r4,r5⟩:=ow.push true (c:=[.int .i64 y]) rfl rfl (aC0 _) 8 (by omega) (by rw [Zet];omega)
  rw [Zet] at r1 r2
  rw [← aDk] at r2
  have tiv:B≤iv:=by
   rcases r4 with g | ⟨_,g⟩
   ·exact tv iv g
   ·omega
  obtain ⟨vvx,hvx⟩:∃ x,x=AV.hsl iv ver1 0 (xs.length+1) none:=⟨_,rfl⟩
  rw [← hvx] at r1 r2
  obtain ⟨h',w',q',e,g1,g2,g3,g4⟩:=ih (i+1) m (xs++[y]) H1 vvx (some iv) (by omega) (by omega) r2 (fun i f=>by cases f;exact tiv) (by omega) (by simp [lx])
  refine ⟨h',w',q',?_,?_,g2,g3,fun j o hj e=>g4 j o hj (r3 j o e (fun f=>by have:=tv j f;omega))⟩
  ·rw [← e]
   have lt2:=fun h:aA0=>aDe h (.int .i64 0) (.int .i64 y) rfl rfl
   simp only [aAd,aHO,Zae,Zaf,Zag,Zah,Zai,Zak,Zan,Zao,Zar,Zav,Zay,Zbc,Zbd,Zbm,Zbo,Zbs,Zbu,Zcf,Zcm,Zcr,Zct,Zcu,Zcz,Zda,Zdb,Zdd,Zde,Zdf,Zdg,Zdh,Q2,Q3,Q0,Q1,Zdi,Zdl,decide_true,eq_self,Q9,Q6,h3',xc,lv,fc,ev2,lt2,r1,hw]
  ·rw [q1,List.map_cons,← hy]
   rw [Q8] at g1
   exact g1
theorem aWr {row:List Int} {rv:AV} (hr:Li row rv) (hm:row.length≤1000) (n:Nat) (hn:n≤4096) (N:Nat) (hB:1≤B):∀ (d i m:Nat) (xs:List Int) (h:aA0) (w:AV) (q:Option Nat),row.length=i+d→d < m→aAi 1 (eIs xs) w h q→(∀ i,q=some i→B≤i)→B≤h.length→xs.length=i →
  ∃ (h':aA0) (w':AV) (q':Option Nat),aAu (aA7 (lim G0.cfg) N aDp) m ⟨(J::.ptr 0 0 0 0::v2::v3::J::.int .i64 n::v6::v7::J::v9::w::J::J::J::J::J::J::J::J::J::J::J::J::J::J::J::J::J::J::J::J::J::J::J::J::J::J::J::J::J::J::J::J::J::J::J::J::J::J::J::J::J::J::J::J::v55::v56::J::J::J::J::J::J::J::J::J::J::J::J::J::J::J::J::J::J::J::J::J::J::J::J::J::J::J::J::J::J::J::J::J::J::J::J::J::J::J::J::J::rv::.int .i64 row.length::.int .i64 i::J::J::J::J::J::J::J::J::J::J::J::J::J::J::J::J::J::J::J::J::J::J::J::J::J::J::J::J::J::J::J::J::J::J::J::[]),h⟩=some (.exit 4,⟨(J::.ptr 0 0 0 0::v2::v3::J::.int .i64 n::v6::v7::J::v9::w'::J::J::J::J::J::J::J::J::J::J::J::J::J::J::J::J::J::J::J::J::J::J::J::J::J::J::J::J::J::J::J::J::J::J::J::J::J::J::J::J::J::J::J::J::v55::v56::J::J::J::J::J::J::J::J::J::J::J::J::J::J::J::J::J::J::J::J::J::J::J::J::J::J::J::J::J::J::J::J::J::J::J::J::J::J::J::J::J::J::J::J::J::J::J::J::J::J::J::J::J::J::J::J::J::J::J::J::J::J::J::J::J::J::J::J::J::J::J::J::J::J::J::J::J::J::J::[]),h'⟩) ∧
   aAi 1 (eIs (xs++(row.drop i).map (aBO n))) w' h' q'∧(∀ i,q'=some i→B≤i)∧B≤h'.length∧(∀ (j:Nat) (o:AObj),j < B→h[j]?=some o→h'[j]?=some o):=by
 intro d
 induction d with
 | zero =>
  intro i m xs h w q h1 h2 ow tv lb lx
  obtain ⟨m,rfl⟩:∃ q,m=q+1:=⟨m - 1,by omega⟩
  have h3:¬ ((i:Int) < row.length):=by omega
  have q1:row.drop i=[]:=Q7.2 (by omega)
  rw [q1,List.map_nil,List.append_nil]
  refine ⟨h,w,q,?_,ow,tv,lb,fun _ _ _ e=>e⟩
  simp only [aAd,aDO,Zaf,Zag,Zah,Zak,Zal,Zan,Zao,Zap,Zaw,Zaz,Zbc,Zbm,Zbu,Zcz,Zdb,Zdf,Zdg,Zdh,Q2,Q3,Q0,Q1,Zdl,decide_false,Int.reduceNeg,eq_self,h3]
 | succ d ih =>
  intro i m xs h w q h1 h2 ow tv lb lx
  obtain ⟨m,rfl⟩:∃ q,m=q+1:=⟨m - 1,by omega⟩
  have h3:i < row.length:=by omega
  have h3':(i:Int) < row.length:=by omega
  have hw:=aBb (n:=i) (by omega)
  have q1:row.drop i=row[i]::row.drop (i+1):=Q5 h3
  have xc:=fun h=>hr.ix h .i64 i h3
  obtain ⟨x,hx⟩:∃ x,x=row[i]:=⟨_,rfl⟩
  rw [← hx] at xc
  have lv:∀ (h:aA0),aAc h 1 false (.vptr (eI x) 0)=some (.int .i64 x):=fun _=>rfl
  obtain ⟨y,hy⟩:∃ y,y=aBO n x:=⟨_,rfl⟩
  obtain ⟨iv,ver1,H1,r1,r2,r3,r4,r5⟩:=ow.push true (c:=[.int .i64 y]) rfl rfl (aC0 _) 8 (by omega) (by rw [Zet];omega)
  rw [Zet] at r1 r2
  rw [← aDk] at r2
  have tiv:B≤iv:=by
   rcases r4 with g | ⟨_,g⟩
   ·exact tv iv g
   ·omega
  obtain ⟨vvx,hvx⟩:∃ x,x=AV.hsl iv ver1 0 (xs.length+1) none:=⟨_,rfl⟩
  rw [← hvx] at r1 r2
  obtain ⟨h',w',q',e,g1,g2,g3,g4⟩:=ih (i+1) m (xs++[y]) H1 vvx (some iv) (by omega) (by omega) r2 (fun i f=>by cases f;exact tiv) (by omega) (by simp [lx])
  refine ⟨h',w',q',?_,?_,g2,g3,fun j o hj e=>g4 j o hj (r3 j o e (fun f=>by have:=tv j f;omega))⟩
  ·rw [← e]
   have lt2:=fun h:aA0=>aDe h (.int .i64 0) (.int .i64 y) rfl rfl
   by_cases c1:x < -1
   ·have ey:y = -1:=by rw [hy,aBO,if_pos (.inl c1)]
    have w1:IntKind.i64.wrap (-2+1)=y:=by rw [ey];decide
    simp only [aAd,aDO,Zae,Zaf,Zag,Zah,Zai,Zak,Zan,Zao,Zar,Zav,Zay,Zbc,Zbd,Zbh,Zbk,Zbm,Zbn,Zbo,Zbp,Zbs,Zbu,Zcf,Zcm,Zcr,Zcz,Zda,Zdb,Zdf,Zdg,Zdh,Q2,Q3,Q0,Q1,Zdi,Zdl,decide_true,Int.reduceNeg,eq_self,h3',xc,lv,c1,w1,ev2,lt2,r1,hw]
   ·by_cases c2:(n:Int)≤x
    ·have ey:y = -1:=by rw [hy,aBO,if_pos (.inr c2)]
     have w1:IntKind.i64.wrap (-2+1)=y:=by rw [ey];decide
     simp only [aAd,aDO,Zae,Zaf,Zag,Zah,Zai,Zak,Zan,Zao,Zar,Zav,Zay,Zbc,Zbd,Zbg,Zbl,Zbm,Zbn,Zbo,Zbp,Zbs,Zbu,Zcf,Zcm,Zcr,Zcz,Zda,Zdb,Zdf,Zdg,Zdh,Q2,Q3,Q0,Q1,Zdi,Zdl,Zdo,decide_true,decide_false,Int.reduceNeg,eq_self,h3',xc,lv,c1,c2,w1,ev2,lt2,r1,hw]
    ·have ey:y=x+1:=by rw [hy,aBO,if_neg (by omega)]
     have w1:IntKind.i64.wrap (x+1)=y:=by rw [ey];exact w64 (by omega) (by omega)
     simp only [aAd,aDO,Zae,Zaf,Zag,Zah,Zai,Zak,Zan,Zao,Zar,Zav,Zaw,Zay,Zbc,Zbd,Zbg,Zbl,Zbm,Zbn,Zbo,Zbp,Zbs,Zbu,Zcf,Zcm,Zcr,Zcz,Zda,Zdb,Zdf,Zdg,Zdh,Q2,Q3,Q0,Q1,Zdi,Zdl,Zdo,decide_true,decide_false,Int.reduceNeg,eq_self,h3',xc,lv,c1,c2,w1,ev2,lt2,r1,hw]
  ·rw [q1,List.map_cons,← hx,← hy]
   rw [Q8] at g1
   exact g1
end
theorem aSt {l:List Int} {v:AV} {h:aA0} {q:Option Nat} (ho:aAi 1 (eIs l) v h q) (h0:l≠[]) (hm:l.length≤1000000):lim G0.cfg (.func 61) [v] h=some (.int .i64 (aJE l),h):=by
 obtain ⟨x,c,e1,e2⟩:=fzI ho 998
 obtain ⟨h',r⟩:=aUq e2 h0 hm
 exact aH5 rfl rfl aJi (l.length+1) (aEo e1) r (rfl:freeze h' 1000 (.int .i64 _)=some (.int .i64 _,true)) (Bool.or_true _)
theorem aWt {t:TabD} {av gv:AV} (ha:LiG (LiG LiA) t.acts av) (hg:LiR t.gotos gv) (n:Nat) (hn1:t.acts.length=n) (hn2:t.gotos.length=n) (hn:n≤4096) (tm nt:Nat) (htm:2≤tm∧tm≤1000) (hnt:1≤nt∧nt≤1000) (N:Nat) (hN:5000≤N) :
  ∀ (d s m:Nat) (A G:List (List Int)) (h:aA0) (w2 w3:AV) (cs2 cs3:List (List AV)) (q2 q3:Option Nat) (S:Nat→Prop),n=s+d→d < m→h[0]?=some (.arr 0 2 true [[av,gv]])→aAi 1 cs2 w2 h q2→Nest eIs A cs2 h S→aAi 1 cs3 w3 h q3→Nest eIs G cs3 h S→(∀ i,S i→1≤i∧i < h.length)→(∀ i,q2=some i→1≤i∧¬ S i)→(∀ i,q3=some i→1≤i∧¬ S i)→(∀ i,q2=some i→q3≠some i)→A.length=s→G.length=s →
  (aHX n tm nt (t.acts.drop s) (t.gotos.drop s)=true→∃ (h':aA0) (w2' w3':AV) (cs2' cs3':List (List AV)) (q2' q3':Option Nat) (S':Nat→Prop),aAu (aA7 (lim G0.cfg) N aBo) m ⟨(J::.ptr 0 0 0 0::w2::w3::J::.int .i64 n::.int .i64 tm::.int .i64 nt::J::J::J::J::J::J::J::J::J::J::J::J::J::J::J::J::J::J::J::J::J::J::J::J::J::J::J::J::J::J::J::J::J::J::J::J::J::J::J::J::J::J::J::J::J::J::J::.int .i64 n::.int .i64 s::J::J::J::J::J::J::J::J::J::J::J::J::J::J::J::J::J::J::J::J::J::J::J::J::J::J::J::J::J::J::J::J::J::J::J::J::J::J::J::J::J::J::J::J::J::J::J::J::J::J::J::J::J::J::J::J::J::J::J::J::J::J::J::J::J::J::J::J::J::J::J::J::J::J::J::J::J::J::J::[]),h⟩=some (.exit 0,⟨(J::J::w2'::w3'::J::J::J::J::J::J::J::J::J::J::J::J::J::J::J::J::J::J::J::J::J::J::J::J::J::J::J::J::J::J::J::J::J::J::J::J::J::J::J::J::J::J::J::J::J::J::J::J::J::J::J::J::J::J::J::J::J::J::J::J::J::J::J::J::J::J::J::J::J::J::J::J::J::J::J::J::J::J::J::J::J::J::J::J::J::J::J::J::J::J::J::J::J::J::J::J::J::J::J::J::J::J::J::J::J::J::J::J::J::J::J::J::J::J::J::J::J::J::J::J::J::J::J::J::J::J::J::J::J::J::J::J::[]),h'⟩) ∧
   aAi 1 cs2' w2' h' q2'∧Nest eIs (A++aCU n (t.acts.drop s)) cs2' h' S'∧aAi 1 cs3' w3' h' q3'∧Nest eIs (G++aCT n (t.gotos.drop s)) cs3' h' S') ∧
  (aHX n tm nt (t.acts.drop s) (t.gotos.drop s)=false→∃ (h':aA0),aAu (aA7 (lim G0.cfg) N aBo) m ⟨(J::.ptr 0 0 0 0::w2::w3::J::.int .i64 n::.int .i64 tm::.int .i64 nt::J::J::J::J::J::J::J::J::J::J::J::J::J::J::J::J::J::J::J::J::J::J::J::J::J::J::J::J::J::J::J::J::J::J::J::J::J::J::J::J::J::J::J::J::J::J::J::.int .i64 n::.int .i64 s::J::J::J::J::J::J::J::J::J::J::J::J::J::J::J::J::J::J::J::J::J::J::J::J::J::J::J::J::J::J::J::J::J::J::J::J::J::J::J::J::J::J::J::J::J::J::J::J::J::J::J::J::J::J::J::J::J::J::J::J::J::J::J::J::J::J::J::J::J::J::J::J::J::J::J::J::J::J::J::[]),h⟩=some (.ret,⟨(J::J::.nilS::.nilS::.bool false::J::J::J::J::J::J::J::J::J::J::J::J::J::J::J::J::J::J::J::J::J::J::J::J::J::J::J::J::J::J::J::J::J::J::J::J::J::J::J::J::J::J::J::J::J::J::J::J::J::J::J::J::J::J::J::J::J::J::J::J::J::J::J::J::J::J::J::J::J::J::J::J::J::J::J::J::J::J::J::J::J::J::J::J::J::J::J::J::J::J::J::J::J::J::J::J::J::J::J::J::J::J::J::J::J::J::J::J::J::J::J::J::J::J::J::J::J::J::J::J::J::J::J::J::J::J::J::J::J::J::J::[]),h'⟩)):=by
 intro d
 induction d with
 | zero =>
  intro s m A G h w2 w3 cs2 cs3 q2 q3 S h1 h2 e0 o2 n2 o3 n3 hS hq2 hq3 hq lA lG
  obtain ⟨m,rfl⟩:∃ q,m=q+1:=⟨m - 1,by omega⟩
  have h3:¬ ((s:Int) < n):=by omega
  have k1:t.acts.drop s=[]:=Q7.2 (by omega)
  have k2:t.gotos.drop s=[]:=Q7.2 (by omega)
  rw [k1,k2]
  refine ⟨fun _=>⟨h,w2,w3,cs2,cs3,q2,q3,S,?_,o2,by simpa [aCU] using n2,o3,by simpa [aCT] using n3⟩,fun e=>(by cases e)⟩
  simp only [aAd,aCp,Zaf,Zag,Zah,Zak,Zal,Zan,Zao,Zap,Zaw,Zaz,Zbc,Zbm,Zbu,Zcz,Zdb,Zdf,Zdg,Zdh,Q2,Q3,Q0,Q1,Zdl,decide_false,eq_self,h3]
 | succ d ih =>
  intro s m A G h w2 w3 cs2 cs3 q2 q3 S h1 h2 e0 o2 n2 o3 n3 hS hq2 hq3 hq lA lG
  obtain ⟨m,rfl⟩:∃ q,m=q+1:=⟨m - 1,by omega⟩
  have s1:s < t.acts.length:=by omega
  have s2:s < t.gotos.length:=by omega
  have h3':(s:Int) < n:=by omega
  have hw:=aBb (n:=s) (by omega)
  have k1:t.acts.drop s=t.acts[s]::t.acts.drop (s+1):=Q5 s1
  have k2:t.gotos.drop s=t.gotos[s]::t.gotos.drop (s+1):=Q5 s2
  obtain ⟨ra,hra,xa⟩:=ha.ix s s1
  obtain ⟨rg,hrg,xg⟩:=hg.ix s s2
  obtain ⟨a,haa⟩:∃ a,a=t.acts[s]:=⟨_,rfl⟩
  obtain ⟨g,hgg⟩:∃ g,g=t.gotos[s]:=⟨_,rfl⟩
  rw [← haa] at hra k1
  rw [← hgg] at hrg k2
  rw [k1,k2,aHX,aON]
  have lv:∀ (h:aA0) (w:AV),aAc h 1 false (.vptr [w] 0)=some w:=fun _ _=>rfl
  have ldA:∀ h:aA0,h[0]?=some (.arr 0 2 true [[av,gv]])→aAc h 1 false (.ptr 0 0 0 0)=some av:=fun h e=>by rw [aAV h 1 0 0 0 0 false 2 true _ _ e rfl];rfl
  have ldG:∀ h:aA0,h[0]?=some (.arr 0 2 true [[av,gv]])→aAc h 1 false (.ptr 0 0 0 1)=some gv:=fun h e=>by rw [aAV h 1 0 0 0 1 false 2 true _ _ e rfl];rfl
  have la0:=ldA h e0
  have lg0:=ldG h e0
  have na:=hra.len
  have ng:=hrg.len
  by_cases c1:a.length=tm
  case neg =>
   have d1:decide ((a.length:Int)=tm)=false:=decide_eq_false (by omega)
   rw [decide_eq_false c1,Q4,Q4,Q4]
   refine ⟨fun e=>(by cases e),fun _=>⟨h,?_⟩⟩
   simp only [aAd,aCp,Zae,Zaf,Zag,Zah,Zai,Zak,Zam,Zan,Zao,Zaq,Zas,Zav,Zba,Zbc,Zbh,Zbk,Zbm,Zbn,Zbo,Zbp,Zbs,Zbu,Zcc,Zcf,Zck,Zcz,Zda,Zdb,Zdf,Zdg,Zdh,Q2,Q3,Q0,Q1,Zdl,Zdq,Zeb,decide_true,Bool.not_false,Nat.reduceAdd,eq_self,h3',la0,xa,lv,na,d1]
  case pos =>
  have d1:decide ((a.length:Int)=tm)=true:=decide_eq_true (by omega)
  by_cases c2:g.length=nt
  case neg =>
   have d2:decide ((g.length:Int)=nt)=false:=decide_eq_false (by omega)
   rw [decide_eq_false c2,Bool.and_false,Q4,Q4]
   refine ⟨fun e=>(by cases e),fun _=>⟨h,?_⟩⟩
   simp only [aAd,aCp,Zae,Zaf,Zag,Zah,Zai,Zak,Zam,Zan,Zao,Zaq,Zas,Zav,Zba,Zbc,Zbg,Zbl,Zbm,Zbn,Zbo,Zbp,Zbs,Zbu,Zcc,Zcf,Zck,Zcz,Zda,Zdb,Zdf,Zdg,Zdh,Q2,Q3,Q0,Q1,Zdl,Zdq,Zeb,decide_true,Bool.not_true,Bool.not_false,Nat.reduceAdd,eq_self,h3',la0,lg0,xa,xg,lv,na,ng,d1,d2]
  case pos =>
  have d2:decide ((g.length:Int)=nt)=true:=decide_eq_true (by omega)
  rw [decide_eq_true c1,decide_eq_true c2,Bool.true_and,Bool.true_and]
  have len1:1≤h.length:=aBI e0
  obtain ⟨h4,wx,qx,e4,ox,bx,l4,f4⟩:=aWs (v2:=w2) (v3:=w3) (v6:=.int .i64 tm) (v7:=.int .i64 nt) (v8:=.int .i64 s) (v10:=.nilS) (v55:=.int .i64 n) (v56:=.int .i64 s) (B:=h.length) hra (by omega) n hn N len1 a.length 0 N [] h .nilS none (by omega) (by omega) (aAi.nil 1 _) (fun _ e=>by cases e) (Nat.le_refl _) rfl
  rw [List.drop_zero,Q6] at ox
  rw [z0] at e4
  obtain ⟨h5,wy,qy,e5,oy,by',l5,f5⟩:=aWr (v2:=w2) (v3:=w3) (v6:=.int .i64 tm) (v7:=.int .i64 nt) (v9:=wx) (v55:=.int .i64 n) (v56:=.int .i64 s) (B:=h4.length) hrg (by omega) n hn N (by omega) g.length 0 N [] h4 .nilS none (by omega) (by omega) (aAi.nil 1 _) (fun _ e=>by cases e) (Nat.le_refl _) rfl
  rw [List.drop_zero,Q6] at oy
  rw [z0] at e5
  have qxl:∀ i,qx=some i→i < h4.length:=fun i e=>by rw [e] at ox;exact ox.lt
  have qyl:∀ i,qy=some i→i < h5.length:=fun i e=>by rw [e] at oy;exact oy.lt
  have ox5:=ox.frame (h':=h5) fun i o e k=>f5 i o (qxl i e) k
  have up5:∀ (j:Nat) (o:AObj),j < h.length→h[j]?=some o→h5[j]?=some o:=fun j o hj e=>f5 j o (by omega) (f4 j o hj e)
  have e04:=f4 0 _ (by omega) e0
  have lg4:=ldG h4 e04
  have m1:=aSt ox5 (aMI (by omega)) (by simp;omega)
  have m2:=aSt oy (aMI (by omega)) (by simp;omega)
  have g1:=aOV (a.map (aAU n)) (aMI (by omega))
  have g2:=aOV (g.map (aBO n)) (aMI (by omega))
  have z:∀ N,aAu (aA7 (lim G0.cfg) N aBo)=aAu (aA7 (lim G0.cfg) N aBo):=fun _=>rfl
  by_cases c3:aAS (a.map (aAU n))=true
  case neg =>
   have c3':aAS (a.map (aAU n))=false:=by simpa using c3
   have d3:aJE (a.map (aAU n)) < 0:=g1.2 c3'
   rw [c3',Q4,Q4]
   refine ⟨fun e=>(by cases e),fun _=>⟨h5,?_⟩⟩
   simp only [aAd,aCp,Zae,Zaf,Zag,Zah,Zai,Zaj,Zak,Zam,Zan,Zao,Zaq,Zas,Zat,Zav,Zaw,Zax,Zba,Zbc,Zbd,Zbg,Zbh,Zbk,Zbl,Zbm,Zbn,Zbo,Zbp,Zbs,Zbu,Zcc,Zcf,Zck,Zct,Zcu,Zcz,Zda,Zdb,Zdd,Zde,Zdf,Zdg,Zdh,Q2,Q3,Q0,Q1,Zdl,Zdq,Zeb,decide_true,Bool.not_true,Nat.reduceAdd,eq_self,Q9,Q6,h3',la0,lg0,xa,xg,lv,na,ng,d1,d2,e4,lg4,e5,m1,d3]
  case pos =>
  have d3:¬ aJE (a.map (aAU n)) < 0:=fun e=>by have:=g1.1 e;rw [c3] at this;cases this
  by_cases c4:aAS (g.map (aBO n))=true
  case neg =>
   have c4':aAS (g.map (aBO n))=false:=by simpa using c4
   have d4:aJE (g.map (aBO n)) < 0:=g2.2 c4'
   rw [c4',Bool.and_false,Q4]
   refine ⟨fun e=>(by cases e),fun _=>⟨h5,?_⟩⟩
   simp only [aAd,aCp,Zae,Zaf,Zag,Zah,Zai,Zaj,Zak,Zam,Zan,Zao,Zaq,Zas,Zat,Zav,Zaw,Zax,Zba,Zbc,Zbd,Zbg,Zbl,Zbm,Zbn,Zbo,Zbp,Zbs,Zbu,Zcc,Zcf,Zck,Zct,Zcu,Zcz,Zda,Zdb,Zdd,Zde,Zdf,Zdg,Zdh,Q2,Q3,Q0,Q1,Zdl,Zdq,Zeb,decide_true,decide_false,Bool.not_true,Nat.reduceAdd,eq_self,Q9,Q6,h3',la0,lg0,xa,xg,lv,na,ng,d1,d2,e4,lg4,e5,m1,m2,d3,d4]
  case pos =>
  have d4:¬ aJE (g.map (aBO n)) < 0:=fun e=>by have:=g2.1 e;rw [c4] at this;cases this
  rw [c3,c4,Bool.true_and,Bool.true_and]
  -- both rows are kept
  have q2l:∀ i,q2=some i→i < h.length:=fun i e=>by rw [e] at o2;exact o2.lt
  have q3l:∀ i,q3=some i→i < h.length:=fun i e=>by rw [e] at o3;exact o3.lt
  obtain ⟨S',hS'⟩:∃ S':Nat→Prop,S'=fun i=>S i∨qx=some i∨qy=some i:=⟨_,rfl⟩
  have o25:=o2.frame (h':=h5) fun i o e k=>up5 i o (q2l i e) k
  have o35:=o3.frame (h':=h5) fun i o e k=>up5 i o (q3l i e) k
  have n25:=(n2.frame (h':=h5) fun i o e k=>up5 i o (hS i e).2 k)
  have n35:=(n3.frame (h':=h5) fun i o e k=>up5 i o (hS i e).2 k)
  have nS2:∀ i,q2=some i→¬ S' i:=fun i e hs=>by
   rw [hS'] at hs
   rcases hs with hs | hs | hs
   ·exact (hq2 i e).2 hs
   ·have:=bx i hs;have:=q2l i e;omega
   ·have:=by' i hs;have:=q2l i e;omega
  have nS3:∀ i,q3=some i→¬ S' i:=fun i e hs=>by
   rw [hS'] at hs
   rcases hs with hs | hs | hs
   ·exact (hq3 i e).2 hs
   ·have:=bx i hs;have:=q3l i e;omega
   ·have:=by' i hs;have:=q3l i e;omega
  have lS':∀ i,S' i→1≤i∧i < h5.length:=fun i hs=>by
   rw [hS'] at hs
   rcases hs with hs | hs | hs
   ·have:=hS i hs;omega
   ·have:=bx i hs;have:=qxl i hs;omega
   ·have:=by' i hs;have:=qyl i hs;omega
  obtain ⟨lt2,H6a,i2,ver2,H6,t2,r1,r2,r3,r4,r5⟩:=o25.pushRow ox.cell n25.all 24 (by omega) (by rw [n2.len];omega) .nilS
  have ns2:¬ S' i2:=fun hs=>by
   rcases r4 with k | ⟨_,k⟩
   ·exact nS2 i2 k hs
   ·have:=(lS' i2 hs).2;omega
  have n26:Nest eIs (A++[a.map (aAU n)]) (cs2++[[wx]]) H6 S':=by
   have:=(n25.mono (S':=S') (fun i k=>by rw [hS'];exact .inl k)).push (x:=a.map (aAU n)) ox5 (fun i k=>by rw [hS'];exact .inr (.inl k))
   exact this.frame fun i o k e=>r3 i o e (fun f=>nS2 i f k)
  have o36:=o35.frame (h':=H6) fun i o f e=>r3 i o e (fun k=>hq i k f)
  have n36:Nest eIs (G++[g.map (aBO n)]) (cs3++[[wy]]) H6 S':=by
   have:=(n35.mono (S':=S') (fun i k=>by rw [hS'];exact .inl k)).push (x:=g.map (aBO n)) oy (fun i k=>by rw [hS'];exact .inr (.inr k))
   exact this.frame fun i o k e=>r3 i o e (fun f=>nS2 i f k)
  obtain ⟨lt3,H7a,i3,ver3,H7,t3,p1,p2,p3,p4,p5⟩:=o36.pushRow oy.cell n35.all 24 (by omega) (by rw [n3.len];omega) .nilS
  have ns3:¬ S' i3:=fun hs=>by
   rcases p4 with k | ⟨_,k⟩
   ·exact nS3 i3 k hs
   ·have:=(lS' i3 hs).2;omega
  have hne:i2≠i3:=fun k=>by
   rcases p4 with f | ⟨f1,f2⟩
   ·rcases r4 with u | ⟨_,u⟩
    ·exact hq i2 u (by rw [k];exact f)
    ·have:=q3l i3 f;omega
   ·have:=r2.lt;omega
  have o27:=r2.frame (h':=H7) fun i o f e=>p3 i o e (fun k=>by cases f;rcases r4 with u | ⟨_,u⟩;exact hq _ u k;have:=q3l _ k;omega)
  have n27:=n26.frame (h':=H7) fun i o k e=>p3 i o e (fun f=>nS3 i f k)
  have n37:=n36.frame (h':=H7) fun i o k e=>p3 i o e (fun f=>nS3 i f k)
  have e07:H7[0]?=some (.arr 0 2 true [[av,gv]]):=p3 0 _ (r3 0 _ (up5 0 _ (by omega) e0) (fun f=>by have:=(hq2 0 f).1;omega)) (fun f=>by have:=(hq3 0 f).1;omega)
  obtain ⟨wa,hwa⟩:∃ x,x=AV.hsl i2 ver2 0 (cs2.length+1) none:=⟨_,rfl⟩
  obtain ⟨wg,hwg⟩:∃ x,x=AV.hsl i3 ver3 0 (cs3.length+1) none:=⟨_,rfl⟩
  rw [← hwa] at r1 r2 o27
  rw [← hwg] at p1 p2
  have key:=ih (s+1) m (A++[a.map (aAU n)]) (G++[g.map (aBO n)]) H7 wa wg (cs2++[[wx]]) (cs3++[[wy]]) (some i2) (some i3) S' (by omega) (by omega) e07 o27 n27 p2 n37 (fun i k=>by have:=lS' i k;omega)
   (fun i e=>by cases e;exact ⟨by rcases r4 with u | ⟨_,u⟩;exact (hq2 _ u).1;omega,ns2⟩) (fun i e=>by cases e;exact ⟨by rcases p4 with u | ⟨_,u⟩;exact (hq3 _ u).1;omega,ns3⟩) (fun i e f=>by cases e;cases f;exact hne rfl) (by simp [lA]) (by simp [lG])
  have run:aAu (aA7 (lim G0.cfg) N aBo) (m+1) ⟨(J::.ptr 0 0 0 0::w2::w3::J::.int .i64 n::.int .i64 tm::.int .i64 nt::J::J::J::J::J::J::J::J::J::J::J::J::J::J::J::J::J::J::J::J::J::J::J::J::J::J::J::J::J::J::J::J::J::J::J::J::J::J::J::J::J::J::J::J::J::J::J::.int .i64 n::.int .i64 s::J::J::J::J::J::J::J::J::J::J::J::J::J::J::J::J::J::J::J::J::J::J::J::J::J::J::J::J::J::J::J::J::J::J::J::J::J::J::J::J::J::J::J::J::J::J::J::J::J::J::J::J::J::J::J::J::J::J::J::J::J::J::J::J::J::J::J::J::J::J::J::J::J::J::J::J::J::J::J::[]),h⟩=aAu (aA7 (lim G0.cfg) N aBo) m ⟨(J::.ptr 0 0 0 0::wa::wg::J::.int .i64 n::.int .i64 tm::.int .i64 nt::J::J::J::J::J::J::J::J::J::J::J::J::J::J::J::J::J::J::J::J::J::J::J::J::J::J::J::J::J::J::J::J::J::J::J::J::J::J::J::J::J::J::J::J::J::J::J::.int .i64 n::.int .i64 (s+1:Nat)::J::J::J::J::J::J::J::J::J::J::J::J::J::J::J::J::J::J::J::J::J::J::J::J::J::J::J::J::J::J::J::J::J::J::J::J::J::J::J::J::J::J::J::J::J::J::J::J::J::J::J::J::J::J::J::J::J::J::J::J::J::J::J::J::J::J::J::J::J::J::J::J::J::J::J::J::J::J::J::[]),H7⟩:=by
   simp only [aAd,aCp,Zae,Zaf,Zag,Zah,Zai,Zaj,Zak,Zan,Zao,Zar,Zat,Zav,Zaw,Zax,Zay,Zbc,Zbd,Zbg,Zbl,Zbm,Zbn,Zbo,Zbp,Zbs,Zbu,Zcc,Zcf,Zck,Zcm,Zcr,Zct,Zcu,Zcz,Zda,Zdb,Zdd,Zde,Zdf,Zdg,Zdh,Q2,Q3,Q0,Q1,Zdi,Zdl,Zdq,Zeb,decide_true,decide_false,Bool.not_true,Nat.reduceAdd,eq_self,Q9,Q6,h3',la0,lg0,xa,xg,lv,na,ng,d1,d2,e4,lg4,e5,m1,m2,d3,d4,ev2,t2,r1,t3,p1,hw]
  rw [run]
  refine ⟨fun hk => ?_,key.2⟩
  obtain ⟨h',w2',w3',cs2',cs3',q2',q3',S2,u1,u2,u3,u4,u5⟩:=key.1 hk
  refine ⟨h',w2',w3',cs2',cs3',q2',q3',S2,u1,u2,?_,u4,?_⟩
  ·rw [Q8] at u3;exact u3
  ·rw [Q8] at u5;exact u5
end Go.Proofs.Ytgeedikghjcebaa.Ai
namespace Go.Proofs.Ytgeedikghjcebaa.Ai
open Go Go.Proofs
open List renaming length_nil → Q0, length_cons → Q1, nil_append → Q2, getD_cons_zero → Q3, getD_cons_succ → Q4, replicate_succ → Q5, replicate_zero → Q6, set_cons_zero → Q7, set_cons_succ → Q8, cons_append → Q9
open Option renaming map_some → Z0
open Option.some renaming injEq → Z1
open Bool renaming not_true → Z2
set_option linter.unusedVariables false
set_option linter.unusedSimpArgs false
set_option maxRecDepth 10000
set_option maxHeartbeats 4000000
def TabD.tm (t:TabD):Nat:=(t.acts.headD []).length
def TabD.nt (t:TabD):Nat:=(t.gotos.headD []).length
def TabD.frame (t:TabD):Prop:=1≤t.acts.length∧t.acts.length≤4096∧t.gotos.length=t.acts.length∧2≤t.tm∧t.tm≤256∧1≤t.nt∧t.nt≤512
def TabD.ok (t:TabD):Prop:=t.frame∧aHX t.acts.length t.tm t.nt t.acts t.gotos=true
def TabD.numA (t:TabD):List (List Int):=aCU t.acts.length t.acts
def TabD.numG (t:TabD):List (List Int):=aCT t.acts.length t.gotos
theorem TabD.tm_0:∀ (t:TabD) (h:0 < t.acts.length),t.tm=t.acts[0].length
 | ⟨[],g⟩,h=>by simp at h
 | ⟨a::l,g⟩,h=>rfl
theorem TabD.nt_0:∀ (t:TabD) (h:0 < t.gotos.length),t.nt=t.gotos[0].length
 | ⟨a,[]⟩,h=>by simp at h
 | ⟨a,g::l⟩,h=>rfl
section
variable {t : TabD} {av gv : AV}
theorem aL0 (ha:LiG (LiG LiA) t.acts av) (hg:LiR t.gotos gv) (h:aA0):Zcw h 2 (.agg [av,gv])=some (.ptr h.length 0 0 0,h++[.arr 0 2 true [[av,gv]]]):=by
 have e:cellsOf (.agg [av,gv])=[av,gv]:=by simp [cellsOf]
 simp [Zcw,e]
theorem aJy (h:aA0) (e:h[0]?=some (.arr 0 2 true [[av,gv]])):aAc h 1 false (.ptr 0 0 0 0)=some av:=by rw [aAV h 1 0 0 0 0 false 2 true _ _ e rfl];rfl
theorem aJx (h:aA0) (e:h[0]?=some (.arr 0 2 true [[av,gv]])):aAc h 1 false (.ptr 0 0 0 1)=some gv:=by rw [aAV h 1 0 0 0 1 false 2 true _ _ e rfl];rfl
theorem aDd (h:aA0) (w:AV):aAc h 1 false (.vptr [w] 0)=some w:=rfl
theorem aPT (ha:LiG (LiG LiA) t.acts av) (hg:LiR t.gotos gv) :
  (t.ok→∃ (raw x2 x3:AV) (c:Bool) (h':aA0),aAW (lim G0.cfg) 5000 aDj [.agg [av,gv]] []=some (raw,h')∧freeze h' 1000 raw=some (.tup [x2,x3,.bool true],c)∧aB5 h' 1000 raw=true∧LiR t.numA x2∧LiR t.numG x3) ∧
  (¬ t.ok→∃ (h':aA0),aAW (lim G0.cfg) 5000 aDj [.agg [av,gv]] []=some (.tup [.nilS,.nilS,.bool false],h')):=by
 have bx:=aL0 ha hg
 have l0:=aJy (av:=av) (gv:=gv) [.arr 0 2 true [[av,gv]]] rfl
 have l1:=aJx (av:=av) (gv:=gv) [.arr 0 2 true [[av,gv]]] rfl
 have na:=ha.len
 have ng:=hg.len
 obtain ⟨n,hn⟩:∃ n,n=t.acts.length:=⟨_,rfl⟩
 rw [← hn] at na
 rw [aNX]
 by_cases c1:(n:Int) < 1
 case pos =>
  refine ⟨fun k=>by have:=k.1.1;omega,fun _ => ?_⟩
  simp only [Zaf,Zag,Zah,Zam,Zan,Zao,Zaq,Zav,Zbc,Zbd,Zbh,Zbk,Zbm,Zbn,Zbo,Zbp,Zbr,Zbs,Zbu,Zcc,Zck,Zcw,Zcy,Zcz,Zda,Zdb,Q7,Q8,Q3,Q4,Z0,Zdl,Zeb,Zef,decide_true,Q1,Q0,if_true,Nat.reduceAdd,Nat.reduceSub,eq_self,true_and,Q1,Q0,Q5,Q6,Q9,Q2,l0,na,c1,aA5,aA4,aA8,Z1,Prod.mk.injEq,true_and,exists_eq']
 case neg =>
 by_cases c2:(4096:Int) < n
 case pos =>
  refine ⟨fun k=>by have:=k.1.2.1;omega,fun _ => ?_⟩
  simp only [Zaf,Zag,Zah,Zam,Zan,Zao,Zaq,Zav,Zbc,Zbd,Zbg,Zbh,Zbk,Zbl,Zbm,Zbn,Zbo,Zbp,Zbr,Zbs,Zbu,Zcc,Zck,Zcw,Zcy,Zcz,Zda,Zdb,Q7,Q8,Q3,Q4,Z0,Zdl,Zdn,Zeb,Zef,decide_true,decide_false,Q1,Q0,if_true,Nat.reduceAdd,Nat.reduceSub,eq_self,true_and,Q1,Q0,Q5,Q6,Q9,Q2,l0,na,c1,c2,aA5,aA4,aA8,Z1,Prod.mk.injEq,true_and,exists_eq']
 case neg =>
 by_cases c3:t.gotos.length=n
 case neg =>
  have d3:decide ((t.gotos.length:Int)=n)=false:=decide_eq_false (by omega)
  refine ⟨fun k=>by have:=k.1.2.2.1;omega,fun _ => ?_⟩
  simp only [Zaf,Zag,Zah,Zam,Zan,Zao,Zaq,Zav,Zbc,Zbd,Zbg,Zbl,Zbm,Zbn,Zbo,Zbp,Zbr,Zbs,Zbu,Zcc,Zck,Zcw,Zcy,Zcz,Zda,Zdb,Q7,Q8,Q3,Q4,Z0,Zdl,Zdn,Zdq,Zeb,Zef,decide_false,Bool.not_false,Q1,Q0,if_true,Nat.reduceAdd,Nat.reduceSub,eq_self,true_and,Q1,Q0,Q5,Q6,Q9,Q2,l0,l1,na,ng,c1,c2,d3,aA5,aA4,aA8,Z1,Prod.mk.injEq,true_and,exists_eq']
 case pos =>
 have d3:decide ((t.gotos.length:Int)=n)=true:=decide_eq_true (by omega)
 obtain ⟨ra,hra,xa⟩:=ha.ix 0 (by omega)
 obtain ⟨rg,hrg,xg⟩:=hg.ix 0 (by omega)
 rw [z0] at xa xg
 have nra:=hra.len
 have nrg:=hrg.len
 rw [← t.tm_0 (by omega)] at nra
 rw [← t.nt_0 (by omega)] at nrg
 by_cases c4:(t.tm:Int) < 2
 case pos =>
  refine ⟨fun k=>by have:=k.1.2.2.2.1;omega,fun _ => ?_⟩
  simp only [Zae,Zaf,Zag,Zah,Zam,Zan,Zao,Zaq,Zav,Zaw,Zbc,Zbd,Zbg,Zbh,Zbk,Zbl,Zbm,Zbn,Zbo,Zbp,Zbr,Zbs,Zbu,Zcc,Zcf,Zck,Zcw,Zcy,Zcz,Zda,Zdb,Q7,Q8,Q3,Q4,Z0,Zdl,Zdn,Zdq,Zeb,Zef,decide_true,decide_false,Z2,Q1,Q0,if_true,Nat.reduceAdd,Nat.reduceSub,eq_self,true_and,Q1,Q0,Q5,Q6,Q9,Q2,l0,l1,na,ng,c1,c2,d3,xa,xg,aDd,nra,nrg,c4,aA5,aA4,aA8,Z1,Prod.mk.injEq,true_and,exists_eq']
 case neg =>
 by_cases c5:(256:Int) < t.tm
 case pos =>
  refine ⟨fun k=>by have:=k.1.2.2.2.2.1;omega,fun _ => ?_⟩
  simp only [Zae,Zaf,Zag,Zah,Zam,Zan,Zao,Zaq,Zav,Zaw,Zbc,Zbd,Zbg,Zbh,Zbk,Zbl,Zbm,Zbn,Zbo,Zbp,Zbr,Zbs,Zbu,Zcc,Zcf,Zck,Zcw,Zcy,Zcz,Zda,Zdb,Q7,Q8,Q3,Q4,Z0,Zdl,Zdn,Zdq,Zeb,Zef,decide_true,decide_false,Z2,Q1,Q0,if_true,Nat.reduceAdd,Nat.reduceSub,eq_self,true_and,Q1,Q0,Q5,Q6,Q9,Q2,l0,l1,na,ng,c1,c2,d3,xa,xg,aDd,nra,nrg,c4,c5,aA5,aA4,aA8,Z1,Prod.mk.injEq,true_and,exists_eq']
 case neg =>
 by_cases c6:(t.nt:Int) < 1
 case pos =>
  refine ⟨fun k=>by have:=k.1.2.2.2.2.2.1;omega,fun _ => ?_⟩
  simp only [Zae,Zaf,Zag,Zah,Zam,Zan,Zao,Zaq,Zav,Zaw,Zbc,Zbd,Zbg,Zbh,Zbk,Zbl,Zbm,Zbn,Zbo,Zbp,Zbr,Zbs,Zbu,Zcc,Zcf,Zck,Zcw,Zcy,Zcz,Zda,Zdb,Q7,Q8,Q3,Q4,Z0,Zdl,Zdn,Zdq,Zeb,Zef,decide_true,decide_false,Z2,Q1,Q0,if_true,Nat.reduceAdd,Nat.reduceSub,eq_self,true_and,Q1,Q0,Q5,Q6,Q9,Q2,l0,l1,na,ng,c1,c2,d3,xa,xg,aDd,nra,nrg,c4,c5,c6,aA5,aA4,aA8,Z1,Prod.mk.injEq,true_and,exists_eq']
 case neg =>
 by_cases c7:(512:Int) < t.nt
 case pos =>
  refine ⟨fun k=>by have:=k.1.2.2.2.2.2.2;omega,fun _ => ?_⟩
  simp only [Zae,Zaf,Zag,Zah,Zam,Zan,Zao,Zaq,Zav,Zaw,Zbc,Zbd,Zbg,Zbl,Zbm,Zbn,Zbo,Zbp,Zbr,Zbs,Zbu,Zcc,Zcf,Zck,Zcw,Zcy,Zcz,Zda,Zdb,Q7,Q8,Q3,Q4,Z0,Zdl,Zdn,Zdq,Zeb,Zef,decide_true,decide_false,Z2,Q1,Q0,if_true,Nat.reduceAdd,Nat.reduceSub,eq_self,true_and,Q1,Q0,Q5,Q6,Q9,Q2,l0,l1,na,ng,c1,c2,d3,xa,xg,aDd,nra,nrg,c4,c5,c6,c7,aA5,aA4,aA8,Z1,Prod.mk.injEq,true_and,exists_eq']
 case neg =>
 have fr:t.frame:=⟨by omega,by omega,by omega,by omega,by omega,by omega,by omega⟩
 have key:=aWt ha hg n hn.symm c3 (by omega) t.tm t.nt (by omega) (by omega) 5000 (Nat.le_refl _) n 0 5000 [] [] [.arr 0 2 true [[av,gv]]] .nilS .nilS [] [] none none (fun _=>False) (by omega) (by omega) rfl (aAi.nil 1 _) (Nest.nil _ _ _) (aAi.nil 1 _) (Nest.nil _ _ _) (fun _ e=>e.elim) (fun _ e=>by cases e) (fun _ e=>by cases e) (fun _ e=>by cases e) rfl rfl
 rw [List.drop_zero,List.drop_zero,z0,Q2,Q2] at key
 by_cases c8:aHX n t.tm t.nt t.acts t.gotos=true
 case neg =>
  have c8':aHX n t.tm t.nt t.acts t.gotos=false:=by simpa using c8
  obtain ⟨h',e⟩:=key.2 c8'
  refine ⟨fun k=>absurd (hn ▸ k.2) c8,fun _=>⟨h',?_⟩⟩
  simp only [Zae,Zaf,Zag,Zah,Zai,Zaj,Zak,Zan,Zao,Zaq,Zas,Zaw,Zax,Zbc,Zbd,Zbg,Zbl,Zbm,Zbn,Zbo,Zbp,Zbr,Zbs,Zbu,Zcc,Zcf,Zck,Zcw,Zcy,Zcz,Zda,Zdb,Zdf,Zdg,Zdh,Q7,Q8,Q3,Q4,Z0,Zdl,Zdn,Zdq,Zeb,Zef,decide_false,Z2,Q1,Q0,if_true,Nat.reduceAdd,Nat.reduceSub,eq_self,Q1,Q0,Q5,Q6,Q9,Q2,Q2,Q0,l0,l1,na,ng,c1,c2,d3,xa,xg,aDd,nra,nrg,c4,c5,c6,c7,e,aA5,aA4,aA8]
 case pos =>
  obtain ⟨h',w2',w3',cs2',cs3',q2',q3',S',e,o2,n2,o3,n3⟩:=key.1 c8
  obtain ⟨x2,b2,f2,g2⟩:=n2.fz o2 996
  obtain ⟨x3,b3,f3,g3⟩:=n3.fz o3 996
  have k2:=n2.clean o2 996
  have k3:=n3.clean o3 996
  have fz:freeze h' 1000 (.tup [w2',w3',.bool true])=some (.tup [x2,x3,.bool true],([(x2,b2),(x3,b3),(.bool true,true)]:List (AV × Bool)).all (·.2)):=by
   have:freeze h' 1000 (.tup [w2',w3',.bool true])=(aAo (freeze h' 999) [w2',w3',.bool true]).map fun l=>(.tup (l.map (·.1)),l.all (·.2)):=rfl
   rw [this]
   have f4:freeze h' 999 (.bool true)=some (.bool true,true):=rfl
   have m:aAo (freeze h' 999) [w2',w3',.bool true]=some [(x2,b2),(x3,b3),(.bool true,true)]:=by simp only [aAo,f2,f3,f4]
   rw [m];rfl
  have cl:aB5 h' 1000 (.tup [w2',w3',.bool true])=true:=by
   have:aB5 h' 1000 (.tup [w2',w3',.bool true])=[w2',w3',.bool true].all (aB5 h' 999):=rfl
   rw [this]
   have f4:aB5 h' 999 (.bool true)=true:=rfl
   simp only [List.all_cons,List.all_nil,k2,k3,f4,Bool.and_self]
  refine ⟨fun _=>⟨.tup [w2',w3',.bool true],x2,x3,_,h',?_,fz,cl,by unfold TabD.numA;rw [← hn];exact g2,by unfold TabD.numG;rw [← hn];exact g3⟩,fun k=>absurd ⟨fr,hn ▸ c8⟩ k⟩
  simp only [Zae,Zaf,Zag,Zah,Zai,Zaj,Zak,Zam,Zan,Zao,Zat,Zaw,Zax,Zbc,Zbd,Zbg,Zbl,Zbm,Zbn,Zbo,Zbp,Zbr,Zbs,Zbu,Zcc,Zcf,Zck,Zcw,Zcy,Zcz,Zda,Zdb,Zdf,Zdg,Zdh,Q7,Q8,Q3,Q4,Z0,Zdl,Zdn,Zdq,Zeb,Zef,decide_false,Z2,Q1,Q0,if_true,Nat.reduceAdd,Nat.reduceSub,eq_self,Q1,Q0,Q5,Q6,Q9,Q2,Q2,Q0,l0,l1,na,ng,c1,c2,d3,xa,xg,aDd,nra,nrg,c4,c5,c6,c7,e,aA5,aA4,aA8]
theorem aSq (ha:LiG (LiG LiA) t.acts av) (hg:LiR t.gotos gv) :
  (t.ok→∃ (x2 x3:AV),LiR t.numA x2∧LiR t.numG x3∧∀ (H:aA0) (v:AV) (c:Bool),freeze H 1000 v=some (.agg [av,gv],c)→lim G0.cfg (.func 52) [v] H=some (.tup [x2,x3,.bool true],H)) ∧
  (¬ t.ok→∀ (H:aA0) (v:AV) (c:Bool),freeze H 1000 v=some (.agg [av,gv],c)→lim G0.cfg (.func 52) [v] H=some (.tup [.nilS,.nilS,.bool false],H)):=by
 obtain ⟨k1,k2⟩:=aPT ha hg
 refine ⟨fun k => ?_,fun k H v c hv => ?_⟩
 ·obtain ⟨raw,x2,x3,c,h',r,f,cl,g2,g3⟩:=k1 k
  exact ⟨x2,x3,g2,g3,fun H v c hv=>aOi rfl rfl aJj 5000 (aEo hv) r f cl⟩
 ·obtain ⟨h',r⟩:=k2 k
  exact aOi rfl rfl aJj 5000 (aEo hv) r (rfl:freeze h' 1000 (.tup [.nilS,.nilS,.bool false])=some (.tup [.nilS,.nilS,.bool false],true)) rfl
end
end Go.Proofs.Ytgeedikghjcebaa.Ai
namespace Go.Proofs.Ytgeedikghjcebaa.Ai
open Go Go.Proofs
open AV renaming junk → J
open List renaming getD_cons_zero → Q0, getD_cons_succ → Q1, set_cons_zero → Q2, set_cons_succ → Q3, length_nil → Q4, length_cons → Q5, nil_append → Q6, cons_append → Q7, replicate_succ → Q8, replicate_zero → Q9, drop_eq_getElem_cons → Z1, drop_eq_nil_iff → Z7
open Option.some renaming injEq → Z0
open Bool renaming not_true → Z2, decide_and → Z3, not_false → Z5, false_and → Z6
open Option renaming map_some → Z4
set_option linter.unusedVariables false
set_option linter.unusedSimpArgs false
set_option maxRecDepth 10000
set_option maxHeartbeats 4000000
def aCY (tm nt:Nat):List (List (List (Int × Int)))→List (List Int)→Bool
 | a::al,g::gl=>(decide (a.length=tm) && decide (g.length=nt)) && aCY tm nt al gl
 | _,_=>true
theorem aLL (n:Int) (tm nt:Nat):∀ (al:List (List (List (Int × Int)))) (gl:List (List Int)),al.length=gl.length→aHX n tm nt al gl=(aCY tm nt al gl && ((aCU n al).all aAS && (aCT n gl).all aAS)):=by
 intro al
 induction al with
 | nil=>intro gl h;have:gl=[]:=List.length_eq_zero_iff.1 (by simpa using h.symm);subst this;rfl
 | cons a al ih =>
  intro gl h
  cases gl with
  | nil=>simp at h
  | cons g gl =>
   have e:=ih gl (by simpa using h)
   have e1:aCU n (a::al)=a.map (aAU n)::aCU n al:=rfl
   have e2:aCT n (g::gl)=g.map (aBO n)::aCT n gl:=rfl
   rw [aHX,aCY,e,aON,e1,e2,List.all_cons,List.all_cons]
   cases (decide (a.length=tm) && decide (g.length=nt)) <;> cases aAS (a.map (aAU n)) <;> cases aAS (g.map (aBO n)) <;> cases aCY tm nt al gl <;> cases (aCU n al).all aAS <;> cases (aCT n gl).all aAS <;> rfl
section
variable {t : TabD} {av gv : AV}
theorem aQw (ha:LiG (LiG LiA) t.acts av) (hg:LiR t.gotos gv) (H:aA0) :
  (t.frame∧aCY t.tm t.nt t.acts t.gotos=true→lim G0.cfg (.func 47) [.agg [av,gv]] H=some (.bool true,H)) ∧
  (¬ (t.frame∧aCY t.tm t.nt t.acts t.gotos=true)→lim G0.cfg (.func 47) [.agg [av,gv]] H=some (.bool false,H)):=by
 have fzs:∀ h,aAo (freeze h 1000) [.agg [av,gv]]=some ([AV.agg [av,gv]].map fun x=>(x,true)):=fun h=>aCG (by
  have:freeze h 1000 (.agg [av,gv])=(aAo (freeze h 999) [av,gv]).map fun l=>(.agg (l.map (·.1)),l.all (·.2)):=rfl
  rw [this]
  simp only [aAo,ha.fz h 998,hg.fz h 998];rfl)
 have bx:=aL0 ha hg
 have l0:=aJy (av:=av) (gv:=gv) [.arr 0 2 true [[av,gv]]] rfl
 have l1:=aJx (av:=av) (gv:=gv) [.arr 0 2 true [[av,gv]]] rfl
 have na:=ha.len
 have ng:=hg.len
 obtain ⟨n,hn⟩:∃ n,n=t.acts.length:=⟨_,rfl⟩
 rw [← hn] at na
 have key:(t.frame∧aCY t.tm t.nt t.acts t.gotos=true→∃ h',aAW (lim G0.cfg) 5000 aEA [.agg [av,gv]] []=some (.bool true,h'))∧(¬ (t.frame∧aCY t.tm t.nt t.acts t.gotos=true)→∃ h',aAW (lim G0.cfg) 5000 aEA [.agg [av,gv]] []=some (.bool false,h')):=by
  rw [aQh]
  have w1:=aGr n 1 4096
  by_cases c1:1≤n∧n≤4096
  case neg =>
   have d1:(decide ((1:Int)≤n) && decide ((n:Int)≤4096))=false:=by rw [← Z3];exact decide_eq_false (by omega)
   rw [d1] at w1
   refine ⟨fun k=>by have:=k.1.1;have:=k.1.2.1;omega,fun _ => ?_⟩
   simp only [Zaf,Zag,Zah,Zam,Zan,Zao,Zaq,Zav,Zbc,Zbd,Zbh,Zbk,Zbm,Zbn,Zbo,Zbp,Zbr,Zbs,Zbv,Zcc,Zck,Zct,Zcu,Zcw,Zcy,Zcz,Zda,Zdb,Zdd,Zde,Q2,Q3,Q0,Q1,Z4,Zdv,Zeb,Zef,Z5,Q5,Q4,if_true,Nat.reduceAdd,Nat.reduceSub,eq_self,true_and,Q5,Q4,Q8,Q9,Q7,Q6,l0,na,w1,aA5,aA4,aA8,Z0,Prod.mk.injEq,true_and,exists_eq']
  case pos =>
  have d1:(decide ((1:Int)≤n) && decide ((n:Int)≤4096))=true:=by rw [← Z3];exact decide_eq_true (by omega)
  rw [d1] at w1
  by_cases c3:t.gotos.length=n
  case neg =>
   have d3:decide ((t.gotos.length:Int)=n)=false:=decide_eq_false (by omega)
   refine ⟨fun k=>by have:=k.1.2.2.1;omega,fun _ => ?_⟩
   simp only [Zaf,Zag,Zah,Zam,Zan,Zao,Zaq,Zav,Zbc,Zbd,Zbg,Zbl,Zbm,Zbn,Zbo,Zbp,Zbr,Zbs,Zbu,Zbv,Zcc,Zck,Zct,Zcu,Zcw,Zcy,Zcz,Zda,Zdb,Zdd,Zde,Q2,Q3,Q0,Q1,Z4,Zdq,Zdv,Zeb,Zef,Z2,Z5,Q5,Q4,if_true,Nat.reduceAdd,Nat.reduceSub,eq_self,true_and,Q5,Q4,Q8,Q9,Q7,Q6,l0,l1,na,ng,w1,d3,aA5,aA4,aA8,Z0,Prod.mk.injEq,true_and,exists_eq']
  case pos =>
  have d3:decide ((t.gotos.length:Int)=n)=true:=decide_eq_true (by omega)
  obtain ⟨ra,hra,xa⟩:=ha.ix 0 (by omega)
  obtain ⟨rg,hrg,xg⟩:=hg.ix 0 (by omega)
  rw [z0] at xa xg
  have nra:=hra.len
  have nrg:=hrg.len
  rw [← t.tm_0 (by omega)] at nra
  rw [← t.nt_0 (by omega)] at nrg
  have w2:=aGr t.tm 2 256
  have w3:=aGr t.nt 1 512
  by_cases c4:2≤t.tm∧t.tm≤256
  case neg =>
   have d4:(decide ((2:Int)≤t.tm) && decide ((t.tm:Int)≤256))=false:=by rw [← Z3];exact decide_eq_false (by omega)
   rw [d4] at w2
   refine ⟨fun k=>by have:=k.1.2.2.2.1;have:=k.1.2.2.2.2.1;omega,fun _ => ?_⟩
   simp only [Zae,Zaf,Zag,Zah,Zam,Zan,Zao,Zaq,Zav,Zaw,Zbc,Zbd,Zbg,Zbh,Zbk,Zbl,Zbm,Zbn,Zbo,Zbp,Zbr,Zbs,Zbu,Zbv,Zcc,Zcf,Zck,Zct,Zcu,Zcw,Zcy,Zcz,Zda,Zdb,Zdd,Zde,Q2,Q3,Q0,Q1,Z4,Zdq,Zdv,Zeb,Zef,Z2,Z5,Q5,Q4,if_true,Nat.reduceAdd,Nat.reduceSub,eq_self,true_and,Q5,Q4,Q8,Q9,Q7,Q6,l0,l1,na,ng,w1,d3,xa,aDd,nra,w2,aA5,aA4,aA8,Z0,Prod.mk.injEq,true_and,exists_eq']
  case pos =>
  have d4:(decide ((2:Int)≤t.tm) && decide ((t.tm:Int)≤256))=true:=by rw [← Z3];exact decide_eq_true (by omega)
  rw [d4] at w2
  by_cases c6:1≤t.nt∧t.nt≤512
  case neg =>
   have d6:(decide ((1:Int)≤t.nt) && decide ((t.nt:Int)≤512))=false:=by rw [← Z3];exact decide_eq_false (by omega)
   rw [d6] at w3
   refine ⟨fun k=>by have:=k.1.2.2.2.2.2.1;have:=k.1.2.2.2.2.2.2;omega,fun _ => ?_⟩
   simp only [Zae,Zaf,Zag,Zah,Zam,Zan,Zao,Zaq,Zav,Zaw,Zbc,Zbd,Zbg,Zbl,Zbm,Zbn,Zbo,Zbp,Zbr,Zbs,Zbu,Zbv,Zcc,Zcf,Zck,Zct,Zcu,Zcw,Zcy,Zcz,Zda,Zdb,Zdd,Zde,Q2,Q3,Q0,Q1,Z4,Zdq,Zdv,Zeb,Zef,Z2,Z5,Q5,Q4,if_true,Nat.reduceAdd,Nat.reduceSub,eq_self,true_and,Q5,Q4,Q8,Q9,Q7,Q6,l0,l1,na,ng,w1,d3,xa,xg,aDd,nra,nrg,w2,w3,aA5,aA4,aA8,Z0,Prod.mk.injEq,true_and,exists_eq']
  case pos =>
  have d6:(decide ((1:Int)≤t.nt) && decide ((t.nt:Int)≤512))=true:=by rw [← Z3];exact decide_eq_true (by omega)
  rw [d6] at w3
  have fr:t.frame:=⟨by omega,by omega,by omega,by omega,by omega,by omega,by omega⟩
  obtain ⟨h1,hh1⟩:∃ h1:aA0,h1=[.arr 0 2 true [[av,gv]]]:=⟨_,rfl⟩
  rw [← hh1] at l0 l1
  have loop:∀ (d s m:Nat),n=s+d→d < m→aAu (aA7 (lim G0.cfg) 5000 aEs) m ⟨(J::.ptr 0 0 0 0::J::.int .i64 s::J::J::J::J::J::J::J::J::J::J::J::J::J::J::J::J::J::J::J::J::J::J::J::J::J::J::J::J::J::J::J::J::J::J::J::J::J::J::J::J::J::J::J::J::J::J::J::J::J::J::J::J::J::J::J::J::J::J::J::J::J::J::J::[]),h1⟩=bif aCY t.tm t.nt (t.acts.drop s) (t.gotos.drop s) then some (.exit 0,⟨(J::J::J::J::J::J::J::J::J::J::J::J::J::J::J::J::J::J::J::J::J::J::J::J::J::J::J::J::J::J::J::J::J::J::J::J::J::J::J::J::J::J::J::J::J::J::J::J::J::J::J::J::J::J::J::J::J::J::J::J::J::J::J::J::J::J::J::[]),h1⟩) else some (.ret,⟨(J::J::.bool false::J::J::J::J::J::J::J::J::J::J::J::J::J::J::J::J::J::J::J::J::J::J::J::J::J::J::J::J::J::J::J::J::J::J::J::J::J::J::J::J::J::J::J::J::J::J::J::J::J::J::J::J::J::J::J::J::J::J::J::J::J::J::J::J::[]),h1⟩):=by
   intro d
   induction d with
   | zero =>
    intro s m h2 h3
    obtain ⟨m,rfl⟩:∃ q,m=q+1:=⟨m - 1,by omega⟩
    have h4:¬ ((s:Int) < n):=by omega
    have k1:t.acts.drop s=[]:=Z7.2 (by omega)
    rw [k1,aCY,cond_true]
    ·simp only [aAd,aFd,Zaf,Zag,Zah,Zak,Zal,Zan,Zao,Zap,Zaw,Zaz,Zbc,Zbm,Zbo,Zbs,Zbu,Zcc,Zck,Zcz,Zdb,Zdg,Zdh,Q2,Q3,Q0,Q1,Zdl,Zeb,decide_false,Nat.reduceAdd,eq_self,l0,na,h4]
    ·intros;simp_all
   | succ d ih =>
    intro s m h2 h3
    obtain ⟨m,rfl⟩:∃ q,m=q+1:=⟨m - 1,by omega⟩
    have s1:s < t.acts.length:=by omega
    have s2:s < t.gotos.length:=by omega
    have h4:(s:Int) < n:=by omega
    have hw:=aBb (n:=s) (by omega)
    have k1:t.acts.drop s=t.acts[s]::t.acts.drop (s+1):=Z1 s1
    have k2:t.gotos.drop s=t.gotos[s]::t.gotos.drop (s+1):=Z1 s2
    obtain ⟨qa,hqa,ya⟩:=ha.ix s s1
    obtain ⟨qg,hqg,yg⟩:=hg.ix s s2
    have mra:=hqa.len
    have mrg:=hqg.len
    rw [k1,k2,aCY]
    by_cases e1:t.acts[s].length=t.tm
    ·have f1:decide ((t.acts[s].length:Int)=t.tm)=true:=decide_eq_true (by omega)
     by_cases e2:t.gotos[s].length=t.nt
     ·have f2:decide ((t.gotos[s].length:Int)=t.nt)=true:=decide_eq_true (by omega)
      rw [decide_eq_true e1,decide_eq_true e2,Bool.true_and,Bool.true_and,← ih (s+1) m (by omega) (by omega)]
      simp only [aAd,aFd,Zae,Zaf,Zag,Zah,Zai,Zak,Zan,Zao,Zar,Zav,Zaw,Zay,Zbc,Zbg,Zbl,Zbm,Zbn,Zbo,Zbp,Zbs,Zbu,Zcc,Zcf,Zck,Zcz,Zda,Zdb,Zdf,Zdg,Zdh,Q2,Q3,Q0,Q1,Zdi,Zdl,Zdq,Zeb,decide_true,Z2,Nat.reduceAdd,eq_self,l0,l1,na,h4,xa,xg,ya,yg,aDd,nra,nrg,mra,mrg,f1,f2,hw]
     ·have f2:decide ((t.gotos[s].length:Int)=t.nt)=false:=decide_eq_false (by omega)
      rw [decide_eq_false e2,Bool.and_false,Z6,cond_false]
      simp only [aAd,aFd,Zae,Zaf,Zag,Zah,Zai,Zak,Zam,Zan,Zao,Zaq,Zas,Zav,Zba,Zbc,Zbg,Zbl,Zbm,Zbn,Zbo,Zbp,Zbs,Zbu,Zcc,Zcf,Zck,Zcz,Zda,Zdb,Zdf,Zdg,Zdh,Q2,Q3,Q0,Q1,Zdl,Zdq,Zeb,decide_true,Z2,Z5,Nat.reduceAdd,eq_self,l0,l1,na,h4,xa,xg,ya,yg,aDd,nra,nrg,mra,mrg,f1,f2]
    ·have f1:decide ((t.acts[s].length:Int)=t.tm)=false:=decide_eq_false (by omega)
     rw [decide_eq_false e1,Z6,Z6,cond_false]
     simp only [aAd,aFd,Zae,Zaf,Zag,Zah,Zai,Zak,Zam,Zan,Zao,Zaq,Zas,Zav,Zba,Zbc,Zbh,Zbk,Zbm,Zbn,Zbo,Zbp,Zbs,Zbu,Zcc,Zcf,Zck,Zcz,Zda,Zdb,Zdf,Zdg,Zdh,Q2,Q3,Q0,Q1,Zdl,Zdq,Zeb,decide_true,Z5,Nat.reduceAdd,eq_self,l0,na,h4,xa,ya,aDd,nra,mra,f1]
  have e:=loop n 0 5000 (by omega) (by omega)
  rw [List.drop_zero,List.drop_zero,z0,hh1] at e
  rw [hh1] at l0 l1
  by_cases c8:aCY t.tm t.nt t.acts t.gotos=true
  ·rw [c8,cond_true] at e
   refine ⟨fun _ => ?_,fun k=>absurd ⟨fr,c8⟩ k⟩
   simp only [Zae,Zaf,Zag,Zah,Zai,Zaj,Zak,Zam,Zan,Zao,Zat,Zaw,Zax,Zbc,Zbd,Zbg,Zbl,Zbm,Zbn,Zbo,Zbp,Zbr,Zbs,Zbu,Zbv,Zcc,Zcf,Zck,Zct,Zcu,Zcw,Zcy,Zcz,Zda,Zdb,Zdd,Zde,Zdf,Zdg,Zdh,Q2,Q3,Q0,Q1,Z4,Zdq,Zdv,Zeb,Zef,Z2,Q5,Q4,if_true,Nat.reduceAdd,Nat.reduceSub,eq_self,true_and,Q5,Q4,Q8,Q9,Q7,Q6,Q6,Q4,l0,l1,na,ng,w1,d3,xa,xg,aDd,nra,nrg,w2,w3,e,aA5,aA4,aA8,Z0,Prod.mk.injEq,true_and,exists_eq']
  ·have c8':aCY t.tm t.nt t.acts t.gotos=false:=by simpa using c8
   rw [c8',cond_false] at e
   refine ⟨fun k=>absurd k.2 c8,fun _ => ?_⟩
   simp only [Zae,Zaf,Zag,Zah,Zai,Zaj,Zak,Zan,Zao,Zaq,Zas,Zaw,Zax,Zbc,Zbd,Zbg,Zbl,Zbm,Zbn,Zbo,Zbp,Zbr,Zbs,Zbu,Zbv,Zcc,Zcf,Zck,Zct,Zcu,Zcw,Zcy,Zcz,Zda,Zdb,Zdd,Zde,Zdf,Zdg,Zdh,Q2,Q3,Q0,Q1,Z4,Zdq,Zdv,Zeb,Zef,Z2,Q5,Q4,if_true,Nat.reduceAdd,Nat.reduceSub,eq_self,true_and,Q5,Q4,Q8,Q9,Q7,Q6,Q6,Q4,l0,l1,na,ng,w1,d3,xa,xg,aDd,nra,nrg,w2,w3,e,aA5,aA4,aA8,Z0,Prod.mk.injEq,true_and,exists_eq']
 exact ⟨fun k=>aAF rfl rfl aLP 5000 fzs (key.1 k) (fun _=>rfl) H,fun k=>aAF rfl rfl aLP 5000 fzs (key.2 k) (fun _=>rfl) H⟩
variable {B : Nat}
theorem aWc (ha:LiG (LiG LiA) t.acts av) (hn:t.acts.length≤4096) (s:Nat) (hs:s < t.acts.length) (w4:AV) (hm:t.acts[s].length≤1000) (N:Nat) (hB:1≤B):∀ (d i m:Nat) (xs:List Int) (h:aA0) (w:AV) (q:Option Nat),t.acts[s].length=i+d→d < m→h[0]?=some (.arr 0 2 true [[av,gv]])→aAi 1 (eIs xs) w h q→(∀ i,q=some i→B≤i)→B≤h.length→xs.length=i →
  (aAS ((t.acts[s].drop i).map (aAU t.acts.length))=true→∃ (h':aA0) (w':AV) (q':Option Nat),aAu (aA7 (lim G0.cfg) N aCP) m ⟨(J::.ptr 0 0 0 0::J::J::w4::.int .i64 s::w::.int .i64 i::J::J::J::J::J::J::J::J::J::J::J::J::J::J::J::J::J::J::J::J::J::J::J::J::J::J::J::J::J::J::J::J::J::J::J::J::J::J::J::J::J::[]),h⟩=some (.exit 2,⟨(J::.ptr 0 0 0 0::J::J::w4::.int .i64 s::w'::J::J::J::J::J::J::J::J::J::J::J::J::J::J::J::J::J::J::J::J::J::J::J::J::J::J::J::J::J::J::J::J::J::J::J::J::J::J::J::J::J::J::[]),h'⟩) ∧
   aAi 1 (eIs (xs++(t.acts[s].drop i).map (aAU t.acts.length))) w' h' q'∧(∀ i,q'=some i→B≤i)∧B≤h'.length∧(∀ (j:Nat) (o:AObj),j < B→h[j]?=some o→h'[j]?=some o)) ∧
  (aAS ((t.acts[s].drop i).map (aAU t.acts.length))=false→∃ h',aAu (aA7 (lim G0.cfg) N aCP) m ⟨(J::.ptr 0 0 0 0::J::J::w4::.int .i64 s::w::.int .i64 i::J::J::J::J::J::J::J::J::J::J::J::J::J::J::J::J::J::J::J::J::J::J::J::J::J::J::J::J::J::J::J::J::J::J::J::J::J::J::J::J::J::[]),h⟩=some (.ret,⟨(J::J::.nilS::.bool false::J::J::J::J::J::J::J::J::J::J::J::J::J::J::J::J::J::J::J::J::J::J::J::J::J::J::J::J::J::J::J::J::J::J::J::J::J::J::J::J::J::J::J::J::J::[]),h'⟩)):=by
 obtain ⟨rv,hr,xr⟩:=ha.ix s hs
 obtain ⟨row,hrow⟩:∃ r,r=t.acts[s]:=⟨_,rfl⟩
 rw [← hrow] at hr hm ⊢
 have na:=ha.len
 have nr:=hr.len
 obtain ⟨n,hnn⟩:∃ n,n=t.acts.length:=⟨_,rfl⟩
 rw [← hnn] at na hn ⊢
 intro d
 induction d with
 | zero =>
  intro i m xs h w q h1 h2 e0 ow tv lb lx
  obtain ⟨m,rfl⟩:∃ q,m=q+1:=⟨m - 1,by omega⟩
  have h3:¬ ((i:Int) < row.length):=by omega
  have q1:row.drop i=[]:=Z7.2 (by omega)
  have la0:=aJy h e0
  rw [q1,List.map_nil,List.append_nil]
  refine ⟨fun _=>⟨h,w,q,?_,ow,tv,lb,fun _ _ _ e=>e⟩,fun e=>(by cases e)⟩
  simp only [aAd,aHo,Zaf,Zag,Zah,Zak,Zal,Zan,Zao,Zap,Zaw,Zaz,Zbc,Zbm,Zbo,Zbs,Zbu,Zcc,Zcf,Zck,Zcz,Zdb,Zdf,Zdg,Zdh,Q2,Q3,Q0,Q1,Zdl,Zeb,decide_false,Nat.reduceAdd,eq_self,la0,xr,aDd,nr,h3]
 | succ d ih =>
  intro i m xs h w q h1 h2 e0 ow tv lb lx
  obtain ⟨m,rfl⟩:∃ q,m=q+1:=⟨m - 1,by omega⟩
  have h3:i < row.length:=by omega
  have h3':(i:Int) < row.length:=by omega
  have hw:=aBb (n:=i) (by omega)
  have q1:row.drop i=row[i]::row.drop (i+1):=Z1 h3
  obtain ⟨cv,hc,xc⟩:=hr.ix i h3
  have la0:=aJy h e0
  have fc:=aTm hc (n:Int) ⟨by omega,by omega⟩
  obtain ⟨y,hy⟩:∃ y,y=aAU n row[i]:=⟨_,rfl⟩
  rw [← hy] at fc
  have e1:aAS ((row[i]::row.drop (i+1)).map (aAU n))=(decide (0≤y) && aAS ((row.drop (i+1)).map (aAU n))):=by rw [List.map_cons,← hy];rfl
  rw [q1,e1]
  by_cases yz:y < 0
  case pos =>
   rw [decide_eq_false (by omega:¬ 0≤y),Z6]
   refine ⟨fun e=>(by cases e),fun _=>⟨h,?_⟩⟩
   simp only [aAd,aHo,Zae,Zaf,Zag,Zah,Zai,Zak,Zam,Zan,Zao,Zaq,Zas,Zav,Zba,Zbc,Zbd,Zbm,Zbo,Zbs,Zbu,Zcc,Zcf,Zck,Zct,Zcu,Zcz,Zda,Zdb,Zdd,Zde,Zdf,Zdg,Zdh,Q2,Q3,Q0,Q1,Zdl,Zeb,decide_true,Nat.reduceAdd,eq_self,Q7,Q6,la0,xr,aDd,nr,h3',xc,na,fc,yz]
  case neg =>
  rw [decide_eq_true (by omega:0≤y),Bool.true_and]
  obtain ⟨iv,ver1,H1,r1,r2,r3,r4,r5⟩:=ow.push true (c:=[.int .i64 y]) rfl rfl (aC0 _) 8 (by omega) (by rw [Zet];omega)
  rw [Zet] at r1 r2
  rw [← aDk] at r2
  have tiv:B≤iv:=by
   rcases r4 with g | ⟨_,g⟩
   ·exact tv iv g
   ·omega
  obtain ⟨vvx,hvx⟩:∃ x,x=AV.hsl iv ver1 0 (xs.length+1) none:=⟨_,rfl⟩
  rw [← hvx] at r1 r2
  have key:=ih (i+1) m (xs++[y]) H1 vvx (some iv) (by omega) (by omega) (r3 0 _ e0 (fun f=>by have:=tv 0 f;omega)) r2 (fun i f=>by cases f;exact tiv) (by omega) (by simp [lx])
  have run:aAu (aA7 (lim G0.cfg) N aCP) (m+1) ⟨(J::.ptr 0 0 0 0::J::J::w4::.int .i64 s::w::.int .i64 i::J::J::J::J::J::J::J::J::J::J::J::J::J::J::J::J::J::J::J::J::J::J::J::J::J::J::J::J::J::J::J::J::J::J::J::J::J::J::J::J::J::[]),h⟩=aAu (aA7 (lim G0.cfg) N aCP) m ⟨(J::.ptr 0 0 0 0::J::J::w4::.int .i64 s::vvx::.int .i64 (i+1:Nat)::J::J::J::J::J::J::J::J::J::J::J::J::J::J::J::J::J::J::J::J::J::J::J::J::J::J::J::J::J::J::J::J::J::J::J::J::J::J::J::J::J::[]),H1⟩:=by
   have lt2:=fun h:aA0=>aDe h (.int .i64 0) (.int .i64 y) rfl rfl
   simp only [aAd,aHo,Zae,Zaf,Zag,Zah,Zai,Zak,Zan,Zao,Zar,Zav,Zaw,Zay,Zbc,Zbd,Zbm,Zbo,Zbs,Zbu,Zcc,Zcf,Zck,Zcm,Zcr,Zct,Zcu,Zcz,Zda,Zdb,Zdd,Zde,Zdf,Zdg,Zdh,Q2,Q3,Q0,Q1,Zdi,Zdl,Zeb,decide_true,decide_false,Nat.reduceAdd,eq_self,Q7,Q6,la0,xr,aDd,nr,h3',xc,na,fc,yz,ev2,lt2,r1,hw]
  rw [run]
  refine ⟨fun hk => ?_,key.2⟩
  obtain ⟨h',w',q',e,g1,g2,g3,g4⟩:=key.1 hk
  refine ⟨h',w',q',e,?_,g2,g3,fun j o hj e=>g4 j o hj (r3 j o e (fun f=>by have:=tv j f;omega))⟩
  rw [List.map_cons,← hy]
  rw [List.append_assoc] at g1
  exact g1
theorem aUQ (hg:LiR t.gotos gv) (hn:t.gotos.length≤4096) (s:Nat) (hs:s < t.gotos.length) (w4:AV) (hm:t.gotos[s].length≤1000) (N:Nat) (hB:1≤B):∀ (d i m:Nat) (xs:List Int) (h:aA0) (w:AV) (q:Option Nat),t.gotos[s].length=i+d→d < m→h[0]?=some (.arr 0 2 true [[av,gv]])→aAi 1 (eIs xs) w h q→(∀ i,q=some i→B≤i)→B≤h.length→xs.length=i →
  (aAS ((t.gotos[s].drop i).map (aBO t.gotos.length))=true→∃ (h':aA0) (w':AV) (q':Option Nat),aAu (aA7 (lim G0.cfg) N aCt) m ⟨(J::.ptr 0 0 0 0::J::J::w4::.int .i64 s::w::.int .i64 i::J::J::J::J::J::J::J::J::J::J::J::J::J::J::J::J::J::J::J::J::J::J::J::J::J::J::J::J::J::J::J::J::J::J::J::J::J::J::J::J::J::J::J::J::J::[]),h⟩=some (.exit 2,⟨(J::.ptr 0 0 0 0::J::J::w4::.int .i64 s::w'::J::J::J::J::J::J::J::J::J::J::J::J::J::J::J::J::J::J::J::J::J::J::J::J::J::J::J::J::J::J::J::J::J::J::J::J::J::J::J::J::J::J::J::J::J::J::[]),h'⟩) ∧
   aAi 1 (eIs (xs++(t.gotos[s].drop i).map (aBO t.gotos.length))) w' h' q'∧(∀ i,q'=some i→B≤i)∧B≤h'.length∧(∀ (j:Nat) (o:AObj),j < B→h[j]?=some o→h'[j]?=some o)) ∧
  (aAS ((t.gotos[s].drop i).map (aBO t.gotos.length))=false→∃ h',aAu (aA7 (lim G0.cfg) N aCt) m ⟨(J::.ptr 0 0 0 0::J::J::w4::.int .i64 s::w::.int .i64 i::J::J::J::J::J::J::J::J::J::J::J::J::J::J::J::J::J::J::J::J::J::J::J::J::J::J::J::J::J::J::J::J::J::J::J::J::J::J::J::J::J::J::J::J::J::[]),h⟩=some (.ret,⟨(J::J::.nilS::.bool false::J::J::J::J::J::J::J::J::J::J::J::J::J::J::J::J::J::J::J::J::J::J::J::J::J::J::J::J::J::J::J::J::J::J::J::J::J::J::J::J::J::J::J::J::J::J::J::J::J::[]),h'⟩)):=by
 obtain ⟨rv,hr,xr⟩:=hg.ix s hs
 obtain ⟨row,hrow⟩:∃ r,r=t.gotos[s]:=⟨_,rfl⟩
 rw [← hrow] at hr hm ⊢
 have na:=hg.len
 have nr:=hr.len
 obtain ⟨n,hnn⟩:∃ n,n=t.gotos.length:=⟨_,rfl⟩
 rw [← hnn] at na hn ⊢
 intro d
 induction d with
 | zero =>
  intro i m xs h w q h1 h2 e0 ow tv lb lx
  obtain ⟨m,rfl⟩:∃ q,m=q+1:=⟨m - 1,by omega⟩
  have h3:¬ ((i:Int) < row.length):=by omega
  have q1:row.drop i=[]:=Z7.2 (by omega)
  have la0:=aJx h e0
  rw [q1,List.map_nil,List.append_nil]
  refine ⟨fun _=>⟨h,w,q,?_,ow,tv,lb,fun _ _ _ e=>e⟩,fun e=>(by cases e)⟩
  simp only [aAd,aFe,Zaf,Zag,Zah,Zak,Zal,Zan,Zao,Zap,Zaw,Zaz,Zbc,Zbm,Zbo,Zbs,Zbu,Zcc,Zcf,Zck,Zcz,Zdb,Zdf,Zdg,Zdh,Q2,Q3,Q0,Q1,Zdl,Zeb,decide_false,Nat.reduceAdd,Int.reduceNeg,eq_self,la0,xr,aDd,nr,h3]
 | succ d ih =>
  intro i m xs h w q h1 h2 e0 ow tv lb lx
  obtain ⟨m,rfl⟩:∃ q,m=q+1:=⟨m - 1,by omega⟩
  have h3:i < row.length:=by omega
  have h3':(i:Int) < row.length:=by omega
  have hw:=aBb (n:=i) (by omega)
  have q1:row.drop i=row[i]::row.drop (i+1):=Z1 h3
  have xc:=fun h=>hr.ix h .i64 i h3
  have la0:=aJx h e0
  obtain ⟨x,hx⟩:∃ x,x=row[i]:=⟨_,rfl⟩
  rw [← hx] at xc
  have lv:∀ (h:aA0),aAc h 1 false (.vptr (eI x) 0)=some (.int .i64 x):=fun _=>rfl
  obtain ⟨y,hy⟩:∃ y,y=aBO n x:=⟨_,rfl⟩
  have e1:aAS ((row[i]::row.drop (i+1)).map (aBO n))=(decide (0≤y) && aAS ((row.drop (i+1)).map (aBO n))):=by rw [List.map_cons,← hx,← hy];rfl
  rw [q1,e1]
  by_cases c1:x < -1
  case pos =>
   have ey:y = -1:=by rw [hy,aBO,if_pos (.inl c1)]
   rw [decide_eq_false (by omega:¬ 0≤y),Z6]
   refine ⟨fun e=>(by cases e),fun _=>⟨h,?_⟩⟩
   simp only [aAd,aFe,Zae,Zaf,Zag,Zah,Zai,Zak,Zam,Zan,Zao,Zaq,Zas,Zav,Zba,Zbc,Zbh,Zbk,Zbm,Zbn,Zbo,Zbp,Zbs,Zbu,Zcc,Zcf,Zck,Zcz,Zda,Zdb,Zdf,Zdg,Zdh,Q2,Q3,Q0,Q1,Zdl,Zeb,decide_true,Nat.reduceAdd,Int.reduceNeg,eq_self,la0,xr,aDd,nr,h3',xc,lv,c1]
  case neg =>
  by_cases c2:(n:Int)≤x
  case pos =>
   have ey:y = -1:=by rw [hy,aBO,if_pos (.inr c2)]
   rw [decide_eq_false (by omega:¬ 0≤y),Z6]
   refine ⟨fun e=>(by cases e),fun _=>⟨h,?_⟩⟩
   simp only [aAd,aFe,Zae,Zaf,Zag,Zah,Zai,Zak,Zam,Zan,Zao,Zaq,Zas,Zav,Zba,Zbc,Zbg,Zbl,Zbm,Zbn,Zbo,Zbp,Zbs,Zbu,Zcc,Zcf,Zck,Zcz,Zda,Zdb,Zdf,Zdg,Zdh,Q2,Q3,Q0,Q1,Zdl,Zdo,Zeb,decide_true,decide_false,Nat.reduceAdd,Int.reduceNeg,eq_self,la0,xr,aDd,nr,h3',xc,lv,na,c1,c2]
  case neg =>
  have ey:y=x+1:=by rw [hy,aBO,if_neg (by omega)]
  have w1:IntKind.i64.wrap (x+1)=y:=by rw [ey];exact w64 (by omega) (by omega)
  rw [decide_eq_true (by omega:0≤y),Bool.true_and]
  obtain ⟨iv,ver1,H1,r1,r2,r3,r4,r5⟩:=ow.push true (c:=[.int .i64 y]) rfl rfl (aC0 _) 8 (by omega) (by rw [Zet];omega)
  rw [Zet] at r1 r2
  rw [← aDk] at r2
  have tiv:B≤iv:=by
   rcases r4 with g | ⟨_,g⟩
   ·exact tv iv g
   ·omega
  obtain ⟨vvx,hvx⟩:∃ x,x=AV.hsl iv ver1 0 (xs.length+1) none:=⟨_,rfl⟩
  rw [← hvx] at r1 r2
  have key:=ih (i+1) m (xs++[y]) H1 vvx (some iv) (by omega) (by omega) (r3 0 _ e0 (fun f=>by have:=tv 0 f;omega)) r2 (fun i f=>by cases f;exact tiv) (by omega) (by simp [lx])
  have run:aAu (aA7 (lim G0.cfg) N aCt) (m+1) ⟨(J::.ptr 0 0 0 0::J::J::w4::.int .i64 s::w::.int .i64 i::J::J::J::J::J::J::J::J::J::J::J::J::J::J::J::J::J::J::J::J::J::J::J::J::J::J::J::J::J::J::J::J::J::J::J::J::J::J::J::J::J::J::J::J::J::[]),h⟩=aAu (aA7 (lim G0.cfg) N aCt) m ⟨(J::.ptr 0 0 0 0::J::J::w4::.int .i64 s::vvx::.int .i64 (i+1:Nat)::J::J::J::J::J::J::J::J::J::J::J::J::J::J::J::J::J::J::J::J::J::J::J::J::J::J::J::J::J::J::J::J::J::J::J::J::J::J::J::J::J::J::J::J::J::[]),H1⟩:=by
   have lt2:=fun h:aA0=>aDe h (.int .i64 0) (.int .i64 y) rfl rfl
   simp only [aAd,aFe,Zae,Zaf,Zag,Zah,Zai,Zak,Zan,Zao,Zar,Zav,Zaw,Zay,Zbc,Zbd,Zbg,Zbl,Zbm,Zbn,Zbo,Zbp,Zbs,Zbu,Zcc,Zcf,Zck,Zcm,Zcr,Zcz,Zda,Zdb,Zdf,Zdg,Zdh,Q2,Q3,Q0,Q1,Zdi,Zdl,Zdo,Zeb,decide_true,decide_false,Nat.reduceAdd,Int.reduceNeg,eq_self,la0,xr,aDd,nr,h3',xc,lv,na,c1,c2,w1,ev2,lt2,r1,hw]
  rw [run]
  refine ⟨fun hk => ?_,key.2⟩
  obtain ⟨h',w',q',e,g1,g2,g3,g4⟩:=key.1 hk
  refine ⟨h',w',q',e,?_,g2,g3,fun j o hj e=>g4 j o hj (r3 j o e (fun f=>by have:=tv j f;omega))⟩
  rw [List.map_cons,← hx,← hy]
  rw [List.append_assoc] at g1
  exact g1
end
end Go.Proofs.Ytgeedikghjcebaa.Ai
namespace Go.Proofs.Ytgeedikghjcebaa.Ai
open Go Go.Proofs
open AV renaming junk → J
open List renaming getD_cons_zero → Q0, getD_cons_succ → Q1, set_cons_zero → Q2, set_cons_succ → Q3, nil_append → Q4, length_nil → Q5, length_cons → Q6, drop_zero → Q7, replicate_succ → Q8, replicate_zero → Q9, cons_append → Z0
open Option renaming map_some → Z1
set_option linter.unusedVariables false
set_option linter.unusedSimpArgs false
set_option maxRecDepth 10000
set_option maxHeartbeats 4000000
section
variable {t : TabD} {av gv : AV}
theorem aKk (ha:LiG (LiG LiA) t.acts av) (hg:LiR t.gotos gv):∀ h,aAo (freeze h 1000) [.agg [av,gv]]=some ([AV.agg [av,gv]].map fun x=>(x,true)):=fun h=>aCG (by
 have:freeze h 1000 (.agg [av,gv])=(aAo (freeze h 999) [av,gv]).map fun l=>(.agg (l.map (·.1)),l.all (·.2)):=rfl
 rw [this]
 simp only [aAo,ha.fz h 998,hg.fz h 998];rfl)
theorem aWd (hl:LiG (LiG LiA) t.acts av) (hn:t.acts.length≤4096) (hm:∀ r ∈ t.acts,r.length≤1000) (N:Nat) (hN:5000≤N):∀ (d s m:Nat) (A:List (List Int)) (h:aA0) (w:AV) (cs:List (List AV)) (q:Option Nat) (S:Nat→Prop),t.acts.length=s+d→d < m→h[0]?=some (.arr 0 2 true [[av,gv]])→aAi 1 cs w h q→Nest eIs A cs h S→(∀ i,S i→1≤i∧i < h.length)→(∀ i,q=some i→1≤i∧¬ S i)→A.length=s →
  ((aCU t.acts.length (t.acts.drop s)).all aAS=true→∃ (h':aA0) (w':AV) (cs':List (List AV)) (q':Option Nat) (S':Nat→Prop),aAu (aA7 (lim G0.cfg) N aCQ) m ⟨(J::.ptr 0 0 0 0::J::J::w::.int .i64 s::J::J::J::J::J::J::J::J::J::J::J::J::J::J::J::J::J::J::J::J::J::J::J::J::J::J::J::J::J::J::J::J::J::J::J::J::J::J::J::J::J::J::J::[]),h⟩=some (.exit 0,⟨(J::J::J::J::w'::J::J::J::J::J::J::J::J::J::J::J::J::J::J::J::J::J::J::J::J::J::J::J::J::J::J::J::J::J::J::J::J::J::J::J::J::J::J::J::J::J::J::J::J::[]),h'⟩)∧aAi 1 cs' w' h' q'∧Nest eIs (A++aCU t.acts.length (t.acts.drop s)) cs' h' S') ∧
  ((aCU t.acts.length (t.acts.drop s)).all aAS=false→∃ h',aAu (aA7 (lim G0.cfg) N aCQ) m ⟨(J::.ptr 0 0 0 0::J::J::w::.int .i64 s::J::J::J::J::J::J::J::J::J::J::J::J::J::J::J::J::J::J::J::J::J::J::J::J::J::J::J::J::J::J::J::J::J::J::J::J::J::J::J::J::J::J::J::[]),h⟩=some (.ret,⟨(J::J::.nilS::.bool false::J::J::J::J::J::J::J::J::J::J::J::J::J::J::J::J::J::J::J::J::J::J::J::J::J::J::J::J::J::J::J::J::J::J::J::J::J::J::J::J::J::J::J::J::J::[]),h'⟩)):=by
 have na:=hl.len
 intro d
 induction d with
 | zero =>
  intro s m A h w cs q S h1 h2 e0 ow nw hS hq lA
  obtain ⟨m,rfl⟩:∃ q,m=q+1:=⟨m - 1,by omega⟩
  have h3:¬ ((s:Int) < t.acts.length):=by omega
  have q1:t.acts.drop s=[]:=List.drop_eq_nil_iff.2 (by omega)
  have la0:=aJy h e0
  have r0:aCU t.acts.length []=[]:=rfl
  rw [q1,r0,List.append_nil]
  refine ⟨fun _=>⟨h,w,cs,q,S,?_,ow,nw⟩,fun e=>(by cases e)⟩
  simp only [aAd,aHp,Zaf,Zag,Zah,Zak,Zal,Zan,Zao,Zap,Zaw,Zaz,Zbc,Zbm,Zbo,Zbs,Zbu,Zcc,Zck,Zcz,Zdb,Zdf,Zdg,Zdh,Q2,Q3,Q0,Q1,Zdl,Zeb,decide_false,Nat.reduceAdd,eq_self,la0,na,h3]
 | succ d ih =>
  intro s m A h w cs q S h1 h2 e0 ow nw hS hq lA
  obtain ⟨m,rfl⟩:∃ q,m=q+1:=⟨m - 1,by omega⟩
  have s1:s < t.acts.length:=by omega
  have h3':(s:Int) < t.acts.length:=by omega
  have hw:=aBb (n:=s) (by omega)
  have q1:t.acts.drop s=t.acts[s]::t.acts.drop (s+1):=List.drop_eq_getElem_cons s1
  have la0:=aJy h e0
  have len1:1≤h.length:=aBI e0
  have r0:aCU t.acts.length (t.acts[s]::t.acts.drop (s+1))=t.acts[s].map (aAU t.acts.length)::aCU t.acts.length (t.acts.drop (s+1)):=rfl
  rw [q1,r0,List.all_cons]
  have rl:=hm _ (List.getElem_mem s1)
  obtain ⟨k1,k2⟩:=aWc (B:=h.length) (gv:=gv) (av:=av) hl hn s s1 w rl N len1 t.acts[s].length 0 N [] h .nilS none (by omega) (by omega) e0 (aAi.nil 1 _) (fun _ e=>by cases e) (Nat.le_refl _) rfl
  rw [Q7,Q4] at k1
  rw [Q7] at k2
  rw [z0] at k1 k2
  by_cases c:aAS (t.acts[s].map (aAU t.acts.length))=true
  case neg =>
   have c':aAS (t.acts[s].map (aAU t.acts.length))=false:=by simpa using c
   obtain ⟨h',e⟩:=k2 c'
   rw [c',Bool.false_and]
   refine ⟨fun e=>(by cases e),fun _=>⟨h',?_⟩⟩
   simp only [aAd,aHp,Zae,Zaf,Zag,Zah,Zai,Zaj,Zak,Zan,Zao,Zaq,Zas,Zav,Zax,Zba,Zbc,Zbm,Zbo,Zbs,Zbu,Zcc,Zck,Zcz,Zda,Zdb,Zdf,Zdg,Zdh,Q2,Q3,Q0,Q1,Zdl,Zeb,decide_true,Nat.reduceAdd,eq_self,la0,na,h3',e]
  case pos =>
  obtain ⟨h5,wx,qx,e4,ox,bx,l5,f5⟩:=k1 c
  rw [c,Bool.true_and]
  have ql:∀ i,q=some i→i < h.length:=fun i e=>by rw [e] at ow;exact ow.lt
  have qxl:∀ i,qx=some i→i < h5.length:=fun i e=>by rw [e] at ox;exact ox.lt
  obtain ⟨S',hS'⟩:∃ S':Nat→Prop,S'=fun i=>S i∨qx=some i:=⟨_,rfl⟩
  have ow5:=ow.frame (h':=h5) fun i o e k=>f5 i o (ql i e) k
  have nw5:=nw.frame (h':=h5) fun i o e k=>f5 i o (hS i e).2 k
  have nS:∀ i,q=some i→¬ S' i:=fun i e hs=>by
   rw [hS'] at hs
   rcases hs with hs | hs
   ·exact (hq i e).2 hs
   ·have:=bx i hs;have:=ql i e;omega
  have lS':∀ i,S' i→1≤i∧i < h5.length:=fun i hs=>by
   rw [hS'] at hs
   rcases hs with hs | hs
   ·have:=hS i hs;omega
   ·have:=bx i hs;have:=qxl i hs;omega
  obtain ⟨lt2,H6a,i2,ver2,H6,t2,r1,r2,r3,r4,r5⟩:=ow5.pushRow ox.cell nw5.all 24 (by omega) (by rw [nw.len];omega) .nilS
  have ns2:¬ S' i2:=fun hs=>by
   rcases r4 with k | ⟨_,k⟩
   ·exact nS i2 k hs
   ·have:=(lS' i2 hs).2;omega
  have nw6:Nest eIs (A++[t.acts[s].map (aAU t.acts.length)]) (cs++[[wx]]) H6 S':=by
   have:=(nw5.mono (S':=S') (fun i k=>by rw [hS'];exact .inl k)).push (x:=t.acts[s].map (aAU t.acts.length)) ox (fun i k=>by rw [hS'];exact .inr k)
   exact this.frame fun i o k e=>r3 i o e (fun f=>nS i f k)
  have e06:H6[0]?=some (.arr 0 2 true [[av,gv]]):=r3 0 _ (f5 0 _ (by omega) e0) (fun f=>by have:=(hq 0 f).1;omega)
  obtain ⟨wa,hwa⟩:∃ x,x=AV.hsl i2 ver2 0 (cs.length+1) none:=⟨_,rfl⟩
  rw [← hwa] at r1 r2
  have key:=ih (s+1) m (A++[t.acts[s].map (aAU t.acts.length)]) H6 wa (cs++[[wx]]) (some i2) S' (by omega) (by omega) e06 r2 nw6 (fun i k=>by have:=lS' i k;omega)
   (fun i e=>by cases e;exact ⟨by rcases r4 with u | ⟨_,u⟩;exact (hq _ u).1;omega,ns2⟩) (by simp [lA])
  have run:aAu (aA7 (lim G0.cfg) N aCQ) (m+1) ⟨(J::.ptr 0 0 0 0::J::J::w::.int .i64 s::J::J::J::J::J::J::J::J::J::J::J::J::J::J::J::J::J::J::J::J::J::J::J::J::J::J::J::J::J::J::J::J::J::J::J::J::J::J::J::J::J::J::J::[]),h⟩=aAu (aA7 (lim G0.cfg) N aCQ) m ⟨(J::.ptr 0 0 0 0::J::J::wa::.int .i64 (s+1:Nat)::J::J::J::J::J::J::J::J::J::J::J::J::J::J::J::J::J::J::J::J::J::J::J::J::J::J::J::J::J::J::J::J::J::J::J::J::J::J::J::J::J::J::J::[]),H6⟩:=by
   simp only [aAd,aHp,Zae,Zaf,Zag,Zah,Zai,Zaj,Zak,Zan,Zao,Zar,Zat,Zav,Zax,Zay,Zbc,Zbd,Zbm,Zbo,Zbs,Zbu,Zcc,Zck,Zcm,Zcr,Zcz,Zda,Zdb,Zdf,Zdg,Zdh,Q2,Q3,Q0,Q1,Zdi,Zdl,Zeb,decide_true,Nat.reduceAdd,eq_self,la0,na,h3',e4,ev2,t2,r1,hw]
  rw [run]
  refine ⟨fun hk => ?_,key.2⟩
  obtain ⟨h',w',cs',q',S2,u1,u2,u3⟩:=key.1 hk
  refine ⟨h',w',cs',q',S2,u1,u2,?_⟩
  rw [List.append_assoc] at u3;exact u3
theorem aVv (ha:LiG (LiG LiA) t.acts av) (hg:LiR t.gotos gv) (hn:t.acts.length≤4096) (hm:∀ r ∈ t.acts,r.length≤1000) :
  ((aCU t.acts.length t.acts).all aAS=true→∃ x,LiR (aCU t.acts.length t.acts) x∧∀ H,lim G0.cfg (.func 48) [.agg [av,gv]] H=some (.tup [x,.bool true],H)) ∧
  ((aCU t.acts.length t.acts).all aAS=false→∀ H,lim G0.cfg (.func 48) [.agg [av,gv]] H=some (.tup [.nilS,.bool false],H)):=by
 have bx:=aL0 ha hg
 obtain ⟨k1,k2⟩:=aWd (t:=t) (av:=av) (gv:=gv) ha hn hm 5000 (Nat.le_refl _) t.acts.length 0 5000 [] [.arr 0 2 true [[av,gv]]] .nilS [] none (fun _=>False) (by omega) (by omega) rfl (aAi.nil 1 _) (Nest.nil _ _ _) (fun _ e=>e.elim) (fun _ e=>by cases e) rfl
 rw [Q7,z0] at k1 k2
 rw [Q4] at k1
 refine ⟨fun k => ?_,fun k H => ?_⟩
 ·obtain ⟨h',w',cs',q',S',e,o2,n2⟩:=k1 k
  obtain ⟨x2,b2,f2,g2⟩:=n2.fz o2 996
  have fz:freeze h' 1000 (.tup [w',.bool true])=some (.tup [x2,.bool true],([(x2,b2),(.bool true,true)]:List (AV × Bool)).all (·.2)):=by
   have:freeze h' 1000 (.tup [w',.bool true])=(aAo (freeze h' 999) [w',.bool true]).map fun l=>(.tup (l.map (·.1)),l.all (·.2)):=rfl
   rw [this]
   have f4:freeze h' 999 (.bool true)=some (.bool true,true):=rfl
   have m:aAo (freeze h' 999) [w',.bool true]=some [(x2,b2),(.bool true,true)]:=by simp only [aAo,f2,f4]
   rw [m];rfl
  refine ⟨x2,g2,fun H=>aDY rfl rfl aNc 5000 (aKk ha hg) ?_ fz H⟩
  rw [aN8]
  simp only [Zaf,Zag,Zai,Zaj,Zak,Zam,Zan,Zao,Zat,Zax,Zbd,Zbm,Zbo,Zbr,Zcw,Zcy,Zcz,Zda,Zdb,Zdf,Zdg,Zdh,Q2,Q3,Q0,Q1,Z1,Zef,Q6,Q5,if_true,Nat.reduceAdd,Nat.reduceSub,eq_self,Q6,Q5,Q8,Q9,Z0,Q4,Q4,Q5,e,aA5,aA4,aA8]
 ·obtain ⟨h',e⟩:=k2 k
  refine aDY rfl rfl aNc 5000 (aKk ha hg) (x:=.tup [.nilS,.bool false]) (h':=h') ?_ (rfl:freeze h' 1000 (.tup [.nilS,.bool false])=some (.tup [.nilS,.bool false],true)) H
  rw [aN8]
  simp only [Zaf,Zag,Zai,Zaj,Zak,Zan,Zao,Zaq,Zas,Zax,Zbd,Zbm,Zbo,Zbr,Zcw,Zcy,Zcz,Zda,Zdb,Zdf,Zdg,Zdh,Q2,Q3,Q0,Q1,Z1,Zef,Q6,Q5,if_true,Nat.reduceAdd,Nat.reduceSub,eq_self,Q6,Q5,Q8,Q9,Z0,Q4,Q4,Q5,e,aA5,aA4,aA8]
theorem aUR (hl:LiR t.gotos gv) (hn:t.gotos.length≤4096) (hm:∀ r ∈ t.gotos,r.length≤1000) (N:Nat) (hN:5000≤N):∀ (d s m:Nat) (A:List (List Int)) (h:aA0) (w:AV) (cs:List (List AV)) (q:Option Nat) (S:Nat→Prop),t.gotos.length=s+d→d < m→h[0]?=some (.arr 0 2 true [[av,gv]])→aAi 1 cs w h q→Nest eIs A cs h S→(∀ i,S i→1≤i∧i < h.length)→(∀ i,q=some i→1≤i∧¬ S i)→A.length=s →
  ((aCT t.gotos.length (t.gotos.drop s)).all aAS=true→∃ (h':aA0) (w':AV) (cs':List (List AV)) (q':Option Nat) (S':Nat→Prop),aAu (aA7 (lim G0.cfg) N aCu) m ⟨(J::.ptr 0 0 0 0::J::J::w::.int .i64 s::J::J::J::J::J::J::J::J::J::J::J::J::J::J::J::J::J::J::J::J::J::J::J::J::J::J::J::J::J::J::J::J::J::J::J::J::J::J::J::J::J::J::J::J::J::J::J::[]),h⟩=some (.exit 0,⟨(J::J::J::J::w'::J::J::J::J::J::J::J::J::J::J::J::J::J::J::J::J::J::J::J::J::J::J::J::J::J::J::J::J::J::J::J::J::J::J::J::J::J::J::J::J::J::J::J::J::J::J::J::J::[]),h'⟩)∧aAi 1 cs' w' h' q'∧Nest eIs (A++aCT t.gotos.length (t.gotos.drop s)) cs' h' S') ∧
  ((aCT t.gotos.length (t.gotos.drop s)).all aAS=false→∃ h',aAu (aA7 (lim G0.cfg) N aCu) m ⟨(J::.ptr 0 0 0 0::J::J::w::.int .i64 s::J::J::J::J::J::J::J::J::J::J::J::J::J::J::J::J::J::J::J::J::J::J::J::J::J::J::J::J::J::J::J::J::J::J::J::J::J::J::J::J::J::J::J::J::J::J::J::[]),h⟩=some (.ret,⟨(J::J::.nilS::.bool false::J::J::J::J::J::J::J::J::J::J::J::J::J::J::J::J::J::J::J::J::J::J::J::J::J::J::J::J::J::J::J::J::J::J::J::J::J::J::J::J::J::J::J::J::J::J::J::J::J::[]),h'⟩)):=by
 have na:=hl.len
 intro d
 induction d with
 | zero =>
  intro s m A h w cs q S h1 h2 e0 ow nw hS hq lA
  obtain ⟨m,rfl⟩:∃ q,m=q+1:=⟨m - 1,by omega⟩
  have h3:¬ ((s:Int) < t.gotos.length):=by omega
  have q1:t.gotos.drop s=[]:=List.drop_eq_nil_iff.2 (by omega)
  have la0:=aJx h e0
  have r0:aCT t.gotos.length []=[]:=rfl
  rw [q1,r0,List.append_nil]
  refine ⟨fun _=>⟨h,w,cs,q,S,?_,ow,nw⟩,fun e=>(by cases e)⟩
  simp only [aAd,aGJ,Zaf,Zag,Zah,Zak,Zal,Zan,Zao,Zap,Zaw,Zaz,Zbc,Zbm,Zbo,Zbs,Zbu,Zcc,Zck,Zcz,Zdb,Zdf,Zdg,Zdh,Q2,Q3,Q0,Q1,Zdl,Zeb,decide_false,Nat.reduceAdd,eq_self,la0,na,h3]
 | succ d ih =>
  intro s m A h w cs q S h1 h2 e0 ow nw hS hq lA
  obtain ⟨m,rfl⟩:∃ q,m=q+1:=⟨m - 1,by omega⟩
  have s1:s < t.gotos.length:=by omega
  have h3':(s:Int) < t.gotos.length:=by omega
  have hw:=aBb (n:=s) (by omega)
  have q1:t.gotos.drop s=t.gotos[s]::t.gotos.drop (s+1):=List.drop_eq_getElem_cons s1
  have la0:=aJx h e0
  have len1:1≤h.length:=aBI e0
  have r0:aCT t.gotos.length (t.gotos[s]::t.gotos.drop (s+1))=t.gotos[s].map (aBO t.gotos.length)::aCT t.gotos.length (t.gotos.drop (s+1)):=rfl
  rw [q1,r0,List.all_cons]
  have rl:=hm _ (List.getElem_mem s1)
  obtain ⟨k1,k2⟩:=aUQ (B:=h.length) (gv:=gv) (av:=av) hl hn s s1 w rl N len1 t.gotos[s].length 0 N [] h .nilS none (by omega) (by omega) e0 (aAi.nil 1 _) (fun _ e=>by cases e) (Nat.le_refl _) rfl
  rw [Q7,Q4] at k1
  rw [Q7] at k2
  rw [z0] at k1 k2
  by_cases c:aAS (t.gotos[s].map (aBO t.gotos.length))=true
  case neg =>
   have c':aAS (t.gotos[s].map (aBO t.gotos.length))=false:=by simpa using c
   obtain ⟨h',e⟩:=k2 c'
   rw [c',Bool.false_and]
   refine ⟨fun e=>(by cases e),fun _=>⟨h',?_⟩⟩
   simp only [aAd,aGJ,Zae,Zaf,Zag,Zah,Zai,Zaj,Zak,Zan,Zao,Zaq,Zas,Zav,Zax,Zba,Zbc,Zbm,Zbo,Zbs,Zbu,Zcc,Zck,Zcz,Zda,Zdb,Zdf,Zdg,Zdh,Q2,Q3,Q0,Q1,Zdl,Zeb,decide_true,Nat.reduceAdd,eq_self,la0,na,h3',e]
  case pos =>
  obtain ⟨h5,wx,qx,e4,ox,bx,l5,f5⟩:=k1 c
  rw [c,Bool.true_and]
  have ql:∀ i,q=some i→i < h.length:=fun i e=>by rw [e] at ow;exact ow.lt
  have qxl:∀ i,qx=some i→i < h5.length:=fun i e=>by rw [e] at ox;exact ox.lt
  obtain ⟨S',hS'⟩:∃ S':Nat→Prop,S'=fun i=>S i∨qx=some i:=⟨_,rfl⟩
  have ow5:=ow.frame (h':=h5) fun i o e k=>f5 i o (ql i e) k
  have nw5:=nw.frame (h':=h5) fun i o e k=>f5 i o (hS i e).2 k
  have nS:∀ i,q=some i→¬ S' i:=fun i e hs=>by
   rw [hS'] at hs
   rcases hs with hs | hs
   ·exact (hq i e).2 hs
   ·have:=bx i hs;have:=ql i e;omega
  have lS':∀ i,S' i→1≤i∧i < h5.length:=fun i hs=>by
   rw [hS'] at hs
   rcases hs with hs | hs
   ·have:=hS i hs;omega
   ·have:=bx i hs;have:=qxl i hs;omega
  obtain ⟨lt2,H6a,i2,ver2,H6,t2,r1,r2,r3,r4,r5⟩:=ow5.pushRow ox.cell nw5.all 24 (by omega) (by rw [nw.len];omega) .nilS
  have ns2:¬ S' i2:=fun hs=>by
   rcases r4 with k | ⟨_,k⟩
   ·exact nS i2 k hs
   ·have:=(lS' i2 hs).2;omega
  have nw6:Nest eIs (A++[t.gotos[s].map (aBO t.gotos.length)]) (cs++[[wx]]) H6 S':=by
   have:=(nw5.mono (S':=S') (fun i k=>by rw [hS'];exact .inl k)).push (x:=t.gotos[s].map (aBO t.gotos.length)) ox (fun i k=>by rw [hS'];exact .inr k)
   exact this.frame fun i o k e=>r3 i o e (fun f=>nS i f k)
  have e06:H6[0]?=some (.arr 0 2 true [[av,gv]]):=r3 0 _ (f5 0 _ (by omega) e0) (fun f=>by have:=(hq 0 f).1;omega)
  obtain ⟨wa,hwa⟩:∃ x,x=AV.hsl i2 ver2 0 (cs.length+1) none:=⟨_,rfl⟩
  rw [← hwa] at r1 r2
  have key:=ih (s+1) m (A++[t.gotos[s].map (aBO t.gotos.length)]) H6 wa (cs++[[wx]]) (some i2) S' (by omega) (by omega) e06 r2 nw6 (fun i k=>by have:=lS' i k;omega)
   (fun i e=>by cases e;exact ⟨by rcases r4 with u | ⟨_,u⟩;exact (hq _ u).1;omega,ns2⟩) (by simp [lA])
  have run:aAu (aA7 (lim G0.cfg) N aCu) (m+1) ⟨(J::.ptr 0 0 0 0::J::J::w::.int .i64 s::J::J::J::J::J::J::J::J::J::J::J::J::J::J::J::J::J::J::J::J::J::J::J::J::J::J::J::J::J::J::J::J::J::J::J::J::J::J::J::J::J::J::J::J::J::J::J::[]),h⟩=aAu (aA7 (lim G0.cfg) N aCu) m ⟨(J::.ptr 0 0 0 0::J::J::wa::.int .i64 (s+1:Nat)::J::J::J::J::J::J::J::J::J::J::J::J::J::J::J::J::J::J::J::J::J::J::J::J::J::J::J::J::J::J::J::J::J::J::J::J::J::J::J::J::J::J::J::J::J::J::J::[]),H6⟩:=by
   simp only [aAd,aGJ,Zae,Zaf,Zag,Zah,Zai,Zaj,Zak,Zan,Zao,Zar,Zat,Zav,Zax,Zay,Zbc,Zbd,Zbm,Zbo,Zbs,Zbu,Zcc,Zck,Zcm,Zcr,Zcz,Zda,Zdb,Zdf,Zdg,Zdh,Q2,Q3,Q0,Q1,Zdi,Zdl,Zeb,decide_true,Nat.reduceAdd,eq_self,la0,na,h3',e4,ev2,t2,r1,hw]
  rw [run]
  refine ⟨fun hk => ?_,key.2⟩
  obtain ⟨h',w',cs',q',S2,u1,u2,u3⟩:=key.1 hk
  refine ⟨h',w',cs',q',S2,u1,u2,?_⟩
  rw [List.append_assoc] at u3;exact u3
theorem aUy (ha:LiG (LiG LiA) t.acts av) (hg:LiR t.gotos gv) (hn:t.gotos.length≤4096) (hm:∀ r ∈ t.gotos,r.length≤1000) :
  ((aCT t.gotos.length t.gotos).all aAS=true→∃ x,LiR (aCT t.gotos.length t.gotos) x∧∀ H,lim G0.cfg (.func 49) [.agg [av,gv]] H=some (.tup [x,.bool true],H)) ∧
  ((aCT t.gotos.length t.gotos).all aAS=false→∀ H,lim G0.cfg (.func 49) [.agg [av,gv]] H=some (.tup [.nilS,.bool false],H)):=by
 have bx:=aL0 ha hg
 obtain ⟨k1,k2⟩:=aUR (t:=t) (av:=av) (gv:=gv) hg hn hm 5000 (Nat.le_refl _) t.gotos.length 0 5000 [] [.arr 0 2 true [[av,gv]]] .nilS [] none (fun _=>False) (by omega) (by omega) rfl (aAi.nil 1 _) (Nest.nil _ _ _) (fun _ e=>e.elim) (fun _ e=>by cases e) rfl
 rw [Q7,z0] at k1 k2
 rw [Q4] at k1
 refine ⟨fun k => ?_,fun k H => ?_⟩
 ·obtain ⟨h',w',cs',q',S',e,o2,n2⟩:=k1 k
  obtain ⟨x2,b2,f2,g2⟩:=n2.fz o2 996
  have fz:freeze h' 1000 (.tup [w',.bool true])=some (.tup [x2,.bool true],([(x2,b2),(.bool true,true)]:List (AV × Bool)).all (·.2)):=by
   have:freeze h' 1000 (.tup [w',.bool true])=(aAo (freeze h' 999) [w',.bool true]).map fun l=>(.tup (l.map (·.1)),l.all (·.2)):=rfl
   rw [this]
   have f4:freeze h' 999 (.bool true)=some (.bool true,true):=rfl
   have m:aAo (freeze h' 999) [w',.bool true]=some [(x2,b2),(.bool true,true)]:=by simp only [aAo,f2,f4]
   rw [m];rfl
  refine ⟨x2,g2,fun H=>aDY rfl rfl aLQ 5000 (aKk ha hg) ?_ fz H⟩
  rw [aLM]
  simp only [Zaf,Zag,Zai,Zaj,Zak,Zam,Zan,Zao,Zat,Zax,Zbd,Zbm,Zbo,Zbr,Zcw,Zcy,Zcz,Zda,Zdb,Zdf,Zdg,Zdh,Q2,Q3,Q0,Q1,Z1,Zef,Q6,Q5,if_true,Nat.reduceAdd,Nat.reduceSub,eq_self,Q6,Q5,Q8,Q9,Z0,Q4,Q4,Q5,e,aA5,aA4,aA8]
 ·obtain ⟨h',e⟩:=k2 k
  refine aDY rfl rfl aLQ 5000 (aKk ha hg) (x:=.tup [.nilS,.bool false]) (h':=h') ?_ (rfl:freeze h' 1000 (.tup [.nilS,.bool false])=some (.tup [.nilS,.bool false],true)) H
  rw [aLM]
  simp only [Zaf,Zag,Zai,Zaj,Zak,Zan,Zao,Zaq,Zas,Zax,Zbd,Zbm,Zbo,Zbr,Zcw,Zcy,Zcz,Zda,Zdb,Zdf,Zdg,Zdh,Q2,Q3,Q0,Q1,Z1,Zef,Q6,Q5,if_true,Nat.reduceAdd,Nat.reduceSub,eq_self,Q6,Q5,Q8,Q9,Z0,Q4,Q4,Q5,e,aA5,aA4,aA8]
end
end Go.Proofs.Ytgeedikghjcebaa.Ai
