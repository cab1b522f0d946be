/- pack.numbers. -/
import Derived.Test.YtgeedikghjcebaamXG
import Derived.Test.YtgeedikghjcebaamXH
namespace Go.Proofs.Ytgeedikghjcebaa.Ai
open Go Go.Proofs
open AV renaming junk → J
open List renaming getD_cons_zero → Q0, getD_cons_succ → Q1, set_cons_zero → Q2, set_cons_succ → Q3, drop_eq_getElem_cons → Q5, nil_append → Q6, drop_eq_nil_iff → Q7, append_assoc → Q8, cons_append → Q9
open Bool renaming false_and → Q4
set_option linter.unusedVariables false
set_option linter.unusedSimpArgs false
set_option maxRecDepth 10000
set_option maxHeartbeats 4000000
def aN5 (n:Int) (tm nt:Nat) (a:List (List (Int × Int))) (g:List Int):Bool:=(decide (a.length=tm) && decide (g.length=nt)) && (aCD (a.map (aBT n)) && aCD (g.map (aE6 n)))
def aGH (n:Int) (tm nt:Nat):List (List (List (Int × Int)))→List (List Int)→Bool
 | a::al,g::gl=>aN5 n tm nt a g && aGH n tm nt al gl
 | _,_=>true
def aGB (n:Int) (l:List (List (List (Int × Int)))):List (List Int):=l.map fun r=>r.map (aBT n)
def aGA (n:Int) (l:List (List Int)):List (List Int):=l.map fun r=>r.map (aE6 n)
section
variable {v2 v3 v7 v6 v8 v9 v10 v55 v56 : AV} {B : Nat}
theorem aTN {row:List (List (Int × Int))} {rv:AV} (hr:LiG LiA row rv) (hm:row.length≤1000) (n:Nat) (hn:n≤4096) (N:Nat) (hB:1≤B):∀ (d i m:Nat) (xs:List Int) (h:aA0) (w:AV) (q:Option Nat),row.length=i+d→d < m→aAu 1 (eIs xs) w h q→(∀ i,q=some i→B≤i)→B≤h.length→xs.length=i →
  ∃ (h':aA0) (w':AV) (q':Option Nat),aAw (aA9 (lim G0.cfg) N aCV) m ⟨(J::.ptr 0 0 0 0::v2::v3::J::.int .i64 n::v6::v7::v8::w::v10::J::J::J::J::J::J::J::J::J::J::J::J::J::J::J::J::J::J::J::J::J::J::J::J::J::J::J::J::J::J::J::J::J::J::J::J::J::J::J::J::J::J::J::J::v55::v56::J::J::J::J::J::J::J::J::J::J::J::J::J::J::J::J::J::J::J::J::J::J::J::J::rv::.int .i64 row.length::.int .i64 i::J::J::J::J::J::J::J::J::J::J::J::J::J::J::J::J::J::J::J::J::J::J::J::J::J::J::J::J::J::J::J::J::J::J::J::J::J::J::J::J::J::J::J::J::J::J::J::J::J::J::J::J::[]),h⟩=some (.exit 2,⟨(J::.ptr 0 0 0 0::v2::v3::J::.int .i64 n::v6::v7::v8::w'::v10::J::J::J::J::J::J::J::J::J::J::J::J::J::J::J::J::J::J::J::J::J::J::J::J::J::J::J::J::J::J::J::J::J::J::J::J::J::J::J::J::J::J::J::J::v55::v56::J::J::J::J::J::J::J::J::J::J::J::J::J::J::J::J::J::J::J::J::J::J::J::J::J::J::J::J::J::J::J::J::J::J::J::J::J::J::J::J::J::J::J::J::J::J::J::J::J::J::J::J::J::J::J::J::J::J::J::J::J::J::J::J::J::J::J::J::J::J::J::J::J::J::J::J::J::J::J::[]),h'⟩) ∧
   aAu 1 (eIs (xs++(row.drop i).map (aBT n))) w' h' q'∧(∀ i,q'=some i→B≤i)∧B≤h'.length∧(∀ (j:Nat) (o:AObj),j < B→h[j]?=some o→h'[j]?=some o):=by
 intro d
 induction d with
 | zero =>
  intro i m xs h w q h1 h2 ow tv lb lx
  obtain ⟨m,rfl⟩:∃ q,m=q+1:=⟨m - 1,by omega⟩
  have h3:¬ ((i:Int) < row.length):=by omega
  have q1:row.drop i=[]:=Q7.2 (by omega)
  rw [q1,List.map_nil,List.append_nil]
  refine ⟨h,w,q,?_,ow,tv,lb,fun _ _ _ e=>e⟩
  simp only [aAj,aGx,Zaf,Zag,Zah,Zak,Zal,Zan,Zao,Zap,Zaw,Zaz,Zbc,Zbm,Zbu,Zcz,Zdb,Zdf,Zdg,Zdh,Q2,Q3,Q0,Q1,Zdl,decide_false,eq_self,h3]
 | succ d ih =>
  intro i m xs h w q h1 h2 ow tv lb lx
  obtain ⟨m,rfl⟩:∃ q,m=q+1:=⟨m - 1,by omega⟩
  have h3:i < row.length:=by omega
  have h3':(i:Int) < row.length:=by omega
  have hw:=aC7 (n:=i) (by omega)
  have q1:row.drop i=row[i]::row.drop (i+1):=Q5 h3
  obtain ⟨cv,hc,xc⟩:=hr.ix i h3
  have lv:∀ (h:aA0),aAb h 1 false (.vptr [cv] 0)=some cv:=fun _=>rfl
  have fc:=aRh hc (n:Int) ⟨by omega,by omega⟩
  obtain ⟨y,hy⟩:∃ y,y=aBT n row[i]:=⟨_,rfl⟩
  rw [← hy] at fc
  obtain ⟨iv,ver1,H1,r1,r2,r3,r4,r5⟩:=ow.push true (c:=[.int .i64 y]) rfl rfl (aEp _) 8 (by omega) (by rw [Zet];omega)
  rw [Zet] at r1 r2
  rw [← aKr] at r2
  have tiv:B≤iv:=by
   rcases r4 with g | ⟨_,g⟩
   ·exact tv iv g
   ·omega
  obtain ⟨vvx,hvx⟩:∃ x,x=AV.hsl iv ver1 0 (xs.length+1) none:=⟨_,rfl⟩
  rw [← hvx] at r1 r2
  obtain ⟨h',w',q',e,g1,g2,g3,g4⟩:=ih (i+1) m (xs++[y]) H1 vvx (some iv) (by omega) (by omega) r2 (fun i f=>by cases f;exact tiv) (by omega) (by simp [lx])
  refine ⟨h',w',q',?_,?_,g2,g3,fun j o hj e=>g4 j o hj (r3 j o e (fun f=>by have:=tv j f;omega))⟩
  ·rw [← e]
   have lt2:=fun h:aA0=>aGC h (.int .i64 0) (.int .i64 y) rfl rfl
   simp only [aAj,aGx,Zae,Zaf,Zag,Zah,Zai,Zak,Zan,Zao,Zar,Zav,Zay,Zbc,Zbd,Zbm,Zbo,Zbs,Zbu,Zcf,Zcm,Zcr,Zct,Zcu,Zcz,Zda,Zdb,Zdd,Zde,Zdf,Zdg,Zdh,Q2,Q3,Q0,Q1,Zdi,Zdl,decide_true,eq_self,Q9,Q6,h3',xc,lv,fc,ev2,lt2,r1,hw]
  ·rw [q1,List.map_cons,← hy]
   rw [Q8] at g1
   exact g1
theorem aTM {row:List Int} {rv:AV} (hr:Li row rv) (hm:row.length≤1000) (n:Nat) (hn:n≤4096) (N:Nat) (hB:1≤B):∀ (d i m:Nat) (xs:List Int) (h:aA0) (w:AV) (q:Option Nat),row.length=i+d→d < m→aAu 1 (eIs xs) w h q→(∀ i,q=some i→B≤i)→B≤h.length→xs.length=i →
  ∃ (h':aA0) (w':AV) (q':Option Nat),aAw (aA9 (lim G0.cfg) N aCU) m ⟨(J::.ptr 0 0 0 0::v2::v3::J::.int .i64 n::v6::v7::J::v9::w::J::J::J::J::J::J::J::J::J::J::J::J::J::J::J::J::J::J::J::J::J::J::J::J::J::J::J::J::J::J::J::J::J::J::J::J::J::J::J::J::J::J::J::J::v55::v56::J::J::J::J::J::J::J::J::J::J::J::J::J::J::J::J::J::J::J::J::J::J::J::J::J::J::J::J::J::J::J::J::J::J::J::J::J::J::J::J::J::rv::.int .i64 row.length::.int .i64 i::J::J::J::J::J::J::J::J::J::J::J::J::J::J::J::J::J::J::J::J::J::J::J::J::J::J::J::J::J::J::J::J::J::J::J::[]),h⟩=some (.exit 4,⟨(J::.ptr 0 0 0 0::v2::v3::J::.int .i64 n::v6::v7::J::v9::w'::J::J::J::J::J::J::J::J::J::J::J::J::J::J::J::J::J::J::J::J::J::J::J::J::J::J::J::J::J::J::J::J::J::J::J::J::J::J::J::J::J::J::J::J::v55::v56::J::J::J::J::J::J::J::J::J::J::J::J::J::J::J::J::J::J::J::J::J::J::J::J::J::J::J::J::J::J::J::J::J::J::J::J::J::J::J::J::J::J::J::J::J::J::J::J::J::J::J::J::J::J::J::J::J::J::J::J::J::J::J::J::J::J::J::J::J::J::J::J::J::J::J::J::J::J::J::[]),h'⟩) ∧
   aAu 1 (eIs (xs++(row.drop i).map (aE6 n))) w' h' q'∧(∀ i,q'=some i→B≤i)∧B≤h'.length∧(∀ (j:Nat) (o:AObj),j < B→h[j]?=some o→h'[j]?=some o):=by
 intro d
 induction d with
 | zero =>
  intro i m xs h w q h1 h2 ow tv lb lx
  obtain ⟨m,rfl⟩:∃ q,m=q+1:=⟨m - 1,by omega⟩
  have h3:¬ ((i:Int) < row.length):=by omega
  have q1:row.drop i=[]:=Q7.2 (by omega)
  rw [q1,List.map_nil,List.append_nil]
  refine ⟨h,w,q,?_,ow,tv,lb,fun _ _ _ e=>e⟩
  simp only [aAj,aDb,Zaf,Zag,Zah,Zak,Zal,Zan,Zao,Zap,Zaw,Zaz,Zbc,Zbm,Zbu,Zcz,Zdb,Zdf,Zdg,Zdh,Q2,Q3,Q0,Q1,Zdl,decide_false,Int.reduceNeg,eq_self,h3]
 | succ d ih =>
  intro i m xs h w q h1 h2 ow tv lb lx
  obtain ⟨m,rfl⟩:∃ q,m=q+1:=⟨m - 1,by omega⟩
  have h3:i < row.length:=by omega
  have h3':(i:Int) < row.length:=by omega
  have hw:=aC7 (n:=i) (by omega)
  have q1:row.drop i=row[i]::row.drop (i+1):=Q5 h3
  have xc:=fun h=>hr.ix h .i64 i h3
  obtain ⟨x,hx⟩:∃ x,x=row[i]:=⟨_,rfl⟩
  rw [← hx] at xc
  have lv:∀ (h:aA0),aAb h 1 false (.vptr (eI x) 0)=some (.int .i64 x):=fun _=>rfl
  obtain ⟨y,hy⟩:∃ y,y=aE6 n x:=⟨_,rfl⟩
  obtain ⟨iv,ver1,H1,r1,r2,r3,r4,r5⟩:=ow.push true (c:=[.int .i64 y]) rfl rfl (aEp _) 8 (by omega) (by rw [Zet];omega)
  rw [Zet] at r1 r2
  rw [← aKr] at r2
  have tiv:B≤iv:=by
   rcases r4 with g | ⟨_,g⟩
   ·exact tv iv g
   ·omega
  obtain ⟨vvx,hvx⟩:∃ x,x=AV.hsl iv ver1 0 (xs.length+1) none:=⟨_,rfl⟩
  rw [← hvx] at r1 r2
  obtain ⟨h',w',q',e,g1,g2,g3,g4⟩:=ih (i+1) m (xs++[y]) H1 vvx (some iv) (by omega) (by omega) r2 (fun i f=>by cases f;exact tiv) (by omega) (by simp [lx])
  refine ⟨h',w',q',?_,?_,g2,g3,fun j o hj e=>g4 j o hj (r3 j o e (fun f=>by have:=tv j f;omega))⟩
  ·rw [← e]
   have lt2:=fun h:aA0=>aGC h (.int .i64 0) (.int .i64 y) rfl rfl
   by_cases c1:x < -1
   ·have ey:y = -1:=by rw [hy,aE6,if_pos (.inl c1)]
    have w1:IntKind.i64.wrap (-2+1)=y:=by rw [ey];decide
    simp only [aAj,aDb,Zae,Zaf,Zag,Zah,Zai,Zak,Zan,Zao,Zar,Zav,Zay,Zbc,Zbd,Zbh,Zbk,Zbm,Zbn,Zbo,Zbp,Zbs,Zbu,Zcf,Zcm,Zcr,Zcz,Zda,Zdb,Zdf,Zdg,Zdh,Q2,Q3,Q0,Q1,Zdi,Zdl,decide_true,Int.reduceNeg,eq_self,h3',xc,lv,c1,w1,ev2,lt2,r1,hw]
   ·by_cases c2:(n:Int)≤x
    ·have ey:y = -1:=by rw [hy,aE6,if_pos (.inr c2)]
     have w1:IntKind.i64.wrap (-2+1)=y:=by rw [ey];decide
     simp only [aAj,aDb,Zae,Zaf,Zag,Zah,Zai,Zak,Zan,Zao,Zar,Zav,Zay,Zbc,Zbd,Zbg,Zbl,Zbm,Zbn,Zbo,Zbp,Zbs,Zbu,Zcf,Zcm,Zcr,Zcz,Zda,Zdb,Zdf,Zdg,Zdh,Q2,Q3,Q0,Q1,Zdi,Zdl,Zdo,decide_true,decide_false,Int.reduceNeg,eq_self,h3',xc,lv,c1,c2,w1,ev2,lt2,r1,hw]
    ·have ey:y=x+1:=by rw [hy,aE6,if_neg (by omega)]
     have w1:IntKind.i64.wrap (x+1)=y:=by rw [ey];exact w64 (by omega) (by omega)
     simp only [aAj,aDb,Zae,Zaf,Zag,Zah,Zai,Zak,Zan,Zao,Zar,Zav,Zaw,Zay,Zbc,Zbd,Zbg,Zbl,Zbm,Zbn,Zbo,Zbp,Zbs,Zbu,Zcf,Zcm,Zcr,Zcz,Zda,Zdb,Zdf,Zdg,Zdh,Q2,Q3,Q0,Q1,Zdi,Zdl,Zdo,decide_true,decide_false,Int.reduceNeg,eq_self,h3',xc,lv,c1,c2,w1,ev2,lt2,r1,hw]
  ·rw [q1,List.map_cons,← hx,← hy]
   rw [Q8] at g1
   exact g1
end
theorem aQh {l:List Int} {v:AV} {h:aA0} {q:Option Nat} (ho:aAu 1 (eIs l) v h q) (h0:l≠[]) (hm:l.length≤1000000):lim G0.cfg (.func 61) [v] h=some (.int .i64 (aIi l),h):=by
 obtain ⟨x,c,e1,e2⟩:=fzI ho 998
 obtain ⟨h',r⟩:=aRV e2 h0 hm
 exact aLb rfl rfl aHY (l.length+1) (aDH e1) r (rfl:freeze h' 1000 (.int .i64 _)=some (.int .i64 _,true)) (Bool.or_true _)
theorem aTO {t:TabD} {av gv:AV} (ha:LiG (LiG LiA) t.acts av) (hg:LiR t.gotos gv) (n:Nat) (hn1:t.acts.length=n) (hn2:t.gotos.length=n) (hn:n≤4096) (tm nt:Nat) (htm:2≤tm∧tm≤1000) (hnt:1≤nt∧nt≤1000) (N:Nat) (hN:5000≤N) :
  ∀ (d s m:Nat) (A G:List (List Int)) (h:aA0) (w2 w3:AV) (cs2 cs3:List (List AV)) (q2 q3:Option Nat) (S:Nat→Prop),n=s+d→d < m→h[0]?=some (.arr 0 2 true [[av,gv]])→aAu 1 cs2 w2 h q2→Nest eIs A cs2 h S→aAu 1 cs3 w3 h q3→Nest eIs G cs3 h S→(∀ i,S i→1≤i∧i < h.length)→(∀ i,q2=some i→1≤i∧¬ S i)→(∀ i,q3=some i→1≤i∧¬ S i)→(∀ i,q2=some i→q3≠some i)→A.length=s→G.length=s →
  (aGH n tm nt (t.acts.drop s) (t.gotos.drop s)=true→∃ (h':aA0) (w2' w3':AV) (cs2' cs3':List (List AV)) (q2' q3':Option Nat) (S':Nat→Prop),aAw (aA9 (lim G0.cfg) N aBg) m ⟨(J::.ptr 0 0 0 0::w2::w3::J::.int .i64 n::.int .i64 tm::.int .i64 nt::J::J::J::J::J::J::J::J::J::J::J::J::J::J::J::J::J::J::J::J::J::J::J::J::J::J::J::J::J::J::J::J::J::J::J::J::J::J::J::J::J::J::J::J::J::J::J::.int .i64 n::.int .i64 s::J::J::J::J::J::J::J::J::J::J::J::J::J::J::J::J::J::J::J::J::J::J::J::J::J::J::J::J::J::J::J::J::J::J::J::J::J::J::J::J::J::J::J::J::J::J::J::J::J::J::J::J::J::J::J::J::J::J::J::J::J::J::J::J::J::J::J::J::J::J::J::J::J::J::J::J::J::J::J::[]),h⟩=some (.exit 0,⟨(J::J::w2'::w3'::J::J::J::J::J::J::J::J::J::J::J::J::J::J::J::J::J::J::J::J::J::J::J::J::J::J::J::J::J::J::J::J::J::J::J::J::J::J::J::J::J::J::J::J::J::J::J::J::J::J::J::J::J::J::J::J::J::J::J::J::J::J::J::J::J::J::J::J::J::J::J::J::J::J::J::J::J::J::J::J::J::J::J::J::J::J::J::J::J::J::J::J::J::J::J::J::J::J::J::J::J::J::J::J::J::J::J::J::J::J::J::J::J::J::J::J::J::J::J::J::J::J::J::J::J::J::J::J::J::J::J::J::[]),h'⟩) ∧
   aAu 1 cs2' w2' h' q2'∧Nest eIs (A++aGB n (t.acts.drop s)) cs2' h' S'∧aAu 1 cs3' w3' h' q3'∧Nest eIs (G++aGA n (t.gotos.drop s)) cs3' h' S') ∧
  (aGH n tm nt (t.acts.drop s) (t.gotos.drop s)=false→∃ (h':aA0),aAw (aA9 (lim G0.cfg) N aBg) m ⟨(J::.ptr 0 0 0 0::w2::w3::J::.int .i64 n::.int .i64 tm::.int .i64 nt::J::J::J::J::J::J::J::J::J::J::J::J::J::J::J::J::J::J::J::J::J::J::J::J::J::J::J::J::J::J::J::J::J::J::J::J::J::J::J::J::J::J::J::J::J::J::J::.int .i64 n::.int .i64 s::J::J::J::J::J::J::J::J::J::J::J::J::J::J::J::J::J::J::J::J::J::J::J::J::J::J::J::J::J::J::J::J::J::J::J::J::J::J::J::J::J::J::J::J::J::J::J::J::J::J::J::J::J::J::J::J::J::J::J::J::J::J::J::J::J::J::J::J::J::J::J::J::J::J::J::J::J::J::J::[]),h⟩=some (.ret,⟨(J::J::.nilS::.nilS::.bool false::J::J::J::J::J::J::J::J::J::J::J::J::J::J::J::J::J::J::J::J::J::J::J::J::J::J::J::J::J::J::J::J::J::J::J::J::J::J::J::J::J::J::J::J::J::J::J::J::J::J::J::J::J::J::J::J::J::J::J::J::J::J::J::J::J::J::J::J::J::J::J::J::J::J::J::J::J::J::J::J::J::J::J::J::J::J::J::J::J::J::J::J::J::J::J::J::J::J::J::J::J::J::J::J::J::J::J::J::J::J::J::J::J::J::J::J::J::J::J::J::J::J::J::J::J::J::J::J::J::J::J::[]),h'⟩)):=by
 intro d
 induction d with
 | zero =>
  intro s m A G h w2 w3 cs2 cs3 q2 q3 S h1 h2 e0 o2 n2 o3 n3 hS hq2 hq3 hq lA lG
  obtain ⟨m,rfl⟩:∃ q,m=q+1:=⟨m - 1,by omega⟩
  have h3:¬ ((s:Int) < n):=by omega
  have k1:t.acts.drop s=[]:=Q7.2 (by omega)
  have k2:t.gotos.drop s=[]:=Q7.2 (by omega)
  rw [k1,k2]
  refine ⟨fun _=>⟨h,w2,w3,cs2,cs3,q2,q3,S,?_,o2,by simpa [aGB] using n2,o3,by simpa [aGA] using n3⟩,fun e=>(by cases e)⟩
  simp only [aAj,aCe,Zaf,Zag,Zah,Zak,Zal,Zan,Zao,Zap,Zaw,Zaz,Zbc,Zbm,Zbu,Zcz,Zdb,Zdf,Zdg,Zdh,Q2,Q3,Q0,Q1,Zdl,decide_false,eq_self,h3]
 | succ d ih =>
  intro s m A G h w2 w3 cs2 cs3 q2 q3 S h1 h2 e0 o2 n2 o3 n3 hS hq2 hq3 hq lA lG
  obtain ⟨m,rfl⟩:∃ q,m=q+1:=⟨m - 1,by omega⟩
  have s1:s < t.acts.length:=by omega
  have s2:s < t.gotos.length:=by omega
  have h3':(s:Int) < n:=by omega
  have hw:=aC7 (n:=s) (by omega)
  have k1:t.acts.drop s=t.acts[s]::t.acts.drop (s+1):=Q5 s1
  have k2:t.gotos.drop s=t.gotos[s]::t.gotos.drop (s+1):=Q5 s2
  obtain ⟨ra,hra,xa⟩:=ha.ix s s1
  obtain ⟨rg,hrg,xg⟩:=hg.ix s s2
  obtain ⟨a,haa⟩:∃ a,a=t.acts[s]:=⟨_,rfl⟩
  obtain ⟨g,hgg⟩:∃ g,g=t.gotos[s]:=⟨_,rfl⟩
  rw [← haa] at hra k1
  rw [← hgg] at hrg k2
  rw [k1,k2,aGH,aN5]
  have lv:∀ (h:aA0) (w:AV),aAb h 1 false (.vptr [w] 0)=some w:=fun _ _=>rfl
  have ldA:∀ h:aA0,h[0]?=some (.arr 0 2 true [[av,gv]])→aAb h 1 false (.ptr 0 0 0 0)=some av:=fun h e=>by rw [aB5 h 1 0 0 0 0 false 2 true _ _ e rfl];rfl
  have ldG:∀ h:aA0,h[0]?=some (.arr 0 2 true [[av,gv]])→aAb h 1 false (.ptr 0 0 0 1)=some gv:=fun h e=>by rw [aB5 h 1 0 0 0 1 false 2 true _ _ e rfl];rfl
  have la0:=ldA h e0
  have lg0:=ldG h e0
  have na:=hra.len
  have ng:=hrg.len
  by_cases c1:a.length=tm
  case neg =>
   have d1:decide ((a.length:Int)=tm)=false:=decide_eq_false (by omega)
   rw [decide_eq_false c1,Q4,Q4,Q4]
   refine ⟨fun e=>(by cases e),fun _=>⟨h,?_⟩⟩
   simp only [aAj,aCe,Zae,Zaf,Zag,Zah,Zai,Zak,Zam,Zan,Zao,Zaq,Zas,Zav,Zba,Zbc,Zbh,Zbk,Zbm,Zbn,Zbo,Zbp,Zbs,Zbu,Zcc,Zcf,Zck,Zcz,Zda,Zdb,Zdf,Zdg,Zdh,Q2,Q3,Q0,Q1,Zdl,Zdq,Zeb,decide_true,Bool.not_false,Nat.reduceAdd,eq_self,h3',la0,xa,lv,na,d1]
  case pos =>
  have d1:decide ((a.length:Int)=tm)=true:=decide_eq_true (by omega)
  by_cases c2:g.length=nt
  case neg =>
   have d2:decide ((g.length:Int)=nt)=false:=decide_eq_false (by omega)
   rw [decide_eq_false c2,Bool.and_false,Q4,Q4]
   refine ⟨fun e=>(by cases e),fun _=>⟨h,?_⟩⟩
   simp only [aAj,aCe,Zae,Zaf,Zag,Zah,Zai,Zak,Zam,Zan,Zao,Zaq,Zas,Zav,Zba,Zbc,Zbg,Zbl,Zbm,Zbn,Zbo,Zbp,Zbs,Zbu,Zcc,Zcf,Zck,Zcz,Zda,Zdb,Zdf,Zdg,Zdh,Q2,Q3,Q0,Q1,Zdl,Zdq,Zeb,decide_true,Bool.not_true,Bool.not_false,Nat.reduceAdd,eq_self,h3',la0,lg0,xa,xg,lv,na,ng,d1,d2]
  case pos =>
  have d2:decide ((g.length:Int)=nt)=true:=decide_eq_true (by omega)
  rw [decide_eq_true c1,decide_eq_true c2,Bool.true_and,Bool.true_and]
  have len1:1≤h.length:=aBS e0
  obtain ⟨h4,wx,qx,e4,ox,bx,l4,f4⟩:=aTN (v2:=w2) (v3:=w3) (v6:=.int .i64 tm) (v7:=.int .i64 nt) (v8:=.int .i64 s) (v10:=.nilS) (v55:=.int .i64 n) (v56:=.int .i64 s) (B:=h.length) hra (by omega) n hn N len1 a.length 0 N [] h .nilS none (by omega) (by omega) (aAu.nil 1 _) (fun _ e=>by cases e) (Nat.le_refl _) rfl
  rw [List.drop_zero,Q6] at ox
  rw [z0] at e4
  obtain ⟨h5,wy,qy,e5,oy,by',l5,f5⟩:=aTM (v2:=w2) (v3:=w3) (v6:=.int .i64 tm) (v7:=.int .i64 nt) (v9:=wx) (v55:=.int .i64 n) (v56:=.int .i64 s) (B:=h4.length) hrg (by omega) n hn N (by omega) g.length 0 N [] h4 .nilS none (by omega) (by omega) (aAu.nil 1 _) (fun _ e=>by cases e) (Nat.le_refl _) rfl
  rw [List.drop_zero,Q6] at oy
  rw [z0] at e5
  have qxl:∀ i,qx=some i→i < h4.length:=fun i e=>by rw [e] at ox;exact ox.lt
  have qyl:∀ i,qy=some i→i < h5.length:=fun i e=>by rw [e] at oy;exact oy.lt
  have ox5:=ox.frame (h':=h5) fun i o e k=>f5 i o (qxl i e) k
  have up5:∀ (j:Nat) (o:AObj),j < h.length→h[j]?=some o→h5[j]?=some o:=fun j o hj e=>f5 j o (by omega) (f4 j o hj e)
  have e04:=f4 0 _ (by omega) e0
  have lg4:=ldG h4 e04
  have m1:=aQh ox5 (aL7 (by omega)) (by simp;omega)
  have m2:=aQh oy (aL7 (by omega)) (by simp;omega)
  have g1:=aNd (a.map (aBT n)) (aL7 (by omega))
  have g2:=aNd (g.map (aE6 n)) (aL7 (by omega))
  have z:∀ N,aAw (aA9 (lim G0.cfg) N aBg)=aAw (aA9 (lim G0.cfg) N aBg):=fun _=>rfl
  by_cases c3:aCD (a.map (aBT n))=true
  case neg =>
   have c3':aCD (a.map (aBT n))=false:=by simpa using c3
   have d3:aIi (a.map (aBT n)) < 0:=g1.2 c3'
   rw [c3',Q4,Q4]
   refine ⟨fun e=>(by cases e),fun _=>⟨h5,?_⟩⟩
   simp only [aAj,aCe,Zae,Zaf,Zag,Zah,Zai,Zaj,Zak,Zam,Zan,Zao,Zaq,Zas,Zat,Zav,Zaw,Zax,Zba,Zbc,Zbd,Zbg,Zbh,Zbk,Zbl,Zbm,Zbn,Zbo,Zbp,Zbs,Zbu,Zcc,Zcf,Zck,Zct,Zcu,Zcz,Zda,Zdb,Zdd,Zde,Zdf,Zdg,Zdh,Q2,Q3,Q0,Q1,Zdl,Zdq,Zeb,decide_true,Bool.not_true,Nat.reduceAdd,eq_self,Q9,Q6,h3',la0,lg0,xa,xg,lv,na,ng,d1,d2,e4,lg4,e5,m1,d3]
  case pos =>
  have d3:¬ aIi (a.map (aBT n)) < 0:=fun e=>by have:=g1.1 e;rw [c3] at this;cases this
  by_cases c4:aCD (g.map (aE6 n))=true
  case neg =>
   have c4':aCD (g.map (aE6 n))=false:=by simpa using c4
   have d4:aIi (g.map (aE6 n)) < 0:=g2.2 c4'
   rw [c4',Bool.and_false,Q4]
   refine ⟨fun e=>(by cases e),fun _=>⟨h5,?_⟩⟩
   simp only [aAj,aCe,Zae,Zaf,Zag,Zah,Zai,Zaj,Zak,Zam,Zan,Zao,Zaq,Zas,Zat,Zav,Zaw,Zax,Zba,Zbc,Zbd,Zbg,Zbl,Zbm,Zbn,Zbo,Zbp,Zbs,Zbu,Zcc,Zcf,Zck,Zct,Zcu,Zcz,Zda,Zdb,Zdd,Zde,Zdf,Zdg,Zdh,Q2,Q3,Q0,Q1,Zdl,Zdq,Zeb,decide_true,decide_false,Bool.not_true,Nat.reduceAdd,eq_self,Q9,Q6,h3',la0,lg0,xa,xg,lv,na,ng,d1,d2,e4,lg4,e5,m1,m2,d3,d4]
  case pos =>
  have d4:¬ aIi (g.map (aE6 n)) < 0:=fun e=>by have:=g2.1 e;rw [c4] at this;cases this
  rw [c3,c4,Bool.true_and,Bool.true_and]
  -- both rows are kept
  have q2l:∀ i,q2=some i→i < h.length:=fun i e=>by rw [e] at o2;exact o2.lt
  have q3l:∀ i,q3=some i→i < h.length:=fun i e=>by rw [e] at o3;exact o3.lt
  obtain ⟨S',hS'⟩:∃ S':Nat→Prop,S'=fun i=>S i∨qx=some i∨qy=some i:=⟨_,rfl⟩
  have o25:=o2.frame (h':=h5) fun i o e k=>up5 i o (q2l i e) k
  have o35:=o3.frame (h':=h5) fun i o e k=>up5 i o (q3l i e) k
  have n25:=(n2.frame (h':=h5) fun i o e k=>up5 i o (hS i e).2 k)
  have n35:=(n3.frame (h':=h5) fun i o e k=>up5 i o (hS i e).2 k)
  have nS2:∀ i,q2=some i→¬ S' i:=fun i e hs=>by
   rw [hS'] at hs
   rcases hs with hs | hs | hs
   ·exact (hq2 i e).2 hs
   ·have:=bx i hs;have:=q2l i e;omega
   ·have:=by' i hs;have:=q2l i e;omega
  have nS3:∀ i,q3=some i→¬ S' i:=fun i e hs=>by
   rw [hS'] at hs
   rcases hs with hs | hs | hs
   ·exact (hq3 i e).2 hs
   ·have:=bx i hs;have:=q3l i e;omega
   ·have:=by' i hs;have:=q3l i e;omega
  have lS':∀ i,S' i→1≤i∧i < h5.length:=fun i hs=>by
   rw [hS'] at hs
   rcases hs with hs | hs | hs
   ·have:=hS i hs;omega
   ·have:=bx i hs;have:=qxl i hs;omega
   ·have:=by' i hs;have:=qyl i hs;omega
  obtain ⟨lt2,H6a,i2,ver2,H6,t2,r1,r2,r3,r4,r5⟩:=o25.pushRow ox.cell n25.all 24 (by omega) (by rw [n2.len];omega) .nilS
  have ns2:¬ S' i2:=fun hs=>by
   rcases r4 with k | ⟨_,k⟩
   ·exact nS2 i2 k hs
   ·have:=(lS' i2 hs).2;omega
  have n26:Nest eIs (A++[a.map (aBT n)]) (cs2++[[wx]]) H6 S':=by
   have:=(n25.mono (S':=S') (fun i k=>by rw [hS'];exact .inl k)).push (x:=a.map (aBT n)) ox5 (fun i k=>by rw [hS'];exact .inr (.inl k))
   exact this.frame fun i o k e=>r3 i o e (fun f=>nS2 i f k)
  have o36:=o35.frame (h':=H6) fun i o f e=>r3 i o e (fun k=>hq i k f)
  have n36:Nest eIs (G++[g.map (aE6 n)]) (cs3++[[wy]]) H6 S':=by
   have:=(n35.mono (S':=S') (fun i k=>by rw [hS'];exact .inl k)).push (x:=g.map (aE6 n)) oy (fun i k=>by rw [hS'];exact .inr (.inr k))
   exact this.frame fun i o k e=>r3 i o e (fun f=>nS2 i f k)
  obtain ⟨lt3,H7a,i3,ver3,H7,t3,p1,p2,p3,p4,p5⟩:=o36.pushRow oy.cell n35.all 24 (by omega) (by rw [n3.len];omega) .nilS
  have ns3:¬ S' i3:=fun hs=>by
   rcases p4 with k | ⟨_,k⟩
   ·exact nS3 i3 k hs
   ·have:=(lS' i3 hs).2;omega
  have hne:i2≠i3:=fun k=>by
   rcases p4 with f | ⟨f1,f2⟩
   ·rcases r4 with u | ⟨_,u⟩
    ·exact hq i2 u (by rw [k];exact f)
    ·have:=q3l i3 f;omega
   ·have:=r2.lt;omega
  have o27:=r2.frame (h':=H7) fun i o f e=>p3 i o e (fun k=>by cases f;rcases r4 with u | ⟨_,u⟩;exact hq _ u k;have:=q3l _ k;omega)
  have n27:=n26.frame (h':=H7) fun i o k e=>p3 i o e (fun f=>nS3 i f k)
  have n37:=n36.frame (h':=H7) fun i o k e=>p3 i o e (fun f=>nS3 i f k)
  have e07:H7[0]?=some (.arr 0 2 true [[av,gv]]):=p3 0 _ (r3 0 _ (up5 0 _ (by omega) e0) (fun f=>by have:=(hq2 0 f).1;omega)) (fun f=>by have:=(hq3 0 f).1;omega)
  obtain ⟨wa,hwa⟩:∃ x,x=AV.hsl i2 ver2 0 (cs2.length+1) none:=⟨_,rfl⟩
  obtain ⟨wg,hwg⟩:∃ x,x=AV.hsl i3 ver3 0 (cs3.length+1) none:=⟨_,rfl⟩
  rw [← hwa] at r1 r2 o27
  rw [← hwg] at p1 p2
  have key:=ih (s+1) m (A++[a.map (aBT n)]) (G++[g.map (aE6 n)]) H7 wa wg (cs2++[[wx]]) (cs3++[[wy]]) (some i2) (some i3) S' (by omega) (by omega) e07 o27 n27 p2 n37 (fun i k=>by have:=lS' i k;omega)
   (fun i e=>by cases e;exact ⟨by rcases r4 with u | ⟨_,u⟩;exact (hq2 _ u).1;omega,ns2⟩) (fun i e=>by cases e;exact ⟨by rcases p4 with u | ⟨_,u⟩;exact (hq3 _ u).1;omega,ns3⟩) (fun i e f=>by cases e;cases f;exact hne rfl) (by simp [lA]) (by simp [lG])
  have run:aAw (aA9 (lim G0.cfg) N aBg) (m+1) ⟨(J::.ptr 0 0 0 0::w2::w3::J::.int .i64 n::.int .i64 tm::.int .i64 nt::J::J::J::J::J::J::J::J::J::J::J::J::J::J::J::J::J::J::J::J::J::J::J::J::J::J::J::J::J::J::J::J::J::J::J::J::J::J::J::J::J::J::J::J::J::J::J::.int .i64 n::.int .i64 s::J::J::J::J::J::J::J::J::J::J::J::J::J::J::J::J::J::J::J::J::J::J::J::J::J::J::J::J::J::J::J::J::J::J::J::J::J::J::J::J::J::J::J::J::J::J::J::J::J::J::J::J::J::J::J::J::J::J::J::J::J::J::J::J::J::J::J::J::J::J::J::J::J::J::J::J::J::J::J::[]),h⟩=aAw (aA9 (lim G0.cfg) N aBg) m ⟨(J::.ptr 0 0 0 0::wa::wg::J::.int .i64 n::.int .i64 tm::.int .i64 nt::J::J::J::J::J::J::J::J::J::J::J::J::J::J::J::J::J::J::J::J::J::J::J::J::J::J::J::J::J::J::J::J::J::J::J::J::J::J::J::J::J::J::J::J::J::J::J::.int .i64 n::.int .i64 (s+1:Nat)::J::J::J::J::J::J::J::J::J::J::J::J::J::J::J::J::J::J::J::J::J::J::J::J::J::J::J::J::J::J::J::J::J::J::J::J::J::J::J::J::J::J::J::J::J::J::J::J::J::J::J::J::J::J::J::J::J::J::J::J::J::J::J::J::J::J::J::J::J::J::J::J::J::J::J::J::J::J::J::[]),H7⟩:=by
   simp only [aAj,aCe,Zae,Zaf,Zag,Zah,Zai,Zaj,Zak,Zan,Zao,Zar,Zat,Zav,Zaw,Zax,Zay,Zbc,Zbd,Zbg,Zbl,Zbm,Zbn,Zbo,Zbp,Zbs,Zbu,Zcc,Zcf,Zck,Zcm,Zcr,Zct,Zcu,Zcz,Zda,Zdb,Zdd,Zde,Zdf,Zdg,Zdh,Q2,Q3,Q0,Q1,Zdi,Zdl,Zdq,Zeb,decide_true,decide_false,Bool.not_true,Nat.reduceAdd,eq_self,Q9,Q6,h3',la0,lg0,xa,xg,lv,na,ng,d1,d2,e4,lg4,e5,m1,m2,d3,d4,ev2,t2,r1,t3,p1,hw]
  rw [run]
  refine ⟨fun hk => ?_,key.2⟩
  obtain ⟨h',w2',w3',cs2',cs3',q2',q3',S2,u1,u2,u3,u4,u5⟩:=key.1 hk
  refine ⟨h',w2',w3',cs2',cs3',q2',q3',S2,u1,u2,?_,u4,?_⟩
  ·rw [Q8] at u3;exact u3
  ·rw [Q8] at u5;exact u5
end Go.Proofs.Ytgeedikghjcebaa.Ai
namespace Go.Proofs.Ytgeedikghjcebaa.Ai
open Go Go.Proofs
open List renaming length_nil → Q0, length_cons → Q1, nil_append → Q2, getD_cons_zero → Q3, getD_cons_succ → Q4, replicate_succ → Q5, replicate_zero → Q6, set_cons_zero → Q7, set_cons_succ → Q8, cons_append → Q9
open Option renaming map_some → Z0
open Option.some renaming injEq → Z1
open Bool renaming not_true → Z2
set_option linter.unusedVariables false
set_option linter.unusedSimpArgs false
set_option maxRecDepth 10000
set_option maxHeartbeats 4000000
def TabD.tm (t:TabD):Nat:=(t.acts.headD []).length
def TabD.nt (t:TabD):Nat:=(t.gotos.headD []).length
def TabD.frame (t:TabD):Prop:=1≤t.acts.length∧t.acts.length≤4096∧t.gotos.length=t.acts.length∧2≤t.tm∧t.tm≤256∧1≤t.nt∧t.nt≤512
def TabD.ok (t:TabD):Prop:=t.frame∧aGH t.acts.length t.tm t.nt t.acts t.gotos=true
def TabD.numA (t:TabD):List (List Int):=aGB t.acts.length t.acts
def TabD.numG (t:TabD):List (List Int):=aGA t.acts.length t.gotos
theorem TabD.tm_0:∀ (t:TabD) (h:0 < t.acts.length),t.tm=t.acts[0].length
 | ⟨[],g⟩,h=>by simp at h
 | ⟨a::l,g⟩,h=>rfl
theorem TabD.nt_0:∀ (t:TabD) (h:0 < t.gotos.length),t.nt=t.gotos[0].length
 | ⟨a,[]⟩,h=>by simp at h
 | ⟨a,g::l⟩,h=>rfl
section
variable {t : TabD} {av gv : AV}
theorem aRO (ha:LiG (LiG LiA) t.acts av) (hg:LiR t.gotos gv) (h:aA0):Zcw h 2 (.agg [av,gv])=some (.ptr h.length 0 0 0,h++[.arr 0 2 true [[av,gv]]]):=by
 have e:cellsOf (.agg [av,gv])=[av,gv]:=by simp [cellsOf]
 simp [Zcw,e]
theorem aTE (h:aA0) (e:h[0]?=some (.arr 0 2 true [[av,gv]])):aAb h 1 false (.ptr 0 0 0 0)=some av:=by rw [aB5 h 1 0 0 0 0 false 2 true _ _ e rfl];rfl
theorem aTD (h:aA0) (e:h[0]?=some (.arr 0 2 true [[av,gv]])):aAb h 1 false (.ptr 0 0 0 1)=some gv:=by rw [aB5 h 1 0 0 0 1 false 2 true _ _ e rfl];rfl
theorem aJ9 (h:aA0) (w:AV):aAb h 1 false (.vptr [w] 0)=some w:=rfl
theorem aO4 (ha:LiG (LiG LiA) t.acts av) (hg:LiR t.gotos gv) :
  (t.ok→∃ (raw x2 x3:AV) (c:Bool) (h':aA0),aB8 (lim G0.cfg) 5000 aCQ [.agg [av,gv]] []=some (raw,h')∧freeze h' 1000 raw=some (.tup [x2,x3,.bool true],c)∧aAX h' 1000 raw=true∧LiR t.numA x2∧LiR t.numG x3) ∧
  (¬ t.ok→∃ (h':aA0),aB8 (lim G0.cfg) 5000 aCQ [.agg [av,gv]] []=some (.tup [.nilS,.nilS,.bool false],h')):=by
 have bx:=aRO ha hg
 have l0:=aTE (av:=av) (gv:=gv) [.arr 0 2 true [[av,gv]]] rfl
 have l1:=aTD (av:=av) (gv:=gv) [.arr 0 2 true [[av,gv]]] rfl
 have na:=ha.len
 have ng:=hg.len
 obtain ⟨n,hn⟩:∃ n,n=t.acts.length:=⟨_,rfl⟩
 rw [← hn] at na
 rw [aMh]
 by_cases c1:(n:Int) < 1
 case pos =>
  refine ⟨fun k=>by have:=k.1.1;omega,fun _ => ?_⟩
  simp only [Zaf,Zag,Zah,Zam,Zan,Zao,Zaq,Zav,Zbc,Zbd,Zbh,Zbk,Zbm,Zbn,Zbo,Zbp,Zbr,Zbs,Zbu,Zcc,Zck,Zcw,Zcy,Zcz,Zda,Zdb,Q7,Q8,Q3,Q4,Z0,Zdl,Zeb,Zef,decide_true,Q1,Q0,if_true,Nat.reduceAdd,Nat.reduceSub,eq_self,true_and,Q1,Q0,Q5,Q6,Q9,Q2,l0,na,c1,aAa,aA8,aAc,Z1,Prod.mk.injEq,true_and,exists_eq']
 case neg =>
 by_cases c2:(4096:Int) < n
 case pos =>
  refine ⟨fun k=>by have:=k.1.2.1;omega,fun _ => ?_⟩
  simp only [Zaf,Zag,Zah,Zam,Zan,Zao,Zaq,Zav,Zbc,Zbd,Zbg,Zbh,Zbk,Zbl,Zbm,Zbn,Zbo,Zbp,Zbr,Zbs,Zbu,Zcc,Zck,Zcw,Zcy,Zcz,Zda,Zdb,Q7,Q8,Q3,Q4,Z0,Zdl,Zdn,Zeb,Zef,decide_true,decide_false,Q1,Q0,if_true,Nat.reduceAdd,Nat.reduceSub,eq_self,true_and,Q1,Q0,Q5,Q6,Q9,Q2,l0,na,c1,c2,aAa,aA8,aAc,Z1,Prod.mk.injEq,true_and,exists_eq']
 case neg =>
 by_cases c3:t.gotos.length=n
 case neg =>
  have d3:decide ((t.gotos.length:Int)=n)=false:=decide_eq_false (by omega)
  refine ⟨fun k=>by have:=k.1.2.2.1;omega,fun _ => ?_⟩
  simp only [Zaf,Zag,Zah,Zam,Zan,Zao,Zaq,Zav,Zbc,Zbd,Zbg,Zbl,Zbm,Zbn,Zbo,Zbp,Zbr,Zbs,Zbu,Zcc,Zck,Zcw,Zcy,Zcz,Zda,Zdb,Q7,Q8,Q3,Q4,Z0,Zdl,Zdn,Zdq,Zeb,Zef,decide_false,Bool.not_false,Q1,Q0,if_true,Nat.reduceAdd,Nat.reduceSub,eq_self,true_and,Q1,Q0,Q5,Q6,Q9,Q2,l0,l1,na,ng,c1,c2,d3,aAa,aA8,aAc,Z1,Prod.mk.injEq,true_and,exists_eq']
 case pos =>
 have d3:decide ((t.gotos.length:Int)=n)=true:=decide_eq_true (by omega)
 obtain ⟨ra,hra,xa⟩:=ha.ix 0 (by omega)
 obtain ⟨rg,hrg,xg⟩:=hg.ix 0 (by omega)
 rw [z0] at xa xg
 have nra:=hra.len
 have nrg:=hrg.len
 rw [← t.tm_0 (by omega)] at nra
 rw [← t.nt_0 (by omega)] at nrg
 by_cases c4:(t.tm:Int) < 2
 case pos =>
  refine ⟨fun k=>by have:=k.1.2.2.2.1;omega,fun _ => ?_⟩
  simp only [Zae,Zaf,Zag,Zah,Zam,Zan,Zao,Zaq,Zav,Zaw,Zbc,Zbd,Zbg,Zbh,Zbk,Zbl,Zbm,Zbn,Zbo,Zbp,Zbr,Zbs,Zbu,Zcc,Zcf,Zck,Zcw,Zcy,Zcz,Zda,Zdb,Q7,Q8,Q3,Q4,Z0,Zdl,Zdn,Zdq,Zeb,Zef,decide_true,decide_false,Z2,Q1,Q0,if_true,Nat.reduceAdd,Nat.reduceSub,eq_self,true_and,Q1,Q0,Q5,Q6,Q9,Q2,l0,l1,na,ng,c1,c2,d3,xa,xg,aJ9,nra,nrg,c4,aAa,aA8,aAc,Z1,Prod.mk.injEq,true_and,exists_eq']
 case neg =>
 by_cases c5:(256:Int) < t.tm
 case pos =>
  refine ⟨fun k=>by have:=k.1.2.2.2.2.1;omega,fun _ => ?_⟩
  simp only [Zae,Zaf,Zag,Zah,Zam,Zan,Zao,Zaq,Zav,Zaw,Zbc,Zbd,Zbg,Zbh,Zbk,Zbl,Zbm,Zbn,Zbo,Zbp,Zbr,Zbs,Zbu,Zcc,Zcf,Zck,Zcw,Zcy,Zcz,Zda,Zdb,Q7,Q8,Q3,Q4,Z0,Zdl,Zdn,Zdq,Zeb,Zef,decide_true,decide_false,Z2,Q1,Q0,if_true,Nat.reduceAdd,Nat.reduceSub,eq_self,true_and,Q1,Q0,Q5,Q6,Q9,Q2,l0,l1,na,ng,c1,c2,d3,xa,xg,aJ9,nra,nrg,c4,c5,aAa,aA8,aAc,Z1,Prod.mk.injEq,true_and,exists_eq']
 case neg =>
 by_cases c6:(t.nt:Int) < 1
 case pos =>
  refine ⟨fun k=>by have:=k.1.2.2.2.2.2.1;omega,fun _ => ?_⟩
  simp only [Zae,Zaf,Zag,Zah,Zam,Zan,Zao,Zaq,Zav,Zaw,Zbc,Zbd,Zbg,Zbh,Zbk,Zbl,Zbm,Zbn,Zbo,Zbp,Zbr,Zbs,Zbu,Zcc,Zcf,Zck,Zcw,Zcy,Zcz,Zda,Zdb,Q7,Q8,Q3,Q4,Z0,Zdl,Zdn,Zdq,Zeb,Zef,decide_true,decide_false,Z2,Q1,Q0,if_true,Nat.reduceAdd,Nat.reduceSub,eq_self,true_and,Q1,Q0,Q5,Q6,Q9,Q2,l0,l1,na,ng,c1,c2,d3,xa,xg,aJ9,nra,nrg,c4,c5,c6,aAa,aA8,aAc,Z1,Prod.mk.injEq,true_and,exists_eq']
 case neg =>
 by_cases c7:(512:Int) < t.nt
 case pos =>
  refine ⟨fun k=>by have:=k.1.2.2.2.2.2.2;omega,fun _ => ?_⟩
  simp only [Zae,Zaf,Zag,Zah,Zam,Zan,Zao,Zaq,Zav,Zaw,Zbc,Zbd,Zbg,Zbl,Zbm,Zbn,Zbo,Zbp,Zbr,Zbs,Zbu,Zcc,Zcf,Zck,Zcw,Zcy,Zcz,Zda,Zdb,Q7,Q8,Q3,Q4,Z0,Zdl,Zdn,Zdq,Zeb,Zef,decide_true,decide_false,Z2,Q1,Q0,if_true,Nat.reduceAdd,Nat.reduceSub,eq_self,true_and,Q1,Q0,Q5,Q6,Q9,Q2,l0,l1,na,ng,c1,c2,d3,xa,xg,aJ9,nra,nrg,c4,c5,c6,c7,aAa,aA8,aAc,Z1,Prod.mk.injEq,true_and,exists_eq']
 case neg =>
 have fr:t.frame:=⟨by omega,by omega,by omega,by omega,by omega,by omega,by omega⟩
 have key:=aTO ha hg n hn.symm c3 (by omega) t.tm t.nt (by omega) (by omega) 5000 (Nat.le_refl _) n 0 5000 [] [] [.arr 0 2 true [[av,gv]]] .nilS .nilS [] [] none none (fun _=>False) (by omega) (by omega) rfl (aAu.nil 1 _) (Nest.nil _ _ _) (aAu.nil 1 _) (Nest.nil _ _ _) (fun _ e=>e.elim) (fun _ e=>by cases e) (fun _ e=>by cases e) (fun _ e=>by cases e) rfl rfl
 rw [List.drop_zero,List.drop_zero,z0,Q2,Q2] at key
 by_cases c8:aGH n t.tm t.nt t.acts t.gotos=true
 case neg =>
  have c8':aGH n t.tm t.nt t.acts t.gotos=false:=by simpa using c8
  obtain ⟨h',e⟩:=key.2 c8'
  refine ⟨fun k=>absurd (hn ▸ k.2) c8,fun _=>⟨h',?_⟩⟩
  simp only [Zae,Zaf,Zag,Zah,Zai,Zaj,Zak,Zan,Zao,Zaq,Zas,Zaw,Zax,Zbc,Zbd,Zbg,Zbl,Zbm,Zbn,Zbo,Zbp,Zbr,Zbs,Zbu,Zcc,Zcf,Zck,Zcw,Zcy,Zcz,Zda,Zdb,Zdf,Zdg,Zdh,Q7,Q8,Q3,Q4,Z0,Zdl,Zdn,Zdq,Zeb,Zef,decide_false,Z2,Q1,Q0,if_true,Nat.reduceAdd,Nat.reduceSub,eq_self,Q1,Q0,Q5,Q6,Q9,Q2,Q2,Q0,l0,l1,na,ng,c1,c2,d3,xa,xg,aJ9,nra,nrg,c4,c5,c6,c7,e,aAa,aA8,aAc]
 case pos =>
  obtain ⟨h',w2',w3',cs2',cs3',q2',q3',S',e,o2,n2,o3,n3⟩:=key.1 c8
  obtain ⟨x2,b2,f2,g2⟩:=n2.fz o2 996
  obtain ⟨x3,b3,f3,g3⟩:=n3.fz o3 996
  have k2:=n2.clean o2 996
  have k3:=n3.clean o3 996
  have fz:freeze h' 1000 (.tup [w2',w3',.bool true])=some (.tup [x2,x3,.bool true],([(x2,b2),(x3,b3),(.bool true,true)]:List (AV × Bool)).all (·.2)):=by
   have:freeze h' 1000 (.tup [w2',w3',.bool true])=(aAq (freeze h' 999) [w2',w3',.bool true]).map fun l=>(.tup (l.map (·.1)),l.all (·.2)):=rfl
   rw [this]
   have f4:freeze h' 999 (.bool true)=some (.bool true,true):=rfl
   have m:aAq (freeze h' 999) [w2',w3',.bool true]=some [(x2,b2),(x3,b3),(.bool true,true)]:=by simp only [aAq,f2,f3,f4]
   rw [m];rfl
  have cl:aAX h' 1000 (.tup [w2',w3',.bool true])=true:=by
   have:aAX h' 1000 (.tup [w2',w3',.bool true])=[w2',w3',.bool true].all (aAX h' 999):=rfl
   rw [this]
   have f4:aAX h' 999 (.bool true)=true:=rfl
   simp only [List.all_cons,List.all_nil,k2,k3,f4,Bool.and_self]
  refine ⟨fun _=>⟨.tup [w2',w3',.bool true],x2,x3,_,h',?_,fz,cl,by unfold TabD.numA;rw [← hn];exact g2,by unfold TabD.numG;rw [← hn];exact g3⟩,fun k=>absurd ⟨fr,hn ▸ c8⟩ k⟩
  simp only [Zae,Zaf,Zag,Zah,Zai,Zaj,Zak,Zam,Zan,Zao,Zat,Zaw,Zax,Zbc,Zbd,Zbg,Zbl,Zbm,Zbn,Zbo,Zbp,Zbr,Zbs,Zbu,Zcc,Zcf,Zck,Zcw,Zcy,Zcz,Zda,Zdb,Zdf,Zdg,Zdh,Q7,Q8,Q3,Q4,Z0,Zdl,Zdn,Zdq,Zeb,Zef,decide_false,Z2,Q1,Q0,if_true,Nat.reduceAdd,Nat.reduceSub,eq_self,Q1,Q0,Q5,Q6,Q9,Q2,Q2,Q0,l0,l1,na,ng,c1,c2,d3,xa,xg,aJ9,nra,nrg,c4,c5,c6,c7,e,aAa,aA8,aAc]
theorem aQd (ha:LiG (LiG LiA) t.acts av) (hg:LiR t.gotos gv) :
  (t.ok→∃ (x2 x3:AV),LiR t.numA x2∧LiR t.numG x3∧∀ (H:aA0) (v:AV) (c:Bool),freeze H 1000 v=some (.agg [av,gv],c)→lim G0.cfg (.func 52) [v] H=some (.tup [x2,x3,.bool true],H)) ∧
  (¬ t.ok→∀ (H:aA0) (v:AV) (c:Bool),freeze H 1000 v=some (.agg [av,gv],c)→lim G0.cfg (.func 52) [v] H=some (.tup [.nilS,.nilS,.bool false],H)):=by
 obtain ⟨k1,k2⟩:=aO4 ha hg
 refine ⟨fun k => ?_,fun k H v c hv => ?_⟩
 ·obtain ⟨raw,x2,x3,c,h',r,f,cl,g2,g3⟩:=k1 k
  exact ⟨x2,x3,g2,g3,fun H v c hv=>aMy rfl rfl aHZ 5000 (aDH hv) r f cl⟩
 ·obtain ⟨h',r⟩:=k2 k
  exact aMy rfl rfl aHZ 5000 (aDH hv) r (rfl:freeze h' 1000 (.tup [.nilS,.nilS,.bool false])=some (.tup [.nilS,.nilS,.bool false],true)) rfl
end
end Go.Proofs.Ytgeedikghjcebaa.Ai
namespace Go.Proofs.Ytgeedikghjcebaa.Ai
open Go Go.Proofs
set_option linter.unusedVariables false
set_option linter.unusedSimpArgs false
set_option maxRecDepth 10000
set_option maxHeartbeats 4000000
def aIl (tm nt:Nat):List (List (List (Int × Int)))→List (List Int)→Bool
 | a::al,g::gl=>(decide (a.length=tm) && decide (g.length=nt)) && aIl tm nt al gl
 | _,_=>true
theorem aOp (n:Int) (tm nt:Nat):∀ (al:List (List (List (Int × Int)))) (gl:List (List Int)),al.length=gl.length→aGH n tm nt al gl=(aIl tm nt al gl && ((aGB n al).all aCD && (aGA n gl).all aCD)):=by
 intro al
 induction al with
 | nil=>intro gl h;have:gl=[]:=List.length_eq_zero_iff.1 (by simpa using h.symm);subst this;rfl
 | cons a al ih =>
  intro gl h
  cases gl with
  | nil=>simp at h
  | cons g gl =>
   have e:=ih gl (by simpa using h)
   have e1:aGB n (a::al)=a.map (aBT n)::aGB n al:=rfl
   have e2:aGA n (g::gl)=g.map (aE6 n)::aGA n gl:=rfl
   rw [aGH,aIl,e,aN5,e1,e2,List.all_cons,List.all_cons]
   cases (decide (a.length=tm) && decide (g.length=nt)) <;> cases aCD (a.map (aBT n)) <;> cases aCD (g.map (aE6 n)) <;> cases aIl tm nt al gl <;> cases (aGB n al).all aCD <;> cases (aGA n gl).all aCD <;> rfl
section
variable {t : TabD} {av gv : AV}
variable {B : Nat}
end
end Go.Proofs.Ytgeedikghjcebaa.Ai
namespace Go.Proofs.Ytgeedikghjcebaa.Ai
open Go Go.Proofs
set_option linter.unusedVariables false
set_option linter.unusedSimpArgs false
set_option maxRecDepth 10000
set_option maxHeartbeats 4000000
section
variable {t : TabD} {av gv : AV}
end
end Go.Proofs.Ytgeedikghjcebaa.Ai
