/- slices.SortStableFunc over numbers: swapRange, rotate. -/
import Derived.Test.YtgeedikghjcebaamXA
import Derived.Test.YtgeedikghjcebaamFn
namespace Go.Proofs.Ytgeedikghjcebaa.Ai
open Go Go.Proofs
open AV renaming junk → J
open List renaming length_append → Q0, set_cons_zero → Q1, set_cons_succ → Q2, getD_cons_zero → Q3, getD_cons_succ → Q4, length_cons → Q5, length_nil → Q6, nil_append → Q7, length_pos_iff → Q8
set_option linter.unusedVariables false
set_option linter.unusedSimpArgs false
set_option maxRecDepth 10000
set_option maxHeartbeats 4000000
theorem aQL (A X' M Y' B:List Int) (x y:Int):((A++(x::X')++M++(y::Y')++B).set A.length y).set (A.length+(X'.length+1)+M.length) x=(A++[y])++X'++(M++[x])++Y'++B:=by
 have e1:(A++(x::X')++M++(y::Y')++B).set A.length y=A++(y::X')++M++(y::Y')++B:=by
  simp [List.set_append_right]
 rw [e1]
 have e2:A++(y::X')++M++(y::Y')++B=(A++(y::X')++M)++(y::(Y'++B)):=by simp
 have e3:A.length+(X'.length+1)+M.length=(A++(y::X')++M).length:=by simp;omega
 rw [e2,e3,List.set_append_right _ _ (Nat.le_refl _),Nat.sub_self]
 simp
theorem aSv (A X' M Y' B:List Int) (x y:Int) (h:A.length < (A++(x::X')++M++(y::Y')++B).length):(A++(x::X')++M++(y::Y')++B)[A.length]=x:=by
 simp
theorem aSu (A X' M Y' B:List Int) (x y:Int) (h:A.length+(X'.length+1)+M.length < (A++(x::X')++M++(y::Y')++B).length):(A++(x::X')++M++(y::Y')++B)[A.length+(X'.length+1)+M.length]=y:=by
 have e2:A++(x::X')++M++(y::Y')++B=(A++(x::X')++M)++(y::(Y'++B)):=by simp
 have e3:A.length+(X'.length+1)+M.length=(A++(x::X')++M).length:=by simp;omega
 have:((A++(x::X')++M)++(y::(Y'++B)))[(A++(x::X')++M).length]?=some y:=by simp
 rw [← e2,← e3] at this
 exact (List.getElem?_eq_some_iff.1 this).2
theorem aKo {i ver n:Nat} {x0:Bool} {tl:List (List AV)} (a b c:Nat) (hn:n≤1000000000) (N:Nat):∀ (d k m:Nat) (A X M Y B:List Int) (h:aA0),X.length=d→Y.length=d→d < m→A.length=a+k→A.length+X.length+M.length=b+k→c=k+d→(A++X++M++Y++B).length=n→h[i]?=some (.arr ver 1 x0 (eIs (A++X++M++Y++B)++tl)) →
  aAw (aA9 (lim G0.cfg) N aBb) m ⟨[.hsl i ver 0 n none,.int .i64 a,.int .i64 b,.int .i64 c,J,J,J,J,J,J,.int .i64 k,J,J,J,J,J,J,J,J,J,J,J,J,J,J,J,J,J,J,J,J,J,J,J,J,J,J,J],h⟩=some (.exit 0,⟨[J,J,J,J,J,J,J,J,J,J,J,J,J,J,J,J,J,J,J,J,J,J,J,J,J,J,J,J,J,J,J,J,J,J,J,J,J,J],h.set i (.arr ver 1 x0 (eIs (A++Y++M++X++B)++tl))⟩):=by
 intro d
 induction d with
 | zero =>
  intro k m A X M Y B h hX hY hm h1 h2 h3 h4 hi
  obtain ⟨m,rfl⟩:∃ q,m=q+1:=⟨m - 1,by omega⟩
  have:X=[]:=List.length_eq_zero_iff.1 hX
  subst this
  have:Y=[]:=List.length_eq_zero_iff.1 hY
  subst this
  have h5:¬ ((k:Int) < c):=by omega
  have e:h.set i (.arr ver 1 x0 (eIs (A++[]++M++[]++B)++tl))=h:=aBq hi
  rw [e]
  simp only [aAj,aCT,Zaf,Zag,Zah,Zak,Zal,Zan,Zao,Zap,Zaw,Zaz,Zbc,Zbm,Zbo,Zbu,Zcz,Zdb,Zdg,Zdh,Q1,Q2,Q3,Q4,Zdl,decide_false,eq_self,h5]
 | succ d ih =>
  intro k m A X M Y B h hX hY hm h1 h2 h3 h4 hi
  obtain ⟨m,rfl⟩:∃ q,m=q+1:=⟨m - 1,by omega⟩
  obtain ⟨x,X',rfl⟩:∃ x X',X=x::X':=by cases X with | nil=>simp at hX | cons x X'=>exact ⟨x,X',rfl⟩
  obtain ⟨y,Y',rfl⟩:∃ y Y',Y=y::Y':=by cases Y with | nil=>simp at hY | cons y Y'=>exact ⟨y,Y',rfl⟩
  simp only [Q5] at hX hY h2
  have h5:(k:Int) < c:=by omega
  have hak:A.length < n:=by simp at h4;omega
  have hbk:A.length+(X'.length+1)+M.length < n:=by simp at h4;omega
  have w1:IntKind.i64.wrap ((a:Int)+k)=((A.length:Nat):Int):=by rw [w64 (by omega) (by omega)];omega
  have w2:IntKind.i64.wrap ((b:Int)+k)=((A.length+(X'.length+1)+M.length:Nat):Int):=by rw [w64 (by omega) (by omega)];omega
  have w3:=aC7 (n:=k) (by omega)
  have x1:=aBM (n:=n) (c:=none) hi (k:=.i64) hak
  have x2:=aBM (n:=n) (c:=none) hi (k:=.i64) hbk
  have l1:=ldI hi (j:=A.length) (by omega)
  rw [aSv] at l1
  have l2:=ldI hi (j:=A.length+(X'.length+1)+M.length) (by omega)
  rw [aSu] at l2
  have s1:=stI hi (j:=A.length) (by omega) y
  have g1:=aAr (y:=AObj.arr ver 1 x0 (eIs ((A++x::X'++M++y::Y'++B).set A.length y)++tl)) hi
  have x3:=aBM (n:=n) (c:=none) g1 (k:=.i64) hbk
  have s2:=stI g1 (j:=A.length+(X'.length+1)+M.length) (by rw [List.length_set];omega) x
  rw [aQL,set_set] at s2
  have g2:=aAr (y:=AObj.arr ver 1 x0 (eIs ((A++[y])++X'++(M++[x])++Y'++B)++tl)) hi
  have e:=ih (k+1) m (A++[y]) X' (M++[x]) Y' B _ (by omega) (by omega) (by omega) (by simp;omega) (by simp;omega) (by omega) (by simp at h4 ⊢;omega) g2
  rw [set_set] at e
  have e2:A++[y]++Y'++(M++[x])++X'++B=A++(y::Y')++M++(x::X')++B:=by simp
  rw [e2] at e
  rw [← e]
  simp only [aAj,aCT,Zae,Zaf,Zag,Zah,Zai,Zak,Zan,Zao,Zar,Zav,Zay,Zbc,Zbe,Zbm,Zbo,Zbs,Zbt,Zbu,Zcf,Zcz,Zda,Zdb,Zdc,Zdf,Zdg,Zdh,Q1,Q2,Q3,Q4,Zdi,Zdl,decide_true,eq_self,h5,w1,w2,w3,x1,x2,x3,l1,l2,s1,s2]
theorem aHG {i ver n:Nat} {x0:Bool} {tl:List (List AV)} (hn:n≤1000000000) (A X M Y B:List Int) (h:aA0) (hXY:X.length=Y.length) (hl:(A++X++M++Y++B).length=n) (hi:h[i]?=some (.arr ver 1 x0 (eIs (A++X++M++Y++B)++tl))) (cmp:AV) :
  lim G0.cfg (.func 77) [.hsl i ver 0 n none,.int .i64 A.length,.int .i64 ((A.length+X.length+M.length:Nat):Int),.int .i64 X.length,cmp] h=some (AV.un,h.set i (.arr ver 1 x0 (eIs (A++Y++M++X++B)++tl))):=by
 refine aB3 rfl aFf (X.length+1) ?_
 have e:=aKo (i:=i) (ver:=ver) (x0:=x0) (tl:=tl) A.length (A.length+X.length+M.length) X.length hn (X.length+1) X.length 0 (X.length+1) A X M Y B h rfl hXY.symm (by omega) (by omega) (by omega) (by omega) hl hi
 rw [z0] at e
 rw [aFd]
 simp only [Zaf,Zag,Zai,Zaj,Zak,Zan,Zao,Zat,Zax,Zbm,Zbo,Zcx,Zda,Zdb,Zdf,Zdg,Zdh,Q1,Q2,Option.map_some,Q5,Q6,Nat.reduceAdd,Nat.reduceSub,eq_self,and_true,Q5,Q6,List.replicate_succ,List.replicate_zero,List.cons_append,Q7,e,aAa,aA8,Option.some.injEq,Prod.mk.injEq,and_true]
 rfl
theorem aMN {i ver n:Nat} {x0:Bool} {tl:List (List AV)} (hn:n≤1000000000) (m0:Nat) (cmp:AV) (N:Nat):∀ (s m:Nat) (A X Y B:List Int) (h:aA0),X.length+Y.length≤s→s < m→X≠[]→Y≠[]→A.length+X.length=m0→(A++X++Y++B).length=n→h[i]?=some (.arr ver 1 x0 (eIs (A++X++Y++B)++tl)) →
  ∃ A' X' Y' B',aAw (aA9 (lim G0.cfg) N aBm) m ⟨(.hsl i ver 0 n none::J::.int .i64 m0::J::cmp::J::J::J::J::J::.int .i64 X.length::.int .i64 Y.length::J::J::J::J::J::J::J::J::J::J::J::J::J::J::J::J::J::J::J::J::J::J::J::J::J::J::J::J::J::J::J::J::J::J::J::J::J::J::J::J::J::J::J::J::J::J::[]),h⟩=some (.exit 0,⟨(.hsl i ver 0 n none::J::.int .i64 m0::J::cmp::J::J::J::J::J::.int .i64 X'.length::J::J::J::J::J::J::J::J::J::J::J::J::J::J::J::J::J::J::J::J::J::J::J::J::J::J::J::J::J::J::J::J::J::J::J::J::J::J::J::J::J::J::J::J::J::J::J::[]),h.set i (.arr ver 1 x0 (eIs (A'++X'++Y'++B')++tl))⟩) ∧
   X'.length=Y'.length∧A'.length+X'.length=m0∧A'++Y'++X'++B'=A++Y++X++B∧(A'++X'++Y'++B').length=n:=by
 intro s
 induction s with
 | zero =>
  intro m A X Y B h hs hm hX
  have:=Q8.2 hX
  omega
 | succ s ih =>
  intro m A X Y B h hs hm hX hY h1 h2 hi
  obtain ⟨m,rfl⟩:∃ q,m=q+1:=⟨m - 1,by omega⟩
  have pX:=Q8.2 hX
  have pY:=Q8.2 hY
  have hl:=h2
  simp only [Q0] at hl
  rcases Nat.lt_trichotomy X.length Y.length with q | q | q
  ·have q1:decide ((X.length:Int)=Y.length)=false:=decide_eq_false (by omega)
   have q2:¬ ((Y.length:Int) < X.length):=by omega
   obtain ⟨Y1,Y2,rfl,hY2⟩:∃ Y1 Y2,Y=Y1++Y2∧Y2.length=X.length:=⟨Y.take (Y.length - X.length),Y.drop (Y.length - X.length),(List.take_append_drop _ _).symm,by rw [List.length_drop];omega⟩
   rw [Q0] at q hl hs
   have w1:IntKind.i64.wrap ((m0:Int) - X.length)=((A.length:Nat):Int):=by rw [w64 (by omega) (by omega)];omega
   have w2:IntKind.i64.wrap (IntKind.i64.wrap ((m0:Int)+(Y1++Y2).length) - X.length)=((A.length+X.length+Y1.length:Nat):Int):=by
    rw [Q0,w64 (n:=(m0:Int)+((Y1.length+Y2.length:Nat):Int)) (by omega) (by omega),w64 (by omega) (by omega)];omega
   have w3:IntKind.i64.wrap (((Y1++Y2).length:Int) - X.length)=((Y1.length:Nat):Int):=by rw [Q0,w64 (by omega) (by omega)];omega
   have ea:A++X++(Y1++Y2)++B=A++X++Y1++Y2++B:=by simp
   rw [ea] at hi h2
   have sw:=aHG hn A X Y1 Y2 B h hY2.symm h2 hi cmp
   have g:=aAr (y:=AObj.arr ver 1 x0 (eIs (A++Y2++Y1++X++B)++tl)) hi
   have eb:A++Y2++Y1++X++B=A++Y2++Y1++(X++B):=by simp
   rw [eb] at g sw
   obtain ⟨A',X',Y',B',e,k1,k2,k3,k4⟩:=ih m A Y2 Y1 (X++B) _ (by omega) (by omega) (by intro e;rw [e] at hY2;simp at hY2;omega) (by intro e;rw [e] at q;simp at q;omega) (by omega) (by simp;omega) g
   rw [set_set] at e
   refine ⟨A',X',Y',B',?_,k1,k2,by rw [k3];simp,k4⟩
   rw [← e,hY2]
   simp only [aAj,aCl,Zae,Zaf,Zag,Zah,Zai,Zak,Zan,Zao,Zar,Zav,Zaw,Zay,Zbc,Zbd,Zbm,Zbo,Zbu,Zct,Zcu,Zcz,Zda,Zdb,Zdd,Zde,Zdf,Zdg,Zdh,Q1,Q2,Q3,Q4,Zdi,Zdj,Zdn,Zdq,decide_false,Bool.not_false,eq_self,q1,q2,w1,w2,w3,Q7,List.append_nil,sw]
  ·have q1:decide ((X.length:Int)=Y.length)=true:=decide_eq_true (by omega)
   refine ⟨A,X,Y,B,?_,q,h1,rfl,h2⟩
   have e:h.set i (.arr ver 1 x0 (eIs (A++X++Y++B)++tl))=h:=aBq hi
   rw [e]
   simp only [aAj,aCl,Zaf,Zag,Zah,Zak,Zal,Zan,Zao,Zap,Zaw,Zaz,Zbc,Zbm,Zbo,Zbu,Zcz,Zdb,Zdf,Zdg,Zdh,Q1,Q2,Q3,Q4,Zdq,Bool.not_true,eq_self,q1]
  ·have q1:decide ((X.length:Int)=Y.length)=false:=decide_eq_false (by omega)
   have q2:(Y.length:Int) < X.length:=by omega
   obtain ⟨X1,X2,rfl,hX1⟩:∃ X1 X2,X=X1++X2∧X1.length=Y.length:=⟨X.take Y.length,X.drop Y.length,(List.take_append_drop _ _).symm,by rw [List.length_take];omega⟩
   rw [Q0] at q hl hs h1
   have w1:IntKind.i64.wrap ((m0:Int) - (X1++X2).length)=((A.length:Nat):Int):=by rw [Q0,w64 (by omega) (by omega)];omega
   have w2:(m0:Int)=((A.length+X1.length+X2.length:Nat):Int):=by omega
   have w3:IntKind.i64.wrap (((X1++X2).length:Int) - Y.length)=((X2.length:Nat):Int):=by rw [Q0,w64 (by omega) (by omega)];omega
   have ea:A++(X1++X2)++Y++B=A++X1++X2++Y++B:=by simp
   rw [ea] at hi h2
   have sw:=aHG hn A X1 X2 Y B h hX1 h2 hi cmp
   rw [← w2,hX1] at sw
   have g:=aAr (y:=AObj.arr ver 1 x0 (eIs (A++Y++X2++X1++B)++tl)) hi
   obtain ⟨A',X',Y',B',e,k1,k2,k3,k4⟩:=ih m (A++Y) X2 X1 B _ (by omega) (by omega) (by intro e;rw [e] at q;simp at q;omega) (by intro e;rw [e] at hX1;simp at hX1;omega) (by simp;omega) (by simp;omega) g
   rw [set_set] at e
   refine ⟨A',X',Y',B',?_,k1,k2,by rw [k3];simp,k4⟩
   rw [← e,hX1]
   simp only [aAj,aCl,Zae,Zaf,Zag,Zah,Zai,Zak,Zan,Zao,Zar,Zav,Zay,Zbc,Zbd,Zbm,Zbo,Zbu,Zct,Zcu,Zcz,Zda,Zdb,Zdd,Zde,Zdf,Zdg,Zdh,Q1,Q2,Q3,Q4,Zdj,Zdn,Zdq,decide_true,Bool.not_false,eq_self,q1,q2,w1,w3,Q7,List.append_nil,sw]
theorem aRg {i ver n:Nat} {x0:Bool} {tl:List (List AV)} (hn:n≤1000000000) (A X Y B:List Int) (h:aA0) (hX:X≠[]) (hY:Y≠[]) (hl:(A++X++Y++B).length=n) (hi:h[i]?=some (.arr ver 1 x0 (eIs (A++X++Y++B)++tl))) (cmp:AV) :
  lim G0.cfg (.func 76) [.hsl i ver 0 n none,.int .i64 A.length,.int .i64 ((A.length+X.length:Nat):Int),.int .i64 ((A.length+X.length+Y.length:Nat):Int),cmp] h=some (AV.un,h.set i (.arr ver 1 x0 (eIs (A++Y++X++B)++tl))):=by
 refine aB3 rfl aG8 (X.length+Y.length+1) ?_
 obtain ⟨A',X',Y',B',e,k1,k2,k3,k4⟩:=aMN (i:=i) (ver:=ver) (x0:=x0) (tl:=tl) hn (A.length+X.length) cmp (X.length+Y.length+1) (X.length+Y.length) (X.length+Y.length+1) A X Y B h (Nat.le_refl _) (by omega) hX hY rfl hl hi
 have hl':=hl
 simp only [Q0] at hl'
 have w1:IntKind.i64.wrap (((A.length+X.length:Nat):Int) - A.length)=((X.length:Nat):Int):=by rw [w64 (by omega) (by omega)];omega
 have w2:IntKind.i64.wrap (((A.length+X.length+Y.length:Nat):Int) - ((A.length+X.length:Nat):Int))=((Y.length:Nat):Int):=by rw [w64 (by omega) (by omega)];omega
 have w3:IntKind.i64.wrap (((A.length+X.length:Nat):Int) - X'.length)=((A'.length:Nat):Int):=by rw [w64 (by omega) (by omega)];omega
 have g:=aAr (y:=AObj.arr ver 1 x0 (eIs (A'++X'++Y'++B')++tl)) hi
 have ea:A'++X'++Y'++B'=A'++X'++[]++Y'++B':=by simp
 rw [ea] at g k4
 have sw:=aHG hn A' X' [] Y' B' _ k1 k4 g cmp
 have eb:A'++Y'++[]++X'++B'=A++Y++X++B:=by rw [← k3];simp
 rw [eb,set_set,Q6,Nat.add_zero,k2,← ea] at sw
 rw [aG5]
 simp only [Zaf,Zag,Zai,Zaj,Zak,Zan,Zao,Zat,Zax,Zbc,Zbd,Zbm,Zbo,Zbu,Zct,Zcu,Zcx,Zcz,Zda,Zdb,Zdd,Zde,Zdf,Zdg,Zdh,Q1,Q2,Q3,Q4,Option.map_some,Zdj,Q5,Q6,Nat.reduceAdd,Nat.reduceSub,eq_self,and_true,Q5,Q6,List.replicate_succ,List.replicate_zero,List.cons_append,Q7,w1,w2,w3,e,List.append_nil,sw,aAa,aA8,Option.some.injEq,Prod.mk.injEq,and_true]
 rfl
end Go.Proofs.Ytgeedikghjcebaa.Ai
namespace Go.Proofs.Ytgeedikghjcebaa.Ai
open Go Go.Proofs
open AV renaming junk → J
open List renaming getD_cons_zero → Q1, getD_cons_succ → Q2, set_cons_zero → Q3, set_cons_succ → Q4, pairwise_cons → Q5, length_cons → Q6, pairwise_append → Q7, mem_append → Q8, nil_append → Q9, length_nil → Z0
set_option linter.unusedVariables false
set_option linter.unusedSimpArgs false
set_option maxRecDepth 10000
set_option maxHeartbeats 4000000
def aIk (K:Int→Int) (x y:Int):Prop:=K x < K y∨(K x=K y∧x < y)
abbrev aAO (K:Int→Int) (l:List Int):Prop:=l.Pairwise (aIk K)
theorem aIk.le {K:Int→Int} {x y:Int} (h:aIk K x y):K x≤K y:=by rcases h with h | h <;> omega
structure CmpOk (i:Nat) (g:Nat) (caps:List AV) (K:Int→Int) (D:Int→Prop) (E:aA0→Prop):Prop where
 run:∀ x y h,D x→D y→E h→∃ c:Int,lim G0.cfg (.func g) ([]++[.int .i64 x,.int .i64 y]++caps) h=some (.int .i64 c,h)∧(c < 0↔K x < K y)
 keep:∀ h o,E h→E (h.set i o)
theorem aIO {K:Int→Int} {P Q:List Int} {r:Int} (hs:aAO K (P++Q)) (hr:∀ s ∈ P++Q,s < r) (hq:∀ q ∈ Q,K r < K q) (hp:P=[]∨∃ P1 p,P=P1++[p]∧¬ K r < K p):aAO K (P++r::Q):=by
 rw [aAO,Q7] at hs
 obtain ⟨h1,h2,h3⟩:=hs
 rw [aAO,Q7,Q5]
 refine ⟨h1,⟨fun q h=>.inl (hq q h),h2⟩,fun p hp' q hq' => ?_⟩
 rcases List.mem_cons.1 hq' with rfl | hq'
 ·have hlt:=hr p (by simp [hp'])
  have hle:K p≤K q:=by
   rcases hp with rfl | ⟨P1,pl,rfl,hn⟩
   ·cases hp'
   ·rcases Q8.1 hp' with h | h
    ·have:=(Q7.1 h1).2.2 p h pl (by simp)
     have:=this.le;omega
    ·rw [List.mem_singleton] at h;subst h;omega
  by_cases e:K p < K q
  ·exact .inl e
  ·exact .inr ⟨by omega,hlt⟩
 ·exact h3 p hp' q hq'
section
variable {i ver n : Nat} {x0 : Bool} {tl : List (List AV)} {g : Nat} {caps : List AV} {K : Int → Int} {D : Int → Prop} {E : aA0 → Prop}
theorem aOy (A Q:List Int) (x y:Int):((A++x::y::Q).set (A.length+1) x).set A.length y=A++y::x::Q:=by
 have e:(A++x::y::Q).set (A.length+1) x=A++x::x::Q:=by simp [List.set_append_right]
 rw [e];simp [List.set_append_right]
theorem aM8 (A Q:List Int) (x y:Int) (h:A.length+1 < (A++x::y::Q).length):(A++x::y::Q)[A.length+1]=y:=by
 have:(A++x::y::Q)[A.length+1]?=some y:=by simp
 exact (List.getElem?_eq_some_iff.1 this).2
theorem aM9 (A Q:List Int) (x:Int) (h:A.length < (A++x::Q).length):(A++x::Q)[A.length]=x:=by simp
theorem aOf (hC:CmpOk i g caps K D E) (hn:n≤1000000000) (a b j8:Nat) (N:Nat) (r:Int) (hr:D r):∀ (k m:Nat) (A P Q:List Int) (h:aA0),P.length=k→k < m→A.length=a→(∀ p ∈ P,D p)→(A++P++r::Q).length=n→E h→h[i]?=some (.arr ver 1 x0 (eIs (A++P++r::Q)++tl)) →
  ∃ P0 Q0,P=P0++Q0∧(∀ q ∈ Q0,K r < K q)∧(P0=[]∨∃ P1 p,P0=P1++[p]∧¬ K r < K p) ∧
  aAw (aA9 (lim G0.cfg) N aB1) m ⟨(.hsl i ver 0 n none::.int .i64 a::.int .i64 b::.fn (.func g) [] caps::J::J::J::J::.int .i64 j8::.int .i64 ((a+k:Nat):Int)::J::J::J::J::J::J::J::J::J::J::J::J::J::J::J::J::J::J::J::J::J::J::J::J::J::J::J::J::J::J::J::J::J::J::J::J::J::J::J::J::J::J::J::[]),h⟩=some (.exit 2,⟨(.hsl i ver 0 n none::.int .i64 a::.int .i64 b::.fn (.func g) [] caps::J::J::J::J::.int .i64 j8::J::J::J::J::J::J::J::J::J::J::J::J::J::J::J::J::J::J::J::J::J::J::J::J::J::J::J::J::J::J::J::J::J::J::J::J::J::J::J::J::J::J::J::J::[]),h.set i (.arr ver 1 x0 (eIs (A++P0++r::(Q0++Q))++tl))⟩):=by
 intro k
 induction k with
 | zero =>
  intro m A P Q h hP hm h1 hD h2 hE hi
  obtain ⟨m,rfl⟩:∃ q,m=q+1:=⟨m - 1,by omega⟩
  have:P=[]:=List.length_eq_zero_iff.1 hP
  subst this
  refine ⟨[],[],rfl,by simp,.inl rfl,?_⟩
  have h5:¬ ((a:Int) < ((a+0:Nat):Int)):=by omega
  rw [Q9,aBq hi]
  simp only [aAj,aBI,Zaf,Zag,Zah,Zak,Zal,Zan,Zao,Zap,Zaw,Zaz,Zbc,Zbi,Zbl,Zbm,Zbn,Zbo,Zbp,Zbu,Zcz,Zda,Zdb,Zdf,Zdg,Zdh,Q3,Q4,Q1,Q2,Zdn,decide_false,eq_self,h5]
 | succ k ih =>
  intro m A P Q h hP hm h1 hD h2 hE hi
  obtain ⟨m,rfl⟩:∃ q,m=q+1:=⟨m - 1,by omega⟩
  have hne:P≠[]:=fun e=>by subst e;simp at hP
  obtain ⟨P',p,rfl⟩:∃ P' p,P=P'++[p]:=⟨P.dropLast,P.getLast hne,(List.dropLast_concat_getLast hne).symm⟩
  have hP':P'.length=k:=by simpa using hP
  have h5:(a:Int) < ((a+(k+1):Nat):Int):=by omega
  have ea:A++(P'++[p])++r::Q=(A++P')++p::r::Q:=by simp
  rw [ea] at h2 hi
  have hl:(A++P').length=a+k:=by simp;omega
  have hjn:(A++P').length+1 < n:=by rw [← h2];simp;omega
  have ej:((a+(k+1):Nat):Int)=(((A++P').length+1:Nat):Int):=by rw [hl];omega
  have w1:IntKind.i64.wrap ((((A++P').length+1:Nat):Int) - 1)=(((A++P').length:Nat):Int):=by rw [w64 (by omega) (by omega)];omega
  have y1:=aBM (n:=n) (c:=none) hi (k:=.i64) (j:=(A++P').length+1) hjn
  have y2:=aBM (n:=n) (c:=none) hi (k:=.i64) (j:=(A++P').length) (by omega)
  have l1:=ldI hi (j:=(A++P').length+1) (by omega)
  rw [aM8] at l1
  have l2:=ldI hi (j:=(A++P').length) (by omega)
  rw [aM9] at l2
  obtain ⟨c,hc,hcK⟩:=hC.run r p h hr (hD p (by simp)) hE
  rw [ej] at h5 ⊢
  by_cases q:c < 0
  case pos =>
   have s1:=stI hi (j:=(A++P').length+1) (by omega) p
   have g1:=aAr (y:=AObj.arr ver 1 x0 (eIs ((A++P'++p::r::Q).set ((A++P').length+1) p)++tl)) hi
   have y3:=aBM (n:=n) (c:=none) g1 (k:=.i64) (j:=(A++P').length) (by omega)
   have s2:=stI g1 (j:=(A++P').length) (by rw [List.length_set];omega) r
   rw [aOy,set_set] at s2
   have g2:=aAr (y:=AObj.arr ver 1 x0 (eIs (A++P'++r::(p::Q))++tl)) hi
   obtain ⟨P0,Q0,e0,e1,e2,e⟩:=ih m A P' (p::Q) _ hP' (by omega) h1 (fun x hx=>hD x (by simp [hx])) (by rw [← h2];simp) (hC.keep _ _ hE) g2
   rw [set_set] at e
   refine ⟨P0,Q0++[p],by rw [e0];simp,fun q' hq' => ?_,e2,?_⟩
   ·rcases Q8.1 hq' with h | h
    ·exact e1 q' h
    ·rw [List.mem_singleton] at h;subst h;exact hcK.1 q
   ·have e3:A++P0++r::(Q0++[p]++Q)=A++P0++r::(Q0++p::Q):=by simp
    rw [e3,← e]
    rw [← hl]
    simp only [aAj,aBI,Zae,Zaf,Zag,Zah,Zai,Zak,Zan,Zao,Zar,Zav,Zay,Zbc,Zbd,Zbe,Zbf,Zbk,Zbm,Zbn,Zbo,Zbp,Zbs,Zbt,Zbu,Zcf,Zct,Zcu,Zcz,Zda,Zdb,Zdc,Zdd,Zde,Zdf,Zdg,Zdh,Q3,Q4,Q1,Q2,Zdj,Zdl,Zdn,decide_true,eq_self,h5,w1,y1,y2,y3,l1,l2,hc,q,s1,s2]
  case neg =>
   refine ⟨P'++[p],[],by simp,by simp,.inr ⟨P',p,rfl,fun e=>q (hcK.2 e)⟩,?_⟩
   rw [Q9,ea,aBq hi]
   simp only [aAj,aBI,Zaf,Zag,Zah,Zak,Zal,Zan,Zao,Zap,Zaw,Zaz,Zbc,Zbd,Zbf,Zbk,Zbm,Zbn,Zbo,Zbp,Zbs,Zbu,Zcf,Zct,Zcu,Zcz,Zda,Zdb,Zdd,Zde,Zdf,Zdg,Zdh,Q3,Q4,Q1,Q2,Zdj,Zdl,Zdn,decide_true,decide_false,eq_self,h5,w1,y1,y2,l1,l2,hc,q]
theorem aPh (hC:CmpOk i g caps K D E) (hn:n≤1000000000) (a b:Nat) (N:Nat) (hN:n < N):∀ (k m:Nat) (A S R B:List Int) (h:aA0),R.length=k→k < m→A.length=a→a+S.length+R.length=b→(∀ p ∈ S,D p)→(∀ p ∈ R,D p)→aAO K S→R.Pairwise (· < ·)→(∀ s ∈ S,∀ r ∈ R,s < r)→(A++S++R++B).length=n→E h→h[i]?=some (.arr ver 1 x0 (eIs (A++S++R++B)++tl)) →
  ∃ M,List.Perm M (S++R)∧aAO K M ∧
  aAw (aA9 (lim G0.cfg) N aB2) m ⟨(.hsl i ver 0 n none::.int .i64 a::.int .i64 b::.fn (.func g) [] caps::J::J::J::J::.int .i64 ((a+S.length:Nat):Int)::J::J::J::J::J::J::J::J::J::J::J::J::J::J::J::J::J::J::J::J::J::J::J::J::J::J::J::J::J::J::J::J::J::J::J::J::J::J::J::J::J::J::J::J::[]),h⟩=some (.exit 0,⟨(J::J::J::J::J::J::J::J::J::J::J::J::J::J::J::J::J::J::J::J::J::J::J::J::J::J::J::J::J::J::J::J::J::J::J::J::J::J::J::J::J::J::J::J::J::J::J::J::J::J::J::J::J::[]),h.set i (.arr ver 1 x0 (eIs (A++M++B)++tl))⟩):=by
 intro k
 induction k with
 | zero =>
  intro m A S R B h hR hm h1 h3 hDS hDR hS hRp hSR h2 hE hi
  obtain ⟨m,rfl⟩:∃ q,m=q+1:=⟨m - 1,by omega⟩
  have:R=[]:=List.length_eq_zero_iff.1 hR
  subst this
  refine ⟨S,by simp,hS,?_⟩
  rw [List.append_nil] at hi
  have h5:¬ (((a+S.length:Nat):Int) < b):=by simp at h3;omega
  rw [aBq hi]
  simp only [aAj,aBJ,Zaf,Zag,Zah,Zak,Zal,Zan,Zao,Zap,Zaw,Zaz,Zbc,Zbm,Zbo,Zbu,Zcz,Zdb,Zdg,Zdh,Q3,Q4,Q1,Q2,Zdl,decide_false,eq_self,h5]
 | succ k ih =>
  intro m A S R B h hR hm h1 h3 hDS hDR hS hRp hSR h2 hE hi
  obtain ⟨m,rfl⟩:∃ q,m=q+1:=⟨m - 1,by omega⟩
  obtain ⟨r,R',rfl⟩:∃ x X',R=x::X':=by cases R with | nil=>simp at hR | cons x X'=>exact ⟨x,X',rfl⟩
  have hR':R'.length=k:=by simpa using hR
  have h5:((a+S.length:Nat):Int) < b:=by simp at h3;omega
  have hl:A.length+S.length+(R'.length+1)+B.length=n:=by rw [← h2];simp;omega
  have w1:IntKind.i64.wrap (((a+S.length:Nat):Int)+1)=((a+(S.length+1):Nat):Int):=by rw [w64 (by omega) (by omega)];omega
  have ea:A++S++r::R'++B=A++S++r::(R'++B):=by simp
  rw [ea] at hi h2
  obtain ⟨P0,Q0,e0,e1,e2,e⟩:=aOf (ver:=ver) (x0:=x0) (tl:=tl) hC hn a b (a+S.length) N r (hDR r (by simp)) S.length N A S (R'++B) h rfl (by omega) h1 hDS h2 hE hi
  have hsr:∀ s ∈ S,s < r:=fun s hs=>hSR s hs r (by simp)
  have hS':aAO K (P0++r::Q0):=aIO (by rw [← e0];exact hS) (by rw [← e0];exact hsr) e1 e2
  have g1:=aAr (y:=AObj.arr ver 1 x0 (eIs (A++P0++r::(Q0++(R'++B)))++tl)) hi
  have eb:A++P0++r::(Q0++(R'++B))=A++(P0++r::Q0)++R'++B:=by simp
  rw [eb] at g1 e
  have hlS:(P0++r::Q0).length=S.length+1:=by rw [e0];simp;omega
  obtain ⟨M,p1,p2,p3⟩:=ih m A (P0++r::Q0) R' B _ hR' (by omega) h1 (by rw [hlS];simp at h3;omega) (fun p hp=>by
    rcases Q8.1 hp with hp | hp
    ·exact hDS p (by rw [e0];simp [hp])
    ·rcases List.mem_cons.1 hp with rfl | hp
     ·exact hDR p (by simp)
     ·exact hDS p (by rw [e0];simp [hp])) (fun p hp=>hDR p (by simp [hp])) hS' (Q5.1 hRp).2 (fun s hs r' hr'=>by
    have hrr:=(Q5.1 hRp).1 r' hr'
    rcases Q8.1 hs with hp | hp
    ·exact hSR s (by rw [e0];simp [hp]) r' (by simp [hr'])
    ·rcases List.mem_cons.1 hp with rfl | hp
     ·exact hrr
     ·exact hSR s (by rw [e0];simp [hp]) r' (by simp [hr'])) (by rw [← eb,← h2,e0];simp;omega) (hC.keep _ _ hE) g1
  rw [set_set,hlS] at p3
  refine ⟨M,?_,p2,?_⟩
  ·refine p1.trans ?_
   rw [e0]
   have:List.Perm (P0++r::Q0) (P0++Q0++[r]):=by
    rw [List.append_assoc]
    exact List.Perm.append_left P0 (List.perm_append_comm (l₁:=[r]) (l₂:=Q0))
   have:=this.append_right R'
   simpa using this
  ·rw [← p3]
   simp only [aAj,aBJ,Zae,Zaf,Zag,Zah,Zai,Zaj,Zak,Zan,Zao,Zar,Zat,Zav,Zax,Zay,Zbc,Zbm,Zbo,Zbu,Zcz,Zda,Zdb,Zdf,Zdg,Zdh,Q3,Q4,Q1,Q2,Zdi,Zdl,decide_true,eq_self,h5,e,w1]
theorem aKa (hC:CmpOk i g caps K D E) (hn:n≤1000000000) (A M B:List Int) (h:aA0) (hD:∀ p ∈ M,D p) (hM:M.Pairwise (· < ·)) (hl:(A++M++B).length=n) (hE:E h) (hi:h[i]?=some (.arr ver 1 x0 (eIs (A++M++B)++tl))) :
  ∃ M',List.Perm M' M∧aAO K M'∧lim G0.cfg (.func 74) [.hsl i ver 0 n none,.int .i64 A.length,.int .i64 ((A.length+M.length:Nat):Int),.fn (.func g) [] caps] h=some (AV.un,h.set i (.arr ver 1 x0 (eIs (A++M'++B)++tl))):=by
 have hl':A.length+M.length+B.length=n:=by rw [← hl];simp;omega
 have w1:IntKind.i64.wrap ((A.length:Int)+1)=((A.length+1:Nat):Int):=by rw [w64 (by omega) (by omega)];omega
 cases M with
 | nil =>
  refine ⟨[],.refl _,.nil,aB3 rfl aCO (n+1) ?_⟩
  have h5:¬ (((A.length+1:Nat):Int) < ((A.length+0:Nat):Int)):=by omega
  rw [aBq hi]
  rw [aCN]
  simp only [Zaf,Zag,Zah,Zai,Zaj,Zak,Zal,Zan,Zao,Zap,Zat,Zaw,Zax,Zaz,Zbc,Zbm,Zbo,Zbu,Zcx,Zcz,Zda,Zdb,Zdf,Zdg,Zdh,Q3,Q4,Q1,Q2,Option.map_some,Zdi,Zdl,decide_false,Q6,Z0,Nat.reduceAdd,Nat.reduceSub,eq_self,and_true,Q6,Z0,List.replicate_succ,List.replicate_zero,List.cons_append,Q9,w1,aAj,aBJ,h5,aAa,aA8,Option.some.injEq,Prod.mk.injEq,and_true]
  rfl
 | cons s R =>
  obtain ⟨M',p1,p2,p3⟩:=aPh (ver:=ver) (x0:=x0) (tl:=tl) hC hn A.length (A.length+(R.length+1)) (n+1) (by omega) R.length (n+1) A [s] R B h rfl (by simp at hl';omega) rfl (by simp;omega) (fun p hp=>hD p (by simp at hp;simp [hp])) (fun p hp=>hD p (by simp [hp])) (List.pairwise_singleton _ _) (Q5.1 hM).2 (fun x hx r hr=>by rw [List.mem_singleton] at hx;subst hx;exact (Q5.1 hM).1 r hr) (by rw [← hl];simp) hE (by simpa using hi)
  refine ⟨M',by simpa using p1,p2,aB3 rfl aCO (n+1) ?_⟩
  rw [List.length_singleton] at p3
  rw [aCN]
  simp only [Zaf,Zag,Zai,Zaj,Zak,Zan,Zao,Zat,Zax,Zbc,Zbm,Zbo,Zbu,Zcx,Zcz,Zda,Zdb,Zdf,Zdg,Zdh,Q3,Q4,Q1,Q2,Option.map_some,Zdi,Q6,Z0,Nat.reduceAdd,Nat.reduceSub,eq_self,and_true,Q6,Z0,List.replicate_succ,List.replicate_zero,List.cons_append,Q9,w1,p3,aAa,aA8,Option.some.injEq,Prod.mk.injEq,and_true]
  rfl
end
end Go.Proofs.Ytgeedikghjcebaa.Ai
namespace Go.Proofs.Ytgeedikghjcebaa.Ai
open Go Go.Proofs
open AV renaming junk → J
open List renaming getD_cons_zero → Q0, getD_cons_succ → Q1, set_cons_zero → Q2, set_cons_succ → Q3
set_option linter.unusedVariables false
set_option linter.unusedSimpArgs false
set_option maxRecDepth 10000
set_option maxHeartbeats 4000000
theorem aER {s:Nat} (hs:s≤4000000000):aEv .u64 (.int .i64 (s:Int))=some (.int .u64 (s:Int)):=by
 have:IntKind.u64.wrap (s:Int)=s:=by
  have e:(2 ^ IntKind.u64.bits:Int)=18446744073709551616:=by decide
  have e2:IntKind.u64.signed=false:=rfl
  simp only [IntKind.wrap,e,e2,Bool.false_and]
  simp
  omega
 simp [aEv,this]
theorem aEQ (q:EqK) (s:Nat):aB6 .shr q (.int .u64 (s:Int)) (.int .u64 1)=some (.int .u64 ((s / 2:Nat):Int)):=by
 have:(s:Int).fdiv (2 ^ (min (1:Int).toNat 64))=((s / 2:Nat):Int):=by
  have e:(2:Int) ^ (min (1:Int).toNat 64)=((2:Nat):Int):=by decide
  rw [e,Int.fdiv_eq_ediv_of_nonneg _ (by omega)];omega
 simp only [aB6,aH2]
 simp [IntKind.bits] at this ⊢
 omega
theorem aEP {s:Nat} (hs:s≤4000000000):aEv .i64 (.int .u64 (s:Int))=some (.int .i64 (s:Int)):=by
 have:IntKind.i64.wrap (s:Int)=s:=w64 (by omega) (by omega)
 simp [aEv,this]
section
variable {i ver n : Nat} {x0 : Bool} {tl : List (List AV)} {g : Nat} {caps : List AV} {K : Int → Int} {D : Int → Prop} {E : aA0 → Prop}
theorem ldG {h:aA0} {l:List Int} (hi:h[i]?=some (.arr ver 1 x0 (eIs l++tl))) {j:Nat} (hj:j < l.length):aAb h 1 false (.ptr i ver j 0)=some (.int .i64 (l.getD j 0)):=by
 rw [ldI hi hj];simp [hj]
theorem aT7 (hC:CmpOk i g caps K D E) (hn:n≤1000000000) (l:List Int) (hl:l.length=n) (a lo hi':Nat) (ha:a < n) (hh:hi'≤n) (hDa:D (l.getD a 0)) (hD:∀ c,lo≤c→c < hi'→D (l.getD c 0)) (hmono:∀ c c',lo≤c→c≤c'→c' < hi'→K (l.getD c' 0) < K (l.getD a 0)→K (l.getD c 0) < K (l.getD a 0)) (N:Nat) (h:aA0) (hE:E h) (hi:h[i]?=some (.arr ver 1 x0 (eIs l++tl))) :
  ∀ (d m st r:Nat),r - st≤d→d < m→st≤r→lo≤st→r≤hi'→(∀ c,lo≤c→c < st→K (l.getD c 0) < K (l.getD a 0))→(∀ c,r≤c→c < hi'→¬ K (l.getD c 0) < K (l.getD a 0)) →
  ∃ s,lo≤s∧s≤hi'∧(∀ c,lo≤c→c < s→K (l.getD c 0) < K (l.getD a 0))∧(∀ c,s≤c→c < hi'→¬ K (l.getD c 0) < K (l.getD a 0)) ∧
   aAw (aA9 (lim G0.cfg) N aBf) m ⟨(.hsl i ver 0 n none::.int .i64 a::J::J::.fn (.func g) [] caps::J::J::J::J::J::.int .i64 st::.int .i64 r::J::J::J::J::J::J::J::J::J::J::J::J::J::J::J::J::J::J::J::J::J::J::J::J::J::J::J::J::J::J::J::J::J::J::J::J::J::J::J::J::J::J::J::J::J::J::J::J::J::J::J::J::J::J::J::J::J::J::J::J::J::J::J::J::J::J::J::J::J::J::J::J::J::J::J::J::J::J::J::J::J::J::J::J::J::J::J::J::J::J::J::J::J::J::J::J::J::J::J::J::J::J::J::J::J::J::J::J::J::J::J::J::J::J::J::J::J::J::J::J::J::J::J::J::J::J::J::J::J::J::J::J::J::J::J::J::J::J::J::J::J::J::J::J::J::J::J::J::J::J::J::J::J::J::J::J::J::J::J::J::J::J::J::J::J::J::J::J::J::J::J::J::J::J::J::J::J::J::J::J::J::J::J::J::J::J::J::J::J::J::J::J::J::J::J::J::J::J::J::J::J::J::J::J::J::J::J::J::[]),h⟩=some (.exit 0,⟨(.hsl i ver 0 n none::.int .i64 a::J::J::J::J::J::J::J::J::.int .i64 s::J::J::J::J::J::J::J::J::J::J::J::J::J::J::J::J::J::J::J::J::J::J::J::J::J::J::J::J::J::J::J::J::J::J::J::J::J::J::J::J::J::J::J::J::J::J::J::J::J::J::J::J::J::J::J::J::J::J::J::J::J::J::J::J::J::J::J::J::J::J::J::J::J::J::J::J::J::J::J::J::J::J::J::J::J::J::J::J::J::J::J::J::J::J::J::J::J::J::J::J::J::J::J::J::J::J::J::J::J::J::J::J::J::J::J::J::J::J::J::J::J::J::J::J::J::J::J::J::J::J::J::J::J::J::J::J::J::J::J::J::J::J::J::J::J::J::J::J::J::J::J::J::J::J::J::J::J::J::J::J::J::J::J::J::J::J::J::J::J::J::J::J::J::J::J::J::J::J::J::J::J::J::J::J::J::J::J::J::J::J::J::J::J::J::J::J::J::J::J::J::J::J::J::J::J::J::J::J::J::[]),h⟩):=by
 intro d
 induction d with
 | zero =>
  intro m st r h1 h2 h3 h4 h5 h6 h7
  obtain ⟨m,rfl⟩:∃ q,m=q+1:=⟨m - 1,by omega⟩
  have h8:¬ ((st:Int) < r):=by omega
  refine ⟨st,h4,by omega,h6,fun c hc=>h7 c (by omega),?_⟩
  simp only [aAj,aBx,Zaf,Zag,Zah,Zak,Zal,Zan,Zao,Zap,Zaw,Zaz,Zbc,Zbm,Zbo,Zbu,Zcz,Zdb,Zdf,Zdg,Zdh,Q2,Q3,Q0,Q1,Zdl,decide_false,eq_self,h8]
 | succ d ih =>
  intro m st r h1 h2 h3 h4 h5 h6 h7
  obtain ⟨m,rfl⟩:∃ q,m=q+1:=⟨m - 1,by omega⟩
  by_cases h8:(st:Int) < r
  case neg =>
   refine ⟨st,h4,by omega,h6,fun c hc=>h7 c (by omega),?_⟩
   simp only [aAj,aBx,Zaf,Zag,Zah,Zak,Zal,Zan,Zao,Zap,Zaw,Zaz,Zbc,Zbm,Zbo,Zbu,Zcz,Zdb,Zdf,Zdg,Zdh,Q2,Q3,Q0,Q1,Zdl,decide_false,eq_self,h8]
  case pos =>
  obtain ⟨c,hc⟩:∃ c,c=(st+r) / 2:=⟨_,rfl⟩
  have w1:IntKind.i64.wrap ((st:Int)+r)=((st+r:Nat):Int):=by rw [w64 (by omega) (by omega)];omega
  have a1:=aER (s:=st+r) (by omega)
  have a2:=fun q=>aEQ q (st+r)
  rw [← hc] at a2
  have a3:=aEP (s:=c) (by omega)
  have y1:=aBM (n:=n) (c:=none) hi (k:=.i64) (j:=c) (by omega)
  have y2:=aBM (n:=n) (c:=none) hi (k:=.i64) (j:=a) ha
  have l1:=ldG hi (j:=c) (by omega)
  have l2:=ldG hi (j:=a) (by omega)
  obtain ⟨v,hv,hvK⟩:=hC.run _ _ h (hD c (by omega) (by omega)) hDa hE
  have w2:IntKind.i64.wrap ((c:Int)+1)=((c+1:Nat):Int):=by rw [w64 (by omega) (by omega)];omega
  by_cases q:v < 0
  case pos =>
   obtain ⟨s,e1,e2,e3,e4,e⟩:=ih m (c+1) r (by omega) (by omega) (by omega) (by omega) h5 (fun c' hc' hc2=>hmono c' c hc' (by omega) (by omega) (hvK.1 q)) h7
   refine ⟨s,e1,e2,e3,e4,?_⟩
   rw [← e]
   simp only [aAj,aBx,Zae,Zaf,Zag,Zah,Zai,Zak,Zan,Zao,Zar,Zav,Zay,Zbc,Zbd,Zbm,Zbo,Zbs,Zbu,Zbw,Zcf,Zct,Zcu,Zcz,Zda,Zdb,Zdd,Zde,Zdf,Zdg,Zdh,Q2,Q3,Q0,Q1,Zdi,Zdl,decide_true,eq_self,h8,w1,a1,a2,a3,y1,y2,l1,l2,hv,q,w2]
  case neg =>
   obtain ⟨s,e1,e2,e3,e4,e⟩:=ih m st c (by omega) (by omega) (by omega) h4 (by omega) h6 (fun c' hc' hc2 hK=>q (hvK.2 (hmono c c' (by omega) hc' hc2 hK)))
   refine ⟨s,e1,e2,e3,e4,?_⟩
   rw [← e]
   simp only [aAj,aBx,Zae,Zaf,Zag,Zah,Zai,Zak,Zan,Zao,Zar,Zav,Zaw,Zay,Zbc,Zbd,Zbm,Zbo,Zbs,Zbu,Zbw,Zcf,Zct,Zcu,Zcz,Zda,Zdb,Zdd,Zde,Zdf,Zdg,Zdh,Q2,Q3,Q0,Q1,Zdi,Zdl,decide_true,decide_false,eq_self,h8,w1,a1,a2,a3,y1,y2,l1,l2,hv,q]
theorem aT6 (hC:CmpOk i g caps K D E) (hn:n≤1000000000) (l:List Int) (hl:l.length=n) (p lo hi':Nat) (ha:p < n) (hh:hi'≤n) (hDa:D (l.getD p 0)) (hD:∀ c,lo≤c→c < hi'→D (l.getD c 0)) (hmono:∀ c c',lo≤c→c≤c'→c' < hi'→K (l.getD p 0) < K (l.getD c 0)→K (l.getD p 0) < K (l.getD c' 0)) (N:Nat) (h:aA0) (hE:E h) (hi:h[i]?=some (.arr ver 1 x0 (eIs l++tl))) :
  ∀ (d m st r:Nat),r - st≤d→d < m→st≤r→lo≤st→r≤hi'→(∀ c,lo≤c→c < st→¬ K (l.getD p 0) < K (l.getD c 0))→(∀ c,r≤c→c < hi'→K (l.getD p 0) < K (l.getD c 0)) →
  ∃ s,lo≤s∧s≤hi'∧(∀ c,lo≤c→c < s→¬ K (l.getD p 0) < K (l.getD c 0))∧(∀ c,s≤c→c < hi'→K (l.getD p 0) < K (l.getD c 0)) ∧
   aAw (aA9 (lim G0.cfg) N aBd) m ⟨(.hsl i ver 0 n none::J::.int .i64 p::J::.fn (.func g) [] caps::J::J::J::J::J::J::J::J::J::.int .i64 st::.int .i64 r::J::J::J::J::J::J::J::J::J::J::J::J::J::J::J::J::J::J::J::J::J::J::J::J::J::J::J::J::J::J::J::J::J::J::J::J::J::J::J::J::J::J::J::J::J::J::J::J::J::J::J::J::J::J::J::J::J::J::J::J::J::J::J::J::J::J::J::J::J::J::J::J::J::J::J::J::J::J::J::J::J::J::J::J::J::J::J::J::J::J::J::J::J::J::J::J::J::J::J::J::J::J::J::J::J::J::J::J::J::J::J::J::J::J::J::J::J::J::J::J::J::J::J::J::J::J::J::J::J::J::J::J::J::J::J::J::J::J::J::J::J::J::J::J::J::J::J::J::J::J::J::J::J::J::J::J::J::J::J::J::J::J::J::J::J::J::J::J::J::J::J::J::J::J::J::J::J::J::J::J::J::J::J::J::J::J::J::J::J::J::J::J::J::J::J::J::J::J::J::J::J::J::J::J::[]),h⟩=some (.exit 4,⟨(.hsl i ver 0 n none::J::.int .i64 p::J::J::J::J::J::J::J::J::J::J::J::.int .i64 s::J::J::J::J::J::J::J::J::J::J::J::J::J::J::J::J::J::J::J::J::J::J::J::J::J::J::J::J::J::J::J::J::J::J::J::J::J::J::J::J::J::J::J::J::J::J::J::J::J::J::J::J::J::J::J::J::J::J::J::J::J::J::J::J::J::J::J::J::J::J::J::J::J::J::J::J::J::J::J::J::J::J::J::J::J::J::J::J::J::J::J::J::J::J::J::J::J::J::J::J::J::J::J::J::J::J::J::J::J::J::J::J::J::J::J::J::J::J::J::J::J::J::J::J::J::J::J::J::J::J::J::J::J::J::J::J::J::J::J::J::J::J::J::J::J::J::J::J::J::J::J::J::J::J::J::J::J::J::J::J::J::J::J::J::J::J::J::J::J::J::J::J::J::J::J::J::J::J::J::J::J::J::J::J::J::J::J::J::J::J::J::J::J::J::J::J::J::J::J::J::J::J::J::J::J::[]),h⟩):=by
 intro d
 induction d with
 | zero =>
  intro m st r h1 h2 h3 h4 h5 h6 h7
  obtain ⟨m,rfl⟩:∃ q,m=q+1:=⟨m - 1,by omega⟩
  have h8:¬ ((st:Int) < r):=by omega
  refine ⟨st,h4,by omega,h6,fun c hc=>h7 c (by omega),?_⟩
  simp only [aAj,aBw,Zaf,Zag,Zah,Zak,Zal,Zan,Zao,Zap,Zaw,Zaz,Zbc,Zbm,Zbo,Zbu,Zcz,Zdb,Zdf,Zdg,Zdh,Q2,Q3,Q0,Q1,Zdl,decide_false,eq_self,h8]
 | succ d ih =>
  intro m st r h1 h2 h3 h4 h5 h6 h7
  obtain ⟨m,rfl⟩:∃ q,m=q+1:=⟨m - 1,by omega⟩
  by_cases h8:(st:Int) < r
  case neg =>
   refine ⟨st,h4,by omega,h6,fun c hc=>h7 c (by omega),?_⟩
   simp only [aAj,aBw,Zaf,Zag,Zah,Zak,Zal,Zan,Zao,Zap,Zaw,Zaz,Zbc,Zbm,Zbo,Zbu,Zcz,Zdb,Zdf,Zdg,Zdh,Q2,Q3,Q0,Q1,Zdl,decide_false,eq_self,h8]
  case pos =>
  obtain ⟨c,hc⟩:∃ c,c=(st+r) / 2:=⟨_,rfl⟩
  have w1:IntKind.i64.wrap ((st:Int)+r)=((st+r:Nat):Int):=by rw [w64 (by omega) (by omega)];omega
  have a1:=aER (s:=st+r) (by omega)
  have a2:=fun q=>aEQ q (st+r)
  rw [← hc] at a2
  have a3:=aEP (s:=c) (by omega)
  have y1:=aBM (n:=n) (c:=none) hi (k:=.i64) (j:=c) (by omega)
  have y2:=aBM (n:=n) (c:=none) hi (k:=.i64) (j:=p) ha
  have l1:=ldG hi (j:=c) (by omega)
  have l2:=ldG hi (j:=p) (by omega)
  obtain ⟨v,hv,hvK⟩:=hC.run _ _ h hDa (hD c (by omega) (by omega)) hE
  have w2:IntKind.i64.wrap ((c:Int)+1)=((c+1:Nat):Int):=by rw [w64 (by omega) (by omega)];omega
  by_cases q:v < 0
  case neg =>
   obtain ⟨s,e1,e2,e3,e4,e⟩:=ih m (c+1) r (by omega) (by omega) (by omega) (by omega) h5 (fun c' hc' hc2 hK=>q (hvK.2 (hmono c' c hc' (by omega) (by omega) hK))) h7
   refine ⟨s,e1,e2,e3,e4,?_⟩
   rw [← e]
   simp only [aAj,aBw,Zae,Zaf,Zag,Zah,Zai,Zak,Zan,Zao,Zar,Zav,Zay,Zbc,Zbd,Zbm,Zbo,Zbs,Zbu,Zbv,Zbw,Zcf,Zct,Zcu,Zcz,Zda,Zdb,Zdd,Zde,Zdf,Zdg,Zdh,Q2,Q3,Q0,Q1,Zdi,Zdl,Zdv,decide_true,decide_false,Bool.not_false,eq_self,h8,w1,a1,a2,a3,y1,y2,l1,l2,hv,q,w2]
  case pos =>
   obtain ⟨s,e1,e2,e3,e4,e⟩:=ih m st c (by omega) (by omega) (by omega) h4 (by omega) h6 (fun c' hc' hc2=>hmono c c' (by omega) hc' hc2 (hvK.1 q))
   refine ⟨s,e1,e2,e3,e4,?_⟩
   rw [← e]
   simp only [aAj,aBw,Zae,Zaf,Zag,Zah,Zai,Zak,Zan,Zao,Zar,Zav,Zaw,Zay,Zbc,Zbd,Zbm,Zbo,Zbs,Zbu,Zbv,Zbw,Zcf,Zct,Zcu,Zcz,Zda,Zdb,Zdd,Zde,Zdf,Zdg,Zdh,Q2,Q3,Q0,Q1,Zdi,Zdl,Zdv,decide_true,Bool.not_true,eq_self,h8,w1,a1,a2,a3,y1,y2,l1,l2,hv,q]
theorem aT5 (hC:CmpOk i g caps K D E) (hn:n≤1000000000) (l:List Int) (hl:l.length=n) (v1 v2 v3 v18 v19:AV) (p lo hi':Nat) (hp:hi'≤p+1) (hp2:p < lo+n) (hh:hi'≤n) (hD1:∀ c,lo≤c→c < hi'→D (l.getD c 0)) (hD2:∀ c,lo≤c→c < hi'→D (l.getD (p - c) 0)) (hmono:∀ c c',lo≤c→c≤c'→c' < hi'→K (l.getD (p - c) 0) < K (l.getD c 0)→K (l.getD (p - c') 0) < K (l.getD c' 0)) (N:Nat) (h:aA0) (hE:E h) (hi:h[i]?=some (.arr ver 1 x0 (eIs l++tl))) :
  ∀ (d m st r:Nat),r - st≤d→d < m→st≤r→lo≤st→r≤hi'→(∀ c,lo≤c→c < st→¬ K (l.getD (p - c) 0) < K (l.getD c 0))→(∀ c,r≤c→c < hi'→K (l.getD (p - c) 0) < K (l.getD c 0)) →
  ∃ s,lo≤s∧s≤hi'∧(∀ c,lo≤c→c < s→¬ K (l.getD (p - c) 0) < K (l.getD c 0))∧(∀ c,s≤c→c < hi'→K (l.getD (p - c) 0) < K (l.getD c 0)) ∧
   aAw (aA9 (lim G0.cfg) N aB0) m ⟨(.hsl i ver 0 n none::v1::v2::v3::.fn (.func g) [] caps::J::J::J::J::J::J::J::J::J::J::J::J::J::v18::v19::.int .i64 st::.int .i64 r::.int .i64 p::J::J::J::J::J::J::J::J::J::J::J::J::J::J::J::J::J::J::J::J::J::J::J::J::J::J::J::J::J::J::J::J::J::J::J::J::J::J::J::J::J::J::J::J::J::J::J::J::J::J::J::J::J::J::J::J::J::J::J::J::J::J::J::J::J::J::J::J::J::J::J::J::J::J::J::J::J::J::J::J::J::J::J::J::J::J::J::J::J::J::J::J::J::J::J::J::J::J::J::J::J::J::J::J::J::J::J::J::J::J::J::J::J::J::J::J::J::J::J::J::J::J::J::J::J::J::J::J::J::J::J::J::J::J::J::J::J::J::J::J::J::J::J::J::J::J::J::J::J::J::J::J::J::J::J::J::J::J::J::J::J::J::J::J::J::J::J::J::J::J::J::J::J::J::J::J::J::J::J::J::J::J::J::J::J::J::J::J::J::J::J::J::J::J::J::J::J::[]),h⟩=some (.exit 8,⟨(.hsl i ver 0 n none::v1::v2::v3::.fn (.func g) [] caps::J::J::J::J::J::J::J::J::J::J::J::J::J::v18::v19::.int .i64 s::J::J::J::J::J::J::J::J::J::J::J::J::J::J::J::J::J::J::J::J::J::J::J::J::J::J::J::J::J::J::J::J::J::J::J::J::J::J::J::J::J::J::J::J::J::J::J::J::J::J::J::J::J::J::J::J::J::J::J::J::J::J::J::J::J::J::J::J::J::J::J::J::J::J::J::J::J::J::J::J::J::J::J::J::J::J::J::J::J::J::J::J::J::J::J::J::J::J::J::J::J::J::J::J::J::J::J::J::J::J::J::J::J::J::J::J::J::J::J::J::J::J::J::J::J::J::J::J::J::J::J::J::J::J::J::J::J::J::J::J::J::J::J::J::J::J::J::J::J::J::J::J::J::J::J::J::J::J::J::J::J::J::J::J::J::J::J::J::J::J::J::J::J::J::J::J::J::J::J::J::J::J::J::J::J::J::J::J::J::J::J::J::J::J::J::J::J::J::J::[]),h⟩):=by
 intro d
 induction d with
 | zero =>
  intro m st r h1 h2 h3 h4 h5 h6 h7
  obtain ⟨m,rfl⟩:∃ q,m=q+1:=⟨m - 1,by omega⟩
  have h8:¬ ((st:Int) < r):=by omega
  refine ⟨st,h4,by omega,h6,fun c hc=>h7 c (by omega),?_⟩
  simp only [aAj,aBv,Zaf,Zag,Zah,Zak,Zal,Zan,Zao,Zap,Zaw,Zaz,Zbc,Zbm,Zbo,Zbu,Zcz,Zdb,Zdf,Zdg,Zdh,Q2,Q3,Q0,Q1,Zdl,decide_false,eq_self,h8]
 | succ d ih =>
  intro m st r h1 h2 h3 h4 h5 h6 h7
  obtain ⟨m,rfl⟩:∃ q,m=q+1:=⟨m - 1,by omega⟩
  by_cases h8:(st:Int) < r
  case neg =>
   refine ⟨st,h4,by omega,h6,fun c hc=>h7 c (by omega),?_⟩
   simp only [aAj,aBv,Zaf,Zag,Zah,Zak,Zal,Zan,Zao,Zap,Zaw,Zaz,Zbc,Zbm,Zbo,Zbu,Zcz,Zdb,Zdf,Zdg,Zdh,Q2,Q3,Q0,Q1,Zdl,decide_false,eq_self,h8]
  case pos =>
  obtain ⟨c,hc⟩:∃ c,c=(st+r) / 2:=⟨_,rfl⟩
  have w1:IntKind.i64.wrap ((st:Int)+r)=((st+r:Nat):Int):=by rw [w64 (by omega) (by omega)];omega
  have w3:IntKind.i64.wrap ((p:Int) - c)=((p - c:Nat):Int):=by rw [w64 (by omega) (by omega)];omega
  have a1:=aER (s:=st+r) (by omega)
  have a2:=fun q=>aEQ q (st+r)
  rw [← hc] at a2
  have a3:=aEP (s:=c) (by omega)
  have y1:=aBM (n:=n) (c:=none) hi (k:=.i64) (j:=c) (by omega)
  have y2:=aBM (n:=n) (c:=none) hi (k:=.i64) (j:=p - c) (by omega)
  have l1:=ldG hi (j:=c) (by omega)
  have l2:=ldG hi (j:=p - c) (by omega)
  obtain ⟨v,hv,hvK⟩:=hC.run _ _ h (hD2 c (by omega) (by omega)) (hD1 c (by omega) (by omega)) hE
  have w2:IntKind.i64.wrap ((c:Int)+1)=((c+1:Nat):Int):=by rw [w64 (by omega) (by omega)];omega
  by_cases q:v < 0
  case neg =>
   obtain ⟨s,e1,e2,e3,e4,e⟩:=ih m (c+1) r (by omega) (by omega) (by omega) (by omega) h5 (fun c' hc' hc2 hK=>q (hvK.2 (hmono c' c hc' (by omega) (by omega) hK))) h7
   refine ⟨s,e1,e2,e3,e4,?_⟩
   rw [← e]
   simp only [aAj,aBv,Zae,Zaf,Zag,Zah,Zai,Zak,Zan,Zao,Zar,Zav,Zay,Zbc,Zbd,Zbm,Zbo,Zbs,Zbu,Zbv,Zbw,Zcf,Zct,Zcu,Zcz,Zda,Zdb,Zdd,Zde,Zdf,Zdg,Zdh,Q2,Q3,Q0,Q1,Zdi,Zdj,Zdl,Zdv,decide_true,decide_false,Bool.not_false,eq_self,h8,w1,w3,a1,a2,a3,y1,y2,l1,l2,hv,q,w2]
  case pos =>
   obtain ⟨s,e1,e2,e3,e4,e⟩:=ih m st c (by omega) (by omega) (by omega) h4 (by omega) h6 (fun c' hc' hc2=>hmono c c' (by omega) hc' hc2 (hvK.1 q))
   refine ⟨s,e1,e2,e3,e4,?_⟩
   rw [← e]
   simp only [aAj,aBv,Zae,Zaf,Zag,Zah,Zai,Zak,Zan,Zao,Zar,Zav,Zaw,Zay,Zbc,Zbd,Zbm,Zbo,Zbs,Zbu,Zbv,Zbw,Zcf,Zct,Zcu,Zcz,Zda,Zdb,Zdd,Zde,Zdf,Zdg,Zdh,Q2,Q3,Q0,Q1,Zdi,Zdj,Zdl,Zdv,decide_true,Bool.not_true,eq_self,h8,w1,w3,a1,a2,a3,y1,y2,l1,l2,hv,q]
theorem aRP (A Q:List Int) (x y:Int):((A++x::y::Q).set A.length y).set (A.length+1) x=A++y::x::Q:=by
 have e:(A++x::y::Q).set A.length y=A++y::y::Q:=by simp [List.set_append_right]
 rw [e];simp [List.set_append_right]
theorem aSb (hn:n≤1000000000) (N e:Nat) (x:Int):∀ (R:List Int) (m:Nat) (A C:List Int) (h:aA0),R.length < m→A.length+R.length+1=e→(A++x::(R++C)).length=n→h[i]?=some (.arr ver 1 x0 (eIs (A++x::(R++C))++tl)) →
  aAw (aA9 (lim G0.cfg) N aBe) m ⟨(.hsl i ver 0 n none::J::J::J::J::J::J::J::J::J::.int .i64 e::J::J::.int .i64 A.length::J::J::J::J::J::J::J::J::J::J::J::J::J::J::J::J::J::J::J::J::J::J::J::J::J::J::J::J::J::J::J::J::J::J::J::J::J::J::J::J::J::J::J::J::J::J::J::J::J::J::J::J::J::J::J::J::J::J::J::J::J::J::J::J::J::J::J::J::J::J::J::J::J::J::J::J::J::J::J::J::J::J::J::J::J::J::J::J::J::J::J::J::J::J::J::J::J::J::J::J::J::J::J::J::J::J::J::J::J::J::J::J::J::J::J::J::J::J::J::J::J::J::J::J::J::J::J::J::J::J::J::J::J::J::J::J::J::J::J::J::J::J::J::J::J::J::J::J::J::J::J::J::J::J::J::J::J::J::J::J::J::J::J::J::J::J::J::J::J::J::J::J::J::J::J::J::J::J::J::J::J::J::J::J::J::J::J::J::J::J::J::J::J::J::J::J::J::J::J::J::J::J::J::J::J::J::[]),h⟩=some (.exit 2,⟨(J::J::J::J::J::J::J::J::J::J::J::J::J::J::J::J::J::J::J::J::J::J::J::J::J::J::J::J::J::J::J::J::J::J::J::J::J::J::J::J::J::J::J::J::J::J::J::J::J::J::J::J::J::J::J::J::J::J::J::J::J::J::J::J::J::J::J::J::J::J::J::J::J::J::J::J::J::J::J::J::J::J::J::J::J::J::J::J::J::J::J::J::J::J::J::J::J::J::J::J::J::J::J::J::J::J::J::J::J::J::J::J::J::J::J::J::J::J::J::J::J::J::J::J::J::J::J::J::J::J::J::J::J::J::J::J::J::J::J::J::J::J::J::J::J::J::J::J::J::J::J::J::J::J::J::J::J::J::J::J::J::J::J::J::J::J::J::J::J::J::J::J::J::J::J::J::J::J::J::J::J::J::J::J::J::J::J::J::J::J::J::J::J::J::J::J::J::J::J::J::J::J::J::J::J::J::J::J::J::J::J::J::J::J::J::J::J::J::J::J::[]),h.set i (.arr ver 1 x0 (eIs (A++R++x::C)++tl))⟩):=by
 intro R
 induction R with
 | nil =>
  intro m A C h hm h1 h2 hi
  obtain ⟨m,rfl⟩:∃ q,m=q+1:=⟨m - 1,by omega⟩
  simp only [List.length_append,List.length_cons,List.length_nil] at h1 h2
  have w1:IntKind.i64.wrap ((e:Int) - 1)=((A.length:Nat):Int):=by rw [w64 (by omega) (by omega)];omega
  have h8:¬ ((A.length:Int) < ((A.length:Nat):Int)):=by omega
  rw [List.nil_append] at hi
  rw [List.append_nil,aBq hi]
  simp only [aAj,aCY,Zaf,Zag,Zah,Zak,Zal,Zan,Zao,Zap,Zaw,Zaz,Zbc,Zbm,Zbo,Zbu,Zcz,Zda,Zdb,Zdg,Zdh,Q2,Q3,Q0,Q1,Zdj,Zdl,decide_false,eq_self,w1,h8]
 | cons y R ih =>
  intro m A C h hm h1 h2 hi
  obtain ⟨m,rfl⟩:∃ q,m=q+1:=⟨m - 1,by omega⟩
  have hl:=h2
  simp only [List.length_append,List.length_cons] at h1 hl hm
  have w1:IntKind.i64.wrap ((e:Int) - 1)=((A.length+R.length+1:Nat):Int):=by rw [w64 (by omega) (by omega)];omega
  have h8:(A.length:Int) < ((A.length+R.length+1:Nat):Int):=by omega
  have w2:IntKind.i64.wrap ((A.length:Int)+1)=((A.length+1:Nat):Int):=by rw [w64 (by omega) (by omega)];omega
  have ea:A++x::(y::R++C)=A++x::y::(R++C):=by simp
  rw [ea] at hi h2
  have y1:=aBM (n:=n) (c:=none) hi (k:=.i64) (j:=A.length+1) (by omega)
  have y2:=aBM (n:=n) (c:=none) hi (k:=.i64) (j:=A.length) (by omega)
  have l1:=ldI hi (j:=A.length+1) (by omega)
  rw [aM8] at l1
  have l2:=ldI hi (j:=A.length) (by omega)
  rw [aM9] at l2
  have s1:=stI hi (j:=A.length) (by omega) y
  have g1:=aAr (y:=AObj.arr ver 1 x0 (eIs ((A++x::y::(R++C)).set A.length y)++tl)) hi
  have y3:=aBM (n:=n) (c:=none) g1 (k:=.i64) (j:=A.length+1) (by omega)
  have s2:=stI g1 (j:=A.length+1) (by rw [List.length_set];omega) x
  rw [aRP,set_set] at s2
  have g2:=aAr (y:=AObj.arr ver 1 x0 (eIs ((A++[y])++x::(R++C))++tl)) hi
  have eb:A++[y]++x::(R++C)=A++y::x::(R++C):=by simp
  have e3:=ih m (A++[y]) C _ (by omega) (by simp;omega) (by rw [eb,← h2];simp) g2
  rw [set_set,eb] at e3
  have ec:A++[y]++R++x::C=A++y::R++x::C:=by simp
  have ed:(A++[y]).length=A.length+1:=by simp
  rw [ec,ed] at e3
  rw [← e3]
  simp only [aAj,aCY,Zae,Zaf,Zag,Zah,Zai,Zak,Zan,Zao,Zar,Zav,Zay,Zbc,Zbe,Zbm,Zbo,Zbs,Zbt,Zbu,Zcf,Zcz,Zda,Zdb,Zdc,Zdf,Zdg,Zdh,Q2,Q3,Q0,Q1,Zdi,Zdj,Zdl,decide_true,eq_self,h8,w1,w2,y1,y2,y3,l1,l2,s1,s2]
theorem aQc (hn:n≤1000000000) (N:Nat) (y:Int) (A:List Int):∀ (k m:Nat) (L C:List Int) (h:aA0),L.length=k→k < m→(A++L++y::C).length=n→h[i]?=some (.arr ver 1 x0 (eIs (A++L++y::C)++tl)) →
  aAw (aA9 (lim G0.cfg) N aBc) m ⟨(.hsl i ver 0 n none::J::J::J::J::J::J::J::J::J::J::J::J::J::.int .i64 A.length::J::J::.int .i64 ((A.length+k:Nat):Int)::J::J::J::J::J::J::J::J::J::J::J::J::J::J::J::J::J::J::J::J::J::J::J::J::J::J::J::J::J::J::J::J::J::J::J::J::J::J::J::J::J::J::J::J::J::J::J::J::J::J::J::J::J::J::J::J::J::J::J::J::J::J::J::J::J::J::J::J::J::J::J::J::J::J::J::J::J::J::J::J::J::J::J::J::J::J::J::J::J::J::J::J::J::J::J::J::J::J::J::J::J::J::J::J::J::J::J::J::J::J::J::J::J::J::J::J::J::J::J::J::J::J::J::J::J::J::J::J::J::J::J::J::J::J::J::J::J::J::J::J::J::J::J::J::J::J::J::J::J::J::J::J::J::J::J::J::J::J::J::J::J::J::J::J::J::J::J::J::J::J::J::J::J::J::J::J::J::J::J::J::J::J::J::J::J::J::J::J::J::J::J::J::J::J::J::J::J::J::J::J::J::J::[]),h⟩=some (.exit 6,⟨(J::J::J::J::J::J::J::J::J::J::J::J::J::J::J::J::J::J::J::J::J::J::J::J::J::J::J::J::J::J::J::J::J::J::J::J::J::J::J::J::J::J::J::J::J::J::J::J::J::J::J::J::J::J::J::J::J::J::J::J::J::J::J::J::J::J::J::J::J::J::J::J::J::J::J::J::J::J::J::J::J::J::J::J::J::J::J::J::J::J::J::J::J::J::J::J::J::J::J::J::J::J::J::J::J::J::J::J::J::J::J::J::J::J::J::J::J::J::J::J::J::J::J::J::J::J::J::J::J::J::J::J::J::J::J::J::J::J::J::J::J::J::J::J::J::J::J::J::J::J::J::J::J::J::J::J::J::J::J::J::J::J::J::J::J::J::J::J::J::J::J::J::J::J::J::J::J::J::J::J::J::J::J::J::J::J::J::J::J::J::J::J::J::J::J::J::J::J::J::J::J::J::J::J::J::J::J::J::J::J::J::J::J::J::J::J::J::J::J::J::[]),h.set i (.arr ver 1 x0 (eIs (A++y::(L++C))++tl))⟩):=by
 intro k
 induction k with
 | zero =>
  intro m L C h hk hm h2 hi
  obtain ⟨m,rfl⟩:∃ q,m=q+1:=⟨m - 1,by omega⟩
  have:L=[]:=List.length_eq_zero_iff.1 hk
  subst this
  have h8:¬ ((A.length:Int) < ((A.length+0:Nat):Int)):=by omega
  rw [List.append_nil] at hi
  rw [List.nil_append,aBq hi]
  simp only [aAj,aCX,Zaf,Zag,Zah,Zak,Zal,Zan,Zao,Zap,Zaw,Zaz,Zbc,Zbm,Zbo,Zbu,Zcz,Zdb,Zdg,Zdh,Q2,Q3,Q0,Q1,Zdn,decide_false,eq_self,h8]
 | succ k ih =>
  intro m L C h hk hm h2 hi
  obtain ⟨m,rfl⟩:∃ q,m=q+1:=⟨m - 1,by omega⟩
  have hne:L≠[]:=fun e=>by subst e;simp at hk
  obtain ⟨L',z,rfl⟩:∃ P' p,L=P'++[p]:=⟨L.dropLast,L.getLast hne,(List.dropLast_concat_getLast hne).symm⟩
  have hL':L'.length=k:=by simpa using hk
  have ea:A++(L'++[z])++y::C=(A++L')++z::y::C:=by simp
  rw [ea] at h2 hi
  have hl:(A++L').length=A.length+k:=by simp;omega
  have hjn:(A++L').length+1 < n:=by rw [← h2];simp;omega
  have ej:((A.length+(k+1):Nat):Int)=(((A++L').length+1:Nat):Int):=by rw [hl];omega
  have h8:(A.length:Int) < (((A++L').length+1:Nat):Int):=by rw [hl];omega
  have w1:IntKind.i64.wrap ((((A++L').length+1:Nat):Int) - 1)=(((A++L').length:Nat):Int):=by rw [w64 (by omega) (by omega)];omega
  have y1:=aBM (n:=n) (c:=none) hi (k:=.i64) (j:=(A++L').length+1) hjn
  have y2:=aBM (n:=n) (c:=none) hi (k:=.i64) (j:=(A++L').length) (by omega)
  have l1:=ldI hi (j:=(A++L').length+1) (by omega)
  rw [aM8] at l1
  have l2:=ldI hi (j:=(A++L').length) (by omega)
  rw [aM9] at l2
  have s1:=stI hi (j:=(A++L').length+1) (by omega) z
  have g1:=aAr (y:=AObj.arr ver 1 x0 (eIs ((A++L'++z::y::C).set ((A++L').length+1) z)++tl)) hi
  have y3:=aBM (n:=n) (c:=none) g1 (k:=.i64) (j:=(A++L').length) (by omega)
  have s2:=stI g1 (j:=(A++L').length) (by rw [List.length_set];omega) y
  rw [aOy,set_set] at s2
  have g2:=aAr (y:=AObj.arr ver 1 x0 (eIs (A++L'++y::(z::C))++tl)) hi
  have e:=ih m L' (z::C) _ hL' (by omega) (by rw [← h2];simp) g2
  rw [set_set,← hl] at e
  have e3:A++y::(L'++[z]++C)=A++y::(L'++z::C):=by simp
  rw [e3,← e,ej]
  simp only [aAj,aCX,Zae,Zaf,Zag,Zah,Zai,Zak,Zan,Zao,Zar,Zav,Zay,Zbc,Zbe,Zbm,Zbo,Zbs,Zbt,Zbu,Zcf,Zcz,Zda,Zdb,Zdc,Zdf,Zdg,Zdh,Q2,Q3,Q0,Q1,Zdj,Zdn,decide_true,eq_self,h8,w1,y1,y2,y3,l1,l2,s1,s2]
end
end Go.Proofs.Ytgeedikghjcebaa.Ai
