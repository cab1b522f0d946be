/- slices.SortStableFunc over numbers: symMerge merges. -/
import Derived.Test.YtgeedikghjcebaamPs4
import Derived.Test.YtgeedikghjcebaamXB
import Derived.Test.YtgeedikghjcebaamXA
namespace Go.Proofs.Ytgeedikghjcebaa.Ai
open Go Go.Proofs
open List renaming append_assoc → Q0, pairwise_append → Q1, length_eq_zero_iff → Q2, length_append → Q3, mem_of_mem_drop → Q4, mem_of_mem_take → Q5, take_append_drop → Q6, nil_append → Q7, length_take → Q8, length_cons → Q9, length_nil → Z0, length_pos_iff → Z1
set_option linter.unusedVariables false
set_option linter.unusedSimpArgs false
set_option maxRecDepth 10000
set_option maxHeartbeats 4000000
theorem aQ9 (A L C:List Int) (q:Nat) (h:q < L.length):(A++L++C).getD (A.length+q) 0=L.getD q 0:=by
 simp only [List.getD_eq_getElem?_getD]
 rw [Q0,List.getElem?_append_right (by omega),Nat.add_sub_cancel_left,List.getElem?_append_left h]
theorem aSZ (A L R B:List Int) (q:Nat) (h:q < R.length):(A++L++R++B).getD (A.length+L.length+q) 0=R.getD q 0:=by
 have:=aQ9 (A++L) R B q h
 rw [Q3] at this
 exact this
theorem aIo {L:List Int} {q:Nat} (h:q < L.length):L.getD q 0 ∈ L:=by
 simp [h]
theorem aFH {L:List Int} {k:Nat} {x:Int} (h:x ∈ L.take k):∃ q,q < k∧q < L.length∧L.getD q 0=x:=by
 obtain ⟨q,hq,rfl⟩:=List.mem_take_iff_getElem.1 h
 exact ⟨q,by omega,by omega,by simp [show q < L.length by omega]⟩
theorem aFI {L:List Int} {k:Nat} {x:Int} (h:x ∈ L.drop k):∃ q,k≤q∧q < L.length∧L.getD q 0=x:=by
 obtain ⟨q,hq,rfl⟩:=List.mem_drop_iff_getElem.1 h
 exact ⟨k+q,by omega,by omega,by simp [show k+q < L.length by omega]⟩
theorem aAO.mono {K:Int→Int} {L:List Int} (hs:aAO K L) {p q:Nat} (hpq:p≤q) (hq:q < L.length):K (L.getD p 0)≤K (L.getD q 0):=by
 rcases Nat.lt_or_eq_of_le hpq with h | rfl
 ·have:=(List.pairwise_iff_getElem.1 hs) p q (by omega) hq h
  have e1:L.getD p 0=L[p]:=by simp [show p < L.length by omega]
  have e2:L.getD q 0=L[q]:=by simp [hq]
  rw [e1,e2];exact this.le
 ·exact Int.le_refl _
theorem aAO.take {K:Int→Int} {L:List Int} (hs:aAO K L) (k:Nat):aAO K (L.take k):=List.Pairwise.sublist (List.take_sublist k L) hs
theorem aAO.drop {K:Int→Int} {L:List Int} (hs:aAO K L) (k:Nat):aAO K (L.drop k):=List.Pairwise.sublist (List.drop_sublist k L) hs
section
variable {i ver n : Nat} {x0 : Bool} {tl : List (List AV)} {g : Nat} {caps : List AV} {K : Int → Int} {D : Int → Prop} {E : aA0 → Prop}
theorem aLj (hC:CmpOk i g caps K D E) (hn:n≤1000000000):∀ (sz:Nat) (A L R B:List Int) (h:aA0),L.length+R.length≤sz→L≠[]→R≠[]→(∀ x ∈ L,D x)→(∀ x ∈ R,D x)→aAO K L→aAO K R→(∀ x ∈ L,∀ y ∈ R,x < y)→(A++L++R++B).length=n→E h→h[i]?=some (.arr ver 1 x0 (eIs (A++L++R++B)++tl)) →
  ∃ M,List.Perm M (L++R)∧aAO K M∧lim G0.cfg (.func 75) [.hsl i ver 0 n none,.int .i64 A.length,.int .i64 ((A.length+L.length:Nat):Int),.int .i64 ((A.length+L.length+R.length:Nat):Int),.fn (.func g) [] caps] h=some (AV.un,h.set i (.arr ver 1 x0 (eIs (A++M++B)++tl))):=by
 intro sz
 induction sz with
 | zero =>
  intro A L R B h hsz hL
  have:=Z1.2 hL
  omega
 | succ sz ih =>
  intro A L R B h hsz hL hR hDL hDR sL sR hLR hl hE hi
  have pL:=Z1.2 hL
  have pR:=Z1.2 hR
  have hl':A.length+L.length+R.length+B.length=n:=by rw [← hl];simp;omega
  have gL:∀ q,q < L.length→(A++L++R++B).getD (A.length+q) 0=L.getD q 0:=fun q hq=>by
   have:=aQ9 A L (R++B) q hq
   simpa using this
  have gR:∀ q,q < R.length→(A++L++R++B).getD (A.length+L.length+q) 0=R.getD q 0:=fun q hq=>aSZ A L R B q hq
  by_cases c1:L.length=1
  case pos =>
   obtain ⟨x,rfl⟩:=List.length_eq_one_iff.1 c1
   have gx:(A++[x]++R++B).getD A.length 0=x:=gL 0 (by simp)
   rw [List.length_singleton] at hl' gR
   have gR':∀ c,A.length+1≤c→c < A.length+1+R.length→(A++[x]++R++B).getD c 0=R.getD (c - (A.length+1)) 0:=fun c h1 h2=>by
    have:=gR (c - (A.length+1)) (by omega)
    rwa [show A.length+1+(c - (A.length+1))=c by omega] at this
   obtain ⟨s,s1,s2,s3,s4,e⟩:=aT7 (ver:=ver) (x0:=x0) (tl:=tl) hC hn (A++[x]++R++B) hl A.length (A.length+1) (A.length+1+R.length) (by omega) (by omega) (by rw [gx];exact hDL x (by simp)) (fun c h1 h2=>by rw [gR' c h1 h2];exact hDR _ (aIo (by omega)))
    (fun c c' h1 h2 h3 hK=>by rw [gR' c h1 (by omega)];rw [gR' c' (by omega) h3] at hK;have:=sR.mono (p:=c - (A.length+1)) (q:=c' - (A.length+1)) (by omega) (by omega);omega) (n+1) h hE hi R.length (n+1) (A.length+1) (A.length+1+R.length) (by omega) (by omega) (by omega) (by omega) (by omega) (fun c h1 h2=>by omega) (fun c h1 h2=>by omega)
   rw [gx] at s3 s4
   obtain ⟨k,rfl⟩:∃ k,s=A.length+1+k:=⟨s - (A.length+1),by omega⟩
   have hRk:R=R.take k++R.drop k:=(Q6 k R).symm
   have hRl:(R.take k).length=k:=by rw [Q8];omega
   have ea:A++[x]++R++B=A++x::(R.take k++(R.drop k++B)):=by rw [← Q0 (R.take k),← hRk];simp
   have hi2:=hi
   rw [ea] at hi2
   have e2:=aSb (ver:=ver) (x0:=x0) (tl:=tl) hn (n+1) (A.length+1+k) x (R.take k) (n+1) A (R.drop k++B) h (by omega) (by omega) (by rw [← ea];exact hl) hi2
   have lo:∀ r ∈ R.take k,K r < K x:=fun r hr=>by
    obtain ⟨q,q1,q2,rfl⟩:=aFH hr
    have:=s3 (A.length+1+q) (by omega) (by omega)
    rwa [gR q q2] at this
   have up:∀ r ∈ R.drop k,¬ K r < K x:=fun r hr=>by
    obtain ⟨q,q1,q2,rfl⟩:=aFI hr
    have:=s4 (A.length+1+q) (by omega) (by omega)
    rwa [gR q q2] at this
   refine ⟨R.take k++x::R.drop k,?_,?_,?_⟩
   ·conv=>rhs;rw [hRk]
    exact List.perm_middle
   ·rw [aAO,Q1,List.pairwise_cons]
    refine ⟨sR.take k,⟨fun r hr => ?_,sR.drop k⟩,fun r hr y hy => ?_⟩
    ·have hx:=hLR x (by simp) r (Q4 hr)
     have:=up r hr
     by_cases h:K x < K r
     ·exact .inl h
     ·exact .inr ⟨by omega,hx⟩
    ·rcases List.mem_cons.1 hy with rfl | hy
     ·exact .inl (lo r hr)
     ·rw [hRk] at sR
      exact (Q1.1 sR).2.2 r hr y hy
   ·refine aB3 rfl aCr (n+1) ?_
    have w1:IntKind.i64.wrap (((A.length+1:Nat):Int) - A.length)=1:=by rw [w64 (by omega) (by omega)];omega
    have eb:A++(R.take k++x::R.drop k)++B=A++R.take k++x::(R.drop k++B):=by simp
    rw [eb,aAG]
    simp only [Zaf,Zag,Zah,Zai,Zaj,Zak,Zam,Zan,Zao,Zaq,Zat,Zav,Zax,Zbc,Zbm,Zbo,Zbu,Zcy,Zcz,Zda,Zdb,Zdf,Zdg,Zdh,List.set_cons_zero,List.set_cons_succ,List.getD_cons_zero,List.getD_cons_succ,Option.map_some,Zdj,Zdp,decide_true,Q9,Z0,Nat.reduceAdd,Nat.reduceSub,eq_self,and_true,Q9,Z0,List.replicate_succ,List.replicate_zero,List.cons_append,Q7,w1,e,e2,aAa,aA8,Option.some.injEq,Prod.mk.injEq,and_true]
    rfl
  case neg =>
  by_cases c2:R.length=1
  case pos =>
   obtain ⟨y,rfl⟩:=List.length_eq_one_iff.1 c2
   have gy:(A++L++[y]++B).getD (A.length+L.length) 0=y:=gR 0 (by simp)
   rw [List.length_singleton] at hl'
   have gL':∀ c,A.length≤c→c < A.length+L.length→(A++L++[y]++B).getD c 0=L.getD (c - A.length) 0:=fun c h1 h2=>by
    have:=gL (c - A.length) (by omega)
    rwa [show A.length+(c - A.length)=c by omega] at this
   obtain ⟨s,s1,s2,s3,s4,e⟩:=aT6 (ver:=ver) (x0:=x0) (tl:=tl) hC hn (A++L++[y]++B) hl (A.length+L.length) A.length (A.length+L.length) (by omega) (by omega) (by rw [gy];exact hDR y (by simp)) (fun c h1 h2=>by rw [gL' c h1 h2];exact hDL _ (aIo (by omega)))
    (fun c c' h1 h2 h3 hK=>by rw [gL' c' (by omega) h3];rw [gL' c h1 (by omega)] at hK;have:=sL.mono (p:=c - A.length) (q:=c' - A.length) (by omega) (by omega);omega) (n+1) h hE hi L.length (n+1) A.length (A.length+L.length) (by omega) (by omega) (by omega) (by omega) (by omega) (fun c h1 h2=>by omega) (fun c h1 h2=>by omega)
   rw [gy] at s3 s4
   obtain ⟨k,rfl⟩:∃ k,s=A.length+k:=⟨s - A.length,by omega⟩
   have hLk:L=L.take k++L.drop k:=(Q6 k L).symm
   have hLl:(L.take k).length=k:=by rw [Q8];omega
   have hLd:(L.drop k).length=L.length - k:=List.length_drop ..
   have ea:A++L++[y]++B=(A++L.take k)++L.drop k++y::B:=by rw [Q0 A (L.take k),← hLk];simp
   have hi2:=hi
   rw [ea] at hi2
   have e2:=aQc (ver:=ver) (x0:=x0) (tl:=tl) hn (n+1) y (A++L.take k) (L.drop k).length (n+1) (L.drop k) B h rfl (by omega) (by rw [← ea];exact hl) hi2
   rw [show (A++L.take k).length=A.length+k by rw [Q3,hLl],show A.length+k+(L.drop k).length=A.length+L.length by omega] at e2
   have lo:∀ r ∈ L.take k,¬ K y < K r:=fun r hr=>by
    obtain ⟨q,q1,q2,rfl⟩:=aFH hr
    have:=s3 (A.length+q) (by omega) (by omega)
    rwa [gL q q2] at this
   have up:∀ r ∈ L.drop k,K y < K r:=fun r hr=>by
    obtain ⟨q,q1,q2,rfl⟩:=aFI hr
    have:=s4 (A.length+q) (by omega) (by omega)
    rwa [gL q q2] at this
   refine ⟨L.take k++y::L.drop k,?_,?_,?_⟩
   ·conv=>rhs;rw [hLk]
    rw [Q0]
    exact List.Perm.append_left _ (List.perm_append_comm (l₁:=[y]) (l₂:=L.drop k))
   ·rw [aAO,Q1,List.pairwise_cons]
    refine ⟨sL.take k,⟨fun r hr=>.inl (up r hr),sL.drop k⟩,fun r hr z hz => ?_⟩
    rcases List.mem_cons.1 hz with rfl | hz
    ·have hx:=hLR r (Q5 hr) z (by simp)
     have:=lo r hr
     by_cases h:K r < K z
     ·exact .inl h
     ·exact .inr ⟨by omega,hx⟩
    ·rw [hLk] at sL
     exact (Q1.1 sL).2.2 r hr z hz
   ·refine aB3 rfl aCr (n+1) ?_
    have w1:IntKind.i64.wrap (((A.length+L.length:Nat):Int) - A.length)=(L.length:Int):=by rw [w64 (by omega) (by omega)];omega
    have d1:decide ((L.length:Int)=1)=false:=decide_eq_false (by omega)
    have w2:IntKind.i64.wrap (((A.length+L.length+1:Nat):Int) - ((A.length+L.length:Nat):Int))=1:=by rw [w64 (by omega) (by omega)];omega
    have eb:A++(L.take k++y::L.drop k)++B=A++L.take k++y::(L.drop k++B):=by simp
    rw [eb,aAG]
    simp only [Zae,Zaf,Zag,Zah,Zai,Zaj,Zak,Zam,Zan,Zao,Zaq,Zat,Zav,Zaw,Zax,Zbc,Zbm,Zbo,Zbu,Zcy,Zcz,Zda,Zdb,Zdf,Zdg,Zdh,List.set_cons_zero,List.set_cons_succ,List.getD_cons_zero,List.getD_cons_succ,Option.map_some,Zdj,Zdp,decide_true,Q9,Z0,Nat.reduceAdd,Nat.reduceSub,eq_self,and_true,Q9,Z0,List.replicate_succ,List.replicate_zero,List.cons_append,Q7,w1,d1,w2,e,e2,aAa,aA8,Option.some.injEq,Prod.mk.injEq,and_true]
    rfl
  case neg =>
  obtain ⟨mid,hmid⟩:∃ mid,mid=(A.length+(A.length+L.length+R.length)) / 2:=⟨_,rfl⟩
  obtain ⟨nn,hnn⟩:∃ nn,nn=mid+(A.length+L.length):=⟨_,rfl⟩
  obtain ⟨st0,r0,hst⟩:∃ st0 r0,(mid < A.length+L.length∧st0=nn - (A.length+L.length+R.length)∧r0=mid∧A.length+L.length+R.length≤nn)∨(¬ mid < A.length+L.length∧st0=A.length∧r0=A.length+L.length):=by
   by_cases q:mid < A.length+L.length
   ·exact ⟨_,_,.inl ⟨q,rfl,rfl,by omega⟩⟩
   ·exact ⟨_,_,.inr ⟨q,rfl,rfl⟩⟩
  have b1:A.length≤st0:=by omega
  have b2:st0≤r0:=by omega
  have b3:r0≤A.length+L.length:=by omega
  have b4:∀ c,st0≤c→c < r0→A.length+L.length≤nn - 1 - c∧nn - 1 - c < A.length+L.length+R.length:=fun c h1 h2=>by omega
  have gL':∀ c,st0≤c→c < r0→(A++L++R++B).getD c 0=L.getD (c - A.length) 0:=fun c h1 h2=>by
   have:=gL (c - A.length) (by omega)
   rwa [show A.length+(c - A.length)=c by omega] at this
  have gR':∀ c,st0≤c→c < r0→(A++L++R++B).getD (nn - 1 - c) 0=R.getD (nn - 1 - c - (A.length+L.length)) 0:=fun c h1 h2=>by
   have h3:=b4 c h1 h2
   have:=gR (nn - 1 - c - (A.length+L.length)) (by omega)
   rwa [show A.length+L.length+(nn - 1 - c - (A.length+L.length))=nn - 1 - c by omega] at this
  obtain ⟨s,s1,s2,s3,s4,loop⟩:=aT5 (ver:=ver) (x0:=x0) (tl:=tl) hC hn (A++L++R++B) hl (.int .i64 A.length) (.int .i64 ((A.length+L.length:Nat):Int)) (.int .i64 ((A.length+L.length+R.length:Nat):Int)) (.int .i64 mid) (.int .i64 nn) (nn - 1) st0 r0 (by omega) (by omega) (by omega)
   (fun c h1 h2=>by rw [gL' c h1 h2];exact hDL _ (aIo (by omega))) (fun c h1 h2=>by rw [gR' c h1 h2];have:=b4 c h1 h2;exact hDR _ (aIo (by omega)))
   (fun c c' h1 h2 h3 hK=>by
    rw [gR' c h1 (by omega),gL' c h1 (by omega)] at hK
    rw [gR' c' (by omega) h3,gL' c' (by omega) h3]
    have k1:=sL.mono (p:=c - A.length) (q:=c' - A.length) (by omega) (by omega)
    have k3:=b4 c h1 (by omega)
    have k4:=b4 c' (by omega) h3
    have k2:=sR.mono (p:=nn - 1 - c' - (A.length+L.length)) (q:=nn - 1 - c - (A.length+L.length)) (by omega) (by omega)
    omega) (n+1) h hE hi (r0 - st0) (n+1) st0 r0 (Nat.le_refl _) (by omega) b2 (Nat.le_refl _) (Nat.le_refl _) (fun c h1 h2=>by omega) (fun c h1 h2=>by omega)
  obtain ⟨u,rfl⟩:∃ u,s=A.length+u:=⟨s - A.length,by omega⟩
  obtain ⟨w,hw⟩:∃ w,nn - (A.length+u)=A.length+L.length+w:=⟨nn - (A.length+u) - (A.length+L.length),by omega⟩
  have hwR:w≤R.length:=by omega
  have huL:u≤L.length:=by omega
  have hLu:L=L.take u++L.drop u:=(Q6 u L).symm
  have hRw:R=R.take w++R.drop w:=(Q6 w R).symm
  have lU:(L.take u).length=u:=by rw [Q8];omega
  have lW:(R.take w).length=w:=by rw [Q8];omega
  have lV:(L.drop u).length=L.length - u:=List.length_drop ..
  have lZ:(R.drop w).length=R.length - w:=List.length_drop ..
  have cross1:∀ a ∈ L.take u,∀ z ∈ R.drop w,aIk K a z:=fun a ha z hz=>by
   have hlt:=hLR a (Q5 ha) z (Q4 hz)
   obtain ⟨q,q1,q2,rfl⟩:=aFH ha
   obtain ⟨p,p1,p2,rfl⟩:=aFI hz
   by_cases hlo:st0≤A.length+(u - 1)
   ·have h1:=s3 (A.length+(u - 1)) hlo (by omega)
    rw [gR' _ hlo (by omega),gL' _ hlo (by omega)] at h1
    have k1:=sL.mono (p:=q) (q:=A.length+(u - 1) - A.length) (by omega) (by omega)
    have k2:=sR.mono (p:=nn - 1 - (A.length+(u - 1)) - (A.length+L.length)) (q:=p) (by omega) p2
    by_cases h:K (L.getD q 0) < K (R.getD p 0)
    ·exact .inl h
    ·exact .inr ⟨by omega,hlt⟩
   ·omega
  have cross2:∀ a ∈ R.take w,∀ v ∈ L.drop u,aIk K a v:=fun a ha v hv=>by
   obtain ⟨q,q1,q2,rfl⟩:=aFH ha
   obtain ⟨p,p1,p2,rfl⟩:=aFI hv
   by_cases hhi:A.length+u < r0
   ·have h1:=s4 (A.length+u) (by omega) hhi
    rw [gR' _ (by omega) hhi,gL' _ (by omega) hhi] at h1
    have k1:=sL.mono (p:=A.length+u - A.length) (q:=p) (by omega) p2
    have k2:=sR.mono (p:=q) (q:=nn - 1 - (A.length+u) - (A.length+L.length)) (by omega) (by omega)
    exact .inl (by omega)
   ·omega
  have hX0:A++L++R++B=(A++L.take u)++L.drop u++R.take w++(R.drop w++B):=by
   have e1:(A++L.take u)++L.drop u=A++L:=by rw [Q0,← hLu]
   have e2:R.take w++(R.drop w++B)=R++B:=by rw [← Q0,← hRw]
   rw [e1,Q0 (A++L) (R.take w),e2,← Q0]
  -- the rows after each step
  have st1:∃ h1,(A.length+u < A.length+L.length→A.length+L.length < A.length+L.length+w→lim G0.cfg (.func 76) [.hsl i ver 0 n none,.int .i64 ((A.length+u:Nat):Int),.int .i64 ((A.length+L.length:Nat):Int),.int .i64 ((A.length+L.length+w:Nat):Int),.fn (.func g) [] caps] h=some (AV.un,h1))∧(¬ (A.length+u < A.length+L.length∧A.length+L.length < A.length+L.length+w)→h1=h) ∧
    h1=h.set i (.arr ver 1 x0 (eIs (A++L.take u++R.take w++(L.drop u++R.drop w++B))++tl)):=by
   refine ⟨_,?_,?_,rfl⟩
   ·intro h1 h2
    have hi2:=hi
    rw [hX0] at hi2
    have:=aRg (ver:=ver) (x0:=x0) (tl:=tl) hn (A++L.take u) (L.drop u) (R.take w) (R.drop w++B) h (by intro e;rw [e] at lV;simp at lV;omega) (by intro e;rw [e] at lW;simp at lW;omega) (by rw [← hX0];exact hl) hi2 (.fn (.func g) [] caps)
    rw [show (A++L.take u).length=A.length+u by rw [Q3,lU],lV,lW,show A.length+u+(L.length - u)=A.length+L.length by omega] at this
    rw [this]
    simp
   ·intro hno
    have:L.drop u=[]∨R.take w=[]:=by
     by_cases q:w=0
     ·exact .inr (Q2.1 (by omega))
     ·exact .inl (Q2.1 (by omega))
    have e:A++L.take u++R.take w++(L.drop u++R.drop w++B)=A++L++R++B:=by
     rw [hX0]
     rcases this with h | h <;> rw [h] <;> simp only [Q0,Q7,List.append_nil]
    rw [e,aBq hi]
  obtain ⟨h1,rot,rot0,eh1⟩:=st1
  have hi1:h1[i]?=some (.arr ver 1 x0 (eIs (A++L.take u++R.take w++(L.drop u++R.drop w++B))++tl)):=by rw [eh1];exact aAr hi
  have hE1:E h1:=by rw [eh1];exact hC.keep _ _ hE
  have hl1:(A++L.take u++R.take w++(L.drop u++R.drop w++B)).length=n:=by
   simp only [Q3,lU,lW,lV,lZ];omega
  have hmw:mid=A.length+u+w:=by omega
  have st2:∃ M1 h2,List.Perm M1 (L.take u++R.take w)∧aAO K M1∧(A.length < A.length+u→A.length+L.length < A.length+L.length+w→lim G0.cfg (.func 75) [.hsl i ver 0 n none,.int .i64 A.length,.int .i64 ((A.length+u:Nat):Int),.int .i64 mid,.fn (.func g) [] caps] h1=some (AV.un,h2))∧(¬ (A.length < A.length+u∧A.length+L.length < A.length+L.length+w)→h2=h1) ∧
    h2=h1.set i (.arr ver 1 x0 (eIs (A++M1++(L.drop u++R.drop w++B))++tl)):=by
   by_cases q:0 < u∧0 < w
   ·obtain ⟨M1,m1,m2,m3⟩:=ih A (L.take u) (R.take w) (L.drop u++R.drop w++B) h1 (by omega) (by intro e;rw [e] at lU;simp at lU;omega) (by intro e;rw [e] at lW;simp at lW;omega) (fun x hx=>hDL x (Q5 hx)) (fun x hx=>hDR x (Q5 hx)) (sL.take u) (sR.take w) (fun x hx y hy=>hLR x (Q5 hx) y (Q5 hy)) hl1 hE1 hi1
    rw [lU,lW,← hmw] at m3
    exact ⟨M1,_,m1,m2,fun _ _=>m3,fun hno=>absurd ⟨by omega,by omega⟩ hno,rfl⟩
   ·have:L.take u=[]∨R.take w=[]:=by
     by_cases q0:w=0
     ·exact .inr (Q2.1 (by omega))
     ·exact .inl (Q2.1 (by omega))
    refine ⟨L.take u++R.take w,h1,.refl _,?_,fun a b=>absurd ⟨by omega,by omega⟩ q,fun _=>rfl,?_⟩
    ·rcases this with h | h <;> rw [h]
     ·rw [Q7];exact sR.take w
     ·rw [List.append_nil];exact sL.take u
    ·rw [← Q0 A,aBq hi1]
  obtain ⟨M1,h2,m1,m2,mg1,mg10,eh2⟩:=st2
  have hi2:h2[i]?=some (.arr ver 1 x0 (eIs ((A++M1)++L.drop u++R.drop w++B)++tl)):=by
   rw [eh2]
   have:=aAr (y:=AObj.arr ver 1 x0 (eIs (A++M1++(L.drop u++R.drop w++B))++tl)) hi1
   rw [this];simp
  have hE2:E h2:=by rw [eh2];exact hC.keep _ _ hE1
  have lM1:M1.length=u+w:=by rw [m1.length_eq,Q3,lU,lW]
  have hl2:((A++M1)++L.drop u++R.drop w++B).length=n:=by
   simp only [Q3,lM1,lV,lZ];omega
  have st3:∃ M2 h3,List.Perm M2 (L.drop u++R.drop w)∧aAO K M2∧(A.length+u < A.length+L.length→A.length+L.length+w < A.length+L.length+R.length→lim G0.cfg (.func 75) [.hsl i ver 0 n none,.int .i64 mid,.int .i64 ((A.length+L.length+w:Nat):Int),.int .i64 ((A.length+L.length+R.length:Nat):Int),.fn (.func g) [] caps] h2=some (AV.un,h3))∧(¬ (A.length+u < A.length+L.length∧A.length+L.length+w < A.length+L.length+R.length)→h3=h2) ∧
    h3=h2.set i (.arr ver 1 x0 (eIs (A++M1++M2++B)++tl)):=by
   by_cases q:u < L.length∧w < R.length
   ·obtain ⟨M2,k1,k2,k3⟩:=ih (A++M1) (L.drop u) (R.drop w) B h2 (by omega) (by intro e;rw [e] at lV;simp at lV;omega) (by intro e;rw [e] at lZ;simp at lZ;omega) (fun x hx=>hDL x (Q4 hx)) (fun x hx=>hDR x (Q4 hx)) (sL.drop u) (sR.drop w) (fun x hx y hy=>hLR x (Q4 hx) y (Q4 hy)) hl2 hE2 hi2
    have z1:(A++M1).length=mid:=by rw [Q3,lM1];omega
    rw [z1,lV,lZ,show mid+(L.length - u)=A.length+L.length+w by omega,show A.length+L.length+w+(R.length - w)=A.length+L.length+R.length by omega] at k3
    exact ⟨M2,_,k1,k2,fun _ _=>k3,fun hno=>absurd ⟨by omega,by omega⟩ hno,rfl⟩
   ·have:L.drop u=[]∨R.drop w=[]:=by
     by_cases q0:w=R.length
     ·exact .inr (Q2.1 (by omega))
     ·exact .inl (Q2.1 (by omega))
    refine ⟨L.drop u++R.drop w,h2,.refl _,?_,fun a b=>absurd ⟨by omega,by omega⟩ q,fun _=>rfl,?_⟩
    ·rcases this with h | h <;> rw [h]
     ·rw [Q7];exact sR.drop w
     ·rw [List.append_nil];exact sL.drop u
    ·rw [← Q0 (A++M1),aBq hi2]
  obtain ⟨M2,h3,k1,k2,mg2,mg20,eh3⟩:=st3
  have run:=aRT A.length (A.length+L.length) (A.length+L.length+R.length) mid nn st0 r0 (A.length+u) (A.length+L.length+w) (.hsl i ver 0 n none) (.fn (.func g) [] caps) h h1 h2 h3 (n+1) (by omega) (by omega) (by omega) (by omega) (by omega) hmid hnn hst loop hw.symm (by omega) (by omega) (by omega) rot rot0 mg1 mg10 mg2 mg20
  refine ⟨M1++M2,?_,?_,aB3 rfl aCr (n+1) ?_⟩
  ·refine (m1.append k1).trans ?_
   conv=>rhs;rw [hLu,hRw]
   have:=List.perm_append_comm (l₁:=R.take w) (l₂:=L.drop u)
   have h2:=(this.append_left (L.take u)).append_right (R.drop w)
   simp only [Q0] at h2 ⊢
   exact h2
  ·rw [aAO,Q1]
   refine ⟨m2,k2,fun x hx y hy => ?_⟩
   have hx:=(m1.mem_iff).1 hx
   have hy:=(k1.mem_iff).1 hy
   rw [hLu] at sL
   rw [hRw] at sR
   rcases List.mem_append.1 hx with hx | hx <;> rcases List.mem_append.1 hy with hy | hy
   ·exact (Q1.1 sL).2.2 x hx y hy
   ·exact cross1 x hx y hy
   ·exact cross2 x hx y hy
   ·exact (Q1.1 sR).2.2 x hx y hy
  ·rw [run,eh3,eh2,eh1,set_set,set_set]
   simp
end
end Go.Proofs.Ytgeedikghjcebaa.Ai
namespace Go.Proofs.Ytgeedikghjcebaa.Ai
open Go Go.Proofs
open AV renaming junk → J
open List renaming length_append → Q0, append_nil → Q1, getD_cons_zero → Q2, getD_cons_succ → Q3, set_cons_zero → Q4, set_cons_succ → Q5, flatten_nil → Q6, mem_flatten → Q7, flatten_cons → Q8, length_nil → Q9, nil_append → Z0, mem_append_right → Z1, mem_append_left → Z2, length_cons → Z3, Perm → Z4, pairwise_cons → Z5, length_eq_zero_iff → Z6, append_assoc → Z7, mem_cons → Z8, pairwise_append → Z9
set_option linter.unusedVariables false
set_option linter.unusedSimpArgs false
set_option maxRecDepth 10000
set_option maxHeartbeats 4000000
abbrev aIa (b c:List Int):Prop:=∀ x ∈ b,∀ y ∈ c,x < y
structure Blocks (K:Int→Int) (D:Int→Prop) (bs:Nat) (full:List (List Int)) (t:List Int):Prop where
 len:∀ b ∈ full,b.length=bs
 tl:t.length < bs
 sf:∀ b ∈ full,aAO K b
 st:aAO K t
 cf:full.Pairwise aIa
 ct:∀ b ∈ full,aIa b t
 df:∀ b ∈ full,∀ x ∈ b,D x
 dt:∀ x ∈ t,D x
section
variable {i ver n : Nat} {x0 : Bool} {tl : List (List AV)} {g : Nat} {caps : List AV} {K : Int → Int} {D : Int → Prop} {E : aA0 → Prop}
theorem aPf (hC:CmpOk i g caps K D E) (hn:n≤1000000000) (N:Nat):∀ (d m:Nat) (A R:List Int) (h:aA0),R.length≤d→d < m→(∀ x ∈ R,D x)→R.Pairwise (· < ·)→(A++R).length=n→E h→h[i]?=some (.arr ver 1 x0 (eIs (A++R)++tl)) →
  ∃ (full:List (List Int)) (t:List Int),(∀ b ∈ full,b.length=20)∧t.length < 20∧(∀ b ∈ full,aAO K b)∧t.Pairwise (· < ·)∧full.Pairwise aIa∧(∀ b ∈ full,aIa b t)∧Z4 (full.flatten++t) R ∧
   aAw (aA9 (lim G0.cfg) N aBl) m ⟨(.hsl i ver 0 n none::.int .i64 n::.fn (.func g) [] caps::J::J::J::.int .i64 20::.int .i64 A.length::.int .i64 ((A.length+20:Nat):Int)::J::J::J::J::J::J::J::J::J::J::J::J::J::J::J::J::J::J::J::J::J::J::J::J::J::J::J::J::J::J::J::J::J::J::J::J::J::J::J::J::J::J::J::J::J::J::J::J::J::J::J::J::J::J::[]),h⟩=some (.exit 0,⟨(.hsl i ver 0 n none::.int .i64 n::.fn (.func g) [] caps::J::J::J::.int .i64 20::.int .i64 ((A++full.flatten).length:Nat)::J::J::J::J::J::J::J::J::J::J::J::J::J::J::J::J::J::J::J::J::J::J::J::J::J::J::J::J::J::J::J::J::J::J::J::J::J::J::J::J::J::J::J::J::J::J::J::J::J::J::J::J::J::J::J::[]),h.set i (.arr ver 1 x0 (eIs (A++full.flatten++t)++tl))⟩):=by
 intro d
 induction d with
 | zero =>
  intro m A R h h1 h2 hD hR hl hE hi
  obtain ⟨m,rfl⟩:∃ q,m=q+1:=⟨m - 1,by omega⟩
  have:R=[]:=Z6.1 (by omega)
  subst this
  rw [Q0,Q9] at hl
  have h5:¬ (((A.length+20:Nat):Int)≤n):=by omega
  refine ⟨[],[],by simp,by simp,by simp,.nil,.nil,by simp,.refl _,?_⟩
  simp only [Q6,Q1] at hi ⊢
  rw [aBq hi]
  simp only [aAj,aCk,Zaf,Zag,Zah,Zak,Zal,Zan,Zao,Zap,Zaw,Zaz,Zbc,Zbm,Zbo,Zbu,Zcz,Zdb,Zdf,Zdg,Zdh,Q4,Q5,Q2,Q3,Zdm,decide_false,eq_self,h5]
 | succ d ih =>
  intro m A R h h1 h2 hD hR hl hE hi
  obtain ⟨m,rfl⟩:∃ q,m=q+1:=⟨m - 1,by omega⟩
  have hl':=hl
  rw [Q0] at hl'
  by_cases q:20≤R.length
  case neg =>
   have h5:¬ (((A.length+20:Nat):Int)≤n):=by omega
   refine ⟨[],R,by simp,by omega,by simp,hR,.nil,by simp,by simp,?_⟩
   rw [Q6,Q1,aBq hi]
   simp only [aAj,aCk,Zaf,Zag,Zah,Zak,Zal,Zan,Zao,Zap,Zaw,Zaz,Zbc,Zbm,Zbo,Zbu,Zcz,Zdb,Zdf,Zdg,Zdh,Q4,Q5,Q2,Q3,Zdm,decide_false,eq_self,h5]
  case pos =>
   have h5:((A.length+20:Nat):Int)≤n:=by omega
   have hRs:R=R.take 20++R.drop 20:=(List.take_append_drop 20 R).symm
   have l20:(R.take 20).length=20:=by rw [List.length_take];omega
   have hRp:=hR
   rw [hRs,Z9] at hRp
   have ea:A++R=A++R.take 20++R.drop 20:=by rw [Z7,← hRs]
   have hi0:=hi
   rw [ea] at hi0
   obtain ⟨M,p1,p2,p3⟩:=aKa (ver:=ver) (x0:=x0) (tl:=tl) hC hn A (R.take 20) (R.drop 20) h (fun x hx=>hD x (List.mem_of_mem_take hx)) hRp.1 (by rw [← ea];exact hl) hE hi0
   rw [l20] at p3
   have lM:M.length=20:=by rw [p1.length_eq,l20]
   have g1:=aAr (y:=AObj.arr ver 1 x0 (eIs ((A++M)++R.drop 20)++tl)) hi
   obtain ⟨full,t,k1,k2,k3,k4,k5,k6,k7,e⟩:=ih m (A++M) (R.drop 20) _ (by rw [List.length_drop];omega) (by omega) (fun x hx=>hD x (List.mem_of_mem_drop hx)) hRp.2.1 (by rw [Q0,Q0,lM,List.length_drop];omega) (hC.keep _ _ hE) g1
   have hcM:∀ x ∈ M,∀ y,y ∈ full.flatten++t→x < y:=fun x hx y hy=>hRp.2.2 x (p1.mem_iff.1 hx) y (k7.mem_iff.1 hy)
   refine ⟨M::full,t,fun b hb => ?_,k2,fun b hb => ?_,k4,?_,fun b hb => ?_,?_,?_⟩
   ·rcases Z8.1 hb with rfl | hb
    ·exact lM
    ·exact k1 b hb
   ·rcases Z8.1 hb with rfl | hb
    ·exact p2
    ·exact k3 b hb
   ·exact Z5.2 ⟨fun b hb x hx y hy=>hcM x hx y (Z2 _ (Q7.2 ⟨b,hb,hy⟩)),k5⟩
   ·rcases Z8.1 hb with rfl | hb
    ·exact fun x hx y hy=>hcM x hx y (Z1 _ hy)
    ·exact k6 b hb
   ·rw [Q8,Z7]
    conv=>rhs;rw [hRs]
    exact p1.append k7
   ·rw [set_set] at e
    have e1:((A++M).length:Int)=((A.length+20:Nat):Int):=by rw [Q0,lM]
    have e2:(((A++M).length+20:Nat):Int)=((A.length+20+20:Nat):Int):=by rw [Q0,lM]
    have e3:A++M++full.flatten=A++(M::full).flatten:=by simp
    rw [e1,e2,e3] at e
    have w1:IntKind.i64.wrap (((A.length+20:Nat):Int)+20)=((A.length+20+20:Nat):Int):=by rw [w64 (by omega) (by omega)];omega
    rw [← e]
    simp only [aAj,aCk,Zae,Zaf,Zag,Zah,Zai,Zak,Zan,Zao,Zar,Zav,Zay,Zbc,Zbd,Zbm,Zbo,Zbu,Zct,Zcu,Zcz,Zda,Zdb,Zdd,Zde,Zdf,Zdg,Zdh,Q4,Q5,Q2,Q3,Zdi,Zdm,decide_true,eq_self,h5,p3,Q1,Z0,w1]
theorem aPd (hC:CmpOk i g caps K D E) (hn:n≤1000000000) (bs:Nat) (hbs:0 < bs) (hbn:bs≤n) (N:Nat) (t:List Int) (ht:t.length < bs):∀ (d m:Nat) (A:List Int) (full:List (List Int)) (h:aA0),full.length≤d→d < m→Blocks K D bs full t→(A++full.flatten++t).length=n→E h→h[i]?=some (.arr ver 1 x0 (eIs (A++full.flatten++t)++tl)) →
  ∃ (full' rest:List (List Int)),(rest=[]∨∃ b,rest=[b]∧b ∈ full)∧(∀ b ∈ full',b.length=2*bs)∧(∀ b ∈ full',aAO K b)∧(full'++rest).Pairwise aIa∧Z4 (full'.flatten++rest.flatten) full.flatten ∧
   aAw (aA9 (lim G0.cfg) N aBk) m ⟨(.hsl i ver 0 n none::.int .i64 n::.fn (.func g) [] caps::J::J::J::.int .i64 bs::.int .i64 A.length::.int .i64 ((A.length+2*bs:Nat):Int)::J::J::J::J::J::J::J::J::J::J::J::J::J::J::J::J::J::J::J::J::J::J::J::J::J::J::J::J::J::J::J::J::J::J::J::J::J::J::J::J::J::J::J::J::J::J::J::J::J::J::J::J::J::J::[]),h⟩=some (.exit 4,⟨(.hsl i ver 0 n none::.int .i64 n::.fn (.func g) [] caps::J::J::J::.int .i64 bs::.int .i64 ((A++full'.flatten).length:Nat)::J::J::J::J::J::J::J::J::J::J::J::J::J::J::J::J::J::J::J::J::J::J::J::J::J::J::J::J::J::J::J::J::J::J::J::J::J::J::J::J::J::J::J::J::J::J::J::J::J::J::J::J::J::J::J::[]),h.set i (.arr ver 1 x0 (eIs (A++full'.flatten++rest.flatten++t)++tl))⟩):=by
 intro d
 induction d with
 | zero =>
  intro m A full h h1 h2 hB hl hE hi
  obtain ⟨m,rfl⟩:∃ q,m=q+1:=⟨m - 1,by omega⟩
  have:full=[]:=Z6.1 (by omega)
  subst this
  simp only [Q6,Q1] at hl hi
  rw [Q0] at hl
  have h5:¬ (((A.length+2*bs:Nat):Int)≤n):=by omega
  refine ⟨[],[],.inl rfl,by simp,by simp,.nil,.refl _,?_⟩
  simp only [Q6,Q1]
  rw [aBq hi]
  simp only [aAj,aBD,Zaf,Zag,Zah,Zak,Zal,Zan,Zao,Zap,Zaw,Zaz,Zbc,Zbm,Zbo,Zbu,Zcz,Zdb,Zdf,Zdg,Zdh,Q4,Q5,Q2,Q3,Zdm,decide_false,eq_self,h5]
 | succ d ih =>
  intro m A full h h1 h2 hB hl hE hi
  obtain ⟨m,rfl⟩:∃ q,m=q+1:=⟨m - 1,by omega⟩
  match full,hB,hl,hi,h1 with
  | [],hB,hl,hi,h1 =>
   simp only [Q6,Q1] at hl hi
   rw [Q0] at hl
   have h5:¬ (((A.length+2*bs:Nat):Int)≤n):=by omega
   refine ⟨[],[],.inl rfl,by simp,by simp,.nil,.refl _,?_⟩
   simp only [Q6,Q1]
   rw [aBq hi]
   simp only [aAj,aBD,Zaf,Zag,Zah,Zak,Zal,Zan,Zao,Zap,Zaw,Zaz,Zbc,Zbm,Zbo,Zbu,Zcz,Zdb,Zdf,Zdg,Zdh,Q4,Q5,Q2,Q3,Zdm,decide_false,eq_self,h5]
  | [b],hB,hl,hi,h1 =>
   have lb:=hB.len b (by simp)
   simp only [Q8,Q6,Q1] at hl hi
   simp only [Q0] at hl
   have h5:¬ (((A.length+2*bs:Nat):Int)≤n):=by omega
   refine ⟨[],[b],.inr ⟨b,rfl,by simp⟩,by simp,by simp,List.pairwise_singleton _ _,by simp,?_⟩
   simp only [Q8,Q6,Q1]
   rw [aBq hi]
   simp only [aAj,aBD,Zaf,Zag,Zah,Zak,Zal,Zan,Zao,Zap,Zaw,Zaz,Zbc,Zbm,Zbo,Zbu,Zcz,Zdb,Zdf,Zdg,Zdh,Q4,Q5,Q2,Q3,Zdm,decide_false,eq_self,h5]
  | b::c::r,hB,hl,hi,h1 =>
   have lb:=hB.len b (by simp)
   have lc:=hB.len c (by simp)
   have hl':=hl
   simp only [Q8,Q0] at hl'
   have h5:((A.length+2*bs:Nat):Int)≤n:=by omega
   have ea:A++(b::c::r).flatten++t=A++b++c++(r.flatten++t):=by simp
   rw [ea] at hl hi
   have hcf:=hB.cf
   rw [Z5,Z5] at hcf
   obtain ⟨M,p1,p2,p3⟩:=aLj (ver:=ver) (x0:=x0) (tl:=tl) hC hn (b.length+c.length) A b c (r.flatten++t) h (Nat.le_refl _) (by intro e;rw [e] at lb;simp at lb;omega) (by intro e;rw [e] at lc;simp at lc;omega) (hB.df b (by simp)) (hB.df c (by simp)) (hB.sf b (by simp)) (hB.sf c (by simp)) (hcf.1 c (by simp)) hl hE hi
   have lM:M.length=2*bs:=by rw [p1.length_eq,Q0,lb,lc];omega
   have g1:=aAr (y:=AObj.arr ver 1 x0 (eIs ((A++M)++r.flatten++t)++tl)) hi
   have eb:A++M++(r.flatten++t)=(A++M)++r.flatten++t:=by simp
   rw [eb,lb,lc] at p3
   have hB':Blocks K D bs r t:=⟨fun x hx=>hB.len x (by simp [hx]),hB.tl,fun x hx=>hB.sf x (by simp [hx]),hB.st,hcf.2.2,fun x hx=>hB.ct x (by simp [hx]),fun x hx=>hB.df x (by simp [hx]),hB.dt⟩
   obtain ⟨full',rest,k0,k1,k2,k3,k4,e⟩:=ih m (A++M) r _ (by simp at h1;omega) (by omega) hB' (by simp only [Q0,lM];omega) (hC.keep _ _ hE) g1
   refine ⟨M::full',rest,?_,fun x hx => ?_,fun x hx => ?_,?_,?_,?_⟩
   ·rcases k0 with k0 | ⟨x,k0,hx⟩
    ·exact .inl k0
    ·exact .inr ⟨x,k0,by simp [hx]⟩
   ·rcases Z8.1 hx with rfl | hx
    ·exact lM
    ·exact k1 x hx
   ·rcases Z8.1 hx with rfl | hx
    ·exact p2
    ·exact k2 x hx
   ·rw [List.cons_append,Z5]
    refine ⟨fun x hx u hu v hv => ?_,k3⟩
    have hv':v ∈ r.flatten:=by
     refine k4.mem_iff.1 ?_
     rw [← List.flatten_append]
     exact Q7.2 ⟨x,hx,hv⟩
    obtain ⟨y,hy,hvy⟩:=Q7.1 hv'
    rcases List.mem_append.1 (p1.mem_iff.1 hu) with hu | hu
    ·exact hcf.1 y (by simp [hy]) u hu v hvy
    ·exact hcf.2.1 y hy u hu v hvy
   ·simp only [Q8,Z7]
    have:=p1.append k4
    simpa using this
   ·rw [set_set] at e
    have e1:((A++M).length:Int)=((A.length+2*bs:Nat):Int):=by rw [Q0,lM]
    have e2:(((A++M).length+2*bs:Nat):Int)=((A.length+2*bs+2*bs:Nat):Int):=by rw [Q0,lM]
    have e3:A++M++full'.flatten=A++(M::full').flatten:=by simp
    rw [e1,e2,e3] at e
    have w0:IntKind.i64.wrap ((A.length:Int)+bs)=((A.length+bs:Nat):Int):=by rw [w64 (by omega) (by omega)];omega
    have w1:IntKind.i64.wrap (2*(bs:Int))=((2*bs:Nat):Int):=by rw [w64 (by omega) (by omega)];omega
    have w2:IntKind.i64.wrap (((A.length+2*bs:Nat):Int)+((2*bs:Nat):Int))=((A.length+2*bs+2*bs:Nat):Int):=by rw [w64 (by omega) (by omega)];omega
    rw [show A.length+bs+bs=A.length+2*bs by omega] at p3
    rw [← e]
    simp only [aAj,aBD,Zae,Zaf,Zag,Zah,Zai,Zak,Zan,Zao,Zar,Zav,Zay,Zbc,Zbd,Zbm,Zbo,Zbu,Zct,Zcu,Zcz,Zda,Zdb,Zdd,Zde,Zdf,Zdg,Zdh,Q4,Q5,Q2,Q3,Zdi,Zdk,Zdm,decide_true,eq_self,h5,w0,p3,Q1,Z0,w1,w2]
theorem aPe (hC:CmpOk i g caps K D E) (hn:n≤1000000000) (N:Nat) (hN:n < N):∀ (d m bs:Nat) (full:List (List Int)) (t:List Int) (h:aA0),n - bs≤d→d < m→0 < bs→bs≤2*n+20→Blocks K D bs full t→(full.flatten++t).length=n→E h→h[i]?=some (.arr ver 1 x0 (eIs (full.flatten++t)++tl)) →
  ∃ l',Z4 l' (full.flatten++t)∧aAO K l' ∧
   aAw (aA9 (lim G0.cfg) N aB7) m ⟨(.hsl i ver 0 n none::.int .i64 n::.fn (.func g) [] caps::J::J::J::.int .i64 bs::J::J::J::J::J::J::J::J::J::J::J::J::J::J::J::J::J::J::J::J::J::J::J::J::J::J::J::J::J::J::J::J::J::J::J::J::J::J::J::J::J::J::J::J::J::J::J::J::J::J::J::J::J::J::J::J::[]),h⟩=some (.exit 2,⟨(J::J::J::J::J::J::J::J::J::J::J::J::J::J::J::J::J::J::J::J::J::J::J::J::J::J::J::J::J::J::J::J::J::J::J::J::J::J::J::J::J::J::J::J::J::J::J::J::J::J::J::J::J::J::J::J::J::J::J::J::J::J::J::[]),h.set i (.arr ver 1 x0 (eIs l'++tl))⟩):=by
 intro d
 have base:∀ (m bs:Nat) (full:List (List Int)) (t:List Int) (h:aA0),n≤bs→0 < m→Blocks K D bs full t→(full.flatten++t).length=n→h[i]?=some (.arr ver 1 x0 (eIs (full.flatten++t)++tl)) →
   ∃ l',Z4 l' (full.flatten++t)∧aAO K l' ∧
   aAw (aA9 (lim G0.cfg) N aB7) m ⟨(.hsl i ver 0 n none::.int .i64 n::.fn (.func g) [] caps::J::J::J::.int .i64 bs::J::J::J::J::J::J::J::J::J::J::J::J::J::J::J::J::J::J::J::J::J::J::J::J::J::J::J::J::J::J::J::J::J::J::J::J::J::J::J::J::J::J::J::J::J::J::J::J::J::J::J::J::J::J::J::J::[]),h⟩=some (.exit 2,⟨(J::J::J::J::J::J::J::J::J::J::J::J::J::J::J::J::J::J::J::J::J::J::J::J::J::J::J::J::J::J::J::J::J::J::J::J::J::J::J::J::J::J::J::J::J::J::J::J::J::J::J::J::J::J::J::J::J::J::J::J::J::J::J::[]),h.set i (.arr ver 1 x0 (eIs l'++tl))⟩):=by
  intro m bs full t h h1 h2 hB hl hi
  obtain ⟨m,rfl⟩:∃ q,m=q+1:=⟨m - 1,by omega⟩
  have h5:¬ ((bs:Int) < n):=by omega
  refine ⟨full.flatten++t,.refl _,?_,?_⟩
  ·match full,hB,hl with
   | [],hB,hl=>simpa using hB.st
   | [b],hB,hl =>
    have lb:=hB.len b (by simp)
    have:t=[]:=by
     simp only [Q8,Q6,Q1,Q0] at hl
     exact Z6.1 (by omega)
    subst this
    simpa using hB.sf b (by simp)
   | b::c::r,hB,hl =>
    have lb:=hB.len b (by simp)
    have lc:=hB.len c (by simp)
    have:=hB.tl
    simp only [Q8,Q0] at hl
    omega
  ·rw [aBq hi]
   simp only [aAj,aCj,Zaf,Zag,Zah,Zak,Zal,Zan,Zao,Zap,Zaw,Zaz,Zbc,Zbm,Zbo,Zbu,Zcz,Zdb,Zdg,Zdh,Q4,Q5,Q2,Q3,Zdl,decide_false,eq_self,h5]
 induction d with
 | zero =>
  intro m bs full t h h1 h2 h3 h4 hB hl hE hi
  exact base m bs full t h (by omega) (by omega) hB hl hi
 | succ d ih =>
  intro m bs full t h h1 h2 h3 h4 hB hl hE hi
  by_cases q:bs < n
  case neg=>exact base m bs full t h (by omega) (by omega) hB hl hi
  case pos =>
  obtain ⟨m,rfl⟩:∃ q,m=q+1:=⟨m - 1,by omega⟩
  have h5:(bs:Int) < n:=by omega
  have hfl:full.length≤n:=by
   have:∀ fl:List (List Int),(∀ b ∈ fl,b.length=bs)→fl.length≤fl.flatten.length:=by
    intro fl
    induction fl with
    | nil=>intro _;simp
    | cons b r ihr =>
     intro hb
     have:=ihr (fun x hx=>hb x (by simp [hx]))
     have:=hb b (by simp)
     simp only [Q8,Z3,Q0];omega
   have:=this full hB.len
   rw [Q0] at hl;omega
  obtain ⟨full',rest,k0,k1,k2,k3,k4,e⟩:=aPd (ver:=ver) (x0:=x0) (tl:=tl) hC hn bs h3 (by omega) N t hB.tl full.length N [] full h (Nat.le_refl _) (by omega) hB hl hE hi
  simp only [Z0,Q9,z0,Nat.zero_add] at e
  have w1:IntKind.i64.wrap (2*(bs:Int))=((2*bs:Nat):Int):=by rw [w64 (by omega) (by omega)];omega
  have w3:IntKind.i64.wrap ((bs:Int)*2)=((2*bs:Nat):Int):=by rw [w64 (by omega) (by omega)];omega
  have hlen:(full'.flatten++rest.flatten).length=full.flatten.length:=k4.length_eq
  have hl':=hl
  rw [Q0] at hl' hlen
  have w2:IntKind.i64.wrap ((full'.flatten.length:Int)+bs)=((full'.flatten.length+bs:Nat):Int):=by rw [w64 (by omega) (by omega)];omega
  have hdf':∀ b ∈ full',∀ x ∈ b,D x:=fun b hb x hx=>by
   have:x ∈ full.flatten:=k4.mem_iff.1 (Z2 _ (Q7.2 ⟨b,hb,hx⟩))
   obtain ⟨y,hy,hxy⟩:=Q7.1 this
   exact hB.df y hy x hxy
  have hct':∀ b ∈ full',aIa b t:=fun b hb x hx z hz=>by
   have:x ∈ full.flatten:=k4.mem_iff.1 (Z2 _ (Q7.2 ⟨b,hb,hx⟩))
   obtain ⟨y,hy,hxy⟩:=Q7.1 this
   exact hB.ct y hy x hxy z hz
  have g1:=aAr (y:=AObj.arr ver 1 x0 (eIs (full'.flatten++rest.flatten++t)++tl)) hi
  -- the last two blocks
  have fin2:∃ t' h2,t'.length < 2*bs∧aAO K t'∧Z4 t' (rest.flatten++t)∧h2=h.set i (.arr ver 1 x0 (eIs (full'.flatten++t')++tl)) ∧
    (full'.flatten.length+bs < n→lim G0.cfg (.func 75) [.hsl i ver 0 n none,.int .i64 full'.flatten.length,.int .i64 ((full'.flatten.length+bs:Nat):Int),.int .i64 n,.fn (.func g) [] caps] (h.set i (.arr ver 1 x0 (eIs (full'.flatten++rest.flatten++t)++tl)))=some (AV.un,h2))∧(¬ full'.flatten.length+bs < n→h2=h.set i (.arr ver 1 x0 (eIs (full'.flatten++rest.flatten++t)++tl))):=by
   have htl:=hB.tl
   rcases k0 with rfl | ⟨b,rfl,hb⟩
   ·refine ⟨t,_,by omega,hB.st,by simp,rfl,fun hh => ?_,fun _=>by simp⟩
    simp only [Q6,Q9] at hlen
    omega
   ·have lb:=hB.len b hb
    simp only [Q8,Q6,Q1] at hlen g1 ⊢
    by_cases ht0:t=[]
    ·subst ht0
     refine ⟨b,_,by omega,hB.sf b hb,by simp,rfl,fun hh => ?_,fun _=>by simp⟩
     simp only [Q9] at hl'
     omega
    ·have pt:=List.length_pos_iff.2 ht0
     have lg:(full'.flatten++b++t++[]).length=n:=by simp only [Q0,Q9];omega
     obtain ⟨M,p1,p2,p3⟩:=aLj (ver:=ver) (x0:=x0) (tl:=tl) hC hn (b.length+t.length) full'.flatten b t [] _ (Nat.le_refl _) (by intro e;rw [e] at lb;simp at lb;omega) ht0 (hB.df b hb) hB.dt (hB.sf b hb) hB.st (hB.ct b hb) lg (hC.keep _ (.arr ver 1 x0 (eIs (full'.flatten++b++t)++tl)) hE) (by simpa using g1)
     rw [lb,Q1,set_set,show full'.flatten.length+bs+t.length=n by omega] at p3
     refine ⟨M,_,by rw [p1.length_eq,Q0];omega,p2,p1,rfl,fun _=>p3,fun hno=>absurd (by omega) hno⟩
  obtain ⟨t',h2,f1,f2,f3,f4,f5,f6⟩:=fin2
  have hB2:Blocks K D (2*bs) full' t':=⟨k1,f1,k2,f2,(Z9.1 k3).1,fun b hb x hx y hy=>by
   rcases List.mem_append.1 (f3.mem_iff.1 hy) with hy | hy
   ·obtain ⟨z,hz,hyz⟩:=Q7.1 hy
    exact (Z9.1 k3).2.2 b hb z hz x hx y hyz
   ·exact hct' b hb x hx y hy,hdf',fun x hx=>by
   rcases List.mem_append.1 (f3.mem_iff.1 hx) with hx | hx
   ·have:x ∈ full.flatten:=k4.mem_iff.1 (Z1 _ hx)
    obtain ⟨y,hy,hxy⟩:=Q7.1 this
    exact hB.df y hy x hxy
   ·exact hB.dt x hx⟩
  have hp:Z4 (full'.flatten++t') (full.flatten++t):=by
   refine (f3.append_left full'.flatten).trans ?_
   rw [← Z7]
   exact k4.append_right t
  obtain ⟨l',j1,j2,j3⟩:=ih m (2*bs) full' t' h2 (by omega) (by omega) (by omega) (by omega) hB2 (by rw [hp.length_eq];exact hl) (by rw [f4];exact hC.keep _ _ hE) (by rw [f4];exact aAr hi)
  refine ⟨l',j1.trans hp,j2,?_⟩
  have eh2:h2.set i (.arr ver 1 x0 (eIs l'++tl))=h.set i (.arr ver 1 x0 (eIs l'++tl)):=by rw [f4,set_set]
  rw [eh2] at j3
  rw [← j3]
  have cc:(((full'.flatten.length+bs:Nat):Int) < n)↔full'.flatten.length+bs < n:=by omega
  by_cases q2:full'.flatten.length+bs < n
  ·have r:=f5 q2
   simp only [aAj,aCj,Zae,Zaf,Zag,Zah,Zai,Zaj,Zak,Zan,Zao,Zar,Zat,Zav,Zax,Zay,Zbc,Zbd,Zbm,Zbo,Zbu,Zct,Zcu,Zcz,Zda,Zdb,Zdd,Zde,Zdf,Zdg,Zdh,Q4,Q5,Q2,Q3,Zdi,Zdk,Zdl,decide_true,eq_self,h5,w1,e,w2,cc,q2,r,Q1,Z0,w3]
  ·have r:=f6 q2
   rw [← r] at e
   simp only [aAj,aCj,Zae,Zaf,Zag,Zah,Zai,Zaj,Zak,Zan,Zao,Zar,Zat,Zav,Zaw,Zax,Zay,Zbc,Zbm,Zbo,Zbu,Zcz,Zda,Zdb,Zdf,Zdg,Zdh,Q4,Q5,Q2,Q3,Zdi,Zdk,Zdl,decide_true,decide_false,eq_self,h5,w1,e,w2,cc,q2,w3]
theorem aNw (hC:CmpOk i g caps K D E) (hn:n≤1000000000) (l:List Int) (h:aA0) (hD:∀ x ∈ l,D x) (hlt:l.Pairwise (· < ·)) (hl:l.length=n) (hE:E h) (hi:h[i]?=some (.arr ver 1 x0 (eIs l++tl))) :
  ∃ l',Z4 l' l∧aAO K l'∧lim G0.cfg (.func 66) [.hsl i ver 0 n none,.fn (.func g) [] caps] h=some (AV.un,h.set i (.arr ver 1 x0 (eIs l'++tl))):=by
 obtain ⟨full,t,k1,k2,k3,k4,k5,k6,k7,e⟩:=aPf (ver:=ver) (x0:=x0) (tl:=tl) hC hn (n+1) n (n+1) [] l h (by omega) (by omega) hD hlt (by simpa using hl) hE (by simpa using hi)
 simp only [Z0,Q9,z0,Nat.zero_add] at e
 have z20:((20:Nat):Int)=20:=rfl
 rw [z20] at e
 have g1:=aAr (y:=AObj.arr ver 1 x0 (eIs (full.flatten++t++[])++tl)) hi
 have hlen:=k7.length_eq
 have hlt':(full.flatten++t++[]).length=n:=by rw [Q1,hlen];exact hl
 have hdt:∀ x ∈ full.flatten++t,D x:=fun x hx=>hD x (k7.mem_iff.1 hx)
 obtain ⟨t',p1,p2,p3⟩:=aKa (ver:=ver) (x0:=x0) (tl:=tl) hC hn full.flatten t [] _ (fun x hx=>hdt x (Z1 _ hx)) k4 hlt' (hC.keep _ (.arr ver 1 x0 (eIs (full.flatten++t++[])++tl)) hE) g1
 rw [Q1,Q1,set_set,show full.flatten.length+t.length=n by rw [← Q0,hlen];exact hl] at p3
 have hB:Blocks K D 20 full t':=⟨k1,by rw [p1.length_eq];exact k2,k3,p2,k5,fun b hb x hx y hy=>k6 b hb x hx y (p1.mem_iff.1 hy),fun b hb x hx=>hdt x (Z2 _ (Q7.2 ⟨b,hb,hx⟩)),fun x hx=>hdt x (Z1 _ (p1.mem_iff.1 hx))⟩
 have hp:Z4 (full.flatten++t') l:=(p1.append_left _).trans k7
 obtain ⟨l',j1,j2,j3⟩:=aPe (ver:=ver) (x0:=x0) (tl:=tl) hC hn (n+1) (by omega) n (n+1) 20 full t' (h.set i (.arr ver 1 x0 (eIs (full.flatten++t')++tl))) (by omega) (by omega) (by omega) (by omega) hB (by rw [hp.length_eq];exact hl) (hC.keep _ _ hE) (aAr hi)
 rw [set_set,z20] at j3
 refine ⟨l',j1.trans hp,j2,?_⟩
 have st:lim G0.cfg (.func 72) [.hsl i ver 0 n none,.int .i64 n,.fn (.func g) [] caps] h=some (AV.un,h.set i (.arr ver 1 x0 (eIs l'++tl))):=by
  refine aB3 rfl aG7 (n+1) ?_
  rw [aG4]
  simp only [Zaf,Zag,Zai,Zaj,Zak,Zan,Zao,Zat,Zax,Zbd,Zbm,Zbo,Zct,Zcu,Zcx,Zcz,Zda,Zdb,Zdd,Zde,Zdf,Zdg,Zdh,Q4,Q5,Q2,Q3,Option.map_some,Z3,Q9,Nat.reduceAdd,Nat.reduceSub,eq_self,and_true,Z3,Q9,List.replicate_succ,List.replicate_zero,List.cons_append,Z0,e,p3,j3,Q1,aAa,aA8,Option.some.injEq,Prod.mk.injEq,and_true]
  rfl
 refine aB3 rfl aEB 1 ?_
 rw [aEA]
 simp only [Zaf,Zan,Zbc,Zbd,Zbm,Zbo,Zck,Zct,Zcu,Zcx,Zcz,Zda,Zdb,Zdd,Zde,Q4,Q5,Q2,Q3,Option.map_some,Zdz,Z3,Q9,Nat.reduceAdd,Nat.reduceSub,eq_self,and_true,Z3,Q9,List.replicate_succ,List.replicate_zero,List.cons_append,Z0,st,Q1,aAa,aA8,Option.some.injEq,Prod.mk.injEq,and_true]
 rfl
end
end Go.Proofs.Ytgeedikghjcebaa.Ai
namespace Go.Proofs.Ytgeedikghjcebaa.Ai
open Go Go.Proofs
open AV renaming junk → J
open List renaming set_cons_zero → Q0, length_cons → Q1, getD_cons_zero → Q2, getD_cons_succ → Q3, length_nil → Q4, set_cons_succ → Q5, cons_append → Q6, drop_zero → Q7, nil_append → Q8, take_succ_cons → Q9, replicate_succ → Z0, replicate_zero → Z1, drop_eq_getElem_cons → Z4, take_nil → Z5, drop_eq_nil_iff → Z7
open Option renaming bind_some → Z2, map_some → Z3
open Option.some renaming injEq → Z6
set_option linter.unusedVariables false
set_option linter.unusedSimpArgs false
set_option maxRecDepth 10000
set_option maxHeartbeats 4000000
def aCZ (l:List Int):Nat:=l.countP fun x=>decide (x≠0)
theorem aTl (l:List Int) {x:Int} (h:x=0):aCZ (x::l)=aCZ l:=by
 unfold aCZ
 rw [List.countP_cons_of_neg]
 simp [h]
theorem aTk (l:List Int) {x:Int} (h:x≠0):aCZ (x::l)=aCZ l+1:=by
 unfold aCZ
 rw [List.countP_cons_of_pos]
 simp [h]
def aBh (s:List (List Int) × List Int) (r:List Int):List (List Int) × List Int :=
 (if s.1.findIdx (fun x=>decide (x=r))=s.1.length then s.1++[r] else s.1,s.2++[((s.1.findIdx (fun x=>decide (x=r)):Nat):Int)])
def aAV (rows:List (List Int)):List (List Int) × List Int:=rows.foldl aBh ([],[])
def LiR (rows:List (List Int)) (v:AV):Prop:=(rows=[]∧v=.nilS)∨∃ e cs,v=.vsl e cs∧cs.length=rows.length∧∀ (j:Nat) (hj:j < rows.length),∃ rv,cs[j]?=some [rv]∧Li rows[j] rv
theorem LiR.len {l:List (List Int)} {v:AV} (hl:LiR l v) (h:aA0):aBX h .slice v=some (.int .i64 l.length):=by
 rcases hl with ⟨rfl,rfl⟩ | ⟨e,cs,rfl,h1,_⟩
 ·rfl
 ·simp [aBX,h1]
theorem LiR.ix {l:List (List Int)} {v:AV} (hl:LiR l v) (j:Nat) (hj:j < l.length):∃ rv,Li l[j] rv∧∀ (h:aA0) (k:IntKind),aAN h 1 v (.int k j)=some (.vptr [rv] 0):=by
 rcases hl with ⟨rfl,rfl⟩ | ⟨e,cs,rfl,h1,h2⟩
 ·simp at hj
 ·obtain ⟨rv,h3,h4⟩:=h2 j hj
  exact ⟨rv,h4,fun h k=>by simp [aAN,h3]⟩
theorem LiR.fz {l:List (List Int)} {v:AV} (hl:LiR l v) (h:aA0) (d:Nat):freeze h (d+1) v=some (v,true):=by
 rcases hl with ⟨rfl,rfl⟩ | ⟨e,cs,rfl,_⟩ <;> rfl
theorem Li.pure1 {l:List Int} {v:AV} (hl:Li l v):Ai.pure1 v=true:=by
 rcases hl with ⟨rfl,rfl⟩ | ⟨e,rfl⟩ <;> rfl
theorem aJg {a b:List Int} {v w:AV} (ha:Li a v) (hb:Li b w) (hm:a.length≤1000000000) (H:aA0):lim G0.cfg (.func 54) [v,w] H=some (.bool (decide (a=b)),H):=by
 refine aAP rfl rfl aLA (a.length+1) (fun h=>aHF (ha.fz h 999) (hb.fz h 999)) ?_ (fun _=>rfl) H
 have la:=ha.len
 have lb:=hb.len
 have loop:a.length=b.length→∀ (d i m:Nat),a.length=i+d→d < m→aAw (aA9 (lim G0.cfg) (a.length+1) aCI) m ⟨[v,w,J,J,J,J,J,J,J,J,J,J,.int .i64 a.length,.int .i64 i,J,J,J,J,J,J,J,J,J,J,J,J],[]⟩=bif decide (a.drop i=b.drop i) then some (.exit 0,⟨[J,J,J,J,J,J,J,J,J,J,J,J,J,J,J,J,J,J,J,J,J,J,J,J,J,J],[]⟩) else some (.ret,⟨[J,J,J,J,.bool false,J,J,J,J,J,J,J,J,J,J,J,J,J,J,J,J,J,J,J,J,J],[]⟩):=by
  intro hl d
  induction d with
  | zero =>
   intro i m h1 h2
   obtain ⟨m,rfl⟩:∃ q,m=q+1:=⟨m - 1,by omega⟩
   have h3:¬ ((i:Int) < a.length):=by omega
   have q1:a.drop i=[]:=Z7.2 (by omega)
   have q2:b.drop i=[]:=Z7.2 (by omega)
   rw [q1,q2]
   simp only [aAj,aEd,Zaf,Zag,Zah,Zak,Zal,Zan,Zao,Zap,Zaw,Zaz,Zbc,Zbm,Zbu,Zcz,Zdb,Zdg,Zdh,Q0,Q5,Q2,Q3,Zdl,decide_true,decide_false,eq_self,cond_true,h3]
  | succ d ih =>
   intro i m h1 h2
   obtain ⟨m,rfl⟩:∃ q,m=q+1:=⟨m - 1,by omega⟩
   have h3:i < a.length:=by omega
   have h4:i < b.length:=by omega
   have h3':(i:Int) < a.length:=by omega
   have hw:=aC7 (n:=i) (by omega)
   have q1:a.drop i=a[i]::a.drop (i+1):=Z4 h3
   have q2:b.drop i=b[i]::b.drop (i+1):=Z4 h4
   have xa:=fun h=>ha.ix h .i64 i h3
   have xb:=fun h=>hb.ix h .i64 i h4
   rw [q1,q2]
   by_cases e:a[i]=b[i]
   case pos =>
    have e1:decide (a[i]::a.drop (i+1)=b[i]::b.drop (i+1))=decide (a.drop (i+1)=b.drop (i+1)):=by rw [decide_eq_decide,e,List.cons.injEq];simp only [true_and]
    have e2:decide (a[i]=b[i])=true:=decide_eq_true e
    rw [e1,← ih (i+1) m (by omega) (by omega)]
    simp only [aAj,aEd,Zae,Zaf,Zag,Zah,Zai,Zak,Zan,Zao,Zar,Zav,Zaw,Zay,Zbc,Zbm,Zbo,Zbs,Zbu,Zcf,Zcz,Zda,Zdb,Zdf,Zdg,Zdh,Q0,Q5,Q2,Q3,Z2,Zdi,Zdl,Zdq,Zed,decide_true,Bool.not_true,Q1,Q4,if_true,Nat.reduceAdd,Nat.reduceLeDiff,eq_self,aAb,aAM,part,eI,Q7,Q9,Z5,Q0,h3',xa,xb,e2,hw]
   case neg =>
    have e1:decide (a[i]::a.drop (i+1)=b[i]::b.drop (i+1))=false:=decide_eq_false fun h=>e (List.cons.inj h).1
    have e2:decide (a[i]=b[i])=false:=decide_eq_false e
    rw [e1]
    simp only [aAj,aEd,Zae,Zaf,Zag,Zah,Zai,Zak,Zam,Zan,Zao,Zaq,Zas,Zav,Zba,Zbc,Zbm,Zbo,Zbs,Zbu,Zcf,Zcz,Zda,Zdb,Zdf,Zdg,Zdh,Q0,Q5,Q2,Q3,Z2,Zdl,Zdq,Zed,decide_true,Bool.not_false,Q1,Q4,if_true,Nat.reduceAdd,Nat.reduceLeDiff,eq_self,cond_false,aAb,aAM,part,eI,Q7,Q9,Z5,Q0,h3',xa,xb,e2]
 rw [aLx]
 by_cases q:(a.length:Int)=b.length
 case neg =>
  have e1:decide (a=b)=false:=decide_eq_false fun h=>q (by rw [h])
  have e2:decide ((a.length:Int)=b.length)=false:=decide_eq_false q
  rw [e1]
  simp only [Zaf,Zag,Zah,Zam,Zan,Zao,Zaq,Zav,Zbc,Zbm,Zbo,Zbu,Zck,Zcy,Zcz,Zda,Zdb,Q0,Q5,Q2,Q3,Z3,Zdq,Bool.not_false,Q1,Q4,Nat.reduceAdd,Nat.reduceSub,eq_self,true_and,Q1,Q4,Z0,Z1,Q6,Q8,la,lb,e2,aAa,aA8,aAc,Z6,Prod.mk.injEq,true_and,exists_eq']
 case pos =>
  have e2:decide ((a.length:Int)=b.length)=true:=decide_eq_true q
  have e:=loop (by omega) a.length 0 (a.length+1) (by omega) (by omega)
  rw [Q7,Q7,z0] at e
  by_cases q2:a=b
  ·rw [decide_eq_true q2,cond_true] at e
   rw [decide_eq_true q2]
   simp only [Zae,Zaf,Zag,Zah,Zai,Zaj,Zak,Zam,Zan,Zao,Zat,Zaw,Zax,Zbc,Zbm,Zbo,Zbu,Zck,Zcy,Zcz,Zda,Zdb,Zdf,Zdg,Zdh,Q0,Q5,Q2,Q3,Z3,Zdq,Bool.not_true,Q1,Q4,Nat.reduceAdd,Nat.reduceSub,eq_self,true_and,Q1,Q4,Z0,Z1,Q6,Q8,la,lb,e2,e,aAa,aA8,aAc,Z6,Prod.mk.injEq,true_and,exists_eq']
  ·rw [decide_eq_false q2,cond_false] at e
   rw [decide_eq_false q2]
   simp only [Zae,Zaf,Zag,Zah,Zai,Zaj,Zak,Zan,Zao,Zaq,Zas,Zaw,Zax,Zbc,Zbm,Zbo,Zbu,Zck,Zcy,Zcz,Zda,Zdb,Zdf,Zdg,Zdh,Q0,Q5,Q2,Q3,Z3,Zdq,Bool.not_true,Q1,Q4,Nat.reduceAdd,Nat.reduceSub,eq_self,true_and,Q1,Q4,Z0,Z1,Q6,Q8,la,lb,e2,e,aAa,aA8,aAc,Z6,Prod.mk.injEq,true_and,exists_eq']
theorem aT9 {a:List Int} {v:AV} (ha:Li a v) (hm:a.length≤1000000000) (H:aA0):lim G0.cfg (.func 65) [v] H=some (.int .i64 (aCZ a),H):=by
 refine aAP rfl rfl aOv (a.length+1) (fun h=>aES (ha.fz h 999)) ?_ (fun _=>rfl) H
 have la:=ha.len
 have loop:∀ (d i m c:Nat),a.length=i+d→d < m→c≤i→aAw (aA9 (lim G0.cfg) (a.length+1) aDJ) m ⟨[J,J,J,.int .i64 c,J,J,v,.int .i64 a.length,.int .i64 i,J,J,J,J,J,J,J,J,J],[]⟩=some (.exit 0,⟨[J,J,J,.int .i64 ((c+aCZ (a.drop i):Nat):Int),J,J,J,J,J,J,J,J,J,J,J,J,J,J],[]⟩):=by
  intro d
  induction d with
  | zero =>
   intro i m c h1 h2 h3
   obtain ⟨m,rfl⟩:∃ q,m=q+1:=⟨m - 1,by omega⟩
   have h4:¬ ((i:Int) < a.length):=by omega
   have q1:a.drop i=[]:=Z7.2 (by omega)
   have q2:c+aCZ []=c:=rfl
   rw [q1,q2]
   simp only [aAj,aFD,Zaf,Zag,Zah,Zak,Zal,Zan,Zao,Zap,Zaw,Zaz,Zbc,Zbm,Zbu,Zcz,Zdb,Zdf,Zdg,Zdh,Q0,Q5,Q2,Q3,Zdl,decide_false,eq_self,h4]
  | succ d ih =>
   intro i m c h1 h2 h3
   obtain ⟨m,rfl⟩:∃ q,m=q+1:=⟨m - 1,by omega⟩
   have h4:i < a.length:=by omega
   have h4':(i:Int) < a.length:=by omega
   have hw:=aC7 (n:=i) (by omega)
   have hw2:=aC7 (n:=c) (by omega)
   have q1:a.drop i=a[i]::a.drop (i+1):=Z4 h4
   have xa:=fun h=>ha.ix h .i64 i h4
   rw [q1]
   by_cases e:a[i]=0
   case pos =>
    have e1:aCZ (a[i]::a.drop (i+1))=aCZ (a.drop (i+1)):=aTl _ e
    have e2:decide (a[i]=0)=true:=decide_eq_true e
    rw [e1,← ih (i+1) m c (by omega) (by omega) (by omega)]
    simp only [aAj,aFD,Zae,Zaf,Zag,Zah,Zai,Zak,Zan,Zao,Zar,Zav,Zaw,Zay,Zbc,Zbm,Zbo,Zbs,Zbu,Zcf,Zcz,Zda,Zdb,Zdf,Zdg,Zdh,Q0,Q5,Q2,Q3,Z2,Zdi,Zdl,Zdq,Zed,decide_true,Bool.not_true,Q1,Q4,if_true,Nat.reduceAdd,Nat.reduceLeDiff,eq_self,aAb,aAM,part,eI,Q7,Q9,Z5,Q0,h4',xa,e2,hw]
   case neg =>
    have e1:c+aCZ (a[i]::a.drop (i+1))=(c+1)+aCZ (a.drop (i+1)):=by rw [aTk _ e];omega
    have e2:decide (a[i]=0)=false:=decide_eq_false e
    rw [e1,← ih (i+1) m (c+1) (by omega) (by omega) (by omega)]
    simp only [aAj,aFD,Zae,Zaf,Zag,Zah,Zai,Zak,Zan,Zao,Zar,Zav,Zay,Zbc,Zbm,Zbo,Zbs,Zbu,Zcf,Zcz,Zda,Zdb,Zdf,Zdg,Zdh,Q0,Q5,Q2,Q3,Z2,Zdi,Zdl,Zdq,Zed,decide_true,Bool.not_false,Q1,Q4,if_true,Nat.reduceAdd,Nat.reduceLeDiff,eq_self,aAb,aAM,part,eI,Q7,Q9,Z5,Q0,h4',xa,e2,hw,hw2]
 have e:=loop a.length 0 (a.length+1) 0 (by omega) (by omega) (by omega)
 rw [Q7,Nat.zero_add,z0] at e
 rw [aOr]
 simp only [Zaf,Zag,Zai,Zaj,Zak,Zam,Zan,Zao,Zat,Zax,Zbc,Zbm,Zbo,Zck,Zcy,Zcz,Zda,Zdb,Zdf,Zdg,Zdh,Q0,Q5,Q2,Q3,Z3,Q1,Q4,Nat.reduceAdd,Nat.reduceSub,eq_self,true_and,Q1,Q4,Z0,Z1,Q6,Q8,la,e,aAa,aA8,aAc,Z6,Prod.mk.injEq,true_and,exists_eq']
theorem aSf {a b:List Int} {v w:AV} (ha:Li a v) (hb:Li b w) (hm:a.length≤1000000000) (H:aA0):lim G0.cfg (.func 63) [v,.vptr [w] 0] H=some (.bool (decide (a=b)),H):=by
 have hb':freeze H 1000 (.vptr [w] 0)=some (.vptr [w] 0,true):=rfl
 refine aAP rfl rfl aNY 1 (fun h=>aHF (ha.fz h 999) rfl) ?_ (fun _=>rfl) H
 have fs:=aJg ha hb hm
 rw [aNT]
 simp only [Zaf,Zag,Zam,Zan,Zao,Zbc,Zbd,Zbm,Zbo,Zbs,Zct,Zcu,Zcy,Zcz,Zda,Zdb,Zdd,Zde,Q0,Q5,Q2,Q3,Z2,Z3,Zed,Q1,Q4,if_true,Nat.reduceAdd,Nat.reduceSub,Nat.reduceLeDiff,eq_self,true_and,Q1,Q4,Z0,Z1,Q6,Q8,aAb,aAM,part,Q7,Q9,Z5,Q6,Q8,Q0,fs,aAa,aA8,aAc,Z6,Prod.mk.injEq,true_and,exists_eq']
theorem aOh {rows:List (List Int)} {v:AV} (hr:LiR rows v) {b:List Int} {w:AV} (hb:Li b w) (hn:rows.length≤1000000000) (hm:∀ r ∈ rows,r.length≤1000000000) (N:Nat) (hN:rows.length < N) :
  aB8 (lim G0.cfg) N aBi [v,.fn (.func 63) [] [.vptr [w] 0]] []=some (.int .i64 (if rows.findIdx (fun x=>decide (x=b))=rows.length then -1 else (rows.findIdx (fun x=>decide (x=b)):Nat)),[]):=by
 have lr:=hr.len
 have loop:∀ (d i m:Nat),rows.length=i+d→d < m→aAw (aA9 (lim G0.cfg) N aAR) m ⟨[v,.fn (.func 63) [] [.vptr [w] 0],J,J,J,J,J,.int .i64 rows.length,.int .i64 i,J,J,J,J,J,J,J,J,J,J],[]⟩ =
   if (rows.drop i).findIdx (fun x=>decide (x=b))=(rows.drop i).length then some (.exit 0,⟨[J,J,J,J,J,J,J,J,J,J,J,J,J,J,J,J,J,J,J],[]⟩) else some (.ret,⟨[J,J,J,J,.int .i64 ((i+(rows.drop i).findIdx (fun x=>decide (x=b)):Nat):Int),J,J,J,J,J,J,J,J,J,J,J,J,J,J],[]⟩):=by
  intro d
  induction d with
  | zero =>
   intro i m h1 h2
   obtain ⟨m,rfl⟩:∃ q,m=q+1:=⟨m - 1,by omega⟩
   have h3:¬ ((i:Int) < rows.length):=by omega
   have q1:rows.drop i=[]:=Z7.2 (by omega)
   rw [q1,if_pos (by simp)]
   simp only [aAj,aC0,Zaf,Zag,Zah,Zak,Zal,Zan,Zao,Zap,Zaw,Zaz,Zbc,Zbm,Zbu,Zcz,Zdb,Zdg,Zdh,Q0,Q5,Q2,Q3,Zdl,decide_false,eq_self,h3]
  | succ d ih =>
   intro i m h1 h2
   obtain ⟨m,rfl⟩:∃ q,m=q+1:=⟨m - 1,by omega⟩
   have h3:i < rows.length:=by omega
   have h3':(i:Int) < rows.length:=by omega
   have hw:=aC7 (n:=i) (by omega)
   have q1:rows.drop i=rows[i]::rows.drop (i+1):=Z4 h3
   obtain ⟨rv,hrv,xr⟩:=hr.ix i h3
   have xr':=fun h=>xr h .i64
   have fs:=aSf hrv hb (hm _ (List.getElem_mem h3))
   rw [q1,List.findIdx_cons]
   by_cases e:rows[i]=b
   case pos =>
    have e2:decide (rows[i]=b)=true:=decide_eq_true e
    rw [e2,cond_true,if_neg (by rw [Q1];omega)]
    simp only [aAj,aC0,Zae,Zaf,Zag,Zah,Zai,Zak,Zam,Zan,Zao,Zaq,Zas,Zav,Zba,Zbc,Zbd,Zbm,Zbo,Zbs,Zbu,Zcf,Zct,Zcu,Zcz,Zdb,Zdd,Zde,Zdf,Zdg,Zdh,Q0,Q5,Q2,Q3,Z2,Zdl,Zed,decide_true,Q1,Q4,if_true,Nat.reduceAdd,Nat.reduceLeDiff,eq_self,aAb,aAM,part,Q7,Q9,Z5,Q6,Q8,Q0,h3',xr',fs,e2,Nat.add_zero]
   case neg =>
    have e2:decide (rows[i]=b)=false:=decide_eq_false e
    have e3:=ih (i+1) m (by omega) (by omega)
    rw [e2,cond_false]
    have e4:aAw (aA9 (lim G0.cfg) N aAR) (m+1) ⟨[v,.fn (.func 63) [] [.vptr [w] 0],J,J,J,J,J,.int .i64 rows.length,.int .i64 i,J,J,J,J,J,J,J,J,J,J],[]⟩=aAw (aA9 (lim G0.cfg) N aAR) m ⟨[v,.fn (.func 63) [] [.vptr [w] 0],J,J,J,J,J,.int .i64 rows.length,.int .i64 ((i+1:Nat):Int),J,J,J,J,J,J,J,J,J,J],[]⟩:=by
     simp only [aAj,aC0,Zae,Zaf,Zag,Zah,Zai,Zak,Zan,Zao,Zar,Zav,Zaw,Zay,Zbc,Zbd,Zbm,Zbo,Zbs,Zbu,Zcf,Zct,Zcu,Zcz,Zda,Zdb,Zdd,Zde,Zdf,Zdg,Zdh,Q0,Q5,Q2,Q3,Z2,Zdi,Zdl,Zed,decide_true,Q1,Q4,if_true,Nat.reduceAdd,Nat.reduceLeDiff,eq_self,aAb,aAM,part,Q7,Q9,Z5,Q6,Q8,Q0,h3',xr',fs,e2,hw]
    rw [e4,e3,Q1]
    by_cases e5:(rows.drop (i+1)).findIdx (fun x=>decide (x=b))=(rows.drop (i+1)).length
    ·rw [if_pos e5,if_pos (by omega)]
    ·rw [if_neg e5,if_neg (by omega),show i+1+(rows.drop (i+1)).findIdx (fun x=>decide (x=b))=i+((rows.drop (i+1)).findIdx (fun x=>decide (x=b))+1) by omega]
 have e:=loop rows.length 0 N (by omega) hN
 rw [Q7,z0,Nat.zero_add] at e
 rw [aFe]
 by_cases q:rows.findIdx (fun x=>decide (x=b))=rows.length
 ·rw [if_pos q] at e
  rw [if_pos q]
  simp only [Zaf,Zag,Zai,Zaj,Zak,Zam,Zan,Zao,Zat,Zax,Zbc,Zbm,Zbo,Zck,Zcy,Zcz,Zda,Zdb,Zdf,Zdg,Zdh,Q0,Q5,Q2,Q3,Z3,Q1,Q4,Nat.reduceAdd,Nat.reduceSub,Int.reduceNeg,eq_self,Q1,Q4,Z0,Z1,Q6,Q8,lr,e,aAa,aA8,aAc]
 ·rw [if_neg q] at e
  rw [if_neg q]
  simp only [Zaf,Zag,Zai,Zaj,Zak,Zan,Zao,Zaq,Zas,Zax,Zbc,Zbm,Zbo,Zck,Zcy,Zcz,Zda,Zdb,Zdf,Zdg,Zdh,Q0,Q5,Q2,Q3,Z3,Q1,Q4,Nat.reduceAdd,Nat.reduceSub,Int.reduceNeg,eq_self,Q1,Q4,Z0,Z1,Q6,Q8,lr,e,aAa,aA8,aAc]
end Go.Proofs.Ytgeedikghjcebaa.Ai
namespace Go.Proofs.Ytgeedikghjcebaa.Ai
open Go Go.Proofs
open List renaming replicate → Q0, length_cons → Q1, length_nil → Q2, length_replicate → Q3, nil_append → Q5, getD_cons_zero → Q6, getD_cons_succ → Q7, replicate_succ → Q8, replicate_zero → Q9
open Option renaming map_some → Q4
set_option linter.unusedVariables false
set_option linter.unusedSimpArgs false
set_option maxRecDepth 10000
set_option maxHeartbeats 4000000
theorem aPT {h:aA0} {i n m c len:Nat} {cc:Option Nat} {rows:List (List AV)} (hi:h[i]?=some (.arr 0 1 true rows)) (h1:len≤rows.length) (h2:n≤m) (h3:m≤aEM rows.length cc) (h4:aEM rows.length cc≤rows.length):aBs h 1 (.hsl i 0 0 len cc) none (some (.int .i64 n)) (some (.int .i64 m))=some (.hsl i 0 0 n (some m)):=by
 have hb:aC1 len (aEM (rows.length - 0) cc) none (some (.int .i64 n)) (some (.int .i64 m))=some (0,n,some m):=by
  rw [Nat.sub_zero]
  simp only [aC1,aDj,Option.getD_none,Option.getD_some,Option.isSome_some]
  rw [if_pos ⟨by omega,by omega,by omega⟩,if_pos ⟨by omega,by omega,trivial⟩]
  simp
 have hc:True∧0+len≤rows.length:=⟨trivial,by omega⟩
 simp only [aBs,aAk,hi,if_true]
 rw [if_pos hc,hb]
 simp
theorem aOJ {l:List Int} {v:AV} {h:aA0} {q:Option Nat} (hg:aAW l v h q) (n:Nat) (hn:n≤10000000) (hl:l.length≤10000000) :
  ∃ (v':AV) (h':aA0) (q':Option Nat),lim G0.cfg (.func 70) [v,.int .i64 n] h=some (v',h')∧aAW (aEr l n) v' h' q'∧(∀ (j:Nat) (o:AObj),h[j]?=some o→h'[j]?=some o)∧(q'=q∨q'=some h.length)∧h.length≤h'.length:=by
 have ll:=hg.len
 by_cases p1:(n:Int)≤l.length
 case pos =>
  refine ⟨v,h,q,aB3 rfl aH5 1 ?_,by rw [aQj (by omega)];exact hg,fun _ _ e=>e,.inl rfl,Nat.le_refl _⟩
  rw [aH4]
  simp only [Zaf,Zag,Zah,Zai,Zam,Zan,Zao,Zaq,Zas,Zav,Zbc,Zbm,Zbo,Zbu,Zck,Zcy,Zcz,Zda,Zdb,List.set_cons_zero,List.set_cons_succ,Q6,Q7,Q4,Zdm,decide_true,Q1,Q2,Nat.reduceAdd,Nat.reduceSub,eq_self,Q1,Q2,Q8,Q9,List.cons_append,Q5,ll,p1,aAa,aA8,aAc]
 case neg =>
 -- a new row
 have fresh:(∃ c:Nat,(∀ h':aA0,(∀ (j:Nat) (o:AObj),h[j]?=some o→h'[j]?=some o)→aEs h' v=some (.int .i64 c))∧c < n)→(∀ h':aA0,(∀ (j:Nat) (o:AObj),h[j]?=some o→h'[j]?=some o)→aAC h' 1 v=some (eIs l)) →
   ∃ (v':AV) (h':aA0) (q':Option Nat),lim G0.cfg (.func 70) [v,.int .i64 n] h=some (v',h')∧aAW (aEr l n) v' h' q'∧(∀ (j:Nat) (o:AObj),h[j]?=some o→h'[j]?=some o)∧(q'=q∨q'=some h.length)∧h.length≤h'.length:=by
  intro hc he
  obtain ⟨c,hc1,hc2⟩:=hc
  have c1:=hc1 h (fun _ _ e=>e)
  have hcn:(c:Int) < n:=by omega
  have w1:IntKind.i64.wrap (2*(n:Int))=((2*n:Nat):Int):=by rw [w64 (by omega) (by omega)];omega
  have mk:amk h 1 8 [.int .i64 0] (.int .i64 0) (.int .i64 ((2*n:Nat):Int))=some (.hsl h.length 0 0 0 none,h++[.arr 0 1 true (Q0 (2*n) [.int .i64 0])]):=by
   simp only [amk]
   rw [if_pos ⟨by omega,by omega,by omega⟩]
   have:((2*n:Nat):Int).toNat=2*n:=by omega
   rw [this]
   rfl
  have hpre:∀ (j:Nat) (o:AObj),h[j]?=some o→(h++[AObj.arr 0 1 true (Q0 (2*n) [.int .i64 0])])[j]?=some o:=fun j o e=>aAJ e _
  have e1:=he _ hpre
  have hnew:(h++[AObj.arr 0 1 true (Q0 (2*n) [.int .i64 0])])[h.length]?=some (.arr 0 1 true (Q0 (2*n) [.int .i64 0])):=aBz _ _
  have app:aD9 (h++[.arr 0 1 true (Q0 (2*n) [.int .i64 0])]) 1 8 (.hsl h.length 0 0 0 none) v=some (.hsl h.length 0 0 l.length none,h++[.arr 0 1 true (eIs l++Q0 (2*n - l.length) [.int .i64 0])]):=by
   unfold aD9
   rw [e1]
   simp only [Option.elim_some,aCP,Zet]
   by_cases l0:l.length=0
   ·have:l=[]:=List.length_eq_zero_iff.1 l0
    subst this
    rw [if_pos l0]
    simp only [aIz,aAk,hnew,if_true,Q4]
    simp [eIs]
   ·rw [if_neg l0]
    simp only [aCS,aAk,hnew,if_true]
    rw [if_pos ⟨trivial,by simp⟩,if_pos ⟨by rw [Zet,Q3];omega,rfl⟩,if_pos (aEp l)]
    simp only [Nat.zero_add,List.take_zero,Q5,Zet,List.drop_replicate,aGL]
  have hnew2:(h++[AObj.arr 0 1 true (eIs l++Q0 (2*n - l.length) [.int .i64 0])])[h.length]?=some (.arr 0 1 true (eIs l++Q0 (2*n - l.length) [.int .i64 0])):=aBz _ _
  have hrl:(eIs l++Q0 (2*n - l.length) [AV.int .i64 0]).length=2*n:=by rw [List.length_append,Zet,Q3];omega
  have cap2:aEs (h++[.arr 0 1 true (eIs l++Q0 (2*n - l.length) [.int .i64 0])]) (.hsl h.length 0 0 l.length none)=some (.int .i64 ((2*n:Nat):Int)):=by
   simp only [aEs,aAk,hnew2,if_true,hrl,Nat.sub_zero]
  have sl:=aPT (n:=n) (m:=2*n) (len:=l.length) (cc:=none) (c:=0) hnew2 (by rw [hrl];omega) (by omega) (by simp only [aEM];rw [hrl];omega) (by simp only [aEM];omega)
  refine ⟨.hsl h.length 0 0 n (some (2*n)),_,some h.length,aB3 rfl aH5 1 ?_,.inr ⟨h.length,2*n,rfl,by rw [aE7,Nat.max_eq_right (by omega)],by rw [aE7];omega,by rw [← aMG (n:=n) (by omega) (by omega)];exact hnew2⟩,fun j o e=>aAJ e _,.inr rfl,by simp⟩
  rw [aH4]
  simp only [Zaf,Zag,Zah,Zai,Zam,Zan,Zao,Zar,Zav,Zaw,Zbc,Zbd,Zbm,Zbo,Zbu,Zbz,Zca,Zck,Zcl,Zcm,Zcy,Zcz,Zda,Zdb,List.set_cons_zero,List.set_cons_succ,Q6,Q7,Q4,Zdk,Zdm,Zdn,decide_true,decide_false,Q1,Q2,Nat.reduceAdd,Nat.reduceSub,eq_self,Q1,Q2,Q8,Q9,List.cons_append,Q5,ll,p1,c1,hcn,w1,mk,app,cap2,Option.map_none,sl,aAa,aA8,aAc]
 rcases hg with ⟨h1,h2,h3⟩ | ⟨i,c,h1,h2,h3,h4⟩
 ·subst h1 h2
  exact fresh ⟨0,fun _ _=>rfl,by simp at p1;omega⟩ (fun _ _=>rfl)
 ·subst h2
  have ca:∀ h':aA0,(∀ (j:Nat) (o:AObj),h[j]?=some o→h'[j]?=some o)→aEs h' (.hsl i 0 0 l.length (some c))=some (.int .i64 c):=fun h' hp=>by
   have e4:=hp i _ h4
   simp only [aEs,aAk,e4,if_true]
  by_cases p2:(c:Int) < n
  ·refine fresh ⟨c,ca,by omega⟩ (fun h' hp => ?_)
   ·have hrl:(eIs l++Q0 (c - l.length) [AV.int .i64 0]).length=c:=by rw [List.length_append,Zet,Q3];omega
    have e4:=hp i _ h4
    simp only [aAC,aAk,e4,if_true]
    rw [if_pos ⟨trivial,by rw [hrl];omega⟩,List.drop_zero]
    congr 1
    have:=List.take_left' (l₁:=eIs l) (l₂:=Q0 (c - l.length) [AV.int .i64 0]) (i:=l.length) (Zet l)
    exact this
  ·have hrl:(eIs l++Q0 (c - l.length) [AV.int .i64 0]).length=c:=by rw [List.length_append,Zet,Q3];omega
   have c1:=ca h (fun _ _ e=>e)
   have sl:=aPT (n:=n) (m:=c) (len:=l.length) (cc:=some c) (c:=0) h4 (by rw [hrl];omega) (by omega) (by simp only [aEM];omega) (by simp only [aEM];rw [hrl];omega)
   refine ⟨.hsl i 0 0 n (some c),h,q,aB3 rfl aH5 1 ?_,.inr ⟨i,c,h1,by rw [aE7,Nat.max_eq_right (by omega)],by rw [aE7];omega,by rw [← aMG (n:=n) (by omega) (by omega)];exact h4⟩,fun _ _ e=>e,.inl rfl,Nat.le_refl _⟩
   rw [aH4]
   simp only [Zae,Zaf,Zag,Zah,Zai,Zam,Zan,Zao,Zar,Zaw,Zbc,Zbm,Zbo,Zbu,Zca,Zck,Zcl,Zcy,Zcz,Zda,Zdb,List.set_cons_zero,List.set_cons_succ,Q6,Q7,Q4,Zdm,Zdn,decide_false,Q1,Q2,Nat.reduceAdd,Nat.reduceSub,eq_self,Q1,Q2,Q8,Q9,List.cons_append,Q5,ll,p1,c1,p2,Option.map_none,sl,aAa,aA8,aAc]
end Go.Proofs.Ytgeedikghjcebaa.Ai
namespace Go.Proofs.Ytgeedikghjcebaa.Ai
open Go Go.Proofs
open AV renaming junk → J
open List renaming set_cons_zero → Q0, getElem?_cons_zero → Q1, nil_append → Q2, getD_cons_zero → Q3, getD_cons_succ → Q4
set_option linter.unusedVariables false
set_option linter.unusedSimpArgs false
set_option maxRecDepth 10000
set_option maxHeartbeats 4000000
def aDU (rows:List (List Int)) (cs:List (List AV)):Prop:=cs.length=rows.length∧∀ (j:Nat) (hj:j < rows.length),∃ rv,cs[j]?=some [rv]∧Li rows[j] rv
theorem aDU.all {rows:List (List Int)} {cs:List (List AV)} (h:aDU rows cs):cs.all (fun c=>c.length==1 && c.all aAp)=true:=by
 rw [List.all_eq_true]
 intro c hc
 obtain ⟨j,hj⟩:=List.getElem?_of_mem hc
 have hl:=(List.getElem?_eq_some_iff.1 hj).1
 obtain ⟨rv,h1,h2⟩:=h.2 j (by rw [← h.1];exact hl)
 rw [hj] at h1;cases h1
 simp [h2.cell.2]
theorem aDU.push {rows:List (List Int)} {cs:List (List AV)} (h:aDU rows cs) {r:List Int} {rv:AV} (hr:Li r rv):aDU (rows++[r]) (cs++[[rv]]):=by
 refine ⟨by simp [h.1],fun j hj => ?_⟩
 by_cases q:j < rows.length
 ·obtain ⟨x,h1,h2⟩:=h.2 j q
  refine ⟨x,by rw [List.getElem?_append_left (by rw [h.1];exact q)];exact h1,?_⟩
  rw [List.getElem_append_left q];exact h2
 ·have:j=rows.length:=by simp at hj;omega
  subst this
  refine ⟨rv,by rw [← h.1];simp,?_⟩
  simpa using hr
theorem aP6 {h:aA0} {d:Nat}:∀ (rows:List (List Int)) (cs:List (List AV)),aDU rows cs→∃ q,aAq (aAq (freeze h (d+1))) cs=some q∧q.map (·.map (·.1))=cs:=by
 intro rows
 induction rows with
 | nil=>intro cs hc;have:=hc.1;have:cs=[]:=List.length_eq_zero_iff.1 (by simpa using this);subst this;exact ⟨[],rfl,rfl⟩
 | cons r rows ih =>
  intro cs hc
  cases cs with
  | nil=>have:=hc.1;simp at this
  | cons c cs =>
   obtain ⟨rv,h1,h2⟩:=hc.2 0 (by simp)
   simp at h1
   subst h1
   obtain ⟨q,e1,e2⟩:=ih cs ⟨by have:=hc.1;simpa using this,fun j hj=>by
    obtain ⟨x,k1,k2⟩:=hc.2 (j+1) (by simpa using hj)
    exact ⟨x,by simpa using k1,by simpa using k2⟩⟩
   have e3:aAq (freeze h (d+1)) [rv]=some [(rv,true)]:=aDH (Li.fz (l:=r) (by simpa using h2) h d)
   exact ⟨[(rv,true)]::q,by simp only [aAq] at e3 ⊢;simp only [e3,e1],by simp [e2]⟩
theorem aFK {h:aA0} {d i ver n sz:Nat} {x:Bool} {cc:Option Nat} {rows:List (List AV)} {q:List (List (AV × Bool))} (hi:h[i]?=some (.arr ver sz x rows)) (hn:n≤rows.length) (hm:aAq (aAq (freeze h d)) (rows.take n)=some q) :
  freeze h (d+1) (.hsl i ver 0 n cc)=some (.vsl false (q.map (·.map (·.1))),false):=by
 have hg:aAk h i ver=some (sz,x,rows):=by simp only [aAk,hi,if_true]
 simp only [freeze,hg]
 rw [if_pos (by omega),List.drop_zero,hm]
 rfl
theorem aAu.fzR {rows:List (List Int)} {cs:List (List AV)} {v:AV} {h:aA0} {q:Option Nat} (ho:aAu 1 cs v h q) (hc:aDU rows cs):∃ x c,freeze h 1000 v=some (x,c)∧LiR rows x:=by
 rcases ho with ⟨h1,h2,_⟩ | ⟨h1,i,ver,_,h3,h4⟩
 ·subst h1 h2
  have:rows=[]:=List.length_eq_zero_iff.1 (by have:=hc.1;simpa using this.symm)
  exact ⟨.nilS,true,rfl,.inl ⟨this,rfl⟩⟩
 ·subst h3
  obtain ⟨q,e1,e2⟩:=aP6 (h:=h) (d:=998) rows cs hc
  have:=aFK (d:=999) (n:=cs.length) (cc:=none) (q:=q) h4 (Nat.le_refl _) (by rw [List.take_length];exact e1)
  refine ⟨_,false,this,.inr ⟨false,cs,by rw [e2],hc⟩⟩
theorem aPk {rows:List (List Int)} {cs:List (List AV)} {v:AV} {h:aA0} {q:Option Nat} (ho:aAu 1 cs v h q) (hc:aDU rows cs) {b:List Int} {w:AV} (hb:Li b w) (hn:rows.length≤1000000000) (hm:∀ r ∈ rows,r.length≤1000000000) {p:Nat} (hp:h[p]?=some (.arr 0 1 true [[w]])) :
  lim G0.cfg (.func 62) [v,.fn (.func 63) [] [.ptr p 0 0 0]] h=some (.int .i64 (if rows.findIdx (fun x=>decide (x=b))=rows.length then -1 else (rows.findIdx (fun x=>decide (x=b)):Nat)),h):=by
 obtain ⟨x,c,e1,e2⟩:=ho.fzR hc
 have hr:=aOh e2 hb hn hm (rows.length+1) (by omega)
 have fp:freeze h 999 (.ptr p 0 0 0)=some (.vptr [w] 0,false):=by
  have:freeze h 999 (.ptr p 0 0 0)=match aAk h p 0 with
   | some (_,_,l)=>match l[0]? with
    | some cells=>(aAq (freeze h 998) cells).map fun c=>(.vptr (c.map (·.1)) 0,false)
    | none=>none
   | none=>none:=rfl
  rw [this]
  have hg:aAk h p 0=some (1,true,[[w]]):=by simp only [aAk,hp,if_true]
  simp only [hg,Q1,aDH (hb.fz h 997),Option.map_some,List.map_cons,List.map_nil]
 have ha:aAq (freeze h 1000) [v,.fn (.func 63) [] [.ptr p 0 0 0]]=some [(x,c),(.fn (.func 63) [] [.vptr [w] 0],false)]:=aJ8 e1 (aRc (aDH fp))
 exact aLb rfl rfl aFg (rows.length+1) ha hr (rfl:freeze [] 1000 (.int .i64 _)=some (.int .i64 _,true)) (Bool.or_true _)
structure Inv1 (s:List (List Int) × List Int) (h:aA0):Prop where
 e0:h[0]?=some (.arr 0 4 true [[.nilS,.nilS,.nilS,.nilS]])
 ex:∃ rv ov cs q1 q2,h[1]?=some (.arr 0 4 true [[rv,.nilS,.nilS,.nilS]])∧aAu 1 (eIs s.2) rv h q1∧h[2]?=some (.arr 0 1 true [[ov]])∧aAu 1 cs ov h q2∧aDU s.1 cs∧(∀ i,q1=some i→q2≠some i)∧(∀ i,q1=some i→3≤i)∧(∀ i,q2=some i→3≤i)
theorem aSg {rows:List (List Int)} {v:AV} (hv:LiR rows v) (hn:rows.length≤1000000) (hm:∀ r ∈ rows,r.length≤1000000) (N:Nat):∀ (d j m:Nat) (s:List (List Int) × List Int) (h:aA0),rows.length=j+d→d < m→Inv1 s h→3≤h.length→s.1.length≤j→s.2.length=j→(∀ r ∈ s.1,r.length≤1000000) →
  ∃ h',aAw (aA9 (lim G0.cfg) N aEk) m ⟨(J::J::.ptr 0 0 0 0::.ptr 1 0 0 0::.ptr 2 0 0 0::J::J::J::J::J::J::J::J::J::J::J::J::v::.int .i64 rows.length::.int .i64 j::J::J::J::J::J::J::J::J::J::J::J::J::J::J::J::J::J::J::J::J::J::J::J::J::J::J::J::J::J::J::J::J::J::J::J::J::J::J::J::J::J::J::J::J::J::J::J::J::J::J::J::J::J::J::J::J::J::J::J::J::J::J::J::J::J::J::J::J::J::J::J::J::J::J::J::J::J::J::J::J::J::J::J::J::J::J::J::J::J::J::J::J::J::J::J::J::J::J::J::J::J::J::J::J::J::J::[]),h⟩=some (.exit 0,⟨(J::J::.ptr 0 0 0 0::.ptr 1 0 0 0::.ptr 2 0 0 0::J::J::J::J::J::J::J::J::J::J::J::J::J::J::J::J::J::J::J::J::J::J::J::J::J::J::J::J::J::J::J::J::J::J::J::J::J::J::J::J::J::J::J::J::J::J::J::J::J::J::J::J::J::J::J::J::J::J::J::J::J::J::J::J::J::J::J::J::J::J::J::J::J::J::J::J::J::J::J::J::J::J::J::J::J::J::J::J::J::J::J::J::J::J::J::J::J::J::J::J::J::J::J::J::J::J::J::J::J::J::J::J::J::J::J::J::J::J::J::J::J::[]),h'⟩)∧Inv1 ((rows.drop j).foldl aBh s) h'∧3≤h'.length:=by
 intro d
 induction d with
 | zero =>
  intro j m s h h1 h2 hI h3 h4 h5 h6
  obtain ⟨m,rfl⟩:∃ q,m=q+1:=⟨m - 1,by omega⟩
  have h7:¬ ((j:Int) < rows.length):=by omega
  have q1:rows.drop j=[]:=List.drop_eq_nil_iff.2 (by omega)
  rw [q1]
  refine ⟨h,?_,hI,h3⟩
  simp only [aAj,aGb,Zaf,Zag,Zah,Zak,Zal,Zan,Zao,Zap,Zaw,Zaz,Zbc,Zbm,Zbu,Zcz,Zdb,Zdf,Zdg,Zdh,Q0,List.set_cons_succ,Q3,Q4,Zdl,decide_false,eq_self,h7]
 | succ d ih =>
  intro j m s h h1 h2 hI h3 h4 h5 h6
  obtain ⟨m,rfl⟩:∃ q,m=q+1:=⟨m - 1,by omega⟩
  have h7:j < rows.length:=by omega
  have h7':(j:Int) < rows.length:=by omega
  have hw:=aC7 (n:=j) (by omega)
  have q1:rows.drop j=rows[j]::rows.drop (j+1):=List.drop_eq_getElem_cons h7
  obtain ⟨w,hw1,xw⟩:=hv.ix j h7
  have xw':=fun h=>xw h .i64
  have hrm:=hm _ (List.getElem_mem h7)
  obtain ⟨e0,rv,ov,cs,qa,qb,e1,o1,e2,o2,hc,hq,hqa,hqb⟩:=hI
  obtain ⟨wc1,wc2⟩:=hw1.cell
  -- the row's own box
  have pre:∀ i o,h[i]?=some o→(h++[AObj.arr 0 1 true [[w]]])[i]?=some o:=fun i o e=>aAJ e _
  have o1':aAu 1 (eIs s.2) rv (h++[.arr 0 1 true [[w]]]) qa:=o1.frame fun i o _ e=>pre i o e
  have o2':aAu 1 cs ov (h++[.arr 0 1 true [[w]]]) qb:=o2.frame fun i o _ e=>pre i o e
  have ix:=aPk o2' hc hw1 (by omega) (fun r hr=>by have:=h6 r hr;omega) (aBz h (.arr 0 1 true [[w]]))
  have a0:=pre 0 _ e0
  have a1:=pre 1 _ e1
  have a2:=pre 2 _ e2
  have lo:=o2'.len
  have lenc:cs.length=s.1.length:=hc.1
  rw [lenc] at lo
  rw [q1,List.foldl_cons]
  by_cases q:s.1.findIdx (fun x=>decide (x=rows[j]))=s.1.length
  case pos =>
   rw [if_pos q] at ix
   have es:aBh s rows[j]=(s.1++[rows[j]],s.2++[((s.1.length:Nat):Int)]):=by simp only [aBh];rw [if_pos q,q]
   obtain ⟨i2,ver2,H2,p1,p2,p3,p4,p5⟩:=o2'.push true (c:=[w]) rfl (by simp [wc2]) hc.all 24 (by omega) (by omega)
   rw [lenc] at p1 p2
   have q2n:∀ k,k < 3→qb≠some k:=fun k hk e=>by have:=hqb k e;omega
   have b0:=p3 0 _ a0 (q2n 0 (by omega))
   have b1:=p3 1 _ a1 (q2n 1 (by omega))
   have b2:=p3 2 _ a2 (q2n 2 (by omega))
   have hi2:3≤i2:=by
    rcases p4 with h | ⟨_,h⟩
    ·exact hqb i2 h
    ·rw [h];simp;omega
   have o1b:aAu 1 (eIs s.2) rv H2 qa:=o1'.frame fun i o e1 e2=>p3 i o e2 (hq i e1)
   have hne:∀ i,qa=some i→i≠i2:=fun i e1 e2=>by
    subst e2
    rcases p4 with h | ⟨_,h⟩
    ·exact hq i e1 h
    ·have:=(e1 ▸ o1).lt (i:=i)
     rw [h] at this;simp at this;omega
   obtain ⟨ovx,hovx⟩:∃ ovx,ovx=AV.hsl i2 ver2 0 (s.1.length+1) none:=⟨_,rfl⟩
   rw [← hovx] at p1 p2
   have hov:cellsOf ovx=[ovx]∧aAp ovx=true:=by rw [hovx];exact ⟨rfl,rfl⟩
   have c0:=aAs (y:=AObj.arr 0 1 true [[ovx]]) b0 (i:=2) (by omega)
   have c1:=aAs (y:=AObj.arr 0 1 true [[ovx]]) b1 (i:=2) (by omega)
   have c2:=aAr (y:=AObj.arr 0 1 true [[ovx]]) b2
   have o1c:aAu 1 (eIs s.2) rv (H2.set 2 (.arr 0 1 true [[ovx]])) qa:=o1b.frame fun i o e1 e2=>aAs e2 (by have:=hqa i e1;omega)
   have p2c:aAu 1 (cs++[[w]]) ovx (H2.set 2 (.arr 0 1 true [[ovx]])) (some i2):=p2.frame fun i o e1 e2=>aAs e2 (by cases e1;omega)
   obtain ⟨i1,ver1,H4,r1,r2,r3,r4,r5⟩:=o1c.push true (c:=[.int .i64 ((s.1.length:Nat):Int)]) rfl rfl (aEp _) 8 (by omega) (by rw [Zet];omega)
   rw [Zet] at r1 r2
   have q1n:∀ k,k < 3→qa≠some k:=fun k hk e=>by have:=hqa k e;omega
   have d0:=r3 0 _ c0 (q1n 0 (by omega))
   have d1:=r3 1 _ c1 (q1n 1 (by omega))
   have d2:=r3 2 _ c2 (q1n 2 (by omega))
   have hi1:3≤i1:=by
    rcases r4 with h | ⟨_,h⟩
    ·exact hqa i1 h
    ·rw [h];simp;simp at p5;omega
   have hi12:i1≠i2:=by
    rcases r4 with h | ⟨_,h⟩
    ·exact hne i1 h
    ·have:=p2c.lt;rw [h];omega
   obtain ⟨rvx,hrvx⟩:∃ rvx,rvx=AV.hsl i1 ver1 0 (s.2.length+1) none:=⟨_,rfl⟩
   rw [← hrvx] at r1 r2
   have hrv:cellsOf rvx=[rvx]∧aAp rvx=true:=by rw [hrvx];exact ⟨rfl,rfl⟩
   have p2d:aAu 1 (cs++[[w]]) ovx H4 (some i2):=p2c.frame fun i o e1 e2=>by
    cases e1
    refine r3 i2 o e2 fun e => ?_
    exact (hne i2 e) rfl
   have f0:=aAs (y:=AObj.arr 0 4 true [[rvx,.nilS,.nilS,.nilS]]) d0 (i:=1) (by omega)
   have f1:=aAr (y:=AObj.arr 0 4 true [[rvx,.nilS,.nilS,.nilS]]) d1
   have f2:=aAs (y:=AObj.arr 0 4 true [[rvx,.nilS,.nilS,.nilS]]) d2 (i:=1) (by omega)
   have hI':Inv1 (aBh s rows[j]) (H4.set 1 (.arr 0 4 true [[rvx,.nilS,.nilS,.nilS]])):=by
    rw [es]
    refine ⟨f0,rvx,ovx,cs++[[w]],some i1,some i2,f1,?_,f2,p2d.frame fun i o e1 e2=>aAs e2 (by cases e1;omega),hc.push hw1,fun i e=>by cases e;simpa using hi12.symm,fun i e=>by cases e;exact hi1,fun i e=>by cases e;exact hi2⟩
    have:eIs (s.2++[((s.1.length:Nat):Int)])=eIs s.2++[[.int .i64 ((s.1.length:Nat):Int)]]:=by rw [aEo];rfl
    rw [this]
    exact r2.frame fun i o e1 e2=>aAs e2 (by cases e1;omega)
   obtain ⟨h',e,hI2,hl2⟩:=ih (j+1) m _ (H4.set 1 (.arr 0 4 true [[rvx,.nilS,.nilS,.nilS]])) (by omega) (by omega) hI' (by simp at p5 r5 ⊢;omega) (by rw [es];simp;omega) (by rw [es];simp;omega) (by
    rw [es];intro r hr
    rcases List.mem_append.1 hr with hr | hr
    ·exact h6 r hr
    ·rw [List.mem_singleton] at hr;subst hr;exact hrm)
   refine ⟨h',?_,hI2,hl2⟩
   rw [← e]
   have lt1:=fun h:aA0=>aGC h .nilS w hw1.pure1 wc1
   have lt2:=fun h:aA0=>aGC h (.int .i64 0) (.int .i64 ((s.1.length:Nat):Int)) rfl rfl
   simp only [aAj,aGb,Zae,Zaf,Zag,Zah,Zai,Zak,Zan,Zao,Zar,Zav,Zay,Zbc,Zbd,Zbe,Zbm,Zbo,Zbq,Zbs,Zbt,Zbu,Zbx,Zcc,Zcf,Zck,Zcm,Zcr,Zct,Zcu,Zcz,Zda,Zdb,Zdc,Zdd,Zde,Zdf,Zdg,Zdh,Q0,List.set_cons_succ,Q3,Q4,Option.bind_some,Zdi,Zdl,Zeb,Zed,decide_true,Q1,List.length_cons,List.length_nil,if_true,Nat.reduceAdd,Nat.reduceLeDiff,Int.reduceNeg,Int.reduceLT,eq_self,and_self,aAb,aAM,aAk,part,aAB,aAv,aGL,List.all_cons,List.all_nil,Bool.and_self,List.drop_zero,List.drop_succ_cons,List.take_succ_cons,List.take_zero,List.take_nil,List.cons_append,Q2,Q0,h7',xw',wc1,wc2,a2,aIn,List.append_nil,Q2,ix,lo,ev2,lt1,p1,b2,hov,c1,lt2,r1,d1,hrv,hw]
  case neg =>
   rw [if_neg q] at ix
   obtain ⟨k,hk⟩:∃ k,k=s.1.findIdx (fun x=>decide (x=rows[j])):=⟨_,rfl⟩
   rw [← hk] at ix q
   have es:aBh s rows[j]=(s.1,s.2++[((k:Nat):Int)]):=by simp only [aBh,← hk,if_neg q]
   have hkn:¬ ((k:Int) < 0):=by omega
   obtain ⟨i1,ver1,H4,r1,r2,r3,r4,r5⟩:=o1'.push true (c:=[.int .i64 ((k:Nat):Int)]) rfl rfl (aEp _) 8 (by omega) (by rw [Zet];omega)
   rw [Zet] at r1 r2
   have q1n:∀ k,k < 3→qa≠some k:=fun k hk e=>by have:=hqa k e;omega
   have d0:=r3 0 _ a0 (q1n 0 (by omega))
   have d1:=r3 1 _ a1 (q1n 1 (by omega))
   have d2:=r3 2 _ a2 (q1n 2 (by omega))
   have hi1:3≤i1:=by
    rcases r4 with h | ⟨_,h⟩
    ·exact hqa i1 h
    ·rw [h];simp;omega
   obtain ⟨rvx,hrvx⟩:∃ rvx,rvx=AV.hsl i1 ver1 0 (s.2.length+1) none:=⟨_,rfl⟩
   rw [← hrvx] at r1 r2
   have hrv:cellsOf rvx=[rvx]∧aAp rvx=true:=by rw [hrvx];exact ⟨rfl,rfl⟩
   have o2d:aAu 1 cs ov H4 qb:=o2'.frame fun i o e1 e2=>r3 i o e2 fun e=>hq i e e1
   have hqn:qb≠some i1:=fun e=>by
    rcases r4 with h | ⟨_,h⟩
    ·exact hq i1 h e
    ·have:=(e ▸ o2').lt (i:=i1);rw [h] at this;omega
   have f0:=aAs (y:=AObj.arr 0 4 true [[rvx,.nilS,.nilS,.nilS]]) d0 (i:=1) (by omega)
   have f1:=aAr (y:=AObj.arr 0 4 true [[rvx,.nilS,.nilS,.nilS]]) d1
   have f2:=aAs (y:=AObj.arr 0 4 true [[rvx,.nilS,.nilS,.nilS]]) d2 (i:=1) (by omega)
   have hI':Inv1 (aBh s rows[j]) (H4.set 1 (.arr 0 4 true [[rvx,.nilS,.nilS,.nilS]])):=by
    rw [es]
    refine ⟨f0,rvx,ov,cs,some i1,qb,f1,?_,f2,o2d.frame fun i o e1 e2=>aAs e2 (by have:=hqb i e1;omega),hc,fun i e=>by cases e;exact hqn,fun i e=>by cases e;exact hi1,hqb⟩
    have:eIs (s.2++[((k:Nat):Int)])=eIs s.2++[[.int .i64 ((k:Nat):Int)]]:=by rw [aEo];rfl
    rw [this]
    exact r2.frame fun i o e1 e2=>aAs e2 (by cases e1;omega)
   obtain ⟨h',e,hI2,hl2⟩:=ih (j+1) m _ (H4.set 1 (.arr 0 4 true [[rvx,.nilS,.nilS,.nilS]])) (by omega) (by omega) hI' (by simp at r5 ⊢;omega) (by rw [es];simp;omega) (by rw [es];simp;omega) (by rw [es];exact h6)
   refine ⟨h',?_,hI2,hl2⟩
   rw [← e]
   have lt2:=fun h:aA0=>aGC h (.int .i64 0) (.int .i64 ((k:Nat):Int)) rfl rfl
   simp only [aAj,aGb,Zae,Zaf,Zag,Zah,Zai,Zak,Zan,Zao,Zar,Zav,Zaw,Zay,Zbc,Zbd,Zbe,Zbm,Zbo,Zbq,Zbs,Zbt,Zbu,Zbx,Zcc,Zcf,Zcm,Zcr,Zct,Zcu,Zcz,Zda,Zdb,Zdc,Zdd,Zde,Zdf,Zdg,Zdh,Q0,List.set_cons_succ,Q3,Q4,Option.bind_some,Zdi,Zdl,Zeb,Zed,decide_true,decide_false,Q1,List.length_cons,List.length_nil,if_true,Nat.reduceAdd,Nat.reduceLeDiff,eq_self,and_self,aAb,aAM,aAk,part,aAB,aAv,aGL,List.all_cons,List.all_nil,Bool.and_self,List.drop_zero,List.drop_succ_cons,List.take_succ_cons,List.take_zero,List.take_nil,List.cons_append,Q2,Q0,h7',xw',wc1,wc2,a1,a2,aIn,List.append_nil,Q2,ix,hkn,ev2,lt2,r1,d1,hrv,hw]
end Go.Proofs.Ytgeedikghjcebaa.Ai
