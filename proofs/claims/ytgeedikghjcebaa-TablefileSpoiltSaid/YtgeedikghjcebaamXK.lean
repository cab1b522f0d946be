/- What the table of rows answers. -/
import Derived.Test.YtgeedikghjcebaamXH
import Derived.Test.YtgeedikghjcebaamXI
import Derived.Test.YtgeedikghjcebaamXJ
namespace Go.Proofs.Ytgeedikghjcebaa.Ai
open Go Go.Proofs
set_option linter.unusedVariables false
set_option linter.unusedSimpArgs false
end Go.Proofs.Ytgeedikghjcebaa.Ai
namespace Go.Proofs.Ytgeedikghjcebaa.Ai
open Go Go.Proofs
open List renaming getD_eq_getElem?_getD → Q0, getElem?_append_left → Q1
set_option linter.unusedVariables false
set_option linter.unusedSimpArgs false
theorem aSo:∀ (rows:List (List Int)) (s:List (List Int) × List Int) (pre:List (List Int)),
  (s.2.length=pre.length∧∀ (i:Nat),i < pre.length→0≤s.2.getD i 0∧s.2.getD i 0 < s.1.length∧s.1.getD (s.2.getD i 0).toNat []=pre.getD i []) →
  ((rows.foldl aBh s).2.length=(pre++rows).length∧∀ (i:Nat),i < (pre++rows).length→0≤(rows.foldl aBh s).2.getD i 0∧(rows.foldl aBh s).2.getD i 0 < (rows.foldl aBh s).1.length∧(rows.foldl aBh s).1.getD ((rows.foldl aBh s).2.getD i 0).toNat []=(pre++rows).getD i []):=by
 intro rows
 induction rows with
 | nil=>intro s pre h;rw [List.append_nil];exact h
 | cons r rows ih =>
  intro s pre h
  rw [List.foldl_cons]
  have key:=ih (aBh s r) (pre++[r]) ?_
  ·rw [List.append_assoc] at key
   exact key
  obtain ⟨h1,h2⟩:=h
  obtain ⟨f,hf⟩:∃ f,f=s.1.findIdx (fun x=>decide (x=r)):=⟨_,rfl⟩
  have fle:f≤s.1.length:=by rw [hf];exact List.findIdx_le_length
  have e1:(aBh s r).1=if f=s.1.length then s.1++[r] else s.1:=by simp only [aBh,← hf]
  have e2:(aBh s r).2=s.2++[(f:Int)]:=by simp only [aBh,← hf]
  have len2:s.1.length≤(aBh s r).1.length:=by rw [e1];split <;> simp
  have same:∀ j,j < s.1.length→(aBh s r).1.getD j []=s.1.getD j []:=fun j hj=>by
   rw [e1]
   split
   ·simp [Q0,Q1 hj]
   ·rfl
  refine ⟨by rw [e2];simp [h1],fun i hi => ?_⟩
  rw [List.length_append,List.length_singleton] at hi
  by_cases c:i < pre.length
  ·have g2:(aBh s r).2.getD i 0=s.2.getD i 0:=by rw [e2];simp [Q0,Q1 (show i < s.2.length by omega)]
   have g3:(pre++[r]).getD i []=pre.getD i []:=by simp [Q0,Q1 c]
   obtain ⟨a1,a2,a3⟩:=h2 i c
   rw [g2,g3]
   refine ⟨a1,by omega,?_⟩
   rw [same _ (by omega)];exact a3
  ·have ei:i=pre.length:=by omega
   have g2:(aBh s r).2.getD i 0=(f:Int):=by rw [e2,ei,← h1];simp
   have g3:(pre++[r]).getD i []=r:=by rw [ei];simp
   rw [g2,g3]
   have el:(f:Int).toNat=f:=rfl
   rw [el]
   by_cases d:f=s.1.length
   ·rw [e1,if_pos d]
    refine ⟨by omega,by simp;omega,?_⟩
    rw [d];simp
   ·have fl:f < s.1.length:=by omega
    rw [same f fl]
    refine ⟨by omega,by omega,?_⟩
    have:=List.findIdx_getElem (xs:=s.1) (p:=fun x=>decide (x=r)) (w:=by rw [← hf];exact fl)
    simp only [← hf] at this
    simp [fl]
    exact of_decide_eq_true this
theorem aND (rows:List (List Int)):(aAV rows).2.length=rows.length:=by
 have:=(aSo rows ([],[]) [] ⟨rfl,fun i h=>by simp at h⟩).1
 rw [List.nil_append] at this
 exact this
theorem aOa (own:List (List Int)) (M:Nat) (hM:∀ r ∈ own,r.length≤M):∀ (ord:List Int) (s:List Int × List Int × List Int),s.2.1.length=s.2.2.length →
  (ord.foldl (aBy own) s).1.length=s.1.length∧(ord.foldl (aBy own) s).2.1.length=(ord.foldl (aBy own) s).2.2.length∧(ord.foldl (aBy own) s).2.1.length≤s.2.1.length+ord.length*M:=by
 intro ord
 induction ord with
 | nil=>intro s h;exact ⟨rfl,h,by simp⟩
 | cons x ord ih =>
  intro s h
  rw [List.foldl_cons]
  have hr:(own.getD x.toNat []).length≤M:=by
   by_cases q:x.toNat < own.length
   ·have:own.getD x.toNat []=own[x.toNat]:=by simp [q]
    rw [this];exact hM _ (List.getElem_mem q)
   ·have:own.getD x.toNat []=[]:=by simp [q]
    rw [this];simp
  have pl:=aIg (own.getD x.toNat []) s.2 (aHt s.2.2 (own.getD x.toNat [])) (x+1) h
  have hb:=aKv s.2.2 (own.getD x.toNat [])
  obtain ⟨h1,h2,h3⟩:=ih (aBy own s x) pl.1
  have l1:(aBy own s x).1.length=s.1.length:=by simp [aBy]
  have l2:(aBy own s x).2.1.length≤s.2.1.length+M:=Nat.le_trans pl.2 (Nat.max_le.2 ⟨by omega,by omega⟩)
  have l3:(x::ord).length*M=ord.length*M+M:=by rw [List.length_cons,Nat.succ_mul]
  exact ⟨h1.trans l1,h2,by omega⟩
theorem aNj (own:List (List Int)) (M B:Nat) (hM:∀ r ∈ own,r.length≤M):∀ (ord:List Int) (s:List Int × List Int × List Int),s.2.1.length=s.2.2.length→(∀ x ∈ s.1,0≤x∧x≤B)→s.2.1.length+ord.length*M≤B→∀ x ∈ (ord.foldl (aBy own) s).1,0≤x∧x≤B:=by
 intro ord
 induction ord with
 | nil=>intro s _ h _;exact h
 | cons a ord ih =>
  intro s h hb hB
  rw [List.foldl_cons]
  have hr:(own.getD a.toNat []).length≤M:=by
   by_cases q:a.toNat < own.length
   ·have:own.getD a.toNat []=own[a.toNat]:=by simp [q]
    rw [this];exact hM _ (List.getElem_mem q)
   ·have:own.getD a.toNat []=[]:=by simp [q]
    rw [this];simp
  have pl:=aIg (own.getD a.toNat []) s.2 (aHt s.2.2 (own.getD a.toNat [])) (a+1) h
  have hbb:=aKv s.2.2 (own.getD a.toNat [])
  have l2:(aBy own s a).2.1.length≤s.2.1.length+M:=Nat.le_trans pl.2 (Nat.max_le.2 ⟨by omega,by omega⟩)
  have l3:(a::ord).length*M=ord.length*M+M:=by rw [List.length_cons,Nat.succ_mul]
  refine ih (aBy own s a) pl.1 (fun x hx => ?_) (by omega)
  have e1:(aBy own s a).1=s.1.set a.toNat ((aHt s.2.2 (own.getD a.toNat []):Nat):Int):=rfl
  rw [e1] at hx
  rcases List.mem_or_eq_of_mem_set hx with h1 | h1
  ·exact hb x h1
  ·omega
theorem aHn (rows:List (List Int)) (M:Nat) (hM:∀ r ∈ rows,r.length≤M) :
  (aFp rows).base.length=(aAV rows).1.length∧(aFp rows).val.length=(aFp rows).own.length∧(aFp rows).val.length≤rows.length*M∧(∀ x ∈ (aFp rows).base,0≤x∧x≤(rows.length*M:Nat))∧(aAV rows).1.length≤rows.length∧(∀ r ∈ (aAV rows).1,r.length≤M)∧(aE3 (aAV rows).1).length=(aAV rows).1.length:=by
 have dl:=aME rows ([],[])
 have hD:rows.foldl aBh ([],[])=aAV rows:=rfl
 rw [hD] at dl
 simp only [List.length_nil,Nat.zero_add] at dl
 have dm:∀ r ∈ (aAV rows).1,r.length≤M:=fun r hr=>by
  rcases aMD rows ([],[]) r (by rw [hD];exact hr) with h | h
  ·simp at h
  ·exact hM r h
 obtain ⟨op,_⟩:=aMs (aAV rows).1
 have hol:(aE3 (aAV rows).1).length=(aAV rows).1.length:=by rw [op.length_eq,aEG]
 obtain ⟨b1,b2,b3⟩:=aOa (aAV rows).1 M dm (aE3 (aAV rows).1) (List.replicate (aAV rows).1.length 0,[],[]) rfl
 have hmul2:(aE3 (aAV rows).1).length*M≤rows.length*M:=Nat.mul_le_mul_right M (by omega)
 simp only [List.length_replicate,List.length_nil,Nat.zero_add] at b1 b3
 have b4:=aNj (aAV rows).1 M (rows.length*M) dm (aE3 (aAV rows).1) (List.replicate (aAV rows).1.length 0,[],[]) rfl (fun x hx=>by
  have:=List.eq_of_mem_replicate hx
  omega) (by simpa using hmul2)
 exact ⟨b1,b2,Nat.le_trans b3 hmul2,b4,dl.1,dm,hol⟩
end Go.Proofs.Ytgeedikghjcebaa.Ai
namespace Go.Proofs.Ytgeedikghjcebaa.Ai
open Go Go.Proofs
open Bool renaming and_eq_true → Q0
set_option linter.unusedVariables false
set_option linter.unusedSimpArgs false
set_option maxRecDepth 10000
set_option maxHeartbeats 4000000
structure PackD where
 tms:Int
 nts:Int
 a:RowT
 g:RowT
def aBO (p:PackD) (cs:List AV):Prop:=∃ ca cg,cs=[.int .i64 p.tms,.int .i64 p.nts]++ca++cg∧RT p.a ca∧RT p.g cg
def aBa (t:TabD):PackD:=⟨t.tm,t.nt,aFp t.numA,aFp t.numG⟩
def aDx:PackD:=⟨0,0,⟨[],[],[],[]⟩,⟨[],[],[],[]⟩⟩
def aAE:List AV:=[.int .i64 0,.int .i64 0,.nilS,.nilS,.nilS,.nilS,.nilS,.nilS,.nilS,.nilS]
theorem aPU:RT ⟨[],[],[],[]⟩ [.nilS,.nilS,.nilS,.nilS]:=⟨.nilS,.nilS,.nilS,.nilS,rfl,.inl ⟨rfl,rfl⟩,.inl ⟨rfl,rfl⟩,.inl ⟨rfl,rfl⟩,.inl ⟨rfl,rfl⟩⟩
theorem aDM:aBO aDx aAE:=⟨[.nilS,.nilS,.nilS,.nilS],[.nilS,.nilS,.nilS,.nilS],rfl,aPU,aPU⟩
theorem aBO.fz {p:PackD} {cs:List AV} (hp:aBO p cs) (h:aA0) (d:Nat):freeze h (d+2) (.agg cs)=some (.agg cs,true):=by
 obtain ⟨ca,cg,rfl,⟨a1,a2,a3,a4,rfl,ha1,ha2,ha3,ha4⟩,⟨b1,b2,b3,b4,rfl,hb1,hb2,hb3,hb4⟩⟩:=hp
 have e:freeze h (d+2) (.agg ([.int .i64 p.tms,.int .i64 p.nts]++[a1,a2,a3,a4]++[b1,b2,b3,b4]))=(aAq (freeze h (d+1)) [.int .i64 p.tms,.int .i64 p.nts,a1,a2,a3,a4,b1,b2,b3,b4]).map fun l=>(.agg (l.map (·.1)),l.all (·.2)):=rfl
 have i1:∀ n:Int,freeze h (d+1) (.int .i64 n)=some (.int .i64 n,true):=fun _=>rfl
 rw [e]
 simp only [aAq,i1,ha1.fz h d,ha2.fz h d,ha3.fz h d,ha4.fz h d,hb1.fz h d,hb2.fz h d,hb3.fz h d,hb4.fz h d]
 rfl
theorem aBO.cells {p:PackD} {cs:List AV} (hp:aBO p cs):cellsOf (.agg cs)=cs∧cs.all aAp=true∧cs.length=10:=by
 obtain ⟨ca,cg,rfl,⟨a1,a2,a3,a4,rfl,ha1,ha2,ha3,ha4⟩,⟨b1,b2,b3,b4,rfl,hb1,hb2,hb3,hb4⟩⟩:=hp
 refine ⟨?_,?_,rfl⟩
 ·simp [cellsOf]
 ·simp only [List.cons_append,List.nil_append,List.all_cons,List.all_nil,aU6,ha1.cell.2,ha2.cell.2,ha3.cell.2,ha4.cell.2,hb1.cell.2,hb2.cell.2,hb3.cell.2,hb4.cell.2,Bool.and_self]
theorem aCd {h:aA0} {i ver n:Nat} {b:Bool} {z l:List AV} (e:h[i]?=some (.arr ver n b [z])) (hz:z.length=n) (hl:l.length=n) (hc:cellsOf (.agg l)=l) (hk:l.all aAp=true):aAB h n (.ptr i ver 0 0) (.agg l)=some (h.set i (.arr ver n b [l])):=by
 rw [aKh h n i ver 0 0 _ n b _ _ e rfl (by rw [hc];exact hl) (by rw [hz];omega) (by rw [hc];exact hk)]
 have:aAv z 0 (cellsOf (.agg l))=l:=by
  rw [hc];simp [aAv];omega
 rw [this];rfl
theorem aBL {h:aA0} {i ver n:Nat} {b:Bool} {l:List AV} (e:h[i]?=some (.arr ver n b [l])) (hl:l.length=n):aAb h n true (.ptr i ver 0 0)=some (.agg l):=by
 rw [aB5 h n i ver 0 0 true n b _ _ e rfl]
 simp [part,aEn,← hl]
theorem aH1 (h:aA0) {n:Nat} {l:List AV} (hl:l.length=n) (hc:cellsOf (.agg l)=l):Zcw h n (.agg l)=some (.ptr h.length 0 0 0,h++[.arr 0 n true [l]]):=by
 simp [Zcw,hc,hl]
theorem aQC (n:Int) (tm nt:Nat):∀ (al:List (List (List (Int × Int)))) (gl:List (List Int)),al.length=gl.length→aIl tm nt al gl=true→(∀ a ∈ al,a.length=tm)∧(∀ g ∈ gl,g.length=nt):=by
 intro al
 induction al with
 | nil=>intro gl h _;have:gl=[]:=List.length_eq_zero_iff.1 (by simpa using h.symm);subst this;exact ⟨fun _ h=>by simp at h,fun _ h=>by simp at h⟩
 | cons a al ih =>
  intro gl h k
  cases gl with
  | nil=>simp at h
  | cons g gl =>
   rw [aIl,Q0,Q0,decide_eq_true_eq,decide_eq_true_eq] at k
   obtain ⟨h1,h2⟩:=ih gl (by simpa using h) k.2
   exact ⟨fun x hx=>by
    rcases List.mem_cons.1 hx with rfl | hx
    ·exact k.1.1
    ·exact h1 x hx,fun x hx=>by
    rcases List.mem_cons.1 hx with rfl | hx
    ·exact k.1.2
    ·exact h2 x hx⟩
section
variable {t : TabD} {av gv : AV}
theorem TabD.ok_len (h:t.ok):aIl t.tm t.nt t.acts t.gotos=true∧t.numA.all aCD=true∧t.numG.all aCD=true:=by
 obtain ⟨fr,h⟩:=h
 rw [aOp _ _ _ _ _ fr.2.2.1.symm,Q0,Q0] at h
 exact ⟨h.1,h.2.1,h.2.2⟩
theorem TabD.sizes (h:t.ok):t.numA.length=t.acts.length∧t.numG.length=t.acts.length∧(∀ r ∈ t.numA,r.length=t.tm)∧(∀ r ∈ t.numG,r.length=t.nt):=by
 obtain ⟨h1,_,_⟩:=TabD.ok_len h
 have fr:=h.1
 obtain ⟨h2,h3⟩:=aQC 0 t.tm t.nt t.acts t.gotos fr.2.2.1.symm h1
 refine ⟨by simp [TabD.numA,aGB],by simp [TabD.numG,aGA];exact fr.2.2.1,fun r hr => ?_,fun r hr => ?_⟩
 ·simp only [TabD.numA,aGB,List.mem_map] at hr
  obtain ⟨a,ha,rfl⟩:=hr
  rw [List.length_map];exact h2 a ha
 ·simp only [TabD.numG,aGA,List.mem_map] at hr
  obtain ⟨a,ha,rfl⟩:=hr
  rw [List.length_map];exact h3 a ha
end
end Go.Proofs.Ytgeedikghjcebaa.Ai
