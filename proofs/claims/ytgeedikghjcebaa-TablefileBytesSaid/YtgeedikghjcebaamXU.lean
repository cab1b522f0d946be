/- Equal tables, the fixed examples. -/
import Derived.Test.YtgeedikghjcebaamXT
namespace Go.Proofs.Ytgeedikghjcebaa.Ai
open Go Go.Proofs
set_option linter.unusedVariables false
set_option linter.unusedSimpArgs false
set_option maxRecDepth 10000
set_option maxHeartbeats 4000000
theorem aQB {b:List UInt8} {v:AV} {H:aA0} {i:Nat} (ho:aBf b v H i) (hn:b.length≤30000) (he:(aGS b).2≠0):lim G0.cfg (.func 8) [v] H=some (.tup [.agg aAz,.int .i64 (aGS b).2],H):=by
 obtain ⟨cs,_,h2,h3⟩:=aVD (aCC false b) hn
 rw [h2 he] at h3
 exact aL3 rfl (l:=[(.vsl false (eBs b),false)]) (aDR (ho.fz 998)) (aDR ((aCC false b).fz [] 999)) (h3 []) rfl
def ex1:List UInt8:=[65,82,66,50,97,98,99,100]
def ex2:List UInt8:=[65,82,66,49,97,98,99,100]
theorem aTY:(aGS ex1).2=3:=by
 unfold aGS
 rw [if_pos (.inr (by decide))]
theorem aSl:(aGS ex2).2=33:=by
 unfold aGS
 rw [if_neg (by decide),if_pos (by decide +kernel)]
theorem aTV (h:aA0) (a b c d e f g k:UInt8):aBO h true 1 8 [.int .u8 0] [(0,.int .u8 a.toNat),(1,.int .u8 b.toNat),(2,.int .u8 c.toNat),(3,.int .u8 d.toNat),(4,.int .u8 e.toNat),(5,.int .u8 f.toNat),(6,.int .u8 g.toNat),(7,.int .u8 k.toNat)]=some (.hsl h.length 0 0 8 none,h++[.arr 0 1 true (eBs [a,b,c,d,e,f,g,k])]):=by
 simp [aBO,aAG,aBe,aAx,cellsOf,aCi,eBs,eB]
theorem aWm (h:aA0) (a:UInt8):aBO h true 1 1 [.int .u8 0] [(0,.int .u8 a.toNat)]=some (.hsl h.length 0 0 1 none,h++[.arr 0 1 true (eBs [a])]):=by
 simp [aBO,aAG,aBe,aAx,cellsOf,aCi,eBs,eB]
theorem aUK (H:aA0):lim G0.cfg (.func 7) [] H=some (.bool true,H):=by
 refine aAD rfl rfl aQl 1 (fun h=>rfl) ?_ (fun _=>rfl) H
 have t1:aBO [] true 1 8 [.int .u8 0] [(0,.int .u8 65),(1,.int .u8 82),(2,.int .u8 66),(3,.int .u8 50),(4,.int .u8 97),(5,.int .u8 98),(6,.int .u8 99),(7,.int .u8 100)]=some (.hsl 0 0 0 8 none,[.arr 0 1 true (eBs ex1)]):=aTV [] 65 82 66 50 97 98 99 100
 obtain ⟨A,hA⟩:∃ A,A=AObj.arr 0 1 true (eBs ex1):=⟨_,rfl⟩
 obtain ⟨Z,hZ⟩:∃ Z,Z=AObj.arr 0 10 true [aAz]:=⟨_,rfl⟩
 obtain ⟨B,hB⟩:∃ B,B=AObj.arr 0 1 true (eBs ex2):=⟨_,rfl⟩
 obtain ⟨C,hC⟩:∃ C,C=AObj.arr 0 1 true (eBs [0]):=⟨_,rfl⟩
 rw [← hA] at t1
 have m1:aGY [A] (.hsl 0 0 0 8 none)=some (.hsl 0 0 0 8 none):=by rw [hA];rfl
 have k1:=aQB (b:=ex1) (v:=.hsl 0 0 0 8 none) (H:=[A]) (i:=0) ⟨by decide,0,true,rfl,by rw [hA];rfl⟩ (by decide) (by rw [aTY];decide)
 rw [aTY] at k1
 have zz:[AV.int .i64 0,.int .i64 0,.nilS,.nilS,.nilS,.nilS,.nilS,.nilS,.nilS,.nilS]=aAz:=rfl
 have zl:aAz.length=10:=rfl
 have s1:aAw [A,Z] 10 (.ptr 1 0 0 0) (.agg aAz)=some [A,Z]:=by
  have:=aB9 (h:=[A,Z]) (i:=1) (ver:=0) (n:=10) (b:=true) (z:=aAz) (l:=aAz) (by rw [hZ];rfl) rfl rfl rfl rfl
  rw [← hZ] at this
  exact this
 have t2:aBO [A,Z] true 1 8 [.int .u8 0] [(0,.int .u8 65),(1,.int .u8 82),(2,.int .u8 66),(3,.int .u8 49),(4,.int .u8 97),(5,.int .u8 98),(6,.int .u8 99),(7,.int .u8 100)]=some (.hsl 2 0 0 8 none,[A,Z,B]):=by rw [hB];exact aTV [A,Z] 65 82 66 49 97 98 99 100
 have m2:aGY [A,Z,B] (.hsl 2 0 0 8 none)=some (.hsl 2 0 0 8 none):=by rw [hB];rfl
 have k2:=aQB (b:=ex2) (v:=.hsl 2 0 0 8 none) (H:=[A,Z,B]) (i:=2) ⟨by decide,0,true,rfl,by rw [hB];rfl⟩ (by decide) (by rw [aSl];decide)
 rw [aSl] at k2
 have s2:aAw [A,Z,B,Z] 10 (.ptr 3 0 0 0) (.agg aAz)=some [A,Z,B,Z]:=by
  have:=aB9 (h:=[A,Z,B,Z]) (i:=3) (ver:=0) (n:=10) (b:=true) (z:=aAz) (l:=aAz) (by rw [hZ];rfl) rfl rfl rfl rfl
  rw [← hZ] at this
  exact this
 have q1:=aRe aL4 (by decide)
 have e1:((aE4 []:Nat):Int)=1:=rfl
 have t3:aBO [A,Z,B,Z] true 1 1 [.int .u8 0] [(0,.int .u8 0)]=some (.hsl 4 0 0 1 none,[A,Z,B,Z,C]):=by rw [hC];exact aWm [A,Z,B,Z] 0
 have q2:=aSh (l:=[0]) (v:=.hsl 4 0 0 1 none) (H:=[A,Z,B,Z,C]) (i:=4) ⟨by decide,0,true,rfl,by rw [hC];rfl⟩ (by decide)
 have e2:((aE4 [0]:Nat):Int)=32:=rfl
 rw [e1] at q1
 rw [e2] at q2
 have d1:decide ((1:Int)=1)=true:=rfl
 have d2:decide ((32:Int)=32)=true:=rfl
 have d3:decide ((3:Int)=3)=true:=rfl
 have d4:decide ((33:Int)=33)=true:=rfl
 rw [aQh]
 simp only [Zad,Zaf,Zag,Zam,Zan,Zao,Zbc,Zbd,Zbe,Zbf,Zbk,Zbm,Zbn,Zbo,Zbp,Zbq,Zbt,Zbu,Zcj,Zcr,Zct,Zcu,Zcy,Zcz,Zda,Zdb,Zdc,Zdd,Zde,List.set_cons_zero,List.set_cons_succ,List.getD_cons_zero,List.getD_cons_succ,Option.map_some,Zdp,Zeq,decide_true,List.getElem?_cons_zero,List.getElem?_cons_succ,List.length_cons,List.length_nil,Nat.reduceAdd,Nat.reduceSub,eq_self,true_and,List.length_cons,List.length_nil,List.replicate_succ,List.replicate_zero,List.cons_append,List.nil_append,zz,zl,← hZ,ev2,t1,m1,k1,s1,t2,m2,k2,s2,q1,t3,q2,aA5,aA4,aA8,Option.some.injEq,Prod.mk.injEq,true_and,exists_eq']
end Go.Proofs.Ytgeedikghjcebaa.Ai
namespace Go.Proofs.Ytgeedikghjcebaa.Ai
open Go Go.Proofs
open List renaming length_nil → Q0, length_cons → Q1, getD_cons_zero → Q2, getD_cons_succ → Q3, replicate_succ → Q4, replicate_zero → Q5
set_option linter.unusedVariables false
set_option linter.unusedSimpArgs false
set_option maxRecDepth 10000
set_option maxHeartbeats 4000000
noncomputable def okB (p:PackD):Bool:=@decide (aBL p) (Classical.propDecidable _)
theorem aQZ {p:PackD} (h:aBL p):okB p=true:=@decide_eq_true _ (Classical.propDecidable _) h
theorem aR0 {p:PackD} (h:¬ aBL p):okB p=false:=@decide_eq_false _ (Classical.propDecidable _) h
theorem aUC {p:PackD}:okB p=true↔aBL p:=@decide_eq_true_iff _ (Classical.propDecidable _)
def gdR (c:RowT):Prop:=(∀ x ∈ c.base, -9223372036854775808≤x∧x≤9223372036854775807)∧∀ x ∈ c.val, -9223372036854775808≤x∧x≤9223372036854775807
structure GoodP (p:PackD):Prop where
 a:gdR p.a
 g:gdR p.g
 len:∀ l ∈ p.lists,l.length≤5000
section
variable {p : PackD} {cs : List AV}
theorem GoodP.ok (h:GoodP p):RtOk p.a∧RtOk p.g∧p.g.val.length≤1048576:=by
 have m1:=h.len p.a.row (by simp [PackD.lists])
 have m2:=h.len p.a.base (by simp [PackD.lists])
 have m3:=h.len p.a.val (by simp [PackD.lists])
 have m4:=h.len p.a.own (by simp [PackD.lists])
 have m5:=h.len p.g.row (by simp [PackD.lists])
 have m6:=h.len p.g.base (by simp [PackD.lists])
 have m7:=h.len p.g.val (by simp [PackD.lists])
 have m8:=h.len p.g.own (by simp [PackD.lists])
 exact ⟨⟨by omega,by omega,by omega,by omega,h.a.1,h.a.2⟩,⟨by omega,by omega,by omega,by omega,h.g.1,h.g.2⟩,by omega⟩
theorem GoodP.fR (h:GoodP p) (hp:aBh p cs) (H:aA0):lim G0.cfg (.func 23) [.agg cs] H=some (.bool (okB p),H):=by
 obtain ⟨k1,k2,k3⟩:=h.ok
 obtain ⟨j1,j2⟩:=aQC hp k1 k2 k3
 by_cases c:aBL p
 ·rw [aQZ c];exact j1 c H
 ·rw [aR0 c];exact j2 c H
theorem GoodP.rR (h:GoodP p) (hp:aBh p cs) (H:aA0):lim G0.cfg (.func 16) [.agg cs] H=some (.bool (okB p),H):=by
 obtain ⟨k1,k2,k3⟩:=h.ok
 obtain ⟨j1,j2⟩:=aUr hp k1 k2 k3
 by_cases c:aBL p
 ·rw [aQZ c];exact j1 c H
 ·rw [aR0 c];exact j2 c H
theorem aTT (h:okB p=true):inR p.tms=true∧inR p.nts=true:=by
 obtain ⟨f1,f2,f3,f4,_⟩:=(aUC.1 h).1
 exact ⟨(aFz _).2 ⟨by omega,by omega⟩,(aFz _).2 ⟨by omega,by omega⟩⟩
theorem aQH (h:GoodP p):(aHj p).length≤1000000:=by
 have lm:aDp.length=4:=rfl
 have h1:=aEK p.tms.toNat
 have h2:=aEK p.nts.toNat
 have e1:=aDb p.a.row
 have e2:=aDb p.a.base
 have e3:=aDb p.a.val
 have e4:=aDb p.a.own
 have e5:=aDb p.g.row
 have e6:=aDb p.g.base
 have e7:=aDb p.g.val
 have e8:=aDb p.g.own
 have m1:=h.len p.a.row (by simp [PackD.lists])
 have m2:=h.len p.a.base (by simp [PackD.lists])
 have m3:=h.len p.a.val (by simp [PackD.lists])
 have m4:=h.len p.a.own (by simp [PackD.lists])
 have m5:=h.len p.g.row (by simp [PackD.lists])
 have m6:=h.len p.g.base (by simp [PackD.lists])
 have m7:=h.len p.g.val (by simp [PackD.lists])
 have m8:=h.len p.g.own (by simp [PackD.lists])
 unfold aHj PackD.lists
 simp only [List.length_append,List.flatMap_cons,List.flatMap_nil,Q0]
 omega
theorem GoodP.fP (h:GoodP p) (hp:aBh p cs) (H:aA0):lim G0.cfg (.func 12) [.agg cs] H=some (aEI p (okB p),H) :=
 aWq hp (h.fR hp) aTT (fun r hr=>by have:=h.len r hr;omega) (aQH h) H
theorem GoodP.rP (h:GoodP p) (hp:aBh p cs) (H:aA0):lim G0.cfg (.func 13) [.agg cs] H=some (aEI p (okB p),H) :=
 aWb hp (h.rR hp) aTT (fun r hr=>by have:=h.len r hr;omega) (aQH h) H
theorem aS4 (p:PackD):∃ (w:AV) (l:List UInt8) (e:Int),aEI p (okB p)=.tup [w,.int .i64 e]∧LiB l w∧((e=0∧aBL p∧aM7 p=true∧l=aJ7 p)∨(e=34∧¬ aBL p)∨(e=2∧aBL p)):=by
 by_cases c:aBL p
 ·rw [aQZ c]
  cases c2:aM7 p with
  | true=>exact ⟨_,aJ7 p,0,by unfold aEI;rw [c2],aCC _ _,.inl ⟨rfl,c,rfl,rfl⟩⟩
  | false=>exact ⟨_,[],2,by unfold aEI;rw [c2],aL4,.inr (.inr ⟨rfl,c⟩)⟩
 ·rw [aR0 c]
  exact ⟨_,[],34,rfl,aL4,.inr (.inl ⟨rfl,c⟩)⟩
end
section
variable {p : PackD} {cs : List AV} {b : List UInt8} {v : AV}
theorem aTs (ha:gdR p.a) (hg:gdR p.g) (h:aP9 p=true):GoodP p:=by
 have h:=of_decide_eq_true h
 refine ⟨ha,hg,fun l hl => ?_⟩
 simp only [PackD.lists,List.mem_cons,List.not_mem_nil,or_false] at hl
 rcases hl with rfl | rfl | rfl | rfl | rfl | rfl | rfl | rfl <;> omega
theorem aTw (hp:aBh p cs) (ha:gdR p.a) (hg:gdR p.g) (hm:∀ l ∈ p.lists,l.length≤1000000000000000000) (hb:LiB b v) (H:aA0):lim G0.cfg (.func 4) [.agg cs,v] H=some (.bool true,H):=by
 refine aAD rfl rfl aJY 1 (fun h=>aGz (hp.fz h 998) (hb.fz h 999)) ?_ (fun _=>rfl) H
 have nl:=hb.len
 have hk:=aUK
 obtain ⟨p1,p2,p3⟩:=hp.cells
 obtain ⟨X,hX⟩:∃ X,X=AObj.arr 0 10 true [cs]:=⟨_,rfl⟩
 have lX:aAd [X] 10 true (.ptr 0 0 0 0)=some (.agg cs):=aB5 (b:=true) (by rw [hX];rfl) p3
 have ff:=aWo hp hm
 rw [aJX]
 cases cf:aP9 p with
 | false =>
  rw [cf] at ff
  simp only [Zaf,Zag,Zah,Zam,Zan,Zao,Zaq,Zav,Zbc,Zbd,Zbh,Zbk,Zbm,Zbn,Zbo,Zbp,Zbr,Zbs,Zbv,Zct,Zcu,Zcw,Zcy,Zcz,Zda,Zdb,Zdd,Zde,List.set_cons_zero,List.set_cons_succ,Q2,Q3,Option.map_some,Zdv,Bool.not_false,Q1,Q0,if_true,Nat.reduceAdd,Nat.reduceSub,eq_self,true_and,Q1,Q0,Q4,Q5,List.cons_append,List.nil_append,p1,p3,eq_self,if_true,← hX,lX,ff,hk,aA5,aA4,aA8,Option.some.injEq,Prod.mk.injEq,true_and,exists_eq']
 | true =>
 rw [cf] at ff
 by_cases c:(2000:Int) < b.length
 case pos=>simp only [Zaf,Zag,Zah,Zam,Zan,Zao,Zaq,Zav,Zbc,Zbd,Zbg,Zbl,Zbm,Zbn,Zbo,Zbp,Zbr,Zbs,Zbu,Zbv,Zck,Zct,Zcu,Zcw,Zcy,Zcz,Zda,Zdb,Zdd,Zde,List.set_cons_zero,List.set_cons_succ,Q2,Q3,Option.map_some,Zdn,Zdv,decide_true,Bool.not_true,Q1,Q0,if_true,Nat.reduceAdd,Nat.reduceSub,eq_self,true_and,Q1,Q0,Q4,Q5,List.cons_append,List.nil_append,p1,p3,eq_self,if_true,← hX,lX,ff,nl,c,hk,aA5,aA4,aA8,Option.some.injEq,Prod.mk.injEq,true_and,exists_eq']
 case neg =>
 have gd:=aTs ha hg cf
 have e1:=gd.fP hp
 have e2:=gd.rP hp
 obtain ⟨w,l,e,ef,hw,_⟩:=aS4 p
 rw [ef] at e1 e2
 have sw:=hw.str
 have q1:=aRe hb (by omega)
 have q2:=aWa hb (by omega)
 have d1:decide (l=l)=true:=decide_eq_true rfl
 have d2:decide (e=e)=true:=decide_eq_true rfl
 have d3:decide ((aE4 b:Int)=aE4 b)=true:=decide_eq_true rfl
 simp only [Zab,Zae,Zaf,Zag,Zah,Zam,Zan,Zao,Zaw,Zbc,Zbd,Zbf,Zbg,Zbk,Zbl,Zbm,Zbn,Zbo,Zbp,Zbr,Zbs,Zbu,Zbv,Zcj,Zck,Zct,Zcu,Zcw,Zcy,Zcz,Zda,Zdb,Zdd,Zde,List.set_cons_zero,List.set_cons_succ,Q2,Q3,Option.map_some,Zdn,Zdp,Zdr,Zdv,Zeq,decide_true,decide_false,Bool.not_true,List.getElem?_cons_zero,List.getElem?_cons_succ,Q1,Q0,if_true,Nat.reduceAdd,Nat.reduceSub,eq_self,true_and,Q1,Q0,Q4,Q5,List.cons_append,List.nil_append,p1,p3,eq_self,if_true,← hX,lX,ff,nl,c,e1,e2,sw,q1,q2,hk,aA5,aA4,aA8,Option.some.injEq,Prod.mk.injEq,true_and,exists_eq']
end
end Go.Proofs.Ytgeedikghjcebaa.Ai
