/- pack.Back: two rows joined to an empty table, in any order. -/
import Derived.Test.YtgeedikghjcebaamXN
import Derived.Test.YtgeedikghjcebaamXM
namespace Go.Proofs.Ytgeedikghjcebaa.Ai
open Go Go.Proofs
open AV renaming junk → J
open List renaming map_cons → Q0, nil_append → Q1
set_option linter.unusedVariables false
set_option linter.unusedSimpArgs false
set_option maxRecDepth 10000
set_option maxHeartbeats 4000000
section
variable {wx wy w54 w55 : AV} {h : aA0}
theorem aTj (e2:h[2]?=some (.arr 0 2 true [[.nilS,.nilS]]))
  (px:pure1 wx=false) (py:pure1 wy=false) (hx:cellsOf wx=[wx]∧aAp wx=true) (hy:cellsOf wy=[wy]∧aAp wy=true) (rx:aCb h.length wx) (ry:aCb h.length wy) (ox:aCp h.length wx) (oy:aCp h.length wy) (r54:aCb h.length w54) (r55:aCb h.length w55) (o54:aCp h.length w54) (o55:aCp h.length w55) (hr:Ren h.length h) :
  ∃ (t':List AV),t'=(J::.ptr 0 0 0 0::.ptr 1 0 0 0::J::J::.ptr 2 0 0 0::J::wx::J::J::J::wy::J::J::J::J::J::J::J::J::J::J::J::J::J::J::J::J::J::J::J::J::J::J::J::J::J::J::J::J::J::J::J::J::J::J::J::J::J::J::J::J::J::J::w54::w55::J::J::J::J::J::J::J::J::J::J::J::J::J::J::J::J::J::J::J::J::J::J::J::J::J::J::J::J::J::J::J::J::J::J::J::J::J::J::J::.ptr 2 0 0 0::.nilS::wx::.hsl h.length 0 0 1 none::.hsl (h.length+1) 0 0 1 none::.ptr 2 0 0 1::.nilS::wy::.hsl (h.length+2) 0 0 1 none::.hsl (h.length+3) 0 0 1 none::.ptr 2 0 0 0::.ptr 2 0 0 1::J::J::J::J::J::J::J::J::J::J::J::J::J::J::J::J::J::J::J::J::J::J::J::J::J::J::J::J::J::J::J::J::J::J::J::J::J::J::J::J::[]) ∧
   eq3 (lim G0.cfg) aA7 aA5 aA6 h.length 14 [false,false,false,false,false,false,false,false,false,false,false,false,false,false] (J::.ptr 0 0 0 0::.ptr 1 0 0 0::J::J::.ptr 2 0 0 0::J::wx::J::J::J::wy::J::J::J::J::J::J::J::J::J::J::J::J::J::J::J::J::J::J::J::J::J::J::J::J::J::J::J::J::J::J::J::J::J::J::J::J::J::J::J::J::J::J::w54::w55::J::J::J::J::J::J::J::J::J::J::J::J::J::J::J::J::J::J::J::J::J::J::J::J::J::J::J::J::J::J::J::J::J::J::J::J::J::J::J::J::J::J::J::J::J::J::J::J::J::J::J::J::J::J::J::J::J::J::J::J::J::J::J::J::J::J::J::J::J::J::J::J::J::J::J::J::J::J::J::J::J::J::J::J::J::J::J::J::J::J::J::[]) h =
   some ⟨t',h.set 2 (.arr 0 2 true [[.hsl (h.length+1) 0 0 1 none,.hsl (h.length+3) 0 0 1 none]])++[.arr 0 1 true [[wx]],.arr 0 1 false [[wx]],.arr 0 1 true [[wy]],.arr 0 1 false [[wy]]]⟩:=by
 obtain ⟨LA,hLA⟩:∃ o,o=AObj.arr 0 1 true [[wx]]:=⟨_,rfl⟩
 obtain ⟨LG,hLG⟩:∃ o,o=AObj.arr 0 1 true [[wy]]:=⟨_,rfl⟩
 obtain ⟨NA,hNA⟩:∃ o,o=AObj.arr 0 1 false [[wx]]:=⟨_,rfl⟩
 obtain ⟨NG,hNG⟩:∃ o,o=AObj.arr 0 1 false [[wy]]:=⟨_,rfl⟩
 have lit:∀ (H:aA0) (w:AV),pure1 w=false→cellsOf w=[w]→aBH H false 1 1 [.nilS] [(0,w)]=some (.hsl H.length 0 0 1 none,H++[.arr 0 1 true [[w]]]):=fun H w p c=>by
  simp [aBH,aAF,aB4,aAv,c,aCh,p]
 have litA:=fun H=>lit H wx px hx.1
 have litG:=fun H=>lit H wy py hy.1
 rw [← hLA] at litA
 rw [← hLG] at litG
 have lt2:=aBS e2
 have app:∀ (H:aA0) (w wl:AV),aAp w=true→aAC H 1 wl=some [[w]]→aD9 H 1 24 .nilS wl=some (.hsl H.length 0 0 1 none,H++[.arr 0 1 false [[w]]]):=by
  intro H w wl ok el
  obtain ⟨i',ver,h',r1,r2,r3⟩:=aAu.pushX (c:=[w]) el (aAu.nil 1 H) rfl (by simp [ok]) rfl 24 (by omega) (by simp)
  rcases r3 with ⟨_,_,g1,g2,g3⟩ | ⟨v0,g1,_⟩
  ·subst g1;subst g2;subst g3;exact r1
  ·cases g1
 have el0:∀ (w:AV) (L:aA0),aAC (h++AObj.arr 0 1 true [[w]]::L) 1 (.hsl h.length 0 0 1 none)=some [[w]]:=fun w L=>by simp [aAC,aAk]
 have el1:∀ (o:AObj) (w:AV) (L:aA0),aAC (h++o::AObj.arr 0 1 true [[w]]::L) 1 (.hsl (h.length+1) 0 0 1 none)=some [[w]]:=fun o w L=>by
  have:(h++o::AObj.arr 0 1 true [[w]]::L)[h.length+1]?=some (.arr 0 1 true [[w]]):=by rw [aDk];rfl
  simp [aAC,aAk]
 have el2:∀ (o o':AObj) (w:AV) (L:aA0),aAC (h++o::o'::AObj.arr 0 1 true [[w]]::L) 1 (.hsl (h.length+2) 0 0 1 none)=some [[w]]:=fun o o' w L=>by
  have:(h++o::o'::AObj.arr 0 1 true [[w]]::L)[h.length+2]?=some (.arr 0 1 true [[w]]):=by rw [aDk];rfl
  simp [aAC,aAk]
 have aA1:=app (h++[LA]) wx (.hsl h.length 0 0 1 none) hx.2 (by rw [hLA];exact el0 wx [])
 have aA2:=app (h++[LA,LG]) wx (.hsl h.length 0 0 1 none) hx.2 (by rw [hLA];exact el0 wx [LG])
 have aA3:=app (h++[LG,LA]) wx (.hsl (h.length+1) 0 0 1 none) hx.2 (by rw [hLA];exact el1 LG wx [])
 have aG1:=app (h++[LA,NA,LG]) wy (.hsl (h.length+2) 0 0 1 none) hy.2 (by rw [hLG];exact el2 LA NA wy [])
 have aG2:=app (h++[LA,LG,NA]) wy (.hsl (h.length+1) 0 0 1 none) hy.2 (by rw [hLG];exact el1 LA wy [NA])
 have aG3:=app (h++[LG,LA,NA]) wy (.hsl h.length 0 0 1 none) hy.2 (by rw [hLG];exact el0 wy [LA,NA])
 rw [← hNA] at aA1 aA2 aA3
 rw [← hNG] at aG1 aG2 aG3
 simp only [List.length_append,List.length_cons,List.length_nil,Nat.zero_add,List.append_assoc,List.cons_append,Q1,Nat.reduceAdd] at aA1 aA2 aA3 aG1 aG2 aG3
 have ld0:∀ (H:aA0) (a b:AV),H[2]?=some (.arr 0 2 true [[a,b]])→∀ L,aAb (H++L) 1 false (.ptr 2 0 0 0)=some a:=fun H a b e L=>by rw [aB5 _ 1 2 0 0 0 false 2 true _ _ (aAJ e L) rfl];rfl
 have ld1:∀ (H:aA0) (a b:AV),H[2]?=some (.arr 0 2 true [[a,b]])→∀ L,aAb (H++L) 1 false (.ptr 2 0 0 1)=some b:=fun H a b e L=>by rw [aB5 _ 1 2 0 0 1 false 2 true _ _ (aAJ e L) rfl];rfl
 have a0:=ld0 h _ _ e2
 have a1:=ld1 h _ _ e2
 have a0n:=a0 []
 have a1n:=a1 []
 rw [List.append_nil] at a0n a1n
 have s0:∀ (L:aA0) (k:Nat),aAB (h++L) 1 (.ptr 2 0 0 0) (.hsl k 0 0 1 none)=some (h.set 2 (.arr 0 2 true [[.hsl k 0 0 1 none,.nilS]])++L):=fun L k=>by
  have e:=aAJ e2 L
  rw [← List.set_append_left _ _ lt2]
  simp [aAB,aAv,aAk,e,cellsOf,aAp]
 have s1:∀ (L:aA0) (k j:Nat),aAB (h.set 2 (.arr 0 2 true [[.hsl k 0 0 1 none,.nilS]])++L) 1 (.ptr 2 0 0 1) (.hsl j 0 0 1 none)=some (h.set 2 (.arr 0 2 true [[.hsl k 0 0 1 none,.hsl j 0 0 1 none]])++L):=fun L k j=>by
  have e:=aAJ (aAr (y:=AObj.arr 0 2 true [[.hsl k 0 0 1 none,.nilS]]) e2) L
  have:h.set 2 (.arr 0 2 true [[.hsl k 0 0 1 none,.hsl j 0 0 1 none]])++L=(h.set 2 (.arr 0 2 true [[.hsl k 0 0 1 none,.nilS]])++L).set 2 (.arr 0 2 true [[.hsl k 0 0 1 none,.hsl j 0 0 1 none]]):=by
   rw [List.set_append_left _ _ (by rw [List.length_set];exact lt2),set_set]
  rw [this]
  simp [aAB,aAv,aAk,e,cellsOf,aAp]
 obtain ⟨HX,hHX⟩:∃ H,H=h.set 2 (.arr 0 2 true [[.hsl (h.length+1) 0 0 1 none,.hsl (h.length+3) 0 0 1 none]]):=⟨_,rfl⟩
 obtain ⟨HY,hHY⟩:∃ H,H=h.set 2 (.arr 0 2 true [[.hsl (h.length+2) 0 0 1 none,.hsl (h.length+3) 0 0 1 none]]):=⟨_,rfl⟩
 have s0X:=fun L=>s0 L (h.length+1)
 have s0Y:=fun L=>s0 L (h.length+2)
 have s1X:=fun L=>s1 L (h.length+1) (h.length+3)
 have s1Y:=fun L=>s1 L (h.length+2) (h.length+3)
 rw [← hHX] at s1X
 rw [← hHY] at s1Y
 have lX:HX.length=h.length:=by rw [hHX,List.length_set]
 have lY:HY.length=h.length:=by rw [hHY,List.length_set]
 have rO:∀ (x:Bool) (w:AV),aCb h.length w→aHL h.length (.arr 0 1 x [[w]]):=fun x w hw=>aBF.2 (aCL hw)
 have lj:=aNf h.length
 have lni:=aS6 h.length
 have l0:∀ a b c,aCp h.length (.ptr 0 a b c):=fun a b c=>aGO (by omega)
 have l1:∀ a b c,aCp h.length (.ptr 1 a b c):=fun a b c=>aGO (by omega)
 have l2:∀ a b c,aCp h.length (.ptr 2 a b c):=fun a b c=>aGO (by omega)
 -- one exchange: the second literal and the first list
 have stepYX:aGz (h.length+2) (h.length+1) ⟨(J::.ptr 0 0 0 0::.ptr 1 0 0 0::J::J::.ptr 2 0 0 0::J::wx::J::J::J::wy::J::J::J::J::J::J::J::J::J::J::J::J::J::J::J::J::J::J::J::J::J::J::J::J::J::J::J::J::J::J::J::J::J::J::J::J::J::J::J::J::J::J::w54::w55::J::J::J::J::J::J::J::J::J::J::J::J::J::J::J::J::J::J::J::J::J::J::J::J::J::J::J::J::J::J::J::J::J::J::J::J::J::J::J::.ptr 2 0 0 0::.nilS::wx::.hsl h.length 0 0 1 none::.hsl (h.length+2) 0 0 1 none::.ptr 2 0 0 1::.nilS::wy::.hsl (h.length+1) 0 0 1 none::.hsl (h.length+3) 0 0 1 none::.ptr 2 0 0 0::.ptr 2 0 0 1::J::J::J::J::J::J::J::J::J::J::J::J::J::J::J::J::J::J::J::J::J::J::J::J::J::J::J::J::J::J::J::J::J::J::J::J::J::J::J::J::[]),HY++[LA,LG,NA,NG]⟩=⟨(J::.ptr 0 0 0 0::.ptr 1 0 0 0::J::J::.ptr 2 0 0 0::J::wx::J::J::J::wy::J::J::J::J::J::J::J::J::J::J::J::J::J::J::J::J::J::J::J::J::J::J::J::J::J::J::J::J::J::J::J::J::J::J::J::J::J::J::J::J::J::J::w54::w55::J::J::J::J::J::J::J::J::J::J::J::J::J::J::J::J::J::J::J::J::J::J::J::J::J::J::J::J::J::J::J::J::J::J::J::J::J::J::J::.ptr 2 0 0 0::.nilS::wx::.hsl h.length 0 0 1 none::.hsl (h.length+1) 0 0 1 none::.ptr 2 0 0 1::.nilS::wy::.hsl (h.length+2) 0 0 1 none::.hsl (h.length+3) 0 0 1 none::.ptr 2 0 0 0::.ptr 2 0 0 1::J::J::J::J::J::J::J::J::J::J::J::J::J::J::J::J::J::J::J::J::J::J::J::J::J::J::J::J::J::J::J::J::J::J::J::J::J::J::J::J::[]),HX++[LA,NA,LG,NG]⟩:=by
  have rv:=fun (x:AV) (hx:aCb h.length x)=>hx (h.length+2) (h.length+1) (by omega) (by omega)
  have v1:=rv wx rx
  have v2:=rv wy ry
  have v7:=rv w54 r54
  have v8:=rv w55 r55
  have q0:∀ a b c,aAU (h.length+2) (h.length+1) (.ptr 0 a b c)=.ptr 0 a b c:=fun a b c=>rv _ (aDw (by omega))
  have q1:∀ a b c,aAU (h.length+2) (h.length+1) (.ptr 1 a b c)=.ptr 1 a b c:=fun a b c=>rv _ (aDw (by omega))
  have q2:∀ a b c,aAU (h.length+2) (h.length+1) (.ptr 2 a b c)=.ptr 2 a b c:=fun a b c=>rv _ (aDw (by omega))
  have q3:aAU (h.length+2) (h.length+1) J=J:=rfl
  have q3n:aAU (h.length+2) (h.length+1) .nilS=.nilS:=rfl
  have q4:aAU (h.length+2) (h.length+1) (.hsl (h.length+2) 0 0 1 none)=.hsl (h.length+1) 0 0 1 none:=by simp [aAU,aOV]
  have q5:aAU (h.length+2) (h.length+1) (.hsl (h.length+1) 0 0 1 none)=.hsl (h.length+2) 0 0 1 none:=by
   have:=aIb (i:=h.length+2) (j:=h.length+1) (by omega)
   simp [aAU,this]
  have q6:aAU (h.length+2) (h.length+1) (.hsl h.length 0 0 1 none)=.hsl h.length 0 0 1 none:=by
   have:=aHh (i:=h.length+2) (j:=h.length+1) (k:=h.length) (by omega) (by omega)
   simp [aAU,this]
  have q7:aAU (h.length+2) (h.length+1) (.hsl (h.length+3) 0 0 1 none)=.hsl (h.length+3) 0 0 1 none:=by
   have:=aHh (i:=h.length+2) (j:=h.length+1) (k:=h.length+3) (by omega) (by omega)
   simp [aAU,this]
  have e0:HY.map (aDO (h.length+2) (h.length+1))=HX:=by
   rw [hHY,List.map_set,hr _ _ (by omega) (by omega),hHX]
   congr 1
   simp only [aDO,Q0,List.map_nil,aBK,q4,q7]
  have e1:(HY++[LA,LG,NA,NG]).map (aDO (h.length+2) (h.length+1))=HX++[LA,LG,NA,NG]:=by
   rw [List.map_append,e0,Q0,Q0,Q0,Q0,List.map_nil,hLA,hLG,hNA,hNG,rO true wx rx _ _ (by omega) (by omega),rO true wy ry _ _ (by omega) (by omega),rO false wx rx _ _ (by omega) (by omega),rO false wy ry _ _ (by omega) (by omega)]
  simp only [aGz,aBK,v1,v2,v7,v8,q0,q1,q2,q3,q3n,q4,q5,q6,q7]
  rw [e1]
  have:=aRQ HX LA LG NA [NG]
  rw [lX] at this
  rw [this]
 -- the two literals
 have stepZY:aGz (h.length+1) h.length ⟨(J::.ptr 0 0 0 0::.ptr 1 0 0 0::J::J::.ptr 2 0 0 0::J::wx::J::J::J::wy::J::J::J::J::J::J::J::J::J::J::J::J::J::J::J::J::J::J::J::J::J::J::J::J::J::J::J::J::J::J::J::J::J::J::J::J::J::J::J::J::J::J::w54::w55::J::J::J::J::J::J::J::J::J::J::J::J::J::J::J::J::J::J::J::J::J::J::J::J::J::J::J::J::J::J::J::J::J::J::J::J::J::J::J::.ptr 2 0 0 0::.nilS::wx::.hsl (h.length+1) 0 0 1 none::.hsl (h.length+2) 0 0 1 none::.ptr 2 0 0 1::.nilS::wy::.hsl h.length 0 0 1 none::.hsl (h.length+3) 0 0 1 none::.ptr 2 0 0 0::.ptr 2 0 0 1::J::J::J::J::J::J::J::J::J::J::J::J::J::J::J::J::J::J::J::J::J::J::J::J::J::J::J::J::J::J::J::J::J::J::J::J::J::J::J::J::[]),HY++[LG,LA,NA,NG]⟩=⟨(J::.ptr 0 0 0 0::.ptr 1 0 0 0::J::J::.ptr 2 0 0 0::J::wx::J::J::J::wy::J::J::J::J::J::J::J::J::J::J::J::J::J::J::J::J::J::J::J::J::J::J::J::J::J::J::J::J::J::J::J::J::J::J::J::J::J::J::J::J::J::J::w54::w55::J::J::J::J::J::J::J::J::J::J::J::J::J::J::J::J::J::J::J::J::J::J::J::J::J::J::J::J::J::J::J::J::J::J::J::J::J::J::J::.ptr 2 0 0 0::.nilS::wx::.hsl h.length 0 0 1 none::.hsl (h.length+2) 0 0 1 none::.ptr 2 0 0 1::.nilS::wy::.hsl (h.length+1) 0 0 1 none::.hsl (h.length+3) 0 0 1 none::.ptr 2 0 0 0::.ptr 2 0 0 1::J::J::J::J::J::J::J::J::J::J::J::J::J::J::J::J::J::J::J::J::J::J::J::J::J::J::J::J::J::J::J::J::J::J::J::J::J::J::J::J::[]),HY++[LA,LG,NA,NG]⟩:=by
  have rv:=fun (x:AV) (hx:aCb h.length x)=>hx (h.length+1) h.length (by omega) (by omega)
  have v1:=rv wx rx
  have v2:=rv wy ry
  have v7:=rv w54 r54
  have v8:=rv w55 r55
  have q0:∀ a b c,aAU (h.length+1) h.length (.ptr 0 a b c)=.ptr 0 a b c:=fun a b c=>rv _ (aDw (by omega))
  have q1:∀ a b c,aAU (h.length+1) h.length (.ptr 1 a b c)=.ptr 1 a b c:=fun a b c=>rv _ (aDw (by omega))
  have q2:∀ a b c,aAU (h.length+1) h.length (.ptr 2 a b c)=.ptr 2 a b c:=fun a b c=>rv _ (aDw (by omega))
  have q3:aAU (h.length+1) h.length J=J:=rfl
  have q3n:aAU (h.length+1) h.length .nilS=.nilS:=rfl
  have q4:aAU (h.length+1) h.length (.hsl (h.length+1) 0 0 1 none)=.hsl h.length 0 0 1 none:=by simp [aAU,aOV]
  have q5:aAU (h.length+1) h.length (.hsl h.length 0 0 1 none)=.hsl (h.length+1) 0 0 1 none:=by
   have:=aIb (i:=h.length+1) (j:=h.length) (by omega)
   simp [aAU,this]
  have q6:aAU (h.length+1) h.length (.hsl (h.length+2) 0 0 1 none)=.hsl (h.length+2) 0 0 1 none:=by
   have:=aHh (i:=h.length+1) (j:=h.length) (k:=h.length+2) (by omega) (by omega)
   simp [aAU,this]
  have q7:aAU (h.length+1) h.length (.hsl (h.length+3) 0 0 1 none)=.hsl (h.length+3) 0 0 1 none:=by
   have:=aHh (i:=h.length+1) (j:=h.length) (k:=h.length+3) (by omega) (by omega)
   simp [aAU,this]
  have e0:HY.map (aDO (h.length+1) h.length)=HY:=by
   rw [hHY,List.map_set,hr _ _ (by omega) (by omega)]
   congr 1
   simp only [aDO,Q0,List.map_nil,aBK,q6,q7]
  have e1:(HY++[LG,LA,NA,NG]).map (aDO (h.length+1) h.length)=HY++[LG,LA,NA,NG]:=by
   rw [List.map_append,e0,Q0,Q0,Q0,Q0,List.map_nil,hLA,hLG,hNA,hNG,rO true wx rx _ _ (by omega) (by omega),rO true wy ry _ _ (by omega) (by omega),rO false wx rx _ _ (by omega) (by omega),rO false wy ry _ _ (by omega) (by omega)]
  simp only [aGz,aBK,v1,v2,v7,v8,q0,q1,q2,q3,q3n,q4,q5,q6,q7]
  rw [e1]
  have:=aOz HY LG LA [NA,NG]
  rw [lY] at this
  rw [this]
 have ps1:∀ p ∈ [(h.length+2,h.length+1)],h.length≤p.1∧h.length≤p.2:=fun p hp=>by rw [List.mem_singleton] at hp;subst hp;exact ⟨by omega,by omega⟩
 have ps2:∀ p ∈ [(h.length+1,h.length)],h.length≤p.1∧h.length≤p.2:=fun p hp=>by rw [List.mem_singleton] at hp;subst hp;exact ⟨by omega,by omega⟩
 have ps3:∀ p ∈ [(h.length+1,h.length),(h.length+2,h.length+1)],h.length≤p.1∧h.length≤p.2:=fun p hp=>by
  rcases List.mem_cons.1 hp with rfl | hp
  ·exact ⟨by omega,by omega⟩
  ·exact ps1 p hp
 have sameY:aDv h.length (some ⟨(J::.ptr 0 0 0 0::.ptr 1 0 0 0::J::J::.ptr 2 0 0 0::J::wx::J::J::J::wy::J::J::J::J::J::J::J::J::J::J::J::J::J::J::J::J::J::J::J::J::J::J::J::J::J::J::J::J::J::J::J::J::J::J::J::J::J::J::J::J::J::J::w54::w55::J::J::J::J::J::J::J::J::J::J::J::J::J::J::J::J::J::J::J::J::J::J::J::J::J::J::J::J::J::J::J::J::J::J::J::J::J::J::J::.ptr 2 0 0 0::.nilS::wx::.hsl h.length 0 0 1 none::.hsl (h.length+2) 0 0 1 none::.ptr 2 0 0 1::.nilS::wy::.hsl (h.length+1) 0 0 1 none::.hsl (h.length+3) 0 0 1 none::.ptr 2 0 0 0::.ptr 2 0 0 1::J::J::J::J::J::J::J::J::J::J::J::J::J::J::J::J::J::J::J::J::J::J::J::J::J::J::J::J::J::J::J::J::J::J::J::J::J::J::J::J::[]),HY++[LA,LG,NA,NG]⟩) (some ⟨(J::.ptr 0 0 0 0::.ptr 1 0 0 0::J::J::.ptr 2 0 0 0::J::wx::J::J::J::wy::J::J::J::J::J::J::J::J::J::J::J::J::J::J::J::J::J::J::J::J::J::J::J::J::J::J::J::J::J::J::J::J::J::J::J::J::J::J::J::J::J::J::w54::w55::J::J::J::J::J::J::J::J::J::J::J::J::J::J::J::J::J::J::J::J::J::J::J::J::J::J::J::J::J::J::J::J::J::J::J::J::J::J::J::.ptr 2 0 0 0::.nilS::wx::.hsl h.length 0 0 1 none::.hsl (h.length+1) 0 0 1 none::.ptr 2 0 0 1::.nilS::wy::.hsl (h.length+2) 0 0 1 none::.hsl (h.length+3) 0 0 1 none::.ptr 2 0 0 0::.ptr 2 0 0 1::J::J::J::J::J::J::J::J::J::J::J::J::J::J::J::J::J::J::J::J::J::J::J::J::J::J::J::J::J::J::J::J::J::J::J::J::J::J::J::J::[]),HX++[LA,NA,LG,NG]⟩)=true:=by
  refine aKi (ps:=[(h.length+2,h.length+1)]) ?_ ?_
  ·have lnZ:(HY++[LA,LG,NA,NG]).length=h.length+4:=by simp [lY]
   simp only [lnZ,aRd]
   rw [aPc (i':=h.length+2) rfl (by omega) (by omega) (by omega) (by omega) (by omega),Q1]
   have ap:aD0 [(h.length+2,h.length+1)] (h.length+1)=h.length+2:=by
    simp only [aD0];exact aIb (by omega)
   have ap3:aD0 [(h.length+2,h.length+1)] (h.length+3)=h.length+3:=by
    simp only [aD0];exact aHh (by omega) (by omega)
   simp only [aET ps1 (l2 _ _ _),aET ps1 lni,aET ps1 oy,aNt ap,aNt ap3,aET ps1 lj,aMa]
  ·rw [aHj (by omega) (by omega) (by omega) (by simp [lY]) (by simp [lY]) stepYX]
   rfl
 have sameZ:aDv h.length (some ⟨(J::.ptr 0 0 0 0::.ptr 1 0 0 0::J::J::.ptr 2 0 0 0::J::wx::J::J::J::wy::J::J::J::J::J::J::J::J::J::J::J::J::J::J::J::J::J::J::J::J::J::J::J::J::J::J::J::J::J::J::J::J::J::J::J::J::J::J::J::J::J::J::w54::w55::J::J::J::J::J::J::J::J::J::J::J::J::J::J::J::J::J::J::J::J::J::J::J::J::J::J::J::J::J::J::J::J::J::J::J::J::J::J::J::.ptr 2 0 0 0::.nilS::wx::.hsl (h.length+1) 0 0 1 none::.hsl (h.length+2) 0 0 1 none::.ptr 2 0 0 1::.nilS::wy::.hsl h.length 0 0 1 none::.hsl (h.length+3) 0 0 1 none::.ptr 2 0 0 0::.ptr 2 0 0 1::J::J::J::J::J::J::J::J::J::J::J::J::J::J::J::J::J::J::J::J::J::J::J::J::J::J::J::J::J::J::J::J::J::J::J::J::J::J::J::J::[]),HY++[LG,LA,NA,NG]⟩) (some ⟨(J::.ptr 0 0 0 0::.ptr 1 0 0 0::J::J::.ptr 2 0 0 0::J::wx::J::J::J::wy::J::J::J::J::J::J::J::J::J::J::J::J::J::J::J::J::J::J::J::J::J::J::J::J::J::J::J::J::J::J::J::J::J::J::J::J::J::J::J::J::J::J::w54::w55::J::J::J::J::J::J::J::J::J::J::J::J::J::J::J::J::J::J::J::J::J::J::J::J::J::J::J::J::J::J::J::J::J::J::J::J::J::J::J::.ptr 2 0 0 0::.nilS::wx::.hsl h.length 0 0 1 none::.hsl (h.length+1) 0 0 1 none::.ptr 2 0 0 1::.nilS::wy::.hsl (h.length+2) 0 0 1 none::.hsl (h.length+3) 0 0 1 none::.ptr 2 0 0 0::.ptr 2 0 0 1::J::J::J::J::J::J::J::J::J::J::J::J::J::J::J::J::J::J::J::J::J::J::J::J::J::J::J::J::J::J::J::J::J::J::J::J::J::J::J::J::[]),HX++[LA,NA,LG,NG]⟩)=true:=by
  refine aKi (ps:=[(h.length+1,h.length),(h.length+2,h.length+1)]) ?_ ?_
  ·have lnZ:(HY++[LG,LA,NA,NG]).length=h.length+4:=by simp [lY]
   simp only [lnZ,aRd]
   rw [aPc (i':=h.length+1) rfl (by omega) (by omega) (by omega) (by omega) (by omega),Q1]
   have a2:aD0 [(h.length+1,h.length)] (h.length+2)=h.length+2:=by
    simp only [aD0];exact aHh (by omega) (by omega)
   rw [aPc (i':=h.length+2) a2 (by omega) (by omega) (by omega) (by omega) (by omega)]
   have e:[(h.length+1,h.length)]++[(h.length+2,h.length+1)]=[(h.length+1,h.length),(h.length+2,h.length+1)]:=rfl
   rw [e]
   have ap:aD0 [(h.length+1,h.length),(h.length+2,h.length+1)] h.length=h.length+2:=by
    simp only [aD0];rw [aIb (by omega),aIb (by omega)]
   have ap3:aD0 [(h.length+1,h.length),(h.length+2,h.length+1)] (h.length+3)=h.length+3:=by
    simp only [aD0];rw [aHh (i:=h.length+1) (j:=h.length) (k:=h.length+3) (by omega) (by omega)];exact aHh (by omega) (by omega)
   simp only [aET ps3 (l2 _ _ _),aET ps3 lni,aET ps3 oy,aNt ap,aNt ap3,aET ps3 lj,aMa]
  ·rw [aHj (by omega) (by omega) (by omega) (by simp [lY]) (by simp [lY]) stepZY,aHj (by omega) (by omega) (by omega) (by simp [lY]) (by simp [lY]) stepYX]
   rfl
 refine ⟨_,rfl,?_⟩
 rw [← hHX,← hLA,← hLG,← hNA,← hNG]
 simp only [Zan,Zbc,Zbd,Zbe,Zbm,Zbo,Zbs,Zbt,Zcc,Zcm,Zcr,Zcz,Zdb,Zdc,List.set_cons_zero,List.set_cons_succ,List.getD_cons_zero,List.getD_cons_succ,Zeb,List.length_cons,List.length_nil,Nat.reduceAdd,eq_self,List.length_cons,List.length_nil,List.cons_append,Q1,aHf,aHe,aHd,aHc,aHb,aHa,aH9,aH8,aH7,aH6,aGw,aGv,aGu,aGt,aGs,aGr,aGq,aGp,aGo,aGn,aGm,aGl,aGk,aGj,aGi,aGh,aGg,aGf,aGe,aGd,aGc,aMe,aMc,aMd,aI1,List.length_append,Nat.zero_add,List.append_assoc,Nat.reduceAdd,ev2,litA,litG,a0,a1,a0n,a1n,aA1,aA2,aA3,aG1,aG2,aG3,s0X,s0Y,s1X,s1Y,aRm _ _ _ _ sameY,aRm _ _ _ _ sameZ]
end
end Go.Proofs.Ytgeedikghjcebaa.Ai
namespace Go.Proofs.Ytgeedikghjcebaa.Ai
open Go Go.Proofs
open AV renaming junk → J
open List renaming length_set → Q0, getD_cons_zero → Q1, getD_cons_succ → Q2
set_option linter.unusedVariables false
set_option linter.unusedSimpArgs false
set_option maxRecDepth 10000
set_option maxHeartbeats 4000000
theorem aAu.hsl {rows:List (List AV)} {v:AV} {h:aA0} {q:Option Nat} (ho:aAu 1 rows v h q) (hne:rows≠[]):∃ i ver,q=some i∧v=.hsl i ver 0 rows.length none∧h[i]?=some (.arr ver 1 false rows):=by
 rcases ho with ⟨h1,_⟩ | ⟨_,i,ver,h2,h3,h4⟩
 ·exact absurd h1 hne
 ·exact ⟨i,ver,h2,h3,h4⟩
section
variable {wx wy w54 w55 : AV} {h : aA0}
theorem aRo {csA csG:List (List AV)} {wA wG:AV} {qA qG:Option Nat} (oA:aAu 1 csA wA h qA) (oG:aAu 1 csG wG h qG) (hs:csA=[]↔csG=[]) (e2:h[2]?=some (.arr 0 2 true [[wA,wG]])) (hne:∀ i,qA=some i→qG≠some i) (h2A:qA≠some 2) (h2G:qG≠some 2)
  (allA:csA.all (fun c=>c.length==1 && c.all aAp)=true) (allG:csG.all (fun c=>c.length==1 && c.all aAp)=true) (lA:csA.length≤1000000) (lG:csG.length≤1000000)
  (px:pure1 wx=false) (py:pure1 wy=false) (hx:cellsOf wx=[wx]∧aAp wx=true) (hy:cellsOf wy=[wy]∧aAp wy=true) (rx:aCb h.length wx) (ry:aCb h.length wy) (ox:aCp h.length wx) (oy:aCp h.length wy) (r54:aCb h.length w54) (r55:aCb h.length w55) (o54:aCp h.length w54) (o55:aCp h.length w55) (hr:Ren h.length h) :
  ∃ (x95 x96 x97 x98 x99 x100 x101 x102 x103 x104 x105 x106:AV) (h':aA0) (wA' wG':AV) (iA iG:Nat),
   eq3 (lim G0.cfg) aA7 aA5 aA6 h.length 14 [false,false,false,false,false,false,false,false,false,false,false,false,false,false] (J::.ptr 0 0 0 0::.ptr 1 0 0 0::J::J::.ptr 2 0 0 0::J::wx::J::J::J::wy::J::J::J::J::J::J::J::J::J::J::J::J::J::J::J::J::J::J::J::J::J::J::J::J::J::J::J::J::J::J::J::J::J::J::J::J::J::J::J::J::J::J::w54::w55::J::J::J::J::J::J::J::J::J::J::J::J::J::J::J::J::J::J::J::J::J::J::J::J::J::J::J::J::J::J::J::J::J::J::J::J::J::J::J::J::J::J::J::J::J::J::J::J::J::J::J::J::J::J::J::J::J::J::J::J::J::J::J::J::J::J::J::J::J::J::J::J::J::J::J::J::J::J::J::J::J::J::J::J::J::J::J::J::J::J::J::[]) h =
    some ⟨(J::.ptr 0 0 0 0::.ptr 1 0 0 0::J::J::.ptr 2 0 0 0::J::wx::J::J::J::wy::J::J::J::J::J::J::J::J::J::J::J::J::J::J::J::J::J::J::J::J::J::J::J::J::J::J::J::J::J::J::J::J::J::J::J::J::J::J::J::J::J::J::w54::w55::J::J::J::J::J::J::J::J::J::J::J::J::J::J::J::J::J::J::J::J::J::J::J::J::J::J::J::J::J::J::J::J::J::J::J::J::J::J::J::x95::x96::x97::x98::x99::x100::x101::x102::x103::x104::x105::x106::J::J::J::J::J::J::J::J::J::J::J::J::J::J::J::J::J::J::J::J::J::J::J::J::J::J::J::J::J::J::J::J::J::J::J::J::J::J::J::J::[]),h'⟩ ∧
   h'[2]?=some (.arr 0 2 true [[wA',wG']])∧aAu 1 (csA++[[wx]]) wA' h' (some iA)∧aAu 1 (csG++[[wy]]) wG' h' (some iG)∧(∀ (j:Nat) (o:AObj),h[j]?=some o→j≠2→qA≠some j→qG≠some j→h'[j]?=some o)∧(qA=some iA∨(qA=none∧h.length≤iA))∧(qG=some iG∨(qG=none∧h.length≤iG))∧iA≠iG∧h.length≤h'.length∧Ren h'.length h':=by
 have lt2:=aBS e2
 have rO:∀ (v:Nat) (x:Bool) (w:AV),aCb h.length w→aHL h.length (.arr v 1 x [[w]]):=fun v x w hw=>aBF.2 (aCL hw)
 by_cases cA:csA=[]
 ·have cG:=hs.1 cA
  subst cA;subst cG
  obtain ⟨rfl,rfl⟩:wA=.nilS∧qA=none:=by
   rcases oA with ⟨_,a,b⟩ | ⟨a,_⟩
   ·exact ⟨a,b⟩
   ·exact absurd rfl a
  obtain ⟨rfl,rfl⟩:wG=.nilS∧qG=none:=by
   rcases oG with ⟨_,a,b⟩ | ⟨a,_⟩
   ·exact ⟨a,b⟩
   ·exact absurd rfl a
  obtain ⟨t',ht,e⟩:=aTj e2 px py hx hy rx ry ox oy r54 r55 o54 o55 hr
  rw [ht] at e
  obtain ⟨hX,hhX⟩:∃ H,H=h.set 2 (.arr 0 2 true [[.hsl (h.length+1) 0 0 1 none,.hsl (h.length+3) 0 0 1 none]]):=⟨_,rfl⟩
  have lX:hX.length=h.length:=by rw [hhX,Q0]
  rw [← hhX] at e
  refine ⟨_,_,_,_,_,_,_,_,_,_,_,_,_,.hsl (h.length+1) 0 0 1 none,.hsl (h.length+3) 0 0 1 none,h.length+1,h.length+3,e,?_,?_,?_,?_,.inr ⟨rfl,by omega⟩,.inr ⟨rfl,by omega⟩,by omega,by simp [lX],?_⟩
  ·refine aAJ ?_ _
   rw [hhX];exact aAr e2
  ·refine .inr ⟨by simp,h.length+1,0,rfl,rfl,?_⟩
   rw [← lX,aDk];rfl
  ·refine .inr ⟨by simp,h.length+3,0,rfl,rfl,?_⟩
   rw [← lX,aDk];rfl
  ·intro j o ej n2 _ _
   refine aAJ ?_ _
   rw [hhX];exact aAs ej n2.symm
  ·have R0:Ren (h.length+4) hX:=by
    rw [hhX]
    refine (hr.mono (by omega)).set (aBF.2 (fun i j hi hj => ?_)) 2
    simp [aBK,aAU,aEJ hi hj (show h.length+1 < h.length+4 by omega),aEJ hi hj (show h.length+3 < h.length+4 by omega)]
   have e4:(hX++[AObj.arr 0 1 true [[wx]],.arr 0 1 false [[wx]],.arr 0 1 true [[wy]],.arr 0 1 false [[wy]]]).length=h.length+4:=by simp [lX]
   rw [e4]
   have:=(((R0.push ((rO 0 true wx rx).mono (by omega))).push ((rO 0 false wx rx).mono (by omega))).push ((rO 0 true wy ry).mono (by omega))).push ((rO 0 false wy ry).mono (by omega))
   simpa using this
 ·have cG:csG≠[]:=fun k=>cA (hs.2 k)
  obtain ⟨iA,vA,rfl,rfl,hA⟩:=oA.hsl cA
  obtain ⟨iG,vG,rfl,rfl,hG⟩:=oG.hsl cG
  have nAG:iA≠iG:=fun k=>hne iA rfl (by rw [k])
  have n2A:iA≠2:=fun k=>h2A (by rw [k])
  have n2G:iG≠2:=fun k=>h2G (by rw [k])
  obtain ⟨t',ht,e⟩:=aTi hA hG e2 nAG n2A n2G cA cG allA allG lA lG px py hx hy rx ry ox oy r54 r55 o54 o55 hr
  rw [ht] at e
  have ltA:=aBS hA
  have ltG:=aBS hG
  obtain ⟨h1,hh1⟩:∃ H,H=h.set iA (.arr (vA+1) 1 false (csA++[[wx]])):=⟨_,rfl⟩
  obtain ⟨h2,hh2⟩:∃ H,H=h1.set iG (.arr (vG+1) 1 false (csG++[[wy]])):=⟨_,rfl⟩
  obtain ⟨h3,hh3⟩:∃ H,H=h2.set 2 (.arr 0 2 true [[.hsl iA (vA+1) 0 (csA.length+1) none,.hsl iG (vG+1) 0 (csG.length+1) none]]):=⟨_,rfl⟩
  rw [← hh1,← hh2,← hh3] at e
  have l3:h3.length=h.length:=by rw [hh3,Q0,hh2,Q0,hh1,Q0]
  have e21:h1[2]?=some (.arr 0 2 true [[.hsl iA vA 0 csA.length none,.hsl iG vG 0 csG.length none]]):=by rw [hh1];exact aAs e2 n2A
  have e22:h2[2]?=some (.arr 0 2 true [[.hsl iA vA 0 csA.length none,.hsl iG vG 0 csG.length none]]):=by rw [hh2];exact aAs e21 n2G
  have hA1:h1[iA]?=some (.arr (vA+1) 1 false (csA++[[wx]])):=by rw [hh1];exact aAr hA
  have hA3:h3[iA]?=some (.arr (vA+1) 1 false (csA++[[wx]])):=by rw [hh3,hh2];exact aAs (aAs hA1 nAG.symm) n2A.symm
  have hG1:h1[iG]?=some (.arr vG 1 false csG):=by rw [hh1];exact aAs hG nAG
  have hG3:h3[iG]?=some (.arr (vG+1) 1 false (csG++[[wy]])):=by rw [hh3,hh2];exact aAs (aAr hG1) n2G.symm
  refine ⟨_,_,_,_,_,_,_,_,_,_,_,_,_,.hsl iA (vA+1) 0 (csA.length+1) none,.hsl iG (vG+1) 0 (csG.length+1) none,iA,iG,e,?_,?_,?_,?_,.inl rfl,.inl rfl,nAG,by simp [l3],?_⟩
  ·refine aAJ ?_ _
   rw [hh3];exact aAr e22
  ·exact .inr ⟨by simp,iA,vA+1,rfl,by simp,aAJ hA3 _⟩
  ·exact .inr ⟨by simp,iG,vG+1,rfl,by simp,aAJ hG3 _⟩
  ·intro j o ej n2 nA nG
   refine aAJ ?_ _
   rw [hh3,hh2,hh1]
   exact aAs (aAs (aAs ej (fun k=>nA (by rw [k]))) (fun k=>nG (by rw [k]))) n2.symm
  ·have R3:Ren h.length h3:=by
    rw [hh3,hh2,hh1]
    refine ((hr.set (aBF.2 ((aBF.1 (hr.get hA)).append (aCL rx))) iA).set (aBF.2 ((aBF.1 (hr.get hG)).append (aCL ry))) iG).set (aBF.2 (fun i j hi hj => ?_)) 2
    simp [aBK,aAU,aEJ hi hj ltA,aEJ hi hj ltG]
   have e4:(h3++[AObj.arr 0 1 true [[wx]],.arr 0 1 true [[wy]]]).length=h.length+2:=by simp [l3]
   rw [e4]
   have:=((R3.mono (show h.length≤h.length+2 by omega)).push ((rO 0 true wx rx).mono (by omega))).push ((rO 0 true wy ry).mono (by omega))
   simpa using this
end
def aIh (p:PackD) (tm s d:Nat):Bool:=(List.range' s d).all fun k=>okA p k 0 tm
def aHu (p:PackD) (tm s d:Nat):List (List (List (Int × Int))):=(List.range' s d).map fun k=>aGT p k 0 tm
def aFT (p:PackD) (nt s d:Nat):List (List Int):=(List.range' s d).map fun k=>aGS p k 0 nt
theorem aQS (p:PackD) (s i d:Nat):(aGT p s i d).length=d:=by simp [aGT]
theorem aQR (p:PackD) (s i d:Nat):(aGS p s i d).length=d:=by simp [aGS]
section
variable {p : PackD} {ca cg : List AV}
theorem aTt (hA:RT p.a ca) (hG:RT p.g cg) (kA:RtOk p.a) (kG:RtOk p.g) (tm nt n N:Nat) (htm:p.tms=tm) (hnt:p.nts=nt) (tm1:1≤tm∧tm≤1000) (nt1:1≤nt∧nt≤1000) (hn:n≤100000) (hN:2000≤N) :
  ∀ (d s m:Nat) (A:List (List (List (Int × Int)))) (G:List (List Int)) (h:aA0) (wA wG:AV) (csA csG:List (List AV)) (qA qG:Option Nat) (S:Nat→Prop),n=s+d→d < m→h[0]?=some (.arr 0 10 true [[.int .i64 p.tms,.int .i64 p.nts]++ca++cg])→h[1]?=some (.arr 0 2 true [[.nilS,.nilS]])→h[2]?=some (.arr 0 2 true [[wA,wG]]) →
   aAu 1 csA wA h qA→Nest eCs A csA h S→aAu 1 csG wG h qG→Nest eIs G csG h S→(∀ i,S i→3≤i∧i < h.length)→(∀ i,qA=some i→3≤i∧¬ S i)→(∀ i,qG=some i→3≤i∧¬ S i)→(∀ i,qA=some i→qG≠some i)→A.length=s→G.length=s→Ren h.length h →
  (aIh p tm s d=true→∃ (h':aA0) (wA' wG':AV) (csA' csG':List (List AV)) (qA' qG':Option Nat) (S':Nat→Prop),aAw (aA9 (lim G0.cfg) N aCg) m ⟨(J::.ptr 0 0 0 0::.ptr 1 0 0 0::J::J::.ptr 2 0 0 0::J::J::J::J::J::J::J::J::J::J::J::J::J::J::J::J::J::J::J::J::J::J::J::J::J::J::J::J::J::J::J::J::J::J::J::J::J::J::J::J::J::J::J::J::J::J::J::J::.int .i64 n::.int .i64 s::J::J::J::J::J::J::J::J::J::J::J::J::J::J::J::J::J::J::J::J::J::J::J::J::J::J::J::J::J::J::J::J::J::J::J::J::J::J::J::J::J::J::J::J::J::J::J::J::J::J::J::J::J::J::J::J::J::J::J::J::J::J::J::J::J::J::J::J::J::J::J::J::J::J::J::J::J::J::J::J::J::J::J::J::J::J::J::J::J::J::J::[]),h⟩=some (.exit 0,⟨(J::.ptr 0 0 0 0::.ptr 1 0 0 0::J::J::.ptr 2 0 0 0::J::J::J::J::J::J::J::J::J::J::J::J::J::J::J::J::J::J::J::J::J::J::J::J::J::J::J::J::J::J::J::J::J::J::J::J::J::J::J::J::J::J::J::J::J::J::J::J::J::J::J::J::J::J::J::J::J::J::J::J::J::J::J::J::J::J::J::J::J::J::J::J::J::J::J::J::J::J::J::J::J::J::J::J::J::J::J::J::J::J::J::J::J::J::J::J::J::J::J::J::J::J::J::J::J::J::J::J::J::J::J::J::J::J::J::J::J::J::J::J::J::J::J::J::J::J::J::J::J::J::J::J::J::J::J::J::J::J::J::J::J::[]),h'⟩) ∧
   h'[0]?=some (.arr 0 10 true [[.int .i64 p.tms,.int .i64 p.nts]++ca++cg])∧h'[1]?=some (.arr 0 2 true [[.nilS,.nilS]])∧h'[2]?=some (.arr 0 2 true [[wA',wG']])∧aAu 1 csA' wA' h' qA'∧Nest eCs (A++aHu p tm s d) csA' h' S'∧aAu 1 csG' wG' h' qG'∧Nest eIs (G++aFT p nt s d) csG' h' S'∧(∀ i,S' i→3≤i)∧(∀ i,qA'=some i→3≤i)∧(∀ i,qG'=some i→3≤i)) ∧
  (aIh p tm s d=false→∃ h',aAw (aA9 (lim G0.cfg) N aCg) m ⟨(J::.ptr 0 0 0 0::.ptr 1 0 0 0::J::J::.ptr 2 0 0 0::J::J::J::J::J::J::J::J::J::J::J::J::J::J::J::J::J::J::J::J::J::J::J::J::J::J::J::J::J::J::J::J::J::J::J::J::J::J::J::J::J::J::J::J::J::J::J::J::.int .i64 n::.int .i64 s::J::J::J::J::J::J::J::J::J::J::J::J::J::J::J::J::J::J::J::J::J::J::J::J::J::J::J::J::J::J::J::J::J::J::J::J::J::J::J::J::J::J::J::J::J::J::J::J::J::J::J::J::J::J::J::J::J::J::J::J::J::J::J::J::J::J::J::J::J::J::J::J::J::J::J::J::J::J::J::J::J::J::J::J::J::J::J::J::J::J::J::[]),h⟩=some (.ret,⟨(J::J::.ptr 1 0 0 0::.int .i64 34::J::J::J::J::J::J::J::J::J::J::J::J::J::J::J::J::J::J::J::J::J::J::J::J::J::J::J::J::J::J::J::J::J::J::J::J::J::J::J::J::J::J::J::J::J::J::J::J::J::J::J::J::J::J::J::J::J::J::J::J::J::J::J::J::J::J::J::J::J::J::J::J::J::J::J::J::J::J::J::J::J::J::J::J::J::J::J::J::J::J::J::J::J::J::J::J::J::J::J::J::J::J::J::J::J::J::J::J::J::J::J::J::J::J::J::J::J::J::J::J::J::J::J::J::J::J::J::J::J::J::J::J::J::J::J::J::J::J::J::J::J::J::J::[]),h'⟩)∧h'[1]?=some (.arr 0 2 true [[.nilS,.nilS]])):=by
 intro d
 induction d with
 | zero =>
  intro s m A G h wA wG csA csG qA qG S h1 h2 e0 e1 e2 oA nA oG nG hS hqA hqG hq lA lG hr
  obtain ⟨m,rfl⟩:∃ q,m=q+1:=⟨m - 1,by omega⟩
  have h3:¬ ((s:Int) < n):=by omega
  have r1:aHu p tm s 0=[]:=rfl
  have r2:aFT p nt s 0=[]:=rfl
  rw [r1,r2,List.append_nil,List.append_nil]
  refine ⟨fun _=>⟨h,wA,wG,csA,csG,qA,qG,S,?_,e0,e1,e2,oA,nA,oG,nG,fun i k=>(hS i k).1,fun i k=>(hqA i k).1,fun i k=>(hqG i k).1⟩,fun e=>(by cases e)⟩
  simp only [aAj,aFF,Zaf,Zag,Zah,Zak,Zal,Zan,Zao,Zap,Zaw,Zaz,Zbc,Zbm,Zbu,Zcz,Zdb,Zdf,Zdg,Zdh,List.set_cons_zero,List.set_cons_succ,Q1,Q2,Zdl,decide_false,eq_self,h3]
 | succ d ih =>
  intro s m A G h wA wG csA csG qA qG S h1 h2 e0 e1 e2 oA nA oG nG hS hqA hqG hq lA lG hr
  obtain ⟨m,rfl⟩:∃ q,m=q+1:=⟨m - 1,by omega⟩
  have h3':(s:Int) < n:=by omega
  have hw:=aC7 (n:=s) (by omega)
  have len3:3≤h.length:=by have:=aBS e2;omega
  have o1:aIh p tm s (d+1)=(okA p s 0 tm && aIh p tm (s+1) d):=by unfold aIh;rw [List.range'_succ,List.all_cons]
  have o2:aHu p tm s (d+1)=aGT p s 0 tm::aHu p tm (s+1) d:=by unfold aHu;rw [List.range'_succ,List.map_cons]
  have o3:aFT p nt s (d+1)=aGS p s 0 nt::aFT p nt (s+1) d:=by unfold aFT;rw [List.range'_succ,List.map_cons]
  rw [o1,o2,o3]
  obtain ⟨_,_,lt,ln⟩:=aEz hA hG h e0
  rw [htm] at lt
  obtain ⟨k1,k2⟩:=aTs (w54:=.int .i64 n) (w55:=.int .i64 s) (B:=h.length) hA hG kA s tm N tm1.2 len3 tm 0 N [] h .nilS none (by omega) (by omega) e0 e1 (aAu.nil 1 _) (fun _ e=>by cases e) (Nat.le_refl _) rfl hr
  rw [z0,List.nil_append] at k1
  rw [z0] at k2
  by_cases c:okA p s 0 tm=true
  case neg =>
   have c':okA p s 0 tm=false:=by simpa using c
   obtain ⟨h',e,e1'⟩:=k2 c'
   rw [c',Bool.false_and]
   refine ⟨fun e=>(by cases e),fun _=>⟨h',?_,e1'⟩⟩
   simp only [aAj,aFF,Zae,Zaf,Zag,Zah,Zai,Zaj,Zak,Zan,Zao,Zaq,Zas,Zav,Zax,Zba,Zbc,Zbm,Zbo,Zbs,Zbu,Zcc,Zcz,Zda,Zdb,Zdf,Zdg,Zdh,List.set_cons_zero,List.set_cons_succ,Q1,Q2,Zdl,Zeb,decide_true,Nat.reduceAdd,eq_self,lt,h3',e]
  case pos =>
  obtain ⟨h4,wx,qx,e4,ox,bx,l4,f4,r4⟩:=k1 c
  rw [c,Bool.true_and]
  obtain ⟨_,_,_,ln4⟩:=aEz hA hG h4 (f4 0 _ (by omega) e0)
  rw [hnt] at ln4
  obtain ⟨h5,wy,qy,e5,oy,by',l5,f5,r5⟩:=aTr (w7:=wx) (w54:=.int .i64 n) (w55:=.int .i64 s) (B:=h4.length) hA hG kG s nt N nt1.2 (by omega) nt 0 N [] h4 .nilS none (by omega) (by omega) (f4 0 _ (by omega) e0) (aAu.nil 1 _) (fun _ e=>by cases e) (Nat.le_refl _) rfl r4
  rw [z0] at e5
  rw [List.nil_append] at oy
  have up5:∀ (j:Nat) (o:AObj),j < h.length→h[j]?=some o→h5[j]?=some o:=fun j o hj e=>f5 j o (by omega) (f4 j o hj e)
  have qxl:∀ i,qx=some i→i < h4.length:=fun i e=>by rw [e] at ox;exact ox.lt
  have qyl:∀ i,qy=some i→i < h5.length:=fun i e=>by rw [e] at oy;exact oy.lt
  have ox5:=ox.frame (h':=h5) fun i o e k=>f5 i o (qxl i e) k
  have qAl:∀ i,qA=some i→i < h.length:=fun i e=>by rw [e] at oA;exact oA.lt
  have qGl:∀ i,qG=some i→i < h.length:=fun i e=>by rw [e] at oG;exact oG.lt
  have oA5:=oA.frame (h':=h5) fun i o e k=>up5 i o (qAl i e) k
  have oG5:=oG.frame (h':=h5) fun i o e k=>up5 i o (qGl i e) k
  have nA5:=nA.frame (h':=h5) fun i o e k=>up5 i o (hS i e).2 k
  have nG5:=nG.frame (h':=h5) fun i o e k=>up5 i o (hS i e).2 k
  obtain ⟨ix,vx,qxe,wxe,_⟩:=ox5.hsl (by intro k;have:=congrArg List.length k;rw [aJK,aQS] at this;simp at this;omega)
  obtain ⟨iy,vy,qye,wye,_⟩:=oy.hsl (by intro k;have:=congrArg List.length k;rw [Zet,aQR] at this;simp at this;omega)
  have ltx:ix < h5.length:=by have:=qxl ix qxe;omega
  have lty:iy < h5.length:=qyl iy qye
  obtain ⟨x95,x96,x97,x98,x99,x100,x101,x102,x103,x104,x105,x106,h6,wA',wG',iA,iG,ed,g2,gA,gG,gf,gqA,gqG,gne,gl,gr⟩:=aRo (wx:=wx) (wy:=wy) (w54:=.int .i64 n) (w55:=.int .i64 s) oA5 oG5 (by rw [← List.length_eq_zero_iff,← List.length_eq_zero_iff,nA.len,nG.len,lA,lG]) (up5 2 _ (by omega) e2) hq (fun k=>by have:=(hqA 2 k).1;omega) (fun k=>by have:=(hqG 2 k).1;omega) nA5.all nG5.all (by rw [nA.len];omega) (by rw [nG.len];omega)
   (by rw [wxe];rfl) (by rw [wye];rfl) ox5.cell oy.cell (by rw [wxe];exact aFm ltx) (by rw [wye];exact aFm lty) (by rw [wxe];exact aHR ltx) (by rw [wye];exact aHR lty) (aKk _ _ _) (aKk _ _ _) (aOE _ _ _) (aOE _ _ _) r5
  obtain ⟨S',hS'⟩:∃ S':Nat→Prop,S'=fun i=>S i∨qx=some i∨qy=some i:=⟨_,rfl⟩
  have lS':∀ i,S' i→3≤i∧i < h5.length:=fun i hs=>by
   rw [hS'] at hs
   rcases hs with hs | hs | hs
   ·have:=hS i hs;omega
   ·have:=bx i hs;have:=qxl i hs;omega
   ·have:=by' i hs;have:=qyl i hs;omega
  have nSA:∀ i,qA=some i→¬ S' i:=fun i e hs=>by
   rw [hS'] at hs
   rcases hs with hs | hs | hs
   ·exact (hqA i e).2 hs
   ·have:=bx i hs;have:=qAl i e;omega
   ·have:=by' i hs;have:=qAl i e;omega
  have nSG:∀ i,qG=some i→¬ S' i:=fun i e hs=>by
   rw [hS'] at hs
   rcases hs with hs | hs | hs
   ·exact (hqG i e).2 hs
   ·have:=bx i hs;have:=qGl i e;omega
   ·have:=by' i hs;have:=qGl i e;omega
  have fS:∀ (i:Nat) (o:AObj),S' i→h5[i]?=some o→h6[i]?=some o:=fun i o hs e=>gf i o e (by have:=(lS' i hs).1;omega) (fun k=>nSA i k hs) (fun k=>nSG i k hs)
  have nA6:=((nA5.mono (S':=S') (fun i k=>by rw [hS'];exact .inl k)).push (x:=aGT p s 0 tm) ox5 (fun i k=>by rw [hS'];exact .inr (.inl k))).frame fS
  have nG6:=((nG5.mono (S':=S') (fun i k=>by rw [hS'];exact .inl k)).push (x:=aGS p s 0 nt) oy (fun i k=>by rw [hS'];exact .inr (.inr k))).frame fS
  have nq0:∀ k,k < 3→qA≠some k∧qG≠some k:=fun k hk=>⟨fun e=>by have:=(hqA k e).1;omega,fun e=>by have:=(hqG k e).1;omega⟩
  obtain ⟨k1,k2⟩:=ih (s+1) m (A++[aGT p s 0 tm]) (G++[aGS p s 0 nt]) h6 wA' wG' (csA++[[wx]]) (csG++[[wy]]) (some iA) (some iG) S' (by omega) (by omega) (gf 0 _ (up5 0 _ (by omega) e0) (by omega) (nq0 0 (by omega)).1 (nq0 0 (by omega)).2) (gf 1 _ (up5 1 _ (by omega) e1) (by omega) (nq0 1 (by omega)).1 (nq0 1 (by omega)).2) g2 gA nA6 gG nG6 (fun i hs=>by have:=lS' i hs;omega)
   (fun i e=>by
    cases e
    rcases gqA with k | ⟨_,k⟩
    ·exact ⟨(hqA _ k).1,nSA _ k⟩
    ·exact ⟨by omega,fun hs=>by have:=lS' _ hs;omega⟩)
   (fun i e=>by
    cases e
    rcases gqG with k | ⟨_,k⟩
    ·exact ⟨(hqG _ k).1,nSG _ k⟩
    ·exact ⟨by omega,fun hs=>by have:=lS' _ hs;omega⟩)
   (fun i e f=>by cases e;cases f;exact gne rfl) (by simp [lA]) (by simp [lG]) gr
  have run:aAw (aA9 (lim G0.cfg) N aCg) (m+1) ⟨(J::.ptr 0 0 0 0::.ptr 1 0 0 0::J::J::.ptr 2 0 0 0::J::J::J::J::J::J::J::J::J::J::J::J::J::J::J::J::J::J::J::J::J::J::J::J::J::J::J::J::J::J::J::J::J::J::J::J::J::J::J::J::J::J::J::J::J::J::J::J::.int .i64 n::.int .i64 s::J::J::J::J::J::J::J::J::J::J::J::J::J::J::J::J::J::J::J::J::J::J::J::J::J::J::J::J::J::J::J::J::J::J::J::J::J::J::J::J::J::J::J::J::J::J::J::J::J::J::J::J::J::J::J::J::J::J::J::J::J::J::J::J::J::J::J::J::J::J::J::J::J::J::J::J::J::J::J::J::J::J::J::J::J::J::J::J::J::J::J::[]),h⟩=aAw (aA9 (lim G0.cfg) N aCg) m ⟨(J::.ptr 0 0 0 0::.ptr 1 0 0 0::J::J::.ptr 2 0 0 0::J::J::J::J::J::J::J::J::J::J::J::J::J::J::J::J::J::J::J::J::J::J::J::J::J::J::J::J::J::J::J::J::J::J::J::J::J::J::J::J::J::J::J::J::J::J::J::J::.int .i64 n::.int .i64 (s+1:Nat)::J::J::J::J::J::J::J::J::J::J::J::J::J::J::J::J::J::J::J::J::J::J::J::J::J::J::J::J::J::J::J::J::J::J::J::J::J::J::J::J::J::J::J::J::J::J::J::J::J::J::J::J::J::J::J::J::J::J::J::J::J::J::J::J::J::J::J::J::J::J::J::J::J::J::J::J::J::J::J::J::J::J::J::J::J::J::J::J::J::J::J::[]),h6⟩:=by
   simp only [aAj,aFF,Zae,Zaf,Zag,Zah,Zai,Zaj,Zak,Zan,Zao,Zar,Zat,Zav,Zax,Zay,Zbc,Zbm,Zbo,Zbs,Zbu,Zcc,Zcz,Zda,Zdb,Zdf,Zdg,Zdh,List.set_cons_zero,List.set_cons_succ,Q1,Q2,Zdi,Zdl,Zeb,decide_true,Nat.reduceAdd,eq_self,lt,h3',e4,ln4,e5,aMi,ed,aLo,hw]
  rw [run]
  refine ⟨fun hk => ?_,k2⟩
  obtain ⟨h',a1,a2,a3,a4,a5,a6,a7,b1,b2,b3,b4,b5,b6,b7,b8,b9⟩:=k1 hk
  refine ⟨h',a1,a2,a3,a4,a5,a6,a7,b1,b2,b3,b4,b5,?_,b7,?_,b9⟩
  ·rw [List.append_assoc] at b6;exact b6
  ·rw [List.append_assoc] at b8;exact b8
end
end Go.Proofs.Ytgeedikghjcebaa.Ai
namespace Go.Proofs.Ytgeedikghjcebaa.Ai
open Go Go.Proofs
open List renaming set_cons_zero → Q0, length_cons → Q1, cons_append → Q2, length_nil → Q3, nil_append → Q4, getElem?_cons_zero → Q5, getElem?_cons_succ → Q6, getD_cons_zero → Q8, getD_cons_succ → Q9, replicate_succ → Z0, replicate_zero → Z1, take_succ_cons → Z2, set_cons_succ → Z3, drop_succ_cons → Z7, drop_zero → Z8, take_zero → Z9
open Bool renaming false_and → Q7
open Option.some renaming injEq → Z4
open Option renaming bind_some → Z5, map_some → Z6
set_option linter.unusedVariables false
set_option linter.unusedSimpArgs false
set_option maxRecDepth 10000
set_option maxHeartbeats 4000000
def eqR (c d:RowT):Bool:=decide (c.row=d.row) && (decide (c.base=d.base) && (decide (c.val=d.val) && decide (c.own=d.own)))
theorem aJJ (c d:RowT):eqR c d=true↔c=d:=by
 obtain ⟨a1,a2,a3,a4⟩:=c
 obtain ⟨b1,b2,b3,b4⟩:=d
 simp [eqR]
theorem aOK {c d:RowT} {cs ds:List AV} (hc:RT c cs) (hd:RT d ds) (l1:c.row.length≤1000000000) (l2:c.base.length≤1000000000) (l3:c.val.length≤1000000000) (l4:c.own.length≤1000000000) (H:aA0):lim G0.cfg (.func 43) [.agg cs,.agg ds] H=some (.bool (eqR c d),H):=by
 refine aAP rfl rfl aNU 1 (fun h=>aHF (aP9 hc h) (aP9 hd h)) ?_ (fun _=>rfl) H
 obtain ⟨a,b,v,o,rfl,ha,hb,hv,ho⟩:=hc
 obtain ⟨a',b',v',o',rfl,ha',hb',hv',ho'⟩:=hd
 have f1:=aJg ha ha' l1
 have f2:=aJg hb hb' l2
 have f3:=aJg hv hv' l3
 have f4:=aJg ho ho' l4
 obtain ⟨ca1,ca2⟩:=ha.cell
 obtain ⟨cb1,cb2⟩:=hb.cell
 obtain ⟨cv1,cv2⟩:=hv.cell
 obtain ⟨co1,co2⟩:=ho.cell
 obtain ⟨da1,da2⟩:=ha'.cell
 obtain ⟨db1,db2⟩:=hb'.cell
 obtain ⟨dv1,dv2⟩:=hv'.cell
 obtain ⟨do1,do2⟩:=ho'.cell
 rw [aNP]
 unfold eqR
 generalize decide (c.row=d.row)=b1 at f1 ⊢
 generalize decide (c.base=d.base)=b2 at f2 ⊢
 generalize decide (c.val=d.val)=b3 at f3 ⊢
 generalize decide (c.own=d.own)=b4 at f4 ⊢
 cases b1
 ·simp only [Zaf,Zag,Zam,Zan,Zao,Zbc,Zbd,Zbi,Zbl,Zbm,Zbn,Zbo,Zbp,Zbr,Zbs,Zcc,Zct,Zcu,Zcw,Zcy,Zcz,Zda,Zdb,Zdd,Zde,Q0,Z3,Q8,Q9,Z5,Z6,Zeb,Zed,Zef,Q5,Q6,Q1,Q3,if_true,Nat.reduceAdd,Nat.reduceSub,Nat.reduceLeDiff,eq_self,true_and,Q1,Q3,Z0,Z1,Q2,Q4,aAb,aAM,aAk,part,Z8,Z2,Z9,Q2,Q4,Q0,f1,Q7,aAa,aA8,aAc,Z4,Prod.mk.injEq,true_and,Q7,exists_eq']
 cases b2
 ·simp only [Zaf,Zag,Zam,Zan,Zao,Zbc,Zbd,Zbf,Zbi,Zbk,Zbl,Zbm,Zbn,Zbo,Zbp,Zbr,Zbs,Zcc,Zct,Zcu,Zcw,Zcy,Zcz,Zda,Zdb,Zdd,Zde,Q0,Z3,Q8,Q9,Z5,Z6,Zeb,Zed,Zef,Q5,Q6,Q1,Q3,if_true,Nat.reduceAdd,Nat.reduceSub,Nat.reduceLeDiff,eq_self,true_and,Q1,Q3,Z0,Z1,Q2,Q4,aAb,aAM,aAk,part,Z8,Z7,Z2,Z9,Q2,Q4,Q0,f1,f2,Q7,aAa,aA8,aAc,Z4,Prod.mk.injEq,true_and,Q7,Bool.and_false,exists_eq']
 cases b3
 ·simp only [Zaf,Zag,Zam,Zan,Zao,Zbc,Zbd,Zbf,Zbi,Zbk,Zbl,Zbm,Zbn,Zbo,Zbp,Zbr,Zbs,Zcc,Zct,Zcu,Zcw,Zcy,Zcz,Zda,Zdb,Zdd,Zde,Q0,Z3,Q8,Q9,Z5,Z6,Zeb,Zed,Zef,Q5,Q6,Q1,Q3,if_true,Nat.reduceAdd,Nat.reduceSub,Nat.reduceLeDiff,eq_self,true_and,Q1,Q3,Z0,Z1,Q2,Q4,aAb,aAM,aAk,part,Z8,Z7,Z2,Z9,Q2,Q4,Q0,f1,f2,f3,Q7,aAa,aA8,aAc,Z4,Prod.mk.injEq,true_and,Q7,Bool.and_false,exists_eq']
 simp only [Zaf,Zag,Zam,Zan,Zao,Zbc,Zbd,Zbf,Zbk,Zbm,Zbn,Zbo,Zbp,Zbr,Zbs,Zcc,Zct,Zcu,Zcw,Zcy,Zcz,Zda,Zdb,Zdd,Zde,Q0,Z3,Q8,Q9,Z5,Z6,Zeb,Zed,Zef,Q5,Q6,Q1,Q3,if_true,Nat.reduceAdd,Nat.reduceSub,Nat.reduceLeDiff,eq_self,true_and,Q1,Q3,Z0,Z1,Q2,Q4,aAb,aAM,aAk,part,Z8,Z7,Z2,Z9,List.take_nil,Q2,Q4,Q0,f1,f2,f3,f4,Bool.true_and,aAa,aA8,aAc,Z4,Prod.mk.injEq,true_and,Bool.true_and,exists_eq']
def PackD.tm (p:PackD):Nat:=p.tms.toNat
def PackD.nt (p:PackD):Nat:=p.nts.toNat
def PackD.n (p:PackD):Nat:=p.a.row.length
def aQa (p:PackD):Prop:=2≤p.tms∧p.tms≤256∧1≤p.nts∧p.nts≤512∧1≤p.n∧p.n≤4096∧p.g.row.length=p.n
def aCu (p:PackD):TabD:=⟨aHu p p.tm 0 p.n,aFT p p.nt 0 p.n⟩
def aCa (p:PackD):Prop:=aQa p∧aIh p p.tm 0 p.n=true∧(aCu p).ok∧aBa (aCu p)=p
theorem aQK (p:PackD):(aCu p).acts.length=p.n∧(aCu p).gotos.length=p.n:=by simp [aCu,aHu,aFT]
theorem aRX {xs:List (List (Int × Int))} {w:AV} {h:aA0} {q:Option Nat} (ho:aAu 1 (eCs xs) w h q) (d:Nat):∃ y c,freeze h (d+2) w=some (y,c)∧LiG LiA xs y:=by
 refine fzN (P:=LiA) ho d (aJK xs) (fun j hj=>⟨aHs xs[j],aHs xs[j],true,by simp [eCs,hj],(aIw _).fz h d,aIw _⟩)
theorem Nest.fzA {xs:List (List (List (Int × Int)))} {cs:List (List AV)} {h:aA0} {S:Nat→Prop} (hn:Nest eCs xs cs h S) {v:AV} {q:Option Nat} (ho:aAu 1 cs v h q) (d:Nat):∃ y c,freeze h (d+3) v=some (y,c)∧LiG (LiG LiA) xs y:=by
 refine fzN (P:=LiG LiA) ho (d+1) hn.len (fun j hj => ?_)
 obtain ⟨rv,q,h1,h2,_⟩:=hn.row j hj
 obtain ⟨x,c,e1,e2⟩:=aRX h2 d
 exact ⟨rv,x,c,h1,e1,e2⟩
theorem aOG {h:aA0} {a b x y:AV} {c d:Bool} {k:Nat} (h1:freeze h k a=some (x,c)) (h2:freeze h k b=some (y,d)):freeze h (k+1) (.agg [a,b])=some (.agg [x,y],c && (d && true)):=by
 have:freeze h (k+1) (.agg [a,b])=(aAq (freeze h k) [a,b]).map fun l=>(.agg (l.map (·.1)),l.all (·.2)):=rfl
 rw [this]
 simp only [aAq,h1,h2];rfl
theorem aSa {h:aA0} {a b x y:AV} {c d:Bool} {k:Nat} (h1:freeze h k a=some (x,c)) (h2:freeze h k b=some (y,d)):freeze h (k+1) (.tup [a,b])=some (.tup [x,y],c && (d && true)):=by
 have:freeze h (k+1) (.tup [a,b])=(aAq (freeze h k) [a,b]).map fun l=>(.tup (l.map (·.1)),l.all (·.2)):=rfl
 rw [this]
 simp only [aAq,h1,h2];rfl
theorem aNa {t:TabD} (hk:t.ok):((aBa t).a.row.length≤1000000000∧(aBa t).a.base.length≤1000000000∧(aBa t).a.val.length≤1000000000∧(aBa t).a.own.length≤1000000000)∧((aBa t).g.row.length≤1000000000∧(aBa t).g.base.length≤1000000000∧(aBa t).g.val.length≤1000000000∧(aBa t).g.own.length≤1000000000):=by
 obtain ⟨s1,s2,s3,s4⟩:=TabD.sizes hk
 have fr:=hk.1
 obtain ⟨f1,f2,f3,f4,f5,f6,f7⟩:=fr
 have m1:t.numA.length*256≤4096*256:=Nat.mul_le_mul_right 256 (by omega)
 have m2:t.numG.length*512≤4096*512:=Nat.mul_le_mul_right 512 (by omega)
 obtain ⟨z1,z2,z3,z4,z5,z6,z7⟩:=aHn t.numA 256 (fun r hr=>by rw [s3 r hr];omega)
 obtain ⟨y1,y2,y3,y4,y5,y6,y7⟩:=aHn t.numG 512 (fun r hr=>by rw [s4 r hr];omega)
 have x1:(aFp t.numA).row.length=t.numA.length:=aND _
 have x2:(aFp t.numG).row.length=t.numG.length:=aND _
 have e1:(aBa t).a=aFp t.numA:=rfl
 have e2:(aBa t).g=aFp t.numG:=rfl
 rw [e1,e2]
 exact ⟨⟨by omega,by omega,by omega,by omega⟩,by omega,by omega,by omega,by omega⟩
end Go.Proofs.Ytgeedikghjcebaa.Ai
