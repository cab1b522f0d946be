/- The fixed examples, by computation in parts: by program (kmemo.py). -/
import Derived.Test.YteenffomgdfocaamXI
import Derived.KernelRfl
namespace Go.Proofs.Yteenffomgdfocaa.Ai
open Go Go.Proofs
set_option linter.unusedVariables false
set_option maxRecDepth 1000000
noncomputable def QF:List (Nat × AFn):=[(48,aHm),(68,aKV),(49,aJV),(75,aI1),(52,aIx),(37,aJW),(85,aHn),(79,aHY),(86,aHZ),(64,aJS),(84,aIB),(78,aID),(34,aCx),(63,aJX),(87,aIE),(25,aBi),(81,aHl),(91,aKW),(70,aJO),(69,aHk),(71,aKT),(15,aED),(65,aJZ),(36,aB8),(35,aAW),(44,aD4),(83,aIC),(89,aK2),(92,aI0),(8,aCy),(13,aE8),(67,aGS),(80,aKU),(61,aHX),(82,aGr),(12,aDL),(50,aJT),(93,aJQ),(77,aIz),(94,aJP),(33,aCQ),(42,aD5),(74,aIF),(7,aIH),(66,aHW),(88,aJR),(20,aFk),(95,aK1),(59,aIG),(46,aJY),(40,aCN),(39,aCj),(16,aDK),(14,aE9),(5,aEa),(43,aCh),(22,aAF),(76,aK3),(9,aC9),(55,aCO),(28,aG6),(60,aK4),(10,aDU),(58,aCi),(41,aCP),(62,aJU),(90,aK0),(45,aCK),(18,aIw),(72,aAQ),(73,aAT),(27,aBc),(24,aCf),(30,aMU),(19,aK5),(38,aHV),(51,aIy),(21,aCL),(57,aBX),(23,aCM),(26,aCg),(32,aEE),(31,aMT),(47,aIA),(54,aBL),(53,aAB),(56,aAH)]
theorem aAe:aJ2 G0.cfg QF:=(aAf aLf (aAf aPO (aAf aOR (aAf aMA (aAf aNn (aAf aOS (aAf aLg (aAf aMx (aAf aMy (aAf aOO (aAf aNs (aAf aNu (aAf aHj (aAf aOT (aAf aNv (aAf aE3 (aAf aLe (aAf aPP (aAf aOK (aAf aLd (aAf aPM (aAf aJC (aAf aOV (aAf aB6 (aAf aBF (aAf aHO (aAf aNt (aAf aOY (aAf aMz (aAf aFw (aAf aIt (aAf aKn (aAf aPN (aAf aMw (aAf aJB (aAf aHQ (aAf aOP (aAf aOM (aAf aNp (aAf aOL (aAf aGo (aAf aGO (aAf aNw (aAf aNy (aAf aMv (aAf aON (aAf aHR (aAf aOX (aAf aNx (aAf aOU (aAf aGl (aAf aG3 (aAf aHP (aAf aIu (aAf aIv (aAf aG1 (aAf aBv (aAf aOZ (aAf aDT (aAf aGm (aAf aMB (aAf aP0 (aAf aJA (aAf aG2 (aAf aGn (aAf aOQ (aAf aOW (aAf aGi (aAf aNm (aAf aC6 (aAf aCS (aAf aDV (aAf aFZ (aAf aQH (aAf aP1 (aAf aMu (aAf aNo (aAf aGj (aAf aFz (aAf aGk (aAf aG0 (aAf aHb (aAf aQG (aAf aNr (aAf aFi (aAf aBG (aAf aCc aS1)))))))))))))))))))))))))))))))))))))))))))))))))))))))))))))))))))))))))))))))))))))))
def V0:AV:=.agg [.vsl true [[.str [36,101,110,100]],[.str [36,101,114,114,111,114]],[.str [43]],[.str [120]]],.vsl true [[.str [36,115,116,97,114,116]],[.str [115]]],.vsl true [[.int .i64 0],[.int .i64 0]],.vsl true [[.int .i64 0,.vsl true [[.int .i64 (-2)]],.nilS,.str [],.int .i64 0],[.int .i64 1,.vsl true [[.int .i64 (-2)],[.int .i64 2],[.int .i64 (-2)]],.nilS,.str [],.int .i64 0],[.int .i64 1,.vsl true [[.int .i64 3]],.nilS,.str [],.int .i64 0]],.vsl true [[.int .i64 1,.vsl true [[.int .i64 2]]]]]
theorem K0:∃ n,aAa G0.cfg (lim G0.cfg) n 5 [V0]  = some (.int .i64 0):=aAl rfl aAe aAd 60 (by kernel_rfl)
theorem K1:∃ n,aAa G0.cfg (lim G0.cfg) n 46 [V0]  = some (.vsl false [[.int .i64 0],[.int .i64 1],[.int .i64 2],[.int .i64 3],[.int .i64 (-1)],[.int .i64 (-2)]]):=aAl rfl aAe aAd 60 (by kernel_rfl)
def V1:AV:=.vsl false [[.bool false],[.bool false]]
theorem K2:∃ n,aAa G0.cfg (lim G0.cfg) n 59 [V0]  = some V1:=aAl rfl aAe aAd 60 (by kernel_rfl)
theorem K3:∃ n,aAa G0.cfg (lim G0.cfg) n 74 [V1,.vsl false []]  = some (.bool true):=aAl rfl aAe aAd 60 (by kernel_rfl)
theorem K4:∃ n,aAa G0.cfg (lim G0.cfg) n 74 [V1,.vsl false [[.int .i64 (-2)]]]  = some (.bool false):=aAl rfl aAe aAd 60 (by kernel_rfl)
def V2:AV:=.vsl false [[.bool false],[.bool false],[.bool false],[.bool true]]
theorem K5:∃ n,aAa G0.cfg (lim G0.cfg) n 75 [V0]  = some (.vsl false [[V2],[V2]]):=aAl rfl aAe (aA9 K2 (aA9 K3 (aA9 K4 aAd))) 60 (by kernel_rfl)
def V3:AV:=.agg [V1,.vsl false [[.vsl false [[.int .i64 3]]],[.vsl false [[.int .i64 3]]]]]
theorem K6:∃ n,aAa G0.cfg (lim G0.cfg) n 47 [V0]  = some V3:=aAl rfl aAe (aA9 K2 (aA9 K5 aAd)) 60 (by kernel_rfl)
theorem K7:∃ n,aAa G0.cfg (lim G0.cfg) n 63 [.nilS,.vsl true [[.int .i64 0]]]  = some (.vsl false [[.int .i64 0]]):=aAl rfl aAe aAd 60 (by kernel_rfl)
theorem K8:∃ n,aAa G0.cfg (lim G0.cfg) n 62 [V3,.vsl true [[.int .i64 2],[.int .i64 (-2)]]]  = some (.tup [.vsl false [[.int .i64 2]],.bool false]):=aAl rfl aAe aAd 60 (by kernel_rfl)
def V4:AV:=.vsl false [[.int .i64 0],[.int .i64 2]]
theorem K9:∃ n,aAa G0.cfg (lim G0.cfg) n 63 [.vsl false [[.int .i64 0]],.vsl false [[.int .i64 2]]]  = some V4:=aAl rfl aAe aAd 60 (by kernel_rfl)
theorem K10:∃ n,aAa G0.cfg (lim G0.cfg) n 63 [V4,.vsl false [[.int .i64 0]]]  = some V4:=aAl rfl aAe aAd 60 (by kernel_rfl)
theorem K11:∃ n,aAa G0.cfg (lim G0.cfg) n 63 [V4,.vsl false [[.int .i64 2]]]  = some V4:=aAl rfl aAe aAd 60 (by kernel_rfl)
def V5:AV:=.vsl false [[.vsl true [[.int .i64 0]]],[V4]]
def V6:AV:=.agg [.vsl false [[.int .i64 0,.int .i64 0],[.int .i64 1,.int .i64 0]],V5,.nilS]
theorem K12:∃ n,aAa G0.cfg (lim G0.cfg) n 64 [.agg [.vsl false [[.int .i64 0,.int .i64 0]],.vsl false [[.vsl true [[.int .i64 0]]]],.nilS],.agg [.int .i64 1,.int .i64 0],V4]  = some V6:=aAl rfl aAe aAd 60 (by kernel_rfl)
def V7:AV:=.vsl false [[.int .i64 0,.int .i64 0],[.int .i64 1,.int .i64 0],[.int .i64 2,.int .i64 0]]
def V8:AV:=.vsl false [[.vsl true [[.int .i64 0]]],[V4],[V4]]
def V9:AV:=.agg [V7,V8,.nilS]
theorem K13:∃ n,aAa G0.cfg (lim G0.cfg) n 64 [V6,.agg [.int .i64 2,.int .i64 0],V4]  = some V9:=aAl rfl aAe aAd 60 (by kernel_rfl)
def V10:AV:=.vsl true [[.vsl true [[.int .i64 0]]]]
theorem K14:∃ n,aAa G0.cfg (lim G0.cfg) n 48 [V0,V3,.agg [.vsl true [[.int .i64 0,.int .i64 0]],V10,.nilS]]  = some V9:=aAl rfl aAe (aA9 K7 (aA9 K8 (aA9 K9 (aA9 K10 (aA9 K11 (aA9 K12 (aA9 K13 aAd))))))) 60 (by kernel_rfl)
theorem K15:∃ n,aAa G0.cfg (lim G0.cfg) n 49 [V0,V9,.int .i64 0]  = some (.agg [.nilS,.nilS,.nilS]):=aAl rfl aAe aAd 60 (by kernel_rfl)
theorem K16:∃ n,aAa G0.cfg (lim G0.cfg) n 49 [V0,V9,.int .i64 1]  = some (.agg [.nilS,.nilS,.nilS]):=aAl rfl aAe aAd 60 (by kernel_rfl)
theorem K17:∃ n,aAa G0.cfg (lim G0.cfg) n 49 [V0,V9,.int .i64 2]  = some (.agg [.nilS,.nilS,.nilS]):=aAl rfl aAe aAd 60 (by kernel_rfl)
def V11:AV:=.vsl false [[V4]]
def V12:AV:=.agg [.vsl false [[.int .i64 2,.int .i64 1]],V11,.nilS]
theorem K18:∃ n,aAa G0.cfg (lim G0.cfg) n 49 [V0,V9,.int .i64 3]  = some V12:=aAl rfl aAe aAd 60 (by kernel_rfl)
theorem K19:∃ n,aAa G0.cfg (lim G0.cfg) n 49 [V0,V9,.int .i64 (-1)]  = some (.agg [.nilS,.nilS,.nilS]):=aAl rfl aAe aAd 60 (by kernel_rfl)
def V13:AV:=.vsl false [[.int .i64 0,.int .i64 1],[.int .i64 1,.int .i64 1]]
def V14:AV:=.agg [V13,V5,.nilS]
theorem K20:∃ n,aAa G0.cfg (lim G0.cfg) n 49 [V0,V9,.int .i64 (-2)]  = some V14:=aAl rfl aAe aAd 60 (by kernel_rfl)
theorem K21:∃ n,aAa G0.cfg (lim G0.cfg) n 48 [V0,V3,V12]  = some V12:=aAl rfl aAe aAd 60 (by kernel_rfl)
theorem K22:∃ n,aAa G0.cfg (lim G0.cfg) n 49 [V0,V12,.int .i64 0]  = some (.agg [.nilS,.nilS,.nilS]):=aAl rfl aAe aAd 60 (by kernel_rfl)
theorem K23:∃ n,aAa G0.cfg (lim G0.cfg) n 49 [V0,V12,.int .i64 1]  = some (.agg [.nilS,.nilS,.nilS]):=aAl rfl aAe aAd 60 (by kernel_rfl)
theorem K24:∃ n,aAa G0.cfg (lim G0.cfg) n 49 [V0,V12,.int .i64 2]  = some (.agg [.nilS,.nilS,.nilS]):=aAl rfl aAe aAd 60 (by kernel_rfl)
theorem K25:∃ n,aAa G0.cfg (lim G0.cfg) n 49 [V0,V12,.int .i64 3]  = some (.agg [.nilS,.nilS,.nilS]):=aAl rfl aAe aAd 60 (by kernel_rfl)
theorem K26:∃ n,aAa G0.cfg (lim G0.cfg) n 49 [V0,V12,.int .i64 (-1)]  = some (.agg [.nilS,.nilS,.nilS]):=aAl rfl aAe aAd 60 (by kernel_rfl)
theorem K27:∃ n,aAa G0.cfg (lim G0.cfg) n 49 [V0,V12,.int .i64 (-2)]  = some (.agg [.nilS,.nilS,.nilS]):=aAl rfl aAe aAd 60 (by kernel_rfl)
theorem K28:∃ n,aAa G0.cfg (lim G0.cfg) n 48 [V0,V3,V14]  = some V14:=aAl rfl aAe aAd 60 (by kernel_rfl)
theorem K29:∃ n,aAa G0.cfg (lim G0.cfg) n 49 [V0,V14,.int .i64 0]  = some (.agg [.nilS,.nilS,.nilS]):=aAl rfl aAe aAd 60 (by kernel_rfl)
theorem K30:∃ n,aAa G0.cfg (lim G0.cfg) n 49 [V0,V14,.int .i64 1]  = some (.agg [.nilS,.nilS,.nilS]):=aAl rfl aAe aAd 60 (by kernel_rfl)
def V15:AV:=.agg [.vsl false [[.int .i64 1,.int .i64 2]],V11,.nilS]
theorem K31:∃ n,aAa G0.cfg (lim G0.cfg) n 49 [V0,V14,.int .i64 2]  = some V15:=aAl rfl aAe aAd 60 (by kernel_rfl)
def V16:AV:=.vsl false [[.int .i64 3,.int .i64 1],[.int .i64 (-2),.int .i64 2]]
def V17:AV:=.agg [.vsl true [[.int .i64 0,.int .i64 0]],V10,V16]
theorem K32:∃ n,aAa G0.cfg (lim G0.cfg) n 50 [V17,V15]  = some (.bool false):=aAl rfl aAe aAd 60 (by kernel_rfl)
theorem K33:∃ n,aAa G0.cfg (lim G0.cfg) n 50 [V12,V15]  = some (.bool false):=aAl rfl aAe aAd 60 (by kernel_rfl)
theorem K34:∃ n,aAa G0.cfg (lim G0.cfg) n 49 [V0,V14,.int .i64 3]  = some (.agg [.nilS,.nilS,.nilS]):=aAl rfl aAe aAd 60 (by kernel_rfl)
theorem K35:∃ n,aAa G0.cfg (lim G0.cfg) n 49 [V0,V14,.int .i64 (-1)]  = some (.agg [.nilS,.nilS,.nilS]):=aAl rfl aAe aAd 60 (by kernel_rfl)
theorem K36:∃ n,aAa G0.cfg (lim G0.cfg) n 49 [V0,V14,.int .i64 (-2)]  = some (.agg [.nilS,.nilS,.nilS]):=aAl rfl aAe aAd 60 (by kernel_rfl)
theorem K37:∃ n,aAa G0.cfg (lim G0.cfg) n 63 [.nilS,V4]  = some V4:=aAl rfl aAe aAd 60 (by kernel_rfl)
theorem K38:∃ n,aAa G0.cfg (lim G0.cfg) n 63 [V4,V4]  = some V4:=aAl rfl aAe aAd 60 (by kernel_rfl)
def V18:AV:=.vsl false [[V4],[V4]]
def V19:AV:=.agg [.vsl false [[.int .i64 1,.int .i64 0],[.int .i64 1,.int .i64 2]],V18,.nilS]
theorem K39:∃ n,aAa G0.cfg (lim G0.cfg) n 64 [V15,.agg [.int .i64 1,.int .i64 0],V4]  = some V19:=aAl rfl aAe aAd 60 (by kernel_rfl)
def V20:AV:=.vsl false [[.int .i64 1,.int .i64 0],[.int .i64 1,.int .i64 2],[.int .i64 2,.int .i64 0]]
def V21:AV:=.vsl false [[V4],[V4],[V4]]
def V22:AV:=.agg [V20,V21,.nilS]
theorem K40:∃ n,aAa G0.cfg (lim G0.cfg) n 64 [V19,.agg [.int .i64 2,.int .i64 0],V4]  = some V22:=aAl rfl aAe aAd 60 (by kernel_rfl)
theorem K41:∃ n,aAa G0.cfg (lim G0.cfg) n 48 [V0,V3,V15]  = some V22:=aAl rfl aAe (aA9 K37 (aA9 K8 (aA9 K11 (aA9 K38 (aA9 K39 (aA9 K40 aAd)))))) 60 (by kernel_rfl)
theorem K42:∃ n,aAa G0.cfg (lim G0.cfg) n 49 [V0,V22,.int .i64 0]  = some (.agg [.nilS,.nilS,.nilS]):=aAl rfl aAe aAd 60 (by kernel_rfl)
theorem K43:∃ n,aAa G0.cfg (lim G0.cfg) n 49 [V0,V22,.int .i64 1]  = some (.agg [.nilS,.nilS,.nilS]):=aAl rfl aAe aAd 60 (by kernel_rfl)
theorem K44:∃ n,aAa G0.cfg (lim G0.cfg) n 49 [V0,V22,.int .i64 2]  = some (.agg [.nilS,.nilS,.nilS]):=aAl rfl aAe aAd 60 (by kernel_rfl)
theorem K45:∃ n,aAa G0.cfg (lim G0.cfg) n 49 [V0,V22,.int .i64 3]  = some V12:=aAl rfl aAe aAd 60 (by kernel_rfl)
theorem K46:∃ n,aAa G0.cfg (lim G0.cfg) n 50 [V12,V12]  = some (.bool true):=aAl rfl aAe aAd 60 (by kernel_rfl)
theorem K47:∃ n,aAa G0.cfg (lim G0.cfg) n 49 [V0,V22,.int .i64 (-1)]  = some (.agg [.nilS,.nilS,.nilS]):=aAl rfl aAe aAd 60 (by kernel_rfl)
def V23:AV:=.vsl false [[.int .i64 1,.int .i64 1],[.int .i64 1,.int .i64 3]]
def V24:AV:=.agg [V23,V18,.nilS]
theorem K48:∃ n,aAa G0.cfg (lim G0.cfg) n 49 [V0,V22,.int .i64 (-2)]  = some V24:=aAl rfl aAe aAd 60 (by kernel_rfl)
theorem K49:∃ n,aAa G0.cfg (lim G0.cfg) n 48 [V0,V3,V24]  = some V24:=aAl rfl aAe aAd 60 (by kernel_rfl)
theorem K50:∃ n,aAa G0.cfg (lim G0.cfg) n 49 [V0,V24,.int .i64 0]  = some (.agg [.nilS,.nilS,.nilS]):=aAl rfl aAe aAd 60 (by kernel_rfl)
theorem K51:∃ n,aAa G0.cfg (lim G0.cfg) n 49 [V0,V24,.int .i64 1]  = some (.agg [.nilS,.nilS,.nilS]):=aAl rfl aAe aAd 60 (by kernel_rfl)
theorem K52:∃ n,aAa G0.cfg (lim G0.cfg) n 49 [V0,V24,.int .i64 2]  = some V15:=aAl rfl aAe aAd 60 (by kernel_rfl)
def V25:AV:=.vsl false [[.int .i64 3,.int .i64 1],[.int .i64 (-2),.int .i64 4]]
def V26:AV:=.agg [.vsl false [[.int .i64 1,.int .i64 2]],V11,V25]
theorem K53:∃ n,aAa G0.cfg (lim G0.cfg) n 50 [V26,V15]  = some (.bool true):=aAl rfl aAe aAd 60 (by kernel_rfl)
theorem K54:∃ n,aAa G0.cfg (lim G0.cfg) n 49 [V0,V24,.int .i64 3]  = some (.agg [.nilS,.nilS,.nilS]):=aAl rfl aAe aAd 60 (by kernel_rfl)
theorem K55:∃ n,aAa G0.cfg (lim G0.cfg) n 49 [V0,V24,.int .i64 (-1)]  = some (.agg [.nilS,.nilS,.nilS]):=aAl rfl aAe aAd 60 (by kernel_rfl)
theorem K56:∃ n,aAa G0.cfg (lim G0.cfg) n 49 [V0,V24,.int .i64 (-2)]  = some (.agg [.nilS,.nilS,.nilS]):=aAl rfl aAe aAd 60 (by kernel_rfl)
def V27:AV:=.vsl false [[.vsl true [[.int .i64 0,.int .i64 0]],V10,V16],[.vsl false [[.int .i64 2,.int .i64 1]],V11,.nilS],[V13,V5,.vsl false [[.int .i64 2,.int .i64 3]]],[.vsl false [[.int .i64 1,.int .i64 2]],V11,V25],[V23,V18,.vsl false [[.int .i64 2,.int .i64 3]]]]
theorem K57:∃ n,aAa G0.cfg (lim G0.cfg) n 37 [V0]  = some (.tup [V27,.bool true]):=aAl rfl aAe (aA9 K1 (aA9 K6 (aA9 K14 (aA9 K15 (aA9 K16 (aA9 K17 (aA9 K18 (aA9 K19 (aA9 K20 (aA9 K21 (aA9 K22 (aA9 K23 (aA9 K24 (aA9 K25 (aA9 K26 (aA9 K27 (aA9 K28 (aA9 K29 (aA9 K30 (aA9 K31 (aA9 K32 (aA9 K33 (aA9 K34 (aA9 K35 (aA9 K36 (aA9 K41 (aA9 K42 (aA9 K43 (aA9 K44 (aA9 K45 (aA9 K46 (aA9 K47 (aA9 K48 (aA9 K49 (aA9 K50 (aA9 K51 (aA9 K52 (aA9 K53 (aA9 K54 (aA9 K55 (aA9 K56 aAd))))))))))))))))))))))))))))))))))))))))) 60 (by kernel_rfl)
theorem K58:∃ n,aAa G0.cfg (lim G0.cfg) n 30 [V0]  = some (.tup [V27,.int .i64 0]):=aAl rfl aAe (aA9 K0 (aA9 K57 aAd)) 60 (by kernel_rfl)
theorem K59:∃ n,aAa G0.cfg (lim G0.cfg) n 83 [V0,.vsl true [[.int .i64 0,.int .i64 0]]]  = some (.bool true):=aAl rfl aAe aAd 60 (by kernel_rfl)
theorem K60:∃ n,aAa G0.cfg (lim G0.cfg) n 84 [V0,V17]  = some (.bool true):=aAl rfl aAe aAd 60 (by kernel_rfl)
theorem K61:∃ n,aAa G0.cfg (lim G0.cfg) n 83 [V0,.vsl false [[.int .i64 2,.int .i64 1]]]  = some (.bool true):=aAl rfl aAe aAd 60 (by kernel_rfl)
theorem K62:∃ n,aAa G0.cfg (lim G0.cfg) n 84 [V0,V12]  = some (.bool true):=aAl rfl aAe aAd 60 (by kernel_rfl)
theorem K63:∃ n,aAa G0.cfg (lim G0.cfg) n 83 [V0,V13]  = some (.bool true):=aAl rfl aAe aAd 60 (by kernel_rfl)
def V28:AV:=.agg [V13,V5,.vsl false [[.int .i64 2,.int .i64 3]]]
theorem K64:∃ n,aAa G0.cfg (lim G0.cfg) n 84 [V0,V28]  = some (.bool true):=aAl rfl aAe aAd 60 (by kernel_rfl)
theorem K65:∃ n,aAa G0.cfg (lim G0.cfg) n 84 [V0,V26]  = some (.bool true):=aAl rfl aAe aAd 60 (by kernel_rfl)
theorem K66:∃ n,aAa G0.cfg (lim G0.cfg) n 83 [V0,V23]  = some (.bool true):=aAl rfl aAe aAd 60 (by kernel_rfl)
def V29:AV:=.agg [V23,V18,.vsl false [[.int .i64 2,.int .i64 3]]]
theorem K67:∃ n,aAa G0.cfg (lim G0.cfg) n 84 [V0,V29]  = some (.bool true):=aAl rfl aAe aAd 60 (by kernel_rfl)
theorem K68:∃ n,aAa G0.cfg (lim G0.cfg) n 85 [V0,.vsl true [[.int .i64 0,.int .i64 0]]]  = some V7:=aAl rfl aAe aAd 60 (by kernel_rfl)
def V30:AV:=.vsl false [[.int .i64 3],[.int .i64 (-2)]]
theorem K69:∃ n,aAa G0.cfg (lim G0.cfg) n 86 [V0,V7]  = some V30:=aAl rfl aAe aAd 60 (by kernel_rfl)
theorem K70:∃ n,aAa G0.cfg (lim G0.cfg) n 87 [V0,V7,.int .i64 3]  = some (.vsl false [[.int .i64 2,.int .i64 1]]):=aAl rfl aAe aAd 60 (by kernel_rfl)
theorem K71:∃ n,aAa G0.cfg (lim G0.cfg) n 87 [V0,V7,.int .i64 (-2)]  = some V13:=aAl rfl aAe aAd 60 (by kernel_rfl)
theorem K72:∃ n,aAa G0.cfg (lim G0.cfg) n 85 [V0,.vsl false [[.int .i64 2,.int .i64 1]]]  = some (.vsl false [[.int .i64 2,.int .i64 1]]):=aAl rfl aAe aAd 60 (by kernel_rfl)
theorem K73:∃ n,aAa G0.cfg (lim G0.cfg) n 86 [V0,.vsl false [[.int .i64 2,.int .i64 1]]]  = some (.vsl true []):=aAl rfl aAe aAd 60 (by kernel_rfl)
theorem K74:∃ n,aAa G0.cfg (lim G0.cfg) n 85 [V0,V13]  = some V13:=aAl rfl aAe aAd 60 (by kernel_rfl)
theorem K75:∃ n,aAa G0.cfg (lim G0.cfg) n 86 [V0,V13]  = some (.vsl false [[.int .i64 2]]):=aAl rfl aAe aAd 60 (by kernel_rfl)
theorem K76:∃ n,aAa G0.cfg (lim G0.cfg) n 87 [V0,V13,.int .i64 2]  = some (.vsl false [[.int .i64 1,.int .i64 2]]):=aAl rfl aAe aAd 60 (by kernel_rfl)
theorem K77:∃ n,aAa G0.cfg (lim G0.cfg) n 85 [V0,.vsl false [[.int .i64 1,.int .i64 2]]]  = some V20:=aAl rfl aAe aAd 60 (by kernel_rfl)
theorem K78:∃ n,aAa G0.cfg (lim G0.cfg) n 86 [V0,V20]  = some V30:=aAl rfl aAe aAd 60 (by kernel_rfl)
theorem K79:∃ n,aAa G0.cfg (lim G0.cfg) n 87 [V0,V20,.int .i64 3]  = some (.vsl false [[.int .i64 2,.int .i64 1]]):=aAl rfl aAe aAd 60 (by kernel_rfl)
theorem K80:∃ n,aAa G0.cfg (lim G0.cfg) n 87 [V0,V20,.int .i64 (-2)]  = some V23:=aAl rfl aAe aAd 60 (by kernel_rfl)
theorem K81:∃ n,aAa G0.cfg (lim G0.cfg) n 85 [V0,V23]  = some V23:=aAl rfl aAe aAd 60 (by kernel_rfl)
theorem K82:∃ n,aAa G0.cfg (lim G0.cfg) n 86 [V0,V23]  = some (.vsl false [[.int .i64 2]]):=aAl rfl aAe aAd 60 (by kernel_rfl)
theorem K83:∃ n,aAa G0.cfg (lim G0.cfg) n 87 [V0,V23,.int .i64 2]  = some (.vsl false [[.int .i64 1,.int .i64 2]]):=aAl rfl aAe aAd 60 (by kernel_rfl)
theorem K84:∃ n,aAa G0.cfg (lim G0.cfg) n 78 [V0,V27]  = some (.bool true):=aAl rfl aAe (aA9 K0 (aA9 K59 (aA9 K60 (aA9 K61 (aA9 K62 (aA9 K63 (aA9 K64 (aA9 K65 (aA9 K66 (aA9 K67 (aA9 K68 (aA9 K69 (aA9 K70 (aA9 K71 (aA9 K72 (aA9 K73 (aA9 K74 (aA9 K75 (aA9 K76 (aA9 K77 (aA9 K78 (aA9 K79 (aA9 K80 (aA9 K81 (aA9 K82 (aA9 K83 aAd)))))))))))))))))))))))))) 60 (by kernel_rfl)
theorem K85:∃ n,aAa G0.cfg (lim G0.cfg) n 48 [V0,V3,V17]  = some V9:=aAl rfl aAe (aA9 K7 (aA9 K8 (aA9 K9 (aA9 K10 (aA9 K11 (aA9 K12 (aA9 K13 aAd))))))) 60 (by kernel_rfl)
theorem K86:∃ n,aAa G0.cfg (lim G0.cfg) n 48 [V0,V3,V28]  = some V14:=aAl rfl aAe aAd 60 (by kernel_rfl)
theorem K87:∃ n,aAa G0.cfg (lim G0.cfg) n 48 [V0,V3,V26]  = some V22:=aAl rfl aAe (aA9 K37 (aA9 K8 (aA9 K11 (aA9 K38 (aA9 K39 (aA9 K40 aAd)))))) 60 (by kernel_rfl)
theorem K88:∃ n,aAa G0.cfg (lim G0.cfg) n 79 [V0,V29]  = some (.bool true):=aAl rfl aAe aAd 60 (by kernel_rfl)
theorem K89:∃ n,aAa G0.cfg (lim G0.cfg) n 48 [V0,V3,V29]  = some V24:=aAl rfl aAe aAd 60 (by kernel_rfl)
theorem K90:∃ n,aAa G0.cfg (lim G0.cfg) n 67 [V0,V27]  = some (.vsl false [[V7,V8,V16],[.vsl false [[.int .i64 2,.int .i64 1]],V11,.nilS],[V13,V5,.vsl false [[.int .i64 2,.int .i64 3]]],[V20,V21,V25],[V23,V18,.vsl false [[.int .i64 2,.int .i64 3]]]]):=aAl rfl aAe (aA9 K6 (aA9 K85 (aA9 K21 (aA9 K86 (aA9 K87 (aA9 K88 (aA9 K89 aAd))))))) 60 (by kernel_rfl)
def V31:AV:=.agg [V7,V8,V16]
theorem K91:∃ n,aAa G0.cfg (lim G0.cfg) n 68 [V0,V31,.int .i64 0,.int .i64 0]  = some (.agg [.int .i64 0,.int .i64 0,.bool false,.nilS]):=aAl rfl aAe aAd 60 (by kernel_rfl)
theorem K92:∃ n,aAa G0.cfg (lim G0.cfg) n 68 [V0,V31,.int .i64 0,.int .i64 1]  = some (.agg [.int .i64 0,.int .i64 1,.bool false,.nilS]):=aAl rfl aAe aAd 60 (by kernel_rfl)
theorem K93:∃ n,aAa G0.cfg (lim G0.cfg) n 68 [V0,V31,.int .i64 0,.int .i64 2]  = some (.agg [.int .i64 0,.int .i64 2,.bool false,.nilS]):=aAl rfl aAe aAd 60 (by kernel_rfl)
def V32:AV:=.agg [.int .i64 0,.int .i64 3,.bool true,.nilS]
theorem K94:∃ n,aAa G0.cfg (lim G0.cfg) n 68 [V0,V31,.int .i64 0,.int .i64 3]  = some V32:=aAl rfl aAe aAd 60 (by kernel_rfl)
theorem K95:∃ n,aAa G0.cfg (lim G0.cfg) n 70 [V17,V32]  = some (.vsl false [[.int .i64 1,.int .i64 1]]):=aAl rfl aAe aAd 60 (by kernel_rfl)
theorem K96:∃ n,aAa G0.cfg (lim G0.cfg) n 71 [V17,.int .i64 (-1)]  = some (.int .i64 (-1)):=aAl rfl aAe aAd 60 (by kernel_rfl)
def V33:AV:=.agg [.int .i64 1,.int .i64 0,.bool false,.vsl false [[.int .i64 2]]]
theorem K97:∃ n,aAa G0.cfg (lim G0.cfg) n 68 [V0,V12,.int .i64 1,.int .i64 0]  = some V33:=aAl rfl aAe aAd 60 (by kernel_rfl)
theorem K98:∃ n,aAa G0.cfg (lim G0.cfg) n 69 [V0,V33]  = some V33:=aAl rfl aAe aAd 60 (by kernel_rfl)
theorem K99:∃ n,aAa G0.cfg (lim G0.cfg) n 68 [V0,V12,.int .i64 1,.int .i64 1]  = some (.agg [.int .i64 1,.int .i64 1,.bool false,.nilS]):=aAl rfl aAe aAd 60 (by kernel_rfl)
def V34:AV:=.agg [.int .i64 1,.int .i64 2,.bool false,.vsl false [[.int .i64 2]]]
theorem aTl:∃ n,aAa G0.cfg (lim G0.cfg) n 68 [V0,V12,.int .i64 1,.int .i64 2]  = some V34:=aAl rfl aAe aAd 60 (by kernel_rfl)
theorem aTk:∃ n,aAa G0.cfg (lim G0.cfg) n 69 [V0,V34]  = some V34:=aAl rfl aAe aAd 60 (by kernel_rfl)
theorem aTj:∃ n,aAa G0.cfg (lim G0.cfg) n 68 [V0,V12,.int .i64 1,.int .i64 3]  = some (.agg [.int .i64 1,.int .i64 3,.bool false,.nilS]):=aAl rfl aAe aAd 60 (by kernel_rfl)
def V35:AV:=.agg [.int .i64 2,.int .i64 0,.bool false,.vsl false [[.int .i64 0]]]
theorem aTi:∃ n,aAa G0.cfg (lim G0.cfg) n 68 [V0,V28,.int .i64 2,.int .i64 0]  = some V35:=aAl rfl aAe aAd 60 (by kernel_rfl)
theorem aTh:∃ n,aAa G0.cfg (lim G0.cfg) n 69 [V0,V35]  = some V35:=aAl rfl aAe aAd 60 (by kernel_rfl)
theorem aTg:∃ n,aAa G0.cfg (lim G0.cfg) n 68 [V0,V28,.int .i64 2,.int .i64 1]  = some (.agg [.int .i64 2,.int .i64 1,.bool false,.nilS]):=aAl rfl aAe aAd 60 (by kernel_rfl)
def V36:AV:=.agg [.int .i64 2,.int .i64 2,.bool true,.nilS]
theorem aTf:∃ n,aAa G0.cfg (lim G0.cfg) n 68 [V0,V28,.int .i64 2,.int .i64 2]  = some V36:=aAl rfl aAe aAd 60 (by kernel_rfl)
theorem aTe:∃ n,aAa G0.cfg (lim G0.cfg) n 70 [V28,V36]  = some (.vsl false [[.int .i64 1,.int .i64 3]]):=aAl rfl aAe aAd 60 (by kernel_rfl)
theorem aTd:∃ n,aAa G0.cfg (lim G0.cfg) n 68 [V0,V28,.int .i64 2,.int .i64 3]  = some (.agg [.int .i64 2,.int .i64 3,.bool false,.nilS]):=aAl rfl aAe aAd 60 (by kernel_rfl)
def V37:AV:=.agg [V20,V21,V25]
theorem aTc:∃ n,aAa G0.cfg (lim G0.cfg) n 68 [V0,V37,.int .i64 3,.int .i64 0]  = some (.agg [.int .i64 3,.int .i64 0,.bool false,.nilS]):=aAl rfl aAe aAd 60 (by kernel_rfl)
theorem aTb:∃ n,aAa G0.cfg (lim G0.cfg) n 68 [V0,V37,.int .i64 3,.int .i64 1]  = some (.agg [.int .i64 3,.int .i64 1,.bool false,.nilS]):=aAl rfl aAe aAd 60 (by kernel_rfl)
theorem aTa:∃ n,aAa G0.cfg (lim G0.cfg) n 68 [V0,V37,.int .i64 3,.int .i64 2]  = some (.agg [.int .i64 3,.int .i64 2,.bool false,.nilS]):=aAl rfl aAe aAd 60 (by kernel_rfl)
def V38:AV:=.agg [.int .i64 3,.int .i64 3,.bool true,.nilS]
theorem aT9:∃ n,aAa G0.cfg (lim G0.cfg) n 68 [V0,V37,.int .i64 3,.int .i64 3]  = some V38:=aAl rfl aAe aAd 60 (by kernel_rfl)
theorem aT8:∃ n,aAa G0.cfg (lim G0.cfg) n 70 [V26,V38]  = some (.vsl false [[.int .i64 1,.int .i64 1]]):=aAl rfl aAe aAd 60 (by kernel_rfl)
theorem aT7:∃ n,aAa G0.cfg (lim G0.cfg) n 71 [V26,.int .i64 (-1)]  = some (.int .i64 (-1)):=aAl rfl aAe aAd 60 (by kernel_rfl)
def V39:AV:=.agg [.int .i64 4,.int .i64 0,.bool false,.vsl false [[.int .i64 1]]]
theorem aT6:∃ n,aAa G0.cfg (lim G0.cfg) n 68 [V0,V29,.int .i64 4,.int .i64 0]  = some V39:=aAl rfl aAe aAd 60 (by kernel_rfl)
theorem aT5:∃ n,aAa G0.cfg (lim G0.cfg) n 69 [V0,V39]  = some V39:=aAl rfl aAe aAd 60 (by kernel_rfl)
theorem aT4:∃ n,aAa G0.cfg (lim G0.cfg) n 68 [V0,V29,.int .i64 4,.int .i64 1]  = some (.agg [.int .i64 4,.int .i64 1,.bool false,.nilS]):=aAl rfl aAe aAd 60 (by kernel_rfl)
def V40:AV:=.agg [.int .i64 4,.int .i64 2,.bool true,.vsl false [[.int .i64 1]]]
theorem aT3:∃ n,aAa G0.cfg (lim G0.cfg) n 68 [V0,V29,.int .i64 4,.int .i64 2]  = some V40:=aAl rfl aAe aAd 60 (by kernel_rfl)
theorem aT2:∃ n,aAa G0.cfg (lim G0.cfg) n 69 [V0,V40]  = some (.agg [.int .i64 4,.int .i64 2,.bool false,.vsl false [[.int .i64 1]]]):=aAl rfl aAe aAd 60 (by kernel_rfl)
theorem aT1:∃ n,aAa G0.cfg (lim G0.cfg) n 68 [V0,V29,.int .i64 4,.int .i64 3]  = some (.agg [.int .i64 4,.int .i64 3,.bool false,.nilS]):=aAl rfl aAe aAd 60 (by kernel_rfl)
def V41:AV:=.vsl false [[.nilS],[.nilS],[.nilS],[.vsl false [[.int .i64 1,.int .i64 1]]]]
def V42:AV:=.vsl false [[.int .i64 (-1)],[.int .i64 (-1)]]
def V43:AV:=.agg [.vsl false [[V41],[.vsl false [[.vsl false [[.int .i64 2,.int .i64 2]]],[.nilS],[.vsl false [[.int .i64 2,.int .i64 2]]],[.nilS]]],[.vsl false [[.vsl false [[.int .i64 3,.int .i64 0]]],[.nilS],[.vsl false [[.int .i64 1,.int .i64 3]]],[.nilS]]],[V41],[.vsl false [[.vsl false [[.int .i64 2,.int .i64 1]]],[.nilS],[.vsl false [[.int .i64 2,.int .i64 1]]],[.nilS]]]],.vsl false [[.vsl false [[.int .i64 (-1)],[.int .i64 2]]],[V42],[V42],[.vsl false [[.int .i64 (-1)],[.int .i64 4]]],[V42]]]
theorem aT0:∃ n,aAa G0.cfg (lim G0.cfg) n 52 [V0,V27,.bool false]  = some V43:=aAl rfl aAe (aA9 K90 (aA9 K91 (aA9 K92 (aA9 K93 (aA9 K94 (aA9 K95 (aA9 K96 (aA9 K97 (aA9 K98 (aA9 K99 (aA9 aTl (aA9 aTk (aA9 aTj (aA9 aTi (aA9 aTh (aA9 aTg (aA9 aTf (aA9 aTe (aA9 aTd (aA9 aTc (aA9 aTb (aA9 aTa (aA9 aT9 (aA9 aT8 (aA9 aT7 (aA9 aT6 (aA9 aT5 (aA9 aT4 (aA9 aT3 (aA9 aT2 (aA9 aT1 aAd))))))))))))))))))))))))))))))) 60 (by kernel_rfl)
theorem aQI:∃ n,aAa G0.cfg (lim G0.cfg) n 33 [V0]  = some (.int .i64 0):=aAl rfl aAe aAd 60 (by kernel_rfl)
theorem aSp:∃ n,aAa G0.cfg (lim G0.cfg) n 34 [V0,V43]  = some (.bool true):=aAl rfl aAe (aA9 aQI aAd) 60 (by kernel_rfl)
theorem aSZ:∃ n,aAa G0.cfg (lim G0.cfg) n 8 [V0,V43,.vsl true [[.int .i64 3],[.int .i64 2],[.int .i64 3]]]  = some (.tup [.vsl false [[.int .i64 2],[.int .i64 2],[.int .i64 1]],.int .i64 3,.int .i64 0]):=aAl rfl aAe (aA9 aQI (aA9 aSp aAd)) 60 (by kernel_rfl)
theorem aSY:∃ n,aAa G0.cfg (lim G0.cfg) n 7 []  = some (.bool true):=aAl rfl aAe (aA9 K58 (aA9 K0 (aA9 K84 (aA9 aT0 (aA9 aSZ (aA9 aQI (aA9 aSp aAd))))))) 60 (by kernel_rfl)
theorem aOg (H:aA0):lim G0.cfg (.func 7) [] H=some (.bool true,H):=aRa rfl aSY H
end Go.Proofs.Yteenffomgdfocaa.Ai
