/- Functions of the program: the evaluation of each, and that a call of it does what is told. No condition. -/
import Derived.Test.YtjejmgffiilmlaaGreatTab
import Derived.Test.YtjejmgffiilmlaaGreatPTimes
import Derived.Test.YtjejmgffiilmlaaGreatIns
set_option linter.unusedVariables false
set_option linter.unusedSimpArgs false
set_option maxRecDepth 100000
open Bool renaming true->ai,false->ak
open Function renaming comp_def->dx
open Nat renaming beq->bh
open _root_ renaming Nat->aE,List->ax,Option->aA,Bool->aW
namespace Go.FG.Se
open Go.Proofs Go.Proofs.Tryz
variable {R:Type}
abbrev FO:=kS Tryz.prog T

def E15:=en [] []
def A15:Fn [.R] As:=λa=>[aH 5 a]
def k15:Fn [.B] dz:=λa=>⟨[aB a],[]⟩
def afJ:=dR A15 k15 (ct _) YZ.v
theorem anP:FO 15 afJ:=ft (E:=E15) bf func15 YZ.b λ(a0,_)=>YZ.gu _ a0

def E87:=en [] [(3,[0,3,4])]
def A87:Fn [.R] As:=λa=>[aH 5 a]
def k87:Fn [.R, .I, .I] dz:=λa b c=>⟨[.pt [.sh 5 a, .n b, .n c]],[]⟩
def I5:Fn [.R, .I, .I] Tb:=λa b c=>[cH 0 5 a,cI 6 b,cI 8 c]
def VG(N:aE)(K:Kt R):=El.l3 N (J I5 (.exit 0) K)
def ad1(N:aE):It R:=(lp 3 (al I5 (λK=>VG N K N) an) ln)
theorem aaC(N:aE):cE E87 (ad1 N (R:=R)) (b_ f87 3):=lq 3 I5 (VG N) λK g=>El.r3 N g (J I5 (.exit 0) K)
def U0:=dR A87 k87 El.c El.v
theorem aaQ:FO 87 U0:=fq (E:=E87) bf func87 (it:=λN=>ad1 N) (λN=>(bF (aaC N) bW)) El.b El.vo

def ajM:=en [] []
def ahZ:Fn [.R, .I, .I] As:=λa b c=>[.pt [.sh 5 a, .n b, .n c]]
def alN:Fn [.I, .R, .I, .I] dz:=λa b c d=>⟨[aI a],[[.sh 5 b, .n c, .n d]]⟩
def Xn:=dR ahZ alN bK.c bK.v
theorem aer:FO 102 Xn:=fr (E:=ajM) bf func102 bK.b bK.vo

def ajN:=en [(102,Xn)] []
def ah0:Fn [.R, .I, .I, .I] As:=λa b c d=>[.pt [.sh 5 a, .n b, .n c],aI d]
def alO:Fn [.I, .R, .I, .I] dz:=λa b c d=>⟨[aI a],[[.sh 5 b, .n c, .n d]]⟩
def qF:=dR ah0 alO c9.c c9.v
theorem rP:FO 103 qF:=fr (E:=ajN) (aL aer bf) func103 c9.b c9.vo

def E88:=en [(103,qF)] []
def A88:Fn [.R, .I, .I, .R] As:=λa b c d=>[.pt [.sh 5 a, .n b, .n c],aO 3 d]
def k88:Fn [.I, .R, .I, .I, .R] dz:=λa b c d e=>⟨[aI a],[[.sh 5 b, .n c, .n d],[.kp e]]⟩
def U1:=dR A88 k88 sg.c sg.v
theorem aaR:FO 88 U1:=fr (E:=E88) (aL rP bf) func88 sg.b sg.vo

def RT:=en [] [(3,[0,1,2])]
def ajr:Fn [] As:=[]
def ang:Fn [.R, .I] dz:=λa b=>⟨[aV [.ow 59 ai a, .n b]],[]⟩
def pW:Fn [.I, .I, .I] Tb:=λa b c=>[cP 0 0,cP 2 1,cI 4 a,oB 1 [.nl, .n b],oB 3 [.nl, .n c]]
def ni:Fn [.I, .I, .I, .R] Tb:=λa b c d=>[cP 0 0,cP 2 1,cI 4 a,oB 1 [.nl, .n b],oB 3 [.own 2, .n c],oR 5 59 d]
def Nc(N:aE)(K:Kt R):=Dk.l3 N (J pW (.exit 0) K) (J ni (.exit 0) K)
def IJ(N:aE)(K:Kt R):=Dk.qP N (J pW (.exit 0) K) (J ni (.exit 0) K)
def JN(N:aE):It R:=(lp 3 (al pW (λK=>Nc N K N) (al ni (λK=>IJ N K N) an)) ln)
theorem Kx(N:aE)(K:Kt R):Wd RT (JN N) (b_ f257 3) 3 K ni (IJ N K):=lw (λg=>Dk.wM N (cmp _ pW (g∘eO)) (cmp _ ni (g∘eO)) (J pW (.exit 0) K) (J ni (.exit 0) K)) λm i=>by simp only[dx,wf i];rfl
theorem abk(N:aE)(K:Kt R):Wd RT (JN N) (b_ f257 3) 3 K pW (Nc N K):=lw (λg=>Dk.r3 N (cmp _ pW (g∘eO)) (cmp _ ni (g∘eO)) (J pW (.exit 0) K) (J ni (.exit 0) K)) λm i=>by simp only[dx,wf i,wf (Kx N K m)];rfl
theorem Ug(N:aE):cE RT (JN N (R:=R)) (b_ f257 3):=lm 3 (ga pW (abk N) (ga ni (Kx N) nt))
def QH:=dR ajr ang Dk.c Dk.v
theorem Xd:FO 257 QH:=fq (E:=RT) bf func257 (it:=λN=>JN N) (λN=>(bF (Ug N) bW)) Dk.b Dk.vo

def akg:=en [(257,QH)] []
def ai_:Fn [] As:=[]
def amY:Fn [.R, .R, .R, .I] dz:=λa b c d=>⟨[aV [.ow 9 ai a, .ow 9 ai b, .ow 59 ai c, .n d]],[]⟩
def QD:=dR ai_ amY (ct _) Sh.v
theorem Xa:FO 230 QD:=ft (E:=akg) (aL Xd bf) func230 Sh.b λ_=>Sh.gu _

def aj3:=en [(230,QD)] []
def aiC:Fn [] As:=[]
def amq:Fn [.I, .R, .R, .R, .R, .I, .R, .R, .I] dz:=λa b c d e f g h i=>⟨[aV [.n a, .ow 92 ai b, .ow 9 ai c, .ow 9 ai d, .ow 59 ai e, .n f, .ow 100 ai g, .ow 53 ai h, .n i]],[]⟩
def Qw:=dR aiC amq (ct _) Sb.v
theorem W5:FO 182 Qw:=ft (E:=aj3) (aL Xa bf) func182 Sb.b λ_=>Sb.gu _

def aj9:=en [(103,qF)] []
def aiX:Fn [.R, .I, .I, .R] As:=λa b c d=>[.pt [.sh 5 a, .n b, .n c],aO 9 d]
def amL:Fn [.S, .R, .I, .I, .R] dz:=λa b c d e=>⟨[aS a],[[.sh 5 b, .n c, .n d],[.kp e]]⟩
def Qz:=dR aiX amL n_.c n_.v
theorem W8:FO 210 Qz:=fr (E:=aj9) (aL rP bf) func210 n_.b n_.vo

def ajO:=en [(210,Qz)] []
def ah5:Fn [.R, .I, .I] As:=λa b c=>[.pt [.sh 5 a, .n b, .n c]]
def alU:Fn [.S, .R, .I, .I] dz:=λa b c d=>⟨[aS a],[[.sh 5 b, .n c, .n d]]⟩
def Kd:=dR ah5 alU jT.c jT.v
theorem Pj:FO 125 Kd:=fr (E:=ajO) (aL W8 bf) func125 jT.b jT.vo

def ajP:=en [(103,qF)] []
def ah6:Fn [.R, .I, .I, .I] As:=λa b c d=>[.pt [.sh 5 a, .n b, .n c],aI d]
def alV:Fn [.B, .R, .I, .I] dz:=λa b c d=>⟨[aB a],[[.sh 5 b, .n c, .n d]]⟩
def Qo:=dR ah6 alV gT.c gT.v
theorem WX:FO 126 Qo:=fr (E:=ajP) (aL rP bf) func126 gT.b gT.vo

def acv:=en [(88,U1),(103,qF),(125,Kd),(126,Qo),(210,Qz)] [(4,[0,1,3,4,5,6,7])]
def aiE:Fn [.R, .I, .I, .I, .R, .R, .R, .R, .I, .R, .R, .I, .R, .R, .R] As:=λa b c d e f g h i j k l m o p=>[.pt [.sh 5 a, .n b, .n c],aV [.n d, .ow 92 ai e, .ow 9 ai f, .ow 9 ai g, .ow 59 ai h, .n i, .ow 100 ai j, .ow 53 ai k, .n l, .ow 236 ai m, .ow 3 ai o, .ow 92 ai p]]
def ams:Fn [.I, .I, .S, .I, .R, .R, .I, .I, .R, .R, .R, .R, .R, .R, .R, .R, .R] dz:=λa b c d e f g h i j k l m o p q r=>⟨[aV [.n a, .n b, .s c, .n d, .ow 3 ai e]],[[.sh 5 f, .n g, .n h],[.nl, .kp i, .kp j, .kp k, .kp l, .nl, .kp m, .kp o, .nl, .kp p, .kp q, .kp r]]⟩
def C1:Fn [.I, .I, .I, .I, .R, .I, .I, .R, .R, .R, .R, .R, .R, .R, .R, .R, .I, .I, .I, .I, .I, .S, .I, .I, .I, .S, .I, .R] Tb:=λa b c d e f g h i j k l m o p q r s t u v w x y z aa ab ac=>[cP 0 900000900,cV 2 [.n a, .own 900001001, .own 900001002, .own 900001003, .own 900001004, .n b, .own 900001006, .own 900001007, .n c, .own 900001009, .own 900001010, .own 900001011],cP 6 10,cP 8 11,cP 10 12,cA 12 (.own 13),cI 14 d,oB 1800001801 [.sh 5 e, .n f, .n g],oR 1800002003 92 h,oR 1800002005 9 i,oR 1800002007 9 j,oR 1800002009 59 k,oR 1800002013 100 l,oR 1800002015 53 m,oR 1800002019 236 o,oR 1800002021 3 p,oR 1800002023 92 q,oB 21 [.n r, .own 900001001, .own 900001002, .own 900001003, .own 900001004, .n s, .own 900001006, .own 900001007, .n t, .own 900001009, .own 900001010, .own 900001011],oB 23 [.n u, .n v, .s w, .n x, .nl],oB 25 [.n y, .n z, .s aa, .n ab, .nl],oR 27 3 ac]
def MU(N:aE)(K:Kt R):=tD.l4 N (J C1 (.exit 0) K)
def Wz(N:aE):It R:=(lp 4 (al C1 (λK=>MU N K N) an) ln)
theorem TZ(N:aE):cE acv (Wz N (R:=R)) (b_ f184 4):=lq 4 C1 (MU N) λK g=>tD.r4 N g (J C1 (.exit 0) K)
def XE:=dR aiE ams tD.c tD.v
theorem aeJ:FO 184 XE:=fq (E:=acv) (aL aaR (aL rP (aL Pj (aL WX (aL W8 bf))))) func184 (it:=λN=>Wz N) (λN=>(bF (TZ N) bW)) tD.b tD.vo

def RQ:=en [] [(3,[1,2,3,4])]
def aij:Fn [.R, .I] As:=λa b=>[aV [.sh 59 a, .n b]]
def al8:Fn [.R, .I] dz:=λa b=>⟨[aV [.ow 59 ai a, .n b]],[]⟩
def pT:Fn [.I, .R, .I, .I, .I] Tb:=λa b c d e=>[cP 2 0,cP 4 1,cP 6 2,cI 8 a,oB 1 [.sh 59 b, .n c],oB 3 [.nl, .n d],oB 5 [.nl, .n e]]
def nc:Fn [.I, .R, .I, .I, .I, .R] Tb:=λa b c d e f=>[cP 2 0,cP 4 1,cP 6 2,cI 8 a,oB 1 [.sh 59 b, .n c],oB 3 [.nl, .n d],oB 5 [.own 3, .n e],oR 7 59 f]
def MM(N:aE)(K:Kt R):=lR.l3 N (J pT (.exit 0) K) (J nc (.exit 0) K)
def IC(N:aE)(K:Kt R):=lR.qP N (J pT (.exit 0) K) (J nc (.exit 0) K)
def JK(N:aE):It R:=(lp 3 (al pT (λK=>MM N K N) (al nc (λK=>IC N K N) an)) ln)
theorem Ku(N:aE)(K:Kt R):Wd RQ (JK N) (b_ f146 3) 3 K nc (IC N K):=lw (λg=>lR.wM N (cmp _ pT (g∘eO)) (cmp _ nc (g∘eO)) (J pT (.exit 0) K) (J nc (.exit 0) K)) λm i=>by simp only[dx,wf i];rfl
theorem abh(N:aE)(K:Kt R):Wd RQ (JK N) (b_ f146 3) 3 K pT (MM N K):=lw (λg=>lR.r3 N (cmp _ pT (g∘eO)) (cmp _ nc (g∘eO)) (J pT (.exit 0) K) (J nc (.exit 0) K)) λm i=>by simp only[dx,wf i,wf (Ku N K m)];rfl
theorem TR(N:aE):cE RQ (JK N (R:=R)) (b_ f146 3):=lm 3 (ga pT (abh N) (ga nc (Ku N) nt))
def Gk:=dR aij al8 lR.c lR.v
theorem J3:FO 146 Gk:=fq (E:=RQ) bf func146 (it:=λN=>JK N) (λN=>(bF (TR N) bW)) lR.b lR.vo

def ajT:=en [(146,Gk)] []
def aic:Fn [.R, .R, .R, .I] As:=λa b c d=>[aV [.sh 9 a, .sh 9 b, .sh 59 c, .n d]]
def al2:Fn [.R, .R, .R, .I] dz:=λa b c d=>⟨[aV [.ow 9 ai a, .ow 9 ai b, .ow 59 ai c, .n d]],[]⟩
def Kg:=dR aic al2 eR.c eR.v
theorem Pp:FO 140 Kg:=fr (E:=ajT) (aL J3 bf) func140 eR.b eR.vo

def E48:=en [(140,Kg)] []
def A48:Fn [.I, .R, .R, .R, .R, .I, .R, .R, .I] As:=λa b c d e f g h i=>[aV [.n a, .sh 92 b, .sh 9 c, .sh 9 d, .sh 59 e, .n f, .sh 100 g, .sh 53 h, .n i]]
def k48:Fn [.I, .R, .R, .R, .R, .I, .R, .R, .I] dz:=λa b c d e f g h i=>⟨[aV [.n a, .ow 92 ai b, .ow 9 ai c, .ow 9 ai d, .ow 59 ai e, .n f, .ow 100 ai g, .ow 53 ai h, .n i]],[]⟩
def Gm:=dR A48 k48 jM.c jM.v
theorem HR:FO 48 Gm:=fr (E:=E48) (aL Pp bf) func48 jM.b jM.vo

def E49:=en [] []
def A49:Fn [.I, .I, .I] As:=λa b c=>[aI a,aI b,aI c]
def k49:Fn [.B] dz:=λa=>⟨[aB a],[]⟩
def s5:=dR A49 k49 (ct _) jV.v
theorem tU:FO 49 s5:=ft (E:=E49) bf func49 jV.b λ(a0,a1,a2,_)=>jV.gu _ a0 a1 a2

def E50:=en [(49,s5)] []
def A50:Fn [.S] As:=λa=>[aS a]
def k50:Fn [.B] dz:=λa=>⟨[aB a],[]⟩
def Ie:=dR A50 k50 (ct _) EK.v
theorem LG:FO 50 Ie:=ft (E:=E50) (aL tU bf) func50 EK.b λ(a0,_)=>EK.gu _ a0

def ajU:=en [(50,Ie),(49,s5)] []
def aid:Fn [.S, .I, .I, .S] As:=λa b c d=>[aV [.s a, .n b, .n c, .s d]]
def al3:Fn [.B] dz:=λa=>⟨[aB a],[]⟩
def Gj:=dR aid al3 (ct _) h_.v
theorem J0:FO 141 Gj:=ft (E:=ajU) (aL LG (aL tU bf)) func141 h_.b λ(a0,a1,a2,a3,_)=>h_.gu _ a0 a1 a2 a3

def acp:=en [] [(2,[0,1,4,5])]
def aif:Fn [.R, .S] As:=λa b=>[aH 9 a,aS b]
def al5:Fn [.B] dz:=λa=>⟨[aB a],[]⟩
def v9:Fn [.R, .S, .B, .I] Tb:=λa b c d=>[cH 0 9 a,cA 2 (.s b),cA 8 (.b c),cI 10 d]
def MJ(N:aE)(K:Kt R):=eQ.l2 N (J v9 .ret K) (J v9 (.exit 0) K)
def Wu(N:aE):It R:=(lp 2 (al v9 (λK=>MJ N K N) an) ln)
theorem TN(N:aE):cE acp (Wu N (R:=R)) (b_ f143 2):=lq 2 v9 (MJ N) λK g=>eQ.r2 N g (J v9 .ret K) (J v9 (.exit 0) K)
def Kh:=dR aif al5 eQ.c eQ.v
theorem Pq:FO 143 Kh:=fq (E:=acp) bf func143 (it:=λN=>Wu N) (λN=>(bF (TN N) bW)) eQ.b eQ.vo

def aka:=en [(143,Kh)] []
def ai0:Fn [.R, .R, .R, .I, .S] As:=λa b c d e=>[aV [.sh 9 a, .sh 9 b, .sh 59 c, .n d],aS e]
def amO:Fn [.B] dz:=λa=>⟨[aB a],[]⟩
def QA:=dR ai0 amO ry.c ry.v
theorem W9:FO 213 QA:=fr (E:=aka) (aL Pq bf) func213 ry.b ry.vo

def Yr:=en [(49,s5)] [(4,[1,2,3]),(9,[1,2,3,4])]
def aik:Fn [.R, .I] As:=λa b=>[aV [.sh 59 a, .n b]]
def al9:Fn [.B] dz:=λa=>⟨[aB a],[]⟩
def v_:Fn [.B, .I, .R, .I] Tb:=λa b c d=>[cP 2 0,cA 4 (.b a),cI 6 b,oB 1 [.sh 59 c, .n d]]
def wa:Fn [.B, .I, .I, .R, .I] Tb:=λa b c d e=>[cP 2 0,cA 4 (.b a),cI 6 b,cI 8 c,oB 1 [.sh 59 d, .n e]]
def MN(N:aE)(K:Kt R):=eW.l4 N (J v_ .ret K) (J v_ (.exit 0) K)
def MO(N:aE)(K:Kt R):=eW.l9 N (J wa .ret K) (J wa (.exit 2) K)
def OM(N:aE):It R:=(lp 4 (al v_ (λK=>MN N K N) an) (lp 9 (al wa (λK=>MO N K N) an) ln))
theorem TS(N:aE):cE Yr (OM N (R:=R)) (b_ f147 4):=lq 4 v_ (MN N) λK g=>eW.r4 N g (J v_ .ret K) (J v_ (.exit 0) K)
theorem TT(N:aE):cE Yr (OM N (R:=R)) (b_ f147 9):=lq 9 wa (MO N) λK g=>eW.r9 N g (J wa .ret K) (J wa (.exit 2) K)
def Ki:=dR aik al9 eW.c eW.v
theorem Ps:FO 147 Ki:=fq (E:=Yr) (aL tU bf) func147 (it:=λN=>OM N) (λN=>(bF (TS N) (bF (TT N) bW))) eW.b eW.vo

def aco:=en [(50,Ie),(143,Kh),(147,Ki)] [(3,[1,2,3,4])]
def aie:Fn [.R, .R, .R, .I] As:=λa b c d=>[aV [.sh 9 a, .sh 9 b, .sh 59 c, .n d]]
def al4:Fn [.B] dz:=λa=>⟨[aB a],[]⟩
def v8:Fn [.B, .I, .R, .R, .R, .I, .R] Tb:=λa b c d e f g=>[cP 2 0,cA 4 (.b a),cA 6 (.own 1),cI 8 b,oB 1 [.sh 9 c, .sh 9 d, .sh 59 e, .n f],oR 3 9 g]
def MI(N:aE)(K:Kt R):=iV.l3 N (J v8 .ret K) (J v8 (.exit 0) K)
def Wt(N:aE):It R:=(lp 3 (al v8 (λK=>MI N K N) an) ln)
theorem TM(N:aE):cE aco (Wt N (R:=R)) (b_ f142 3):=lq 3 v8 (MI N) λK g=>iV.r3 N g (J v8 .ret K) (J v8 (.exit 0) K)
def Qq:=dR aie al4 iV.c iV.v
theorem WZ:FO 142 Qq:=fq (E:=aco) (aL LG (aL Pq (aL Ps bf))) func142 (it:=λN=>Wt N) (λN=>(bF (TM N) bW)) iV.b iV.vo

def acm:=en [(141,Gj),(213,QA),(142,Qq)] [(2,[1,2,3])]
def aia:Fn [.I, .R, .R, .R, .R, .I, .R, .R, .I] As:=λa b c d e f g h i=>[aV [.n a, .sh 92 b, .sh 9 c, .sh 9 d, .sh 59 e, .n f, .sh 100 g, .sh 53 h, .n i]]
def al0:Fn [.B] dz:=λa=>⟨[aB a],[]⟩
def v5:Fn [.B, .I, .I, .R, .R, .R, .R, .I, .R, .R, .I] Tb:=λa b c d e f g h i j k=>[cP 2 0,cA 4 (.b a),cI 6 b,oB 1 [.n c, .sh 92 d, .sh 9 e, .sh 9 f, .sh 59 g, .n h, .sh 100 i, .sh 53 j, .n k]]
def MG(N:aE)(K:Kt R):=mC.l2 N (J v5 .ret K) (J v5 (.exit 0) K)
def Wr(N:aE):It R:=(lp 2 (al v5 (λK=>MG N K N) an) ln)
theorem TK(N:aE):cE acm (Wr N (R:=R)) (b_ f133 2):=lq 2 v5 (MG N) λK g=>mC.r2 N g (J v5 .ret K) (J v5 (.exit 0) K)
def Xr:=dR aia al0 mC.c mC.v
theorem aev:FO 133 Xr:=fq (E:=acm) (aL J0 (aL W9 (aL WZ bf))) func133 (it:=λN=>Wr N) (λN=>(bF (TK N) bW)) mC.b mC.vo

def acn:=en [(50,Ie),(49,s5)] [(5,[1,2,4,5,6])]
def aib:Fn [.I, .R, .R, .R, .R, .I, .R, .R, .I, .I] As:=λa b c d e f g h i j=>[aV [.n a, .sh 92 b, .sh 9 c, .sh 9 d, .sh 59 e, .n f, .sh 100 g, .sh 53 h, .n i],aI j]
def al1:Fn [.B] dz:=λa=>⟨[aB a],[]⟩
def v7:Fn [.I, .B, .I, .I, .R, .R, .R, .R, .I, .R, .R, .I, .S, .S, .I, .I, .I] Tb:=λa b c d e f g h i j k l m o p q r=>[cI 2 a,cP 4 0,cA 8 (.b b),cP 10 1,cI 12 c,oB 1 [.n d, .sh 92 e, .sh 9 f, .sh 9 g, .sh 59 h, .n i, .sh 100 j, .sh 53 k, .n l],oB 3 [.s m, .s o, .n p, .n q, .n r]]
def MH(N:aE)(K:Kt R):=nr.l5 N (J v7 .ret K) (J v7 (.exit 0) K)
def Ws(N:aE):It R:=(lp 5 (al v7 (λK=>MH N K N) an) ln)
theorem TL(N:aE):cE acn (Ws N (R:=R)) (b_ f134 5):=lq 5 v7 (MH N) λK g=>nr.r5 N g (J v7 .ret K) (J v7 (.exit 0) K)
def Xt:=dR aib al1 nr.c nr.v
theorem aew:FO 134 Xt:=fq (E:=acn) (aL LG (aL tU bf)) func134 (it:=λN=>Ws N) (λN=>(bF (TL N) bW)) nr.b nr.vo

def E43:=en [(49,s5),(133,Xr),(134,Xt),(50,Ie)] [(4,[1,2,3]),(9,[1,2,4])]
def A43:Fn [.I, .R, .R, .R, .R, .I, .R, .R, .I] As:=λa b c d e f g h i=>[aV [.n a, .sh 92 b, .sh 9 c, .sh 9 d, .sh 59 e, .n f, .sh 100 g, .sh 53 h, .n i]]
def k43:Fn [.B] dz:=λa=>⟨[aB a],[]⟩
def BX:Fn [.B, .I, .I, .R, .R, .R, .R, .I, .R, .R, .I] Tb:=λa b c d e f g h i j k=>[cP 2 0,cA 4 (.b a),cI 6 b,oB 1 [.n c, .sh 92 d, .sh 9 e, .sh 9 f, .sh 59 g, .n h, .sh 100 i, .sh 53 j, .n k]]
def BZ:Fn [.B, .I, .I, .R, .R, .R, .R, .I, .R, .R, .I] Tb:=λa b c d e f g h i j k=>[cP 2 0,cA 4 (.b a),cI 8 b,oB 1 [.n c, .sh 92 d, .sh 9 e, .sh 9 f, .sh 59 g, .n h, .sh 100 i, .sh 53 j, .n k]]
def Vz(N:aE)(K:Kt R):=s8.l4 N (J BX .ret K) (J BX (.exit 0) K)
def VA(N:aE)(K:Kt R):=s8.l9 N (J BZ .ret K) (J BZ (.exit 2) K)
def aae(N:aE):It R:=(lp 4 (al BX (λK=>Vz N K N) an) (lp 9 (al BZ (λK=>VA N K N) an) ln))
theorem aav(N:aE):cE E43 (aae N (R:=R)) (b_ f43 4):=lq 4 BX (Vz N) λK g=>s8.r4 N g (J BX .ret K) (J BX (.exit 0) K)
theorem aaw(N:aE):cE E43 (aae N (R:=R)) (b_ f43 9):=lq 9 BZ (VA N) λK g=>s8.r9 N g (J BZ .ret K) (J BZ (.exit 2) K)
def aa_:=dR A43 k43 s8.c s8.v
theorem aff:FO 43 aa_:=fq (E:=E43) (aL tU (aL aev (aL aew (aL LG bf)))) func43 (it:=λN=>aae N) (λN=>(bF (aav N) (bF (aaw N) bW))) s8.b s8.vo

def E51:=en [] [(2,[1,2,4,5,6])]
def A51:Fn [.I, .R, .R, .R, .R, .I, .R, .R, .I, .S] As:=λa b c d e f g h i j=>[aV [.n a, .sh 92 b, .sh 9 c, .sh 9 d, .sh 59 e, .n f, .sh 100 g, .sh 53 h, .n i],aS j]
def k51:Fn [.S, .I, .I, .S, .B] dz:=λa b c d e=>⟨[aV [.s a, .n b, .n c, .s d],aB e],[]⟩
def B0:Fn [.S, .B, .I, .I, .R, .R, .R, .R, .I, .R, .R, .I, .S, .I, .I, .S] Tb:=λa b c d e f g h i j k l m o p q=>[cA 2 (.s a),cP 4 0,cP 8 1,cA 10 (.b b),cI 12 c,oB 1 [.n d, .sh 92 e, .sh 9 f, .sh 9 g, .sh 59 h, .n i, .sh 100 j, .sh 53 k, .n l],oB 3 [.s m, .n o, .n p, .s q]]
def VB(N:aE)(K:Kt R):=I_.l2 N (J B0 .ret K) (J B0 (.exit 0) K)
def adZ(N:aE):It R:=(lp 2 (al B0 (λK=>VB N K N) an) ln)
theorem aax(N:aE):cE E51 (adZ N (R:=R)) (b_ f51 2):=lq 2 B0 (VB N) λK g=>I_.r2 N g (J B0 .ret K) (J B0 (.exit 0) K)
def agf:=dR A51 k51 I_.c I_.v
theorem an2:FO 51 agf:=fq (E:=E51) bf func51 (it:=λN=>adZ N) (λN=>(bF (aax N) bW)) I_.b I_.vo

def E52:=en [(141,Gj),(49,s5)] []
def A52:Fn [.S, .I, .I, .S, .I] As:=λa b c d e=>[aV [.s a, .n b, .n c, .s d],aI e]
def k52:Fn [.B] dz:=λa=>⟨[aB a],[]⟩
def UW:=dR A52 k52 (ct _) Gx.v
theorem aaN:FO 52 UW:=ft (E:=E52) (aL J0 (aL tU bf)) func52 Gx.b λ(a0,a1,a2,a3,a4,_)=>Gx.gu _ a0 a1 a2 a3 a4

def Yv:=en [] [(2,[0,1,5]),(6,[0,1,5,6])]
def ajn:Fn [.I, .S] As:=λa b=>[.v ak [.i .u32 a],aS b]
def anb:Fn [.I] dz:=λa=>⟨[.v ak [.i .u32 a]],[]⟩
def C7:Fn [.I, .S, .I] Tb:=λa b c=>[cA 0 (.i .u32 a),cA 2 (.s b),cI 10 c]
def C8:Fn [.I, .S, .I, .I] Tb:=λa b c d=>[cA 0 (.i .u32 a),cA 2 (.s b),cI 10 c,cI 12 d]
def M_(N:aE)(K:Kt R):=iW.l2 N (J C7 (.exit 0) K)
def Na(N:aE)(K:Kt R):=iW.l6 N (J C8 (.exit 2) K)
def OS(N:aE):It R:=(lp 2 (al C7 (λK=>M_ N K N) an) (lp 6 (al C8 (λK=>Na N K N) an) ln))
theorem Ud(N:aE):cE Yv (OS N (R:=R)) (b_ f250 2):=lq 2 C7 (M_ N) λK g=>iW.r2 N g (J C7 (.exit 0) K)
theorem Ue(N:aE):cE Yv (OS N (R:=R)) (b_ f250 6):=lq 6 C8 (Na N) λK g=>iW.r6 N g (J C8 (.exit 2) K)
def XX:=dR ajn anb iW.c iW.v
theorem ae3:FO 250 XX:=fq (E:=Yv) bf func250 (it:=λN=>OS N) (λN=>(bF (Ud N) (bF (Ue N) bW))) iW.b iW.vo

def akb:=en [(250,XX)] []
def ai1:Fn [.S] As:=λa=>[aS a]
def amP:Fn [.I] dz:=λa=>⟨[.v ak [.i .u32 a]],[]⟩
def QB:=dR ai1 amP tF.c tF.v
theorem W_:FO 215 QB:=fr (E:=akb) (aL ae3 bf) func215 tF.b tF.vo

def ajV:=en [(215,QB)] []
def ail:Fn [.I, .S] As:=λa b=>[aI a,aS b]
def al_:Fn [.I] dz:=λa=>⟨[aI a],[]⟩
def Qs:=dR ail al_ fU.c fU.v
theorem W3:FO 148 Qs:=fr (E:=ajV) (aL W_ bf) func148 fU.b fU.vo

def E57:=en [(146,Gk),(147,Ki),(148,Qs)] [(5,[1,4,5,6]),(14,[4,5,8]),(17,[4,5,8,9])]
def A57:Fn [.R, .I, .S] As:=λa b c=>[aV [.sh 59 a, .n b],aS c]
def k57:Fn [.R, .I] dz:=λa b=>⟨[aV [.ow 59 ai a, .n b]],[]⟩
def IZ:Fn [.S, .I, .I, .I, .R] Tb:=λa b c d e=>[cA 2 (.s a),cP 8 0,cP 10 1,cI 12 b,oB 1 [.nl, .n c],oB 3 [.own 2, .n d],oR 5 59 e]
def Df:Fn [.I, .I, .I, .R] Tb:=λa b c d=>[cP 8 0,cP 10 1,cI 16 a,oB 1 [.nl, .n b],oB 3 [.own 2, .n c],oR 5 59 d]
def Dg:Fn [.I, .I, .I, .I, .R] Tb:=λa b c d e=>[cP 8 0,cP 10 1,cI 16 a,cI 18 b,oB 1 [.nl, .n c],oB 3 [.own 2, .n d],oR 5 59 e]
def VF(N:aE)(K:Kt R):=fG.l5 N (J IZ (.exit 0) K)
def Nn(N:aE)(K:Kt R):=fG.l14 N (J Df (.exit 2) K)
def Np(N:aE)(K:Kt R):=fG.l17 N (J Dg (.exit 4) K)
def TB(N:aE):It R:=(lp 5 (al IZ (λK=>VF N K N) an) (lp 14 (al Df (λK=>Nn N K N) an) (lp 17 (al Dg (λK=>Np N K N) an) ln)))
theorem aaB(N:aE):cE E57 (TB N (R:=R)) (b_ f57 5):=lq 5 IZ (VF N) λK g=>fG.r5 N g (J IZ (.exit 0) K)
theorem Uq(N:aE):cE E57 (TB N (R:=R)) (b_ f57 14):=lq 14 Df (Nn N) λK g=>fG.r14 N g (J Df (.exit 2) K)
theorem Ur(N:aE):cE E57 (TB N (R:=R)) (b_ f57 17):=lq 17 Dg (Np N) λK g=>fG.r17 N g (J Dg (.exit 4) K)
def UY:=dR A57 k57 fG.c fG.v
theorem aaP:FO 57 UY:=fq (E:=E57) (aL J3 (aL Ps (aL W3 bf))) func57 (it:=λN=>TB N) (λN=>(bF (aaB N) (bF (Uq N) (bF (Ur N) bW)))) fG.b fG.vo

def acq:=en [] [(3,[0,1,5,6])]
def aih:Fn [.R, .S] As:=λa b=>[aH 9 a,aS b]
def al6:Fn [.R] dz:=λa=>⟨[aO 9 a],[]⟩
def CZ:Fn [.R, .S, .I, .R] Tb:=λa b c d=>[cH 0 9 a,cA 2 (.s b),cA 10 (.own 0),cI 12 c,oR 1 9 d]
def MK(N:aE)(K:Kt R):=nL.l3 N (J CZ (.exit 0) K)
def Wv(N:aE):It R:=(lp 3 (al CZ (λK=>MK N K N) an) ln)
theorem TP(N:aE):cE acq (Wv N (R:=R)) (b_ f144 3):=lq 3 CZ (MK N) λK g=>nL.r3 N g (J CZ (.exit 0) K)
def Qr:=dR aih al6 nL.c nL.v
theorem W2:FO 144 Qr:=fq (E:=acq) bf func144 (it:=λN=>Wv N) (λN=>(bF (TP N) bW)) nL.b nL.vo

def acr:=en [(147,Ki),(148,Qs)] [(5,[1,2,5,6])]
def aii:Fn [.R, .I, .S] As:=λa b c=>[aV [.sh 59 a, .n b],aS c]
def al7:Fn [.I] dz:=λa=>⟨[aI a],[]⟩
def C0:Fn [.S, .I, .I, .R, .I] Tb:=λa b c d e=>[cA 2 (.s a),cP 4 0,cI 10 b,cI 12 c,oB 1 [.sh 59 d, .n e]]
def ML(N:aE)(K:Kt R):=mD.l5 N (J C0 (.exit 0) K)
def Ww(N:aE):It R:=(lp 5 (al C0 (λK=>ML N K N) an) ln)
theorem TQ(N:aE):cE acr (Ww N (R:=R)) (b_ f145 5):=lq 5 C0 (ML N) λK g=>mD.r5 N g (J C0 (.exit 0) K)
def Xu:=dR aii al7 mD.c mD.v
theorem aex:FO 145 Xu:=fq (E:=acr) (aL Ps (aL W3 bf)) func145 (it:=λN=>Ww N) (λN=>(bF (TQ N) bW)) mD.b mD.vo

def E53:=en [(140,Kg),(142,Qq),(50,Ie),(57,UY),(143,Kh),(144,Qr),(145,Xu)] []
def A53:Fn [.R, .R, .R, .I, .S] As:=λa b c d e=>[aV [.sh 9 a, .sh 9 b, .sh 59 c, .n d],aS e]
def k53:Fn [.R, .R, .R, .I, .S] dz:=λa b c d e=>⟨[aV [.ow 9 ai a, .ow 9 ai b, .ow 59 ai c, .n d],aS e],[]⟩
def UX:=dR A53 k53 j7.c j7.v
theorem aaO:FO 53 UX:=fr (E:=E53) (aL Pp (aL WZ (aL LG (aL aaP (aL Pq (aL W2 (aL aex bf))))))) func53 j7.b j7.vo

def E54:=en [] [(3,[0,3,5,6]),(9,[0,3,5,7])]
def A54:Fn [.R, .I, .S, .I, .I, .I, .S, .I] As:=λa b c d e f g h=>[aH 53 a,aV [.n b, .s c, .n d, .n e, .n f, .s g, .n h]]
def k54:Fn [.R] dz:=λa=>⟨[aO 53 a],[]⟩
def IW:Fn [.R, .I, .I, .S, .I, .I, .I, .S, .I, .R] Tb:=λa b c d e f g h i j=>[cH 0 53 a,cP 6 0,cA 10 (.own 1),cI 12 b,oB 1 [.n c, .s d, .n e, .n f, .n g, .s h, .n i],oR 3 53 j]
def IX:Fn [.R, .I, .I, .S, .I, .I, .I, .S, .I, .R] Tb:=λa b c d e f g h i j=>[cH 0 53 a,cP 6 0,cA 10 (.own 1),cI 14 b,oB 1 [.n c, .s d, .n e, .n f, .n g, .s h, .n i],oR 3 53 j]
def VC(N:aE)(K:Kt R):=s9.l3 N (J IW (.exit 0) K)
def VD(N:aE)(K:Kt R):=s9.l9 N (J IX (.exit 2) K)
def aaf(N:aE):It R:=(lp 3 (al IW (λK=>VC N K N) an) (lp 9 (al IX (λK=>VD N K N) an) ln))
theorem aay(N:aE):cE E54 (aaf N (R:=R)) (b_ f54 3):=lq 3 IW (VC N) λK g=>s9.r3 N g (J IW (.exit 0) K)
theorem aaz(N:aE):cE E54 (aaf N (R:=R)) (b_ f54 9):=lq 9 IX (VD N) λK g=>s9.r9 N g (J IX (.exit 2) K)
def agh:=dR A54 k54 s9.c s9.v
theorem an3:FO 54 agh:=fq (E:=E54) bf func54 (it:=λN=>aaf N) (λN=>(bF (aay N) (bF (aaz N) bW))) s9.b s9.vo

def E55:=en [] [(3,[0,1,5,6])]
def A55:Fn [.R, .S] As:=λa b=>[aH 92 a,aS b]
def k55:Fn [.R] dz:=λa=>⟨[aO 92 a],[]⟩
def IY:Fn [.R, .S, .I, .R] Tb:=λa b c d=>[cH 0 92 a,cA 2 (.s b),cA 10 (.own 0),cI 12 c,oR 1 92 d]
def VE(N:aE)(K:Kt R):=Bm.l3 N (J IY (.exit 0) K)
def ad0(N:aE):It R:=(lp 3 (al IY (λK=>VE N K N) an) ln)
theorem aaA(N:aE):cE E55 (ad0 N (R:=R)) (b_ f55 3):=lq 3 IY (VE N) λK g=>Bm.r3 N g (J IY (.exit 0) K)
def aba:=dR A55 k55 Bm.c Bm.v
theorem afg:FO 55 aba:=fq (E:=E55) bf func55 (it:=λN=>ad0 N) (λN=>(bF (aaA N) bW)) Bm.b Bm.vo

def E56:=en [(144,Qr),(146,Gk)] []
def A56:Fn [.R, .R, .R, .I, .S] As:=λa b c d e=>[aV [.sh 9 a, .sh 9 b, .sh 59 c, .n d],aS e]
def k56:Fn [.R, .R, .R, .I] dz:=λa b c d=>⟨[aV [.ow 9 ai a, .ow 9 ai b, .ow 59 ai c, .n d]],[]⟩
def agi:=dR A56 k56 Gy.c Gy.v
theorem an4:FO 56 agi:=fr (E:=E56) (aL W2 (aL J3 bf)) func56 Gy.b Gy.vo

def E9:=en [(48,Gm),(43,aa_),(49,s5),(50,Ie),(51,agf),(52,UW),(53,UX),(54,agh),(55,aba),(56,agi),(57,UY)] [(5,[1,2,3,6,7,8,9]),(22,[2,3,6,8,10,12,13])]
def A9:Fn [.I, .R, .R, .R, .R, .I, .R, .R, .I, .I, .S] As:=λa b c d e f g h i j k=>[aV [.n a, .sh 92 b, .sh 9 c, .sh 9 d, .sh 59 e, .n f, .sh 100 g, .sh 53 h, .n i],aI j,aS k]
def k9:Fn [.I, .R, .R, .R, .R, .I, .R, .R, .I, .I] dz:=λa b c d e f g h i j=>⟨[aV [.n a, .ow 92 ai b, .ow 9 ai c, .ow 9 ai d, .ow 59 ai e, .n f, .ow 100 ai g, .ow 53 ai h, .n i],aI j],[]⟩
def R_:Fn [.I, .S, .I, .I, .I, .R, .R, .R, .R, .I, .R, .R, .I, .I, .I, .I, .I, .I, .I, .R, .R, .R, .R, .R, .R] Tb:=λa b c d e f g h i j k l m o p q r s t u v w x y z=>[cI 2 a,cA 4 (.s b),cP 6 0,cP 12 1,cI 14 c,cP 16 2,cI 18 d,oB 1 [.n e, .sh 92 f, .sh 9 g, .sh 9 h, .sh 59 i, .n j, .sh 100 k, .sh 53 l, .n m],oB 3 [.n o, .nl, .nl, .nl, .nl, .n p, .nl, .nl, .n q],oB 5 [.n r, .own 3, .own 4, .own 5, .own 6, .n s, .own 7, .own 8, .n t],oR 7 92 u,oR 9 9 v,oR 11 9 w,oR 13 59 x,oR 15 100 y,oR 17 53 z]
def NG:Fn [.I, .S, .I, .I, .I, .R, .R, .R, .R, .I, .R, .R, .I, .I, .I, .I, .I, .I, .I, .R, .R, .R, .R, .R, .R] Tb:=λa b c d e f g h i j k l m o p q r s t u v w x y z=>[cI 2 a,cA 4 (.s b),cP 6 0,cP 12 1,cI 14 c,cP 16 2,cI 18 d,oB 1 [.n e, .sh 92 f, .sh 9 g, .sh 9 h, .sh 59 i, .n j, .sh 100 k, .sh 53 l, .n m],oB 3 [.n o, .own 3, .own 4, .own 5, .own 6, .n p, .own 7, .own 8, .n q],oB 5 [.n r, .own 3, .own 4, .own 5, .own 6, .n s, .own 7, .own 8, .n t],oR 7 92 u,oR 9 9 v,oR 11 9 w,oR 13 59 x,oR 15 100 y,oR 17 53 z]
def I8:Fn [.S, .B, .I, .I, .R, .R, .R, .R, .I, .R, .R, .I, .I, .I, .I, .I, .I, .I, .I, .S, .I, .I, .I, .S, .I, .R, .R, .R, .R, .R, .R] Tb:=λa b c d e f g h i j k l m o p q r s t u v w x y z aa ab ac ad ae af=>[cA 4 (.s a),cP 6 0,cP 12 1,cP 16 2,cP 20 3,cA 24 (.b b),cI 26 c,oB 1 [.n d, .sh 92 e, .sh 9 f, .sh 9 g, .sh 59 h, .n i, .sh 100 j, .sh 53 k, .n l],oB 3 [.n m, .nl, .nl, .nl, .nl, .n o, .nl, .nl, .n p],oB 5 [.n q, .own 4, .own 5, .own 6, .own 7, .n r, .own 8, .own 9, .n s],oB 7 [.n t, .s u, .n v, .n w, .n x, .s y, .n z],oR 9 92 aa,oR 11 9 ab,oR 13 9 ac,oR 15 59 ad,oR 17 100 ae,oR 19 53 af]
def acU(N:aE)(K:Kt R):=U9.l5 N (J NG .ret K) (J R_ (.exit 0) K)
def VN(N:aE)(K:Kt R):=U9.TE N (J I8 (.exit 2) K)
def it9(N:aE):It R:=(lp 5 (al R_ (λK=>acU N K N) an) (lp 22 (al I8 (λK=>VN N K N) an) ln))
theorem aee(N:aE):cE E9 (it9 N (R:=R)) (b_ f9 5):=lq 5 R_ (acU N) λK g=>U9.r5 N g (J NG .ret K) (J R_ (.exit 0) K)
theorem aaJ(N:aE):cE E9 (it9 N (R:=R)) (b_ f9 22):=lq 22 I8 (VN N) λK g=>U9.r22 N g (J I8 (.exit 2) K)
def sp9:=dR A9 k9 U9.c U9.v
theorem ok9:FO 9 sp9:=fq (E:=E9) (aL HR (aL aff (aL tU (aL LG (aL an2 (aL aaN (aL aaO (aL an3 (aL afg (aL an4 (aL aaP bf))))))))))) func9 (it:=λN=>it9 N) (λN=>(bF (aee N) (bF (aaJ N) bW))) U9.b U9.vo

def ajQ:=en [(43,aa_),(49,s5)] []
def ah7:Fn [.I, .R, .R, .R, .R, .I, .R, .R, .I, .I] As:=λa b c d e f g h i j=>[aV [.n a, .sh 92 b, .sh 9 c, .sh 9 d, .sh 59 e, .n f, .sh 100 g, .sh 53 h, .n i],aI j]
def alW:Fn [.B] dz:=λa=>⟨[aB a],[]⟩
def Ke:=dR ah7 alW sR.c sR.v
theorem Pn:FO 129 Ke:=fr (E:=ajQ) (aL aff (aL tU bf)) func129 sR.b sR.vo

def aj_:=en [] []
def aiY:Fn [.I, .S, .R] As:=λa b c=>[aV [.n a, .s b, .sh 231 c]]
def amM:Fn [.I, .S, .R] dz:=λa b c=>⟨[aV [.n a, .s b, .ow 231 ai c]],[]⟩
def XL:=dR aiY amM G1.c G1.v
theorem aeQ:FO 211 XL:=fh (E:=aj_) bf func211 (it:=λ_=>ln) (λ_=>bW) (λ_=>G1.b) λx f h=>⟨0,G1.gu _ x.1 x.2.1 x.2.2.1 h⟩

def acA:=en [(49,s5)] [(2,[1,2,3])]
def aiZ:Fn [.I, .S, .R] As:=λa b c=>[aV [.n a, .s b, .sh 231 c]]
def amN:Fn [.B] dz:=λa=>⟨[aB a],[]⟩
def wk:Fn [.B, .I, .I, .S, .R] Tb:=λa b c d e=>[cP 2 0,cA 4 (.b a),cI 6 b,oB 1 [.n c, .s d, .sh 231 e]]
def M3(N:aE)(K:Kt R):=qO.l2 N (J wk .ret K) (J wk (.exit 0) K)
def WE(N:aE):It R:=(lp 2 (al wk (λK=>M3 N K N) an) ln)
theorem T7(N:aE):cE acA (WE N (R:=R)) (b_ f212 2):=lq 2 wk (M3 N) λK g=>qO.r2 N g (J wk .ret K) (J wk (.exit 0) K)
def XM:=dR aiZ amN (ct _) qO.v
theorem aeR:FO 212 XM:=fh (E:=acA) (aL tU bf) func212 (it:=λN=>WE N) (λN=>(bF (T7 N) bW)) qO.b λx f h=>qO.gu _ x.1 x.2.1 x.2.2.1 f.1.2.1 f.1.2.2.1

def ajR:=en [(211,XL),(212,XM),(49,s5)] []
def ah8:Fn [.I, .S, .R, .S] As:=λa b c d=>[aV [.n a, .s b, .sh 231 c],aS d]
def alX:Fn [.I, .S, .R, .B] dz:=λa b c d=>⟨[aV [.n a, .s b, .ow 231 ai c],aB d],[]⟩
def Xq:=dR ah8 alX Dh.c Dh.v
theorem aeu:FO 130 Xq:=fh (E:=ajR) (aL aeQ (aL aeR (aL tU bf))) func130 (it:=λ_=>ln) (λ_=>bW) (λ_=>Dh.b) λx f h=>⟨0,Dh.gu _ x.1 x.2.1 x.2.2.1 x.2.2.2.1 h f.1.2.1 f.1.2.2.1 f.2.1.1⟩

def ack:=en [] [(1,[0,1,2,6])]
def ah9:Fn [.I, .R, .R, .R, .R, .I, .R, .R, .I, .I, .I] As:=λa b c d e f g h i j k=>[.pt [.n a, .ow 92 ai b, .ow 9 ai c, .ow 9 ai d, .ow 59 ai e, .n f, .ow 100 ai g, .ow 53 ai h, .n i],aI j,aI k]
def alY:Fn [.I, .R, .R, .R, .R, .I, .R, .R, .I] dz:=λa b c d e f g h i=>⟨[],[[.n a, .kp b, .kp c, .kp d, .kp e, .n f, .kp g, .kp h, .n i]]⟩
def CY:Fn [.I, .I, .I, .I, .I, .I, .R, .R, .R, .R, .R, .R] Tb:=λa b c d e f g h i j k l=>[cP 0 900000900,cI 2 a,cI 4 b,cI 12 c,oB 1800001801 [.n d, .own 900000001, .own 900000002, .own 900000003, .own 900000004, .n e, .own 900000006, .own 900000007, .n f],oR 1800000003 92 g,oR 1800000005 9 h,oR 1800000007 9 i,oR 1800000009 59 j,oR 1800000013 100 k,oR 1800000015 53 l]
def MF(N:aE)(K:Kt R):=qL.l1 N (J CY (.exit 0) K)
def Wq(N:aE):It R:=(lp 1 (al CY (λK=>MF N K N) an) ln)
theorem TJ(N:aE):cE ack (Wq N (R:=R)) (b_ f131 1):=lq 1 CY (MF N) λK g=>qL.r1 N g (J CY (.exit 0) K)
def Kf:=dR ah9 alY qL.c qL.v
theorem Po:FO 131 Kf:=fq (E:=ack) bf func131 (it:=λN=>Wq N) (λN=>(bF (TJ N) bW)) qL.b qL.vo

def E38:=en [(48,Gm),(129,Ke),(130,Xq),(131,Kf)] []
def A38:Fn [.I, .R, .R, .R, .R, .I, .R, .R, .I, .I, .S] As:=λa b c d e f g h i j k=>[aV [.n a, .sh 92 b, .sh 9 c, .sh 9 d, .sh 59 e, .n f, .sh 100 g, .sh 53 h, .n i],aI j,aS k]
def k38:Fn [.I, .R, .R, .R, .R, .I, .R, .R, .I, .B] dz:=λa b c d e f g h i j=>⟨[aV [.n a, .ow 92 ai b, .ow 9 ai c, .ow 9 ai d, .ow 59 ai e, .n f, .ow 100 ai g, .ow 53 ai h, .n i],aB j],[]⟩
def agb:=dR A38 k38 Ro.c Ro.v
theorem anZ:FO 38 agb:=fr (E:=E38) (aL HR (aL Pn (aL aeu (aL Po bf)))) func38 Ro.b Ro.vo

def Yt:=en [] [(3,[0,3,5,6]),(9,[0,3,5,7])]
def aiR:Fn [.R, .S, .I, .I, .S] As:=λa b c d e=>[aH 92 a,aV [.s b, .n c, .n d, .s e]]
def amF:Fn [.R] dz:=λa=>⟨[aO 92 a],[]⟩
def C3:Fn [.R, .I, .S, .I, .I, .S, .R] Tb:=λa b c d e f g=>[cH 0 92 a,cP 6 0,cA 10 (.own 1),cI 12 b,oB 1 [.s c, .n d, .n e, .s f],oR 3 92 g]
def C4:Fn [.R, .I, .S, .I, .I, .S, .R] Tb:=λa b c d e f g=>[cH 0 92 a,cP 6 0,cA 10 (.own 1),cI 14 b,oB 1 [.s c, .n d, .n e, .s f],oR 3 92 g]
def M0(N:aE)(K:Kt R):=e8.l3 N (J C3 (.exit 0) K)
def M1(N:aE)(K:Kt R):=e8.l9 N (J C4 (.exit 2) K)
def OQ(N:aE):It R:=(lp 3 (al C3 (λK=>M0 N K N) an) (lp 9 (al C4 (λK=>M1 N K N) an) ln))
theorem T5(N:aE):cE Yt (OQ N (R:=R)) (b_ f198 3):=lq 3 C3 (M0 N) λK g=>e8.r3 N g (J C3 (.exit 0) K)
theorem T6(N:aE):cE Yt (OQ N (R:=R)) (b_ f198 9):=lq 9 C4 (M1 N) λK g=>e8.r9 N g (J C4 (.exit 2) K)
def Qy:=dR aiR amF e8.c e8.v
theorem W7:FO 198 Qy:=fq (E:=Yt) bf func198 (it:=λN=>OQ N) (λN=>(bF (T5 N) (bF (T6 N) bW))) e8.b e8.vo

def ajS:=Us T md [(53,UX),(55,aba),(213,QA),(198,Qy)] [] [] [(0,1, .own 92),(0,2, .own 9),(0,3, .own 9),(0,4, .own 59)]
def ah_:Fn [.I, .R, .R, .R, .R, .I, .R, .R, .I, .S, .I, .I, .S] As:=λa b c d e f g h i j k l m=>[.pt [.n a, .ow 92 ai b, .ow 9 ai c, .ow 9 ai d, .ow 59 ai e, .n f, .ow 100 ai g, .ow 53 ai h, .n i],aV [.s j, .n k, .n l, .s m]]
def alZ:Fn [.I, .R, .R, .R, .R, .I, .R, .R, .I] dz:=λa b c d e f g h i=>⟨[],[[.n a, .ow 92 ai b, .ow 9 ai c, .ow 9 ai d, .ow 59 ai e, .n f, .kp g, .kp h, .n i]]⟩
def Qp:=dR ah_ alZ wx.c wx.v
theorem WY:FO 132 Qp:=fr (E:=ajS) (aL aaO (aL afg (aL W9 (aL W7 bf)))) func132 wx.b wx.vo

def E40:=en [(48,Gm),(129,Ke),(49,s5),(131,Kf),(132,Qp)] []
def A40:Fn [.I, .R, .R, .R, .R, .I, .R, .R, .I, .I, .I] As:=λa b c d e f g h i j k=>[aV [.n a, .sh 92 b, .sh 9 c, .sh 9 d, .sh 59 e, .n f, .sh 100 g, .sh 53 h, .n i],aI j,aI k]
def k40:Fn [.I, .R, .R, .R, .R, .I, .R, .R, .I, .B] dz:=λa b c d e f g h i j=>⟨[aV [.n a, .ow 92 ai b, .ow 9 ai c, .ow 9 ai d, .ow 59 ai e, .n f, .ow 100 ai g, .ow 53 ai h, .n i],aB j],[]⟩
def agc:=dR A40 k40 Rp.c Rp.v
theorem an0:FO 40 agc:=fr (E:=E40) (aL HR (aL Pn (aL tU (aL Po (aL WY bf))))) func40 Rp.b Rp.vo

def acH:=en [] [(2,[0,3])]
def ajw:Fn [.I] As:=λa=>[aI a]
def anl:Fn [.S] dz:=λa=>⟨[aS a],[]⟩
def C_:Fn [.I, .R] Tb:=λa b=>[cI 0 a,cA 6 (.own 0),oR 1 5 b]
def Nf(N:aE)(K:Kt R):=jy.l2 N (J C_ (.exit 0) K)
def WM(N:aE):It R:=(lp 2 (al C_ (λK=>Nf N K N) an) ln)
theorem Ui(N:aE):cE acH (WM N (R:=R)) (b_ f264 2):=lq 2 C_ (Nf N) λK g=>jy.r2 N g (J C_ (.exit 0) K)
def Kr:=dR ajw anl jy.c jy.v
theorem Pz:FO 264 Kr:=fh (E:=acH) bf func264 (it:=λN=>WM N) (λN=>(bF (Ui N) bW)) jy.b λx f h=>jy.gu _ x.1 h

def akl:=en [(141,Gj),(264,Kr)] []
def aji:Fn [.S, .I, .I, .S] As:=λa b c d=>[aV [.s a, .n b, .n c, .s d]]
def am7:Fn [.S, .B] dz:=λa b=>⟨[aS a,aB b],[]⟩
def Kq:=dR aji am7 (ct _) jo.v
theorem Py:FO 241 Kq:=fh (E:=akl) (aL J0 (aL Pz bf)) func241 (it:=λ_=>ln) (λ_=>bW) (λ_=>jo.b) λx f h=>⟨0,jo.gu _ x.1 x.2.1 x.2.2.1 x.2.2.2.1⟩

def akp:=en [] []
def ajx:Fn [.I] As:=λa=>[.v ak [.i .u32 a]]
def anm:Fn [.S] dz:=λa=>⟨[aS a],[]⟩
def X2:=dR ajx anm (ct _) oa.v
theorem ae8:FO 265 X2:=ft (E:=akp) bf func265 oa.b λ(a0,_)=>oa.gu _ a0

def akj:=en [(49,s5),(264,Kr),(215,QB),(265,X2)] []
def ajg:Fn [.S] As:=λa=>[aS a]
def am5:Fn [.S, .B] dz:=λa b=>⟨[aS a,aB b],[]⟩
def Kp:=dR ajg am5 fg.c fg.v
theorem Pw:FO 239 Kp:=fr (E:=akj) (aL tU (aL Pz (aL W_ (aL ae8 bf)))) func239 fg.b fg.vo

def akq:=en [(241,Kq),(239,Kp)] []
def ajz:Fn [.S, .I, .I, .S] As:=λa b c d=>[aV [.s a, .n b, .n c, .s d]]
def ano:Fn [.R, .B] dz:=λa b=>⟨[aO 268 a,aB b],[]⟩
def X3:=dR ajz ano Bl.c Bl.v
theorem ae9:FO 270 X3:=fr (E:=akq) (aL Py (aL Pw bf)) func270 Bl.b Bl.vo

def aki:=en [(49,s5)] []
def ajd:Fn [.S] As:=λa=>[aS a]
def am2:Fn [.B] dz:=λa=>⟨[aB a],[]⟩
def QE:=dR ajd am2 (ct _) tH.v
theorem Xb:FO 236 QE:=ft (E:=aki) (aL tU bf) func236 tH.b λ(a0,_)=>tH.gu _ a0

def acy:=en [(236,QE),(49,s5)] [(4,[1,2,3])]
def aiN:Fn [.R] As:=λa=>[aV [.sh 236 a]]
def amB:Fn [.B] dz:=λa=>⟨[aB a],[]⟩
def wj:Fn [.B, .I, .R] Tb:=λa b c=>[cP 2 0,cA 4 (.b a),cI 6 b,oB 1 [.sh 236 c]]
def MY(N:aE)(K:Kt R):=eS.l4 N (J wj .ret K) (J wj (.exit 0) K)
def WC(N:aE):It R:=(lp 4 (al wj (λK=>MY N K N) an) ln)
theorem T3(N:aE):cE acy (WC N (R:=R)) (b_ f194 4):=lq 4 wj (MY N) λK g=>eS.r4 N g (J wj .ret K) (J wj (.exit 0) K)
def Gl:=dR aiN amB eS.c eS.v
theorem J4:FO 194 Gl:=fq (E:=acy) (aL Xb (aL tU bf)) func194 (it:=λN=>WC N) (λN=>(bF (T3 N) bW)) eS.b eS.vo

def acE:=en [] [(2,[1,2,4,5])]
def aje:Fn [.R, .S] As:=λa b=>[aV [.sh 236 a],aS b]
def am3:Fn [.I] dz:=λa=>⟨[aI a],[]⟩
def wu:Fn [.S, .I, .I, .R] Tb:=λa b c d=>[cA 2 (.s a),cP 4 0,cI 8 b,cI 10 c,oB 1 [.sh 236 d]]
def M8(N:aE)(K:Kt R):=jx.l2 N (J wu .ret K) (J wu (.exit 0) K)
def WJ(N:aE):It R:=(lp 2 (al wu (λK=>M8 N K N) an) ln)
theorem Ub(N:aE):cE acE (WJ N (R:=R)) (b_ f237 2):=lq 2 wu (M8 N) λK g=>jx.r2 N g (J wu .ret K) (J wu (.exit 0) K)
def QF:=dR aje am3 jx.c jx.v
theorem Xc:FO 237 QF:=fq (E:=acE) bf func237 (it:=λN=>WJ N) (λN=>(bF (Ub N) bW)) jx.b jx.vo

def MA:=en [] [(3,[2,3,4,5,6]),(9,[2,3,4,5,7])]
def ajF:Fn [.R, .S, .S, .I] As:=λa b c d=>[aV [.sh 236 a],aV [.s b, .s c, .n d]]
def anv:Fn [.R] dz:=λa=>⟨[aV [.ow 236 ai a]],[]⟩
def pZ:Fn [.I, .R, .S, .S, .I] Tb:=λa b c d e=>[cP 4 0,cP 6 1,cP 8 2,cP 10 3,cI 12 a,oB 1 [.sh 236 b],oB 3 [.s c, .s d, .n e],oB 5 [.nl],oB 7 [.nl]]
def np:Fn [.I, .R, .S, .S, .I, .R] Tb:=λa b c d e f=>[cP 4 0,cP 6 1,cP 8 2,cP 10 3,cI 12 a,oB 1 [.sh 236 b],oB 3 [.s c, .s d, .n e],oB 5 [.nl],oB 7 [.own 4],oR 9 236 f]
def De:Fn [.I, .R, .S, .S, .I, .R] Tb:=λa b c d e f=>[cP 4 0,cP 6 1,cP 8 2,cP 10 3,cI 14 a,oB 1 [.sh 236 b],oB 3 [.s c, .s d, .n e],oB 5 [.nl],oB 7 [.own 4],oR 9 236 f]
def Nk(N:aE)(K:Kt R):=jU.l3 N (J pZ (.exit 0) K) (J np (.exit 0) K)
def IM(N:aE)(K:Kt R):=jU.qP N (J pZ (.exit 0) K) (J np (.exit 0) K)
def Nl(N:aE)(K:Kt R):=jU.l9 N (J De (.exit 2) K)
def FF(N:aE):It R:=(lp 3 (al pZ (λK=>Nk N K N) (al np (λK=>IM N K N) an)) (lp 9 (al De (λK=>Nl N K N) an) ln))
theorem KA(N:aE)(K:Kt R):Wd MA (FF N) (b_ f278 3) 3 K np (IM N K):=lw (λg=>jU.wM N (cmp _ pZ (g∘eO)) (cmp _ np (g∘eO)) (J pZ (.exit 0) K) (J np (.exit 0) K)) λm i=>by simp only[dx,wf i];rfl
theorem abn(N:aE)(K:Kt R):Wd MA (FF N) (b_ f278 3) 3 K pZ (Nk N K):=lw (λg=>jU.r3 N (cmp _ pZ (g∘eO)) (cmp _ np (g∘eO)) (J pZ (.exit 0) K) (J np (.exit 0) K)) λm i=>by simp only[dx,wf i,wf (KA N K m)];rfl
theorem Un(N:aE):cE MA (FF N (R:=R)) (b_ f278 3):=lm 3 (ga pZ (abn N) (ga np (KA N) nt))
theorem Uo(N:aE):cE MA (FF N (R:=R)) (b_ f278 9):=lq 9 De (Nl N) λK g=>jU.r9 N g (J De (.exit 2) K)
def X8:=dR ajF anv jU.c jU.v
theorem afd:FO 278 X8:=fq (E:=MA) bf func278 (it:=λN=>FF N) (λN=>(bF (Un N) (bF (Uo N) bW))) jU.b jU.vo

def RW:=en [] [(3,[1,2,4,5,6])]
def ajG:Fn [.R, .S] As:=λa b=>[aV [.sh 236 a],aS b]
def anw:Fn [.R] dz:=λa=>⟨[aV [.ow 236 ai a]],[]⟩
def p8:Fn [.S, .I, .R] Tb:=λa b c=>[cA 2 (.s a),cP 4 0,cP 8 1,cP 10 2,cI 12 b,oB 1 [.sh 236 c],oB 3 [.nl],oB 5 [.nl]]
def nq:Fn [.S, .I, .R, .R] Tb:=λa b c d=>[cA 2 (.s a),cP 4 0,cP 8 1,cP 10 2,cI 12 b,oB 1 [.sh 236 c],oB 3 [.nl],oB 5 [.own 3],oR 7 236 d]
def Nm(N:aE)(K:Kt R):=lu.l3 N (J p8 (.exit 0) K) (J nq (.exit 0) K)
def IP(N:aE)(K:Kt R):=lu.qP N (J p8 (.exit 0) K) (J nq (.exit 0) K)
def JQ(N:aE):It R:=(lp 3 (al p8 (λK=>Nm N K N) (al nq (λK=>IP N K N) an)) ln)
theorem KB(N:aE)(K:Kt R):Wd RW (JQ N) (b_ f279 3) 3 K nq (IP N K):=lw (λg=>lu.wM N (cmp _ p8 (g∘eO)) (cmp _ nq (g∘eO)) (J p8 (.exit 0) K) (J nq (.exit 0) K)) λm i=>by simp only[dx,wf i];rfl
theorem abo(N:aE)(K:Kt R):Wd RW (JQ N) (b_ f279 3) 3 K p8 (Nm N K):=lw (λg=>lu.r3 N (cmp _ p8 (g∘eO)) (cmp _ nq (g∘eO)) (J p8 (.exit 0) K) (J nq (.exit 0) K)) λm i=>by simp only[dx,wf i,wf (KB N K m)];rfl
theorem Up(N:aE):cE RW (JQ N (R:=R)) (b_ f279 3):=lm 3 (ga p8 (abo N) (ga nq (KB N) nt))
def X9:=dR ajG anw lu.c lu.v
theorem afe:FO 279 X9:=fq (E:=RW) bf func279 (it:=λN=>JQ N) (λN=>(bF (Up N) bW)) lu.b lu.vo

def akr:=en [(194,Gl),(236,QE),(237,QF),(278,X8),(279,X9)] []
def ajE:Fn [.R, .I, .S, .S, .S] As:=λa b c d e=>[aV [.sh 236 a],aV [.n b, .s c, .s d, .s e]]
def anu:Fn [.R, .B] dz:=λa b=>⟨[aV [.ow 236 ai a],aB b],[]⟩
def X7:=dR ajE anu zu.c zu.v
theorem afc:FO 276 X7:=fr (E:=akr) (aL J4 (aL Xb (aL Xc (aL afd (aL afe bf))))) func276 zu.b zu.vo

def acI:=en [(276,X7)] [(3,[1,4,5,6,7])]
def ajA:Fn [.R, .R] As:=λa b=>[aV [.sh 236 a],aH 268 b]
def anp:Fn [.R, .I] dz:=λa b=>⟨[aV [.ow 236 ai a],aI b],[]⟩
def Db:Fn [.R, .I, .I, .R] Tb:=λa b c d=>[cH 2 268 a,cP 8 0,cI 10 b,cP 12 1,cI 14 c,oB 1 [.nl],oB 3 [.own 2],oR 5 236 d]
def EN:Fn [.R, .I, .I, .R] Tb:=λa b c d=>[cH 2 268 a,cP 8 0,cI 10 b,cP 12 1,cI 14 c,oB 1 [.own 2],oB 3 [.own 2],oR 5 236 d]
def Ng(N:aE)(K:Kt R):=oK.l3 N (J EN .ret K) (J Db (.exit 0) K)
def WN(N:aE):It R:=(lp 3 (al Db (λK=>Ng N K N) an) ln)
theorem Uj(N:aE):cE acI (WN N (R:=R)) (b_ f271 3):=lq 3 Db (Ng N) λK g=>oK.r3 N g (J EN .ret K) (J Db (.exit 0) K)
def QJ:=dR ajA anp oK.c oK.v
theorem Xf:FO 271 QJ:=fq (E:=acI) (aL afc bf) func271 (it:=λN=>WN N) (λN=>(bF (Uj N) bW)) oK.b oK.vo

def akn:=en [] []
def aju:Fn [.B] As:=λa=>[aB a]
def anj:Fn [.I] dz:=λa=>⟨[aI a],[]⟩
def QI:=dR aju anj (ct _) yr.v
theorem Xe:FO 260 QI:=ft (E:=akn) bf func260 yr.b λ(a0,_)=>yr.gu _ a0

def akm:=Us T md [(40,agc),(270,X3),(271,QJ),(260,QI)] [] [] [(0,1, .own 92),(0,2, .own 9),(0,3, .own 9),(0,4, .own 59),(0,6, .own 100),(0,7, .own 53),(0,9, .own 236),(0,10, .own 3),(0,11, .own 92)]
def ajs:Fn [.I, .R, .R, .R, .R, .I, .R, .R, .I, .R, .R, .R, .I, .I, .S, .I, .R] As:=λa b c d e f g h i j k l m o p q r=>[.pt [.n a, .ow 92 ai b, .ow 9 ai c, .ow 9 ai d, .ow 59 ai e, .n f, .ow 100 ai g, .ow 53 ai h, .n i, .ow 236 ai j, .ow 3 ai k, .ow 92 ai l],aV [.n m, .n o, .s p, .n q, .sh 3 r]]
def anh:Fn [.I, .I, .R, .R, .R, .R, .I, .R, .R, .I, .R, .R, .R] dz:=λa b c d e f g h i j k l m=>⟨[aI a],[[.n b, .ow 92 ai c, .ow 9 ai d, .ow 9 ai e, .ow 59 ai f, .n g, .ow 100 ai h, .ow 53 ai i, .n j, .ow 236 ai k, .ow 3 ai l, .ow 92 ai m]]⟩
def XZ:=dR ajs anh Bj.c Bj.v
theorem ae5:FO 258 XZ:=fr (E:=akm) (aL an0 (aL ae9 (aL Xf (aL Xe bf)))) func258 Bj.b Bj.vo

def E42:=en [(48,Gm),(129,Ke),(131,Kf)] []
def A42:Fn [.I, .R, .R, .R, .R, .I, .R, .R, .I, .I] As:=λa b c d e f g h i j=>[aV [.n a, .sh 92 b, .sh 9 c, .sh 9 d, .sh 59 e, .n f, .sh 100 g, .sh 53 h, .n i],aI j]
def k42:Fn [.I, .R, .R, .R, .R, .I, .R, .R, .I, .B] dz:=λa b c d e f g h i j=>⟨[aV [.n a, .ow 92 ai b, .ow 9 ai c, .ow 9 ai d, .ow 59 ai e, .n f, .ow 100 ai g, .ow 53 ai h, .n i],aB j],[]⟩
def agd:=dR A42 k42 Rq.c Rq.v
theorem an1:FO 42 agd:=fr (E:=E42) (aL HR (aL Pn (aL Po bf))) func42 Rq.b Rq.vo

def E23:=en [(48,Gm)] []
def A23:Fn [.I, .R, .R, .R, .R, .I, .R, .R, .I, .I] As:=λa b c d e f g h i j=>[aV [.n a, .sh 92 b, .sh 9 c, .sh 9 d, .sh 59 e, .n f, .sh 100 g, .sh 53 h, .n i],aI j]
def k23:Fn [.I, .R, .R, .R, .R, .I, .R, .R, .I] dz:=λa b c d e f g h i=>⟨[aV [.n a, .ow 92 ai b, .ow 9 ai c, .ow 9 ai d, .ow 59 ai e, .n f, .ow 100 ai g, .ow 53 ai h, .n i]],[]⟩
def aa6:=dR A23 k23 wA.c wA.v
theorem aeX:FO 23 aa6:=fr (E:=E23) (aL HR bf) func23 wA.b wA.vo

def E24:=en [(48,Gm)] [(4,[1,2,4,5,6])]
def A24:Fn [.I, .R, .R, .R, .R, .I, .R, .R, .I, .I] As:=λa b c d e f g h i j=>[aV [.n a, .sh 92 b, .sh 9 c, .sh 9 d, .sh 59 e, .n f, .sh 100 g, .sh 53 h, .n i],aI j]
def k24:Fn [.I, .R, .R, .R, .R, .I, .R, .R, .I] dz:=λa b c d e f g h i=>⟨[aV [.n a, .ow 92 ai b, .ow 9 ai c, .ow 9 ai d, .ow 59 ai e, .n f, .ow 100 ai g, .ow 53 ai h, .n i]],[]⟩
def IV:Fn [.I, .I, .I, .R, .R, .R, .R, .I, .R, .R, .I, .I, .I, .I, .I, .I, .I, .R, .R, .R, .R, .R, .R] Tb:=λa b c d e f g h i j k l m o p q r s t u v w x=>[cI 2 a,cP 4 0,cP 8 1,cP 10 2,cI 12 b,oB 1 [.n c, .sh 92 d, .sh 9 e, .sh 9 f, .sh 59 g, .n h, .sh 100 i, .sh 53 j, .n k],oB 3 [.n l, .nl, .nl, .nl, .nl, .n m, .nl, .nl, .n o],oB 5 [.n p, .own 3, .own 4, .own 5, .own 6, .n q, .own 7, .own 8, .n r],oR 7 92 s,oR 9 9 t,oR 11 9 u,oR 13 59 v,oR 15 100 w,oR 17 53 x]
def Vy(N:aE)(K:Kt R):=B5.l4 N (J IV (.exit 0) K)
def adY(N:aE):It R:=(lp 4 (al IV (λK=>Vy N K N) an) ln)
theorem aau(N:aE):cE E24 (adY N (R:=R)) (b_ f24 4):=lq 4 IV (Vy N) λK g=>B5.r4 N g (J IV (.exit 0) K)
def aa7:=dR A24 k24 B5.c B5.v
theorem ae1:FO 24 aa7:=fq (E:=E24) (aL HR bf) func24 (it:=λN=>adY N) (λN=>(bF (aau N) bW)) B5.b B5.vo

def RV:=en [(194,Gl)] [(5,[1,2,4,6,7])]
def ajB:Fn [.R, .R] As:=λa b=>[aV [.sh 236 a],aH 3 b]
def anq:Fn [.R, .B] dz:=λa b=>⟨[aV [.ow 236 ai a],aB b],[]⟩
def pY:Fn [.R, .I, .R] Tb:=λa b c=>[cH 2 3 a,cP 4 0,cP 8 1,cP 12 2,cI 14 b,oB 1 [.sh 236 c],oB 3 [.nl],oB 5 [.nl]]
def nk:Fn [.R, .I, .R, .R] Tb:=λa b c d=>[cH 2 3 a,cP 4 0,cP 8 1,cP 12 2,cI 14 b,oB 1 [.sh 236 c],oB 3 [.nl],oB 5 [.own 3],oR 7 236 d]
def Nh(N:aE)(K:Kt R):=uD.l5 N (J pY (.exit 0) K) (J nk (.exit 0) K)
def IL(N:aE)(K:Kt R):=uD.l5a N (J pY (.exit 0) K) (J nk (.exit 0) K)
def JP(N:aE):It R:=(lp 5 (al pY (λK=>Nh N K N) (al nk (λK=>IL N K N) an)) ln)
theorem Kz(N:aE)(K:Kt R):Wd RV (JP N) (b_ f272 5) 5 K nk (IL N K):=lw (λg=>uD.r5a N (cmp _ pY (g∘eO)) (cmp _ nk (g∘eO)) (J pY (.exit 0) K) (J nk (.exit 0) K)) λm i=>by simp only[dx,wf i];rfl
theorem abm(N:aE)(K:Kt R):Wd RV (JP N) (b_ f272 5) 5 K pY (Nh N K):=lw (λg=>uD.r5 N (cmp _ pY (g∘eO)) (cmp _ nk (g∘eO)) (J pY (.exit 0) K) (J nk (.exit 0) K)) λm i=>by simp only[dx,wf i,wf (Kz N K m)];rfl
theorem Uk(N:aE):cE RV (JP N (R:=R)) (b_ f272 5):=lm 5 (ga pY (abm N) (ga nk (Kz N) nt))
def X4:=dR ajB anq uD.c uD.v
theorem ae_:FO 272 X4:=fq (E:=RV) (aL J4 bf) func272 (it:=λN=>JP N) (λN=>(bF (Uk N) bW)) uD.b uD.vo

def aj7:=en [(237,QF)] []
def aiO:Fn [.R, .S] As:=λa b=>[aV [.sh 236 a],aS b]
def amC:Fn [.S, .B] dz:=λa b=>⟨[aS a,aB b],[]⟩
def Qx:=dR aiO amC mb.c mb.v
theorem W6:FO 195 Qx:=fr (E:=aj7) (aL Xc bf) func195 mb.b mb.vo

def acF:=en [(49,s5),(264,Kr)] [(6,[0,1,4,5,6,7,8,9])]
def ajf:Fn [.S, .I] As:=λa b=>[aS a,aI b]
def am4:Fn [.I, .I, .B] dz:=λa b c=>⟨[aI a,aI b,aB c],[]⟩
def wv:Fn [.S, .I, .I, .I, .B, .I, .I, .I] Tb:=λa b c d e f g h=>[cA 0 (.s a),cI 2 b,cI 8 c,cI 10 d,cA 12 (.b e),cI 14 f,cI 16 g,cI 18 h]
def M9(N:aE)(K:Kt R):=eT.l6 N (J wv .ret K) (J wv (.exit 0) K)
def WK(N:aE):It R:=(lp 6 (al wv (λK=>M9 N K N) an) ln)
theorem Uc(N:aE):cE acF (WK N (R:=R)) (b_ f238 6):=lq 6 wv (M9 N) λK g=>eT.r6 N g (J wv .ret K) (J wv (.exit 0) K)
def Ko:=dR ajf am4 (ct _) eT.v
theorem Pv:FO 238 Ko:=fh (E:=acF) (aL tU (aL Pz bf)) func238 (it:=λN=>WK N) (λN=>(bF (Uc N) bW)) eT.b λx f h=>eT.gu _ x.1 x.2.1 f.1.1

def acz:=en [(238,Ko),(239,Kp)] [(5,[0,2,3,4,5])]
def aiP:Fn [.S] As:=λa=>[aS a]
def amD:Fn [.R, .I] dz:=λa b=>⟨[aO 9 a,aI b],[]⟩
def C2:Fn [.S, .I, .I, .R] Tb:=λa b c d=>[cA 0 (.s a),cA 4 .nl,cI 6 b,cA 8 (.own 0),cI 10 c,oR 1 9 d]
def EM:Fn [.S, .I, .I, .R] Tb:=λa b c d=>[cA 0 (.s a),cA 4 (.own 0),cI 6 b,cA 8 (.own 0),cI 10 c,oR 1 9 d]
def MZ(N:aE)(K:Kt R):=qN.l5 N (J EM .ret K) (J C2 (.exit 0) K)
def WD(N:aE):It R:=(lp 5 (al C2 (λK=>MZ N K N) an) ln)
theorem T4(N:aE):cE acz (WD N (R:=R)) (b_ f196 5):=lq 5 C2 (MZ N) λK g=>qN.r5 N g (J EM .ret K) (J C2 (.exit 0) K)
def XJ:=dR aiP amD qN.c qN.v
theorem aeO:FO 196 XJ:=fq (E:=acz) (aL Pv (aL Pw bf)) func196 (it:=λN=>WD N) (λN=>(bF (T4 N) bW)) qN.b qN.vo

def akk:=en [(238,Ko)] []
def ajh:Fn [.S, .I] As:=λa b=>[aS a,aI b]
def am6:Fn [.S, .I, .B] dz:=λa b c=>⟨[aS a,aI b,aB c],[]⟩
def XW:=dR ajh am6 (ct _) oJ.v
theorem ae2:FO 240 XW:=fh (E:=akk) (aL Pv bf) func240 (it:=λ_=>ln) (λ_=>bW) (λ_=>oJ.b) λx f h=>⟨0,oJ.gu _ x.1 x.2.1 f.1.1⟩

def aj8:=en [(240,XW),(238,Ko),(241,Kq)] []
def aiQ:Fn [.S] As:=λa=>[aS a]
def amE:Fn [.S, .I, .I, .S, .B] dz:=λa b c d e=>⟨[aV [.s a, .n b, .n c, .s d],aB e],[]⟩
def XK:=dR aiQ amE (ct _) jg.v
theorem aeP:FO 197 XK:=fh (E:=aj8) (aL ae2 (aL Pv (aL Py bf))) func197 (it:=λ_=>ln) (λ_=>bW) (λ_=>jg.b) λx f h=>⟨0,jg.gu _ x.1 f.1.1⟩

def aci:=en [(194,Gl),(195,Qx),(196,XJ),(197,XK),(198,Qy)] [(7,[3,6,8])]
def ah2:Fn [.R] As:=λa=>[aV [.sh 236 a]]
def alR:Fn [.R] dz:=λa=>⟨[aO 92 a],[]⟩
def CX:Fn [.I, .R, .R] Tb:=λa b c=>[cA 6 (.own 0),cA 12 (.own 1),cI 16 a,oR 1 92 b,oR 3 9 c]
def MD(N:aE)(K:Kt R):=qK.l7 N (J CX (.exit 0) K)
def Wn(N:aE):It R:=(lp 7 (al CX (λK=>MD N K N) an) ln)
theorem TG(N:aE):cE aci (Wn N (R:=R)) (b_ f111 7):=lq 7 CX (MD N) λK g=>qK.r7 N g (J CX (.exit 0) K)
def Xo:=dR ah2 alR qK.c qK.v
theorem aes:FO 111 Xo:=fq (E:=aci) (aL J4 (aL W6 (aL aeO (aL aeP (aL W7 bf))))) func111 (it:=λN=>Wn N) (λN=>(bF (TG N) bW)) qK.b qK.vo

def acJ:=en [(194,Gl),(195,Qx),(241,Kq),(239,Kp)] [(9,[1,4,5,6,9,10])]
def ajC:Fn [.R, .R] As:=λa b=>[aV [.sh 236 a],aH 92 b]
def anr:Fn [.R, .B] dz:=λa b=>⟨[aO 268 a,aB b],[]⟩
def Dc:Fn [.R, .B, .S, .I, .R] Tb:=λa b c d e=>[cH 2 92 a,cA 8 .nl,cA 10 (.b b),cA 12 (.own 0),cA 18 (.s c),cI 20 d,oR 1 268 e]
def EO:Fn [.R, .B, .S, .I, .R, .R] Tb:=λa b c d e f=>[cH 2 92 a,cA 8 (.own 0),cA 10 (.b b),cA 12 (.own 1),cA 18 (.s c),cI 20 d,oR 1 268 e,oR 3 268 f]
def Ni(N:aE)(K:Kt R):=lS.l9 N (J EO .ret K) (J Dc (.exit 0) K)
def WO(N:aE):It R:=(lp 9 (al Dc (λK=>Ni N K N) an) ln)
theorem Ul(N:aE):cE acJ (WO N (R:=R)) (b_ f273 9):=lq 9 Dc (Ni N) λK g=>lS.r9 N g (J EO .ret K) (J Dc (.exit 0) K)
def X5:=dR ajC anr lS.c lS.v
theorem afa:FO 273 X5:=fq (E:=acJ) (aL J4 (aL W6 (aL Py (aL Pw bf)))) func273 (it:=λN=>WO N) (λN=>(bF (Ul N) bW)) lS.b lS.vo

def acK:=en [(182,Qw),(141,Gj),(52,UW),(132,Qp)] [(4,[0,1,4,5,6])]
def ajD:Fn [.I, .R] As:=λa b=>[aI a,aH 92 b]
def ant:Fn [.I, .R, .R, .R, .R, .I, .R, .R, .I] dz:=λa b c d e f g h i=>⟨[aV [.n a, .ow 92 ai b, .ow 9 ai c, .ow 9 ai d, .ow 59 ai e, .n f, .ow 100 ai g, .ow 53 ai h, .n i]],[]⟩
def Dd:Fn [.I, .R, .I, .I, .I, .I, .I, .I, .I, .R, .R, .R, .R, .R, .R] Tb:=λa b c d e f g h i j k l m o p=>[cI 0 a,cH 2 92 b,cP 8 0,cP 10 1,cI 12 c,oB 1 [.n d, .nl, .nl, .nl, .nl, .n e, .nl, .nl, .n f],oB 3 [.n g, .own 2, .own 3, .own 4, .own 5, .n h, .own 6, .own 7, .n i],oR 5 92 j,oR 7 9 k,oR 9 9 l,oR 11 59 m,oR 13 100 o,oR 15 53 p]
def Nj(N:aE)(K:Kt R):=mE.l4 N (J Dd (.exit 0) K)
def WQ(N:aE):It R:=(lp 4 (al Dd (λK=>Nj N K N) an) ln)
theorem Um(N:aE):cE acK (WQ N (R:=R)) (b_ f274 4):=lq 4 Dd (Nj N) λK g=>mE.r4 N g (J Dd (.exit 0) K)
def X6:=dR ajD ant mE.c mE.v
theorem afb:FO 274 X6:=fq (E:=acK) (aL W5 (aL J0 (aL aaN (aL WY bf)))) func274 (it:=λN=>WQ N) (λN=>(bF (Um N) bW)) mE.b mE.vo

def RU:=Us T md [(272,X4),(111,Xo),(52,UW),(273,X5),(271,QJ),(274,X6)] [(7,[0,6,7,8])] [] [(0,1, .own 92),(0,2, .own 9),(0,3, .own 9),(0,4, .own 59),(0,6, .own 100),(0,7, .own 53),(0,9, .own 236),(0,10, .own 3),(0,11, .own 92)]
def ajt:Fn [.I, .R, .R, .R, .R, .I, .R, .R, .I, .R, .R, .R, .I, .I, .S, .I, .R] As:=λa b c d e f g h i j k l m o p q r=>[.pt [.n a, .ow 92 ai b, .ow 9 ai c, .ow 9 ai d, .ow 59 ai e, .n f, .ow 100 ai g, .ow 53 ai h, .n i, .ow 236 ai j, .ow 3 ai k, .ow 92 ai l],aV [.n m, .n o, .s p, .n q, .sh 3 r]]
def ani:Fn [.I, .R, .R, .R, .R, .I, .R, .R, .I, .R, .R, .R] dz:=λa b c d e f g h i j k l=>⟨[],[[.n a, .ow 92 ai b, .ow 9 ai c, .ow 9 ai d, .ow 59 ai e, .n f, .ow 100 ai g, .ow 53 ai h, .n i, .ow 236 ai j, .ow 3 ai k, .ow 92 ai l]]⟩
def pX:Fn [.I, .I, .I, .I, .R, .R, .R, .R, .R, .R, .R, .R, .R, .R, .R] Tb:=λa b c d e f g h i j k l m o p=>[cP 0 900000900,cA 12 (.own 1),cA 14 (.own 2),cI 16 a,oB 1800001801 [.n b, .own 900000001, .own 900000002, .own 900000003, .own 900000004, .n c, .own 900000006, .own 900000007, .n d, .own 9, .own 900000010, .own 900000011],oR 3 92 e,oR 5 92 f,oR 1800000003 92 g,oR 1800000005 9 h,oR 1800000007 9 i,oR 1800000009 59 j,oR 1800000013 100 k,oR 1800000015 53 l,oR 19 236 m,oR 1800000021 3 o,oR 1800000023 92 p]
def nj:Fn [.I, .I, .I, .I, .R, .R, .R, .R, .R, .R, .R, .R, .R, .R, .R] Tb:=λa b c d e f g h i j k l m o p=>[cP 0 900000900,cA 12 (.own 1),cA 14 (.own 2),cI 16 a,oB 1800001801 [.n b, .own 900000001, .own 900000002, .own 900000003, .own 900000004, .n c, .own 900000006, .own 900000007, .n d, .own 900000009, .own 900000010, .own 900000011],oR 3 92 e,oR 5 92 f,oR 1800000003 92 g,oR 1800000005 9 h,oR 1800000007 9 i,oR 1800000009 59 j,oR 1800000013 100 k,oR 1800000015 53 l,oR 1800000019 236 m,oR 1800000021 3 o,oR 1800000023 92 p]
def Nd(N:aE)(K:Kt R):=uB.l7 N (J pX (.exit 0) K) (J nj (.exit 0) K)
def IK(N:aE)(K:Kt R):=uB.l7a N (J pX (.exit 0) K) (J nj (.exit 0) K)
def JO(N:aE):It R:=(lp 7 (al pX (λK=>Nd N K N) (al nj (λK=>IK N K N) an)) ln)
theorem Ky(N:aE)(K:Kt R):Wd RU (JO N) (b_ f259 7) 7 K nj (IK N K):=lw (λg=>uB.r7a N (cmp _ pX (g∘eO)) (cmp _ nj (g∘eO)) (J pX (.exit 0) K) (J nj (.exit 0) K)) λm i=>by simp only[dx,wf i];rfl
theorem abl(N:aE)(K:Kt R):Wd RU (JO N) (b_ f259 7) 7 K pX (Nd N K):=lw (λg=>uB.r7 N (cmp _ pX (g∘eO)) (cmp _ nj (g∘eO)) (J pX (.exit 0) K) (J nj (.exit 0) K)) λm i=>by simp only[dx,wf i,wf (Ky N K m)];rfl
theorem Uh(N:aE):cE RU (JO N (R:=R)) (b_ f259 7):=lm 7 (ga pX (abl N) (ga nj (Ky N) nt))
def X0:=dR ajt ani uB.c uB.v
theorem ae6:FO 259 X0:=fq (E:=RU) (aL ae_ (aL aes (aL aaN (aL afa (aL Xf (aL afb bf)))))) func259 (it:=λN=>JO N) (λN=>(bF (Uh N) bW)) uB.b uB.vo

def akh:=Us T md [(9,sp9),(38,agb),(258,XZ),(42,agd),(23,aa6),(24,aa7),(259,X0),(260,QI)] [] [] [(0,1, .own 92),(0,2, .own 9),(0,3, .own 9),(0,4, .own 59),(0,6, .own 100),(0,7, .own 53),(0,9, .own 236),(0,10, .own 3),(0,11, .own 92)]
def aja:Fn [.I, .R, .R, .R, .R, .I, .R, .R, .I, .R, .R, .R, .I, .I, .S, .I, .R] As:=λa b c d e f g h i j k l m o p q r=>[.pt [.n a, .ow 92 ai b, .ow 9 ai c, .ow 9 ai d, .ow 59 ai e, .n f, .ow 100 ai g, .ow 53 ai h, .n i, .ow 236 ai j, .ow 3 ai k, .ow 92 ai l],aV [.n m, .n o, .s p, .n q, .sh 3 r]]
def amZ:Fn [.I, .I, .R, .R, .R, .R, .I, .R, .R, .I, .R, .R, .R] dz:=λa b c d e f g h i j k l m=>⟨[aI a],[[.n b, .ow 92 ai c, .ow 9 ai d, .ow 9 ai e, .ow 59 ai f, .n g, .ow 100 ai h, .ow 53 ai i, .n j, .ow 236 ai k, .ow 3 ai l, .ow 92 ai m]]⟩
def XT:=dR aja amZ Bg.c Bg.v
theorem aeY:FO 231 XT:=fr (E:=akh) (aL ok9 (aL anZ (aL ae5 (aL an1 (aL aeX (aL ae1 (aL ae6 (aL Xe bf)))))))) func231 Bg.b Bg.vo

def aj4:=Us T md [(231,XT)] [] [] [(0,1, .own 92),(0,2, .own 9),(0,3, .own 9),(0,4, .own 59),(0,6, .own 100),(0,7, .own 53),(0,9, .own 236),(0,10, .own 3),(0,11, .own 92)]
def aiD:Fn [.I, .R, .R, .R, .R, .I, .R, .R, .I, .R, .R, .R, .I, .I, .S, .I, .R] As:=λa b c d e f g h i j k l m o p q r=>[.pt [.n a, .ow 92 ai b, .ow 9 ai c, .ow 9 ai d, .ow 59 ai e, .n f, .ow 100 ai g, .ow 53 ai h, .n i, .ow 236 ai j, .ow 3 ai k, .ow 92 ai l],aV [.n m, .n o, .s p, .n q, .sh 3 r]]
def amr:Fn [.I, .R, .R, .R, .R, .I, .R, .R, .I, .R, .R, .R] dz:=λa b c d e f g h i j k l=>⟨[],[[.n a, .ow 92 ai b, .ow 9 ai c, .ow 9 ai d, .ow 59 ai e, .n f, .ow 100 ai g, .ow 53 ai h, .n i, .ow 236 ai j, .ow 3 ai k, .ow 92 ai l]]⟩
def XD:=dR aiD amr wy.c wy.v
theorem aeI:FO 183 XD:=fr (E:=aj4) (aL aeY bf) func183 wy.b wy.vo

def E94:=en [(182,Qw),(103,qF),(184,XE),(183,XD)] [(3,[0,2,3,4,1000000003009236,1000000003010003,1000000003011092])]
def A94:Fn [.R, .I, .I] As:=λa b c=>[.pt [.sh 5 a, .n b, .n c]]
def k94:Fn [.I, .R, .R, .R, .R, .I, .R, .R, .I, .R, .I, .I] dz:=λa b c d e f g h i j k l=>⟨[aV [.n a, .ow 92 ai b, .ow 9 ai c, .ow 9 ai d, .ow 59 ai e, .n f, .ow 100 ai g, .ow 53 ai h, .n i]],[[.sh 5 j, .n k, .n l]]⟩
def I7:Fn [.I, .R, .I, .I, .I, .I, .I, .I, .I, .I, .R, .R, .R, .R, .R, .R, .R, .R, .R] Tb:=λa b c d e f g h i j k l m o p q r s t=>[cP 0 900000900,cP 4 1,cP 6 2,cI 8 a,oB 1800001801 [.sh 5 b, .n c, .n d],oB 3 [.n e, .nl, .nl, .nl, .nl, .n f, .nl, .nl, .n g],oB 5 [.n h, .own 3, .own 4, .own 5, .own 6, .n i, .own 7, .own 8, .n j, .own 9, .own 10, .own 11],oR 7 92 k,oR 9 9 l,oR 11 9 m,oR 13 59 o,oR 15 100 p,oR 17 53 q,oR 19 236 r,oR 21 3 s,oR 23 92 t]
def VI(N:aE)(K:Kt R):=G3.l3 N (J I7 (.exit 0) K)
def ad3(N:aE):It R:=(lp 3 (al I7 (λK=>VI N K N) an) ln)
theorem aaE(N:aE):cE E94 (ad3 N (R:=R)) (b_ f94 3):=lq 3 I7 (VI N) λK g=>G3.r3 N g (J I7 (.exit 0) K)
def abe:=dR A94 k94 G3.c G3.v
theorem afk:FO 94 abe:=fq (E:=E94) (aL W5 (aL rP (aL aeJ (aL aeI bf)))) func94 (it:=λN=>ad3 N) (λN=>(bF (aaE N) bW)) G3.b G3.vo

def acC:=en [(230,QD),(103,qF),(125,Kd),(53,UX)] [(3,[0,2,3,4])]
def ai8:Fn [.R, .I, .I] As:=λa b c=>[.pt [.sh 5 a, .n b, .n c]]
def amW:Fn [.R, .R, .R, .I, .R, .I, .I] dz:=λa b c d e f g=>⟨[aV [.ow 9 ai a, .ow 9 ai b, .ow 59 ai c, .n d]],[[.sh 5 e, .n f, .n g]]⟩
def C5:Fn [.I, .R, .I, .I, .I, .I, .R, .R, .R] Tb:=λa b c d e f g h i=>[cP 0 900000900,cP 4 1,cP 6 2,cI 8 a,oB 1800001801 [.sh 5 b, .n c, .n d],oB 3 [.nl, .nl, .nl, .n e],oB 5 [.own 3, .own 4, .own 5, .n f],oR 7 9 g,oR 9 9 h,oR 11 59 i]
def M5(N:aE)(K:Kt R):=yo.l3 N (J C5 (.exit 0) K)
def WH(N:aE):It R:=(lp 3 (al C5 (λK=>M5 N K N) an) ln)
theorem T9(N:aE):cE acC (WH N (R:=R)) (b_ f228 3):=lq 3 C5 (M5 N) λK g=>yo.r3 N g (J C5 (.exit 0) K)
def XR:=dR ai8 amW yo.c yo.v
theorem aeV:FO 228 XR:=fq (E:=acC) (aL Xa (aL rP (aL Pj (aL aaO bf)))) func228 (it:=λN=>WH N) (λN=>(bF (T9 N) bW)) yo.b yo.vo

def acG:=en [(257,QH),(103,qF),(125,Kd),(57,UY)] [(3,[0,2,3,4])]
def ajq:Fn [.R, .I, .I] As:=λa b c=>[.pt [.sh 5 a, .n b, .n c]]
def anf:Fn [.R, .I, .R, .I, .I] dz:=λa b c d e=>⟨[aV [.ow 59 ai a, .n b]],[[.sh 5 c, .n d, .n e]]⟩
def C9:Fn [.I, .R, .I, .I, .I, .I, .R] Tb:=λa b c d e f g=>[cP 0 900000900,cP 4 1,cP 6 2,cI 8 a,oB 1800001801 [.sh 5 b, .n c, .n d],oB 3 [.nl, .n e],oB 5 [.own 3, .n f],oR 7 59 g]
def Nb(N:aE)(K:Kt R):=rA.l3 N (J C9 (.exit 0) K)
def WL(N:aE):It R:=(lp 3 (al C9 (λK=>Nb N K N) an) ln)
theorem Uf(N:aE):cE acG (WL N (R:=R)) (b_ f256 3):=lq 3 C9 (Nb N) λK g=>rA.r3 N g (J C9 (.exit 0) K)
def XY:=dR ajq anf rA.c rA.v
theorem ae4:FO 256 XY:=fq (E:=acG) (aL Xd (aL rP (aL Pj (aL aaP bf)))) func256 (it:=λN=>WL N) (λN=>(bF (Uf N) bW)) rA.b rA.vo

def akf:=Us T md [(103,qF),(256,XY),(146,Gk)] [] [] [(500,0, .sh 59)]
def ai9:Fn [.R, .I, .I] As:=λa b c=>[.pt [.sh 5 a, .n b, .n c]]
def amX:Fn [.R, .I, .R, .I, .I] dz:=λa b c d e=>⟨[aV [.sh 59 a, .n b]],[[.sh 5 c, .n d, .n e]]⟩
def XS:=dR ai9 amX yp.c yp.v
theorem aeW:FO 229 XS:=fr (E:=akf) (aL rP (aL ae4 (aL J3 bf))) func229 yp.b yp.vo

def aj2:=Us T md [(103,qF),(228,XR),(140,Kg),(229,XS)] [] [] [(500,2, .sh 59)]
def aiB:Fn [.R, .I, .I] As:=λa b c=>[.pt [.sh 5 a, .n b, .n c]]
def amp:Fn [.R, .R, .R, .I, .R, .I, .I] dz:=λa b c d e f g=>⟨[aV [.ow 9 ai a, .ow 9 ai b, .sh 59 c, .n d]],[[.sh 5 e, .n f, .n g]]⟩
def XB:=dR aiB amp zq.c zq.v
theorem aeH:FO 181 XB:=fr (E:=aj2) (aL rP (aL aeV (aL Pp (aL aeW bf)))) func181 zq.b zq.vo

def E89:=Us T md [(103,qF),(94,abe),(48,Gm),(181,XB)] [] [] [(500,4, .sh 59)]
def A89:Fn [.R, .I, .I] As:=λa b c=>[.pt [.sh 5 a, .n b, .n c]]
def k89:Fn [.I, .R, .R, .R, .R, .I, .R, .R, .I, .R, .I, .I] dz:=λa b c d e f g h i j k l=>⟨[aV [.n a, .ow 92 ai b, .ow 9 ai c, .ow 9 ai d, .sh 59 e, .n f, .ow 100 ai g, .ow 53 ai h, .n i]],[[.sh 5 j, .n k, .n l]]⟩
def abc:=dR A89 k89 G2.c G2.v
theorem afi:FO 89 abc:=fr (E:=E89) (aL rP (aL afk (aL HR (aL aeH bf)))) func89 G2.b G2.vo

def E16:=en [(87,U0),(88,U1),(89,abc)] []
def A16:Fn [.R] As:=λa=>[aH 5 a]
def k16:Fn [.I, .R, .R, .R, .R, .I, .R, .R, .I, .I] dz:=λa b c d e f g h i j=>⟨[aV [.n a, .ow 92 ai b, .ow 9 ai c, .ow 9 ai d, .sh 59 e, .n f, .ow 100 ai g, .ow 53 ai h, .n i],aI j],[]⟩
def afK:=dR A16 k16 Rk.c Rk.v
theorem anQ:FO 16 afK:=fr (E:=E16) (aL aaQ (aL aaR (aL afi bf))) func16 Rk.b Rk.vo

def ajW:=en [] []
def aim:Fn [.R] As:=λa=>[aH 92 a]
def ama:Fn [.R] dz:=λa=>⟨[aO 92 a],[]⟩
def Qt:=dR aim ama uv.c uv.v
theorem aey:FO 154 Qt:=fr (E:=ajW) bf func154 uv.b uv.vo

def akc:=en [] []
def ai2:Fn [.R] As:=λa=>[aH 9 a]
def amQ:Fn [.R] dz:=λa=>⟨[aO 9 a],[]⟩
def QC:=dR ai2 amQ sS.c sS.v
theorem aeS:FO 217 QC:=fr (E:=akc) bf func217 sS.b sS.vo

def ake:=en [] []
def ai6:Fn [.R] As:=λa=>[aH 3 a]
def amU:Fn [.R] dz:=λa=>⟨[aO 3 a],[]⟩
def XP:=dR ai6 amU tG.c tG.v
theorem aeU:FO 223 XP:=fr (E:=ake) bf func223 tG.b tG.vo

def RR:=en [(223,XP)] [(3,[2,3,10,11,12])]
def aiy:Fn [.R, .I] As:=λa b=>[aV [.sh 59 a, .n b]]
def amm:Fn [.R, .I] dz:=λa b=>⟨[aV [.ow 59 ai a, .n b]],[]⟩
def pU:Fn [.R, .I, .I, .I, .I] Tb:=λa b c d e=>[cP 4 0,cP 6 1,cH 20 59 a,cI 22 b,cI 24 c,oB 1 [.nl, .n d],oB 3 [.nl, .n e]]
def ng:Fn [.R, .I, .I, .I, .I, .R] Tb:=λa b c d e f=>[cP 4 0,cP 6 1,cH 20 59 a,cI 22 b,cI 24 c,oB 1 [.nl, .n d],oB 3 [.own 2, .n e],oR 5 59 f]
def MR(N:aE)(K:Kt R):=iK.l3 N (J pU (.exit 0) K) (J ng (.exit 0) K)
def IG(N:aE)(K:Kt R):=iK.qP N (J pU (.exit 0) K) (J ng (.exit 0) K)
def JL(N:aE):It R:=(lp 3 (al pU (λK=>MR N K N) (al ng (λK=>IG N K N) an)) ln)
theorem Kv(N:aE)(K:Kt R):Wd RR (JL N) (b_ f168 3) 3 K ng (IG N K):=lw (λg=>iK.wM N (cmp _ pU (g∘eO)) (cmp _ ng (g∘eO)) (J pU (.exit 0) K) (J ng (.exit 0) K)) λm i=>by simp only[dx,wf i];rfl
theorem abi(N:aE)(K:Kt R):Wd RR (JL N) (b_ f168 3) 3 K pU (MR N K):=lw (λg=>iK.r3 N (cmp _ pU (g∘eO)) (cmp _ ng (g∘eO)) (J pU (.exit 0) K) (J ng (.exit 0) K)) λm i=>by simp only[dx,wf i,wf (Kv N K m)];rfl
theorem TW(N:aE):cE RR (JL N (R:=R)) (b_ f168 3):=lm 3 (ga pU (abi N) (ga ng (Kv N) nt))
def Qv:=dR aiy amm iK.c iK.v
theorem aeF:FO 168 Qv:=fq (E:=RR) (aL aeU bf) func168 (it:=λN=>JL N) (λN=>(bF (TW N) bW)) iK.b iK.vo

def ajX:=en [(217,QC),(168,Qv)] []
def ain:Fn [.R, .R, .R, .I] As:=λa b c d=>[aV [.sh 9 a, .sh 9 b, .sh 59 c, .n d]]
def amb:Fn [.R, .R, .R, .I] dz:=λa b c d=>⟨[aV [.ow 9 ai a, .ow 9 ai b, .ow 59 ai c, .n d]],[]⟩
def Kj:=dR ain amb iQ.c iQ.v
theorem aez:FO 155 Kj:=fr (E:=ajX) (aL aeS (aL aeF bf)) func155 iQ.b iQ.vo

def E62:=en [(154,Qt),(155,Kj)] []
def A62:Fn [.I, .R, .R, .R, .R, .I, .R, .R, .I] As:=λa b c d e f g h i=>[aV [.n a, .sh 92 b, .sh 9 c, .sh 9 d, .sh 59 e, .n f, .sh 100 g, .sh 53 h, .n i]]
def k62:Fn [.I, .R, .R, .R, .R, .I, .R, .R, .I] dz:=λa b c d e f g h i=>⟨[aV [.n a, .ow 92 ai b, .ow 9 ai c, .ow 9 ai d, .ow 59 ai e, .n f, .ow 100 ai g, .ow 53 ai h, .n i]],[]⟩
def UZ:=dR A62 k62 p9.c p9.v
theorem afh:FO 62 UZ:=fr (E:=E62) (aL aey (aL aez bf)) func62 p9.b p9.vo

def E90:=en [] []
def A90:Fn [.I, .I] As:=λa b=>[aI a,aI b]
def k90:Fn [.I] dz:=λa=>⟨[aI a],[]⟩
def agl:=dR A90 k90 Mo.c Mo.v
theorem an6:FO 90 agl:=fr (E:=E90) bf func90 Mo.b Mo.vo

def E17:=en [(62,UZ),(90,agl)] []
def A17:Fn [.I, .R, .R, .R, .R, .I, .R, .R, .I, .I] As:=λa b c d e f g h i j=>[aV [.n a, .sh 92 b, .sh 9 c, .sh 9 d, .sh 59 e, .n f, .sh 100 g, .sh 53 h, .n i],aI j]
def k17:Fn [.I, .R, .R, .R, .R, .I, .R, .R, .I] dz:=λa b c d e f g h i=>⟨[aV [.n a, .ow 92 ai b, .ow 9 ai c, .ow 9 ai d, .ow 59 ai e, .n f, .ow 100 ai g, .ow 53 ai h, .n i]],[]⟩
def afO:=dR A17 k17 KR.c KR.v
theorem anR:FO 17 afO:=fr (E:=E17) (aL afh (aL an6 bf)) func17 KR.b KR.vo

def E91:=en [(126,Qo),(88,U1),(103,qF)] []
def A91:Fn [.R, .I, .I, .I] As:=λa b c d=>[.pt [.sh 5 a, .n b, .n c],aI d]
def k91:Fn [.I, .R, .I, .I] dz:=λa b c d=>⟨[aI a],[[.sh 5 b, .n c, .n d]]⟩
def agm:=dR A91 k91 Rs.c Rs.v
theorem an7:FO 91 agm:=fr (E:=E91) (aL WX (aL aaR (aL rP bf))) func91 Rs.b Rs.vo

def E18:=en [(87,U0),(91,agm),(89,abc)] []
def A18:Fn [.R] As:=λa=>[aH 5 a]
def k18:Fn [.I, .R, .R, .R, .R, .I, .R, .R, .I, .I] dz:=λa b c d e f g h i j=>⟨[aV [.n a, .ow 92 ai b, .ow 9 ai c, .ow 9 ai d, .sh 59 e, .n f, .ow 100 ai g, .ow 53 ai h, .n i],aI j],[]⟩
def afP:=dR A18 k18 Rl.c Rl.v
theorem anS:FO 18 afP:=fr (E:=E18) (aL aaQ (aL an7 (aL afi bf))) func18 Rl.b Rl.vo

def ajY:=en [] []
def aio:Fn [.I, .S, .I, .I, .I, .S, .I, .I] As:=λa b c d e f g h=>[aV [.n a, .s b, .n c, .n d, .n e, .s f, .n g], .fb [.n h]]
def amc:Fn [.B] dz:=λa=>⟨[aB a],[]⟩
def Xv:=dR aio amc (ct _) GZ.v
theorem aeA:FO 157 Xv:=ft (E:=ajY) bf func157 GZ.b λ(a0,a1,a2,a3,a4,a5,a6,a7,_)=>GZ.gu _ a0 a1 a2 a3 a4 a5 a6 a7

def Vq:=en [(157,Xv)] [(2,[0,1,4,7,8])]
def acd:Fn [.R, .I] As:=λa b=>[aH 53 a, .v ak [.fn 157 [[.n b]]]]
def ad8:Fn [.I] dz:=λa=>⟨[aI a],[]⟩
def sd:Fn [.R, .I, .I, .I, .I] Tb:=λa b c d e=>[cH 0 53 a,cA 2 (.fn 157 [[.n b]]),cI 8 c,cI 14 d,cI 16 e]
def ID(N:aE)(K:Kt R):=rk.l2 N (J sd .ret K) (J sd (.exit 0) K)
def ON(N:aE):It R:=(lp 2 (al sd (λK=>ID N K N) an) ln)
theorem O4(N:aE):cE Vq (ON N (R:=R)) (b_ f156 2):=lq 2 sd (ID N) λK g=>rk.r2 N g (J sd .ret K) (J sd (.exit 0) K)
def Ib:=dR acd ad8 rk.c rk.v
theorem aaL:FO 156 Ib:=fq (E:=Vq) (aL aeA bf) func156 (it:=λN=>ON N) (λN=>(bF (O4 N) bW)) rk.b rk.vo

def E93:=en [] []
def A93:Fn [.I, .S, .I, .I, .I, .S, .I, .I] As:=λa b c d e f g h=>[aV [.n a, .s b, .n c, .n d, .n e, .s f, .n g], .fb [.n h]]
def k93:Fn [.B] dz:=λa=>⟨[aB a],[]⟩
def abd:=dR A93 k93 (ct _) Mp.v
theorem afj:FO 93 abd:=ft (E:=E93) bf func93 Mp.b λ(a0,a1,a2,a3,a4,a5,a6,a7,_)=>Mp.gu _ a0 a1 a2 a3 a4 a5 a6 a7

def Vr:=en [(93,abd)] [(2,[0,1,4,7,8])]
def ace:Fn [.R, .I] As:=λa b=>[aH 53 a, .v ak [.fn 93 [[.n b]]]]
def ad9:Fn [.I] dz:=λa=>⟨[aI a],[]⟩
def se:Fn [.R, .I, .I, .I, .I] Tb:=λa b c d e=>[cH 0 53 a,cA 2 (.fn 93 [[.n b]]),cI 8 c,cI 14 d,cI 16 e]
def IE(N:aE)(K:Kt R):=lZ.l2 N (J se .ret K) (J se (.exit 0) K)
def OO(N:aE):It R:=(lp 2 (al se (λK=>IE N K N) an) ln)
theorem O5(N:aE):cE Vr (OO N (R:=R)) (b_ f156 2):=lq 2 se (IE N) λK g=>lZ.r2 N g (J se .ret K) (J se (.exit 0) K)
def Ic:=dR ace ad9 lZ.c lZ.v
theorem aaM:FO 156 Ic:=fq (E:=Vr) (aL afj bf) func156 (it:=λN=>OO N) (λN=>(bF (O5 N) bW)) lZ.b lZ.vo

def E92:=en [(156,Ib),(156,Ic),(93,abd)] [(5,[0,1,5,6])]
def A92:Fn [.R, .I] As:=λa b=>[aO 53 a, .v ak [.fn 93 [[.n b]]]]
def k92:Fn [.R] dz:=λa=>⟨[aO 53 a],[[.nl]]⟩
def I6:Fn [.I, .I, .I, .R] Tb:=λa b c d=>[cA 0 (.own 900000000),cA 2 (.fn 93 [[.n a]]),cI 10 b,cI 12 c,oR 1800000001 53 d]
def VH(N:aE)(K:Kt R):=Jb.l5 N (J I6 (.exit 0) K)
def ad2(N:aE):It R:=(lp 5 (al I6 (λK=>VH N K N) an) ln)
theorem aaD(N:aE):cE E92 (ad2 N (R:=R)) (b_ f92 5):=lq 5 I6 (VH N) λK g=>Jb.r5 N g (J I6 (.exit 0) K)
def agn:=dR A92 k92 Jb.c Jb.v
theorem an8:FO 92 agn:=fq (E:=E92) (aL aaL (aL aaM (aL afj bf))) func92 (it:=λN=>ad2 N) (λN=>(bF (aaD N) bW)) Jb.b Jb.vo

def E19:=en [(62,UZ),(92,agn)] []
def A19:Fn [.I, .R, .R, .R, .R, .I, .R, .R, .I, .I] As:=λa b c d e f g h i j=>[aV [.n a, .sh 92 b, .sh 9 c, .sh 9 d, .sh 59 e, .n f, .sh 100 g, .sh 53 h, .n i],aI j]
def k19:Fn [.I, .R, .R, .R, .R, .I, .R, .R, .I] dz:=λa b c d e f g h i=>⟨[aV [.n a, .ow 92 ai b, .ow 9 ai c, .ow 9 ai d, .ow 59 ai e, .n f, .ow 100 ai g, .ow 53 ai h, .n i]],[]⟩
def afQ:=dR A19 k19 Rm.c Rm.v
theorem anT:FO 19 afQ:=fr (E:=E19) (aL afh (aL an8 bf)) func19 Rm.b Rm.vo

def E20:=en [] [(2,[1,2,4,5,6])]
def A20:Fn [.I, .R, .R, .R, .R, .I, .R, .R, .I, .I] As:=λa b c d e f g h i j=>[aV [.n a, .sh 92 b, .sh 9 c, .sh 9 d, .sh 59 e, .n f, .sh 100 g, .sh 53 h, .n i],aI j]
def k20:Fn [.I, .S, .I, .I, .I, .S, .I, .B] dz:=λa b c d e f g h=>⟨[aV [.n a, .s b, .n c, .n d, .n e, .s f, .n g],aB h],[]⟩
def BU:Fn [.I, .B, .I, .I, .R, .R, .R, .R, .I, .R, .R, .I, .I, .S, .I, .I, .I, .S, .I] Tb:=λa b c d e f g h i j k l m o p q r s t=>[cI 2 a,cP 4 0,cP 8 1,cA 10 (.b b),cI 12 c,oB 1 [.n d, .sh 92 e, .sh 9 f, .sh 9 g, .sh 59 h, .n i, .sh 100 j, .sh 53 k, .n l],oB 3 [.n m, .s o, .n p, .n q, .n r, .s s, .n t]]
def Vv(N:aE)(K:Kt R):=Mn.l2 N (J BU .ret K) (J BU (.exit 0) K)
def adX(N:aE):It R:=(lp 2 (al BU (λK=>Vv N K N) an) ln)
theorem aar(N:aE):cE E20 (adX N (R:=R)) (b_ f20 2):=lq 2 BU (Vv N) λK g=>Mn.r2 N g (J BU .ret K) (J BU (.exit 0) K)
def afU:=dR A20 k20 Mn.c Mn.v
theorem anU:FO 20 afU:=fq (E:=E20) bf func20 (it:=λN=>adX N) (λN=>(bF (aar N) bW)) Mn.b Mn.vo

def E21:=en [(87,U0),(94,abe)] []
def A21:Fn [.R] As:=λa=>[aH 5 a]
def k21:Fn [.I, .R, .R, .R, .R, .I, .R, .R, .I] dz:=λa b c d e f g h i=>⟨[aV [.n a, .ow 92 ai b, .ow 9 ai c, .ow 9 ai d, .ow 59 ai e, .n f, .ow 100 ai g, .ow 53 ai h, .n i]],[]⟩
def af0:=dR A21 k21 Rn.c Rn.v
theorem anV:FO 21 af0:=fr (E:=E21) (aL aaQ (aL afk bf)) func21 Rn.b Rn.vo

def E95:=en [] [(4,[0,1,4,5])]
def A95:Fn [.R, .R] As:=λa b=>[aH 92 a,aH 92 b]
def k95:Fn [.B] dz:=λa=>⟨[aB a],[]⟩
def B1:Fn [.R, .R, .B, .I] Tb:=λa b c d=>[cH 0 92 a,cH 2 92 b,cA 8 (.b c),cI 10 d]
def VJ(N:aE)(K:Kt R):=Mq.l4 N (J B1 .ret K) (J B1 (.exit 0) K)
def ad4(N:aE):It R:=(lp 4 (al B1 (λK=>VJ N K N) an) ln)
theorem aaF(N:aE):cE E95 (ad4 N (R:=R)) (b_ f95 4):=lq 4 B1 (VJ N) λK g=>Mq.r4 N g (J B1 .ret K) (J B1 (.exit 0) K)
def ago:=dR A95 k95 Mq.c Mq.v
theorem an9:FO 95 ago:=fq (E:=E95) bf func95 (it:=λN=>ad4 N) (λN=>(bF (aaF N) bW)) Mq.b Mq.vo

def acw:=en [] [(4,[0,1,4,5])]
def aiF:Fn [.R, .R] As:=λa b=>[aH 9 a,aH 9 b]
def amt:Fn [.B] dz:=λa=>⟨[aB a],[]⟩
def wh:Fn [.R, .R, .B, .I] Tb:=λa b c d=>[cH 0 9 a,cH 2 9 b,cA 8 (.b c),cI 10 d]
def MV(N:aE)(K:Kt R):=tE.l4 N (J wh .ret K) (J wh (.exit 0) K)
def WA(N:aE):It R:=(lp 4 (al wh (λK=>MV N K N) an) ln)
theorem T0(N:aE):cE acw (WA N (R:=R)) (b_ f185 4):=lq 4 wh (MV N) λK g=>tE.r4 N g (J wh .ret K) (J wh (.exit 0) K)
def XF:=dR aiF amt tE.c tE.v
theorem aeK:FO 185 XF:=fq (E:=acw) bf func185 (it:=λN=>WA N) (λN=>(bF (T0 N) bW)) tE.b tE.vo

def acD:=en [] [(4,[0,1,4,5])]
def ajb:Fn [.R, .R] As:=λa b=>[aH 3 a,aH 3 b]
def am0:Fn [.B] dz:=λa=>⟨[aB a],[]⟩
def wq:Fn [.R, .R, .B, .I] Tb:=λa b c d=>[cH 0 3 a,cH 2 3 b,cA 8 (.b c),cI 10 d]
def M6(N:aE)(K:Kt R):=yq.l4 N (J wq .ret K) (J wq (.exit 0) K)
def WI(N:aE):It R:=(lp 4 (al wq (λK=>M6 N K N) an) ln)
theorem T_(N:aE):cE acD (WI N (R:=R)) (b_ f232 4):=lq 4 wq (M6 N) λK g=>yq.r4 N g (J wq .ret K) (J wq (.exit 0) K)
def XU:=dR ajb am0 yq.c yq.v
theorem aeZ:FO 232 XU:=fq (E:=acD) bf func232 (it:=λN=>WI N) (λN=>(bF (T_ N) bW)) yq.b yq.vo

def acx:=en [(232,XU)] [(4,[2,3,4,5])]
def aiG:Fn [.R, .I, .R, .I] As:=λa b c d=>[aV [.sh 59 a, .n b],aV [.sh 59 c, .n d]]
def amu:Fn [.B] dz:=λa=>⟨[aB a],[]⟩
def wi:Fn [.B, .I, .R, .I, .R, .I] Tb:=λa b c d e f=>[cP 4 0,cP 6 1,cA 8 (.b a),cI 10 b,oB 1 [.sh 59 c, .n d],oB 3 [.sh 59 e, .n f]]
def MW(N:aE)(K:Kt R):=xX.l4 N (J wi .ret K) (J wi (.exit 0) K)
def WB(N:aE):It R:=(lp 4 (al wi (λK=>MW N K N) an) ln)
theorem T1(N:aE):cE acx (WB N (R:=R)) (b_ f186 4):=lq 4 wi (MW N) λK g=>xX.r4 N g (J wi .ret K) (J wi (.exit 0) K)
def XG:=dR aiG amu xX.c xX.v
theorem aeL:FO 186 XG:=fq (E:=acx) (aL aeZ bf) func186 (it:=λN=>WB N) (λN=>(bF (T1 N) bW)) xX.b xX.vo

def E96:=en [(185,XF),(186,XG)] []
def A96:Fn [.R, .R, .R, .I, .R, .R, .R, .I] As:=λa b c d e f g h=>[aV [.sh 9 a, .sh 9 b, .sh 59 c, .n d],aV [.sh 9 e, .sh 9 f, .sh 59 g, .n h]]
def k96:Fn [.B] dz:=λa=>⟨[aB a],[]⟩
def agp:=dR A96 k96 Rt.c Rt.v
theorem an_:FO 96 agp:=fr (E:=E96) (aL aeK (aL aeL bf)) func96 Rt.b Rt.vo

def E22:=en [(95,ago),(96,agp)] [(4,[2,3,4,5]),(9,[2,3,4,6])]
def A22:Fn [.I, .R, .R, .R, .R, .I, .R, .R, .I, .I, .R, .R, .R, .R, .I, .R, .R, .I] As:=λa b c d e f g h i j k l m o p q r s=>[aV [.n a, .sh 92 b, .sh 9 c, .sh 9 d, .sh 59 e, .n f, .sh 100 g, .sh 53 h, .n i],aV [.n j, .sh 92 k, .sh 9 l, .sh 9 m, .sh 59 o, .n p, .sh 100 q, .sh 53 r, .n s]]
def k22:Fn [.B] dz:=λa=>⟨[aB a],[]⟩
def BV:Fn [.B, .I, .I, .R, .R, .R, .R, .I, .R, .R, .I, .I, .R, .R, .R, .R, .I, .R, .R, .I] Tb:=λa b c d e f g h i j k l m o p q r s t u=>[cP 4 0,cP 6 1,cA 8 (.b a),cI 10 b,oB 1 [.n c, .sh 92 d, .sh 9 e, .sh 9 f, .sh 59 g, .n h, .sh 100 i, .sh 53 j, .n k],oB 3 [.n l, .sh 92 m, .sh 9 o, .sh 9 p, .sh 59 q, .n r, .sh 100 s, .sh 53 t, .n u]]
def BW:Fn [.B, .I, .I, .R, .R, .R, .R, .I, .R, .R, .I, .I, .R, .R, .R, .R, .I, .R, .R, .I] Tb:=λa b c d e f g h i j k l m o p q r s t u=>[cP 4 0,cP 6 1,cA 8 (.b a),cI 12 b,oB 1 [.n c, .sh 92 d, .sh 9 e, .sh 9 f, .sh 59 g, .n h, .sh 100 i, .sh 53 j, .n k],oB 3 [.n l, .sh 92 m, .sh 9 o, .sh 9 p, .sh 59 q, .n r, .sh 100 s, .sh 53 t, .n u]]
def Vw(N:aE)(K:Kt R):=EJ.l4 N (J BV .ret K) (J BV (.exit 0) K)
def Vx(N:aE)(K:Kt R):=EJ.l9 N (J BW .ret K) (J BW (.exit 2) K)
def aad(N:aE):It R:=(lp 4 (al BV (λK=>Vw N K N) an) (lp 9 (al BW (λK=>Vx N K N) an) ln))
theorem aas(N:aE):cE E22 (aad N (R:=R)) (b_ f22 4):=lq 4 BV (Vw N) λK g=>EJ.r4 N g (J BV .ret K) (J BV (.exit 0) K)
theorem aat(N:aE):cE E22 (aad N (R:=R)) (b_ f22 9):=lq 9 BW (Vx N) λK g=>EJ.r9 N g (J BW .ret K) (J BW (.exit 2) K)
def af2:=dR A22 k22 EJ.c EJ.v
theorem anW:FO 22 af2:=fq (E:=E22) (aL an9 (aL an_ bf)) func22 (it:=λN=>aad N) (λN=>(bF (aas N) (bF (aat N) bW))) EJ.b EJ.vo

def E63:=en [] []
def A63:Fn [.I, .I, .I] As:=λa b c=>[aI a,aI b,aI c]
def k63:Fn [.B] dz:=λa=>⟨[aB a],[]⟩
def ua:=dR A63 k63 (ct _) pb.v
theorem HS:FO 63 ua:=ft (E:=E63) bf func63 pb.b λ(a0,a1,a2,_)=>pb.gu _ a0 a1 a2

def E64:=en [(63,ua)] []
def A64:Fn [.S] As:=λa=>[aS a]
def k64:Fn [.B] dz:=λa=>⟨[aB a],[]⟩
def Ig:=dR A64 k64 (ct _) KS.v
theorem Uy:FO 64 Ig:=ft (E:=E64) (aL HS bf) func64 KS.b λ(a0,_)=>KS.gu _ a0

def ajK:=en [(63,ua)] []
def ahX:Fn [.I] As:=λa=>[aI a]
def alL:Fn [.B] dz:=λa=>⟨[aB a],[]⟩
def Kc:=dR ahX alL (ct _) zo.v
theorem WW:FO 100 Kc:=ft (E:=ajK) (aL HS bf) func100 zo.b λ(a0,_)=>zo.gu _ a0

def ajZ:=en [(64,Ig),(100,Kc),(63,ua)] []
def aip:Fn [.S, .I, .I, .S] As:=λa b c d=>[aV [.s a, .n b, .n c, .s d]]
def amd:Fn [.B] dz:=λa=>⟨[aB a],[]⟩
def Kk:=dR aip amd (ct _) zp.v
theorem aeB:FO 158 Kk:=ft (E:=ajZ) (aL Uy (aL WW (aL HS bf))) func158 zp.b λ(a0,a1,a2,a3,_)=>zp.gu _ a0 a1 a2 a3

def ako:=en [] []
def ajv:Fn [.I] As:=λa=>[.v ak [.nl],aI a]
def ank:Fn [.R] dz:=λa=>⟨[aO 9 a],[]⟩
def X1:=dR ajv ank Bk.c Bk.v
theorem ae7:FO 261 X1:=fr (E:=ako) bf func261 Bk.b Bk.vo

def Yu:=en [(261,X1)] [(3,[0,3,9,10,11]),(11,[6,25,26,27])]
def ajc:Fn [.R] As:=λa=>[aH 23 a]
def am1:Fn [.R] dz:=λa=>⟨[aO 9 a],[]⟩
def C6:Fn [.R, .I, .R, .I, .I] Tb:=λa b c d e=>[cH 0 23 a,cI 6 b,cH 18 23 c,cI 20 d,cI 22 e]
def yC:Fn [.R, .I, .I, .R] Tb:=λa b c d=>[cA 12 (.own 0),cH 50 23 a,cI 52 b,cI 54 c,oR 1 9 d]
def M7(N:aE)(K:Kt R):=uz.l3 N (J C6 (.exit 0) K)
def II(N:aE)(K:Kt R):=uz.l11 N (J yC (.exit 2) K)
def OR(N:aE):It R:=(lp 3 (al C6 (λK=>M7 N K N) an) (lp 11 (al yC (λK=>II N K N) an) ln))
theorem Ua(N:aE):cE Yu (OR N (R:=R)) (b_ f233 3):=lq 3 C6 (M7 N) λK g=>uz.r3 N g (J C6 (.exit 0) K)
theorem O6(N:aE):cE Yu (OR N (R:=R)) (b_ f233 11):=lq 11 yC (II N) λK g=>uz.F7 N g (J yC (.exit 2) K)
def XV:=dR ajc am1 uz.c uz.v
theorem ae0:FO 233 XV:=fq (E:=Yu) (aL ae7 bf) func233 (it:=λN=>OR N) (λN=>(bF (Ua N) (bF (O6 N) bW))) uz.b uz.vo

def aj6:=en [(233,XV)] []
def aiI:Fn [.R, .R, .R, .I] As:=λa b c d=>[aV [.sh 9 a, .sh 9 b, .sh 59 c, .n d]]
def amw:Fn [.R] dz:=λa=>⟨[aO 9 a],[]⟩
def Kn:=dR aiI amw o_.c o_.v
theorem Pt:FO 188 Kn:=fr (E:=aj6) (aL ae0 bf) func188 o_.b o_.vo

def acB:=en [] [(2,[0,1,4,7,8])]
def ai3:Fn [.R, .S] As:=λa b=>[aH 9 a,aS b]
def amR:Fn [.I] dz:=λa=>⟨[aI a],[]⟩
def wm:Fn [.R, .S, .I, .I, .I] Tb:=λa b c d e=>[cH 0 9 a,cA 2 (.s b),cI 8 c,cI 14 d,cI 16 e]
def M4(N:aE)(K:Kt R):=x_.l2 N (J wm .ret K) (J wm (.exit 0) K)
def WG(N:aE):It R:=(lp 2 (al wm (λK=>M4 N K N) an) ln)
theorem T8(N:aE):cE acB (WG N (R:=R)) (b_ f218 2):=lq 2 wm (M4 N) λK g=>x_.r2 N g (J wm .ret K) (J wm (.exit 0) K)
def XN:=dR ai3 amR x_.c x_.v
theorem aeT:FO 218 XN:=fq (E:=acB) bf func218 (it:=λN=>WG N) (λN=>(bF (T8 N) bW)) x_.b x_.vo

def aj0:=en [(218,XN)] []
def air:Fn [.R, .S] As:=λa b=>[aH 9 a,aS b]
def amf:Fn [.B] dz:=λa=>⟨[aB a],[]⟩
def Kl:=dR air amf rq.c rq.v
theorem W4:FO 160 Kl:=fr (E:=aj0) (aL aeT bf) func160 rq.b rq.vo

def aj5:=en [(188,Kn),(160,Kl)] []
def aiH:Fn [.R, .R, .R, .I, .S] As:=λa b c d e=>[aV [.sh 9 a, .sh 9 b, .sh 59 c, .n d],aS e]
def amv:Fn [.B] dz:=λa=>⟨[aB a],[]⟩
def XH:=dR aiH amv xY.c xY.v
theorem aeM:FO 187 XH:=fr (E:=aj5) (aL Pt (aL W4 bf)) func187 xY.b xY.vo

def Ys:=en [(63,ua)] [(2,[1,2,8,9,10]),(5,[1,2,4,8,9,10,14,15,16])]
def aiz:Fn [.R, .I] As:=λa b=>[aV [.sh 59 a, .n b]]
def amn:Fn [.B] dz:=λa=>⟨[aB a],[]⟩
def we:Fn [.B, .R, .I, .I, .R, .I] Tb:=λa b c d e f=>[cP 2 0,cA 4 (.b a),cH 16 59 b,cI 18 c,cI 20 d,oB 1 [.sh 59 e, .n f]]
def wg:Fn [.B, .R, .R, .I, .I, .R, .I, .I, .R, .I] Tb:=λa b c d e f g h i j=>[cP 2 0,cA 4 (.b a),cH 8 3 b,cH 16 59 c,cI 18 d,cI 20 e,cH 28 3 f,cI 30 g,cI 32 h,oB 1 [.sh 59 i, .n j]]
def MS(N:aE)(K:Kt R):=oI.l2 N (J we .ret K) (J we (.exit 0) K)
def MT(N:aE)(K:Kt R):=oI.l5 N (J wg .ret K) (J wg (.exit 2) K)
def OP(N:aE):It R:=(lp 2 (al we (λK=>MS N K N) an) (lp 5 (al wg (λK=>MT N K N) an) ln))
theorem TX(N:aE):cE Ys (OP N (R:=R)) (b_ f169 2):=lq 2 we (MS N) λK g=>oI.r2 N g (J we .ret K) (J we (.exit 0) K)
theorem TY(N:aE):cE Ys (OP N (R:=R)) (b_ f169 5):=lq 5 wg (MT N) λK g=>oI.r5 N g (J wg .ret K) (J wg (.exit 2) K)
def Km:=dR aiz amn oI.c oI.v
theorem aeG:FO 169 Km:=fq (E:=Ys) (aL HS bf) func169 (it:=λN=>OP N) (λN=>(bF (TX N) (bF (TY N) bW))) oI.b oI.vo

def acs:=en [(188,Kn),(64,Ig),(160,Kl),(169,Km)] [(3,[1,2,3,8,9,10])]
def aiq:Fn [.R, .R, .R, .I] As:=λa b c d=>[aV [.sh 9 a, .sh 9 b, .sh 59 c, .n d]]
def ame:Fn [.B] dz:=λa=>⟨[aB a],[]⟩
def wb:Fn [.B, .I, .I, .R, .R, .R, .I, .R] Tb:=λa b c d e f g h=>[cP 2 0,cA 4 (.b a),cA 6 (.own 1),cA 16 (.own 1),cI 18 b,cI 20 c,oB 1 [.sh 9 d, .sh 9 e, .sh 59 f, .n g],oR 3 9 h]
def MP(N:aE)(K:Kt R):=o8.l3 N (J wb .ret K) (J wb (.exit 0) K)
def Wx(N:aE):It R:=(lp 3 (al wb (λK=>MP N K N) an) ln)
theorem TU(N:aE):cE acs (Wx N (R:=R)) (b_ f159 3):=lq 3 wb (MP N) λK g=>o8.r3 N g (J wb .ret K) (J wb (.exit 0) K)
def Qu:=dR aiq ame o8.c o8.v
theorem aeC:FO 159 Qu:=fq (E:=acs) (aL Pt (aL Uy (aL W4 (aL aeG bf)))) func159 (it:=λN=>Wx N) (λN=>(bF (TU N) bW)) o8.b o8.vo

def E97:=en [(158,Kk),(187,XH),(159,Qu),(188,Kn)] [(2,[1,2,6,7,8])]
def A97:Fn [.I, .R, .R, .R, .R, .I, .R, .R, .I] As:=λa b c d e f g h i=>[aV [.n a, .sh 92 b, .sh 9 c, .sh 9 d, .sh 59 e, .n f, .sh 100 g, .sh 53 h, .n i]]
def k97:Fn [.B] dz:=λa=>⟨[aB a],[]⟩
def B2:Fn [.B, .R, .I, .I, .I, .R, .R, .R, .R, .I, .R, .R, .I] Tb:=λa b c d e f g h i j k l m=>[cP 2 0,cA 4 (.b a),cH 12 92 b,cI 14 c,cI 16 d,oB 1 [.n e, .sh 92 f, .sh 9 g, .sh 9 h, .sh 59 i, .n j, .sh 100 k, .sh 53 l, .n m]]
def VK(N:aE)(K:Kt R):=Mr.l2 N (J B2 .ret K) (J B2 (.exit 0) K)
def ad5(N:aE):It R:=(lp 2 (al B2 (λK=>VK N K N) an) ln)
theorem aaG(N:aE):cE E97 (ad5 N (R:=R)) (b_ f97 2):=lq 2 B2 (VK N) λK g=>Mr.r2 N g (J B2 .ret K) (J B2 (.exit 0) K)
def agq:=dR A97 k97 Mr.c Mr.v
theorem aoa:FO 97 agq:=fq (E:=E97) (aL aeB (aL aeM (aL aeC (aL Pt bf)))) func97 (it:=λN=>ad5 N) (λN=>(bF (aaG N) bW)) Mr.b Mr.vo

def aj1:=en [] []
def aiv:Fn [.S, .S, .I, .I, .I, .S] As:=λa b c d e f=>[aV [.s a, .s b, .n c, .n d, .n e], .fb [.s f]]
def amj:Fn [.B] dz:=λa=>⟨[aB a],[]⟩
def Xy:=dR aiv amj (ct _) G0.v
theorem aeE:FO 165 Xy:=ft (E:=aj1) bf func165 G0.b λ(a0,a1,a2,a3,a4,a5,_)=>G0.gu _ a0 a1 a2 a3 a4 a5

def acu:=en [(165,Xy)] [(2,[0,1,4,7,8])]
def aiu:Fn [.R, .S] As:=λa b=>[aH 100 a, .v ak [.fn 165 [[.s b]]]]
def ami:Fn [.I] dz:=λa=>⟨[aI a],[]⟩
def wc:Fn [.R, .S, .I, .I, .I] Tb:=λa b c d e=>[cH 0 100 a,cA 2 (.fn 165 [[.s b]]),cI 8 c,cI 14 d,cI 16 e]
def MQ(N:aE)(K:Kt R):=qM.l2 N (J wc .ret K) (J wc (.exit 0) K)
def Wy(N:aE):It R:=(lp 2 (al wc (λK=>MQ N K N) an) ln)
theorem TV(N:aE):cE acu (Wy N (R:=R)) (b_ f164 2):=lq 2 wc (MQ N) λK g=>qM.r2 N g (J wc .ret K) (J wc (.exit 0) K)
def Xx:=dR aiu ami qM.c qM.v
theorem aeD:FO 164 Xx:=fq (E:=acu) (aL aeE bf) func164 (it:=λN=>Wy N) (λN=>(bF (TV N) bW)) qM.b qM.vo

def E71:=en [(164,Xx)] []
def A71:Fn [.I, .R, .R, .R, .R, .I, .R, .R, .I, .S] As:=λa b c d e f g h i j=>[aV [.n a, .sh 92 b, .sh 9 c, .sh 9 d, .sh 59 e, .n f, .sh 100 g, .sh 53 h, .n i],aS j]
def k71:Fn [.I] dz:=λa=>⟨[aI a],[]⟩
def abb:=dR A71 k71 Ja.c Ja.v
theorem an5:FO 71 abb:=fr (E:=E71) (aL aeD bf) func71 Ja.b Ja.vo

def acj:=en [(71,abb)] [(2,[1,2,6,7,8])]
def ah4:Fn [.I, .R, .R, .R, .R, .I, .R, .R, .I] As:=λa b c d e f g h i=>[aV [.n a, .sh 92 b, .sh 9 c, .sh 9 d, .sh 59 e, .n f, .sh 100 g, .sh 53 h, .n i]]
def alT:Fn [.B] dz:=λa=>⟨[aB a],[]⟩
def vZ:Fn [.B, .R, .I, .I, .I, .R, .R, .R, .R, .I, .R, .R, .I] Tb:=λa b c d e f g h i j k l m=>[cP 2 0,cA 4 (.b a),cH 12 100 b,cI 14 c,cI 16 d,oB 1 [.n e, .sh 92 f, .sh 9 g, .sh 9 h, .sh 59 i, .n j, .sh 100 k, .sh 53 l, .n m]]
def ME(N:aE)(K:Kt R):=ur.l2 N (J vZ .ret K) (J vZ (.exit 0) K)
def Wp(N:aE):It R:=(lp 2 (al vZ (λK=>ME N K N) an) ln)
theorem TH(N:aE):cE acj (Wp N (R:=R)) (b_ f120 2):=lq 2 vZ (ME N) λK g=>ur.r2 N g (J vZ .ret K) (J vZ (.exit 0) K)
def Xp:=dR ah4 alT ur.c ur.v
theorem aet:FO 120 Xp:=fq (E:=acj) (aL an5 bf) func120 (it:=λN=>Wp N) (λN=>(bF (TH N) bW)) ur.b ur.vo

def E98:=en [(64,Ig),(63,ua),(120,Xp)] [(2,[1,2,6,7,8])]
def A98:Fn [.I, .R, .R, .R, .R, .I, .R, .R, .I] As:=λa b c d e f g h i=>[aV [.n a, .sh 92 b, .sh 9 c, .sh 9 d, .sh 59 e, .n f, .sh 100 g, .sh 53 h, .n i]]
def k98:Fn [.B] dz:=λa=>⟨[aB a],[]⟩
def B3:Fn [.B, .R, .I, .I, .I, .R, .R, .R, .R, .I, .R, .R, .I] Tb:=λa b c d e f g h i j k l m=>[cP 2 0,cA 4 (.b a),cH 12 100 b,cI 14 c,cI 16 d,oB 1 [.n e, .sh 92 f, .sh 9 g, .sh 9 h, .sh 59 i, .n j, .sh 100 k, .sh 53 l, .n m]]
def VL(N:aE)(K:Kt R):=KU.l2 N (J B3 .ret K) (J B3 (.exit 0) K)
def ad6(N:aE):It R:=(lp 2 (al B3 (λK=>VL N K N) an) ln)
theorem aaH(N:aE):cE E98 (ad6 N (R:=R)) (b_ f98 2):=lq 2 B3 (VL N) λK g=>KU.r2 N g (J B3 .ret K) (J B3 (.exit 0) K)
def ags:=dR A98 k98 KU.c KU.v
theorem aob:FO 98 ags:=fq (E:=E98) (aL Uy (aL HS (aL aet bf))) func98 (it:=λN=>ad6 N) (λN=>(bF (aaH N) bW)) KU.b KU.vo

def E99:=en [(63,ua),(64,Ig)] [(2,[1,2,6,7,8])]
def A99:Fn [.I, .R, .R, .R, .R, .I, .R, .R, .I] As:=λa b c d e f g h i=>[aV [.n a, .sh 92 b, .sh 9 c, .sh 9 d, .sh 59 e, .n f, .sh 100 g, .sh 53 h, .n i]]
def k99:Fn [.B] dz:=λa=>⟨[aB a],[]⟩
def B4:Fn [.B, .R, .I, .I, .I, .R, .R, .R, .R, .I, .R, .R, .I] Tb:=λa b c d e f g h i j k l m=>[cP 2 0,cA 4 (.b a),cH 12 53 b,cI 14 c,cI 16 d,oB 1 [.n e, .sh 92 f, .sh 9 g, .sh 9 h, .sh 59 i, .n j, .sh 100 k, .sh 53 l, .n m]]
def VM(N:aE)(K:Kt R):=Ms.l2 N (J B4 .ret K) (J B4 (.exit 0) K)
def ad7(N:aE):It R:=(lp 2 (al B4 (λK=>VM N K N) an) ln)
theorem aaI(N:aE):cE E99 (ad7 N (R:=R)) (b_ f99 2):=lq 2 B4 (VM N) λK g=>Ms.r2 N g (J B4 .ret K) (J B4 (.exit 0) K)
def agt:=dR A99 k99 Ms.c Ms.v
theorem aoc:FO 99 agt:=fq (E:=E99) (aL HS (aL Uy bf)) func99 (it:=λN=>ad7 N) (λN=>(bF (aaI N) bW)) Ms.b Ms.vo

def E25:=en [(63,ua),(97,agq),(98,ags),(99,agt),(100,Kc)] []
def A25:Fn [.I, .R, .R, .R, .R, .I, .R, .R, .I] As:=λa b c d e f g h i=>[aV [.n a, .sh 92 b, .sh 9 c, .sh 9 d, .sh 59 e, .n f, .sh 100 g, .sh 53 h, .n i]]
def k25:Fn [.B] dz:=λa=>⟨[aB a],[]⟩
def aa8:=dR A25 k25 I9.c I9.v
theorem anX:FO 25 aa8:=fr (E:=E25) (aL HS (aL aoa (aL aob (aL aoc (aL WW bf))))) func25 I9.b I9.vo

def RS:=en [] [(3,[0,1,3])]
def aiJ:Fn [] As:=[]
def amx:Fn [.R, .I] dz:=λa b=>⟨[aV [.ow 59 ai a, .n b]],[]⟩
def pV:Fn [.I, .I, .I] Tb:=λa b c=>[cP 0 0,cP 2 1,cI 6 a,oB 1 [.nl, .n b],oB 3 [.nl, .n c]]
def nh:Fn [.I, .I, .I, .R] Tb:=λa b c d=>[cP 0 0,cP 2 1,cI 6 a,oB 1 [.nl, .n b],oB 3 [.own 2, .n c],oR 5 59 d]
def MX(N:aE)(K:Kt R):=Di.l3 N (J pV (.exit 0) K) (J nh (.exit 0) K)
def IH(N:aE)(K:Kt R):=Di.qP N (J pV (.exit 0) K) (J nh (.exit 0) K)
def JM(N:aE):It R:=(lp 3 (al pV (λK=>MX N K N) (al nh (λK=>IH N K N) an)) ln)
theorem Kw(N:aE)(K:Kt R):Wd RS (JM N) (b_ f189 3) 3 K nh (IH N K):=lw (λg=>Di.wM N (cmp _ pV (g∘eO)) (cmp _ nh (g∘eO)) (J pV (.exit 0) K) (J nh (.exit 0) K)) λm i=>by simp only[dx,wf i];rfl
theorem abj(N:aE)(K:Kt R):Wd RS (JM N) (b_ f189 3) 3 K pV (MX N K):=lw (λg=>Di.r3 N (cmp _ pV (g∘eO)) (cmp _ nh (g∘eO)) (J pV (.exit 0) K) (J nh (.exit 0) K)) λm i=>by simp only[dx,wf i,wf (Kw N K m)];rfl
theorem T2(N:aE):cE RS (JM N (R:=R)) (b_ f189 3):=lm 3 (ga pV (abj N) (ga nh (Kw N) nt))
def XI:=dR aiJ amx Di.c Di.v
theorem aeN:FO 189 XI:=fq (E:=RS) bf func189 (it:=λN=>JM N) (λN=>(bF (T2 N) bW)) Di.b Di.vo

def ajL:=en [(189,XI)] []
def ahY:Fn [] As:=[]
def alM:Fn [.R, .R, .R, .I] dz:=λa b c d=>⟨[aV [.ow 9 ai a, .ow 9 ai b, .ow 59 ai c, .n d]],[]⟩
def Xm:=dR ahY alM (ct _) Sa.v
theorem aeq:FO 101 Xm:=ft (E:=ajL) (aL aeN bf) func101 Sa.b λ_=>Sa.gu _

def E26:=en [(101,Xm)] []
def A26:Fn [] As:=[]
def k26:Fn [.I, .R, .R, .R, .R, .I, .R, .R, .I] dz:=λa b c d e f g h i=>⟨[aV [.n a, .ow 92 ai b, .ow 9 ai c, .ow 9 ai d, .ow 59 ai e, .n f, .ow 100 ai g, .ow 53 ai h, .n i]],[]⟩
def af9:=dR A26 k26 (ct _) U26.v
theorem anY:FO 26 af9:=ft (E:=E26) (aL aeq bf) func26 U26.b λ_=>U26.gu _

def E4:=en [(15,afJ),(16,afK),(17,afO),(18,afP),(19,afQ),(20,afU),(21,af0),(23,aa6),(22,af2),(24,aa7),(25,aa8),(26,af9)] []
def A4:Fn [.R] As:=λa=>[aH 5 a]
def k4:Fn [.B] dz:=λa=>⟨[aB a],[]⟩
def sp4:=dR A4 k4 U4.c U4.v
theorem ok4:FO 4 sp4:=fr (E:=E4) (aL anP (aL anQ (aL anR (aL anS (aL anT (aL anU (aL anV (aL aeX (aL anW (aL ae1 (aL anX (aL anY bf)))))))))))) func4 U4.b U4.vo

def E67:=en [] []
def A67:Fn [.S, .I, .I, .S, .S] As:=λa b c d e=>[aV [.s a, .n b, .n c, .s d], .fb [.s e]]
def k67:Fn [.B] dz:=λa=>⟨[aB a],[]⟩
def aoo:=dR A67 k67 (ct _) U67.v

def arS:=en [(67,aoo)] [(2,[0,1,4,7,8])]
def ajH:Fn [.R, .S] As:=λa b=>[aH 92 a, .v ak [.fn 67 [[.s b]]]]
def anx:Fn [.I] dz:=λa=>⟨[aI a],[]⟩
def GW:Fn [.R, .S, .I, .I, .I] Tb:=λa b c d e=>[cH 0 92 a,cA 2 (.fn 67 [[.s b]]),cI 8 c,cI 14 d,cI 16 e]
def YS(N:aE)(K:Kt R):=EL.l2 N (J GW .ret K) (J GW (.exit 0) K)
def apM(N:aE):It R:=(lp 2 (al GW (λK=>YS N K N) an) ln)
def X_:=dR ajH anx EL.c EL.v

def arb:=en [] []
def aix:Fn [.S, .I, .I, .S, .S] As:=λa b c d e=>[aV [.s a, .n b, .n c, .s d], .fb [.s e]]
def aml:Fn [.B] dz:=λa=>⟨[aB a],[]⟩
def Xz:=dR aix aml (ct _) Be.v

def arT:=en [(167,Xz)] [(2,[0,1,4,7,8])]
def ajI:Fn [.R, .S] As:=λa b=>[aH 92 a, .v ak [.fn 167 [[.s b]]]]
def anz:Fn [.I] dz:=λa=>⟨[aI a],[]⟩
def GX:Fn [.R, .S, .I, .I, .I] Tb:=λa b c d e=>[cH 0 92 a,cA 2 (.fn 167 [[.s b]]),cI 8 c,cI 14 d,cI 16 e]
def YT(N:aE)(K:Kt R):=tI.l2 N (J GX .ret K) (J GX (.exit 0) K)
def apN(N:aE):It R:=(lp 2 (al GX (λK=>YT N K N) an) ln)
def Ya:=dR ajI anz tI.c tI.v

def arq:=en [] []
def aiW:Fn [.S, .I, .I, .S, .I, .S, .I, .I, .I, .S, .I] As:=λa b c d e f g h i j k=>[aV [.s a, .n b, .n c, .s d], .fb [.n e, .s f, .n g, .n h, .n i, .s j, .n k]]
def amK:Fn [.B] dz:=λa=>⟨[aB a],[]⟩
def afZ:=dR aiW amK (ct _) Y0.v

def arU:=en [(206,afZ)] [(2,[0,1,4,7,8])]
def ajJ:Fn [.R, .I, .S, .I, .I, .I, .S, .I] As:=λa b c d e f g h=>[aH 92 a, .v ak [.fn 206 [[.n b, .s c, .n d, .n e, .n f, .s g, .n h]]]]
def anA:Fn [.I] dz:=λa=>⟨[aI a],[]⟩
def GY:Fn [.R, .I, .S, .I, .I, .I, .S, .I, .I, .I, .I] Tb:=λa b c d e f g h i j k=>[cH 0 92 a,cA 2 (.fn 206 [[.n b, .s c, .n d, .n e, .n f, .s g, .n h]]),cI 8 i,cI 14 j,cI 16 k]
def YU(N:aE)(K:Kt R):=Si.l2 N (J GY .ret K) (J GY (.exit 0) K)
def apO(N:aE):It R:=(lp 2 (al GY (λK=>YU N K N) an) ln)
def Yb:=dR ajJ anA Si.c Si.v

def ara:=en [(66,X_),(66,Ya),(66,Yb),(167,Xz)] [(5,[0,1,5,6])]
def aiw:Fn [.R, .S] As:=λa b=>[aO 92 a, .v ak [.fn 167 [[.s b]]]]
def amk:Fn [.R] dz:=λa=>⟨[aO 92 a],[[.nl]]⟩
def Nv:Fn [.S, .I, .I, .R] Tb:=λa b c d=>[cA 0 (.own 900000000),cA 2 (.fn 167 [[.s a]]),cI 10 b,cI 12 c,oR 1800000001 92 d]
def YI(N:aE)(K:Kt R):=o9.l5 N (J Nv (.exit 0) K)
def apC(N:aE):It R:=(lp 5 (al Nv (λK=>YI N K N) an) ln)
def afN:=dR aiw amk o9.c o9.v

def ary:=en [(63,ua)] [(5,[0,1,4,5,6,7,8])]
def ajk:Fn [.S, .I] As:=λa b=>[aS a,aI b]
def am9:Fn [.I, .I, .B] dz:=λa b c=>⟨[aI a,aI b,aB c],[]⟩
def GU:Fn [.S, .I, .I, .I, .B, .I, .I] Tb:=λa b c d e f g=>[cA 0 (.s a),cI 2 b,cI 8 c,cI 10 d,cA 12 (.b e),cI 14 f,cI 16 g]
def YO(N:aE)(K:Kt R):=fP.l5 N (J GU .ret K) (J GU (.exit 0) K)
def apI(N:aE):It R:=(lp 5 (al GU (λK=>YO N K N) an) ln)
def QG:=dR ajk am9 (ct _) fP.v

def arD:=en [] [(2,[0,1,5]),(6,[0,1,5,19])]
def ajp:Fn [.I, .S] As:=λa b=>[.v ak [.i .u32 a],aS b]
def ane:Fn [.I] dz:=λa=>⟨[.v ak [.i .u32 a]],[]⟩
def Nz:Fn [.I, .S, .I] Tb:=λa b c=>[cA 0 (.i .u32 a),cA 2 (.s b),cI 10 c]
def NA:Fn [.I, .S, .I, .I] Tb:=λa b c d=>[cA 0 (.i .u32 a),cA 2 (.s b),cI 10 c,cI 38 d]
def YQ(N:aE)(K:Kt R):=Bi.l2 N (J Nz (.exit 0) K)
def YR(N:aE)(K:Kt R):=Bi.l6 N (J NA (.exit 2) K)
def apK(N:aE):It R:=(lp 2 (al Nz (λK=>YQ N K N) an) (lp 6 (al NA (λK=>YR N K N) an) ln))
def af8:=dR ajp ane Bi.c Bi.v

def arv:=en [(253,af8)] []
def ai7:Fn [.S] As:=λa=>[aS a]
def amV:Fn [.I] dz:=λa=>⟨[.v ak [.i .u32 a]],[]⟩
def XQ:=dR ai7 amV uw.c uw.v

def arz:=en [(224,XQ)] []
def ajl:Fn [.S] As:=λa=>[aS a]
def am_:Fn [.S] dz:=λa=>⟨[aS a],[]⟩
def af5:=dR ajl am_ Dj.c Dj.v

def aro:=en [(245,QG),(63,ua),(246,af5)] [(3,[0,4,5])]
def aiU:Fn [.S] As:=λa=>[aS a]
def amI:Fn [.R, .I] dz:=λa b=>⟨[aO 9 a,aI b],[]⟩
def Nx:Fn [.S, .I, .R] Tb:=λa b c=>[cA 0 (.s a),cA 8 (.own 0),cI 10 b,oR 1 9 c]
def YM(N:aE)(K:Kt R):=U203.l3 N (J Nx (.exit 0) K)
def apG(N:aE):It R:=(lp 3 (al Nx (λK=>YM N K N) an) ln)
def afX:=dR aiU amI U203.c U203.v

def arl:=en [(63,ua)] [(2,[1,2,6,7,8])]
def aiS:Fn [.R] As:=λa=>[aV [.sh 236 a]]
def amG:Fn [.B] dz:=λa=>⟨[aB a],[]⟩
def GS:Fn [.B, .R, .I, .I, .R] Tb:=λa b c d e=>[cP 2 0,cA 4 (.b a),cH 12 236 b,cI 14 c,cI 16 d,oB 1 [.sh 236 e]]
def YL(N:aE)(K:Kt R):=xZ.l2 N (J GS .ret K) (J GS (.exit 0) K)
def apF(N:aE):It R:=(lp 2 (al GS (λK=>YL N K N) an) ln)
def afV:=dR aiS amG xZ.c xZ.v

def arF:=en [] []
def ajy:Fn [.S, .S, .I, .S] As:=λa b c d=>[aV [.s a, .s b, .n c], .fb [.s d]]
def ann:Fn [.B] dz:=λa=>⟨[aB a],[]⟩
def af_:=dR ajy ann (ct _) NF.v

def aoH:=en [(267,af_)] [(2,[0,1,4,7,8])]
def acf:Fn [.R, .S] As:=λa b=>[aH 236 a, .v ak [.fn 267 [[.s b]]]]
def ad_:Fn [.I] dz:=λa=>⟨[aI a],[]⟩
def Da:Fn [.R, .S, .I, .I, .I] Tb:=λa b c d e=>[cH 0 236 a,cA 2 (.fn 267 [[.s b]]),cI 8 c,cI 14 d,cI 16 e]
def R7(N:aE)(K:Kt R):=uC.l2 N (J Da .ret K) (J Da (.exit 0) K)
def alJ(N:aE):It R:=(lp 2 (al Da (λK=>R7 N K N) an) ln)
def aa9:=dR acf ad_ uC.c uC.v

def arx:=en [(266,aa9)] []
def ajj:Fn [.R, .S] As:=λa b=>[aV [.sh 236 a],aS b]
def am8:Fn [.I] dz:=λa=>⟨[aI a],[]⟩
def af4:=dR ajj am8 zt.c zt.v

def arn:=en [(244,af4)] []
def aiT:Fn [.R, .S] As:=λa b=>[aV [.sh 236 a],aS b]
def amH:Fn [.S, .B] dz:=λa b=>⟨[aS a,aB b],[]⟩
def afW:=dR aiT amH zr.c zr.v

def arA:=en [(245,QG)] []
def ajm:Fn [.S, .I] As:=λa b=>[aS a,aI b]
def ana:Fn [.S, .I, .B] dz:=λa b c=>⟨[aS a,aI b,aB c],[]⟩
def af6:=dR ajm ana (ct _) uA.v

def arp:=en [(247,af6),(245,QG),(158,Kk)] []
def aiV:Fn [.S] As:=λa=>[aS a]
def amJ:Fn [.S, .I, .I, .S, .B] dz:=λa b c d e=>⟨[aV [.s a, .n b, .n c, .s d],aB e],[]⟩
def afY:=dR aiV amJ (ct _) wz.v

def E72:=en [(154,Qt),(166,afN)] []
def A72:Fn [.R, .S] As:=λa b=>[aH 92 a,aS b]
def k72:Fn [.R] dz:=λa=>⟨[aO 92 a],[]⟩
def agj:=dR A72 k72 Gz.c Gz.v

def aoi:Go.Shelf.Ren:=⟨λn=>bif bh n 22 then 234 else bif bh n 29 then 262 else 263,λn=>bif bh n 24 then 34 else bif bh n 9 then 92 else bif bh n 3 then 3 else bif bh n 4 then 4 else n,λn=>n⟩
def af3:ax eC->aA (aW×dz):=YC.JJ 92 48

def ark:=en [(72,agj),(234,af3)] [(3,[3,5,6])]
def aiM:Fn [.R, .S, .I, .I, .S] As:=λa b c d e=>[aH 92 a,aV [.s b, .n c, .n d, .s e]]
def amA:Fn [.R] dz:=λa=>⟨[aO 92 a],[]⟩
def Nw:Fn [.I, .S, .I, .I, .S, .R] Tb:=λa b c d e f=>[cP 6 0,cA 10 (.own 1),cI 12 a,oB 1 [.s b, .n c, .n d, .s e],oR 3 92 f]
def YK(N:aE)(K:Kt R):=Bf.l3 N (J Nw (.exit 0) K)
def apE(N:aE):It R:=(lp 3 (al Nw (λK=>YK N K N) an) ln)
def afT:=dR aiM amA Bf.c Bf.v

def aq6:=en [(201,afV),(202,afW),(203,afX),(204,afY),(192,afT)] [(7,[3,27,28,29])]
def ah3:Fn [.R] As:=λa=>[aV [.sh 236 a]]
def alS:Fn [.R] dz:=λa=>⟨[aO 92 a],[]⟩
def Nt:Fn [.I, .I, .R, .R] Tb:=λa b c d=>[cA 6 (.own 0),cA 54 (.own 1),cI 56 a,cI 58 b,oR 1 92 c,oR 3 9 d]
def YG(N:aE)(K:Kt R):=U118.l7 N (J Nt (.exit 0) K)
def apA(N:aE):It R:=(lp 7 (al Nt (λK=>YG N K N) an) ln)
def ap5:=dR ah3 alS U118.c U118.v

def E68:=en [(158,Kk),(100,Kc),(63,ua)] []
def A68:Fn [.S, .I, .I, .S, .I] As:=λa b c d e=>[aV [.s a, .n b, .n c, .s d],aI e]
def k68:Fn [.B] dz:=λa=>⟨[aB a],[]⟩
def aop:=dR A68 k68 (ct _) Rr.v

def E65:=en [(156,Ib),(156,Ic)] []
def A65:Fn [.I, .R, .R, .R, .R, .I, .R, .R, .I, .I] As:=λa b c d e f g h i j=>[aV [.n a, .sh 92 b, .sh 9 c, .sh 9 d, .sh 59 e, .n f, .sh 100 g, .sh 53 h, .n i],aI j]
def k65:Fn [.I] dz:=λa=>⟨[aI a],[]⟩
def aon:=dR A65 k65 Y1.c Y1.v

def ard:=en [(224,XQ)] []
def aiA:Fn [.I, .S] As:=λa b=>[aI a,aS b]
def amo:Fn [.I] dz:=λa=>⟨[aI a],[]⟩
def XA:=dR aiA amo ru.c ru.v

def E74:=en [(168,Qv),(169,Km),(170,XA)] [(5,[1,4,5,19,20,21]),(15,[4,5,49,50,51]),(18,[4,5,10,49,50,51,56,57])]
def A74:Fn [.R, .I, .S] As:=λa b c=>[aV [.sh 59 a, .n b],aS c]
def k74:Fn [.R, .I] dz:=λa b=>⟨[aV [.ow 59 ai a, .n b]],[]⟩
def VV:Fn [.S, .I, .I, .I, .I, .R] Tb:=λa b c d e f=>[cA 2 (.s a),cP 8 0,cP 10 1,cA 38 (.own 2),cI 40 b,cI 42 c,oB 1 [.nl, .n d],oB 3 [.own 2, .n e],oR 5 59 f]
def NB:Fn [.I, .I, .I, .I, .R] Tb:=λa b c d e=>[cP 8 0,cP 10 1,cA 98 (.own 2),cI 100 a,cI 102 b,oB 1 [.nl, .n c],oB 3 [.own 2, .n d],oR 5 59 e]
def NC:Fn [.N, .I, .I, .I, .I, .I, .I, .R] Tb:=λa b c d e f g h=>[cP 8 0,cP 10 1,cA 20 (.inn 2 a 0),cA 98 (.own 2),cI 100 b,cI 102 c,cI 112 d,cI 114 e,oB 1 [.nl, .n f],oB 3 [.own 2, .n g],oR 5 59 h]
def acT(N:aE)(K:Kt R):=oL.l5 N (J VV (.exit 0) K)
def YV(N:aE)(K:Kt R):=oL.l15 N (J NB (.exit 2) K)
def YW(N:aE)(K:Kt R):=oL.l18 N (J NC (.exit 4) K)
def atE(N:aE):It R:=(lp 5 (al VV (λK=>acT N K N) an) (lp 15 (al NB (λK=>YV N K N) an) (lp 18 (al NC (λK=>YW N K N) an) ln)))
def agk:=dR A74 k74 oL.c oL.v

def aru:=en [] []
def ai5:Fn [.S, .S] As:=λa b=>[aS a, .fb [.s b]]
def amT:Fn [.B] dz:=λa=>⟨[aB a],[]⟩
def XO:=dR ai5 amT (ct _) Sg.v

def arC:=en [(220,XO)] [(2,[0,1,4,7,8])]
def ajo:Fn [.R, .S] As:=λa b=>[aH 9 a, .v ak [.fn 220 [[.s b]]]]
def anc:Fn [.I] dz:=λa=>⟨[aI a],[]⟩
def GV:Fn [.R, .S, .I, .I, .I] Tb:=λa b c d e=>[cH 0 9 a,cA 2 (.fn 220 [[.s b]]),cI 8 c,cI 14 d,cI 16 e]
def YP(N:aE)(K:Kt R):=Bh.l2 N (J GV .ret K) (J GV (.exit 0) K)
def apJ(N:aE):It R:=(lp 2 (al GV (λK=>YP N K N) an) ln)
def af7:=dR ajo anc Bh.c Bh.v

def art:=en [(251,af7),(220,XO)] [(5,[0,1,5,6])]
def ai4:Fn [.R, .S] As:=λa b=>[aO 9 a, .v ak [.fn 220 [[.s b]]]]
def amS:Fn [.R] dz:=λa=>⟨[aO 9 a],[[.nl]]⟩
def Ny:Fn [.S, .I, .I, .R] Tb:=λa b c d=>[cA 0 (.own 900000000),cA 2 (.fn 220 [[.s a]]),cI 10 b,cI 12 c,oR 1800000001 9 d]
def YN(N:aE)(K:Kt R):=EI.l5 N (J Ny (.exit 0) K)
def apH(N:aE):It R:=(lp 5 (al Ny (λK=>YN N K N) an) ln)
def af1:=dR ai4 amS EI.c EI.v

def aq9:=en [(217,QC),(219,af1)] []
def ais:Fn [.R, .S] As:=λa b=>[aH 9 a,aS b]
def amg:Fn [.R] dz:=λa=>⟨[aO 9 a],[]⟩
def Xw:=dR ais amg kA.c kA.v

def aq_:=en [(169,Km),(170,XA)] [(5,[1,5,12,13,14])]
def ait:Fn [.R, .I, .S] As:=λa b c=>[aV [.sh 59 a, .n b],aS c]
def amh:Fn [.I] dz:=λa=>⟨[aI a],[]⟩
def Nu:Fn [.S, .I, .R, .I, .I] Tb:=λa b c d e=>[cA 2 (.s a),cI 10 b,cH 24 59 c,cI 26 d,cI 28 e]
def YH(N:aE)(K:Kt R):=Bd.l5 N (J Nu (.exit 0) K)
def apB(N:aE):It R:=(lp 5 (al Nu (λK=>YH N K N) an) ln)
def afL:=dR ait amh Bd.c Bd.v

def E69:=en [(155,Kj),(159,Qu),(64,Ig),(74,agk),(160,Kl),(161,Xw),(162,afL)] []
def A69:Fn [.R, .R, .R, .I, .S] As:=λa b c d e=>[aV [.sh 9 a, .sh 9 b, .sh 59 c, .n d],aS e]
def k69:Fn [.R, .R, .R, .I, .S] dz:=λa b c d e=>⟨[aV [.ow 9 ai a, .ow 9 ai b, .ow 59 ai c, .n d],aS e],[]⟩
def aoq:=dR A69 k69 Y2.c Y2.v

def aoh:Go.Shelf.Ren:=⟨λn=>bif bh n 22 then 163 else bif bh n 29 then 221 else 222,λn=>bif bh n 24 then 39 else bif bh n 9 then 53 else bif bh n 3 then 3 else bif bh n 4 then 4 else n,λn=>n⟩
def afM:ax eC->aA (aW×dz):=YC.JJ 53 72

def E70:=en [(163,afM)] [(2,[0,3,4])]
def A70:Fn [.I, .R, .R, .R, .R, .I, .R, .R, .I, .I, .S, .I, .I, .I, .S, .I] As:=λa b c d e f g h i j k l m o p q=>[.pt [.n a, .ow 92 ai b, .ow 9 ai c, .ow 9 ai d, .ow 59 ai e, .n f, .ow 100 ai g, .ow 53 ai h, .n i],aV [.n j, .s k, .n l, .n m, .n o, .s p, .n q]]
def k70:Fn [.I, .R, .R, .R, .R, .I, .R, .R, .I] dz:=λa b c d e f g h i=>⟨[],[[.n a, .kp b, .kp c, .kp d, .kp e, .n f, .kp g, .ow 53 ai h, .n i]]⟩
def VU:Fn [.I, .I, .I, .I, .I, .S, .I, .I, .I, .S, .I, .R, .R, .R, .R, .R, .R] Tb:=λa b c d e f g h i j k l m o p q r=>[cP 0 900000900,cP 6 1,cI 8 a,oB 1800001801 [.n b, .own 900000001, .own 900000002, .own 900000003, .own 900000004, .n c, .own 900000006, .own 900000007, .n d],oB 3 [.n e, .s f, .n g, .n h, .n i, .s j, .n k],oR 1800000003 92 l,oR 1800000005 9 m,oR 1800000007 9 o,oR 1800000009 59 p,oR 1800000013 100 q,oR 1800000015 53 r]
def acS(N:aE)(K:Kt R):=pG.l2 N (J VU (.exit 0) K)
def atD(N:aE):It R:=(lp 2 (al VU (λK=>acS N K N) an) ln)
def aor:=dR A70 k70 pG.c pG.v

def E73:=en [(155,Kj),(161,Xw)] []
def A73:Fn [.R, .R, .R, .I, .S] As:=λa b c d e=>[aV [.sh 9 a, .sh 9 b, .sh 59 c, .n d],aS e]
def k73:Fn [.R, .R, .R, .I] dz:=λa b c d=>⟨[aV [.ow 9 ai a, .ow 9 ai b, .ow 59 ai c, .n d]],[]⟩
def aos:=dR A73 k73 KT.c KT.v

def E11:=en [(62,UZ),(25,aa8),(63,ua),(64,Ig),(65,aon),(66,X_),(66,Ya),(66,Yb),(68,aop),(69,aoq),(70,aor),(71,abb),(72,agj),(73,aos),(74,agk)] []
def A11:Fn [.I, .R, .R, .R, .R, .I, .R, .R, .I, .I, .S] As:=λa b c d e f g h i j k=>[aV [.n a, .sh 92 b, .sh 9 c, .sh 9 d, .sh 59 e, .n f, .sh 100 g, .sh 53 h, .n i],aI j,aS k]
def k11:Fn [.I, .R, .R, .R, .R, .I, .R, .R, .I, .I] dz:=λa b c d e f g h i j=>⟨[aV [.n a, .ow 92 ai b, .ow 9 ai c, .ow 9 ai d, .ow 59 ai e, .n f, .ow 100 ai g, .ow 53 ai h, .n i],aI j],[]⟩
def auT:=dR A11 k11 U11.c U11.v

def ari:=en [] []
def aiK:Fn [.I, .S, .R] As:=λa b c=>[aV [.n a, .s b, .sh 231 c]]
def amy:Fn [.I, .S, .R] dz:=λa b c=>⟨[aV [.n a, .s b, .ow 231 ai c]],[]⟩
def afR:=dR aiK amy Sd.c Sd.v

def arj:=en [(63,ua)] [(2,[1,2,6,7,8])]
def aiL:Fn [.I, .S, .R] As:=λa b c=>[aV [.n a, .s b, .sh 231 c]]
def amz:Fn [.B] dz:=λa=>⟨[aB a],[]⟩
def GR:Fn [.B, .R, .I, .I, .I, .S, .R] Tb:=λa b c d e f g=>[cP 2 0,cA 4 (.b a),cH 12 231 b,cI 14 c,cI 16 d,oB 1 [.n e, .s f, .sh 231 g]]
def YJ(N:aE)(K:Kt R):=Sf.l2 N (J GR .ret K) (J GR (.exit 0) K)
def apD(N:aE):It R:=(lp 2 (al GR (λK=>YJ N K N) an) ln)
def afS:=dR aiL amz (ct _) Sf.v

def aq5:=en [(190,afR),(191,afS),(63,ua)] []
def ah1:Fn [.I, .S, .R, .S] As:=λa b c d=>[aV [.n a, .s b, .sh 231 c],aS d]
def alP:Fn [.I, .S, .R, .B] dz:=λa b c d=>⟨[aV [.n a, .s b, .ow 231 ai c],aB d],[]⟩
def ap4:=dR ah1 alP ND.c ND.v

end Go.FG.Se
