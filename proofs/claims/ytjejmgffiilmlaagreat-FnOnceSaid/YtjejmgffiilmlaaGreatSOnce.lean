/- Functions of the program: the evaluation of each, and that a call of it does what is told. No condition. -/
import Derived.Test.YtjejmgffiilmlaaGreatTab
import Derived.Test.YtjejmgffiilmlaaGreatPOnce
import Derived.Test.YtjejmgffiilmlaaGreatIns
set_option linter.unusedVariables false
set_option linter.unusedSimpArgs false
set_option maxRecDepth 100000
open Bool renaming true->ak,false->aq
open Function renaming comp_def->dX
open Go.Extern.SlicesOverlaps renaming overlaps->gC
open Nat renaming beq->bA
open _root_ renaming Nat->aG,List->aA,Option->aC,Bool->aY
namespace Go.FG.Se
open Go.Proofs
variable {R:Type}
def E15:=en [] []
def A15:Fn [.R] As:=λa=>[aH 5 a]
def k15:Fn [.B] dP:=λa=>⟨[aB a],[]⟩
def aho:=eL A15 k15 (ct _) U15.v
theorem aph:cF Tryz.prog T 15 aho:=ft (E:=E15) bh Tryz.func15 U15.b λ(a0,_)=>U15.fM _ a0

def E87:=en [] [(3,[0,3,4])]
def A87:Fn [.R] As:=λa=>[aH 5 a]
def k87:Fn [.R, .I, .I] dP:=λa b c=>⟨[.pt [.sh 5 a, .n b, .n c]],[]⟩
def KO:Fn [.R, .I, .I] Tb:=λa b c=>[cH 0 5 a,cI 6 b,cI 8 c]
def XF(N:aG)(K:Kt R):=IJ.l3 N (J KO (.exit 0) K)
def afA(N:aG):It R:=(lp 3 (al KO (λK=>XF N K N) an) ln)
theorem acb(N:aG):cB E87 (afA N (R:=R)) (ca Tryz.f87 3):=lq 3 KO (XF N) λK g=>IJ.r3 N g (J KO (.exit 0) K)
def acM:=eL A87 k87 IJ.c IJ.v
theorem agZ:cF Tryz.prog T 87 acM:=fq (E:=E87) bh Tryz.func87 (it:=λN=>afA N) (λN=>(bz (acb N) bV)) IJ.b IJ.vo

def T2:=en [] [(3,[0,1,2])]
def akR:Fn [] As:=[]
def aoL:Fn [.R, .I] dP:=λa b=>⟨[aV [.ow 59 ak a, .n b]],[]⟩
def qG:Fn [.I, .I, .I] Tb:=λa b c=>[cP 0 0,cP 2 1,cI 4 a,oB 1 [.nl, .n b],oB 3 [.nl, .n c]]
def nV:Fn [.I, .I, .I, .R] Tb:=λa b c d=>[cP 0 0,cP 2 1,cI 4 a,oB 1 [.nl, .n b],oB 3 [.own 2, .n c],oR 5 59 d]
def Pj(N:aG)(K:Kt R):=Ey.l3 N (J qG (.exit 0) K) (J nV (.exit 0) K)
def Ky(N:aG)(K:Kt R):=Ey.tT N (J qG (.exit 0) K) (J nV (.exit 0) K)
def LA(N:aG):It R:=(lp 3 (al qG (λK=>Pj N K N) (al nV (λK=>Ky N K N) an)) ln)
theorem Mg(N:aG)(K:Kt R):Wd T2 (LA N) (ca Tryz.f257 3) 3 K nV (Ky N K):=lw (λg=>Ey.zV N (cmp _ qG (g∘fO)) (cmp _ nV (g∘fO)) (J qG (.exit 0) K) (J nV (.exit 0) K)) λm i=>by simp only[dX,wf i];rfl
theorem acT(N:aG)(K:Kt R):Wd T2 (LA N) (ca Tryz.f257 3) 3 K qG (Pj N K):=lw (λg=>Ey.r3 N (cmp _ qG (g∘fO)) (cmp _ nV (g∘fO)) (J qG (.exit 0) K) (J nV (.exit 0) K)) λm i=>by simp only[dX,wf i,wf (Mg N K m)];rfl
theorem V7(N:aG):cB T2 (LA N (R:=R)) (ca Tryz.f257 3):=lm 3 (ga qG (acT N) (ga nV (Mg N) pn))
def Z1:=eL akR aoL Ey.c Ey.v
theorem agG:cF Tryz.prog T 257 Z1:=fq (E:=T2) bh Tryz.func257 (it:=λN=>LA N) (λN=>(bz (V7 N) bV)) Ey.b Ey.vo

def alO:=en [(257,Z1)] []
def akB:Fn [] As:=[]
def aov:Fn [.R, .R, .R, .I] dP:=λa b c d=>⟨[aV [.ow 9 ak a, .ow 9 ak b, .ow 59 ak c, .n d]],[]⟩
def ZT:=eL akB aov (ct _) Uk.v
theorem agy:cF Tryz.prog T 230 ZT:=ft (E:=alO) (aN agG bh) Tryz.func230 Uk.b λ_=>Uk.fM _

def aly:=en [(230,ZT)] []
def aj9:Fn [] As:=[]
def an3:Fn [.I, .R, .R, .R, .R, .I, .R, .R, .I] dP:=λa b c d e f g h i=>⟨[aV [.n a, .ow 92 ak b, .ow 9 ak c, .ow 9 ak d, .ow 59 ak e, .n f, .ow 100 ak g, .ow 53 ak h, .n i]],[]⟩
def SC:=eL aj9 an3 (ct _) Uj.v
theorem Y3:cF Tryz.prog T 182 SC:=ft (E:=aly) (aN agy bh) Tryz.func182 Uj.b λ_=>Uj.fM _

def ala:=en [] []
def ajt:Fn [.R, .I, .I] As:=λa b c=>[.pt [.sh 5 a, .n b, .n c]]
def ank:Fn [.I, .R, .I, .I] dP:=λa b c d=>⟨[aI a],[[.sh 5 b, .n c, .n d]]⟩
def Sm:=eL ajt ank bS.c bS.v
theorem YP:cF Tryz.prog T 102 Sm:=fr (E:=ala) bh Tryz.func102 bS.b bS.vo

def alb:=en [(102,Sm)] []
def aju:Fn [.R, .I, .I, .I] As:=λa b c d=>[.pt [.sh 5 a, .n b, .n c],aI d]
def anl:Fn [.I, .R, .I, .I] dP:=λa b c d=>⟨[aI a],[[.sh 5 b, .n c, .n d]]⟩
def BI:=eL aju anl gL.c gL.v
theorem Dx:cF Tryz.prog T 103 BI:=fr (E:=alb) (aN YP bh) Tryz.func103 gL.b gL.vo

def E88:=en [(103,BI)] []
def A88:Fn [.R, .I, .I, .R] As:=λa b c d=>[.pt [.sh 5 a, .n b, .n c],aO 3 d]
def k88:Fn [.I, .R, .I, .I, .R] dP:=λa b c d e=>⟨[aI a],[[.sh 5 b, .n c, .n d],[.kp e]]⟩
def ahR:=eL A88 k88 yG.c yG.v
theorem apD:cF Tryz.prog T 88 ahR:=fr (E:=E88) (aN Dx bh) Tryz.func88 yG.b yG.vo

def alG:=en [(103,BI)] []
def akq:Fn [.R, .I, .I, .R] As:=λa b c d=>[.pt [.sh 5 a, .n b, .n c],aO 9 d]
def aok:Fn [.S, .R, .I, .I, .R] dP:=λa b c d e=>⟨[aS a],[[.sh 5 b, .n c, .n d],[.kp e]]⟩
def SI:=eL akq aok o6.c o6.v
theorem Y7:cF Tryz.prog T 210 SI:=fr (E:=alG) (aN Dx bh) Tryz.func210 o6.b o6.vo

def alf:=en [(210,SI)] []
def ajD:Fn [.R, .I, .I] As:=λa b c=>[.pt [.sh 5 a, .n b, .n c]]
def anw:Fn [.S, .R, .I, .I] dP:=λa b c d=>⟨[aS a],[[.sh 5 b, .n c, .n d]]⟩
def Zv:=eL ajD anw tJ.c tJ.v
theorem af5:cF Tryz.prog T 125 Zv:=fr (E:=alf) (aN Y7 bh) Tryz.func125 tJ.b tJ.vo

def alg:=en [(103,BI)] []
def ajE:Fn [.R, .I, .I, .I] As:=λa b c d=>[.pt [.sh 5 a, .n b, .n c],aI d]
def anx:Fn [.B, .R, .I, .I] dP:=λa b c d=>⟨[aB a],[[.sh 5 b, .n c, .n d]]⟩
def Zw:=eL ajE anx tK.c tK.v
theorem af6:cF Tryz.prog T 126 Zw:=fr (E:=alg) (aN Dx bh) Tryz.func126 tK.b tK.vo

def ad2:=en [(88,ahR),(103,BI),(125,Zv),(126,Zw),(210,SI)] [(4,[0,1,3,4,5,6,7])]
def aka:Fn [.R, .I, .I, .I, .R, .R, .R, .R, .I, .R, .R, .I, .R, .R, .R] As:=λa b c d e f g h i j k l m o p=>[.pt [.sh 5 a, .n b, .n c],aV [.n d, .ow 92 ak e, .ow 9 ak f, .ow 9 ak g, .ow 59 ak h, .n i, .ow 100 ak j, .ow 53 ak k, .n l, .ow 236 ak m, .ow 3 ak o, .ow 92 ak p]]
def an5:Fn [.I, .I, .S, .I, .R, .R, .I, .I, .R, .R, .R, .R, .R, .R, .R, .R, .R] dP:=λa b c d e f g h i j k l m o p q r=>⟨[aV [.n a, .n b, .s c, .n d, .ow 3 ak e]],[[.sh 5 f, .n g, .n h],[.nl, .kp i, .kp j, .kp k, .kp l, .nl, .kp m, .kp o, .nl, .kp p, .kp q, .kp r]]⟩
def D7:Fn [.I, .I, .I, .I, .R, .I, .I, .R, .R, .R, .R, .R, .R, .R, .R, .R, .I, .I, .I, .I, .I, .S, .I, .I, .I, .S, .I, .R] Tb:=λa b c d e f g h i j k l m o p q r s t u v w x y z aa ab ac=>[cP 0 900000900,cV 2 [.n a, .own 900001001, .own 900001002, .own 900001003, .own 900001004, .n b, .own 900001006, .own 900001007, .n c, .own 900001009, .own 900001010, .own 900001011],cP 6 10,cP 8 11,cP 10 12,cA 12 (.own 13),cI 14 d,oB 1800001801 [.sh 5 e, .n f, .n g],oR 1800002003 92 h,oR 1800002005 9 i,oR 1800002007 9 j,oR 1800002009 59 k,oR 1800002013 100 l,oR 1800002015 53 m,oR 1800002019 236 o,oR 1800002021 3 p,oR 1800002023 92 q,oB 21 [.n r, .own 900001001, .own 900001002, .own 900001003, .own 900001004, .n s, .own 900001006, .own 900001007, .n t, .own 900001009, .own 900001010, .own 900001011],oB 23 [.n u, .n v, .s w, .n x, .nl],oB 25 [.n y, .n z, .s aa, .n ab, .nl],oR 27 3 ac]
def OV(N:aG)(K:Kt R):=uH.l4 N (J D7 (.exit 0) K)
def Yt(N:aG):It R:=(lp 4 (al D7 (λK=>OV N K N) an) ln)
theorem VK(N:aG):cB ad2 (Yt N (R:=R)) (ca Tryz.f184 4):=lq 4 D7 (OV N) λK g=>uH.r4 N g (J D7 (.exit 0) K)
def ZI:=eL aka an5 uH.c uH.v
theorem agk:cF Tryz.prog T 184 ZI:=fq (E:=ad2) (aN apD (aN Dx (aN af5 (aN af6 (aN Y7 bh))))) Tryz.func184 (it:=λN=>Yt N) (λN=>(bz (VK N) bV)) uH.b uH.vo

def T0:=en [] [(3,[1,2,3,4])]
def ajR:Fn [.R, .I] As:=λa b=>[aV [.sh 59 a, .n b]]
def anL:Fn [.R, .I] dP:=λa b=>⟨[aV [.ow 59 ak a, .n b]],[]⟩
def qE:Fn [.I, .R, .I, .I, .I] Tb:=λa b c d e=>[cP 2 0,cP 4 1,cP 6 2,cI 8 a,oB 1 [.sh 59 b, .n c],oB 3 [.nl, .n d],oB 5 [.nl, .n e]]
def nT:Fn [.I, .R, .I, .I, .I, .R] Tb:=λa b c d e f=>[cP 2 0,cP 4 1,cP 6 2,cI 8 a,oB 1 [.sh 59 b, .n c],oB 3 [.nl, .n d],oB 5 [.own 3, .n e],oR 7 59 f]
def OK(N:aG)(K:Kt R):=nz.l3 N (J qE (.exit 0) K) (J nT (.exit 0) K)
def Ks(N:aG)(K:Kt R):=nz.tT N (J qE (.exit 0) K) (J nT (.exit 0) K)
def Lx(N:aG):It R:=(lp 3 (al qE (λK=>OK N K N) (al nT (λK=>Ks N K N) an)) ln)
theorem Me(N:aG)(K:Kt R):Wd T0 (Lx N) (ca Tryz.f146 3) 3 K nT (Ks N K):=lw (λg=>nz.zV N (cmp _ qE (g∘fO)) (cmp _ nT (g∘fO)) (J qE (.exit 0) K) (J nT (.exit 0) K)) λm i=>by simp only[dX,wf i];rfl
theorem acR(N:aG)(K:Kt R):Wd T0 (Lx N) (ca Tryz.f146 3) 3 K qE (OK N K):=lw (λg=>nz.r3 N (cmp _ qE (g∘fO)) (cmp _ nT (g∘fO)) (J qE (.exit 0) K) (J nT (.exit 0) K)) λm i=>by simp only[dX,wf i,wf (Me N K m)];rfl
theorem VA(N:aG):cB T0 (Lx N (R:=R)) (ca Tryz.f146 3):=lm 3 (ga qE (acR N) (ga nT (Me N) pn))
def L3:=eL ajR anL nz.c nz.v
theorem Ro:cF Tryz.prog T 146 L3:=fq (E:=T0) bh Tryz.func146 (it:=λN=>Lx N) (λN=>(bz (VA N) bV)) nz.b nz.vo

def alk:=en [(146,L3)] []
def ajL:Fn [.R, .R, .R, .I] As:=λa b c d=>[aV [.sh 9 a, .sh 9 b, .sh 59 c, .n d]]
def anF:Fn [.R, .R, .R, .I] dP:=λa b c d=>⟨[aV [.ow 9 ak a, .ow 9 ak b, .ow 59 ak c, .n d]],[]⟩
def Sr:=eL ajL anF fS.c fS.v
theorem YS:cF Tryz.prog T 140 Sr:=fr (E:=alk) (aN Ro bh) Tryz.func140 fS.b fS.vo

def E48:=en [(140,Sr)] []
def A48:Fn [.I, .R, .R, .R, .R, .I, .R, .R, .I] As:=λa b c d e f g h i=>[aV [.n a, .sh 92 b, .sh 9 c, .sh 9 d, .sh 59 e, .n f, .sh 100 g, .sh 53 h, .n i]]
def k48:Fn [.I, .R, .R, .R, .R, .I, .R, .R, .I] dP:=λa b c d e f g h i=>⟨[aV [.n a, .ow 92 ak b, .ow 9 ak c, .ow 9 ak d, .ow 59 ak e, .n f, .ow 100 ak g, .ow 53 ak h, .n i]],[]⟩
def J8:=eL A48 k48 kZ.c kZ.v
theorem Nj:cF Tryz.prog T 48 J8:=fr (E:=E48) (aN YS bh) Tryz.func48 kZ.b kZ.vo

def E49:=en [] []
def A49:Fn [.I, .I, .I] As:=λa b c=>[aI a,aI b,aI c]
def k49:Fn [.B] dP:=λa=>⟨[aB a],[]⟩
def tU:=eL A49 k49 (ct _) kG.v
theorem uX:cF Tryz.prog T 49 tU:=ft (E:=E49) bh Tryz.func49 kG.b λ(a0,a1,a2,_)=>kG.fM _ a0 a1 a2

def E50:=en [(49,tU)] []
def A50:Fn [.S] As:=λa=>[aS a]
def k50:Fn [.B] dP:=λa=>⟨[aB a],[]⟩
def J9:=eL A50 k50 (ct _) Gr.v
theorem Nk:cF Tryz.prog T 50 J9:=ft (E:=E50) (aN uX bh) Tryz.func50 Gr.b λ(a0,_)=>Gr.fM _ a0

def alm:=en [(50,J9),(49,tU)] []
def ajM:Fn [.S, .I, .I, .S] As:=λa b c d=>[aV [.s a, .n b, .n c, .s d]]
def anG:Fn [.B] dP:=λa=>⟨[aB a],[]⟩
def HY:=eL ajM anG (ct _) iM.v
theorem LN:cF Tryz.prog T 141 HY:=ft (E:=alm) (aN Nk (aN uX bh)) Tryz.func141 iM.b λ(a0,a1,a2,a3,_)=>iM.fM _ a0 a1 a2 a3

def adV:=en [] [(2,[0,1,4,5])]
def ajO:Fn [.R, .S] As:=λa b=>[aH 9 a,aS b]
def anI:Fn [.B] dP:=λa=>⟨[aB a],[]⟩
def wW:Fn [.R, .S, .B, .I] Tb:=λa b c d=>[cH 0 9 a,cA 2 (.s b),cA 8 (.b c),cI 10 d]
def OH(N:aG)(K:Kt R):=eW.l2 N (J wW .ret K) (J wW (.exit 0) K)
def Ym(N:aG):It R:=(lp 2 (al wW (λK=>OH N K N) an) ln)
theorem Vx(N:aG):cB adV (Ym N (R:=R)) (ca Tryz.f143 2):=lq 2 wW (OH N) λK g=>eW.r2 N g (J wW .ret K) (J wW (.exit 0) K)
def L0:=eL ajO anI eW.c eW.v
theorem Rn:cF Tryz.prog T 143 L0:=fq (E:=adV) bh Tryz.func143 (it:=λN=>Ym N) (λN=>(bz (Vx N) bV)) eW.b eW.vo

def alI:=en [(143,L0)] []
def akt:Fn [.R, .R, .R, .I, .S] As:=λa b c d e=>[aV [.sh 9 a, .sh 9 b, .sh 59 c, .n d],aS e]
def aon:Fn [.B] dP:=λa=>⟨[aB a],[]⟩
def SJ:=eL akt aon rX.c rX.v
theorem Y8:cF Tryz.prog T 213 SJ:=fr (E:=alI) (aN Rn bh) Tryz.func213 rX.b rX.vo

def aan:=en [(49,tU)] [(4,[1,2,3]),(9,[1,2,3,4])]
def ajS:Fn [.R, .I] As:=λa b=>[aV [.sh 59 a, .n b]]
def anM:Fn [.B] dP:=λa=>⟨[aB a],[]⟩
def wX:Fn [.B, .I, .R, .I] Tb:=λa b c d=>[cP 2 0,cA 4 (.b a),cI 6 b,oB 1 [.sh 59 c, .n d]]
def wY:Fn [.B, .I, .I, .R, .I] Tb:=λa b c d e=>[cP 2 0,cA 4 (.b a),cI 6 b,cI 8 c,oB 1 [.sh 59 d, .n e]]
def OM(N:aG)(K:Kt R):=fy.l4 N (J wX .ret K) (J wX (.exit 0) K)
def ON(N:aG)(K:Kt R):=fy.l9 N (J wY .ret K) (J wY (.exit 2) K)
def QQ(N:aG):It R:=(lp 4 (al wX (λK=>OM N K N) an) (lp 9 (al wY (λK=>ON N K N) an) ln))
theorem VB(N:aG):cB aan (QQ N (R:=R)) (ca Tryz.f147 4):=lq 4 wX (OM N) λK g=>fy.r4 N g (J wX .ret K) (J wX (.exit 0) K)
theorem VC(N:aG):cB aan (QQ N (R:=R)) (ca Tryz.f147 9):=lq 9 wY (ON N) λK g=>fy.r9 N g (J wY .ret K) (J wY (.exit 2) K)
def L4:=eL ajS anM fy.c fy.v
theorem Rp:cF Tryz.prog T 147 L4:=fq (E:=aan) (aN uX bh) Tryz.func147 (it:=λN=>QQ N) (λN=>(bz (VB N) (bz (VC N) bV))) fy.b fy.vo

def adU:=en [(50,J9),(143,L0),(147,L4)] [(3,[1,2,3,4])]
def ajN:Fn [.R, .R, .R, .I] As:=λa b c d=>[aV [.sh 9 a, .sh 9 b, .sh 59 c, .n d]]
def anH:Fn [.B] dP:=λa=>⟨[aB a],[]⟩
def wV:Fn [.B, .I, .R, .R, .R, .I, .R] Tb:=λa b c d e f g=>[cP 2 0,cA 4 (.b a),cA 6 (.own 1),cI 8 b,oB 1 [.sh 9 c, .sh 9 d, .sh 59 e, .n f],oR 3 9 g]
def OG(N:aG)(K:Kt R):=jm.l3 N (J wV .ret K) (J wV (.exit 0) K)
def Yl(N:aG):It R:=(lp 3 (al wV (λK=>OG N K N) an) ln)
theorem Vw(N:aG):cB adU (Yl N (R:=R)) (ca Tryz.f142 3):=lq 3 wV (OG N) λK g=>jm.r3 N g (J wV .ret K) (J wV (.exit 0) K)
def Ss:=eL ajN anH jm.c jm.v
theorem YT:cF Tryz.prog T 142 Ss:=fq (E:=adU) (aN Nk (aN Rn (aN Rp bh))) Tryz.func142 (it:=λN=>Yl N) (λN=>(bz (Vw N) bV)) jm.b jm.vo

def adS:=en [(141,HY),(213,SJ),(142,Ss)] [(2,[1,2,3])]
def ajJ:Fn [.I, .R, .R, .R, .R, .I, .R, .R, .I] As:=λa b c d e f g h i=>[aV [.n a, .sh 92 b, .sh 9 c, .sh 9 d, .sh 59 e, .n f, .sh 100 g, .sh 53 h, .n i]]
def anD:Fn [.B] dP:=λa=>⟨[aB a],[]⟩
def wT:Fn [.B, .I, .I, .R, .R, .R, .R, .I, .R, .R, .I] Tb:=λa b c d e f g h i j k=>[cP 2 0,cA 4 (.b a),cI 6 b,oB 1 [.n c, .sh 92 d, .sh 9 e, .sh 9 f, .sh 59 g, .n h, .sh 100 i, .sh 53 j, .n k]]
def OD(N:aG)(K:Kt R):=m7.l2 N (J wT .ret K) (J wT (.exit 0) K)
def Yj(N:aG):It R:=(lp 2 (al wT (λK=>OD N K N) an) ln)
theorem Vu(N:aG):cB adS (Yj N (R:=R)) (ca Tryz.f133 2):=lq 2 wT (OD N) λK g=>m7.r2 N g (J wT .ret K) (J wT (.exit 0) K)
def Zy:=eL ajJ anD m7.c m7.v
theorem af8:cF Tryz.prog T 133 Zy:=fq (E:=adS) (aN LN (aN Y8 (aN YT bh))) Tryz.func133 (it:=λN=>Yj N) (λN=>(bz (Vu N) bV)) m7.b m7.vo

def adT:=en [(50,J9),(49,tU)] [(5,[1,2,4,5,6])]
def ajK:Fn [.I, .R, .R, .R, .R, .I, .R, .R, .I, .I] As:=λa b c d e f g h i j=>[aV [.n a, .sh 92 b, .sh 9 c, .sh 9 d, .sh 59 e, .n f, .sh 100 g, .sh 53 h, .n i],aI j]
def anE:Fn [.B] dP:=λa=>⟨[aB a],[]⟩
def wU:Fn [.I, .B, .I, .I, .R, .R, .R, .R, .I, .R, .R, .I, .S, .S, .I, .I, .I] Tb:=λa b c d e f g h i j k l m o p q r=>[cI 2 a,cP 4 0,cA 8 (.b b),cP 10 1,cI 12 c,oB 1 [.n d, .sh 92 e, .sh 9 f, .sh 9 g, .sh 59 h, .n i, .sh 100 j, .sh 53 k, .n l],oB 3 [.s m, .s o, .n p, .n q, .n r]]
def OE(N:aG)(K:Kt R):=m8.l5 N (J wU .ret K) (J wU (.exit 0) K)
def Yk(N:aG):It R:=(lp 5 (al wU (λK=>OE N K N) an) ln)
theorem Vv(N:aG):cB adT (Yk N (R:=R)) (ca Tryz.f134 5):=lq 5 wU (OE N) λK g=>m8.r5 N g (J wU .ret K) (J wU (.exit 0) K)
def Zz:=eL ajK anE m8.c m8.v
theorem af9:cF Tryz.prog T 134 Zz:=fq (E:=adT) (aN Nk (aN uX bh)) Tryz.func134 (it:=λN=>Yk N) (λN=>(bz (Vv N) bV)) m8.b m8.vo

def E43:=en [(49,tU),(133,Zy),(134,Zz),(50,J9)] [(4,[1,2,3]),(9,[1,2,4])]
def A43:Fn [.I, .R, .R, .R, .R, .I, .R, .R, .I] As:=λa b c d e f g h i=>[aV [.n a, .sh 92 b, .sh 9 c, .sh 9 d, .sh 59 e, .n f, .sh 100 g, .sh 53 h, .n i]]
def k43:Fn [.B] dP:=λa=>⟨[aB a],[]⟩
def CU:Fn [.B, .I, .I, .R, .R, .R, .R, .I, .R, .R, .I] Tb:=λa b c d e f g h i j k=>[cP 2 0,cA 4 (.b a),cI 6 b,oB 1 [.n c, .sh 92 d, .sh 9 e, .sh 9 f, .sh 59 g, .n h, .sh 100 i, .sh 53 j, .n k]]
def CW:Fn [.B, .I, .I, .R, .R, .R, .R, .I, .R, .R, .I] Tb:=λa b c d e f g h i j k=>[cP 2 0,cA 4 (.b a),cI 8 b,oB 1 [.n c, .sh 92 d, .sh 9 e, .sh 9 f, .sh 59 g, .n h, .sh 100 i, .sh 53 j, .n k]]
def Xt(N:aG)(K:Kt R):=pY.l4 N (J CU .ret K) (J CU (.exit 0) K)
def Xu(N:aG)(K:Kt R):=pY.l9 N (J CW .ret K) (J CW (.exit 2) K)
def abO(N:aG):It R:=(lp 4 (al CU (λK=>Xt N K N) an) (lp 9 (al CW (λK=>Xu N K N) an) ln))
theorem ab1(N:aG):cB E43 (abO N (R:=R)) (ca Tryz.f43 4):=lq 4 CU (Xt N) λK g=>pY.r4 N g (J CU .ret K) (J CU (.exit 0) K)
theorem ab2(N:aG):cB E43 (abO N (R:=R)) (ca Tryz.f43 9):=lq 9 CW (Xu N) λK g=>pY.r9 N g (J CW .ret K) (J CW (.exit 2) K)
def acF:=eL A43 k43 pY.c pY.v
theorem agS:cF Tryz.prog T 43 acF:=fq (E:=E43) (aN uX (aN af8 (aN af9 (aN Nk bh)))) Tryz.func43 (it:=λN=>abO N) (λN=>(bz (ab1 N) (bz (ab2 N) bV))) pY.b pY.vo

def E51:=en [] [(2,[1,2,4,5,6])]
def A51:Fn [.I, .R, .R, .R, .R, .I, .R, .R, .I, .S] As:=λa b c d e f g h i j=>[aV [.n a, .sh 92 b, .sh 9 c, .sh 9 d, .sh 59 e, .n f, .sh 100 g, .sh 53 h, .n i],aS j]
def k51:Fn [.S, .I, .I, .S, .B] dP:=λa b c d e=>⟨[aV [.s a, .n b, .n c, .s d],aB e],[]⟩
def CX:Fn [.S, .B, .I, .I, .R, .R, .R, .R, .I, .R, .R, .I, .S, .I, .I, .S] Tb:=λa b c d e f g h i j k l m o p q=>[cA 2 (.s a),cP 4 0,cP 8 1,cA 10 (.b b),cI 12 c,oB 1 [.n d, .sh 92 e, .sh 9 f, .sh 9 g, .sh 59 h, .n i, .sh 100 j, .sh 53 k, .n l],oB 3 [.s m, .n o, .n p, .s q]]
def Xv(N:aG)(K:Kt R):=KT.l2 N (J CX .ret K) (J CX (.exit 0) K)
def afx(N:aG):It R:=(lp 2 (al CX (λK=>Xv N K N) an) ln)
theorem ab3(N:aG):cB E51 (afx N (R:=R)) (ca Tryz.f51 2):=lq 2 CX (Xv N) λK g=>KT.r2 N g (J CX .ret K) (J CX (.exit 0) K)
def ahJ:=eL A51 k51 KT.c KT.v
theorem apv:cF Tryz.prog T 51 ahJ:=fq (E:=E51) bh Tryz.func51 (it:=λN=>afx N) (λN=>(bz (ab3 N) bV)) KT.b KT.vo

def E52:=en [(141,HY),(49,tU)] []
def A52:Fn [.S, .I, .I, .S, .I] As:=λa b c d e=>[aV [.s a, .n b, .n c, .s d],aI e]
def k52:Fn [.B] dP:=λa=>⟨[aB a],[]⟩
def WU:=eL A52 k52 (ct _) Ez.v
theorem acm:cF Tryz.prog T 52 WU:=ft (E:=E52) (aN LN (aN uX bh)) Tryz.func52 Ez.b λ(a0,a1,a2,a3,a4,_)=>Ez.fM _ a0 a1 a2 a3 a4

def aar:=en [] [(2,[0,1,5]),(6,[0,1,5,6])]
def akO:Fn [.I, .S] As:=λa b=>[.v aq [.i .u32 a],aS b]
def aoI:Fn [.I] dP:=λa=>⟨[.v aq [.i .u32 a]],[]⟩
def Ed:Fn [.I, .S, .I] Tb:=λa b c=>[cA 0 (.i .u32 a),cA 2 (.s b),cI 10 c]
def Ee:Fn [.I, .S, .I, .I] Tb:=λa b c d=>[cA 0 (.i .u32 a),cA 2 (.s b),cI 10 c,cI 12 d]
def Pb(N:aG)(K:Kt R):=jw.l2 N (J Ed (.exit 0) K)
def Pc(N:aG)(K:Kt R):=jw.l6 N (J Ee (.exit 2) K)
def QW(N:aG):It R:=(lp 2 (al Ed (λK=>Pb N K N) an) (lp 6 (al Ee (λK=>Pc N K N) an) ln))
theorem VX(N:aG):cB aar (QW N (R:=R)) (ca Tryz.f250 2):=lq 2 Ed (Pb N) λK g=>jw.r2 N g (J Ed (.exit 0) K)
theorem VY(N:aG):cB aar (QW N (R:=R)) (ca Tryz.f250 6):=lq 6 Ee (Pc N) λK g=>jw.r6 N g (J Ee (.exit 2) K)
def ZY:=eL akO aoI jw.c jw.v
theorem agD:cF Tryz.prog T 250 ZY:=fq (E:=aar) bh Tryz.func250 (it:=λN=>QW N) (λN=>(bz (VX N) (bz (VY N) bV))) jw.b jw.vo

def alJ:=en [(250,ZY)] []
def aku:Fn [.S] As:=λa=>[aS a]
def aoo:Fn [.I] dP:=λa=>⟨[.v aq [.i .u32 a]],[]⟩
def SK:=eL aku aoo uJ.c uJ.v
theorem Y9:cF Tryz.prog T 215 SK:=fr (E:=alJ) (aN agD bh) Tryz.func215 uJ.b uJ.vo

def aln:=en [(215,SK)] []
def ajT:Fn [.I, .S] As:=λa b=>[aI a,aS b]
def anN:Fn [.I] dP:=λa=>⟨[aI a],[]⟩
def Sv:=eL ajT anN f_.c f_.v
theorem YV:cF Tryz.prog T 148 Sv:=fr (E:=aln) (aN Y9 bh) Tryz.func148 f_.b f_.vo

def E57:=en [(146,L3),(147,L4),(148,Sv)] [(5,[1,4,5,6]),(14,[4,5,8]),(17,[4,5,8,9])]
def A57:Fn [.R, .I, .S] As:=λa b c=>[aV [.sh 59 a, .n b],aS c]
def k57:Fn [.R, .I] dP:=λa b=>⟨[aV [.ow 59 ak a, .n b]],[]⟩
def KL:Fn [.S, .I, .I, .I, .R] Tb:=λa b c d e=>[cA 2 (.s a),cP 8 0,cP 10 1,cI 12 b,oB 1 [.nl, .n c],oB 3 [.own 2, .n d],oR 5 59 e]
def Eo:Fn [.I, .I, .I, .R] Tb:=λa b c d=>[cP 8 0,cP 10 1,cI 16 a,oB 1 [.nl, .n b],oB 3 [.own 2, .n c],oR 5 59 d]
def Ep:Fn [.I, .I, .I, .I, .R] Tb:=λa b c d e=>[cP 8 0,cP 10 1,cI 16 a,cI 18 b,oB 1 [.nl, .n c],oB 3 [.own 2, .n d],oR 5 59 e]
def Xz(N:aG)(K:Kt R):=fK.l5 N (J KL (.exit 0) K)
def Py(N:aG)(K:Kt R):=fK.l14 N (J Eo (.exit 2) K)
def Pz(N:aG)(K:Kt R):=fK.l17 N (J Ep (.exit 4) K)
def Vh(N:aG):It R:=(lp 5 (al KL (λK=>Xz N K N) an) (lp 14 (al Eo (λK=>Py N K N) an) (lp 17 (al Ep (λK=>Pz N K N) an) ln)))
theorem ab7(N:aG):cB E57 (Vh N (R:=R)) (ca Tryz.f57 5):=lq 5 KL (Xz N) λK g=>fK.r5 N g (J KL (.exit 0) K)
theorem Wh(N:aG):cB E57 (Vh N (R:=R)) (ca Tryz.f57 14):=lq 14 Eo (Py N) λK g=>fK.r14 N g (J Eo (.exit 2) K)
theorem Wi(N:aG):cB E57 (Vh N (R:=R)) (ca Tryz.f57 17):=lq 17 Ep (Pz N) λK g=>fK.r17 N g (J Ep (.exit 4) K)
def acI:=eL A57 k57 fK.c fK.v
theorem agV:cF Tryz.prog T 57 acI:=fq (E:=E57) (aN Ro (aN Rp (aN YV bh))) Tryz.func57 (it:=λN=>Vh N) (λN=>(bz (ab7 N) (bz (Wh N) (bz (Wi N) bV)))) fK.b fK.vo

def adW:=en [] [(3,[0,1,5,6])]
def ajP:Fn [.R, .S] As:=λa b=>[aH 9 a,aS b]
def anJ:Fn [.R] dP:=λa=>⟨[aO 9 a],[]⟩
def D3:Fn [.R, .S, .I, .R] Tb:=λa b c d=>[cH 0 9 a,cA 2 (.s b),cA 10 (.own 0),cI 12 c,oR 1 9 d]
def OI(N:aG)(K:Kt R):=oA.l3 N (J D3 (.exit 0) K)
def Yn(N:aG):It R:=(lp 3 (al D3 (λK=>OI N K N) an) ln)
theorem Vy(N:aG):cB adW (Yn N (R:=R)) (ca Tryz.f144 3):=lq 3 D3 (OI N) λK g=>oA.r3 N g (J D3 (.exit 0) K)
def Su:=eL ajP anJ oA.c oA.v
theorem YU:cF Tryz.prog T 144 Su:=fq (E:=adW) bh Tryz.func144 (it:=λN=>Yn N) (λN=>(bz (Vy N) bV)) oA.b oA.vo

def adX:=en [(147,L4),(148,Sv)] [(5,[1,2,5,6])]
def ajQ:Fn [.R, .I, .S] As:=λa b c=>[aV [.sh 59 a, .n b],aS c]
def anK:Fn [.I] dP:=λa=>⟨[aI a],[]⟩
def D4:Fn [.S, .I, .I, .R, .I] Tb:=λa b c d e=>[cA 2 (.s a),cP 4 0,cI 10 b,cI 12 c,oB 1 [.sh 59 d, .n e]]
def OJ(N:aG)(K:Kt R):=lX.l5 N (J D4 (.exit 0) K)
def Yo(N:aG):It R:=(lp 5 (al D4 (λK=>OJ N K N) an) ln)
theorem Vz(N:aG):cB adX (Yo N (R:=R)) (ca Tryz.f145 5):=lq 5 D4 (OJ N) λK g=>lX.r5 N g (J D4 (.exit 0) K)
def ZA:=eL ajQ anK lX.c lX.v
theorem af_:cF Tryz.prog T 145 ZA:=fq (E:=adX) (aN Rp (aN YV bh)) Tryz.func145 (it:=λN=>Yo N) (λN=>(bz (Vz N) bV)) lX.b lX.vo

def E53:=en [(140,Sr),(142,Ss),(50,J9),(57,acI),(143,L0),(144,Su),(145,ZA)] []
def A53:Fn [.R, .R, .R, .I, .S] As:=λa b c d e=>[aV [.sh 9 a, .sh 9 b, .sh 59 c, .n d],aS e]
def k53:Fn [.R, .R, .R, .I, .S] dP:=λa b c d e=>⟨[aV [.ow 9 ak a, .ow 9 ak b, .ow 59 ak c, .n d],aS e],[]⟩
def acG:=eL A53 k53 jv.c jv.v
theorem agT:cF Tryz.prog T 53 acG:=fr (E:=E53) (aN YS (aN YT (aN Nk (aN agV (aN Rn (aN YU (aN af_ bh))))))) Tryz.func53 jv.b jv.vo

def E54:=en [] [(3,[0,3,5,6]),(9,[0,3,5,7])]
def A54:Fn [.R, .I, .S, .I, .I, .I, .S, .I] As:=λa b c d e f g h=>[aH 53 a,aV [.n b, .s c, .n d, .n e, .n f, .s g, .n h]]
def k54:Fn [.R] dP:=λa=>⟨[aO 53 a],[]⟩
def KI:Fn [.R, .I, .I, .S, .I, .I, .I, .S, .I, .R] Tb:=λa b c d e f g h i j=>[cH 0 53 a,cP 6 0,cA 10 (.own 1),cI 12 b,oB 1 [.n c, .s d, .n e, .n f, .n g, .s h, .n i],oR 3 53 j]
def KJ:Fn [.R, .I, .I, .S, .I, .I, .I, .S, .I, .R] Tb:=λa b c d e f g h i j=>[cH 0 53 a,cP 6 0,cA 10 (.own 1),cI 14 b,oB 1 [.n c, .s d, .n e, .n f, .n g, .s h, .n i],oR 3 53 j]
def Xw(N:aG)(K:Kt R):=ub.l3 N (J KI (.exit 0) K)
def Xx(N:aG)(K:Kt R):=ub.l9 N (J KJ (.exit 2) K)
def abP(N:aG):It R:=(lp 3 (al KI (λK=>Xw N K N) an) (lp 9 (al KJ (λK=>Xx N K N) an) ln))
theorem ab4(N:aG):cB E54 (abP N (R:=R)) (ca Tryz.f54 3):=lq 3 KI (Xw N) λK g=>ub.r3 N g (J KI (.exit 0) K)
theorem ab5(N:aG):cB E54 (abP N (R:=R)) (ca Tryz.f54 9):=lq 9 KJ (Xx N) λK g=>ub.r9 N g (J KJ (.exit 2) K)
def ahK:=eL A54 k54 ub.c ub.v
theorem apw:cF Tryz.prog T 54 ahK:=fq (E:=E54) bh Tryz.func54 (it:=λN=>abP N) (λN=>(bz (ab4 N) (bz (ab5 N) bV))) ub.b ub.vo

def E55:=en [] [(3,[0,1,5,6])]
def A55:Fn [.R, .S] As:=λa b=>[aH 92 a,aS b]
def k55:Fn [.R] dP:=λa=>⟨[aO 92 a],[]⟩
def KK:Fn [.R, .S, .I, .R] Tb:=λa b c d=>[cH 0 92 a,cA 2 (.s b),cA 10 (.own 0),cI 12 c,oR 1 92 d]
def Xy(N:aG)(K:Kt R):=Ci.l3 N (J KK (.exit 0) K)
def afy(N:aG):It R:=(lp 3 (al KK (λK=>Xy N K N) an) ln)
theorem ab6(N:aG):cB E55 (afy N (R:=R)) (ca Tryz.f55 3):=lq 3 KK (Xy N) λK g=>Ci.r3 N g (J KK (.exit 0) K)
def acH:=eL A55 k55 Ci.c Ci.v
theorem agU:cF Tryz.prog T 55 acH:=fq (E:=E55) bh Tryz.func55 (it:=λN=>afy N) (λN=>(bz (ab6 N) bV)) Ci.b Ci.vo

def E56:=en [(144,Su),(146,L3)] []
def A56:Fn [.R, .R, .R, .I, .S] As:=λa b c d e=>[aV [.sh 9 a, .sh 9 b, .sh 59 c, .n d],aS e]
def k56:Fn [.R, .R, .R, .I] dP:=λa b c d=>⟨[aV [.ow 9 ak a, .ow 9 ak b, .ow 59 ak c, .n d]],[]⟩
def ahL:=eL A56 k56 H_.c H_.v
theorem apx:cF Tryz.prog T 56 ahL:=fr (E:=E56) (aN YU (aN Ro bh)) Tryz.func56 H_.b H_.vo

def E9:=en [(48,J8),(43,acF),(49,tU),(50,J9),(51,ahJ),(52,WU),(53,acG),(54,ahK),(55,acH),(56,ahL),(57,acI)] [(5,[1,2,3,6,7,8,9]),(22,[2,3,6,8,10,12,13])]
def A9:Fn [.I, .R, .R, .R, .R, .I, .R, .R, .I, .I, .S] As:=λa b c d e f g h i j k=>[aV [.n a, .sh 92 b, .sh 9 c, .sh 9 d, .sh 59 e, .n f, .sh 100 g, .sh 53 h, .n i],aI j,aS k]
def k9:Fn [.I, .R, .R, .R, .R, .I, .R, .R, .I, .I] dP:=λa b c d e f g h i j=>⟨[aV [.n a, .ow 92 ak b, .ow 9 ak c, .ow 9 ak d, .ow 59 ak e, .n f, .ow 100 ak g, .ow 53 ak h, .n i],aI j],[]⟩
def Ui:Fn [.I, .S, .I, .I, .I, .R, .R, .R, .R, .I, .R, .R, .I, .I, .I, .I, .I, .I, .I, .R, .R, .R, .R, .R, .R] Tb:=λa b c d e f g h i j k l m o p q r s t u v w x y z=>[cI 2 a,cA 4 (.s b),cP 6 0,cP 12 1,cI 14 c,cP 16 2,cI 18 d,oB 1 [.n e, .sh 92 f, .sh 9 g, .sh 9 h, .sh 59 i, .n j, .sh 100 k, .sh 53 l, .n m],oB 3 [.n o, .nl, .nl, .nl, .nl, .n p, .nl, .nl, .n q],oB 5 [.n r, .own 3, .own 4, .own 5, .own 6, .n s, .own 7, .own 8, .n t],oR 7 92 u,oR 9 9 v,oR 11 9 w,oR 13 59 x,oR 15 100 y,oR 17 53 z]
def PR:Fn [.I, .S, .I, .I, .I, .R, .R, .R, .R, .I, .R, .R, .I, .I, .I, .I, .I, .I, .I, .R, .R, .R, .R, .R, .R] Tb:=λa b c d e f g h i j k l m o p q r s t u v w x y z=>[cI 2 a,cA 4 (.s b),cP 6 0,cP 12 1,cI 14 c,cP 16 2,cI 18 d,oB 1 [.n e, .sh 92 f, .sh 9 g, .sh 9 h, .sh 59 i, .n j, .sh 100 k, .sh 53 l, .n m],oB 3 [.n o, .own 3, .own 4, .own 5, .own 6, .n p, .own 7, .own 8, .n q],oB 5 [.n r, .own 3, .own 4, .own 5, .own 6, .n s, .own 7, .own 8, .n t],oR 7 92 u,oR 9 9 v,oR 11 9 w,oR 13 59 x,oR 15 100 y,oR 17 53 z]
def KR:Fn [.S, .B, .I, .I, .R, .R, .R, .R, .I, .R, .R, .I, .I, .I, .I, .I, .I, .I, .I, .S, .I, .I, .I, .S, .I, .R, .R, .R, .R, .R, .R] Tb:=λa b c d e f g h i j k l m o p q r s t u v w x y z aa ab ac ad ae af=>[cA 4 (.s a),cP 6 0,cP 12 1,cP 16 2,cP 20 3,cA 24 (.b b),cI 26 c,oB 1 [.n d, .sh 92 e, .sh 9 f, .sh 9 g, .sh 59 h, .n i, .sh 100 j, .sh 53 k, .n l],oB 3 [.n m, .nl, .nl, .nl, .nl, .n o, .nl, .nl, .n p],oB 5 [.n q, .own 4, .own 5, .own 6, .own 7, .n r, .own 8, .own 9, .n s],oB 7 [.n t, .s u, .n v, .n w, .n x, .s y, .n z],oR 9 92 aa,oR 11 9 ab,oR 13 9 ac,oR 15 59 ad,oR 17 100 ae,oR 19 53 af]
def aet(N:aG)(K:Kt R):=U9.l5 N (J PR .ret K) (J Ui (.exit 0) K)
def XL(N:aG)(K:Kt R):=U9.Vn N (J KR (.exit 2) K)
def it9(N:aG):It R:=(lp 5 (al Ui (λK=>aet N K N) an) (lp 22 (al KR (λK=>XL N K N) an) ln))
theorem afN(N:aG):cB E9 (it9 N (R:=R)) (ca Tryz.f9 5):=lq 5 Ui (aet N) λK g=>U9.r5 N g (J PR .ret K) (J Ui (.exit 0) K)
theorem aci(N:aG):cB E9 (it9 N (R:=R)) (ca Tryz.f9 22):=lq 22 KR (XL N) λK g=>U9.r22 N g (J KR (.exit 2) K)
def sp9:=eL A9 k9 U9.c U9.v
theorem ok9:cF Tryz.prog T 9 sp9:=fq (E:=E9) (aN Nj (aN agS (aN uX (aN Nk (aN apv (aN acm (aN agT (aN apw (aN agU (aN apx (aN agV bh))))))))))) Tryz.func9 (it:=λN=>it9 N) (λN=>(bz (afN N) (bz (aci N) bV))) U9.b U9.vo

def alh:=en [(43,acF),(49,tU)] []
def ajF:Fn [.I, .R, .R, .R, .R, .I, .R, .R, .I, .I] As:=λa b c d e f g h i j=>[aV [.n a, .sh 92 b, .sh 9 c, .sh 9 d, .sh 59 e, .n f, .sh 100 g, .sh 53 h, .n i],aI j]
def anz:Fn [.B] dP:=λa=>⟨[aB a],[]⟩
def LY:=eL ajF anz tL.c tL.v
theorem Rl:cF Tryz.prog T 129 LY:=fr (E:=alh) (aN agS (aN uX bh)) Tryz.func129 tL.b tL.vo

def alH:=en [] []
def akr:Fn [.I, .S, .R] As:=λa b c=>[aV [.n a, .s b, .sh 231 c]]
def aol:Fn [.I, .S, .R] dP:=λa b c=>⟨[aV [.n a, .s b, .ow 231 ak c]],[]⟩
def ZO:=eL akr aol ID.c ID.v
theorem ags:cF Tryz.prog T 211 ZO:=fh (E:=alH) bh Tryz.func211 (it:=λ_=>ln) (λ_=>bV) (λ_=>ID.b) λx f h=>⟨0,ID.fM _ x.1 x.2.1 x.2.2.1 h⟩

def ad7:=en [(49,tU)] [(2,[1,2,3])]
def aks:Fn [.I, .S, .R] As:=λa b c=>[aV [.n a, .s b, .sh 231 c]]
def aom:Fn [.B] dP:=λa=>⟨[aB a],[]⟩
def xB:Fn [.B, .I, .I, .S, .R] Tb:=λa b c d e=>[cP 2 0,cA 4 (.b a),cI 6 b,oB 1 [.n c, .s d, .sh 231 e]]
def O5(N:aG)(K:Kt R):=kY.l2 N (J xB .ret K) (J xB (.exit 0) K)
def Yy(N:aG):It R:=(lp 2 (al xB (λK=>O5 N K N) an) ln)
theorem VR(N:aG):cB ad7 (Yy N (R:=R)) (ca Tryz.f212 2):=lq 2 xB (O5 N) λK g=>kY.r2 N g (J xB .ret K) (J xB (.exit 0) K)
def ZP:=eL aks aom (ct _) kY.v
theorem agt:cF Tryz.prog T 212 ZP:=fh (E:=ad7) (aN uX bh) Tryz.func212 (it:=λN=>Yy N) (λN=>(bz (VR N) bV)) kY.b λx f h=>kY.fM _ x.1 x.2.1 x.2.2.1 f.1.2.1 f.1.2.2.1

def ali:=en [(211,ZO),(212,ZP),(49,tU)] []
def ajG:Fn [.I, .S, .R, .S] As:=λa b c d=>[aV [.n a, .s b, .sh 231 c],aS d]
def anA:Fn [.I, .S, .R, .B] dP:=λa b c d=>⟨[aV [.n a, .s b, .ow 231 ak c],aB d],[]⟩
def Zx:=eL ajG anA Et.c Et.v
theorem af7:cF Tryz.prog T 130 Zx:=fh (E:=ali) (aN ags (aN agt (aN uX bh))) Tryz.func130 (it:=λ_=>ln) (λ_=>bV) (λ_=>Et.b) λx f h=>⟨0,Et.fM _ x.1 x.2.1 x.2.2.1 x.2.2.2.1 h f.1.2.1 f.1.2.2.1 f.2.1.1⟩

def adR:=en [] [(1,[0,1,2,6])]
def ajH:Fn [.I, .R, .R, .R, .R, .I, .R, .R, .I, .I, .I] As:=λa b c d e f g h i j k=>[.pt [.n a, .ow 92 ak b, .ow 9 ak c, .ow 9 ak d, .ow 59 ak e, .n f, .ow 100 ak g, .ow 53 ak h, .n i],aI j,aI k]
def anB:Fn [.I, .R, .R, .R, .R, .I, .R, .R, .I] dP:=λa b c d e f g h i=>⟨[],[[.n a, .kp b, .kp c, .kp d, .kp e, .n f, .kp g, .kp h, .n i]]⟩
def D0:Fn [.I, .I, .I, .I, .I, .I, .R, .R, .R, .R, .R, .R] Tb:=λa b c d e f g h i j k l=>[cP 0 900000900,cI 2 a,cI 4 b,cI 12 c,oB 1800001801 [.n d, .own 900000001, .own 900000002, .own 900000003, .own 900000004, .n e, .own 900000006, .own 900000007, .n f],oR 1800000003 92 g,oR 1800000005 9 h,oR 1800000007 9 i,oR 1800000009 59 j,oR 1800000013 100 k,oR 1800000015 53 l]
def OC(N:aG)(K:Kt R):=rH.l1 N (J D0 (.exit 0) K)
def Yi(N:aG):It R:=(lp 1 (al D0 (λK=>OC N K N) an) ln)
theorem Vt(N:aG):cB adR (Yi N (R:=R)) (ca Tryz.f131 1):=lq 1 D0 (OC N) λK g=>rH.r1 N g (J D0 (.exit 0) K)
def LZ:=eL ajH anB rH.c rH.v
theorem Rm:cF Tryz.prog T 131 LZ:=fq (E:=adR) bh Tryz.func131 (it:=λN=>Yi N) (λN=>(bz (Vt N) bV)) rH.b rH.vo

def E38:=en [(48,J8),(129,LY),(130,Zx),(131,LZ)] []
def A38:Fn [.I, .R, .R, .R, .R, .I, .R, .R, .I, .I, .S] As:=λa b c d e f g h i j k=>[aV [.n a, .sh 92 b, .sh 9 c, .sh 9 d, .sh 59 e, .n f, .sh 100 g, .sh 53 h, .n i],aI j,aS k]
def k38:Fn [.I, .R, .R, .R, .R, .I, .R, .R, .I, .B] dP:=λa b c d e f g h i j=>⟨[aV [.n a, .ow 92 ak b, .ow 9 ak c, .ow 9 ak d, .ow 59 ak e, .n f, .ow 100 ak g, .ow 53 ak h, .n i],aB j],[]⟩
def ahG:=eL A38 k38 TF.c TF.v
theorem aps:cF Tryz.prog T 38 ahG:=fr (E:=E38) (aN Nj (aN Rl (aN af7 (aN Rm bh)))) Tryz.func38 TF.b TF.vo

def aap:=en [] [(3,[0,3,5,6]),(9,[0,3,5,7])]
def akk:Fn [.R, .S, .I, .I, .S] As:=λa b c d e=>[aH 92 a,aV [.s b, .n c, .n d, .s e]]
def aoe:Fn [.R] dP:=λa=>⟨[aO 92 a],[]⟩
def D_:Fn [.R, .I, .S, .I, .I, .S, .R] Tb:=λa b c d e f g=>[cH 0 92 a,cP 6 0,cA 10 (.own 1),cI 12 b,oB 1 [.s c, .n d, .n e, .s f],oR 3 92 g]
def Ea:Fn [.R, .I, .S, .I, .I, .S, .R] Tb:=λa b c d e f g=>[cH 0 92 a,cP 6 0,cA 10 (.own 1),cI 14 b,oB 1 [.s c, .n d, .n e, .s f],oR 3 92 g]
def O3(N:aG)(K:Kt R):=fL.l3 N (J D_ (.exit 0) K)
def O4(N:aG)(K:Kt R):=fL.l9 N (J Ea (.exit 2) K)
def QU(N:aG):It R:=(lp 3 (al D_ (λK=>O3 N K N) an) (lp 9 (al Ea (λK=>O4 N K N) an) ln))
theorem VP(N:aG):cB aap (QU N (R:=R)) (ca Tryz.f198 3):=lq 3 D_ (O3 N) λK g=>fL.r3 N g (J D_ (.exit 0) K)
theorem VQ(N:aG):cB aap (QU N (R:=R)) (ca Tryz.f198 9):=lq 9 Ea (O4 N) λK g=>fL.r9 N g (J Ea (.exit 2) K)
def SG:=eL akk aoe fL.c fL.v
theorem Y6:cF Tryz.prog T 198 SG:=fq (E:=aap) bh Tryz.func198 (it:=λN=>QU N) (λN=>(bz (VP N) (bz (VQ N) bV))) fL.b fL.vo

def alj:=mkE T md [(53,acG),(55,acH),(213,SJ),(198,SG)] [] [] [(0,1, .own 92),(0,2, .own 9),(0,3, .own 9),(0,4, .own 59)]
def ajI:Fn [.I, .R, .R, .R, .R, .I, .R, .R, .I, .S, .I, .I, .S] As:=λa b c d e f g h i j k l m=>[.pt [.n a, .ow 92 ak b, .ow 9 ak c, .ow 9 ak d, .ow 59 ak e, .n f, .ow 100 ak g, .ow 53 ak h, .n i],aV [.s j, .n k, .n l, .s m]]
def anC:Fn [.I, .R, .R, .R, .R, .I, .R, .R, .I] dP:=λa b c d e f g h i=>⟨[],[[.n a, .ow 92 ak b, .ow 9 ak c, .ow 9 ak d, .ow 59 ak e, .n f, .kp g, .kp h, .n i]]⟩
def Sq:=eL ajI anC xJ.c xJ.v
theorem YR:cF Tryz.prog T 132 Sq:=fr (E:=alj) (aN agT (aN agU (aN Y8 (aN Y6 bh)))) Tryz.func132 xJ.b xJ.vo

def E40:=en [(48,J8),(129,LY),(49,tU),(131,LZ),(132,Sq)] []
def A40:Fn [.I, .R, .R, .R, .R, .I, .R, .R, .I, .I, .I] As:=λa b c d e f g h i j k=>[aV [.n a, .sh 92 b, .sh 9 c, .sh 9 d, .sh 59 e, .n f, .sh 100 g, .sh 53 h, .n i],aI j,aI k]
def k40:Fn [.I, .R, .R, .R, .R, .I, .R, .R, .I, .B] dP:=λa b c d e f g h i j=>⟨[aV [.n a, .ow 92 ak b, .ow 9 ak c, .ow 9 ak d, .ow 59 ak e, .n f, .ow 100 ak g, .ow 53 ak h, .n i],aB j],[]⟩
def ahH:=eL A40 k40 TG.c TG.v
theorem apt:cF Tryz.prog T 40 ahH:=fr (E:=E40) (aN Nj (aN Rl (aN uX (aN Rm (aN YR bh))))) Tryz.func40 TG.b TG.vo

def aec:=en [] [(2,[0,3])]
def akW:Fn [.I] As:=λa=>[aI a]
def aoQ:Fn [.S] dP:=λa=>⟨[aS a],[]⟩
def Eh:Fn [.I, .R] Tb:=λa b=>[cI 0 a,cA 6 (.own 0),oR 1 5 b]
def Pn(N:aG)(K:Kt R):=jX.l2 N (J Eh (.exit 0) K)
def YE(N:aG):It R:=(lp 2 (al Eh (λK=>Pn N K N) an) ln)
theorem V9(N:aG):cB aec (YE N (R:=R)) (ca Tryz.f264 2):=lq 2 Eh (Pn N) λK g=>jX.r2 N g (J Eh (.exit 0) K)
def Mc:=eL akW aoQ jX.c jX.v
theorem Rz:cF Tryz.prog T 264 Mc:=fh (E:=aec) bh Tryz.func264 (it:=λN=>YE N) (λN=>(bz (V9 N) bV)) jX.b λx f h=>jX.fM _ x.1 h

def alT:=en [(141,HY),(264,Mc)] []
def akJ:Fn [.S, .I, .I, .S] As:=λa b c d=>[aV [.s a, .n b, .n c, .s d]]
def aoD:Fn [.S, .B] dP:=λa b=>⟨[aS a,aB b],[]⟩
def Mb:=eL akJ aoD (ct _) jP.v
theorem Ry:cF Tryz.prog T 241 Mb:=fh (E:=alT) (aN LN (aN Rz bh)) Tryz.func241 (it:=λ_=>ln) (λ_=>bV) (λ_=>jP.b) λx f h=>⟨0,jP.fM _ x.1 x.2.1 x.2.2.1 x.2.2.2.1⟩

def alX:=en [] []
def akX:Fn [.I] As:=λa=>[.v aq [.i .u32 a]]
def aoR:Fn [.S] dP:=λa=>⟨[aS a],[]⟩
def Z5:=eL akX aoR (ct _) o7.v
theorem agK:cF Tryz.prog T 265 Z5:=ft (E:=alX) bh Tryz.func265 o7.b λ(a0,_)=>o7.fM _ a0

def alR:=en [(49,tU),(264,Mc),(215,SK),(265,Z5)] []
def akH:Fn [.S] As:=λa=>[aS a]
def aoB:Fn [.S, .B] dP:=λa b=>⟨[aS a,aB b],[]⟩
def Ma:=eL akH aoB fU.c fU.v
theorem Rx:cF Tryz.prog T 239 Ma:=fr (E:=alR) (aN uX (aN Rz (aN Y9 (aN agK bh)))) Tryz.func239 fU.b fU.vo

def alY:=en [(241,Mb),(239,Ma)] []
def akZ:Fn [.S, .I, .I, .S] As:=λa b c d=>[aV [.s a, .n b, .n c, .s d]]
def aoT:Fn [.R, .B] dP:=λa b=>⟨[aO 268 a,aB b],[]⟩
def Z6:=eL akZ aoT Cg.c Cg.v
theorem agL:cF Tryz.prog T 270 Z6:=fr (E:=alY) (aN Ry (aN Rx bh)) Tryz.func270 Cg.b Cg.vo

def alQ:=en [(49,tU)] []
def akE:Fn [.S] As:=λa=>[aS a]
def aoy:Fn [.B] dP:=λa=>⟨[aB a],[]⟩
def SP:=eL akE aoy (ct _) pJ.v
theorem Zb:cF Tryz.prog T 236 SP:=ft (E:=alQ) (aN uX bh) Tryz.func236 pJ.b λ(a0,_)=>pJ.fM _ a0

def ad5:=en [(236,SP),(49,tU)] [(4,[1,2,3])]
def akg:Fn [.R] As:=λa=>[aV [.sh 236 a]]
def aoa:Fn [.B] dP:=λa=>⟨[aB a],[]⟩
def xA:Fn [.B, .I, .R] Tb:=λa b c=>[cP 2 0,cA 4 (.b a),cI 6 b,oB 1 [.sh 236 c]]
def OZ(N:aG)(K:Kt R):=dF.l4 N (J xA .ret K) (J xA (.exit 0) K)
def Yw(N:aG):It R:=(lp 4 (al xA (λK=>OZ N K N) an) ln)
theorem VN(N:aG):cB ad5 (Yw N (R:=R)) (ca Tryz.f194 4):=lq 4 xA (OZ N) λK g=>dF.r4 N g (J xA .ret K) (J xA (.exit 0) K)
def HZ:=eL akg aoa dF.c dF.v
theorem LO:cF Tryz.prog T 194 HZ:=fq (E:=ad5) (aN Zb (aN uX bh)) Tryz.func194 (it:=λN=>Yw N) (λN=>(bz (VN N) bV)) dF.b dF.vo

def ad_:=en [] [(2,[1,2,4,5])]
def akF:Fn [.R, .S] As:=λa b=>[aV [.sh 236 a],aS b]
def aoz:Fn [.I] dP:=λa=>⟨[aI a],[]⟩
def xD:Fn [.S, .I, .I, .R] Tb:=λa b c d=>[cA 2 (.s a),cP 4 0,cI 8 b,cI 10 c,oB 1 [.sh 236 d]]
def O9(N:aG)(K:Kt R):=jf.l2 N (J xD .ret K) (J xD (.exit 0) K)
def YB(N:aG):It R:=(lp 2 (al xD (λK=>O9 N K N) an) ln)
theorem VV(N:aG):cB ad_ (YB N (R:=R)) (ca Tryz.f237 2):=lq 2 xD (O9 N) λK g=>jf.r2 N g (J xD .ret K) (J xD (.exit 0) K)
def SQ:=eL akF aoz jf.c jf.v
theorem Zc:cF Tryz.prog T 237 SQ:=fq (E:=ad_) bh Tryz.func237 (it:=λN=>YB N) (λN=>(bz (VV N) bV)) jf.b jf.vo

def Oo:=en [] [(3,[2,3,4,5,6]),(9,[2,3,4,5,7])]
def ak5:Fn [.R, .S, .S, .I] As:=λa b c d=>[aV [.sh 236 a],aV [.s b, .s c, .n d]]
def aoZ:Fn [.R] dP:=λa=>⟨[aV [.ow 236 ak a]],[]⟩
def qJ:Fn [.I, .R, .S, .S, .I] Tb:=λa b c d e=>[cP 4 0,cP 6 1,cP 8 2,cP 10 3,cI 12 a,oB 1 [.sh 236 b],oB 3 [.s c, .s d, .n e],oB 5 [.nl],oB 7 [.nl]]
def nY:Fn [.I, .R, .S, .S, .I, .R] Tb:=λa b c d e f=>[cP 4 0,cP 6 1,cP 8 2,cP 10 3,cI 12 a,oB 1 [.sh 236 b],oB 3 [.s c, .s d, .n e],oB 5 [.nl],oB 7 [.own 4],oR 9 236 f]
def Em:Fn [.I, .R, .S, .S, .I, .R] Tb:=λa b c d e f=>[cP 4 0,cP 6 1,cP 8 2,cP 10 3,cI 14 a,oB 1 [.sh 236 b],oB 3 [.s c, .s d, .n e],oB 5 [.nl],oB 7 [.own 4],oR 9 236 f]
def Pt(N:aG)(K:Kt R):=d_.l3 N (J qJ (.exit 0) K) (J nY (.exit 0) K)
def KB(N:aG)(K:Kt R):=d_.tT N (J qJ (.exit 0) K) (J nY (.exit 0) K)
def Pv(N:aG)(K:Kt R):=d_.l9 N (J Em (.exit 2) K)
def Hn(N:aG):It R:=(lp 3 (al qJ (λK=>Pt N K N) (al nY (λK=>KB N K N) an)) (lp 9 (al Em (λK=>Pv N K N) an) ln))
theorem Mj(N:aG)(K:Kt R):Wd Oo (Hn N) (ca Tryz.f278 3) 3 K nY (KB N K):=lw (λg=>d_.zV N (cmp _ qJ (g∘fO)) (cmp _ nY (g∘fO)) (J qJ (.exit 0) K) (J nY (.exit 0) K)) λm i=>by simp only[dX,wf i];rfl
theorem acW(N:aG)(K:Kt R):Wd Oo (Hn N) (ca Tryz.f278 3) 3 K qJ (Pt N K):=lw (λg=>d_.r3 N (cmp _ qJ (g∘fO)) (cmp _ nY (g∘fO)) (J qJ (.exit 0) K) (J nY (.exit 0) K)) λm i=>by simp only[dX,wf i,wf (Mj N K m)];rfl
theorem We(N:aG):cB Oo (Hn N (R:=R)) (ca Tryz.f278 3):=lm 3 (ga qJ (acW N) (ga nY (Mj N) pn))
theorem Wf(N:aG):cB Oo (Hn N (R:=R)) (ca Tryz.f278 9):=lq 9 Em (Pv N) λK g=>d_.r9 N g (J Em (.exit 2) K)
def aaa:=eL ak5 aoZ d_.c d_.v
theorem agQ:cF Tryz.prog T 278 aaa:=fq (E:=Oo) bh Tryz.func278 (it:=λN=>Hn N) (λN=>(bz (We N) (bz (Wf N) bV))) d_.b d_.vo

def T5:=en [] [(3,[1,2,4,5,6])]
def ak6:Fn [.R, .S] As:=λa b=>[aV [.sh 236 a],aS b]
def ao0:Fn [.R] dP:=λa=>⟨[aV [.ow 236 ak a]],[]⟩
def qK:Fn [.S, .I, .R] Tb:=λa b c=>[cA 2 (.s a),cP 4 0,cP 8 1,cP 10 2,cI 12 b,oB 1 [.sh 236 c],oB 3 [.nl],oB 5 [.nl]]
def nZ:Fn [.S, .I, .R, .R] Tb:=λa b c d=>[cA 2 (.s a),cP 4 0,cP 8 1,cP 10 2,cI 12 b,oB 1 [.sh 236 c],oB 3 [.nl],oB 5 [.own 3],oR 7 236 d]
def Pw(N:aG)(K:Kt R):=eC.l3 N (J qK (.exit 0) K) (J nZ (.exit 0) K)
def KC(N:aG)(K:Kt R):=eC.tT N (J qK (.exit 0) K) (J nZ (.exit 0) K)
def LD(N:aG):It R:=(lp 3 (al qK (λK=>Pw N K N) (al nZ (λK=>KC N K N) an)) ln)
theorem Mk(N:aG)(K:Kt R):Wd T5 (LD N) (ca Tryz.f279 3) 3 K nZ (KC N K):=lw (λg=>eC.zV N (cmp _ qK (g∘fO)) (cmp _ nZ (g∘fO)) (J qK (.exit 0) K) (J nZ (.exit 0) K)) λm i=>by simp only[dX,wf i];rfl
theorem acX(N:aG)(K:Kt R):Wd T5 (LD N) (ca Tryz.f279 3) 3 K qK (Pw N K):=lw (λg=>eC.r3 N (cmp _ qK (g∘fO)) (cmp _ nZ (g∘fO)) (J qK (.exit 0) K) (J nZ (.exit 0) K)) λm i=>by simp only[dX,wf i,wf (Mk N K m)];rfl
theorem Wg(N:aG):cB T5 (LD N (R:=R)) (ca Tryz.f279 3):=lm 3 (ga qK (acX N) (ga nZ (Mk N) pn))
def aab:=eL ak6 ao0 eC.c eC.v
theorem agR:cF Tryz.prog T 279 aab:=fq (E:=T5) bh Tryz.func279 (it:=λN=>LD N) (λN=>(bz (Wg N) bV)) eC.b eC.vo

def alZ:=en [(194,HZ),(236,SP),(237,SQ),(278,aaa),(279,aab)] []
def ak4:Fn [.R, .I, .S, .S, .S] As:=λa b c d e=>[aV [.sh 236 a],aV [.n b, .s c, .s d, .s e]]
def aoY:Fn [.R, .B] dP:=λa b=>⟨[aV [.ow 236 ak a],aB b],[]⟩
def Z_:=eL ak4 aoY Aw.c Aw.v
theorem agP:cF Tryz.prog T 276 Z_:=fr (E:=alZ) (aN LO (aN Zb (aN Zc (aN agQ (aN agR bh))))) Tryz.func276 Aw.b Aw.vo

def aed:=en [(276,Z_)] [(3,[1,4,5,6,7])]
def ak0:Fn [.R, .R] As:=λa b=>[aV [.sh 236 a],aH 268 b]
def aoU:Fn [.R, .I] dP:=λa b=>⟨[aV [.ow 236 ak a],aI b],[]⟩
def Ej:Fn [.R, .I, .I, .R] Tb:=λa b c d=>[cH 2 268 a,cP 8 0,cI 10 b,cP 12 1,cI 14 c,oB 1 [.nl],oB 3 [.own 2],oR 5 236 d]
def Gt:Fn [.R, .I, .I, .R] Tb:=λa b c d=>[cH 2 268 a,cP 8 0,cI 10 b,cP 12 1,cI 14 c,oB 1 [.own 2],oB 3 [.own 2],oR 5 236 d]
def Po(N:aG)(K:Kt R):=pL.l3 N (J Gt .ret K) (J Ej (.exit 0) K)
def YF(N:aG):It R:=(lp 3 (al Ej (λK=>Po N K N) an) ln)
theorem V_(N:aG):cB aed (YF N (R:=R)) (ca Tryz.f271 3):=lq 3 Ej (Po N) λK g=>pL.r3 N g (J Gt .ret K) (J Ej (.exit 0) K)
def SU:=eL ak0 aoU pL.c pL.v
theorem Ze:cF Tryz.prog T 271 SU:=fq (E:=aed) (aN agP bh) Tryz.func271 (it:=λN=>YF N) (λN=>(bz (V_ N) bV)) pL.b pL.vo

def alV:=en [] []
def akU:Fn [.B] As:=λa=>[aB a]
def aoO:Fn [.I] dP:=λa=>⟨[aI a],[]⟩
def SS:=eL akU aoO (ct _) zj.v
theorem Zd:cF Tryz.prog T 260 SS:=ft (E:=alV) bh Tryz.func260 zj.b λ(a0,_)=>zj.fM _ a0

def alU:=mkE T md [(40,ahH),(270,Z6),(271,SU),(260,SS)] [] [] [(0,1, .own 92),(0,2, .own 9),(0,3, .own 9),(0,4, .own 59),(0,6, .own 100),(0,7, .own 53),(0,9, .own 236),(0,10, .own 3),(0,11, .own 92)]
def akS:Fn [.I, .R, .R, .R, .R, .I, .R, .R, .I, .R, .R, .R, .I, .I, .S, .I, .R] As:=λa b c d e f g h i j k l m o p q r=>[.pt [.n a, .ow 92 ak b, .ow 9 ak c, .ow 9 ak d, .ow 59 ak e, .n f, .ow 100 ak g, .ow 53 ak h, .n i, .ow 236 ak j, .ow 3 ak k, .ow 92 ak l],aV [.n m, .n o, .s p, .n q, .sh 3 r]]
def aoM:Fn [.I, .I, .R, .R, .R, .R, .I, .R, .R, .I, .R, .R, .R] dP:=λa b c d e f g h i j k l m=>⟨[aI a],[[.n b, .ow 92 ak c, .ow 9 ak d, .ow 9 ak e, .ow 59 ak f, .n g, .ow 100 ak h, .ow 53 ak i, .n j, .ow 236 ak k, .ow 3 ak l, .ow 92 ak m]]⟩
def Z2:=eL akS aoM Ce.c Ce.v
theorem agH:cF Tryz.prog T 258 Z2:=fr (E:=alU) (aN apt (aN agL (aN Ze (aN Zd bh)))) Tryz.func258 Ce.b Ce.vo

def E42:=en [(48,J8),(129,LY),(131,LZ)] []
def A42:Fn [.I, .R, .R, .R, .R, .I, .R, .R, .I, .I] As:=λa b c d e f g h i j=>[aV [.n a, .sh 92 b, .sh 9 c, .sh 9 d, .sh 59 e, .n f, .sh 100 g, .sh 53 h, .n i],aI j]
def k42:Fn [.I, .R, .R, .R, .R, .I, .R, .R, .I, .B] dP:=λa b c d e f g h i j=>⟨[aV [.n a, .ow 92 ak b, .ow 9 ak c, .ow 9 ak d, .ow 59 ak e, .n f, .ow 100 ak g, .ow 53 ak h, .n i],aB j],[]⟩
def ahI:=eL A42 k42 TH.c TH.v
theorem apu:cF Tryz.prog T 42 ahI:=fr (E:=E42) (aN Nj (aN Rl (aN Rm bh))) Tryz.func42 TH.b TH.vo

def E23:=en [(48,J8)] []
def A23:Fn [.I, .R, .R, .R, .R, .I, .R, .R, .I, .I] As:=λa b c d e f g h i j=>[aV [.n a, .sh 92 b, .sh 9 c, .sh 9 d, .sh 59 e, .n f, .sh 100 g, .sh 53 h, .n i],aI j]
def k23:Fn [.I, .R, .R, .R, .R, .I, .R, .R, .I] dP:=λa b c d e f g h i=>⟨[aV [.n a, .ow 92 ak b, .ow 9 ak c, .ow 9 ak d, .ow 59 ak e, .n f, .ow 100 ak g, .ow 53 ak h, .n i]],[]⟩
def ahw:=eL A23 k23 IE.c IE.v
theorem apl:cF Tryz.prog T 23 ahw:=fr (E:=E23) (aN Nj bh) Tryz.func23 IE.b IE.vo

def E24:=en [(48,J8)] [(4,[1,2,4,5,6])]
def A24:Fn [.I, .R, .R, .R, .R, .I, .R, .R, .I, .I] As:=λa b c d e f g h i j=>[aV [.n a, .sh 92 b, .sh 9 c, .sh 9 d, .sh 59 e, .n f, .sh 100 g, .sh 53 h, .n i],aI j]
def k24:Fn [.I, .R, .R, .R, .R, .I, .R, .R, .I] dP:=λa b c d e f g h i=>⟨[aV [.n a, .ow 92 ak b, .ow 9 ak c, .ow 9 ak d, .ow 59 ak e, .n f, .ow 100 ak g, .ow 53 ak h, .n i]],[]⟩
def KG:Fn [.I, .I, .I, .R, .R, .R, .R, .I, .R, .R, .I, .I, .I, .I, .I, .I, .I, .R, .R, .R, .R, .R, .R] Tb:=λa b c d e f g h i j k l m o p q r s t u v w x=>[cI 2 a,cP 4 0,cP 8 1,cP 10 2,cI 12 b,oB 1 [.n c, .sh 92 d, .sh 9 e, .sh 9 f, .sh 59 g, .n h, .sh 100 i, .sh 53 j, .n k],oB 3 [.n l, .nl, .nl, .nl, .nl, .n m, .nl, .nl, .n o],oB 5 [.n p, .own 3, .own 4, .own 5, .own 6, .n q, .own 7, .own 8, .n r],oR 7 92 s,oR 9 9 t,oR 11 9 u,oR 13 59 v,oR 15 100 w,oR 17 53 x]
def Xq(N:aG)(K:Kt R):=Gq.l4 N (J KG (.exit 0) K)
def afv(N:aG):It R:=(lp 4 (al KG (λK=>Xq N K N) an) ln)
theorem abZ(N:aG):cB E24 (afv N (R:=R)) (ca Tryz.f24 4):=lq 4 KG (Xq N) λK g=>Gq.r4 N g (J KG (.exit 0) K)
def ahx:=eL A24 k24 Gq.c Gq.v
theorem apm:cF Tryz.prog T 24 ahx:=fq (E:=E24) (aN Nj bh) Tryz.func24 (it:=λN=>afv N) (λN=>(bz (abZ N) bV)) Gq.b Gq.vo

def T4:=en [(194,HZ)] [(5,[1,2,4,6,7])]
def ak1:Fn [.R, .R] As:=λa b=>[aV [.sh 236 a],aH 3 b]
def aoV:Fn [.R, .B] dP:=λa b=>⟨[aV [.ow 236 ak a],aB b],[]⟩
def qI:Fn [.R, .I, .R] Tb:=λa b c=>[cH 2 3 a,cP 4 0,cP 8 1,cP 12 2,cI 14 b,oB 1 [.sh 236 c],oB 3 [.nl],oB 5 [.nl]]
def nX:Fn [.R, .I, .R, .R] Tb:=λa b c d=>[cH 2 3 a,cP 4 0,cP 8 1,cP 12 2,cI 14 b,oB 1 [.sh 236 c],oB 3 [.nl],oB 5 [.own 3],oR 7 236 d]
def Pp(N:aG)(K:Kt R):=vv.l5 N (J qI (.exit 0) K) (J nX (.exit 0) K)
def KA(N:aG)(K:Kt R):=vv.l5a N (J qI (.exit 0) K) (J nX (.exit 0) K)
def LC(N:aG):It R:=(lp 5 (al qI (λK=>Pp N K N) (al nX (λK=>KA N K N) an)) ln)
theorem Mi(N:aG)(K:Kt R):Wd T4 (LC N) (ca Tryz.f272 5) 5 K nX (KA N K):=lw (λg=>vv.r5a N (cmp _ qI (g∘fO)) (cmp _ nX (g∘fO)) (J qI (.exit 0) K) (J nX (.exit 0) K)) λm i=>by simp only[dX,wf i];rfl
theorem acV(N:aG)(K:Kt R):Wd T4 (LC N) (ca Tryz.f272 5) 5 K qI (Pp N K):=lw (λg=>vv.r5 N (cmp _ qI (g∘fO)) (cmp _ nX (g∘fO)) (J qI (.exit 0) K) (J nX (.exit 0) K)) λm i=>by simp only[dX,wf i,wf (Mi N K m)];rfl
theorem Wa(N:aG):cB T4 (LC N (R:=R)) (ca Tryz.f272 5):=lm 5 (ga qI (acV N) (ga nX (Mi N) pn))
def Z7:=eL ak1 aoV vv.c vv.v
theorem agM:cF Tryz.prog T 272 Z7:=fq (E:=T4) (aN LO bh) Tryz.func272 (it:=λN=>LC N) (λN=>(bz (Wa N) bV)) vv.b vv.vo

def alD:=en [(237,SQ)] []
def akh:Fn [.R, .S] As:=λa b=>[aV [.sh 236 a],aS b]
def aob:Fn [.S, .B] dP:=λa b=>⟨[aS a,aB b],[]⟩
def SF:=eL akh aob mK.c mK.v
theorem Y5:cF Tryz.prog T 195 SF:=fr (E:=alD) (aN Zc bh) Tryz.func195 mK.b mK.vo

def aea:=en [(49,tU),(264,Mc)] [(6,[0,1,4,5,6,7,8,9])]
def akG:Fn [.S, .I] As:=λa b=>[aS a,aI b]
def aoA:Fn [.I, .I, .B] dP:=λa b c=>⟨[aI a,aI b,aB c],[]⟩
def xE:Fn [.S, .I, .I, .I, .B, .I, .I, .I] Tb:=λa b c d e f g h=>[cA 0 (.s a),cI 2 b,cI 8 c,cI 10 d,cA 12 (.b e),cI 14 f,cI 16 g,cI 18 h]
def O_(N:aG)(K:Kt R):=fD.l6 N (J xE .ret K) (J xE (.exit 0) K)
def YC(N:aG):It R:=(lp 6 (al xE (λK=>O_ N K N) an) ln)
theorem VW(N:aG):cB aea (YC N (R:=R)) (ca Tryz.f238 6):=lq 6 xE (O_ N) λK g=>fD.r6 N g (J xE .ret K) (J xE (.exit 0) K)
def L_:=eL akG aoA (ct _) fD.v
theorem Rw:cF Tryz.prog T 238 L_:=fh (E:=aea) (aN uX (aN Rz bh)) Tryz.func238 (it:=λN=>YC N) (λN=>(bz (VW N) bV)) fD.b λx f h=>fD.fM _ x.1 x.2.1 f.1.1

def ad6:=en [(238,L_),(239,Ma)] [(5,[0,2,3,4,5])]
def aki:Fn [.S] As:=λa=>[aS a]
def aoc:Fn [.R, .I] dP:=λa b=>⟨[aO 9 a,aI b],[]⟩
def D9:Fn [.S, .I, .I, .R] Tb:=λa b c d=>[cA 0 (.s a),cA 4 .nl,cI 6 b,cA 8 (.own 0),cI 10 c,oR 1 9 d]
def Gs:Fn [.S, .I, .I, .R] Tb:=λa b c d=>[cA 0 (.s a),cA 4 (.own 0),cI 6 b,cA 8 (.own 0),cI 10 c,oR 1 9 d]
def O0(N:aG)(K:Kt R):=rJ.l5 N (J Gs .ret K) (J D9 (.exit 0) K)
def Yx(N:aG):It R:=(lp 5 (al D9 (λK=>O0 N K N) an) ln)
theorem VO(N:aG):cB ad6 (Yx N (R:=R)) (ca Tryz.f196 5):=lq 5 D9 (O0 N) λK g=>rJ.r5 N g (J Gs .ret K) (J D9 (.exit 0) K)
def ZL:=eL aki aoc rJ.c rJ.v
theorem ago:cF Tryz.prog T 196 ZL:=fq (E:=ad6) (aN Rw (aN Rx bh)) Tryz.func196 (it:=λN=>Yx N) (λN=>(bz (VO N) bV)) rJ.b rJ.vo

def alS:=en [(238,L_)] []
def akI:Fn [.S, .I] As:=λa b=>[aS a,aI b]
def aoC:Fn [.S, .I, .B] dP:=λa b c=>⟨[aS a,aI b,aB c],[]⟩
def ZX:=eL akI aoC (ct _) pK.v
theorem agC:cF Tryz.prog T 240 ZX:=fh (E:=alS) (aN Rw bh) Tryz.func240 (it:=λ_=>ln) (λ_=>bV) (λ_=>pK.b) λx f h=>⟨0,pK.fM _ x.1 x.2.1 f.1.1⟩

def alE:=en [(240,ZX),(238,L_),(241,Mb)] []
def akj:Fn [.S] As:=λa=>[aS a]
def aod:Fn [.S, .I, .I, .S, .B] dP:=λa b c d e=>⟨[aV [.s a, .n b, .n c, .s d],aB e],[]⟩
def ZM:=eL akj aod (ct _) jL.v
theorem agp:cF Tryz.prog T 197 ZM:=fh (E:=alE) (aN agC (aN Rw (aN Ry bh))) Tryz.func197 (it:=λ_=>ln) (λ_=>bV) (λ_=>jL.b) λx f h=>⟨0,jL.fM _ x.1 f.1.1⟩

def adP:=en [(194,HZ),(195,SF),(196,ZL),(197,ZM),(198,SG)] [(7,[3,6,8])]
def ajA:Fn [.R] As:=λa=>[aV [.sh 236 a]]
def ant:Fn [.R] dP:=λa=>⟨[aO 92 a],[]⟩
def DZ:Fn [.I, .R, .R] Tb:=λa b c=>[cA 6 (.own 0),cA 12 (.own 1),cI 16 a,oR 1 92 b,oR 3 9 c]
def OA(N:aG)(K:Kt R):=rG.l7 N (J DZ (.exit 0) K)
def Yg(N:aG):It R:=(lp 7 (al DZ (λK=>OA N K N) an) ln)
theorem Vr(N:aG):cB adP (Yg N (R:=R)) (ca Tryz.f111 7):=lq 7 DZ (OA N) λK g=>rG.r7 N g (J DZ (.exit 0) K)
def Zt:=eL ajA ant rG.c rG.v
theorem af3:cF Tryz.prog T 111 Zt:=fq (E:=adP) (aN LO (aN Y5 (aN ago (aN agp (aN Y6 bh))))) Tryz.func111 (it:=λN=>Yg N) (λN=>(bz (Vr N) bV)) rG.b rG.vo

def aee:=en [(194,HZ),(195,SF),(241,Mb),(239,Ma)] [(9,[1,4,5,6,9,10])]
def ak2:Fn [.R, .R] As:=λa b=>[aV [.sh 236 a],aH 92 b]
def aoW:Fn [.R, .B] dP:=λa b=>⟨[aO 268 a,aB b],[]⟩
def Ek:Fn [.R, .B, .S, .I, .R] Tb:=λa b c d e=>[cH 2 92 a,cA 8 .nl,cA 10 (.b b),cA 12 (.own 0),cA 18 (.s c),cI 20 d,oR 1 268 e]
def Gu:Fn [.R, .B, .S, .I, .R, .R] Tb:=λa b c d e f=>[cH 2 92 a,cA 8 (.own 0),cA 10 (.b b),cA 12 (.own 1),cA 18 (.s c),cI 20 d,oR 1 268 e,oR 3 268 f]
def Pq(N:aG)(K:Kt R):=mz.l9 N (J Gu .ret K) (J Ek (.exit 0) K)
def YG(N:aG):It R:=(lp 9 (al Ek (λK=>Pq N K N) an) ln)
theorem Wb(N:aG):cB aee (YG N (R:=R)) (ca Tryz.f273 9):=lq 9 Ek (Pq N) λK g=>mz.r9 N g (J Gu .ret K) (J Ek (.exit 0) K)
def Z8:=eL ak2 aoW mz.c mz.v
theorem agN:cF Tryz.prog T 273 Z8:=fq (E:=aee) (aN LO (aN Y5 (aN Ry (aN Rx bh)))) Tryz.func273 (it:=λN=>YG N) (λN=>(bz (Wb N) bV)) mz.b mz.vo

def aef:=en [(182,SC),(141,HY),(52,WU),(132,Sq)] [(4,[0,1,4,5,6])]
def ak3:Fn [.I, .R] As:=λa b=>[aI a,aH 92 b]
def aoX:Fn [.I, .R, .R, .R, .R, .I, .R, .R, .I] dP:=λa b c d e f g h i=>⟨[aV [.n a, .ow 92 ak b, .ow 9 ak c, .ow 9 ak d, .ow 59 ak e, .n f, .ow 100 ak g, .ow 53 ak h, .n i]],[]⟩
def El:Fn [.I, .R, .I, .I, .I, .I, .I, .I, .I, .R, .R, .R, .R, .R, .R] Tb:=λa b c d e f g h i j k l m o p=>[cI 0 a,cH 2 92 b,cP 8 0,cP 10 1,cI 12 c,oB 1 [.n d, .nl, .nl, .nl, .nl, .n e, .nl, .nl, .n f],oB 3 [.n g, .own 2, .own 3, .own 4, .own 5, .n h, .own 6, .own 7, .n i],oR 5 92 j,oR 7 9 k,oR 9 9 l,oR 11 59 m,oR 13 100 o,oR 15 53 p]
def Ps(N:aG)(K:Kt R):=m9.l4 N (J El (.exit 0) K)
def YH(N:aG):It R:=(lp 4 (al El (λK=>Ps N K N) an) ln)
theorem Wc(N:aG):cB aef (YH N (R:=R)) (ca Tryz.f274 4):=lq 4 El (Ps N) λK g=>m9.r4 N g (J El (.exit 0) K)
def Z9:=eL ak3 aoX m9.c m9.v
theorem agO:cF Tryz.prog T 274 Z9:=fq (E:=aef) (aN Y3 (aN LN (aN acm (aN YR bh)))) Tryz.func274 (it:=λN=>YH N) (λN=>(bz (Wc N) bV)) m9.b m9.vo

def T3:=mkE T md [(272,Z7),(111,Zt),(52,WU),(273,Z8),(271,SU),(274,Z9)] [(7,[0,6,7,8])] [] [(0,1, .own 92),(0,2, .own 9),(0,3, .own 9),(0,4, .own 59),(0,6, .own 100),(0,7, .own 53),(0,9, .own 236),(0,10, .own 3),(0,11, .own 92)]
def akT:Fn [.I, .R, .R, .R, .R, .I, .R, .R, .I, .R, .R, .R, .I, .I, .S, .I, .R] As:=λa b c d e f g h i j k l m o p q r=>[.pt [.n a, .ow 92 ak b, .ow 9 ak c, .ow 9 ak d, .ow 59 ak e, .n f, .ow 100 ak g, .ow 53 ak h, .n i, .ow 236 ak j, .ow 3 ak k, .ow 92 ak l],aV [.n m, .n o, .s p, .n q, .sh 3 r]]
def aoN:Fn [.I, .R, .R, .R, .R, .I, .R, .R, .I, .R, .R, .R] dP:=λa b c d e f g h i j k l=>⟨[],[[.n a, .ow 92 ak b, .ow 9 ak c, .ow 9 ak d, .ow 59 ak e, .n f, .ow 100 ak g, .ow 53 ak h, .n i, .ow 236 ak j, .ow 3 ak k, .ow 92 ak l]]⟩
def qH:Fn [.I, .I, .I, .I, .R, .R, .R, .R, .R, .R, .R, .R, .R, .R, .R] Tb:=λa b c d e f g h i j k l m o p=>[cP 0 900000900,cA 12 (.own 1),cA 14 (.own 2),cI 16 a,oB 1800001801 [.n b, .own 900000001, .own 900000002, .own 900000003, .own 900000004, .n c, .own 900000006, .own 900000007, .n d, .own 9, .own 900000010, .own 900000011],oR 3 92 e,oR 5 92 f,oR 1800000003 92 g,oR 1800000005 9 h,oR 1800000007 9 i,oR 1800000009 59 j,oR 1800000013 100 k,oR 1800000015 53 l,oR 19 236 m,oR 1800000021 3 o,oR 1800000023 92 p]
def nW:Fn [.I, .I, .I, .I, .R, .R, .R, .R, .R, .R, .R, .R, .R, .R, .R] Tb:=λa b c d e f g h i j k l m o p=>[cP 0 900000900,cA 12 (.own 1),cA 14 (.own 2),cI 16 a,oB 1800001801 [.n b, .own 900000001, .own 900000002, .own 900000003, .own 900000004, .n c, .own 900000006, .own 900000007, .n d, .own 900000009, .own 900000010, .own 900000011],oR 3 92 e,oR 5 92 f,oR 1800000003 92 g,oR 1800000005 9 h,oR 1800000007 9 i,oR 1800000009 59 j,oR 1800000013 100 k,oR 1800000015 53 l,oR 1800000019 236 m,oR 1800000021 3 o,oR 1800000023 92 p]
def Pm(N:aG)(K:Kt R):=vt.l7 N (J qH (.exit 0) K) (J nW (.exit 0) K)
def Kz(N:aG)(K:Kt R):=vt.l7a N (J qH (.exit 0) K) (J nW (.exit 0) K)
def LB(N:aG):It R:=(lp 7 (al qH (λK=>Pm N K N) (al nW (λK=>Kz N K N) an)) ln)
theorem Mh(N:aG)(K:Kt R):Wd T3 (LB N) (ca Tryz.f259 7) 7 K nW (Kz N K):=lw (λg=>vt.r7a N (cmp _ qH (g∘fO)) (cmp _ nW (g∘fO)) (J qH (.exit 0) K) (J nW (.exit 0) K)) λm i=>by simp only[dX,wf i];rfl
theorem acU(N:aG)(K:Kt R):Wd T3 (LB N) (ca Tryz.f259 7) 7 K qH (Pm N K):=lw (λg=>vt.r7 N (cmp _ qH (g∘fO)) (cmp _ nW (g∘fO)) (J qH (.exit 0) K) (J nW (.exit 0) K)) λm i=>by simp only[dX,wf i,wf (Mh N K m)];rfl
theorem V8(N:aG):cB T3 (LB N (R:=R)) (ca Tryz.f259 7):=lm 7 (ga qH (acU N) (ga nW (Mh N) pn))
def Z3:=eL akT aoN vt.c vt.v
theorem agI:cF Tryz.prog T 259 Z3:=fq (E:=T3) (aN agM (aN af3 (aN acm (aN agN (aN Ze (aN agO bh)))))) Tryz.func259 (it:=λN=>LB N) (λN=>(bz (V8 N) bV)) vt.b vt.vo

def alP:=mkE T md [(9,sp9),(38,ahG),(258,Z2),(42,ahI),(23,ahw),(24,ahx),(259,Z3),(260,SS)] [] [] [(0,1, .own 92),(0,2, .own 9),(0,3, .own 9),(0,4, .own 59),(0,6, .own 100),(0,7, .own 53),(0,9, .own 236),(0,10, .own 3),(0,11, .own 92)]
def akC:Fn [.I, .R, .R, .R, .R, .I, .R, .R, .I, .R, .R, .R, .I, .I, .S, .I, .R] As:=λa b c d e f g h i j k l m o p q r=>[.pt [.n a, .ow 92 ak b, .ow 9 ak c, .ow 9 ak d, .ow 59 ak e, .n f, .ow 100 ak g, .ow 53 ak h, .n i, .ow 236 ak j, .ow 3 ak k, .ow 92 ak l],aV [.n m, .n o, .s p, .n q, .sh 3 r]]
def aow:Fn [.I, .I, .R, .R, .R, .R, .I, .R, .R, .I, .R, .R, .R] dP:=λa b c d e f g h i j k l m=>⟨[aI a],[[.n b, .ow 92 ak c, .ow 9 ak d, .ow 9 ak e, .ow 59 ak f, .n g, .ow 100 ak h, .ow 53 ak i, .n j, .ow 236 ak k, .ow 3 ak l, .ow 92 ak m]]⟩
def ZU:=eL akC aow Cd.c Cd.v
theorem agz:cF Tryz.prog T 231 ZU:=fr (E:=alP) (aN ok9 (aN aps (aN agH (aN apu (aN apl (aN apm (aN agI (aN Zd bh)))))))) Tryz.func231 Cd.b Cd.vo

def alz:=mkE T md [(231,ZU)] [] [] [(0,1, .own 92),(0,2, .own 9),(0,3, .own 9),(0,4, .own 59),(0,6, .own 100),(0,7, .own 53),(0,9, .own 236),(0,10, .own 3),(0,11, .own 92)]
def aj_:Fn [.I, .R, .R, .R, .R, .I, .R, .R, .I, .R, .R, .R, .I, .I, .S, .I, .R] As:=λa b c d e f g h i j k l m o p q r=>[.pt [.n a, .ow 92 ak b, .ow 9 ak c, .ow 9 ak d, .ow 59 ak e, .n f, .ow 100 ak g, .ow 53 ak h, .n i, .ow 236 ak j, .ow 3 ak k, .ow 92 ak l],aV [.n m, .n o, .s p, .n q, .sh 3 r]]
def an4:Fn [.I, .R, .R, .R, .R, .I, .R, .R, .I, .R, .R, .R] dP:=λa b c d e f g h i j k l=>⟨[],[[.n a, .ow 92 ak b, .ow 9 ak c, .ow 9 ak d, .ow 59 ak e, .n f, .ow 100 ak g, .ow 53 ak h, .n i, .ow 236 ak j, .ow 3 ak k, .ow 92 ak l]]⟩
def ZH:=eL aj_ an4 xK.c xK.v
theorem agj:cF Tryz.prog T 183 ZH:=fr (E:=alz) (aN agz bh) Tryz.func183 xK.b xK.vo

def E94:=en [(182,SC),(103,BI),(184,ZI),(183,ZH)] [(3,[0,2,3,4,1000000003009236,1000000003010003,1000000003011092])]
def A94:Fn [.R, .I, .I] As:=λa b c=>[.pt [.sh 5 a, .n b, .n c]]
def k94:Fn [.I, .R, .R, .R, .R, .I, .R, .R, .I, .R, .I, .I] dP:=λa b c d e f g h i j k l=>⟨[aV [.n a, .ow 92 ak b, .ow 9 ak c, .ow 9 ak d, .ow 59 ak e, .n f, .ow 100 ak g, .ow 53 ak h, .n i]],[[.sh 5 j, .n k, .n l]]⟩
def KQ:Fn [.I, .R, .I, .I, .I, .I, .I, .I, .I, .I, .R, .R, .R, .R, .R, .R, .R, .R, .R] Tb:=λa b c d e f g h i j k l m o p q r s t=>[cP 0 900000900,cP 4 1,cP 6 2,cI 8 a,oB 1800001801 [.sh 5 b, .n c, .n d],oB 3 [.n e, .nl, .nl, .nl, .nl, .n f, .nl, .nl, .n g],oB 5 [.n h, .own 3, .own 4, .own 5, .own 6, .n i, .own 7, .own 8, .n j, .own 9, .own 10, .own 11],oR 7 92 k,oR 9 9 l,oR 11 9 m,oR 13 59 o,oR 15 100 p,oR 17 53 q,oR 19 236 r,oR 21 3 s,oR 23 92 t]
def XH(N:aG)(K:Kt R):=Ib.l3 N (J KQ (.exit 0) K)
def afC(N:aG):It R:=(lp 3 (al KQ (λK=>XH N K N) an) ln)
theorem ace(N:aG):cB E94 (afC N (R:=R)) (ca Tryz.f94 3):=lq 3 KQ (XH N) λK g=>Ib.r3 N g (J KQ (.exit 0) K)
def ahT:=eL A94 k94 Ib.c Ib.v
theorem apF:cF Tryz.prog T 94 ahT:=fq (E:=E94) (aN Y3 (aN Dx (aN agk (aN agj bh)))) Tryz.func94 (it:=λN=>afC N) (λN=>(bz (ace N) bV)) Ib.b Ib.vo

def E21:=en [(87,acM),(94,ahT)] []
def A21:Fn [.R] As:=λa=>[aH 5 a]
def k21:Fn [.I, .R, .R, .R, .R, .I, .R, .R, .I] dP:=λa b c d e f g h i=>⟨[aV [.n a, .ow 92 ak b, .ow 9 ak c, .ow 9 ak d, .ow 59 ak e, .n f, .ow 100 ak g, .ow 53 ak h, .n i]],[]⟩
def ahv:=eL A21 k21 BX.c BX.v
theorem apk:cF Tryz.prog T 21 ahv:=fr (E:=E21) (aN agZ (aN apF bh)) Tryz.func21 BX.b BX.vo

def E27:=en [(87,acM),(102,Sm),(103,BI)] [(5,[3,4,5])]
def A27:Fn [.R] As:=λa=>[aH 5 a]
def k27:Fn [.R] dP:=λa=>⟨[aO 3 a],[]⟩
def KH:Fn [.I, .R, .I, .I, .R] Tb:=λa b c d e=>[cP 6 0,cA 8 (.own 1),cI 10 a,oB 1 [.sh 5 b, .n c, .n d],oR 3 3 e]
def Xr(N:aG)(K:Kt R):=NX.l5 N (J KH (.exit 0) K)
def afw(N:aG):It R:=(lp 5 (al KH (λK=>Xr N K N) an) ln)
theorem ab0(N:aG):cB E27 (afw N (R:=R)) (ca Tryz.f27 5):=lq 5 KH (Xr N) λK g=>NX.r5 N g (J KH (.exit 0) K)
def ahC:=eL A27 k27 NX.c NX.v
theorem apn:cF Tryz.prog T 27 ahC:=fq (E:=E27) (aN agZ (aN YP (aN Dx bh))) Tryz.func27 (it:=λN=>afw N) (λN=>(bz (ab0 N) bV)) NX.b NX.vo

def alo:=en [] []
def ajU:Fn [.R] As:=λa=>[aH 92 a]
def anO:Fn [.R] dP:=λa=>⟨[aO 92 a],[]⟩
def Sw:=eL ajU anO vl.c vl.v
theorem YW:cF Tryz.prog T 154 Sw:=fr (E:=alo) bh Tryz.func154 vl.b vl.vo

def alK:=en [] []
def akv:Fn [.R] As:=λa=>[aH 9 a]
def aop:Fn [.R] dP:=λa=>⟨[aO 9 a],[]⟩
def SL:=eL akv aop rY.c rY.v
theorem Y_:cF Tryz.prog T 217 SL:=fr (E:=alK) bh Tryz.func217 rY.b rY.vo

def alM:=en [] []
def akz:Fn [.R] As:=λa=>[aH 3 a]
def aot:Fn [.R] dP:=λa=>⟨[aO 3 a],[]⟩
def ZS:=eL akz aot uK.c uK.v
theorem agw:cF Tryz.prog T 223 ZS:=fr (E:=alM) bh Tryz.func223 uK.b uK.vo

def T1:=en [(223,ZS)] [(3,[2,3,10,11,12])]
def aj6:Fn [.R, .I] As:=λa b=>[aV [.sh 59 a, .n b]]
def an0:Fn [.R, .I] dP:=λa b=>⟨[aV [.ow 59 ak a, .n b]],[]⟩
def qF:Fn [.R, .I, .I, .I, .I] Tb:=λa b c d e=>[cP 4 0,cP 6 1,cH 20 59 a,cI 22 b,cI 24 c,oB 1 [.nl, .n d],oB 3 [.nl, .n e]]
def nU:Fn [.R, .I, .I, .I, .I, .R] Tb:=λa b c d e f=>[cP 4 0,cP 6 1,cH 20 59 a,cI 22 b,cI 24 c,oB 1 [.nl, .n d],oB 3 [.own 2, .n e],oR 5 59 f]
def OS(N:aG)(K:Kt R):=iX.l3 N (J qF (.exit 0) K) (J nU (.exit 0) K)
def Kw(N:aG)(K:Kt R):=iX.tT N (J qF (.exit 0) K) (J nU (.exit 0) K)
def Ly(N:aG):It R:=(lp 3 (al qF (λK=>OS N K N) (al nU (λK=>Kw N K N) an)) ln)
theorem Mf(N:aG)(K:Kt R):Wd T1 (Ly N) (ca Tryz.f168 3) 3 K nU (Kw N K):=lw (λg=>iX.zV N (cmp _ qF (g∘fO)) (cmp _ nU (g∘fO)) (J qF (.exit 0) K) (J nU (.exit 0) K)) λm i=>by simp only[dX,wf i];rfl
theorem acS(N:aG)(K:Kt R):Wd T1 (Ly N) (ca Tryz.f168 3) 3 K qF (OS N K):=lw (λg=>iX.r3 N (cmp _ qF (g∘fO)) (cmp _ nU (g∘fO)) (J qF (.exit 0) K) (J nU (.exit 0) K)) λm i=>by simp only[dX,wf i,wf (Mf N K m)];rfl
theorem VH(N:aG):cB T1 (Ly N (R:=R)) (ca Tryz.f168 3):=lm 3 (ga qF (acS N) (ga nU (Mf N) pn))
def SA:=eL aj6 an0 iX.c iX.v
theorem Y1:cF Tryz.prog T 168 SA:=fq (E:=T1) (aN agw bh) Tryz.func168 (it:=λN=>Ly N) (λN=>(bz (VH N) bV)) iX.b iX.vo

def alp:=en [(217,SL),(168,SA)] []
def ajV:Fn [.R, .R, .R, .I] As:=λa b c d=>[aV [.sh 9 a, .sh 9 b, .sh 59 c, .n d]]
def anP:Fn [.R, .R, .R, .I] dP:=λa b c d=>⟨[aV [.ow 9 ak a, .ow 9 ak b, .ow 59 ak c, .n d]],[]⟩
def L5:=eL ajV anP ja.c ja.v
theorem Rq:cF Tryz.prog T 155 L5:=fr (E:=alp) (aN Y_ (aN Y1 bh)) Tryz.func155 ja.b ja.vo

def E62:=en [(154,Sw),(155,L5)] []
def A62:Fn [.I, .R, .R, .R, .R, .I, .R, .R, .I] As:=λa b c d e f g h i=>[aV [.n a, .sh 92 b, .sh 9 c, .sh 9 d, .sh 59 e, .n f, .sh 100 g, .sh 53 h, .n i]]
def k62:Fn [.I, .R, .R, .R, .R, .I, .R, .R, .I] dP:=λa b c d e f g h i=>⟨[aV [.n a, .ow 92 ak b, .ow 9 ak c, .ow 9 ak d, .ow 59 ak e, .n f, .ow 100 ak g, .ow 53 ak h, .n i]],[]⟩
def NM:=eL A62 k62 uL.c uL.v
theorem RA:cF Tryz.prog T 62 NM:=fr (E:=E62) (aN YW (aN Rq bh)) Tryz.func62 uL.b uL.vo

def alq:=en [] []
def ajW:Fn [.I, .S, .I, .I, .I, .S, .I, .I] As:=λa b c d e f g h=>[aV [.n a, .s b, .n c, .n d, .n e, .s f, .n g], .fb [.n h]]
def anQ:Fn [.B] dP:=λa=>⟨[aB a],[]⟩
def ZB:=eL ajW anQ (ct _) IB.v
theorem agb:cF Tryz.prog T 157 ZB:=ft (E:=alq) bh Tryz.func157 IB.b λ(a0,a1,a2,a3,a4,a5,a6,a7,_)=>IB.fM _ a0 a1 a2 a3 a4 a5 a6 a7

def Xj:=en [(157,ZB)] [(2,[0,1,4,7,8])]
def adH:Fn [.R, .I] As:=λa b=>[aH 53 a, .v aq [.fn 157 [[.n b]]]]
def afG:Fn [.I] dP:=λa=>⟨[aI a],[]⟩
def sU:Fn [.R, .I, .I, .I, .I] Tb:=λa b c d e=>[cH 0 53 a,cA 2 (.fn 157 [[.n b]]),cI 8 c,cI 14 d,cI 16 e]
def Ku(N:aG)(K:Kt R):=p_.l2 N (J sU .ret K) (J sU (.exit 0) K)
def QR(N:aG):It R:=(lp 2 (al sU (λK=>Ku N K N) an) ln)
theorem Q7(N:aG):cB Xj (QR N (R:=R)) (ca Tryz.f156 2):=lq 2 sU (Ku N) λK g=>p_.r2 N g (J sU .ret K) (J sU (.exit 0) K)
def J6:=eL adH afG p_.c p_.v
theorem Rr:cF Tryz.prog T 156 J6:=fq (E:=Xj) (aN agb bh) Tryz.func156 (it:=λN=>QR N) (λN=>(bz (Q7 N) bV)) p_.b p_.vo

def E93:=en [] []
def A93:Fn [.I, .S, .I, .I, .I, .S, .I, .I] As:=λa b c d e f g h=>[aV [.n a, .s b, .n c, .n d, .n e, .s f, .n g], .fb [.n h]]
def k93:Fn [.B] dP:=λa=>⟨[aB a],[]⟩
def acN:=eL A93 k93 (ct _) N0.v
theorem ag0:cF Tryz.prog T 93 acN:=ft (E:=E93) bh Tryz.func93 N0.b λ(a0,a1,a2,a3,a4,a5,a6,a7,_)=>N0.fM _ a0 a1 a2 a3 a4 a5 a6 a7

def Xk:=en [(93,acN)] [(2,[0,1,4,7,8])]
def adI:Fn [.R, .I] As:=λa b=>[aH 53 a, .v aq [.fn 93 [[.n b]]]]
def afH:Fn [.I] dP:=λa=>⟨[aI a],[]⟩
def sV:Fn [.R, .I, .I, .I, .I] Tb:=λa b c d e=>[cH 0 53 a,cA 2 (.fn 93 [[.n b]]),cI 8 c,cI 14 d,cI 16 e]
def Kv(N:aG)(K:Kt R):=mF.l2 N (J sV .ret K) (J sV (.exit 0) K)
def QS(N:aG):It R:=(lp 2 (al sV (λK=>Kv N K N) an) ln)
theorem Q8(N:aG):cB Xk (QS N (R:=R)) (ca Tryz.f156 2):=lq 2 sV (Kv N) λK g=>mF.r2 N g (J sV .ret K) (J sV (.exit 0) K)
def J7:=eL adI afH mF.c mF.v
theorem Rs:cF Tryz.prog T 156 J7:=fq (E:=Xk) (aN ag0 bh) Tryz.func156 (it:=λN=>QS N) (λN=>(bz (Q8 N) bV)) mF.b mF.vo

def E92:=en [(156,J6),(156,J7),(93,acN)] [(5,[0,1,5,6])]
def A92:Fn [.R, .I] As:=λa b=>[aO 53 a, .v aq [.fn 93 [[.n b]]]]
def k92:Fn [.R] dP:=λa=>⟨[aO 53 a],[[.nl]]⟩
def KP:Fn [.I, .I, .I, .R] Tb:=λa b c d=>[cA 0 (.own 900000000),cA 2 (.fn 93 [[.n a]]),cI 10 b,cI 12 c,oR 1800000001 53 d]
def XG(N:aG)(K:Kt R):=KU.l5 N (J KP (.exit 0) K)
def afB(N:aG):It R:=(lp 5 (al KP (λK=>XG N K N) an) ln)
theorem acd(N:aG):cB E92 (afB N (R:=R)) (ca Tryz.f92 5):=lq 5 KP (XG N) λK g=>KU.r5 N g (J KP (.exit 0) K)
def ahS:=eL A92 k92 KU.c KU.v
theorem apE:cF Tryz.prog T 92 ahS:=fq (E:=E92) (aN Rr (aN Rs (aN ag0 bh))) Tryz.func92 (it:=λN=>afB N) (λN=>(bz (acd N) bV)) KU.b KU.vo

def E19:=en [(62,NM),(92,ahS)] []
def A19:Fn [.I, .R, .R, .R, .R, .I, .R, .R, .I, .I] As:=λa b c d e f g h i j=>[aV [.n a, .sh 92 b, .sh 9 c, .sh 9 d, .sh 59 e, .n f, .sh 100 g, .sh 53 h, .n i],aI j]
def k19:Fn [.I, .R, .R, .R, .R, .I, .R, .R, .I] dP:=λa b c d e f g h i=>⟨[aV [.n a, .ow 92 ak b, .ow 9 ak c, .ow 9 ak d, .ow 59 ak e, .n f, .ow 100 ak g, .ow 53 ak h, .n i]],[]⟩
def ahp:=eL A19 k19 FQ.c FQ.v
theorem api:cF Tryz.prog T 19 ahp:=fr (E:=E19) (aN RA (aN apE bh)) Tryz.func19 FQ.b FQ.vo

def E63:=en [] []
def A63:Fn [.I, .I, .I] As:=λa b c=>[aI a,aI b,aI c]
def k63:Fn [.B] dP:=λa=>⟨[aB a],[]⟩
def sK:=eL A63 k63 (ct _) od.v
theorem xY:cF Tryz.prog T 63 sK:=ft (E:=E63) bh Tryz.func63 od.b λ(a0,a1,a2,_)=>od.fM _ a0 a1 a2

def E64:=en [(63,sK)] []
def A64:Fn [.S] As:=λa=>[aS a]
def k64:Fn [.B] dP:=λa=>⟨[aB a],[]⟩
def J_:=eL A64 k64 (ct _) Mz.v
theorem Nl:cF Tryz.prog T 64 J_:=ft (E:=E64) (aN xY bh) Tryz.func64 Mz.b λ(a0,_)=>Mz.fM _ a0

def ak_:=en [(63,sK)] []
def ajs:Fn [.I] As:=λa=>[aI a]
def anj:Fn [.B] dP:=λa=>⟨[aB a],[]⟩
def LW:=eL ajs anj (ct _) Aq.v
theorem Rj:cF Tryz.prog T 100 LW:=ft (E:=ak_) (aN xY bh) Tryz.func100 Aq.b λ(a0,_)=>Aq.fM _ a0

def alr:=en [(64,J_),(100,LW),(63,sK)] []
def ajX:Fn [.S, .I, .I, .S] As:=λa b c d=>[aV [.s a, .n b, .n c, .s d]]
def anR:Fn [.B] dP:=λa=>⟨[aB a],[]⟩
def L6:=eL ajX anR (ct _) Ar.v
theorem YX:cF Tryz.prog T 158 L6:=ft (E:=alr) (aN Nl (aN Rj (aN xY bh))) Tryz.func158 Ar.b λ(a0,a1,a2,a3,_)=>Ar.fM _ a0 a1 a2 a3

def alW:=en [] []
def akV:Fn [.I] As:=λa=>[.v aq [.nl],aI a]
def aoP:Fn [.R] dP:=λa=>⟨[aO 9 a],[]⟩
def Z4:=eL akV aoP Cf.c Cf.v
theorem agJ:cF Tryz.prog T 261 Z4:=fr (E:=alW) bh Tryz.func261 Cf.b Cf.vo

def aaq:=en [(261,Z4)] [(3,[0,3,9,10,11]),(11,[6,25,26,27])]
def akD:Fn [.R] As:=λa=>[aH 23 a]
def aox:Fn [.R] dP:=λa=>⟨[aO 9 a],[]⟩
def Ec:Fn [.R, .I, .R, .I, .I] Tb:=λa b c d e=>[cH 0 23 a,cI 6 b,cH 18 23 c,cI 20 d,cI 22 e]
def zy:Fn [.R, .I, .I, .R] Tb:=λa b c d=>[cA 12 (.own 0),cH 50 23 a,cI 52 b,cI 54 c,oR 1 9 d]
def O8(N:aG)(K:Kt R):=vn.l3 N (J Ec (.exit 0) K)
def Kx(N:aG)(K:Kt R):=vn.E6 N (J zy (.exit 2) K)
def QV(N:aG):It R:=(lp 3 (al Ec (λK=>O8 N K N) an) (lp 11 (al zy (λK=>Kx N K N) an) ln))
theorem VU(N:aG):cB aaq (QV N (R:=R)) (ca Tryz.f233 3):=lq 3 Ec (O8 N) λK g=>vn.r3 N g (J Ec (.exit 0) K)
theorem Q9(N:aG):cB aaq (QV N (R:=R)) (ca Tryz.f233 11):=lq 11 zy (Kx N) λK g=>vn.zU N g (J zy (.exit 2) K)
def ZV:=eL akD aox vn.c vn.v
theorem agA:cF Tryz.prog T 233 ZV:=fq (E:=aaq) (aN agJ bh) Tryz.func233 (it:=λN=>QV N) (λN=>(bz (VU N) (bz (Q9 N) bV))) vn.b vn.vo

def alB:=en [(233,ZV)] []
def akc:Fn [.R, .R, .R, .I] As:=λa b c d=>[aV [.sh 9 a, .sh 9 b, .sh 59 c, .n d]]
def an7:Fn [.R] dP:=λa=>⟨[aO 9 a],[]⟩
def L9:=eL akc an7 qc.c qc.v
theorem Rv:cF Tryz.prog T 188 L9:=fr (E:=alB) (aN agA bh) Tryz.func188 qc.b qc.vo

def ad8:=en [] [(2,[0,1,4,7,8])]
def akw:Fn [.R, .S] As:=λa b=>[aH 9 a,aS b]
def aoq:Fn [.I] dP:=λa=>⟨[aI a],[]⟩
def xC:Fn [.R, .S, .I, .I, .I] Tb:=λa b c d e=>[cH 0 9 a,cA 2 (.s b),cI 8 c,cI 14 d,cI 16 e]
def O6(N:aG)(K:Kt R):=zh.l2 N (J xC .ret K) (J xC (.exit 0) K)
def Yz(N:aG):It R:=(lp 2 (al xC (λK=>O6 N K N) an) ln)
theorem VS(N:aG):cB ad8 (Yz N (R:=R)) (ca Tryz.f218 2):=lq 2 xC (O6 N) λK g=>zh.r2 N g (J xC .ret K) (J xC (.exit 0) K)
def ZQ:=eL akw aoq zh.c zh.v
theorem agu:cF Tryz.prog T 218 ZQ:=fq (E:=ad8) bh Tryz.func218 (it:=λN=>Yz N) (λN=>(bz (VS N) bV)) zh.b zh.vo

def als:=en [(218,ZQ)] []
def ajZ:Fn [.R, .S] As:=λa b=>[aH 9 a,aS b]
def anT:Fn [.B] dP:=λa=>⟨[aB a],[]⟩
def L7:=eL ajZ anT rI.c rI.v
theorem Rt:cF Tryz.prog T 160 L7:=fr (E:=als) (aN agu bh) Tryz.func160 rI.b rI.vo

def alA:=en [(188,L9),(160,L7)] []
def akb:Fn [.R, .R, .R, .I, .S] As:=λa b c d e=>[aV [.sh 9 a, .sh 9 b, .sh 59 c, .n d],aS e]
def an6:Fn [.B] dP:=λa=>⟨[aB a],[]⟩
def SD:=eL akb an6 uI.c uI.v
theorem Y4:cF Tryz.prog T 187 SD:=fr (E:=alA) (aN Rv (aN Rt bh)) Tryz.func187 uI.b uI.vo

def aao:=en [(63,sK)] [(2,[1,2,8,9,10]),(5,[1,2,4,8,9,10,14,15,16])]
def aj7:Fn [.R, .I] As:=λa b=>[aV [.sh 59 a, .n b]]
def an1:Fn [.B] dP:=λa=>⟨[aB a],[]⟩
def w8:Fn [.B, .R, .I, .I, .R, .I] Tb:=λa b c d e f=>[cP 2 0,cA 4 (.b a),cH 16 59 b,cI 18 c,cI 20 d,oB 1 [.sh 59 e, .n f]]
def w9:Fn [.B, .R, .R, .I, .I, .R, .I, .I, .R, .I] Tb:=λa b c d e f g h i j=>[cP 2 0,cA 4 (.b a),cH 8 3 b,cH 16 59 c,cI 18 d,cI 20 e,cH 28 3 f,cI 30 g,cI 32 h,oB 1 [.sh 59 i, .n j]]
def OT(N:aG)(K:Kt R):=o4.l2 N (J w8 .ret K) (J w8 (.exit 0) K)
def OU(N:aG)(K:Kt R):=o4.l5 N (J w9 .ret K) (J w9 (.exit 2) K)
def QT(N:aG):It R:=(lp 2 (al w8 (λK=>OT N K N) an) (lp 5 (al w9 (λK=>OU N K N) an) ln))
theorem VI(N:aG):cB aao (QT N (R:=R)) (ca Tryz.f169 2):=lq 2 w8 (OT N) λK g=>o4.r2 N g (J w8 .ret K) (J w8 (.exit 0) K)
theorem VJ(N:aG):cB aao (QT N (R:=R)) (ca Tryz.f169 5):=lq 5 w9 (OU N) λK g=>o4.r5 N g (J w9 .ret K) (J w9 (.exit 2) K)
def L8:=eL aj7 an1 o4.c o4.v
theorem Ru:cF Tryz.prog T 169 L8:=fq (E:=aao) (aN xY bh) Tryz.func169 (it:=λN=>QT N) (λN=>(bz (VI N) (bz (VJ N) bV))) o4.b o4.vo

def adY:=en [(188,L9),(64,J_),(160,L7),(169,L8)] [(3,[1,2,3,8,9,10])]
def ajY:Fn [.R, .R, .R, .I] As:=λa b c d=>[aV [.sh 9 a, .sh 9 b, .sh 59 c, .n d]]
def anS:Fn [.B] dP:=λa=>⟨[aB a],[]⟩
def wZ:Fn [.B, .I, .I, .R, .R, .R, .I, .R] Tb:=λa b c d e f g h=>[cP 2 0,cA 4 (.b a),cA 6 (.own 1),cA 16 (.own 1),cI 18 b,cI 20 c,oB 1 [.sh 9 d, .sh 9 e, .sh 59 f, .n g],oR 3 9 h]
def OO(N:aG)(K:Kt R):=oC.l3 N (J wZ .ret K) (J wZ (.exit 0) K)
def Yp(N:aG):It R:=(lp 3 (al wZ (λK=>OO N K N) an) ln)
theorem VD(N:aG):cB adY (Yp N (R:=R)) (ca Tryz.f159 3):=lq 3 wZ (OO N) λK g=>oC.r3 N g (J wZ .ret K) (J wZ (.exit 0) K)
def Sx:=eL ajY anS oC.c oC.v
theorem YY:cF Tryz.prog T 159 Sx:=fq (E:=adY) (aN Rv (aN Nl (aN Rt (aN Ru bh)))) Tryz.func159 (it:=λN=>Yp N) (λN=>(bz (VD N) bV)) oC.b oC.vo

def E97:=en [(158,L6),(187,SD),(159,Sx),(188,L9)] [(2,[1,2,6,7,8])]
def A97:Fn [.I, .R, .R, .R, .R, .I, .R, .R, .I] As:=λa b c d e f g h i=>[aV [.n a, .sh 92 b, .sh 9 c, .sh 9 d, .sh 59 e, .n f, .sh 100 g, .sh 53 h, .n i]]
def k97:Fn [.B] dP:=λa=>⟨[aB a],[]⟩
def C0:Fn [.B, .R, .I, .I, .I, .R, .R, .R, .R, .I, .R, .R, .I] Tb:=λa b c d e f g h i j k l m=>[cP 2 0,cA 4 (.b a),cH 12 92 b,cI 14 c,cI 16 d,oB 1 [.n e, .sh 92 f, .sh 9 g, .sh 9 h, .sh 59 i, .n j, .sh 100 k, .sh 53 l, .n m]]
def XI(N:aG)(K:Kt R):=N1.l2 N (J C0 .ret K) (J C0 (.exit 0) K)
def afD(N:aG):It R:=(lp 2 (al C0 (λK=>XI N K N) an) ln)
theorem acf(N:aG):cB E97 (afD N (R:=R)) (ca Tryz.f97 2):=lq 2 C0 (XI N) λK g=>N1.r2 N g (J C0 .ret K) (J C0 (.exit 0) K)
def ahU:=eL A97 k97 N1.c N1.v
theorem apG:cF Tryz.prog T 97 ahU:=fq (E:=E97) (aN YX (aN Y4 (aN YY (aN Rv bh)))) Tryz.func97 (it:=λN=>afD N) (λN=>(bz (acf N) bV)) N1.b N1.vo

def alv:=en [] []
def aj3:Fn [.S, .S, .I, .I, .I, .S] As:=λa b c d e f=>[aV [.s a, .s b, .n c, .n d, .n e], .fb [.s f]]
def anX:Fn [.B] dP:=λa=>⟨[aB a],[]⟩
def ZF:=eL aj3 anX (ct _) Gm.v
theorem agh:cF Tryz.prog T 165 ZF:=ft (E:=alv) bh Tryz.func165 Gm.b λ(a0,a1,a2,a3,a4,a5,_)=>Gm.fM _ a0 a1 a2 a3 a4 a5

def ad0:=en [(165,ZF)] [(2,[0,1,4,7,8])]
def aj2:Fn [.R, .S] As:=λa b=>[aH 100 a, .v aq [.fn 165 [[.s b]]]]
def anW:Fn [.I] dP:=λa=>⟨[aI a],[]⟩
def w7:Fn [.R, .S, .I, .I, .I] Tb:=λa b c d e=>[cH 0 100 a,cA 2 (.fn 165 [[.s b]]),cI 8 c,cI 14 d,cI 16 e]
def OQ(N:aG)(K:Kt R):=qa.l2 N (J w7 .ret K) (J w7 (.exit 0) K)
def Yr(N:aG):It R:=(lp 2 (al w7 (λK=>OQ N K N) an) ln)
theorem VF(N:aG):cB ad0 (Yr N (R:=R)) (ca Tryz.f164 2):=lq 2 w7 (OQ N) λK g=>qa.r2 N g (J w7 .ret K) (J w7 (.exit 0) K)
def ZE:=eL aj2 anW qa.c qa.v
theorem agf:cF Tryz.prog T 164 ZE:=fq (E:=ad0) (aN agh bh) Tryz.func164 (it:=λN=>Yr N) (λN=>(bz (VF N) bV)) qa.b qa.vo

def E71:=en [(164,ZE)] []
def A71:Fn [.I, .R, .R, .R, .R, .I, .R, .R, .I, .S] As:=λa b c d e f g h i j=>[aV [.n a, .sh 92 b, .sh 9 c, .sh 9 d, .sh 59 e, .n f, .sh 100 g, .sh 53 h, .n i],aS j]
def k71:Fn [.I] dP:=λa=>⟨[aI a],[]⟩
def acK:=eL A71 k71 II.c II.v
theorem agX:cF Tryz.prog T 71 acK:=fr (E:=E71) (aN agf bh) Tryz.func71 II.b II.vo

def adQ:=en [(71,acK)] [(2,[1,2,6,7,8])]
def ajC:Fn [.I, .R, .R, .R, .R, .I, .R, .R, .I] As:=λa b c d e f g h i=>[aV [.n a, .sh 92 b, .sh 9 c, .sh 9 d, .sh 59 e, .n f, .sh 100 g, .sh 53 h, .n i]]
def anv:Fn [.B] dP:=λa=>⟨[aB a],[]⟩
def wS:Fn [.B, .R, .I, .I, .I, .R, .R, .R, .R, .I, .R, .R, .I] Tb:=λa b c d e f g h i j k l m=>[cP 2 0,cA 4 (.b a),cH 12 100 b,cI 14 c,cI 16 d,oB 1 [.n e, .sh 92 f, .sh 9 g, .sh 9 h, .sh 59 i, .n j, .sh 100 k, .sh 53 l, .n m]]
def OB(N:aG)(K:Kt R):=vk.l2 N (J wS .ret K) (J wS (.exit 0) K)
def Yh(N:aG):It R:=(lp 2 (al wS (λK=>OB N K N) an) ln)
theorem Vs(N:aG):cB adQ (Yh N (R:=R)) (ca Tryz.f120 2):=lq 2 wS (OB N) λK g=>vk.r2 N g (J wS .ret K) (J wS (.exit 0) K)
def Zu:=eL ajC anv vk.c vk.v
theorem af4:cF Tryz.prog T 120 Zu:=fq (E:=adQ) (aN agX bh) Tryz.func120 (it:=λN=>Yh N) (λN=>(bz (Vs N) bV)) vk.b vk.vo

def E98:=en [(64,J_),(63,sK),(120,Zu)] [(2,[1,2,6,7,8])]
def A98:Fn [.I, .R, .R, .R, .R, .I, .R, .R, .I] As:=λa b c d e f g h i=>[aV [.n a, .sh 92 b, .sh 9 c, .sh 9 d, .sh 59 e, .n f, .sh 100 g, .sh 53 h, .n i]]
def k98:Fn [.B] dP:=λa=>⟨[aB a],[]⟩
def C3:Fn [.B, .R, .I, .I, .I, .R, .R, .R, .R, .I, .R, .R, .I] Tb:=λa b c d e f g h i j k l m=>[cP 2 0,cA 4 (.b a),cH 12 100 b,cI 14 c,cI 16 d,oB 1 [.n e, .sh 92 f, .sh 9 g, .sh 9 h, .sh 59 i, .n j, .sh 100 k, .sh 53 l, .n m]]
def XJ(N:aG)(K:Kt R):=MB.l2 N (J C3 .ret K) (J C3 (.exit 0) K)
def afE(N:aG):It R:=(lp 2 (al C3 (λK=>XJ N K N) an) ln)
theorem acg(N:aG):cB E98 (afE N (R:=R)) (ca Tryz.f98 2):=lq 2 C3 (XJ N) λK g=>MB.r2 N g (J C3 .ret K) (J C3 (.exit 0) K)
def ahV:=eL A98 k98 MB.c MB.v
theorem apH:cF Tryz.prog T 98 ahV:=fq (E:=E98) (aN Nl (aN xY (aN af4 bh))) Tryz.func98 (it:=λN=>afE N) (λN=>(bz (acg N) bV)) MB.b MB.vo

def E99:=en [(63,sK),(64,J_)] [(2,[1,2,6,7,8])]
def A99:Fn [.I, .R, .R, .R, .R, .I, .R, .R, .I] As:=λa b c d e f g h i=>[aV [.n a, .sh 92 b, .sh 9 c, .sh 9 d, .sh 59 e, .n f, .sh 100 g, .sh 53 h, .n i]]
def k99:Fn [.B] dP:=λa=>⟨[aB a],[]⟩
def C7:Fn [.B, .R, .I, .I, .I, .R, .R, .R, .R, .I, .R, .R, .I] Tb:=λa b c d e f g h i j k l m=>[cP 2 0,cA 4 (.b a),cH 12 53 b,cI 14 c,cI 16 d,oB 1 [.n e, .sh 92 f, .sh 9 g, .sh 9 h, .sh 59 i, .n j, .sh 100 k, .sh 53 l, .n m]]
def XK(N:aG)(K:Kt R):=N2.l2 N (J C7 .ret K) (J C7 (.exit 0) K)
def afF(N:aG):It R:=(lp 2 (al C7 (λK=>XK N K N) an) ln)
theorem ach(N:aG):cB E99 (afF N (R:=R)) (ca Tryz.f99 2):=lq 2 C7 (XK N) λK g=>N2.r2 N g (J C7 .ret K) (J C7 (.exit 0) K)
def ahW:=eL A99 k99 N2.c N2.v
theorem apI:cF Tryz.prog T 99 ahW:=fq (E:=E99) (aN xY (aN Nl bh)) Tryz.func99 (it:=λN=>afF N) (λN=>(bz (ach N) bV)) N2.b N2.vo

def E25:=en [(63,sK),(97,ahU),(98,ahV),(99,ahW),(100,LW)] []
def A25:Fn [.I, .R, .R, .R, .R, .I, .R, .R, .I] As:=λa b c d e f g h i=>[aV [.n a, .sh 92 b, .sh 9 c, .sh 9 d, .sh 59 e, .n f, .sh 100 g, .sh 53 h, .n i]]
def k25:Fn [.B] dP:=λa=>⟨[aB a],[]⟩
def WT:=eL A25 k25 Ew.c Ew.v
theorem ack:cF Tryz.prog T 25 WT:=fr (E:=E25) (aN xY (aN apG (aN apH (aN apI (aN Rj bh))))) Tryz.func25 Ew.b Ew.vo

def E65:=en [(156,J6),(156,J7)] []
def A65:Fn [.I, .R, .R, .R, .R, .I, .R, .R, .I, .I] As:=λa b c d e f g h i j=>[aV [.n a, .sh 92 b, .sh 9 c, .sh 9 d, .sh 59 e, .n f, .sh 100 g, .sh 53 h, .n i],aI j]
def k65:Fn [.I] dP:=λa=>⟨[aI a],[]⟩
def ahM:=eL A65 k65 TJ.c TJ.v
theorem apy:cF Tryz.prog T 65 ahM:=fr (E:=E65) (aN Rr (aN Rs bh)) Tryz.func65 TJ.b TJ.vo

def E67:=en [] []
def A67:Fn [.S, .I, .I, .S, .S] As:=λa b c d e=>[aV [.s a, .n b, .n c, .s d], .fb [.s e]]
def k67:Fn [.B] dP:=λa=>⟨[aB a],[]⟩
def ahN:=eL A67 k67 (ct _) U67.v
theorem apz:cF Tryz.prog T 67 ahN:=ft (E:=E67) bh Tryz.func67 U67.b λ(a0,a1,a2,a3,a4,_)=>U67.fM _ a0 a1 a2 a3 a4

def aeg:=en [(67,ahN)] [(2,[0,1,4,7,8])]
def ak7:Fn [.R, .S] As:=λa b=>[aH 92 a, .v aq [.fn 67 [[.s b]]]]
def ao1:Fn [.I] dP:=λa=>⟨[aI a],[]⟩
def xG:Fn [.R, .S, .I, .I, .I] Tb:=λa b c d e=>[cH 0 92 a,cA 2 (.fn 67 [[.s b]]),cI 8 c,cI 14 d,cI 16 e]
def PA(N:aG)(K:Kt R):=vx.l2 N (J xG .ret K) (J xG (.exit 0) K)
def YI(N:aG):It R:=(lp 2 (al xG (λK=>PA N K N) an) ln)
theorem Wj(N:aG):cB aeg (YI N (R:=R)) (ca Tryz.f66 2):=lq 2 xG (PA N) λK g=>vx.r2 N g (J xG .ret K) (J xG (.exit 0) K)
def SW:=eL ak7 ao1 vx.c vx.v
theorem Zf:cF Tryz.prog T 66 SW:=fq (E:=aeg) (aN apz bh) Tryz.func66 (it:=λN=>YI N) (λN=>(bz (Wj N) bV)) vx.b vx.vo

def alw:=en [] []
def aj5:Fn [.S, .I, .I, .S, .S] As:=λa b c d e=>[aV [.s a, .n b, .n c, .s d], .fb [.s e]]
def anZ:Fn [.B] dP:=λa=>⟨[aB a],[]⟩
def Sz:=eL aj5 anZ (ct _) zf.v
theorem Y0:cF Tryz.prog T 167 Sz:=ft (E:=alw) bh Tryz.func167 zf.b λ(a0,a1,a2,a3,a4,_)=>zf.fM _ a0 a1 a2 a3 a4

def aeh:=en [(167,Sz)] [(2,[0,1,4,7,8])]
def ak8:Fn [.R, .S] As:=λa b=>[aH 92 a, .v aq [.fn 167 [[.s b]]]]
def ao2:Fn [.I] dP:=λa=>⟨[aI a],[]⟩
def xH:Fn [.R, .S, .I, .I, .I] Tb:=λa b c d e=>[cH 0 92 a,cA 2 (.fn 167 [[.s b]]),cI 8 c,cI 14 d,cI 16 e]
def PB(N:aG)(K:Kt R):=rL.l2 N (J xH .ret K) (J xH (.exit 0) K)
def YJ(N:aG):It R:=(lp 2 (al xH (λK=>PB N K N) an) ln)
theorem Wk(N:aG):cB aeh (YJ N (R:=R)) (ca Tryz.f66 2):=lq 2 xH (PB N) λK g=>rL.r2 N g (J xH .ret K) (J xH (.exit 0) K)
def SX:=eL ak8 ao2 rL.c rL.v
theorem Zg:cF Tryz.prog T 66 SX:=fq (E:=aeh) (aN Y0 bh) Tryz.func66 (it:=λN=>YJ N) (λN=>(bz (Wk N) bV)) rL.b rL.vo

def alF:=en [] []
def akp:Fn [.S, .I, .I, .S, .I, .S, .I, .I, .I, .S, .I] As:=λa b c d e f g h i j k=>[aV [.s a, .n b, .n c, .s d], .fb [.n e, .s f, .n g, .n h, .n i, .s j, .n k]]
def aoj:Fn [.B] dP:=λa=>⟨[aB a],[]⟩
def ZN:=eL akp aoj (ct _) PO.v
theorem agq:cF Tryz.prog T 206 ZN:=ft (E:=alF) bh Tryz.func206 PO.b λ(a0,a1,a2,a3,a4,a5,a6,a7,a8,a9,a10,_)=>PO.fM _ a0 a1 a2 a3 a4 a5 a6 a7 a8 a9 a10

def aei:=en [(206,ZN)] [(2,[0,1,4,7,8])]
def ak9:Fn [.R, .I, .S, .I, .I, .I, .S, .I] As:=λa b c d e f g h=>[aH 92 a, .v aq [.fn 206 [[.n b, .s c, .n d, .n e, .n f, .s g, .n h]]]]
def ao3:Fn [.I] dP:=λa=>⟨[aI a],[]⟩
def xI:Fn [.R, .I, .S, .I, .I, .I, .S, .I, .I, .I, .I] Tb:=λa b c d e f g h i j k=>[cH 0 92 a,cA 2 (.fn 206 [[.n b, .s c, .n d, .n e, .n f, .s g, .n h]]),cI 8 i,cI 14 j,cI 16 k]
def PC(N:aG)(K:Kt R):=IG.l2 N (J xI .ret K) (J xI (.exit 0) K)
def YK(N:aG):It R:=(lp 2 (al xI (λK=>PC N K N) an) ln)
theorem Wl(N:aG):cB aei (YK N (R:=R)) (ca Tryz.f66 2):=lq 2 xI (PC N) λK g=>IG.r2 N g (J xI .ret K) (J xI (.exit 0) K)
def SY:=eL ak9 ao3 IG.c IG.v
theorem Zh:cF Tryz.prog T 66 SY:=fq (E:=aei) (aN agq bh) Tryz.func66 (it:=λN=>YK N) (λN=>(bz (Wl N) bV)) IG.b IG.vo

def E68:=en [(158,L6),(100,LW),(63,sK)] []
def A68:Fn [.S, .I, .I, .S, .I] As:=λa b c d e=>[aV [.s a, .n b, .n c, .s d],aI e]
def k68:Fn [.B] dP:=λa=>⟨[aB a],[]⟩
def ahO:=eL A68 k68 (ct _) IH.v
theorem apA:cF Tryz.prog T 68 ahO:=ft (E:=E68) (aN YX (aN Rj (aN xY bh))) Tryz.func68 IH.b λ(a0,a1,a2,a3,a4,_)=>IH.fM _ a0 a1 a2 a3 a4

def aas:=en [] [(2,[0,1,5]),(6,[0,1,5,19])]
def akQ:Fn [.I, .S] As:=λa b=>[.v aq [.i .u32 a],aS b]
def aoK:Fn [.I] dP:=λa=>⟨[.v aq [.i .u32 a]],[]⟩
def Ef:Fn [.I, .S, .I] Tb:=λa b c=>[cA 0 (.i .u32 a),cA 2 (.s b),cI 10 c]
def Eg:Fn [.I, .S, .I, .I] Tb:=λa b c d=>[cA 0 (.i .u32 a),cA 2 (.s b),cI 10 c,cI 38 d]
def Pg(N:aG)(K:Kt R):=vq.l2 N (J Ef (.exit 0) K)
def Ph(N:aG)(K:Kt R):=vq.l6 N (J Eg (.exit 2) K)
def QX(N:aG):It R:=(lp 2 (al Ef (λK=>Pg N K N) an) (lp 6 (al Eg (λK=>Ph N K N) an) ln))
theorem V0(N:aG):cB aas (QX N (R:=R)) (ca Tryz.f253 2):=lq 2 Ef (Pg N) λK g=>vq.r2 N g (J Ef (.exit 0) K)
theorem V3(N:aG):cB aas (QX N (R:=R)) (ca Tryz.f253 6):=lq 6 Eg (Ph N) λK g=>vq.r6 N g (J Eg (.exit 2) K)
def Z0:=eL akQ aoK vq.c vq.v
theorem agF:cF Tryz.prog T 253 Z0:=fq (E:=aas) bh Tryz.func253 (it:=λN=>QX N) (λN=>(bz (V0 N) (bz (V3 N) bV))) vq.b vq.vo

def alN:=en [(253,Z0)] []
def akA:Fn [.S] As:=λa=>[aS a]
def aou:Fn [.I] dP:=λa=>⟨[.v aq [.i .u32 a]],[]⟩
def SN:=eL akA aou tN.c tN.v
theorem agx:cF Tryz.prog T 224 SN:=fr (E:=alN) (aN agF bh) Tryz.func224 tN.b tN.vo

def alx:=en [(224,SN)] []
def aj8:Fn [.I, .S] As:=λa b=>[aI a,aS b]
def an2:Fn [.I] dP:=λa=>⟨[aI a],[]⟩
def SB:=eL aj8 an2 qb.c qb.v
theorem Y2:cF Tryz.prog T 170 SB:=fr (E:=alx) (aN agx bh) Tryz.func170 qb.b qb.vo

def E74:=en [(168,SA),(169,L8),(170,SB)] [(5,[1,4,5,19,20,21]),(15,[4,5,49,50,51]),(18,[4,5,10,49,50,51,56,57])]
def A74:Fn [.R, .I, .S] As:=λa b c=>[aV [.sh 59 a, .n b],aS c]
def k74:Fn [.R, .I] dP:=λa b=>⟨[aV [.ow 59 ak a, .n b]],[]⟩
def KN:Fn [.S, .I, .I, .I, .I, .R] Tb:=λa b c d e f=>[cA 2 (.s a),cP 8 0,cP 10 1,cA 38 (.own 2),cI 40 b,cI 42 c,oB 1 [.nl, .n d],oB 3 [.own 2, .n e],oR 5 59 f]
def Er:Fn [.I, .I, .I, .I, .R] Tb:=λa b c d e=>[cP 8 0,cP 10 1,cA 98 (.own 2),cI 100 a,cI 102 b,oB 1 [.nl, .n c],oB 3 [.own 2, .n d],oR 5 59 e]
def Es:Fn [.N, .I, .I, .I, .I, .I, .I, .R] Tb:=λa b c d e f g h=>[cP 8 0,cP 10 1,cA 20 (.inn 2 a 0),cA 98 (.own 2),cI 100 b,cI 102 c,cI 112 d,cI 114 e,oB 1 [.nl, .n f],oB 3 [.own 2, .n g],oR 5 59 h]
def XE(N:aG)(K:Kt R):=nM.l5 N (J KN (.exit 0) K)
def PD(N:aG)(K:Kt R):=nM.l15 N (J Er (.exit 2) K)
def PE(N:aG)(K:Kt R):=nM.l18 N (J Es (.exit 4) K)
def Vi(N:aG):It R:=(lp 5 (al KN (λK=>XE N K N) an) (lp 15 (al Er (λK=>PD N K N) an) (lp 18 (al Es (λK=>PE N K N) an) ln)))
theorem aca(N:aG):cB E74 (Vi N (R:=R)) (ca Tryz.f74 5):=lq 5 KN (XE N) λK g=>nM.r5 N g (J KN (.exit 0) K)
theorem Wm(N:aG):cB E74 (Vi N (R:=R)) (ca Tryz.f74 15):=lq 15 Er (PD N) λK g=>nM.r15 N g (J Er (.exit 2) K)
theorem Wn(N:aG):cB E74 (Vi N (R:=R)) (ca Tryz.f74 18):=lq 18 Es (PE N) λK g=>nM.r18 N g (J Es (.exit 4) K)
def acL:=eL A74 k74 nM.c nM.v
theorem agY:cF Tryz.prog T 74 acL:=fq (E:=E74) (aN Y1 (aN Ru (aN Y2 bh))) Tryz.func74 (it:=λN=>Vi N) (λN=>(bz (aca N) (bz (Wm N) (bz (Wn N) bV)))) nM.b nM.vo

def alL:=en [] []
def aky:Fn [.S, .S] As:=λa b=>[aS a, .fb [.s b]]
def aos:Fn [.B] dP:=λa=>⟨[aB a],[]⟩
def SM:=eL aky aos (ct _) zi.v
theorem Za:cF Tryz.prog T 220 SM:=ft (E:=alL) bh Tryz.func220 zi.b λ(a0,a1,_)=>zi.fM _ a0 a1

def aeb:=en [(220,SM)] [(2,[0,1,4,7,8])]
def akP:Fn [.R, .S] As:=λa b=>[aH 9 a, .v aq [.fn 220 [[.s b]]]]
def aoJ:Fn [.I] dP:=λa=>⟨[aI a],[]⟩
def xF:Fn [.R, .S, .I, .I, .I] Tb:=λa b c d e=>[cH 0 9 a,cA 2 (.fn 220 [[.s b]]),cI 8 c,cI 14 d,cI 16 e]
def Pf(N:aG)(K:Kt R):=rK.l2 N (J xF .ret K) (J xF (.exit 0) K)
def YD(N:aG):It R:=(lp 2 (al xF (λK=>Pf N K N) an) ln)
theorem VZ(N:aG):cB aeb (YD N (R:=R)) (ca Tryz.f251 2):=lq 2 xF (Pf N) λK g=>rK.r2 N g (J xF .ret K) (J xF (.exit 0) K)
def ZZ:=eL akP aoJ rK.c rK.v
theorem agE:cF Tryz.prog T 251 ZZ:=fq (E:=aeb) (aN Za bh) Tryz.func251 (it:=λN=>YD N) (λN=>(bz (VZ N) bV)) rK.b rK.vo

def ad9:=en [(251,ZZ),(220,SM)] [(5,[0,1,5,6])]
def akx:Fn [.R, .S] As:=λa b=>[aO 9 a, .v aq [.fn 220 [[.s b]]]]
def aor:Fn [.R] dP:=λa=>⟨[aO 9 a],[[.nl]]⟩
def Eb:Fn [.S, .I, .I, .R] Tb:=λa b c d=>[cA 0 (.own 900000000),cA 2 (.fn 220 [[.s a]]),cI 10 b,cI 12 c,oR 1800000001 9 d]
def O7(N:aG)(K:Kt R):=vm.l5 N (J Eb (.exit 0) K)
def YA(N:aG):It R:=(lp 5 (al Eb (λK=>O7 N K N) an) ln)
theorem VT(N:aG):cB ad9 (YA N (R:=R)) (ca Tryz.f219 5):=lq 5 Eb (O7 N) λK g=>vm.r5 N g (J Eb (.exit 0) K)
def ZR:=eL akx aor vm.c vm.v
theorem agv:cF Tryz.prog T 219 ZR:=fq (E:=ad9) (aN agE (aN Za bh)) Tryz.func219 (it:=λN=>YA N) (λN=>(bz (VT N) bV)) vm.b vm.vo

def alu:=en [(217,SL),(219,ZR)] []
def aj0:Fn [.R, .S] As:=λa b=>[aH 9 a,aS b]
def anU:Fn [.R] dP:=λa=>⟨[aO 9 a],[]⟩
def Sy:=eL aj0 anU jK.c jK.v
theorem YZ:cF Tryz.prog T 161 Sy:=fr (E:=alu) (aN Y_ (aN agv bh)) Tryz.func161 jK.b jK.vo

def adZ:=en [(169,L8),(170,SB)] [(5,[1,5,12,13,14])]
def aj1:Fn [.R, .I, .S] As:=λa b c=>[aV [.sh 59 a, .n b],aS c]
def anV:Fn [.I] dP:=λa=>⟨[aI a],[]⟩
def D5:Fn [.S, .I, .R, .I, .I] Tb:=λa b c d e=>[cA 2 (.s a),cI 10 b,cH 24 59 c,cI 26 d,cI 28 e]
def OP(N:aG)(K:Kt R):=uG.l5 N (J D5 (.exit 0) K)
def Yq(N:aG):It R:=(lp 5 (al D5 (λK=>OP N K N) an) ln)
theorem VE(N:aG):cB adZ (Yq N (R:=R)) (ca Tryz.f162 5):=lq 5 D5 (OP N) λK g=>uG.r5 N g (J D5 (.exit 0) K)
def ZC:=eL aj1 anV uG.c uG.v
theorem agc:cF Tryz.prog T 162 ZC:=fq (E:=adZ) (aN Ru (aN Y2 bh)) Tryz.func162 (it:=λN=>Yq N) (λN=>(bz (VE N) bV)) uG.b uG.vo

def E69:=en [(155,L5),(159,Sx),(64,J_),(74,acL),(160,L7),(161,Sy),(162,ZC)] []
def A69:Fn [.R, .R, .R, .I, .S] As:=λa b c d e=>[aV [.sh 9 a, .sh 9 b, .sh 59 c, .n d],aS e]
def k69:Fn [.R, .R, .R, .I, .S] dP:=λa b c d e=>⟨[aV [.ow 9 ak a, .ow 9 ak b, .ow 59 ak c, .n d],aS e],[]⟩
def acJ:=eL A69 k69 MA.c MA.v
theorem agW:cF Tryz.prog T 69 acJ:=fr (E:=E69) (aN Rq (aN YY (aN Nl (aN agY (aN Rt (aN YZ (aN agc bh))))))) Tryz.func69 MA.b MA.vo

def acA:Go.Shelf.Ren:=⟨λn=>bif bA n 22 then 163 else bif bA n 29 then 221 else 222,λn=>bif bA n 24 then 39 else bif bA n 9 then 53 else bif bA n 3 then 3 else bif bA n 4 then 4 else n,λn=>n⟩
def ZD:aA eV->aC (aY×dP):=Ins.zQ 53 72
theorem abL:Ins.L Tryz.prog acA "slices.Insert[[]loop.example/g00245/impl.Client,loop.example/g00245/impl.Client]" 7 where
 mixed:=hM
 f22:=Tryz.func163.trans (by kernel_rfl)
 t3:=by kernel_rfl
 a3:=Ins.oe (P:=Tryz.prog) (t:=3) (d:= .int .i64) (by kernel_rfl) rfl
 t4:=by kernel_rfl
 a4:=Ins.oe (P:=Tryz.prog) (t:=4) (d:= .bool) (by kernel_rfl) rfl
 t24:=by kernel_rfl
 a24:=Ins.oe (P:=Tryz.prog) (t:=39) (d:= .slice 53) (by kernel_rfl) rfl
 z9:=Ins.LV hE (t:=53) (ti:=⟨ak,[.i .i64, .s, .i .i64, .i .i64, .i .i64, .s, .i .i64],72⟩) (by kernel_rfl)
theorem agd:cF Tryz.prog T 163 ZD:=
 Ins.Ds (e:=53) (te:=⟨ak,[.i .i64, .s, .i .i64, .i .i64, .i .i64, .s, .i .i64],72⟩) (by kernel_rfl) rfl (by kernel_rfl) hE abL
  (λargs w=>run_callFunc_extern (e:=gC #[39,39] #[4]) Tryz.func221 (by kernel_rfl) (by kernel_rfl) (by kernel_rfl) (by kernel_rfl) args w)
  ⟨_,Tryz.func163,by kernel_rfl,by kernel_rfl⟩

def E70:=en [(163,ZD)] [(2,[0,3,4])]
def A70:Fn [.I, .R, .R, .R, .R, .I, .R, .R, .I, .I, .S, .I, .I, .I, .S, .I] As:=λa b c d e f g h i j k l m o p q=>[.pt [.n a, .ow 92 ak b, .ow 9 ak c, .ow 9 ak d, .ow 59 ak e, .n f, .ow 100 ak g, .ow 53 ak h, .n i],aV [.n j, .s k, .n l, .n m, .n o, .s p, .n q]]
def k70:Fn [.I, .R, .R, .R, .R, .I, .R, .R, .I] dP:=λa b c d e f g h i=>⟨[],[[.n a, .kp b, .kp c, .kp d, .kp e, .n f, .kp g, .ow 53 ak h, .n i]]⟩
def KM:Fn [.I, .I, .I, .I, .I, .S, .I, .I, .I, .S, .I, .R, .R, .R, .R, .R, .R] Tb:=λa b c d e f g h i j k l m o p q r=>[cP 0 900000900,cP 6 1,cI 8 a,oB 1800001801 [.n b, .own 900000001, .own 900000002, .own 900000003, .own 900000004, .n c, .own 900000006, .own 900000007, .n d],oB 3 [.n e, .s f, .n g, .n h, .n i, .s j, .n k],oR 1800000003 92 l,oR 1800000005 9 m,oR 1800000007 9 o,oR 1800000009 59 p,oR 1800000013 100 q,oR 1800000015 53 r]
def XD(N:aG)(K:Kt R):=pj.l2 N (J KM (.exit 0) K)
def afz(N:aG):It R:=(lp 2 (al KM (λK=>XD N K N) an) ln)
theorem ab_(N:aG):cB E70 (afz N (R:=R)) (ca Tryz.f70 2):=lq 2 KM (XD N) λK g=>pj.r2 N g (J KM (.exit 0) K)
def ahP:=eL A70 k70 pj.c pj.v
theorem apB:cF Tryz.prog T 70 ahP:=fq (E:=E70) (aN agd bh) Tryz.func70 (it:=λN=>afz N) (λN=>(bz (ab_ N) bV)) pj.b pj.vo

def ad1:=en [(66,SW),(66,SX),(66,SY),(167,Sz)] [(5,[0,1,5,6])]
def aj4:Fn [.R, .S] As:=λa b=>[aO 92 a, .v aq [.fn 167 [[.s b]]]]
def anY:Fn [.R] dP:=λa=>⟨[aO 92 a],[[.nl]]⟩
def D6:Fn [.S, .I, .I, .R] Tb:=λa b c d=>[cA 0 (.own 900000000),cA 2 (.fn 167 [[.s a]]),cI 10 b,cI 12 c,oR 1800000001 92 d]
def OR(N:aG)(K:Kt R):=oD.l5 N (J D6 (.exit 0) K)
def Ys(N:aG):It R:=(lp 5 (al D6 (λK=>OR N K N) an) ln)
theorem VG(N:aG):cB ad1 (Ys N (R:=R)) (ca Tryz.f166 5):=lq 5 D6 (OR N) λK g=>oD.r5 N g (J D6 (.exit 0) K)
def ZG:=eL aj4 anY oD.c oD.v
theorem agi:cF Tryz.prog T 166 ZG:=fq (E:=ad1) (aN Zf (aN Zg (aN Zh (aN Y0 bh)))) Tryz.func166 (it:=λN=>Ys N) (λN=>(bz (VG N) bV)) oD.b oD.vo

def E72:=en [(154,Sw),(166,ZG)] []
def A72:Fn [.R, .S] As:=λa b=>[aH 92 a,aS b]
def k72:Fn [.R] dP:=λa=>⟨[aO 92 a],[]⟩
def WV:=eL A72 k72 BZ.c BZ.v
theorem acn:cF Tryz.prog T 72 WV:=fr (E:=E72) (aN YW (aN agi bh)) Tryz.func72 BZ.b BZ.vo

def E73:=en [(155,L5),(161,Sy)] []
def A73:Fn [.R, .R, .R, .I, .S] As:=λa b c d e=>[aV [.sh 9 a, .sh 9 b, .sh 59 c, .n d],aS e]
def k73:Fn [.R, .R, .R, .I] dP:=λa b c d=>⟨[aV [.ow 9 ak a, .ow 9 ak b, .ow 59 ak c, .n d]],[]⟩
def ahQ:=eL A73 k73 Ia.c Ia.v
theorem apC:cF Tryz.prog T 73 ahQ:=fr (E:=E73) (aN Rq (aN YZ bh)) Tryz.func73 Ia.b Ia.vo

def E11:=en [(62,NM),(25,WT),(63,sK),(64,J_),(65,ahM),(66,SW),(66,SX),(66,SY),(68,ahO),(69,acJ),(70,ahP),(71,acK),(72,WV),(73,ahQ),(74,acL)] []
def A11:Fn [.I, .R, .R, .R, .R, .I, .R, .R, .I, .I, .S] As:=λa b c d e f g h i j k=>[aV [.n a, .sh 92 b, .sh 9 c, .sh 9 d, .sh 59 e, .n f, .sh 100 g, .sh 53 h, .n i],aI j,aS k]
def k11:Fn [.I, .R, .R, .R, .R, .I, .R, .R, .I, .I] dP:=λa b c d e f g h i j=>⟨[aV [.n a, .ow 92 ak b, .ow 9 ak c, .ow 9 ak d, .ow 59 ak e, .n f, .ow 100 ak g, .ow 53 ak h, .n i],aI j],[]⟩
def ahn:=eL A11 k11 wB.c wB.v
theorem apg:cF Tryz.prog T 11 ahn:=fr (E:=E11) (aN RA (aN ack (aN xY (aN Nl (aN apy (aN Zf (aN Zg (aN Zh (aN apA (aN agW (aN apB (aN agX (aN acn (aN apC (aN agY bh))))))))))))))) Tryz.func11 wB.b wB.vo

def alc:=en [(25,WT),(63,sK)] []
def ajv:Fn [.I, .R, .R, .R, .R, .I, .R, .R, .I, .I] As:=λa b c d e f g h i j=>[aV [.n a, .sh 92 b, .sh 9 c, .sh 9 d, .sh 59 e, .n f, .sh 100 g, .sh 53 h, .n i],aI j]
def anm:Fn [.B] dP:=λa=>⟨[aB a],[]⟩
def LX:=eL ajv anm tI.c tI.v
theorem Rk:cF Tryz.prog T 104 LX:=fr (E:=alc) (aN ack (aN xY bh)) Tryz.func104 tI.b tI.vo

def alC:=en [] []
def akd:Fn [.I, .S, .R] As:=λa b c=>[aV [.n a, .s b, .sh 231 c]]
def an8:Fn [.I, .S, .R] dP:=λa b c=>⟨[aV [.n a, .s b, .ow 231 ak c]],[]⟩
def ZJ:=eL akd an8 IC.c IC.v
theorem agl:cF Tryz.prog T 190 ZJ:=fh (E:=alC) bh Tryz.func190 (it:=λ_=>ln) (λ_=>bV) (λ_=>IC.b) λx f h=>⟨0,IC.fM _ x.1 x.2.1 x.2.2.1 h⟩

def ad3:=en [(63,sK)] [(2,[1,2,6,7,8])]
def ake:Fn [.I, .S, .R] As:=λa b c=>[aV [.n a, .s b, .sh 231 c]]
def an9:Fn [.B] dP:=λa=>⟨[aB a],[]⟩
def w_:Fn [.B, .R, .I, .I, .I, .S, .R] Tb:=λa b c d e f g=>[cP 2 0,cA 4 (.b a),cH 12 231 b,cI 14 c,cI 16 d,oB 1 [.n e, .s f, .sh 231 g]]
def OX(N:aG)(K:Kt R):=Gn.l2 N (J w_ .ret K) (J w_ (.exit 0) K)
def Yu(N:aG):It R:=(lp 2 (al w_ (λK=>OX N K N) an) ln)
theorem VL(N:aG):cB ad3 (Yu N (R:=R)) (ca Tryz.f191 2):=lq 2 w_ (OX N) λK g=>Gn.r2 N g (J w_ .ret K) (J w_ (.exit 0) K)
def ZK:=eL ake an9 (ct _) Gn.v
theorem agm:cF Tryz.prog T 191 ZK:=fh (E:=ad3) (aN xY bh) Tryz.func191 (it:=λN=>Yu N) (λN=>(bz (VL N) bV)) Gn.b λx f h=>Gn.fM _ x.1 x.2.1 x.2.2.1 f.1.2.1 f.1.2.2.1

def ald:=en [(190,ZJ),(191,ZK),(63,sK)] []
def ajw:Fn [.I, .S, .R, .S] As:=λa b c d=>[aV [.n a, .s b, .sh 231 c],aS d]
def ann:Fn [.I, .S, .R, .B] dP:=λa b c d=>⟨[aV [.n a, .s b, .ow 231 ak c],aB d],[]⟩
def Zq:=eL ajw ann Cb.c Cb.v
theorem af0:cF Tryz.prog T 105 Zq:=fh (E:=ald) (aN agl (aN agm (aN xY bh))) Tryz.func105 (it:=λ_=>ln) (λ_=>bV) (λ_=>Cb.b) λx f h=>⟨0,Cb.fM _ x.1 x.2.1 x.2.2.1 x.2.2.2.1 h f.1.2.1 f.1.2.2.1 f.2.1.1⟩

def adN:=en [] [(1,[0,1,9,10,11])]
def ajx:Fn [.I, .R, .R, .R, .R, .I, .R, .R, .I, .I] As:=λa b c d e f g h i j=>[.pt [.n a, .ow 92 ak b, .ow 9 ak c, .ow 9 ak d, .ow 59 ak e, .n f, .ow 100 ak g, .ow 53 ak h, .n i],aI j]
def ano:Fn [.I, .R, .R, .R, .R, .I, .R, .R, .I] dP:=λa b c d e f g h i=>⟨[],[[.n a, .kp b, .kp c, .kp d, .kp e, .n f, .kp g, .kp h, .n i]]⟩
def DX:Fn [.I, .I, .I, .I, .I, .I, .R, .R, .R, .R, .R, .R] Tb:=λa b c d e f g h i j k l=>[cP 0 900000900,cI 2 a,cA 18 (.own 900000007),cI 20 b,cI 22 c,oB 1800001801 [.n d, .own 900000001, .own 900000002, .own 900000003, .own 900000004, .n e, .own 900000006, .own 900000007, .n f],oR 1800000015 53 g,oR 1800000003 92 h,oR 1800000005 9 i,oR 1800000007 9 j,oR 1800000009 59 k,oR 1800000013 100 l]
def Oy(N:aG)(K:Kt R):=ze.l1 N (J DX (.exit 0) K)
def Ye(N:aG):It R:=(lp 1 (al DX (λK=>Oy N K N) an) ln)
theorem Vp(N:aG):cB adN (Ye N (R:=R)) (ca Tryz.f106 1):=lq 1 DX (Oy N) λK g=>ze.r1 N g (J DX (.exit 0) K)
def Zr:=eL ajx ano ze.c ze.v
theorem af1:cF Tryz.prog T 106 Zr:=fq (E:=adN) bh Tryz.func106 (it:=λN=>Ye N) (λN=>(bz (Vp N) bV)) ze.b ze.vo

def E28:=en [(62,NM),(104,LX),(105,Zq),(106,Zr)] []
def A28:Fn [.I, .R, .R, .R, .R, .I, .R, .R, .I, .I, .S] As:=λa b c d e f g h i j k=>[aV [.n a, .sh 92 b, .sh 9 c, .sh 9 d, .sh 59 e, .n f, .sh 100 g, .sh 53 h, .n i],aI j,aS k]
def k28:Fn [.I, .R, .R, .R, .R, .I, .R, .R, .I, .B] dP:=λa b c d e f g h i j=>⟨[aV [.n a, .ow 92 ak b, .ow 9 ak c, .ow 9 ak d, .ow 59 ak e, .n f, .ow 100 ak g, .ow 53 ak h, .n i],aB j],[]⟩
def ahD:=eL A28 k28 KS.c KS.v
theorem apo:cF Tryz.prog T 28 ahD:=fr (E:=E28) (aN RA (aN Rk (aN af0 (aN af1 bh)))) Tryz.func28 KS.b KS.vo

def adO:=en [] [(1,[0,1,2,11,12,13])]
def ajy:Fn [.I, .R, .R, .R, .R, .I, .R, .R, .I, .I, .I] As:=λa b c d e f g h i j k=>[.pt [.n a, .ow 92 ak b, .ow 9 ak c, .ow 9 ak d, .ow 59 ak e, .n f, .ow 100 ak g, .ow 53 ak h, .n i],aI j,aI k]
def anp:Fn [.I, .R, .R, .R, .R, .I, .R, .R, .I] dP:=λa b c d e f g h i=>⟨[],[[.n a, .kp b, .kp c, .kp d, .kp e, .n f, .kp g, .kp h, .n i]]⟩
def DY:Fn [.I, .I, .I, .I, .I, .I, .I, .R, .R, .R, .R, .R, .R] Tb:=λa b c d e f g h i j k l m=>[cP 0 900000900,cI 2 a,cI 4 b,cA 22 (.own 900000007),cI 24 c,cI 26 d,oB 1800001801 [.n e, .own 900000001, .own 900000002, .own 900000003, .own 900000004, .n f, .own 900000006, .own 900000007, .n g],oR 1800000015 53 h,oR 1800000003 92 i,oR 1800000005 9 j,oR 1800000007 9 k,oR 1800000009 59 l,oR 1800000013 100 m]
def Oz(N:aG)(K:Kt R):=uF.l1 N (J DY (.exit 0) K)
def Yf(N:aG):It R:=(lp 1 (al DY (λK=>Oz N K N) an) ln)
theorem Vq(N:aG):cB adO (Yf N (R:=R)) (ca Tryz.f107 1):=lq 1 DY (Oz N) λK g=>uF.r1 N g (J DY (.exit 0) K)
def Sn:=eL ajy anp uF.c uF.v
theorem YQ:cF Tryz.prog T 107 Sn:=fq (E:=adO) bh Tryz.func107 (it:=λN=>Yf N) (λN=>(bz (Vq N) bV)) uF.b uF.vo

def acB:Go.Shelf.Ren:=⟨λn=>bif bA n 22 then 234 else bif bA n 29 then 262 else 263,λn=>bif bA n 24 then 34 else bif bA n 9 then 92 else bif bA n 3 then 3 else bif bA n 4 then 4 else n,λn=>n⟩
def ZW:aA eV->aC (aY×dP):=Ins.zQ 92 48
theorem abM:Ins.L Tryz.prog acB "slices.Insert[[]loop.example/g00245/impl.Entry,loop.example/g00245/impl.Entry]" 4 where
 mixed:=hM
 f22:=Tryz.func234.trans (by kernel_rfl)
 t3:=by kernel_rfl
 a3:=Ins.oe (P:=Tryz.prog) (t:=3) (d:= .int .i64) (by kernel_rfl) rfl
 t4:=by kernel_rfl
 a4:=Ins.oe (P:=Tryz.prog) (t:=4) (d:= .bool) (by kernel_rfl) rfl
 t24:=by kernel_rfl
 a24:=Ins.oe (P:=Tryz.prog) (t:=34) (d:= .slice 92) (by kernel_rfl) rfl
 z9:=Ins.LV hE (t:=92) (ti:=⟨ak,[.s, .i .i64, .i .i64, .s],48⟩) (by kernel_rfl)
theorem agB:cF Tryz.prog T 234 ZW:=
 Ins.Ds (e:=92) (te:=⟨ak,[.s, .i .i64, .i .i64, .s],48⟩) (by kernel_rfl) rfl (by kernel_rfl) hE abM
  (λargs w=>run_callFunc_extern (e:=gC #[34,34] #[4]) Tryz.func262 (by kernel_rfl) (by kernel_rfl) (by kernel_rfl) (by kernel_rfl) args w)
  ⟨_,Tryz.func234,by kernel_rfl,by kernel_rfl⟩

def ad4:=en [(72,WV),(234,ZW)] [(3,[3,5,6])]
def akf:Fn [.R, .S, .I, .I, .S] As:=λa b c d e=>[aH 92 a,aV [.s b, .n c, .n d, .s e]]
def an_:Fn [.R] dP:=λa=>⟨[aO 92 a],[]⟩
def D8:Fn [.I, .S, .I, .I, .S, .R] Tb:=λa b c d e f=>[cP 6 0,cA 10 (.own 1),cI 12 a,oB 1 [.s b, .n c, .n d, .s e],oR 3 92 f]
def OY(N:aG)(K:Kt R):=tM.l3 N (J D8 (.exit 0) K)
def Yv(N:aG):It R:=(lp 3 (al D8 (λK=>OY N K N) an) ln)
theorem VM(N:aG):cB ad4 (Yv N (R:=R)) (ca Tryz.f192 3):=lq 3 D8 (OY N) λK g=>tM.r3 N g (J D8 (.exit 0) K)
def SE:=eL akf an_ tM.c tM.v
theorem agn:cF Tryz.prog T 192 SE:=fq (E:=ad4) (aN acn (aN agB bh)) Tryz.func192 (it:=λN=>Yv N) (λN=>(bz (VM N) bV)) tM.b tM.vo

def ale:=en [(69,acJ),(72,WV),(187,SD),(192,SE)] []
def ajz:Fn [.I, .R, .R, .R, .R, .I, .R, .R, .I, .S, .I, .I, .S] As:=λa b c d e f g h i j k l m=>[.pt [.n a, .ow 92 ak b, .ow 9 ak c, .ow 9 ak d, .ow 59 ak e, .n f, .ow 100 ak g, .ow 53 ak h, .n i],aV [.s j, .n k, .n l, .s m]]
def anq:Fn [.I, .R, .R, .R, .R, .I, .R, .R, .I] dP:=λa b c d e f g h i=>⟨[],[[.n a, .ow 92 ak b, .ow 9 ak c, .ow 9 ak d, .ow 59 ak e, .n f, .kp g, .kp h, .n i]]⟩
def Zs:=eL ajz anq Cc.c Cc.v
theorem af2:cF Tryz.prog T 108 Zs:=fr (E:=ale) (aN agW (aN acn (aN Y4 (aN agn bh)))) Tryz.func108 Cc.b Cc.vo

def E29:=en [(62,NM),(104,LX),(63,sK),(107,Sn),(108,Zs)] []
def A29:Fn [.I, .R, .R, .R, .R, .I, .R, .R, .I, .I, .I] As:=λa b c d e f g h i j k=>[aV [.n a, .sh 92 b, .sh 9 c, .sh 9 d, .sh 59 e, .n f, .sh 100 g, .sh 53 h, .n i],aI j,aI k]
def k29:Fn [.I, .R, .R, .R, .R, .I, .R, .R, .I, .B] dP:=λa b c d e f g h i j=>⟨[aV [.n a, .ow 92 ak b, .ow 9 ak c, .ow 9 ak d, .ow 59 ak e, .n f, .ow 100 ak g, .ow 53 ak h, .n i],aB j],[]⟩
def ahE:=eL A29 k29 NY.c NY.v
theorem apq:cF Tryz.prog T 29 ahE:=fr (E:=E29) (aN RA (aN Rk (aN xY (aN YQ (aN af2 bh))))) Tryz.func29 NY.b NY.vo

def E30:=en [(62,NM),(104,LX),(107,Sn)] []
def A30:Fn [.I, .R, .R, .R, .R, .I, .R, .R, .I, .I] As:=λa b c d e f g h i j=>[aV [.n a, .sh 92 b, .sh 9 c, .sh 9 d, .sh 59 e, .n f, .sh 100 g, .sh 53 h, .n i],aI j]
def k30:Fn [.I, .R, .R, .R, .R, .I, .R, .R, .I, .B] dP:=λa b c d e f g h i j=>⟨[aV [.n a, .ow 92 ak b, .ow 9 ak c, .ow 9 ak d, .ow 59 ak e, .n f, .ow 100 ak g, .ow 53 ak h, .n i],aB j],[]⟩
def ahF:=eL A30 k30 NZ.c NZ.v
theorem apr:cF Tryz.prog T 30 ahF:=fr (E:=E30) (aN RA (aN Rk (aN YQ bh))) Tryz.func30 NZ.b NZ.vo

def E20:=en [] [(2,[1,2,4,5,6])]
def A20:Fn [.I, .R, .R, .R, .R, .I, .R, .R, .I, .I] As:=λa b c d e f g h i j=>[aV [.n a, .sh 92 b, .sh 9 c, .sh 9 d, .sh 59 e, .n f, .sh 100 g, .sh 53 h, .n i],aI j]
def k20:Fn [.I, .S, .I, .I, .I, .S, .I, .B] dP:=λa b c d e f g h=>⟨[aV [.n a, .s b, .n c, .n d, .n e, .s f, .n g],aB h],[]⟩
def CT:Fn [.I, .B, .I, .I, .R, .R, .R, .R, .I, .R, .R, .I, .I, .S, .I, .I, .I, .S, .I] Tb:=λa b c d e f g h i j k l m o p q r s t=>[cI 2 a,cP 4 0,cP 8 1,cA 10 (.b b),cI 12 c,oB 1 [.n d, .sh 92 e, .sh 9 f, .sh 9 g, .sh 59 h, .n i, .sh 100 j, .sh 53 k, .n l],oB 3 [.n m, .s o, .n p, .n q, .n r, .s s, .n t]]
def Xp(N:aG)(K:Kt R):=xL.l2 N (J CT .ret K) (J CT (.exit 0) K)
def afu(N:aG):It R:=(lp 2 (al CT (λK=>Xp N K N) an) ln)
theorem abY(N:aG):cB E20 (afu N (R:=R)) (ca Tryz.f20 2):=lq 2 CT (Xp N) λK g=>xL.r2 N g (J CT .ret K) (J CT (.exit 0) K)
def ahq:=eL A20 k20 xL.c xL.v
theorem apj:cF Tryz.prog T 20 ahq:=fq (E:=E20) bh Tryz.func20 (it:=λN=>afu N) (λN=>(bz (abY N) bV)) xL.b xL.vo

def E5:=en [(15,aho),(21,ahv),(27,ahC),(19,ahp),(11,ahn),(28,ahD),(29,ahE),(30,ahF),(20,ahq),(25,WT)] [(6,[2,3,4,5]),(11,[2,3,4,6,7]),(25,[2,10,11,12,13,14,15,16,17,18])]
def A5:Fn [.R] As:=λa=>[aH 5 a]
def k5:Fn [.B] dP:=λa=>⟨[aB a],[]⟩
def Uh:Fn [.B, .I, .I, .I, .I, .R, .R, .R, .R, .R, .R, .R] Tb:=λa b c d e f g h i j k l=>[cA 4 (.b a),cP 6 0,cA 8 (.own 1),cI 10 b,oB 1 [.n c, .own 2, .own 3, .own 4, .own 5, .n d, .own 6, .own 7, .n e],oR 3 3 f,oR 5 92 g,oR 7 9 h,oR 9 9 i,oR 11 59 j,oR 13 100 k,oR 15 53 l]
def CY:Fn [.B, .I, .I, .I, .I, .I, .R, .R, .R, .R, .R, .R, .R] Tb:=λa b c d e f g h i j k l m=>[cA 4 (.b a),cP 6 0,cA 8 (.own 1),cI 12 b,cI 14 c,oB 1 [.n d, .own 2, .own 3, .own 4, .own 5, .n e, .own 6, .own 7, .n f],oR 3 3 g,oR 5 92 h,oR 7 9 i,oR 9 9 j,oR 11 59 k,oR 13 100 l,oR 15 53 m]
def CZ:Fn [.B, .B, .B, .I, .B, .B, .I, .I, .I, .I, .I, .I, .I, .I, .I, .I, .R, .R, .R, .R, .R, .R, .R, .R, .R, .R, .R, .R, .R, .R, .R, .R, .R, .R] Tb:=λa b c d e f g h i j k l m o p q r s t u v w x y z aa ab ac ad ae af ag ah ai=>[cA 4 (.b a),cA 20 (.b b),cA 22 (.b c),cP 24 0,cI 26 d,cP 28 1,cA 30 (.b e),cP 32 2,cA 34 (.b f),cI 36 g,oB 1 [.n h, .own 3, .own 4, .own 5, .own 6, .n i, .own 7, .own 8, .n j],oB 3 [.n k, .own 9, .own 10, .own 11, .own 12, .n l, .own 13, .own 14, .n m],oB 5 [.n o, .own 15, .own 16, .own 17, .own 18, .n p, .own 19, .own 20, .n q],oR 7 92 r,oR 9 9 s,oR 11 9 t,oR 13 59 u,oR 15 100 v,oR 17 53 w,oR 19 92 x,oR 21 9 y,oR 23 9 z,oR 25 59 aa,oR 27 100 ab,oR 29 53 ac,oR 31 92 ad,oR 33 9 ae,oR 35 9 af,oR 37 59 ag,oR 39 100 ah,oR 41 53 ai]
def aes(N:aG)(K:Kt R):=U5.l6 N (J Uh (.exit 0) K)
def XA(N:aG)(K:Kt R):=U5.E6 N (J CY .ret K) (J CY (.exit 2) K)
def XB(N:aG)(K:Kt R):=U5.TS N (J CZ .ret K) (J CZ (.exit 4) K)
def it5(N:aG):It R:=(lp 6 (al Uh (λK=>aes N K N) an) (lp 11 (al CY (λK=>XA N K N) an) (lp 25 (al CZ (λK=>XB N K N) an) ln)))
theorem afM(N:aG):cB E5 (it5 N (R:=R)) (ca Tryz.f5 6):=lq 6 Uh (aes N) λK g=>U5.r6 N g (J Uh (.exit 0) K)
theorem ab8(N:aG):cB E5 (it5 N (R:=R)) (ca Tryz.f5 11):=lq 11 CY (XA N) λK g=>U5.zU N g (J CY .ret K) (J CY (.exit 2) K)
theorem ab9(N:aG):cB E5 (it5 N (R:=R)) (ca Tryz.f5 25):=lq 25 CZ (XB N) λK g=>U5.r25 N g (J CZ .ret K) (J CZ (.exit 4) K)
def sp5:=eL A5 k5 U5.c U5.v
theorem ok5:cF Tryz.prog T 5 sp5:=fq (E:=E5) (aN aph (aN apk (aN apn (aN api (aN apg (aN apo (aN apq (aN apr (aN apj (aN ack bh)))))))))) Tryz.func5 (it:=λN=>it5 N) (λN=>(bz (afM N) (bz (ab8 N) (bz (ab9 N) bV)))) U5.b U5.vo

def asm:=en [(63,sK)] [(5,[0,1,4,5,6,7,8])]
def akL:Fn [.S, .I] As:=λa b=>[aS a,aI b]
def aoF:Fn [.I, .I, .B] dP:=λa b c=>⟨[aI a,aI b,aB c],[]⟩
def IA:Fn [.S, .I, .I, .I, .B, .I, .I] Tb:=λa b c d e f g=>[cA 0 (.s a),cI 2 b,cI 8 c,cI 10 d,cA 12 (.b e),cI 14 f,cI 16 g]
def aaG(N:aG)(K:Kt R):=gv.l5 N (J IA .ret K) (J IA (.exit 0) K)
def aqY(N:aG):It R:=(lp 5 (al IA (λK=>aaG N K N) an) ln)
def SR:=eL akL aoF (ct _) gv.v

def asn:=en [(224,SN)] []
def akM:Fn [.S] As:=λa=>[aS a]
def aoG:Fn [.S] dP:=λa=>⟨[aS a],[]⟩
def ahz:=eL akM aoG Eu.c Eu.v

def asg:=en [(245,SR),(63,sK),(246,ahz)] [(3,[0,4,5])]
def akn:Fn [.S] As:=λa=>[aS a]
def aoh:Fn [.R, .I] dP:=λa b=>⟨[aO 9 a,aI b],[]⟩
def PN:Fn [.S, .I, .R] Tb:=λa b c=>[cA 0 (.s a),cA 8 (.own 0),cI 10 b,oR 1 9 c]
def aaF(N:aG)(K:Kt R):=U203.l3 N (J PN (.exit 0) K)
def aqX(N:aG):It R:=(lp 3 (al PN (λK=>aaF N K N) an) ln)
def aht:=eL akn aoh U203.c U203.v

def ase:=en [(63,sK)] [(2,[1,2,6,7,8])]
def akl:Fn [.R] As:=λa=>[aV [.sh 236 a]]
def aof:Fn [.B] dP:=λa=>⟨[aB a],[]⟩
def Iz:Fn [.B, .R, .I, .I, .R] Tb:=λa b c d e=>[cP 2 0,cA 4 (.b a),cH 12 236 b,cI 14 c,cI 16 d,oB 1 [.sh 236 e]]
def aaE(N:aG)(K:Kt R):=zg.l2 N (J Iz .ret K) (J Iz (.exit 0) K)
def aqW(N:aG):It R:=(lp 2 (al Iz (λK=>aaE N K N) an) ln)
def ahr:=eL akl aof zg.c zg.v

def asq:=en [] []
def akY:Fn [.S, .S, .I, .S] As:=λa b c d=>[aV [.s a, .s b, .n c], .fb [.s d]]
def aoS:Fn [.B] dP:=λa=>⟨[aB a],[]⟩
def ahB:=eL akY aoS (ct _) PQ.v

def ap5:=en [(267,ahB)] [(2,[0,1,4,7,8])]
def adJ:Fn [.R, .S] As:=λa b=>[aH 236 a, .v aq [.fn 267 [[.s b]]]]
def afI:Fn [.I] dP:=λa=>⟨[aI a],[]⟩
def Ei:Fn [.R, .S, .I, .I, .I] Tb:=λa b c d e=>[cH 0 236 a,cA 2 (.fn 267 [[.s b]]),cI 8 c,cI 14 d,cI 16 e]
def Ue(N:aG)(K:Kt R):=vu.l2 N (J Ei .ret K) (J Ei (.exit 0) K)
def anh(N:aG):It R:=(lp 2 (al Ei (λK=>Ue N K N) an) ln)
def acE:=eL adJ afI vu.c vu.v

def asl:=en [(266,acE)] []
def akK:Fn [.R, .S] As:=λa b=>[aV [.sh 236 a],aS b]
def aoE:Fn [.I] dP:=λa=>⟨[aI a],[]⟩
def ahy:=eL akK aoE Av.c Av.v

def asf:=en [(244,ahy)] []
def akm:Fn [.R, .S] As:=λa b=>[aV [.sh 236 a],aS b]
def aog:Fn [.S, .B] dP:=λa b=>⟨[aS a,aB b],[]⟩
def ahs:=eL akm aog Au.c Au.v

def aso:=en [(245,SR)] []
def akN:Fn [.S, .I] As:=λa b=>[aS a,aI b]
def aoH:Fn [.S, .I, .B] dP:=λa b c=>⟨[aS a,aI b,aB c],[]⟩
def ahA:=eL akN aoH (ct _) vp.v

def ash:=en [(247,ahA),(245,SR),(158,L6)] []
def ako:Fn [.S] As:=λa=>[aS a]
def aoi:Fn [.S, .I, .I, .S, .B] dP:=λa b c d e=>⟨[aV [.s a, .n b, .n c, .s d],aB e],[]⟩
def ahu:=eL ako aoi (ct _) xM.v

def asb:=en [(201,ahr),(202,ahs),(203,aht),(204,ahu),(192,SE)] [(7,[3,27,28,29])]
def ajB:Fn [.R] As:=λa=>[aV [.sh 236 a]]
def anu:Fn [.R] dP:=λa=>⟨[aO 92 a],[]⟩
def PM:Fn [.I, .I, .R, .R] Tb:=λa b c d=>[cA 6 (.own 0),cA 54 (.own 1),cI 56 a,cI 58 b,oR 1 92 c,oR 3 9 d]
def aaD(N:aG)(K:Kt R):=U118.l7 N (J PM (.exit 0) K)
def aqV(N:aG):It R:=(lp 7 (al PM (λK=>aaD N K N) an) ln)
def arc:=eL ajB anu U118.c U118.v

end Go.FG.Se
