/- Functions of the program: the evaluation of each, and that a call of it does what is told. No condition. -/
import Derived.Test.YtjejmgffiilmlaaGreatTab
import Derived.Test.YtjejmgffiilmlaaGreatPOnce
import Derived.Test.YtjejmgffiilmlaaGreatIns
set_option linter.unusedVariables false
set_option linter.unusedSimpArgs false
set_option maxRecDepth 100000
open Bool renaming true->ak,false->aq
open Function renaming comp_def->dU
open Go.Extern.SlicesOverlaps renaming overlaps->gz
open Nat renaming beq->bA
open _root_ renaming Nat->aG,List->az,Option->aD,Bool->aY
namespace Go.FG.Se
open Go.Proofs Go.Proofs.Tryz
variable {R:Type}
abbrev FO:=la Tryz.prog T

def E15:=en [] []
def A15:Fn [.R] As:=λa=>[aH 5 a]
def k15:Fn [.B] dM:=λa=>⟨[aB a],[]⟩
def ahp:=eG A15 k15 (ct _) U15.v
theorem api:FO 15 ahp:=ft (E:=E15) bh func15 U15.b λ(a0,_)=>U15.fI _ a0

def E87:=en [] [(3,[0,3,4])]
def A87:Fn [.R] As:=λa=>[aH 5 a]
def k87:Fn [.R, .I, .I] dM:=λa b c=>⟨[.pt [.sh 5 a, .n b, .n c]],[]⟩
def KT:Fn [.R, .I, .I] Tb:=λa b c=>[cH 0 5 a,cI 6 b,cI 8 c]
def XH(N:aG)(K:Kt R):=IU.l3 N (J KT (.exit 0) K)
def afB(N:aG):It R:=(lp 3 (al KT (λK=>XH N K N) an) ln)
theorem acd(N:aG):cB E87 (afB N (R:=R)) (ca f87 3):=lq 3 KT (XH N) λK g=>IU.r3 N g (J KT (.exit 0) K)
def acN:=eG A87 k87 IU.c IU.v
theorem ag0:FO 87 acN:=fq (E:=E87) bh func87 (it:=λN=>afB N) (λN=>(bz (acd N) bV)) IU.b IU.vo

def T5:=en [] [(3,[0,1,2])]
def akS:Fn [] As:=[]
def aoM:Fn [.R, .I] dM:=λa b=>⟨[aV [.ow 59 ak a, .n b]],[]⟩
def qK:Fn [.I, .I, .I] Tb:=λa b c=>[cP 0 0,cP 2 1,cI 4 a,oB 1 [.nl, .n b],oB 3 [.nl, .n c]]
def nW:Fn [.I, .I, .I, .R] Tb:=λa b c d=>[cP 0 0,cP 2 1,cI 4 a,oB 1 [.nl, .n b],oB 3 [.own 2, .n c],oR 5 59 d]
def Po(N:aG)(K:Kt R):=EE.l3 N (J qK (.exit 0) K) (J nW (.exit 0) K)
def KD(N:aG)(K:Kt R):=EE.tW N (J qK (.exit 0) K) (J nW (.exit 0) K)
def LG(N:aG):It R:=(lp 3 (al qK (λK=>Po N K N) (al nW (λK=>KD N K N) an)) ln)
theorem Ml(N:aG)(K:Kt R):Wd T5 (LG N) (ca f257 3) 3 K nW (KD N K):=lw (λg=>EE.z7 N (cmp _ qK (g∘fK)) (cmp _ nW (g∘fK)) (J qK (.exit 0) K) (J nW (.exit 0) K)) λm i=>by simp only[dU,wf i];rfl
theorem acU(N:aG)(K:Kt R):Wd T5 (LG N) (ca f257 3) 3 K qK (Po N K):=lw (λg=>EE.r3 N (cmp _ qK (g∘fK)) (cmp _ nW (g∘fK)) (J qK (.exit 0) K) (J nW (.exit 0) K)) λm i=>by simp only[dU,wf i,wf (Ml N K m)];rfl
theorem V9(N:aG):cB T5 (LG N (R:=R)) (ca f257 3):=lm 3 (ga qK (acU N) (ga nW (Ml N) pr))
def Z3:=eG akS aoM EE.c EE.v
theorem agH:FO 257 Z3:=fq (E:=T5) bh func257 (it:=λN=>LG N) (λN=>(bz (V9 N) bV)) EE.b EE.vo

def alP:=en [(257,Z3)] []
def akC:Fn [] As:=[]
def aow:Fn [.R, .R, .R, .I] dM:=λa b c d=>⟨[aV [.ow 9 ak a, .ow 9 ak b, .ow 59 ak c, .n d]],[]⟩
def ZV:=eG akC aow (ct _) Um.v
theorem agz:FO 230 ZV:=ft (E:=alP) (aN agH bh) func230 Um.b λ_=>Um.fI _

def alz:=en [(230,ZV)] []
def aj_:Fn [] As:=[]
def an4:Fn [.I, .R, .R, .R, .R, .I, .R, .R, .I] dM:=λa b c d e f g h i=>⟨[aV [.n a, .ow 92 ak b, .ow 9 ak c, .ow 9 ak d, .ow 59 ak e, .n f, .ow 100 ak g, .ow 53 ak h, .n i]],[]⟩
def SF:=eG aj_ an4 (ct _) Ul.v
theorem Y5:FO 182 SF:=ft (E:=alz) (aN agz bh) func182 Ul.b λ_=>Ul.fI _

def alb:=en [] []
def aju:Fn [.R, .I, .I] As:=λa b c=>[.pt [.sh 5 a, .n b, .n c]]
def anl:Fn [.I, .R, .I, .I] dM:=λa b c d=>⟨[aI a],[[.sh 5 b, .n c, .n d]]⟩
def Sr:=eG aju anl bS.c bS.v
theorem YR:FO 102 Sr:=fr (E:=alb) bh func102 bS.b bS.vo

def alc:=en [(102,Sr)] []
def ajv:Fn [.R, .I, .I, .I] As:=λa b c d=>[.pt [.sh 5 a, .n b, .n c],aI d]
def anm:Fn [.I, .R, .I, .I] dM:=λa b c d=>⟨[aI a],[[.sh 5 b, .n c, .n d]]⟩
def BN:=eG ajv anm gJ.c gJ.v
theorem DC:FO 103 BN:=fr (E:=alc) (aN YR bh) func103 gJ.b gJ.vo

def E88:=en [(103,BN)] []
def A88:Fn [.R, .I, .I, .R] As:=λa b c d=>[.pt [.sh 5 a, .n b, .n c],aO 3 d]
def k88:Fn [.I, .R, .I, .I, .R] dM:=λa b c d e=>⟨[aI a],[[.sh 5 b, .n c, .n d],[.kp e]]⟩
def ahS:=eG A88 k88 yL.c yL.v
theorem apE:FO 88 ahS:=fr (E:=E88) (aN DC bh) func88 yL.b yL.vo

def alH:=en [(103,BN)] []
def akr:Fn [.R, .I, .I, .R] As:=λa b c d=>[.pt [.sh 5 a, .n b, .n c],aO 9 d]
def aol:Fn [.S, .R, .I, .I, .R] dM:=λa b c d e=>⟨[aS a],[[.sh 5 b, .n c, .n d],[.kp e]]⟩
def SL:=eG akr aol o9.c o9.v
theorem Y9:FO 210 SL:=fr (E:=alH) (aN DC bh) func210 o9.b o9.vo

def alg:=en [(210,SL)] []
def ajE:Fn [.R, .I, .I] As:=λa b c=>[.pt [.sh 5 a, .n b, .n c]]
def anx:Fn [.S, .R, .I, .I] dM:=λa b c d=>⟨[aS a],[[.sh 5 b, .n c, .n d]]⟩
def Zx:=eG ajE anx tM.c tM.v
theorem af6:FO 125 Zx:=fr (E:=alg) (aN Y9 bh) func125 tM.b tM.vo

def alh:=en [(103,BN)] []
def ajF:Fn [.R, .I, .I, .I] As:=λa b c d=>[.pt [.sh 5 a, .n b, .n c],aI d]
def anz:Fn [.B, .R, .I, .I] dM:=λa b c d=>⟨[aB a],[[.sh 5 b, .n c, .n d]]⟩
def Zy:=eG ajF anz tN.c tN.v
theorem af7:FO 126 Zy:=fr (E:=alh) (aN DC bh) func126 tN.b tN.vo

def ad3:=en [(88,ahS),(103,BN),(125,Zx),(126,Zy),(210,SL)] [(4,[0,1,3,4,5,6,7])]
def akb:Fn [.R, .I, .I, .I, .R, .R, .R, .R, .I, .R, .R, .I, .R, .R, .R] As:=λa b c d e f g h i j k l m o p=>[.pt [.sh 5 a, .n b, .n c],aV [.n d, .ow 92 ak e, .ow 9 ak f, .ow 9 ak g, .ow 59 ak h, .n i, .ow 100 ak j, .ow 53 ak k, .n l, .ow 236 ak m, .ow 3 ak o, .ow 92 ak p]]
def an6:Fn [.I, .I, .S, .I, .R, .R, .I, .I, .R, .R, .R, .R, .R, .R, .R, .R, .R] dM:=λa b c d e f g h i j k l m o p q r=>⟨[aV [.n a, .n b, .s c, .n d, .ow 3 ak e]],[[.sh 5 f, .n g, .n h],[.nl, .kp i, .kp j, .kp k, .kp l, .nl, .kp m, .kp o, .nl, .kp p, .kp q, .kp r]]⟩
def Ec:Fn [.I, .I, .I, .I, .R, .I, .I, .R, .R, .R, .R, .R, .R, .R, .R, .R, .I, .I, .I, .I, .I, .S, .I, .I, .I, .S, .I, .R] Tb:=λa b c d e f g h i j k l m o p q r s t u v w x y z aa ab ac=>[cP 0 900000900,cV 2 [.n a, .own 900001001, .own 900001002, .own 900001003, .own 900001004, .n b, .own 900001006, .own 900001007, .n c, .own 900001009, .own 900001010, .own 900001011],cP 6 10,cP 8 11,cP 10 12,cA 12 (.own 13),cI 14 d,oB 1800001801 [.sh 5 e, .n f, .n g],oR 1800002003 92 h,oR 1800002005 9 i,oR 1800002007 9 j,oR 1800002009 59 k,oR 1800002013 100 l,oR 1800002015 53 m,oR 1800002019 236 o,oR 1800002021 3 p,oR 1800002023 92 q,oB 21 [.n r, .own 900001001, .own 900001002, .own 900001003, .own 900001004, .n s, .own 900001006, .own 900001007, .n t, .own 900001009, .own 900001010, .own 900001011],oB 23 [.n u, .n v, .s w, .n x, .nl],oB 25 [.n y, .n z, .s aa, .n ab, .nl],oR 27 3 ac]
def OZ(N:aG)(K:Kt R):=uJ.l4 N (J Ec (.exit 0) K)
def Yv(N:aG):It R:=(lp 4 (al Ec (λK=>OZ N K N) an) ln)
theorem VM(N:aG):cB ad3 (Yv N (R:=R)) (ca f184 4):=lq 4 Ec (OZ N) λK g=>uJ.r4 N g (J Ec (.exit 0) K)
def ZK:=eG akb an6 uJ.c uJ.v
theorem agl:FO 184 ZK:=fq (E:=ad3) (aN apE (aN DC (aN af6 (aN af7 (aN Y9 bh))))) func184 (it:=λN=>Yv N) (λN=>(bz (VM N) bV)) uJ.b uJ.vo

def T3:=en [] [(3,[1,2,3,4])]
def ajS:Fn [.R, .I] As:=λa b=>[aV [.sh 59 a, .n b]]
def anM:Fn [.R, .I] dM:=λa b=>⟨[aV [.ow 59 ak a, .n b]],[]⟩
def qI:Fn [.I, .R, .I, .I, .I] Tb:=λa b c d e=>[cP 2 0,cP 4 1,cP 6 2,cI 8 a,oB 1 [.sh 59 b, .n c],oB 3 [.nl, .n d],oB 5 [.nl, .n e]]
def nU:Fn [.I, .R, .I, .I, .I, .R] Tb:=λa b c d e f=>[cP 2 0,cP 4 1,cP 6 2,cI 8 a,oB 1 [.sh 59 b, .n c],oB 3 [.nl, .n d],oB 5 [.own 3, .n e],oR 7 59 f]
def OO(N:aG)(K:Kt R):=nz.l3 N (J qI (.exit 0) K) (J nU (.exit 0) K)
def Ky(N:aG)(K:Kt R):=nz.tW N (J qI (.exit 0) K) (J nU (.exit 0) K)
def LD(N:aG):It R:=(lp 3 (al qI (λK=>OO N K N) (al nU (λK=>Ky N K N) an)) ln)
theorem Mj(N:aG)(K:Kt R):Wd T3 (LD N) (ca f146 3) 3 K nU (Ky N K):=lw (λg=>nz.z7 N (cmp _ qI (g∘fK)) (cmp _ nU (g∘fK)) (J qI (.exit 0) K) (J nU (.exit 0) K)) λm i=>by simp only[dU,wf i];rfl
theorem acS(N:aG)(K:Kt R):Wd T3 (LD N) (ca f146 3) 3 K qI (OO N K):=lw (λg=>nz.r3 N (cmp _ qI (g∘fK)) (cmp _ nU (g∘fK)) (J qI (.exit 0) K) (J nU (.exit 0) K)) λm i=>by simp only[dU,wf i,wf (Mj N K m)];rfl
theorem VC(N:aG):cB T3 (LD N (R:=R)) (ca f146 3):=lm 3 (ga qI (acS N) (ga nU (Mj N) pr))
def L8:=eG ajS anM nz.c nz.v
theorem Rr:FO 146 L8:=fq (E:=T3) bh func146 (it:=λN=>LD N) (λN=>(bz (VC N) bV)) nz.b nz.vo

def alm:=en [(146,L8)] []
def ajM:Fn [.R, .R, .R, .I] As:=λa b c d=>[aV [.sh 9 a, .sh 9 b, .sh 59 c, .n d]]
def anG:Fn [.R, .R, .R, .I] dM:=λa b c d=>⟨[aV [.ow 9 ak a, .ow 9 ak b, .ow 59 ak c, .n d]],[]⟩
def Sv:=eG ajM anG fN.c fN.v
theorem YU:FO 140 Sv:=fr (E:=alm) (aN Rr bh) func140 fN.b fN.vo

def E48:=en [(140,Sv)] []
def A48:Fn [.I, .R, .R, .R, .R, .I, .R, .R, .I] As:=λa b c d e f g h i=>[aV [.n a, .sh 92 b, .sh 9 c, .sh 9 d, .sh 59 e, .n f, .sh 100 g, .sh 53 h, .n i]]
def k48:Fn [.I, .R, .R, .R, .R, .I, .R, .R, .I] dM:=λa b c d e f g h i=>⟨[aV [.n a, .ow 92 ak b, .ow 9 ak c, .ow 9 ak d, .ow 59 ak e, .n f, .ow 100 ak g, .ow 53 ak h, .n i]],[]⟩
def Kd:=eG A48 k48 kZ.c kZ.v
theorem Nr:FO 48 Kd:=fr (E:=E48) (aN YU bh) func48 kZ.b kZ.vo

def E49:=en [] []
def A49:Fn [.I, .I, .I] As:=λa b c=>[aI a,aI b,aI c]
def k49:Fn [.B] dM:=λa=>⟨[aB a],[]⟩
def tX:=eG A49 k49 (ct _) kG.v
theorem u5:FO 49 tX:=ft (E:=E49) bh func49 kG.b λ(a0,a1,a2,_)=>kG.fI _ a0 a1 a2

def E50:=en [(49,tX)] []
def A50:Fn [.S] As:=λa=>[aS a]
def k50:Fn [.B] dM:=λa=>⟨[aB a],[]⟩
def Ke:=eG A50 k50 (ct _) Gx.v
theorem Ns:FO 50 Ke:=ft (E:=E50) (aN u5 bh) func50 Gx.b λ(a0,_)=>Gx.fI _ a0

def aln:=en [(50,Ke),(49,tX)] []
def ajN:Fn [.S, .I, .I, .S] As:=λa b c d=>[aV [.s a, .n b, .n c, .s d]]
def anH:Fn [.B] dM:=λa=>⟨[aB a],[]⟩
def H5:=eG ajN anH (ct _) iL.v
theorem LS:FO 141 H5:=ft (E:=aln) (aN Ns (aN u5 bh)) func141 iL.b λ(a0,a1,a2,a3,_)=>iL.fI _ a0 a1 a2 a3

def adW:=en [] [(2,[0,1,4,5])]
def ajP:Fn [.R, .S] As:=λa b=>[aH 9 a,aS b]
def anJ:Fn [.B] dM:=λa=>⟨[aB a],[]⟩
def w7:Fn [.R, .S, .B, .I] Tb:=λa b c d=>[cH 0 9 a,cA 2 (.s b),cA 8 (.b c),cI 10 d]
def OK(N:aG)(K:Kt R):=eS.l2 N (J w7 .ret K) (J w7 (.exit 0) K)
def Yo(N:aG):It R:=(lp 2 (al w7 (λK=>OK N K N) an) ln)
theorem Vz(N:aG):cB adW (Yo N (R:=R)) (ca f143 2):=lq 2 w7 (OK N) λK g=>eS.r2 N g (J w7 .ret K) (J w7 (.exit 0) K)
def L7:=eG ajP anJ eS.c eS.v
theorem Rq:FO 143 L7:=fq (E:=adW) bh func143 (it:=λN=>Yo N) (λN=>(bz (Vz N) bV)) eS.b eS.vo

def alJ:=en [(143,L7)] []
def aku:Fn [.R, .R, .R, .I, .S] As:=λa b c d e=>[aV [.sh 9 a, .sh 9 b, .sh 59 c, .n d],aS e]
def aoo:Fn [.B] dM:=λa=>⟨[aB a],[]⟩
def SM:=eG aku aoo sa.c sa.v
theorem Y_:FO 213 SM:=fr (E:=alJ) (aN Rq bh) func213 sa.b sa.vo

def aap:=en [(49,tX)] [(4,[1,2,3]),(9,[1,2,3,4])]
def ajT:Fn [.R, .I] As:=λa b=>[aV [.sh 59 a, .n b]]
def anN:Fn [.B] dM:=λa=>⟨[aB a],[]⟩
def w8:Fn [.B, .I, .R, .I] Tb:=λa b c d=>[cP 2 0,cA 4 (.b a),cI 6 b,oB 1 [.sh 59 c, .n d]]
def w9:Fn [.B, .I, .I, .R, .I] Tb:=λa b c d e=>[cP 2 0,cA 4 (.b a),cI 6 b,cI 8 c,oB 1 [.sh 59 d, .n e]]
def OP(N:aG)(K:Kt R):=fg.l4 N (J w8 .ret K) (J w8 (.exit 0) K)
def OQ(N:aG)(K:Kt R):=fg.l9 N (J w9 .ret K) (J w9 (.exit 2) K)
def QT(N:aG):It R:=(lp 4 (al w8 (λK=>OP N K N) an) (lp 9 (al w9 (λK=>OQ N K N) an) ln))
theorem VD(N:aG):cB aap (QT N (R:=R)) (ca f147 4):=lq 4 w8 (OP N) λK g=>fg.r4 N g (J w8 .ret K) (J w8 (.exit 0) K)
theorem VE(N:aG):cB aap (QT N (R:=R)) (ca f147 9):=lq 9 w9 (OQ N) λK g=>fg.r9 N g (J w9 .ret K) (J w9 (.exit 2) K)
def L9:=eG ajT anN fg.c fg.v
theorem Rs:FO 147 L9:=fq (E:=aap) (aN u5 bh) func147 (it:=λN=>QT N) (λN=>(bz (VD N) (bz (VE N) bV))) fg.b fg.vo

def adV:=en [(50,Ke),(143,L7),(147,L9)] [(3,[1,2,3,4])]
def ajO:Fn [.R, .R, .R, .I] As:=λa b c d=>[aV [.sh 9 a, .sh 9 b, .sh 59 c, .n d]]
def anI:Fn [.B] dM:=λa=>⟨[aB a],[]⟩
def wZ:Fn [.B, .I, .R, .R, .R, .I, .R] Tb:=λa b c d e f g=>[cP 2 0,cA 4 (.b a),cA 6 (.own 1),cI 8 b,oB 1 [.sh 9 c, .sh 9 d, .sh 59 e, .n f],oR 3 9 g]
def OJ(N:aG)(K:Kt R):=jj.l3 N (J wZ .ret K) (J wZ (.exit 0) K)
def Yn(N:aG):It R:=(lp 3 (al wZ (λK=>OJ N K N) an) ln)
theorem Vy(N:aG):cB adV (Yn N (R:=R)) (ca f142 3):=lq 3 wZ (OJ N) λK g=>jj.r3 N g (J wZ .ret K) (J wZ (.exit 0) K)
def Sw:=eG ajO anI jj.c jj.v
theorem YV:FO 142 Sw:=fq (E:=adV) (aN Ns (aN Rq (aN Rs bh))) func142 (it:=λN=>Yn N) (λN=>(bz (Vy N) bV)) jj.b jj.vo

def adT:=en [(141,H5),(213,SM),(142,Sw)] [(2,[1,2,3])]
def ajK:Fn [.I, .R, .R, .R, .R, .I, .R, .R, .I] As:=λa b c d e f g h i=>[aV [.n a, .sh 92 b, .sh 9 c, .sh 9 d, .sh 59 e, .n f, .sh 100 g, .sh 53 h, .n i]]
def anE:Fn [.B] dM:=λa=>⟨[aB a],[]⟩
def wX:Fn [.B, .I, .I, .R, .R, .R, .R, .I, .R, .R, .I] Tb:=λa b c d e f g h i j k=>[cP 2 0,cA 4 (.b a),cI 6 b,oB 1 [.n c, .sh 92 d, .sh 9 e, .sh 9 f, .sh 59 g, .n h, .sh 100 i, .sh 53 j, .n k]]
def OH(N:aG)(K:Kt R):=m8.l2 N (J wX .ret K) (J wX (.exit 0) K)
def Yl(N:aG):It R:=(lp 2 (al wX (λK=>OH N K N) an) ln)
theorem Vw(N:aG):cB adT (Yl N (R:=R)) (ca f133 2):=lq 2 wX (OH N) λK g=>m8.r2 N g (J wX .ret K) (J wX (.exit 0) K)
def ZA:=eG ajK anE m8.c m8.v
theorem af9:FO 133 ZA:=fq (E:=adT) (aN LS (aN Y_ (aN YV bh))) func133 (it:=λN=>Yl N) (λN=>(bz (Vw N) bV)) m8.b m8.vo

def adU:=en [(50,Ke),(49,tX)] [(5,[1,2,4,5,6])]
def ajL:Fn [.I, .R, .R, .R, .R, .I, .R, .R, .I, .I] As:=λa b c d e f g h i j=>[aV [.n a, .sh 92 b, .sh 9 c, .sh 9 d, .sh 59 e, .n f, .sh 100 g, .sh 53 h, .n i],aI j]
def anF:Fn [.B] dM:=λa=>⟨[aB a],[]⟩
def wY:Fn [.I, .B, .I, .I, .R, .R, .R, .R, .I, .R, .R, .I, .S, .S, .I, .I, .I] Tb:=λa b c d e f g h i j k l m o p q r=>[cI 2 a,cP 4 0,cA 8 (.b b),cP 10 1,cI 12 c,oB 1 [.n d, .sh 92 e, .sh 9 f, .sh 9 g, .sh 59 h, .n i, .sh 100 j, .sh 53 k, .n l],oB 3 [.s m, .s o, .n p, .n q, .n r]]
def OI(N:aG)(K:Kt R):=m9.l5 N (J wY .ret K) (J wY (.exit 0) K)
def Ym(N:aG):It R:=(lp 5 (al wY (λK=>OI N K N) an) ln)
theorem Vx(N:aG):cB adU (Ym N (R:=R)) (ca f134 5):=lq 5 wY (OI N) λK g=>m9.r5 N g (J wY .ret K) (J wY (.exit 0) K)
def ZB:=eG ajL anF m9.c m9.v
theorem af_:FO 134 ZB:=fq (E:=adU) (aN Ns (aN u5 bh)) func134 (it:=λN=>Ym N) (λN=>(bz (Vx N) bV)) m9.b m9.vo

def E43:=en [(49,tX),(133,ZA),(134,ZB),(50,Ke)] [(4,[1,2,3]),(9,[1,2,4])]
def A43:Fn [.I, .R, .R, .R, .R, .I, .R, .R, .I] As:=λa b c d e f g h i=>[aV [.n a, .sh 92 b, .sh 9 c, .sh 9 d, .sh 59 e, .n f, .sh 100 g, .sh 53 h, .n i]]
def k43:Fn [.B] dM:=λa=>⟨[aB a],[]⟩
def C0:Fn [.B, .I, .I, .R, .R, .R, .R, .I, .R, .R, .I] Tb:=λa b c d e f g h i j k=>[cP 2 0,cA 4 (.b a),cI 6 b,oB 1 [.n c, .sh 92 d, .sh 9 e, .sh 9 f, .sh 59 g, .n h, .sh 100 i, .sh 53 j, .n k]]
def C3:Fn [.B, .I, .I, .R, .R, .R, .R, .I, .R, .R, .I] Tb:=λa b c d e f g h i j k=>[cP 2 0,cA 4 (.b a),cI 8 b,oB 1 [.n c, .sh 92 d, .sh 9 e, .sh 9 f, .sh 59 g, .n h, .sh 100 i, .sh 53 j, .n k]]
def Xv(N:aG)(K:Kt R):=p8.l4 N (J C0 .ret K) (J C0 (.exit 0) K)
def Xw(N:aG)(K:Kt R):=p8.l9 N (J C3 .ret K) (J C3 (.exit 2) K)
def abP(N:aG):It R:=(lp 4 (al C0 (λK=>Xv N K N) an) (lp 9 (al C3 (λK=>Xw N K N) an) ln))
theorem ab2(N:aG):cB E43 (abP N (R:=R)) (ca f43 4):=lq 4 C0 (Xv N) λK g=>p8.r4 N g (J C0 .ret K) (J C0 (.exit 0) K)
theorem ab3(N:aG):cB E43 (abP N (R:=R)) (ca f43 9):=lq 9 C3 (Xw N) λK g=>p8.r9 N g (J C3 .ret K) (J C3 (.exit 2) K)
def acG:=eG A43 k43 p8.c p8.v
theorem agT:FO 43 acG:=fq (E:=E43) (aN u5 (aN af9 (aN af_ (aN Ns bh)))) func43 (it:=λN=>abP N) (λN=>(bz (ab2 N) (bz (ab3 N) bV))) p8.b p8.vo

def E51:=en [] [(2,[1,2,4,5,6])]
def A51:Fn [.I, .R, .R, .R, .R, .I, .R, .R, .I, .S] As:=λa b c d e f g h i j=>[aV [.n a, .sh 92 b, .sh 9 c, .sh 9 d, .sh 59 e, .n f, .sh 100 g, .sh 53 h, .n i],aS j]
def k51:Fn [.S, .I, .I, .S, .B] dM:=λa b c d e=>⟨[aV [.s a, .n b, .n c, .s d],aB e],[]⟩
def C7:Fn [.S, .B, .I, .I, .R, .R, .R, .R, .I, .R, .R, .I, .S, .I, .I, .S] Tb:=λa b c d e f g h i j k l m o p q=>[cA 2 (.s a),cP 4 0,cP 8 1,cA 10 (.b b),cI 12 c,oB 1 [.n d, .sh 92 e, .sh 9 f, .sh 9 g, .sh 59 h, .n i, .sh 100 j, .sh 53 k, .n l],oB 3 [.s m, .n o, .n p, .s q]]
def Xx(N:aG)(K:Kt R):=KY.l2 N (J C7 .ret K) (J C7 (.exit 0) K)
def afy(N:aG):It R:=(lp 2 (al C7 (λK=>Xx N K N) an) ln)
theorem ab4(N:aG):cB E51 (afy N (R:=R)) (ca f51 2):=lq 2 C7 (Xx N) λK g=>KY.r2 N g (J C7 .ret K) (J C7 (.exit 0) K)
def ahK:=eG A51 k51 KY.c KY.v
theorem apw:FO 51 ahK:=fq (E:=E51) bh func51 (it:=λN=>afy N) (λN=>(bz (ab4 N) bV)) KY.b KY.vo

def E52:=en [(141,H5),(49,tX)] []
def A52:Fn [.S, .I, .I, .S, .I] As:=λa b c d e=>[aV [.s a, .n b, .n c, .s d],aI e]
def k52:Fn [.B] dM:=λa=>⟨[aB a],[]⟩
def WW:=eG A52 k52 (ct _) EF.v
theorem acn:FO 52 WW:=ft (E:=E52) (aN LS (aN u5 bh)) func52 EF.b λ(a0,a1,a2,a3,a4,_)=>EF.fI _ a0 a1 a2 a3 a4

def aat:=en [] [(2,[0,1,5]),(6,[0,1,5,6])]
def akP:Fn [.I, .S] As:=λa b=>[.v aq [.i .u32 a],aS b]
def aoJ:Fn [.I] dM:=λa=>⟨[.v aq [.i .u32 a]],[]⟩
def Ej:Fn [.I, .S, .I] Tb:=λa b c=>[cA 0 (.i .u32 a),cA 2 (.s b),cI 10 c]
def Ek:Fn [.I, .S, .I, .I] Tb:=λa b c d=>[cA 0 (.i .u32 a),cA 2 (.s b),cI 10 c,cI 12 d]
def Pg(N:aG)(K:Kt R):=jt.l2 N (J Ej (.exit 0) K)
def Ph(N:aG)(K:Kt R):=jt.l6 N (J Ek (.exit 2) K)
def QZ(N:aG):It R:=(lp 2 (al Ej (λK=>Pg N K N) an) (lp 6 (al Ek (λK=>Ph N K N) an) ln))
theorem VZ(N:aG):cB aat (QZ N (R:=R)) (ca f250 2):=lq 2 Ej (Pg N) λK g=>jt.r2 N g (J Ej (.exit 0) K)
theorem V0(N:aG):cB aat (QZ N (R:=R)) (ca f250 6):=lq 6 Ek (Ph N) λK g=>jt.r6 N g (J Ek (.exit 2) K)
def Z0:=eG akP aoJ jt.c jt.v
theorem agE:FO 250 Z0:=fq (E:=aat) bh func250 (it:=λN=>QZ N) (λN=>(bz (VZ N) (bz (V0 N) bV))) jt.b jt.vo

def alK:=en [(250,Z0)] []
def akv:Fn [.S] As:=λa=>[aS a]
def aop:Fn [.I] dM:=λa=>⟨[.v aq [.i .u32 a]],[]⟩
def SN:=eG akv aop uL.c uL.v
theorem Za:FO 215 SN:=fr (E:=alK) (aN agE bh) func215 uL.b uL.vo

def alo:=en [(215,SN)] []
def ajU:Fn [.I, .S] As:=λa b=>[aI a,aS b]
def anO:Fn [.I] dM:=λa=>⟨[aI a],[]⟩
def Sy:=eG ajU anO fW.c fW.v
theorem YX:FO 148 Sy:=fr (E:=alo) (aN Za bh) func148 fW.b fW.vo

def E57:=en [(146,L8),(147,L9),(148,Sy)] [(5,[1,4,5,6]),(14,[4,5,8]),(17,[4,5,8,9])]
def A57:Fn [.R, .I, .S] As:=λa b c=>[aV [.sh 59 a, .n b],aS c]
def k57:Fn [.R, .I] dM:=λa b=>⟨[aV [.ow 59 ak a, .n b]],[]⟩
def KQ:Fn [.S, .I, .I, .I, .R] Tb:=λa b c d e=>[cA 2 (.s a),cP 8 0,cP 10 1,cI 12 b,oB 1 [.nl, .n c],oB 3 [.own 2, .n d],oR 5 59 e]
def Ew:Fn [.I, .I, .I, .R] Tb:=λa b c d=>[cP 8 0,cP 10 1,cI 16 a,oB 1 [.nl, .n b],oB 3 [.own 2, .n c],oR 5 59 d]
def Ey:Fn [.I, .I, .I, .I, .R] Tb:=λa b c d e=>[cP 8 0,cP 10 1,cI 16 a,cI 18 b,oB 1 [.nl, .n c],oB 3 [.own 2, .n d],oR 5 59 e]
def XB(N:aG)(K:Kt R):=fG.l5 N (J KQ (.exit 0) K)
def PB(N:aG)(K:Kt R):=fG.l14 N (J Ew (.exit 2) K)
def PC(N:aG)(K:Kt R):=fG.l17 N (J Ey (.exit 4) K)
def Vj(N:aG):It R:=(lp 5 (al KQ (λK=>XB N K N) an) (lp 14 (al Ew (λK=>PB N K N) an) (lp 17 (al Ey (λK=>PC N K N) an) ln)))
theorem ab8(N:aG):cB E57 (Vj N (R:=R)) (ca f57 5):=lq 5 KQ (XB N) λK g=>fG.r5 N g (J KQ (.exit 0) K)
theorem Wj(N:aG):cB E57 (Vj N (R:=R)) (ca f57 14):=lq 14 Ew (PB N) λK g=>fG.r14 N g (J Ew (.exit 2) K)
theorem Wk(N:aG):cB E57 (Vj N (R:=R)) (ca f57 17):=lq 17 Ey (PC N) λK g=>fG.r17 N g (J Ey (.exit 4) K)
def acJ:=eG A57 k57 fG.c fG.v
theorem agW:FO 57 acJ:=fq (E:=E57) (aN Rr (aN Rs (aN YX bh))) func57 (it:=λN=>Vj N) (λN=>(bz (ab8 N) (bz (Wj N) (bz (Wk N) bV)))) fG.b fG.vo

def adX:=en [] [(3,[0,1,5,6])]
def ajQ:Fn [.R, .S] As:=λa b=>[aH 9 a,aS b]
def anK:Fn [.R] dM:=λa=>⟨[aO 9 a],[]⟩
def D9:Fn [.R, .S, .I, .R] Tb:=λa b c d=>[cH 0 9 a,cA 2 (.s b),cA 10 (.own 0),cI 12 c,oR 1 9 d]
def OM(N:aG)(K:Kt R):=oE.l3 N (J D9 (.exit 0) K)
def Yp(N:aG):It R:=(lp 3 (al D9 (λK=>OM N K N) an) ln)
theorem VA(N:aG):cB adX (Yp N (R:=R)) (ca f144 3):=lq 3 D9 (OM N) λK g=>oE.r3 N g (J D9 (.exit 0) K)
def Sx:=eG ajQ anK oE.c oE.v
theorem YW:FO 144 Sx:=fq (E:=adX) bh func144 (it:=λN=>Yp N) (λN=>(bz (VA N) bV)) oE.b oE.vo

def adY:=en [(147,L9),(148,Sy)] [(5,[1,2,5,6])]
def ajR:Fn [.R, .I, .S] As:=λa b c=>[aV [.sh 59 a, .n b],aS c]
def anL:Fn [.I] dM:=λa=>⟨[aI a],[]⟩
def D_:Fn [.S, .I, .I, .R, .I] Tb:=λa b c d e=>[cA 2 (.s a),cP 4 0,cI 10 b,cI 12 c,oB 1 [.sh 59 d, .n e]]
def ON(N:aG)(K:Kt R):=lY.l5 N (J D_ (.exit 0) K)
def Yq(N:aG):It R:=(lp 5 (al D_ (λK=>ON N K N) an) ln)
theorem VB(N:aG):cB adY (Yq N (R:=R)) (ca f145 5):=lq 5 D_ (ON N) λK g=>lY.r5 N g (J D_ (.exit 0) K)
def ZC:=eG ajR anL lY.c lY.v
theorem agb:FO 145 ZC:=fq (E:=adY) (aN Rs (aN YX bh)) func145 (it:=λN=>Yq N) (λN=>(bz (VB N) bV)) lY.b lY.vo

def E53:=en [(140,Sv),(142,Sw),(50,Ke),(57,acJ),(143,L7),(144,Sx),(145,ZC)] []
def A53:Fn [.R, .R, .R, .I, .S] As:=λa b c d e=>[aV [.sh 9 a, .sh 9 b, .sh 59 c, .n d],aS e]
def k53:Fn [.R, .R, .R, .I, .S] dM:=λa b c d e=>⟨[aV [.ow 9 ak a, .ow 9 ak b, .ow 59 ak c, .n d],aS e],[]⟩
def acH:=eG A53 k53 js.c js.v
theorem agU:FO 53 acH:=fr (E:=E53) (aN YU (aN YV (aN Ns (aN agW (aN Rq (aN YW (aN agb bh))))))) func53 js.b js.vo

def E54:=en [] [(3,[0,3,5,6]),(9,[0,3,5,7])]
def A54:Fn [.R, .I, .S, .I, .I, .I, .S, .I] As:=λa b c d e f g h=>[aH 53 a,aV [.n b, .s c, .n d, .n e, .n f, .s g, .n h]]
def k54:Fn [.R] dM:=λa=>⟨[aO 53 a],[]⟩
def KN:Fn [.R, .I, .I, .S, .I, .I, .I, .S, .I, .R] Tb:=λa b c d e f g h i j=>[cH 0 53 a,cP 6 0,cA 10 (.own 1),cI 12 b,oB 1 [.n c, .s d, .n e, .n f, .n g, .s h, .n i],oR 3 53 j]
def KO:Fn [.R, .I, .I, .S, .I, .I, .I, .S, .I, .R] Tb:=λa b c d e f g h i j=>[cH 0 53 a,cP 6 0,cA 10 (.own 1),cI 14 b,oB 1 [.n c, .s d, .n e, .n f, .n g, .s h, .n i],oR 3 53 j]
def Xy(N:aG)(K:Kt R):=ud.l3 N (J KN (.exit 0) K)
def Xz(N:aG)(K:Kt R):=ud.l9 N (J KO (.exit 2) K)
def abQ(N:aG):It R:=(lp 3 (al KN (λK=>Xy N K N) an) (lp 9 (al KO (λK=>Xz N K N) an) ln))
theorem ab5(N:aG):cB E54 (abQ N (R:=R)) (ca f54 3):=lq 3 KN (Xy N) λK g=>ud.r3 N g (J KN (.exit 0) K)
theorem ab6(N:aG):cB E54 (abQ N (R:=R)) (ca f54 9):=lq 9 KO (Xz N) λK g=>ud.r9 N g (J KO (.exit 2) K)
def ahL:=eG A54 k54 ud.c ud.v
theorem apx:FO 54 ahL:=fq (E:=E54) bh func54 (it:=λN=>abQ N) (λN=>(bz (ab5 N) (bz (ab6 N) bV))) ud.b ud.vo

def E55:=en [] [(3,[0,1,5,6])]
def A55:Fn [.R, .S] As:=λa b=>[aH 92 a,aS b]
def k55:Fn [.R] dM:=λa=>⟨[aO 92 a],[]⟩
def KP:Fn [.R, .S, .I, .R] Tb:=λa b c d=>[cH 0 92 a,cA 2 (.s b),cA 10 (.own 0),cI 12 c,oR 1 92 d]
def XA(N:aG)(K:Kt R):=Cp.l3 N (J KP (.exit 0) K)
def afz(N:aG):It R:=(lp 3 (al KP (λK=>XA N K N) an) ln)
theorem ab7(N:aG):cB E55 (afz N (R:=R)) (ca f55 3):=lq 3 KP (XA N) λK g=>Cp.r3 N g (J KP (.exit 0) K)
def acI:=eG A55 k55 Cp.c Cp.v
theorem agV:FO 55 acI:=fq (E:=E55) bh func55 (it:=λN=>afz N) (λN=>(bz (ab7 N) bV)) Cp.b Cp.vo

def E56:=en [(144,Sx),(146,L8)] []
def A56:Fn [.R, .R, .R, .I, .S] As:=λa b c d e=>[aV [.sh 9 a, .sh 9 b, .sh 59 c, .n d],aS e]
def k56:Fn [.R, .R, .R, .I] dM:=λa b c d=>⟨[aV [.ow 9 ak a, .ow 9 ak b, .ow 59 ak c, .n d]],[]⟩
def ahM:=eG A56 k56 Ih.c Ih.v
theorem apy:FO 56 ahM:=fr (E:=E56) (aN YW (aN Rr bh)) func56 Ih.b Ih.vo

def E9:=en [(48,Kd),(43,acG),(49,tX),(50,Ke),(51,ahK),(52,WW),(53,acH),(54,ahL),(55,acI),(56,ahM),(57,acJ)] [(5,[1,2,3,6,7,8,9]),(22,[2,3,6,8,10,12,13])]
def A9:Fn [.I, .R, .R, .R, .R, .I, .R, .R, .I, .I, .S] As:=λa b c d e f g h i j k=>[aV [.n a, .sh 92 b, .sh 9 c, .sh 9 d, .sh 59 e, .n f, .sh 100 g, .sh 53 h, .n i],aI j,aS k]
def k9:Fn [.I, .R, .R, .R, .R, .I, .R, .R, .I, .I] dM:=λa b c d e f g h i j=>⟨[aV [.n a, .ow 92 ak b, .ow 9 ak c, .ow 9 ak d, .ow 59 ak e, .n f, .ow 100 ak g, .ow 53 ak h, .n i],aI j],[]⟩
def Uk:Fn [.I, .S, .I, .I, .I, .R, .R, .R, .R, .I, .R, .R, .I, .I, .I, .I, .I, .I, .I, .R, .R, .R, .R, .R, .R] Tb:=λa b c d e f g h i j k l m o p q r s t u v w x y z=>[cI 2 a,cA 4 (.s b),cP 6 0,cP 12 1,cI 14 c,cP 16 2,cI 18 d,oB 1 [.n e, .sh 92 f, .sh 9 g, .sh 9 h, .sh 59 i, .n j, .sh 100 k, .sh 53 l, .n m],oB 3 [.n o, .nl, .nl, .nl, .nl, .n p, .nl, .nl, .n q],oB 5 [.n r, .own 3, .own 4, .own 5, .own 6, .n s, .own 7, .own 8, .n t],oR 7 92 u,oR 9 9 v,oR 11 9 w,oR 13 59 x,oR 15 100 y,oR 17 53 z]
def PV:Fn [.I, .S, .I, .I, .I, .R, .R, .R, .R, .I, .R, .R, .I, .I, .I, .I, .I, .I, .I, .R, .R, .R, .R, .R, .R] Tb:=λa b c d e f g h i j k l m o p q r s t u v w x y z=>[cI 2 a,cA 4 (.s b),cP 6 0,cP 12 1,cI 14 c,cP 16 2,cI 18 d,oB 1 [.n e, .sh 92 f, .sh 9 g, .sh 9 h, .sh 59 i, .n j, .sh 100 k, .sh 53 l, .n m],oB 3 [.n o, .own 3, .own 4, .own 5, .own 6, .n p, .own 7, .own 8, .n q],oB 5 [.n r, .own 3, .own 4, .own 5, .own 6, .n s, .own 7, .own 8, .n t],oR 7 92 u,oR 9 9 v,oR 11 9 w,oR 13 59 x,oR 15 100 y,oR 17 53 z]
def KW:Fn [.S, .B, .I, .I, .R, .R, .R, .R, .I, .R, .R, .I, .I, .I, .I, .I, .I, .I, .I, .S, .I, .I, .I, .S, .I, .R, .R, .R, .R, .R, .R] Tb:=λa b c d e f g h i j k l m o p q r s t u v w x y z aa ab ac ad ae af=>[cA 4 (.s a),cP 6 0,cP 12 1,cP 16 2,cP 20 3,cA 24 (.b b),cI 26 c,oB 1 [.n d, .sh 92 e, .sh 9 f, .sh 9 g, .sh 59 h, .n i, .sh 100 j, .sh 53 k, .n l],oB 3 [.n m, .nl, .nl, .nl, .nl, .n o, .nl, .nl, .n p],oB 5 [.n q, .own 4, .own 5, .own 6, .own 7, .n r, .own 8, .own 9, .n s],oB 7 [.n t, .s u, .n v, .n w, .n x, .s y, .n z],oR 9 92 aa,oR 11 9 ab,oR 13 9 ac,oR 15 59 ad,oR 17 100 ae,oR 19 53 af]
def aeu(N:aG)(K:Kt R):=U9.l5 N (J PV .ret K) (J Uk (.exit 0) K)
def XN(N:aG)(K:Kt R):=U9.Vp N (J KW (.exit 2) K)
def it9(N:aG):It R:=(lp 5 (al Uk (λK=>aeu N K N) an) (lp 22 (al KW (λK=>XN N K N) an) ln))
theorem afO(N:aG):cB E9 (it9 N (R:=R)) (ca f9 5):=lq 5 Uk (aeu N) λK g=>U9.r5 N g (J PV .ret K) (J Uk (.exit 0) K)
theorem acj(N:aG):cB E9 (it9 N (R:=R)) (ca f9 22):=lq 22 KW (XN N) λK g=>U9.r22 N g (J KW (.exit 2) K)
def sp9:=eG A9 k9 U9.c U9.v
theorem ok9:FO 9 sp9:=fq (E:=E9) (aN Nr (aN agT (aN u5 (aN Ns (aN apw (aN acn (aN agU (aN apx (aN agV (aN apy (aN agW bh))))))))))) func9 (it:=λN=>it9 N) (λN=>(bz (afO N) (bz (acj N) bV))) U9.b U9.vo

def ali:=en [(43,acG),(49,tX)] []
def ajG:Fn [.I, .R, .R, .R, .R, .I, .R, .R, .I, .I] As:=λa b c d e f g h i j=>[aV [.n a, .sh 92 b, .sh 9 c, .sh 9 d, .sh 59 e, .n f, .sh 100 g, .sh 53 h, .n i],aI j]
def anA:Fn [.B] dM:=λa=>⟨[aB a],[]⟩
def L5:=eG ajG anA tO.c tO.v
theorem Ro:FO 129 L5:=fr (E:=ali) (aN agT (aN u5 bh)) func129 tO.b tO.vo

def alI:=en [] []
def aks:Fn [.I, .S, .R] As:=λa b c=>[aV [.n a, .s b, .sh 231 c]]
def aom:Fn [.I, .S, .R] dM:=λa b c=>⟨[aV [.n a, .s b, .ow 231 ak c]],[]⟩
def ZQ:=eG aks aom IK.c IK.v
theorem agt:FO 211 ZQ:=fh (E:=alI) bh func211 (it:=λ_=>ln) (λ_=>bV) (λ_=>IK.b) λx f h=>⟨0,IK.fI _ x.1 x.2.1 x.2.2.1 h⟩

def ad8:=en [(49,tX)] [(2,[1,2,3])]
def akt:Fn [.I, .S, .R] As:=λa b c=>[aV [.n a, .s b, .sh 231 c]]
def aon:Fn [.B] dM:=λa=>⟨[aB a],[]⟩
def xF:Fn [.B, .I, .I, .S, .R] Tb:=λa b c d e=>[cP 2 0,cA 4 (.b a),cI 6 b,oB 1 [.n c, .s d, .sh 231 e]]
def O8(N:aG)(K:Kt R):=kY.l2 N (J xF .ret K) (J xF (.exit 0) K)
def YA(N:aG):It R:=(lp 2 (al xF (λK=>O8 N K N) an) ln)
theorem VT(N:aG):cB ad8 (YA N (R:=R)) (ca f212 2):=lq 2 xF (O8 N) λK g=>kY.r2 N g (J xF .ret K) (J xF (.exit 0) K)
def ZR:=eG akt aon (ct _) kY.v
theorem agu:FO 212 ZR:=fh (E:=ad8) (aN u5 bh) func212 (it:=λN=>YA N) (λN=>(bz (VT N) bV)) kY.b λx f h=>kY.fI _ x.1 x.2.1 x.2.2.1 f.1.2.1 f.1.2.2.1

def alj:=en [(211,ZQ),(212,ZR),(49,tX)] []
def ajH:Fn [.I, .S, .R, .S] As:=λa b c d=>[aV [.n a, .s b, .sh 231 c],aS d]
def anB:Fn [.I, .S, .R, .B] dM:=λa b c d=>⟨[aV [.n a, .s b, .ow 231 ak c],aB d],[]⟩
def Zz:=eG ajH anB EB.c EB.v
theorem af8:FO 130 Zz:=fh (E:=alj) (aN agt (aN agu (aN u5 bh))) func130 (it:=λ_=>ln) (λ_=>bV) (λ_=>EB.b) λx f h=>⟨0,EB.fI _ x.1 x.2.1 x.2.2.1 x.2.2.2.1 h f.1.2.1 f.1.2.2.1 f.2.1.1⟩

def adS:=en [] [(1,[0,1,2,6])]
def ajI:Fn [.I, .R, .R, .R, .R, .I, .R, .R, .I, .I, .I] As:=λa b c d e f g h i j k=>[.pt [.n a, .ow 92 ak b, .ow 9 ak c, .ow 9 ak d, .ow 59 ak e, .n f, .ow 100 ak g, .ow 53 ak h, .n i],aI j,aI k]
def anC:Fn [.I, .R, .R, .R, .R, .I, .R, .R, .I] dM:=λa b c d e f g h i=>⟨[],[[.n a, .kp b, .kp c, .kp d, .kp e, .n f, .kp g, .kp h, .n i]]⟩
def D8:Fn [.I, .I, .I, .I, .I, .I, .R, .R, .R, .R, .R, .R] Tb:=λa b c d e f g h i j k l=>[cP 0 900000900,cI 2 a,cI 4 b,cI 12 c,oB 1800001801 [.n d, .own 900000001, .own 900000002, .own 900000003, .own 900000004, .n e, .own 900000006, .own 900000007, .n f],oR 1800000003 92 g,oR 1800000005 9 h,oR 1800000007 9 i,oR 1800000009 59 j,oR 1800000013 100 k,oR 1800000015 53 l]
def OG(N:aG)(K:Kt R):=rL.l1 N (J D8 (.exit 0) K)
def Yk(N:aG):It R:=(lp 1 (al D8 (λK=>OG N K N) an) ln)
theorem Vv(N:aG):cB adS (Yk N (R:=R)) (ca f131 1):=lq 1 D8 (OG N) λK g=>rL.r1 N g (J D8 (.exit 0) K)
def L6:=eG ajI anC rL.c rL.v
theorem Rp:FO 131 L6:=fq (E:=adS) bh func131 (it:=λN=>Yk N) (λN=>(bz (Vv N) bV)) rL.b rL.vo

def E38:=en [(48,Kd),(129,L5),(130,Zz),(131,L6)] []
def A38:Fn [.I, .R, .R, .R, .R, .I, .R, .R, .I, .I, .S] As:=λa b c d e f g h i j k=>[aV [.n a, .sh 92 b, .sh 9 c, .sh 9 d, .sh 59 e, .n f, .sh 100 g, .sh 53 h, .n i],aI j,aS k]
def k38:Fn [.I, .R, .R, .R, .R, .I, .R, .R, .I, .B] dM:=λa b c d e f g h i j=>⟨[aV [.n a, .ow 92 ak b, .ow 9 ak c, .ow 9 ak d, .ow 59 ak e, .n f, .ow 100 ak g, .ow 53 ak h, .n i],aB j],[]⟩
def ahH:=eG A38 k38 TJ.c TJ.v
theorem apt:FO 38 ahH:=fr (E:=E38) (aN Nr (aN Ro (aN af8 (aN Rp bh)))) func38 TJ.b TJ.vo

def aar:=en [] [(3,[0,3,5,6]),(9,[0,3,5,7])]
def akl:Fn [.R, .S, .I, .I, .S] As:=λa b c d e=>[aH 92 a,aV [.s b, .n c, .n d, .s e]]
def aof:Fn [.R] dM:=λa=>⟨[aO 92 a],[]⟩
def Ef:Fn [.R, .I, .S, .I, .I, .S, .R] Tb:=λa b c d e f g=>[cH 0 92 a,cP 6 0,cA 10 (.own 1),cI 12 b,oB 1 [.s c, .n d, .n e, .s f],oR 3 92 g]
def Eg:Fn [.R, .I, .S, .I, .I, .S, .R] Tb:=λa b c d e f g=>[cH 0 92 a,cP 6 0,cA 10 (.own 1),cI 14 b,oB 1 [.s c, .n d, .n e, .s f],oR 3 92 g]
def O6(N:aG)(K:Kt R):=fH.l3 N (J Ef (.exit 0) K)
def O7(N:aG)(K:Kt R):=fH.l9 N (J Eg (.exit 2) K)
def QX(N:aG):It R:=(lp 3 (al Ef (λK=>O6 N K N) an) (lp 9 (al Eg (λK=>O7 N K N) an) ln))
theorem VR(N:aG):cB aar (QX N (R:=R)) (ca f198 3):=lq 3 Ef (O6 N) λK g=>fH.r3 N g (J Ef (.exit 0) K)
theorem VS(N:aG):cB aar (QX N (R:=R)) (ca f198 9):=lq 9 Eg (O7 N) λK g=>fH.r9 N g (J Eg (.exit 2) K)
def SK:=eG akl aof fH.c fH.v
theorem Y8:FO 198 SK:=fq (E:=aar) bh func198 (it:=λN=>QX N) (λN=>(bz (VR N) (bz (VS N) bV))) fH.b fH.vo

def alk:=mkE T md [(53,acH),(55,acI),(213,SM),(198,SK)] [] [] [(0,1, .own 92),(0,2, .own 9),(0,3, .own 9),(0,4, .own 59)]
def ajJ:Fn [.I, .R, .R, .R, .R, .I, .R, .R, .I, .S, .I, .I, .S] As:=λa b c d e f g h i j k l m=>[.pt [.n a, .ow 92 ak b, .ow 9 ak c, .ow 9 ak d, .ow 59 ak e, .n f, .ow 100 ak g, .ow 53 ak h, .n i],aV [.s j, .n k, .n l, .s m]]
def anD:Fn [.I, .R, .R, .R, .R, .I, .R, .R, .I] dM:=λa b c d e f g h i=>⟨[],[[.n a, .ow 92 ak b, .ow 9 ak c, .ow 9 ak d, .ow 59 ak e, .n f, .kp g, .kp h, .n i]]⟩
def Su:=eG ajJ anD xN.c xN.v
theorem YT:FO 132 Su:=fr (E:=alk) (aN agU (aN agV (aN Y_ (aN Y8 bh)))) func132 xN.b xN.vo

def E40:=en [(48,Kd),(129,L5),(49,tX),(131,L6),(132,Su)] []
def A40:Fn [.I, .R, .R, .R, .R, .I, .R, .R, .I, .I, .I] As:=λa b c d e f g h i j k=>[aV [.n a, .sh 92 b, .sh 9 c, .sh 9 d, .sh 59 e, .n f, .sh 100 g, .sh 53 h, .n i],aI j,aI k]
def k40:Fn [.I, .R, .R, .R, .R, .I, .R, .R, .I, .B] dM:=λa b c d e f g h i j=>⟨[aV [.n a, .ow 92 ak b, .ow 9 ak c, .ow 9 ak d, .ow 59 ak e, .n f, .ow 100 ak g, .ow 53 ak h, .n i],aB j],[]⟩
def ahI:=eG A40 k40 TK.c TK.v
theorem apu:FO 40 ahI:=fr (E:=E40) (aN Nr (aN Ro (aN u5 (aN Rp (aN YT bh))))) func40 TK.b TK.vo

def aed:=en [] [(2,[0,3])]
def akX:Fn [.I] As:=λa=>[aI a]
def aoR:Fn [.S] dM:=λa=>⟨[aS a],[]⟩
def Eo:Fn [.I, .R] Tb:=λa b=>[cI 0 a,cA 6 (.own 0),oR 1 5 b]
def Pq(N:aG)(K:Kt R):=jW.l2 N (J Eo (.exit 0) K)
def YG(N:aG):It R:=(lp 2 (al Eo (λK=>Pq N K N) an) ln)
theorem Wa(N:aG):cB aed (YG N (R:=R)) (ca f264 2):=lq 2 Eo (Pq N) λK g=>jW.r2 N g (J Eo (.exit 0) K)
def Mh:=eG akX aoR jW.c jW.v
theorem RC:FO 264 Mh:=fh (E:=aed) bh func264 (it:=λN=>YG N) (λN=>(bz (Wa N) bV)) jW.b λx f h=>jW.fI _ x.1 h

def alU:=en [(141,H5),(264,Mh)] []
def akK:Fn [.S, .I, .I, .S] As:=λa b c d=>[aV [.s a, .n b, .n c, .s d]]
def aoE:Fn [.S, .B] dM:=λa b=>⟨[aS a,aB b],[]⟩
def Mg:=eG akK aoE (ct _) jN.v
theorem RB:FO 241 Mg:=fh (E:=alU) (aN LS (aN RC bh)) func241 (it:=λ_=>ln) (λ_=>bV) (λ_=>jN.b) λx f h=>⟨0,jN.fI _ x.1 x.2.1 x.2.2.1 x.2.2.2.1⟩

def alY:=en [] []
def akY:Fn [.I] As:=λa=>[.v aq [.i .u32 a]]
def aoS:Fn [.S] dM:=λa=>⟨[aS a],[]⟩
def Z7:=eG akY aoS (ct _) o_.v
theorem agL:FO 265 Z7:=ft (E:=alY) bh func265 o_.b λ(a0,_)=>o_.fI _ a0

def alS:=en [(49,tX),(264,Mh),(215,SN),(265,Z7)] []
def akI:Fn [.S] As:=λa=>[aS a]
def aoC:Fn [.S, .B] dM:=λa b=>⟨[aS a,aB b],[]⟩
def Mf:=eG akI aoC fP.c fP.v
theorem RA:FO 239 Mf:=fr (E:=alS) (aN u5 (aN RC (aN Za (aN agL bh)))) func239 fP.b fP.vo

def alZ:=en [(241,Mg),(239,Mf)] []
def ak0:Fn [.S, .I, .I, .S] As:=λa b c d=>[aV [.s a, .n b, .n c, .s d]]
def aoU:Fn [.R, .B] dM:=λa b=>⟨[aO 268 a,aB b],[]⟩
def Z8:=eG ak0 aoU Co.c Co.v
theorem agM:FO 270 Z8:=fr (E:=alZ) (aN RB (aN RA bh)) func270 Co.b Co.vo

def alR:=en [(49,tX)] []
def akF:Fn [.S] As:=λa=>[aS a]
def aoz:Fn [.B] dM:=λa=>⟨[aB a],[]⟩
def SS:=eG akF aoz (ct _) uN.v
theorem Zd:FO 236 SS:=ft (E:=alR) (aN u5 bh) func236 uN.b λ(a0,_)=>uN.fI _ a0

def ad6:=en [(236,SS),(49,tX)] [(4,[1,2,3])]
def akh:Fn [.R] As:=λa=>[aV [.sh 236 a]]
def aob:Fn [.B] dM:=λa=>⟨[aB a],[]⟩
def xE:Fn [.B, .I, .R] Tb:=λa b c=>[cP 2 0,cA 4 (.b a),cI 6 b,oB 1 [.sh 236 c]]
def O4(N:aG)(K:Kt R):=fw.l4 N (J xE .ret K) (J xE (.exit 0) K)
def Yy(N:aG):It R:=(lp 4 (al xE (λK=>O4 N K N) an) ln)
theorem VP(N:aG):cB ad6 (Yy N (R:=R)) (ca f194 4):=lq 4 xE (O4 N) λK g=>fw.r4 N g (J xE .ret K) (J xE (.exit 0) K)
def H6:=eG akh aob fw.c fw.v
theorem LU:FO 194 H6:=fq (E:=ad6) (aN Zd (aN u5 bh)) func194 (it:=λN=>Yy N) (λN=>(bz (VP N) bV)) fw.b fw.vo

def aea:=en [] [(2,[1,2,4,5])]
def akG:Fn [.R, .S] As:=λa b=>[aV [.sh 236 a],aS b]
def aoA:Fn [.I] dM:=λa=>⟨[aI a],[]⟩
def xH:Fn [.S, .I, .I, .R] Tb:=λa b c d=>[cA 2 (.s a),cP 4 0,cI 8 b,cI 10 c,oB 1 [.sh 236 d]]
def Pc(N:aG)(K:Kt R):=jV.l2 N (J xH .ret K) (J xH (.exit 0) K)
def YD(N:aG):It R:=(lp 2 (al xH (λK=>Pc N K N) an) ln)
theorem VX(N:aG):cB aea (YD N (R:=R)) (ca f237 2):=lq 2 xH (Pc N) λK g=>jV.r2 N g (J xH .ret K) (J xH (.exit 0) K)
def SU:=eG akG aoA jV.c jV.v
theorem Ze:FO 237 SU:=fq (E:=aea) bh func237 (it:=λN=>YD N) (λN=>(bz (VX N) bV)) jV.b jV.vo

def Oy:=en [] [(3,[2,3,4,5,6]),(9,[2,3,4,5,7])]
def ak6:Fn [.R, .S, .S, .I] As:=λa b c d=>[aV [.sh 236 a],aV [.s b, .s c, .n d]]
def ao0:Fn [.R] dM:=λa=>⟨[aV [.ow 236 ak a]],[]⟩
def qN:Fn [.I, .R, .S, .S, .I] Tb:=λa b c d e=>[cP 4 0,cP 6 1,cP 8 2,cP 10 3,cI 12 a,oB 1 [.sh 236 b],oB 3 [.s c, .s d, .n e],oB 5 [.nl],oB 7 [.nl]]
def nZ:Fn [.I, .R, .S, .S, .I, .R] Tb:=λa b c d e f=>[cP 4 0,cP 6 1,cP 8 2,cP 10 3,cI 12 a,oB 1 [.sh 236 b],oB 3 [.s c, .s d, .n e],oB 5 [.nl],oB 7 [.own 4],oR 9 236 f]
def Eu:Fn [.I, .R, .S, .S, .I, .R] Tb:=λa b c d e f=>[cP 4 0,cP 6 1,cP 8 2,cP 10 3,cI 14 a,oB 1 [.sh 236 b],oB 3 [.s c, .s d, .n e],oB 5 [.nl],oB 7 [.own 4],oR 9 236 f]
def Py(N:aG)(K:Kt R):=kF.l3 N (J qN (.exit 0) K) (J nZ (.exit 0) K)
def KG(N:aG)(K:Kt R):=kF.tW N (J qN (.exit 0) K) (J nZ (.exit 0) K)
def Pz(N:aG)(K:Kt R):=kF.l9 N (J Eu (.exit 2) K)
def Hu(N:aG):It R:=(lp 3 (al qN (λK=>Py N K N) (al nZ (λK=>KG N K N) an)) (lp 9 (al Eu (λK=>Pz N K N) an) ln))
theorem Mo(N:aG)(K:Kt R):Wd Oy (Hu N) (ca f278 3) 3 K nZ (KG N K):=lw (λg=>kF.z7 N (cmp _ qN (g∘fK)) (cmp _ nZ (g∘fK)) (J qN (.exit 0) K) (J nZ (.exit 0) K)) λm i=>by simp only[dU,wf i];rfl
theorem acX(N:aG)(K:Kt R):Wd Oy (Hu N) (ca f278 3) 3 K qN (Py N K):=lw (λg=>kF.r3 N (cmp _ qN (g∘fK)) (cmp _ nZ (g∘fK)) (J qN (.exit 0) K) (J nZ (.exit 0) K)) λm i=>by simp only[dU,wf i,wf (Mo N K m)];rfl
theorem Wg(N:aG):cB Oy (Hu N (R:=R)) (ca f278 3):=lm 3 (ga qN (acX N) (ga nZ (Mo N) pr))
theorem Wh(N:aG):cB Oy (Hu N (R:=R)) (ca f278 9):=lq 9 Eu (Pz N) λK g=>kF.r9 N g (J Eu (.exit 2) K)
def aac:=eG ak6 ao0 kF.c kF.v
theorem agR:FO 278 aac:=fq (E:=Oy) bh func278 (it:=λN=>Hu N) (λN=>(bz (Wg N) (bz (Wh N) bV))) kF.b kF.vo

def T8:=en [] [(3,[1,2,4,5,6])]
def ak7:Fn [.R, .S] As:=λa b=>[aV [.sh 236 a],aS b]
def ao1:Fn [.R] dM:=λa=>⟨[aV [.ow 236 ak a]],[]⟩
def qO:Fn [.S, .I, .R] Tb:=λa b c=>[cA 2 (.s a),cP 4 0,cP 8 1,cP 10 2,cI 12 b,oB 1 [.sh 236 c],oB 3 [.nl],oB 5 [.nl]]
def n5:Fn [.S, .I, .R, .R] Tb:=λa b c d=>[cA 2 (.s a),cP 4 0,cP 8 1,cP 10 2,cI 12 b,oB 1 [.sh 236 c],oB 3 [.nl],oB 5 [.own 3],oR 7 236 d]
def PA(N:aG)(K:Kt R):=lZ.l3 N (J qO (.exit 0) K) (J n5 (.exit 0) K)
def KH(N:aG)(K:Kt R):=lZ.tW N (J qO (.exit 0) K) (J n5 (.exit 0) K)
def LJ(N:aG):It R:=(lp 3 (al qO (λK=>PA N K N) (al n5 (λK=>KH N K N) an)) ln)
theorem Mp(N:aG)(K:Kt R):Wd T8 (LJ N) (ca f279 3) 3 K n5 (KH N K):=lw (λg=>lZ.z7 N (cmp _ qO (g∘fK)) (cmp _ n5 (g∘fK)) (J qO (.exit 0) K) (J n5 (.exit 0) K)) λm i=>by simp only[dU,wf i];rfl
theorem acY(N:aG)(K:Kt R):Wd T8 (LJ N) (ca f279 3) 3 K qO (PA N K):=lw (λg=>lZ.r3 N (cmp _ qO (g∘fK)) (cmp _ n5 (g∘fK)) (J qO (.exit 0) K) (J n5 (.exit 0) K)) λm i=>by simp only[dU,wf i,wf (Mp N K m)];rfl
theorem Wi(N:aG):cB T8 (LJ N (R:=R)) (ca f279 3):=lm 3 (ga qO (acY N) (ga n5 (Mp N) pr))
def aad:=eG ak7 ao1 lZ.c lZ.v
theorem agS:FO 279 aad:=fq (E:=T8) bh func279 (it:=λN=>LJ N) (λN=>(bz (Wi N) bV)) lZ.b lZ.vo

def al0:=en [(194,H6),(236,SS),(237,SU),(278,aac),(279,aad)] []
def ak5:Fn [.R, .I, .S, .S, .S] As:=λa b c d e=>[aV [.sh 236 a],aV [.n b, .s c, .s d, .s e]]
def aoZ:Fn [.R, .B] dM:=λa b=>⟨[aV [.ow 236 ak a],aB b],[]⟩
def aab:=eG ak5 aoZ AD.c AD.v
theorem agQ:FO 276 aab:=fr (E:=al0) (aN LU (aN Zd (aN Ze (aN agR (aN agS bh))))) func276 AD.b AD.vo

def aee:=en [(276,aab)] [(3,[1,4,5,6,7])]
def ak1:Fn [.R, .R] As:=λa b=>[aV [.sh 236 a],aH 268 b]
def aoV:Fn [.R, .I] dM:=λa b=>⟨[aV [.ow 236 ak a],aI b],[]⟩
def Er:Fn [.R, .I, .I, .R] Tb:=λa b c d=>[cH 2 268 a,cP 8 0,cI 10 b,cP 12 1,cI 14 c,oB 1 [.nl],oB 3 [.own 2],oR 5 236 d]
def Gz:Fn [.R, .I, .I, .R] Tb:=λa b c d=>[cH 2 268 a,cP 8 0,cI 10 b,cP 12 1,cI 14 c,oB 1 [.own 2],oB 3 [.own 2],oR 5 236 d]
def Ps(N:aG)(K:Kt R):=pN.l3 N (J Gz .ret K) (J Er (.exit 0) K)
def YH(N:aG):It R:=(lp 3 (al Er (λK=>Ps N K N) an) ln)
theorem Wb(N:aG):cB aee (YH N (R:=R)) (ca f271 3):=lq 3 Er (Ps N) λK g=>pN.r3 N g (J Gz .ret K) (J Er (.exit 0) K)
def SY:=eG ak1 aoV pN.c pN.v
theorem Zg:FO 271 SY:=fq (E:=aee) (aN agQ bh) func271 (it:=λN=>YH N) (λN=>(bz (Wb N) bV)) pN.b pN.vo

def alW:=en [] []
def akV:Fn [.B] As:=λa=>[aB a]
def aoP:Fn [.I] dM:=λa=>⟨[aI a],[]⟩
def SX:=eG akV aoP (ct _) zo.v
theorem Zf:FO 260 SX:=ft (E:=alW) bh func260 zo.b λ(a0,_)=>zo.fI _ a0

def alV:=mkE T md [(40,ahI),(270,Z8),(271,SY),(260,SX)] [] [] [(0,1, .own 92),(0,2, .own 9),(0,3, .own 9),(0,4, .own 59),(0,6, .own 100),(0,7, .own 53),(0,9, .own 236),(0,10, .own 3),(0,11, .own 92)]
def akT:Fn [.I, .R, .R, .R, .R, .I, .R, .R, .I, .R, .R, .R, .I, .I, .S, .I, .R] As:=λa b c d e f g h i j k l m o p q r=>[.pt [.n a, .ow 92 ak b, .ow 9 ak c, .ow 9 ak d, .ow 59 ak e, .n f, .ow 100 ak g, .ow 53 ak h, .n i, .ow 236 ak j, .ow 3 ak k, .ow 92 ak l],aV [.n m, .n o, .s p, .n q, .sh 3 r]]
def aoN:Fn [.I, .I, .R, .R, .R, .R, .I, .R, .R, .I, .R, .R, .R] dM:=λa b c d e f g h i j k l m=>⟨[aI a],[[.n b, .ow 92 ak c, .ow 9 ak d, .ow 9 ak e, .ow 59 ak f, .n g, .ow 100 ak h, .ow 53 ak i, .n j, .ow 236 ak k, .ow 3 ak l, .ow 92 ak m]]⟩
def Z4:=eG akT aoN Cm.c Cm.v
theorem agI:FO 258 Z4:=fr (E:=alV) (aN apu (aN agM (aN Zg (aN Zf bh)))) func258 Cm.b Cm.vo

def E42:=en [(48,Kd),(129,L5),(131,L6)] []
def A42:Fn [.I, .R, .R, .R, .R, .I, .R, .R, .I, .I] As:=λa b c d e f g h i j=>[aV [.n a, .sh 92 b, .sh 9 c, .sh 9 d, .sh 59 e, .n f, .sh 100 g, .sh 53 h, .n i],aI j]
def k42:Fn [.I, .R, .R, .R, .R, .I, .R, .R, .I, .B] dM:=λa b c d e f g h i j=>⟨[aV [.n a, .ow 92 ak b, .ow 9 ak c, .ow 9 ak d, .ow 59 ak e, .n f, .ow 100 ak g, .ow 53 ak h, .n i],aB j],[]⟩
def ahJ:=eG A42 k42 TL.c TL.v
theorem apv:FO 42 ahJ:=fr (E:=E42) (aN Nr (aN Ro (aN Rp bh))) func42 TL.b TL.vo

def E23:=en [(48,Kd)] []
def A23:Fn [.I, .R, .R, .R, .R, .I, .R, .R, .I, .I] As:=λa b c d e f g h i j=>[aV [.n a, .sh 92 b, .sh 9 c, .sh 9 d, .sh 59 e, .n f, .sh 100 g, .sh 53 h, .n i],aI j]
def k23:Fn [.I, .R, .R, .R, .R, .I, .R, .R, .I] dM:=λa b c d e f g h i=>⟨[aV [.n a, .ow 92 ak b, .ow 9 ak c, .ow 9 ak d, .ow 59 ak e, .n f, .ow 100 ak g, .ow 53 ak h, .n i]],[]⟩
def ahx:=eG A23 k23 IL.c IL.v
theorem apm:FO 23 ahx:=fr (E:=E23) (aN Nr bh) func23 IL.b IL.vo

def E24:=en [(48,Kd)] [(4,[1,2,4,5,6])]
def A24:Fn [.I, .R, .R, .R, .R, .I, .R, .R, .I, .I] As:=λa b c d e f g h i j=>[aV [.n a, .sh 92 b, .sh 9 c, .sh 9 d, .sh 59 e, .n f, .sh 100 g, .sh 53 h, .n i],aI j]
def k24:Fn [.I, .R, .R, .R, .R, .I, .R, .R, .I] dM:=λa b c d e f g h i=>⟨[aV [.n a, .ow 92 ak b, .ow 9 ak c, .ow 9 ak d, .ow 59 ak e, .n f, .ow 100 ak g, .ow 53 ak h, .n i]],[]⟩
def KL:Fn [.I, .I, .I, .R, .R, .R, .R, .I, .R, .R, .I, .I, .I, .I, .I, .I, .I, .R, .R, .R, .R, .R, .R] Tb:=λa b c d e f g h i j k l m o p q r s t u v w x=>[cI 2 a,cP 4 0,cP 8 1,cP 10 2,cI 12 b,oB 1 [.n c, .sh 92 d, .sh 9 e, .sh 9 f, .sh 59 g, .n h, .sh 100 i, .sh 53 j, .n k],oB 3 [.n l, .nl, .nl, .nl, .nl, .n m, .nl, .nl, .n o],oB 5 [.n p, .own 3, .own 4, .own 5, .own 6, .n q, .own 7, .own 8, .n r],oR 7 92 s,oR 9 9 t,oR 11 9 u,oR 13 59 v,oR 15 100 w,oR 17 53 x]
def Xt(N:aG)(K:Kt R):=Gw.l4 N (J KL (.exit 0) K)
def afw(N:aG):It R:=(lp 4 (al KL (λK=>Xt N K N) an) ln)
theorem ab0(N:aG):cB E24 (afw N (R:=R)) (ca f24 4):=lq 4 KL (Xt N) λK g=>Gw.r4 N g (J KL (.exit 0) K)
def ahy:=eG A24 k24 Gw.c Gw.v
theorem apn:FO 24 ahy:=fq (E:=E24) (aN Nr bh) func24 (it:=λN=>afw N) (λN=>(bz (ab0 N) bV)) Gw.b Gw.vo

def T7:=en [(194,H6)] [(5,[1,2,4,6,7])]
def ak2:Fn [.R, .R] As:=λa b=>[aV [.sh 236 a],aH 3 b]
def aoW:Fn [.R, .B] dM:=λa b=>⟨[aV [.ow 236 ak a],aB b],[]⟩
def qM:Fn [.R, .I, .R] Tb:=λa b c=>[cH 2 3 a,cP 4 0,cP 8 1,cP 12 2,cI 14 b,oB 1 [.sh 236 c],oB 3 [.nl],oB 5 [.nl]]
def nY:Fn [.R, .I, .R, .R] Tb:=λa b c d=>[cH 2 3 a,cP 4 0,cP 8 1,cP 12 2,cI 14 b,oB 1 [.sh 236 c],oB 3 [.nl],oB 5 [.own 3],oR 7 236 d]
def Pt(N:aG)(K:Kt R):=vD.l5 N (J qM (.exit 0) K) (J nY (.exit 0) K)
def KF(N:aG)(K:Kt R):=vD.l5a N (J qM (.exit 0) K) (J nY (.exit 0) K)
def LI(N:aG):It R:=(lp 5 (al qM (λK=>Pt N K N) (al nY (λK=>KF N K N) an)) ln)
theorem Mn(N:aG)(K:Kt R):Wd T7 (LI N) (ca f272 5) 5 K nY (KF N K):=lw (λg=>vD.r5a N (cmp _ qM (g∘fK)) (cmp _ nY (g∘fK)) (J qM (.exit 0) K) (J nY (.exit 0) K)) λm i=>by simp only[dU,wf i];rfl
theorem acW(N:aG)(K:Kt R):Wd T7 (LI N) (ca f272 5) 5 K qM (Pt N K):=lw (λg=>vD.r5 N (cmp _ qM (g∘fK)) (cmp _ nY (g∘fK)) (J qM (.exit 0) K) (J nY (.exit 0) K)) λm i=>by simp only[dU,wf i,wf (Mn N K m)];rfl
theorem Wc(N:aG):cB T7 (LI N (R:=R)) (ca f272 5):=lm 5 (ga qM (acW N) (ga nY (Mn N) pr))
def Z9:=eG ak2 aoW vD.c vD.v
theorem agN:FO 272 Z9:=fq (E:=T7) (aN LU bh) func272 (it:=λN=>LI N) (λN=>(bz (Wc N) bV)) vD.b vD.vo

def alE:=en [(237,SU)] []
def aki:Fn [.R, .S] As:=λa b=>[aV [.sh 236 a],aS b]
def aoc:Fn [.S, .B] dM:=λa b=>⟨[aS a,aB b],[]⟩
def SJ:=eG aki aoc mL.c mL.v
theorem Y7:FO 195 SJ:=fr (E:=alE) (aN Ze bh) func195 mL.b mL.vo

def aeb:=en [(49,tX),(264,Mh)] [(6,[0,1,4,5,6,7,8,9])]
def akH:Fn [.S, .I] As:=λa b=>[aS a,aI b]
def aoB:Fn [.I, .I, .B] dM:=λa b c=>⟨[aI a,aI b,aB c],[]⟩
def xI:Fn [.S, .I, .I, .I, .B, .I, .I, .I] Tb:=λa b c d e f g h=>[cA 0 (.s a),cI 2 b,cI 8 c,cI 10 d,cA 12 (.b e),cI 14 f,cI 16 g,cI 18 h]
def Pf(N:aG)(K:Kt R):=fy.l6 N (J xI .ret K) (J xI (.exit 0) K)
def YE(N:aG):It R:=(lp 6 (al xI (λK=>Pf N K N) an) ln)
theorem VY(N:aG):cB aeb (YE N (R:=R)) (ca f238 6):=lq 6 xI (Pf N) λK g=>fy.r6 N g (J xI .ret K) (J xI (.exit 0) K)
def Me:=eG akH aoB (ct _) fy.v
theorem Rz:FO 238 Me:=fh (E:=aeb) (aN u5 (aN RC bh)) func238 (it:=λN=>YE N) (λN=>(bz (VY N) bV)) fy.b λx f h=>fy.fI _ x.1 x.2.1 f.1.1

def ad7:=en [(238,Me),(239,Mf)] [(5,[0,2,3,4,5])]
def akj:Fn [.S] As:=λa=>[aS a]
def aod:Fn [.R, .I] dM:=λa b=>⟨[aO 9 a,aI b],[]⟩
def Ee:Fn [.S, .I, .I, .R] Tb:=λa b c d=>[cA 0 (.s a),cA 4 .nl,cI 6 b,cA 8 (.own 0),cI 10 c,oR 1 9 d]
def Gy:Fn [.S, .I, .I, .R] Tb:=λa b c d=>[cA 0 (.s a),cA 4 (.own 0),cI 6 b,cA 8 (.own 0),cI 10 c,oR 1 9 d]
def O5(N:aG)(K:Kt R):=rN.l5 N (J Gy .ret K) (J Ee (.exit 0) K)
def Yz(N:aG):It R:=(lp 5 (al Ee (λK=>O5 N K N) an) ln)
theorem VQ(N:aG):cB ad7 (Yz N (R:=R)) (ca f196 5):=lq 5 Ee (O5 N) λK g=>rN.r5 N g (J Gy .ret K) (J Ee (.exit 0) K)
def ZN:=eG akj aod rN.c rN.v
theorem agp:FO 196 ZN:=fq (E:=ad7) (aN Rz (aN RA bh)) func196 (it:=λN=>Yz N) (λN=>(bz (VQ N) bV)) rN.b rN.vo

def alT:=en [(238,Me)] []
def akJ:Fn [.S, .I] As:=λa b=>[aS a,aI b]
def aoD:Fn [.S, .I, .B] dM:=λa b c=>⟨[aS a,aI b,aB c],[]⟩
def ZZ:=eG akJ aoD (ct _) pM.v
theorem agD:FO 240 ZZ:=fh (E:=alT) (aN Rz bh) func240 (it:=λ_=>ln) (λ_=>bV) (λ_=>pM.b) λx f h=>⟨0,pM.fI _ x.1 x.2.1 f.1.1⟩

def alF:=en [(240,ZZ),(238,Me),(241,Mg)] []
def akk:Fn [.S] As:=λa=>[aS a]
def aoe:Fn [.S, .I, .I, .S, .B] dM:=λa b c d e=>⟨[aV [.s a, .n b, .n c, .s d],aB e],[]⟩
def ZO:=eG akk aoe (ct _) jJ.v
theorem agq:FO 197 ZO:=fh (E:=alF) (aN agD (aN Rz (aN RB bh))) func197 (it:=λ_=>ln) (λ_=>bV) (λ_=>jJ.b) λx f h=>⟨0,jJ.fI _ x.1 f.1.1⟩

def adQ:=en [(194,H6),(195,SJ),(196,ZN),(197,ZO),(198,SK)] [(7,[3,6,8])]
def ajB:Fn [.R] As:=λa=>[aV [.sh 236 a]]
def anu:Fn [.R] dM:=λa=>⟨[aO 92 a],[]⟩
def D7:Fn [.I, .R, .R] Tb:=λa b c=>[cA 6 (.own 0),cA 12 (.own 1),cI 16 a,oR 1 92 b,oR 3 9 c]
def OD(N:aG)(K:Kt R):=rK.l7 N (J D7 (.exit 0) K)
def Yi(N:aG):It R:=(lp 7 (al D7 (λK=>OD N K N) an) ln)
theorem Vt(N:aG):cB adQ (Yi N (R:=R)) (ca f111 7):=lq 7 D7 (OD N) λK g=>rK.r7 N g (J D7 (.exit 0) K)
def Zv:=eG ajB anu rK.c rK.v
theorem af4:FO 111 Zv:=fq (E:=adQ) (aN LU (aN Y7 (aN agp (aN agq (aN Y8 bh))))) func111 (it:=λN=>Yi N) (λN=>(bz (Vt N) bV)) rK.b rK.vo

def aef:=en [(194,H6),(195,SJ),(241,Mg),(239,Mf)] [(9,[1,4,5,6,9,10])]
def ak3:Fn [.R, .R] As:=λa b=>[aV [.sh 236 a],aH 92 b]
def aoX:Fn [.R, .B] dM:=λa b=>⟨[aO 268 a,aB b],[]⟩
def Es:Fn [.R, .B, .S, .I, .R] Tb:=λa b c d e=>[cH 2 92 a,cA 8 .nl,cA 10 (.b b),cA 12 (.own 0),cA 18 (.s c),cI 20 d,oR 1 268 e]
def GA:Fn [.R, .B, .S, .I, .R, .R] Tb:=λa b c d e f=>[cH 2 92 a,cA 8 (.own 0),cA 10 (.b b),cA 12 (.own 1),cA 18 (.s c),cI 20 d,oR 1 268 e,oR 3 268 f]
def Pv(N:aG)(K:Kt R):=mB.l9 N (J GA .ret K) (J Es (.exit 0) K)
def YI(N:aG):It R:=(lp 9 (al Es (λK=>Pv N K N) an) ln)
theorem We(N:aG):cB aef (YI N (R:=R)) (ca f273 9):=lq 9 Es (Pv N) λK g=>mB.r9 N g (J GA .ret K) (J Es (.exit 0) K)
def Z_:=eG ak3 aoX mB.c mB.v
theorem agO:FO 273 Z_:=fq (E:=aef) (aN LU (aN Y7 (aN RB (aN RA bh)))) func273 (it:=λN=>YI N) (λN=>(bz (We N) bV)) mB.b mB.vo

def aeg:=en [(182,SF),(141,H5),(52,WW),(132,Su)] [(4,[0,1,4,5,6])]
def ak4:Fn [.I, .R] As:=λa b=>[aI a,aH 92 b]
def aoY:Fn [.I, .R, .R, .R, .R, .I, .R, .R, .I] dM:=λa b c d e f g h i=>⟨[aV [.n a, .ow 92 ak b, .ow 9 ak c, .ow 9 ak d, .ow 59 ak e, .n f, .ow 100 ak g, .ow 53 ak h, .n i]],[]⟩
def Et:Fn [.I, .R, .I, .I, .I, .I, .I, .I, .I, .R, .R, .R, .R, .R, .R] Tb:=λa b c d e f g h i j k l m o p=>[cI 0 a,cH 2 92 b,cP 8 0,cP 10 1,cI 12 c,oB 1 [.n d, .nl, .nl, .nl, .nl, .n e, .nl, .nl, .n f],oB 3 [.n g, .own 2, .own 3, .own 4, .own 5, .n h, .own 6, .own 7, .n i],oR 5 92 j,oR 7 9 k,oR 9 9 l,oR 11 59 m,oR 13 100 o,oR 15 53 p]
def Pw(N:aG)(K:Kt R):=m_.l4 N (J Et (.exit 0) K)
def YJ(N:aG):It R:=(lp 4 (al Et (λK=>Pw N K N) an) ln)
theorem Wf(N:aG):cB aeg (YJ N (R:=R)) (ca f274 4):=lq 4 Et (Pw N) λK g=>m_.r4 N g (J Et (.exit 0) K)
def aaa:=eG ak4 aoY m_.c m_.v
theorem agP:FO 274 aaa:=fq (E:=aeg) (aN Y5 (aN LS (aN acn (aN YT bh)))) func274 (it:=λN=>YJ N) (λN=>(bz (Wf N) bV)) m_.b m_.vo

def T6:=mkE T md [(272,Z9),(111,Zv),(52,WW),(273,Z_),(271,SY),(274,aaa)] [(7,[0,6,7,8])] [] [(0,1, .own 92),(0,2, .own 9),(0,3, .own 9),(0,4, .own 59),(0,6, .own 100),(0,7, .own 53),(0,9, .own 236),(0,10, .own 3),(0,11, .own 92)]
def akU:Fn [.I, .R, .R, .R, .R, .I, .R, .R, .I, .R, .R, .R, .I, .I, .S, .I, .R] As:=λa b c d e f g h i j k l m o p q r=>[.pt [.n a, .ow 92 ak b, .ow 9 ak c, .ow 9 ak d, .ow 59 ak e, .n f, .ow 100 ak g, .ow 53 ak h, .n i, .ow 236 ak j, .ow 3 ak k, .ow 92 ak l],aV [.n m, .n o, .s p, .n q, .sh 3 r]]
def aoO:Fn [.I, .R, .R, .R, .R, .I, .R, .R, .I, .R, .R, .R] dM:=λa b c d e f g h i j k l=>⟨[],[[.n a, .ow 92 ak b, .ow 9 ak c, .ow 9 ak d, .ow 59 ak e, .n f, .ow 100 ak g, .ow 53 ak h, .n i, .ow 236 ak j, .ow 3 ak k, .ow 92 ak l]]⟩
def qL:Fn [.I, .I, .I, .I, .R, .R, .R, .R, .R, .R, .R, .R, .R, .R, .R] Tb:=λa b c d e f g h i j k l m o p=>[cP 0 900000900,cA 12 (.own 1),cA 14 (.own 2),cI 16 a,oB 1800001801 [.n b, .own 900000001, .own 900000002, .own 900000003, .own 900000004, .n c, .own 900000006, .own 900000007, .n d, .own 9, .own 900000010, .own 900000011],oR 3 92 e,oR 5 92 f,oR 1800000003 92 g,oR 1800000005 9 h,oR 1800000007 9 i,oR 1800000009 59 j,oR 1800000013 100 k,oR 1800000015 53 l,oR 19 236 m,oR 1800000021 3 o,oR 1800000023 92 p]
def nX:Fn [.I, .I, .I, .I, .R, .R, .R, .R, .R, .R, .R, .R, .R, .R, .R] Tb:=λa b c d e f g h i j k l m o p=>[cP 0 900000900,cA 12 (.own 1),cA 14 (.own 2),cI 16 a,oB 1800001801 [.n b, .own 900000001, .own 900000002, .own 900000003, .own 900000004, .n c, .own 900000006, .own 900000007, .n d, .own 900000009, .own 900000010, .own 900000011],oR 3 92 e,oR 5 92 f,oR 1800000003 92 g,oR 1800000005 9 h,oR 1800000007 9 i,oR 1800000009 59 j,oR 1800000013 100 k,oR 1800000015 53 l,oR 1800000019 236 m,oR 1800000021 3 o,oR 1800000023 92 p]
def Pp(N:aG)(K:Kt R):=vB.l7 N (J qL (.exit 0) K) (J nX (.exit 0) K)
def KE(N:aG)(K:Kt R):=vB.l7a N (J qL (.exit 0) K) (J nX (.exit 0) K)
def LH(N:aG):It R:=(lp 7 (al qL (λK=>Pp N K N) (al nX (λK=>KE N K N) an)) ln)
theorem Mm(N:aG)(K:Kt R):Wd T6 (LH N) (ca f259 7) 7 K nX (KE N K):=lw (λg=>vB.r7a N (cmp _ qL (g∘fK)) (cmp _ nX (g∘fK)) (J qL (.exit 0) K) (J nX (.exit 0) K)) λm i=>by simp only[dU,wf i];rfl
theorem acV(N:aG)(K:Kt R):Wd T6 (LH N) (ca f259 7) 7 K qL (Pp N K):=lw (λg=>vB.r7 N (cmp _ qL (g∘fK)) (cmp _ nX (g∘fK)) (J qL (.exit 0) K) (J nX (.exit 0) K)) λm i=>by simp only[dU,wf i,wf (Mm N K m)];rfl
theorem V_(N:aG):cB T6 (LH N (R:=R)) (ca f259 7):=lm 7 (ga qL (acV N) (ga nX (Mm N) pr))
def Z5:=eG akU aoO vB.c vB.v
theorem agJ:FO 259 Z5:=fq (E:=T6) (aN agN (aN af4 (aN acn (aN agO (aN Zg (aN agP bh)))))) func259 (it:=λN=>LH N) (λN=>(bz (V_ N) bV)) vB.b vB.vo

def alQ:=mkE T md [(9,sp9),(38,ahH),(258,Z4),(42,ahJ),(23,ahx),(24,ahy),(259,Z5),(260,SX)] [] [] [(0,1, .own 92),(0,2, .own 9),(0,3, .own 9),(0,4, .own 59),(0,6, .own 100),(0,7, .own 53),(0,9, .own 236),(0,10, .own 3),(0,11, .own 92)]
def akD:Fn [.I, .R, .R, .R, .R, .I, .R, .R, .I, .R, .R, .R, .I, .I, .S, .I, .R] As:=λa b c d e f g h i j k l m o p q r=>[.pt [.n a, .ow 92 ak b, .ow 9 ak c, .ow 9 ak d, .ow 59 ak e, .n f, .ow 100 ak g, .ow 53 ak h, .n i, .ow 236 ak j, .ow 3 ak k, .ow 92 ak l],aV [.n m, .n o, .s p, .n q, .sh 3 r]]
def aox:Fn [.I, .I, .R, .R, .R, .R, .I, .R, .R, .I, .R, .R, .R] dM:=λa b c d e f g h i j k l m=>⟨[aI a],[[.n b, .ow 92 ak c, .ow 9 ak d, .ow 9 ak e, .ow 59 ak f, .n g, .ow 100 ak h, .ow 53 ak i, .n j, .ow 236 ak k, .ow 3 ak l, .ow 92 ak m]]⟩
def ZW:=eG akD aox Cj.c Cj.v
theorem agA:FO 231 ZW:=fr (E:=alQ) (aN ok9 (aN apt (aN agI (aN apv (aN apm (aN apn (aN agJ (aN Zf bh)))))))) func231 Cj.b Cj.vo

def alA:=mkE T md [(231,ZW)] [] [] [(0,1, .own 92),(0,2, .own 9),(0,3, .own 9),(0,4, .own 59),(0,6, .own 100),(0,7, .own 53),(0,9, .own 236),(0,10, .own 3),(0,11, .own 92)]
def aka:Fn [.I, .R, .R, .R, .R, .I, .R, .R, .I, .R, .R, .R, .I, .I, .S, .I, .R] As:=λa b c d e f g h i j k l m o p q r=>[.pt [.n a, .ow 92 ak b, .ow 9 ak c, .ow 9 ak d, .ow 59 ak e, .n f, .ow 100 ak g, .ow 53 ak h, .n i, .ow 236 ak j, .ow 3 ak k, .ow 92 ak l],aV [.n m, .n o, .s p, .n q, .sh 3 r]]
def an5:Fn [.I, .R, .R, .R, .R, .I, .R, .R, .I, .R, .R, .R] dM:=λa b c d e f g h i j k l=>⟨[],[[.n a, .ow 92 ak b, .ow 9 ak c, .ow 9 ak d, .ow 59 ak e, .n f, .ow 100 ak g, .ow 53 ak h, .n i, .ow 236 ak j, .ow 3 ak k, .ow 92 ak l]]⟩
def ZJ:=eG aka an5 xO.c xO.v
theorem agk:FO 183 ZJ:=fr (E:=alA) (aN agA bh) func183 xO.b xO.vo

def E94:=en [(182,SF),(103,BN),(184,ZK),(183,ZJ)] [(3,[0,2,3,4,1000000003009236,1000000003010003,1000000003011092])]
def A94:Fn [.R, .I, .I] As:=λa b c=>[.pt [.sh 5 a, .n b, .n c]]
def k94:Fn [.I, .R, .R, .R, .R, .I, .R, .R, .I, .R, .I, .I] dM:=λa b c d e f g h i j k l=>⟨[aV [.n a, .ow 92 ak b, .ow 9 ak c, .ow 9 ak d, .ow 59 ak e, .n f, .ow 100 ak g, .ow 53 ak h, .n i]],[[.sh 5 j, .n k, .n l]]⟩
def KV:Fn [.I, .R, .I, .I, .I, .I, .I, .I, .I, .I, .R, .R, .R, .R, .R, .R, .R, .R, .R] Tb:=λa b c d e f g h i j k l m o p q r s t=>[cP 0 900000900,cP 4 1,cP 6 2,cI 8 a,oB 1800001801 [.sh 5 b, .n c, .n d],oB 3 [.n e, .nl, .nl, .nl, .nl, .n f, .nl, .nl, .n g],oB 5 [.n h, .own 3, .own 4, .own 5, .own 6, .n i, .own 7, .own 8, .n j, .own 9, .own 10, .own 11],oR 7 92 k,oR 9 9 l,oR 11 9 m,oR 13 59 o,oR 15 100 p,oR 17 53 q,oR 19 236 r,oR 21 3 s,oR 23 92 t]
def XJ(N:aG)(K:Kt R):=Ij.l3 N (J KV (.exit 0) K)
def afD(N:aG):It R:=(lp 3 (al KV (λK=>XJ N K N) an) ln)
theorem acf(N:aG):cB E94 (afD N (R:=R)) (ca f94 3):=lq 3 KV (XJ N) λK g=>Ij.r3 N g (J KV (.exit 0) K)
def ahU:=eG A94 k94 Ij.c Ij.v
theorem apG:FO 94 ahU:=fq (E:=E94) (aN Y5 (aN DC (aN agl (aN agk bh)))) func94 (it:=λN=>afD N) (λN=>(bz (acf N) bV)) Ij.b Ij.vo

def E21:=en [(87,acN),(94,ahU)] []
def A21:Fn [.R] As:=λa=>[aH 5 a]
def k21:Fn [.I, .R, .R, .R, .R, .I, .R, .R, .I] dM:=λa b c d e f g h i=>⟨[aV [.n a, .ow 92 ak b, .ow 9 ak c, .ow 9 ak d, .ow 59 ak e, .n f, .ow 100 ak g, .ow 53 ak h, .n i]],[]⟩
def ahw:=eG A21 k21 B5.c B5.v
theorem apl:FO 21 ahw:=fr (E:=E21) (aN ag0 (aN apG bh)) func21 B5.b B5.vo

def E27:=en [(87,acN),(102,Sr),(103,BN)] [(5,[3,4,5])]
def A27:Fn [.R] As:=λa=>[aH 5 a]
def k27:Fn [.R] dM:=λa=>⟨[aO 3 a],[]⟩
def KM:Fn [.I, .R, .I, .I, .R] Tb:=λa b c d e=>[cP 6 0,cA 8 (.own 1),cI 10 a,oB 1 [.sh 5 b, .n c, .n d],oR 3 3 e]
def Xu(N:aG)(K:Kt R):=N4.l5 N (J KM (.exit 0) K)
def afx(N:aG):It R:=(lp 5 (al KM (λK=>Xu N K N) an) ln)
theorem ab1(N:aG):cB E27 (afx N (R:=R)) (ca f27 5):=lq 5 KM (Xu N) λK g=>N4.r5 N g (J KM (.exit 0) K)
def ahD:=eG A27 k27 N4.c N4.v
theorem apo:FO 27 ahD:=fq (E:=E27) (aN ag0 (aN YR (aN DC bh))) func27 (it:=λN=>afx N) (λN=>(bz (ab1 N) bV)) N4.b N4.vo

def alp:=en [] []
def ajV:Fn [.R] As:=λa=>[aH 92 a]
def anP:Fn [.R] dM:=λa=>⟨[aO 92 a],[]⟩
def Sz:=eG ajV anP vt.c vt.v
theorem YY:FO 154 Sz:=fr (E:=alp) bh func154 vt.b vt.vo

def alL:=en [] []
def akw:Fn [.R] As:=λa=>[aH 9 a]
def aoq:Fn [.R] dM:=λa=>⟨[aO 9 a],[]⟩
def SP:=eG akw aoq sb.c sb.v
theorem Zb:FO 217 SP:=fr (E:=alL) bh func217 sb.b sb.vo

def alN:=en [] []
def akA:Fn [.R] As:=λa=>[aH 3 a]
def aou:Fn [.R] dM:=λa=>⟨[aO 3 a],[]⟩
def ZU:=eG akA aou uM.c uM.v
theorem agx:FO 223 ZU:=fr (E:=alN) bh func223 uM.b uM.vo

def T4:=en [(223,ZU)] [(3,[2,3,10,11,12])]
def aj7:Fn [.R, .I] As:=λa b=>[aV [.sh 59 a, .n b]]
def an1:Fn [.R, .I] dM:=λa b=>⟨[aV [.ow 59 ak a, .n b]],[]⟩
def qJ:Fn [.R, .I, .I, .I, .I] Tb:=λa b c d e=>[cP 4 0,cP 6 1,cH 20 59 a,cI 22 b,cI 24 c,oB 1 [.nl, .n d],oB 3 [.nl, .n e]]
def nV:Fn [.R, .I, .I, .I, .I, .R] Tb:=λa b c d e f=>[cP 4 0,cP 6 1,cH 20 59 a,cI 22 b,cI 24 c,oB 1 [.nl, .n d],oB 3 [.own 2, .n e],oR 5 59 f]
def OV(N:aG)(K:Kt R):=iV.l3 N (J qJ (.exit 0) K) (J nV (.exit 0) K)
def KB(N:aG)(K:Kt R):=iV.tW N (J qJ (.exit 0) K) (J nV (.exit 0) K)
def LF(N:aG):It R:=(lp 3 (al qJ (λK=>OV N K N) (al nV (λK=>KB N K N) an)) ln)
theorem Mk(N:aG)(K:Kt R):Wd T4 (LF N) (ca f168 3) 3 K nV (KB N K):=lw (λg=>iV.z7 N (cmp _ qJ (g∘fK)) (cmp _ nV (g∘fK)) (J qJ (.exit 0) K) (J nV (.exit 0) K)) λm i=>by simp only[dU,wf i];rfl
theorem acT(N:aG)(K:Kt R):Wd T4 (LF N) (ca f168 3) 3 K qJ (OV N K):=lw (λg=>iV.r3 N (cmp _ qJ (g∘fK)) (cmp _ nV (g∘fK)) (J qJ (.exit 0) K) (J nV (.exit 0) K)) λm i=>by simp only[dU,wf i,wf (Mk N K m)];rfl
theorem VJ(N:aG):cB T4 (LF N (R:=R)) (ca f168 3):=lm 3 (ga qJ (acT N) (ga nV (Mk N) pr))
def SD:=eG aj7 an1 iV.c iV.v
theorem Y3:FO 168 SD:=fq (E:=T4) (aN agx bh) func168 (it:=λN=>LF N) (λN=>(bz (VJ N) bV)) iV.b iV.vo

def alq:=en [(217,SP),(168,SD)] []
def ajW:Fn [.R, .R, .R, .I] As:=λa b c d=>[aV [.sh 9 a, .sh 9 b, .sh 59 c, .n d]]
def anQ:Fn [.R, .R, .R, .I] dM:=λa b c d=>⟨[aV [.ow 9 ak a, .ow 9 ak b, .ow 59 ak c, .n d]],[]⟩
def L_:=eG ajW anQ i9.c i9.v
theorem Rt:FO 155 L_:=fr (E:=alq) (aN Zb (aN Y3 bh)) func155 i9.b i9.vo

def E62:=en [(154,Sz),(155,L_)] []
def A62:Fn [.I, .R, .R, .R, .R, .I, .R, .R, .I] As:=λa b c d e f g h i=>[aV [.n a, .sh 92 b, .sh 9 c, .sh 9 d, .sh 59 e, .n f, .sh 100 g, .sh 53 h, .n i]]
def k62:Fn [.I, .R, .R, .R, .R, .I, .R, .R, .I] dM:=λa b c d e f g h i=>⟨[aV [.n a, .ow 92 ak b, .ow 9 ak c, .ow 9 ak d, .ow 59 ak e, .n f, .ow 100 ak g, .ow 53 ak h, .n i]],[]⟩
def NU:=eG A62 k62 uO.c uO.v
theorem RD:FO 62 NU:=fr (E:=E62) (aN YY (aN Rt bh)) func62 uO.b uO.vo

def alr:=en [] []
def ajX:Fn [.I, .S, .I, .I, .I, .S, .I, .I] As:=λa b c d e f g h=>[aV [.n a, .s b, .n c, .n d, .n e, .s f, .n g], .fb [.n h]]
def anR:Fn [.B] dM:=λa=>⟨[aB a],[]⟩
def ZD:=eG ajX anR (ct _) II.v
theorem agc:FO 157 ZD:=ft (E:=alr) bh func157 II.b λ(a0,a1,a2,a3,a4,a5,a6,a7,_)=>II.fI _ a0 a1 a2 a3 a4 a5 a6 a7

def Xl:=en [(157,ZD)] [(2,[0,1,4,7,8])]
def adI:Fn [.R, .I] As:=λa b=>[aH 53 a, .v aq [.fn 157 [[.n b]]]]
def afH:Fn [.I] dM:=λa=>⟨[aI a],[]⟩
def sZ:Fn [.R, .I, .I, .I, .I] Tb:=λa b c d e=>[cH 0 53 a,cA 2 (.fn 157 [[.n b]]),cI 8 c,cI 14 d,cI 16 e]
def Kz(N:aG)(K:Kt R):=qc.l2 N (J sZ .ret K) (J sZ (.exit 0) K)
def QU(N:aG):It R:=(lp 2 (al sZ (λK=>Kz N K N) an) ln)
theorem Q_(N:aG):cB Xl (QU N (R:=R)) (ca f156 2):=lq 2 sZ (Kz N) λK g=>qc.r2 N g (J sZ .ret K) (J sZ (.exit 0) K)
def Kb:=eG adI afH qc.c qc.v
theorem Ru:FO 156 Kb:=fq (E:=Xl) (aN agc bh) func156 (it:=λN=>QU N) (λN=>(bz (Q_ N) bV)) qc.b qc.vo

def E93:=en [] []
def A93:Fn [.I, .S, .I, .I, .I, .S, .I, .I] As:=λa b c d e f g h=>[aV [.n a, .s b, .n c, .n d, .n e, .s f, .n g], .fb [.n h]]
def k93:Fn [.B] dM:=λa=>⟨[aB a],[]⟩
def acO:=eG A93 k93 (ct _) N7.v
theorem ag1:FO 93 acO:=ft (E:=E93) bh func93 N7.b λ(a0,a1,a2,a3,a4,a5,a6,a7,_)=>N7.fI _ a0 a1 a2 a3 a4 a5 a6 a7

def Xm:=en [(93,acO)] [(2,[0,1,4,7,8])]
def adJ:Fn [.R, .I] As:=λa b=>[aH 53 a, .v aq [.fn 93 [[.n b]]]]
def afI:Fn [.I] dM:=λa=>⟨[aI a],[]⟩
def s5:Fn [.R, .I, .I, .I, .I] Tb:=λa b c d e=>[cH 0 53 a,cA 2 (.fn 93 [[.n b]]),cI 8 c,cI 14 d,cI 16 e]
def KA(N:aG)(K:Kt R):=mH.l2 N (J s5 .ret K) (J s5 (.exit 0) K)
def QV(N:aG):It R:=(lp 2 (al s5 (λK=>KA N K N) an) ln)
theorem Ra(N:aG):cB Xm (QV N (R:=R)) (ca f156 2):=lq 2 s5 (KA N) λK g=>mH.r2 N g (J s5 .ret K) (J s5 (.exit 0) K)
def Kc:=eG adJ afI mH.c mH.v
theorem Rv:FO 156 Kc:=fq (E:=Xm) (aN ag1 bh) func156 (it:=λN=>QV N) (λN=>(bz (Ra N) bV)) mH.b mH.vo

def E92:=en [(156,Kb),(156,Kc),(93,acO)] [(5,[0,1,5,6])]
def A92:Fn [.R, .I] As:=λa b=>[aO 53 a, .v aq [.fn 93 [[.n b]]]]
def k92:Fn [.R] dM:=λa=>⟨[aO 53 a],[[.nl]]⟩
def KU:Fn [.I, .I, .I, .R] Tb:=λa b c d=>[cA 0 (.own 900000000),cA 2 (.fn 93 [[.n a]]),cI 10 b,cI 12 c,oR 1800000001 53 d]
def XI(N:aG)(K:Kt R):=KZ.l5 N (J KU (.exit 0) K)
def afC(N:aG):It R:=(lp 5 (al KU (λK=>XI N K N) an) ln)
theorem ace(N:aG):cB E92 (afC N (R:=R)) (ca f92 5):=lq 5 KU (XI N) λK g=>KZ.r5 N g (J KU (.exit 0) K)
def ahT:=eG A92 k92 KZ.c KZ.v
theorem apF:FO 92 ahT:=fq (E:=E92) (aN Ru (aN Rv (aN ag1 bh))) func92 (it:=λN=>afC N) (λN=>(bz (ace N) bV)) KZ.b KZ.vo

def E19:=en [(62,NU),(92,ahT)] []
def A19:Fn [.I, .R, .R, .R, .R, .I, .R, .R, .I, .I] As:=λa b c d e f g h i j=>[aV [.n a, .sh 92 b, .sh 9 c, .sh 9 d, .sh 59 e, .n f, .sh 100 g, .sh 53 h, .n i],aI j]
def k19:Fn [.I, .R, .R, .R, .R, .I, .R, .R, .I] dM:=λa b c d e f g h i=>⟨[aV [.n a, .ow 92 ak b, .ow 9 ak c, .ow 9 ak d, .ow 59 ak e, .n f, .ow 100 ak g, .ow 53 ak h, .n i]],[]⟩
def ahq:=eG A19 k19 FY.c FY.v
theorem apj:FO 19 ahq:=fr (E:=E19) (aN RD (aN apF bh)) func19 FY.b FY.vo

def E63:=en [] []
def A63:Fn [.I, .I, .I] As:=λa b c=>[aI a,aI b,aI c]
def k63:Fn [.B] dM:=λa=>⟨[aB a],[]⟩
def sO:=eG A63 k63 (ct _) oe.v
theorem yp:FO 63 sO:=ft (E:=E63) bh func63 oe.b λ(a0,a1,a2,_)=>oe.fI _ a0 a1 a2

def E64:=en [(63,sO)] []
def A64:Fn [.S] As:=λa=>[aS a]
def k64:Fn [.B] dM:=λa=>⟨[aB a],[]⟩
def Kf:=eG A64 k64 (ct _) MG.v
theorem Nt:FO 64 Kf:=ft (E:=E64) (aN yp bh) func64 MG.b λ(a0,_)=>MG.fI _ a0

def ala:=en [(63,sO)] []
def ajt:Fn [.I] As:=λa=>[aI a]
def ank:Fn [.B] dM:=λa=>⟨[aB a],[]⟩
def L3:=eG ajt ank (ct _) Ax.v
theorem Rm:FO 100 L3:=ft (E:=ala) (aN yp bh) func100 Ax.b λ(a0,_)=>Ax.fI _ a0

def als:=en [(64,Kf),(100,L3),(63,sO)] []
def ajY:Fn [.S, .I, .I, .S] As:=λa b c d=>[aV [.s a, .n b, .n c, .s d]]
def anS:Fn [.B] dM:=λa=>⟨[aB a],[]⟩
def Ma:=eG ajY anS (ct _) Ay.v
theorem YZ:FO 158 Ma:=ft (E:=als) (aN Nt (aN Rm (aN yp bh))) func158 Ay.b λ(a0,a1,a2,a3,_)=>Ay.fI _ a0 a1 a2 a3

def alX:=en [] []
def akW:Fn [.I] As:=λa=>[.v aq [.nl],aI a]
def aoQ:Fn [.R] dM:=λa=>⟨[aO 9 a],[]⟩
def Z6:=eG akW aoQ Cn.c Cn.v
theorem agK:FO 261 Z6:=fr (E:=alX) bh func261 Cn.b Cn.vo

def aas:=en [(261,Z6)] [(3,[0,3,9,10,11]),(11,[6,25,26,27])]
def akE:Fn [.R] As:=λa=>[aH 23 a]
def aoy:Fn [.R] dM:=λa=>⟨[aO 9 a],[]⟩
def Ei:Fn [.R, .I, .R, .I, .I] Tb:=λa b c d e=>[cH 0 23 a,cI 6 b,cH 18 23 c,cI 20 d,cI 22 e]
def zG:Fn [.R, .I, .I, .R] Tb:=λa b c d=>[cA 12 (.own 0),cH 50 23 a,cI 52 b,cI 54 c,oR 1 9 d]
def Pb(N:aG)(K:Kt R):=vv.l3 N (J Ei (.exit 0) K)
def KC(N:aG)(K:Kt R):=vv.Fc N (J zG (.exit 2) K)
def QY(N:aG):It R:=(lp 3 (al Ei (λK=>Pb N K N) an) (lp 11 (al zG (λK=>KC N K N) an) ln))
theorem VW(N:aG):cB aas (QY N (R:=R)) (ca f233 3):=lq 3 Ei (Pb N) λK g=>vv.r3 N g (J Ei (.exit 0) K)
theorem Rb(N:aG):cB aas (QY N (R:=R)) (ca f233 11):=lq 11 zG (KC N) λK g=>vv.z5 N g (J zG (.exit 2) K)
def ZX:=eG akE aoy vv.c vv.v
theorem agB:FO 233 ZX:=fq (E:=aas) (aN agK bh) func233 (it:=λN=>QY N) (λN=>(bz (VW N) (bz (Rb N) bV))) vv.b vv.vo

def alC:=en [(233,ZX)] []
def akd:Fn [.R, .R, .R, .I] As:=λa b c d=>[aV [.sh 9 a, .sh 9 b, .sh 59 c, .n d]]
def an8:Fn [.R] dM:=λa=>⟨[aO 9 a],[]⟩
def Md:=eG akd an8 qf.c qf.v
theorem Ry:FO 188 Md:=fr (E:=alC) (aN agB bh) func188 qf.b qf.vo

def ad9:=en [] [(2,[0,1,4,7,8])]
def akx:Fn [.R, .S] As:=λa b=>[aH 9 a,aS b]
def aor:Fn [.I] dM:=λa=>⟨[aI a],[]⟩
def xG:Fn [.R, .S, .I, .I, .I] Tb:=λa b c d e=>[cH 0 9 a,cA 2 (.s b),cI 8 c,cI 14 d,cI 16 e]
def O9(N:aG)(K:Kt R):=zm.l2 N (J xG .ret K) (J xG (.exit 0) K)
def YB(N:aG):It R:=(lp 2 (al xG (λK=>O9 N K N) an) ln)
theorem VU(N:aG):cB ad9 (YB N (R:=R)) (ca f218 2):=lq 2 xG (O9 N) λK g=>zm.r2 N g (J xG .ret K) (J xG (.exit 0) K)
def ZS:=eG akx aor zm.c zm.v
theorem agv:FO 218 ZS:=fq (E:=ad9) bh func218 (it:=λN=>YB N) (λN=>(bz (VU N) bV)) zm.b zm.vo

def alu:=en [(218,ZS)] []
def aj0:Fn [.R, .S] As:=λa b=>[aH 9 a,aS b]
def anU:Fn [.B] dM:=λa=>⟨[aB a],[]⟩
def Mb:=eG aj0 anU rM.c rM.v
theorem Rw:FO 160 Mb:=fr (E:=alu) (aN agv bh) func160 rM.b rM.vo

def alB:=en [(188,Md),(160,Mb)] []
def akc:Fn [.R, .R, .R, .I, .S] As:=λa b c d e=>[aV [.sh 9 a, .sh 9 b, .sh 59 c, .n d],aS e]
def an7:Fn [.B] dM:=λa=>⟨[aB a],[]⟩
def SG:=eG akc an7 uK.c uK.v
theorem Y6:FO 187 SG:=fr (E:=alB) (aN Ry (aN Rw bh)) func187 uK.b uK.vo

def aaq:=en [(63,sO)] [(2,[1,2,8,9,10]),(5,[1,2,4,8,9,10,14,15,16])]
def aj8:Fn [.R, .I] As:=λa b=>[aV [.sh 59 a, .n b]]
def an2:Fn [.B] dM:=λa=>⟨[aB a],[]⟩
def xB:Fn [.B, .R, .I, .I, .R, .I] Tb:=λa b c d e f=>[cP 2 0,cA 4 (.b a),cH 16 59 b,cI 18 c,cI 20 d,oB 1 [.sh 59 e, .n f]]
def xC:Fn [.B, .R, .R, .I, .I, .R, .I, .I, .R, .I] Tb:=λa b c d e f g h i j=>[cP 2 0,cA 4 (.b a),cH 8 3 b,cH 16 59 c,cI 18 d,cI 20 e,cH 28 3 f,cI 30 g,cI 32 h,oB 1 [.sh 59 i, .n j]]
def OX(N:aG)(K:Kt R):=o8.l2 N (J xB .ret K) (J xB (.exit 0) K)
def OY(N:aG)(K:Kt R):=o8.l5 N (J xC .ret K) (J xC (.exit 2) K)
def QW(N:aG):It R:=(lp 2 (al xB (λK=>OX N K N) an) (lp 5 (al xC (λK=>OY N K N) an) ln))
theorem VK(N:aG):cB aaq (QW N (R:=R)) (ca f169 2):=lq 2 xB (OX N) λK g=>o8.r2 N g (J xB .ret K) (J xB (.exit 0) K)
theorem VL(N:aG):cB aaq (QW N (R:=R)) (ca f169 5):=lq 5 xC (OY N) λK g=>o8.r5 N g (J xC .ret K) (J xC (.exit 2) K)
def Mc:=eG aj8 an2 o8.c o8.v
theorem Rx:FO 169 Mc:=fq (E:=aaq) (aN yp bh) func169 (it:=λN=>QW N) (λN=>(bz (VK N) (bz (VL N) bV))) o8.b o8.vo

def adZ:=en [(188,Md),(64,Kf),(160,Mb),(169,Mc)] [(3,[1,2,3,8,9,10])]
def ajZ:Fn [.R, .R, .R, .I] As:=λa b c d=>[aV [.sh 9 a, .sh 9 b, .sh 59 c, .n d]]
def anT:Fn [.B] dM:=λa=>⟨[aB a],[]⟩
def w_:Fn [.B, .I, .I, .R, .R, .R, .I, .R] Tb:=λa b c d e f g h=>[cP 2 0,cA 4 (.b a),cA 6 (.own 1),cA 16 (.own 1),cI 18 b,cI 20 c,oB 1 [.sh 9 d, .sh 9 e, .sh 59 f, .n g],oR 3 9 h]
def OR(N:aG)(K:Kt R):=oF.l3 N (J w_ .ret K) (J w_ (.exit 0) K)
def Yr(N:aG):It R:=(lp 3 (al w_ (λK=>OR N K N) an) ln)
theorem VF(N:aG):cB adZ (Yr N (R:=R)) (ca f159 3):=lq 3 w_ (OR N) λK g=>oF.r3 N g (J w_ .ret K) (J w_ (.exit 0) K)
def SA:=eG ajZ anT oF.c oF.v
theorem Y0:FO 159 SA:=fq (E:=adZ) (aN Ry (aN Nt (aN Rw (aN Rx bh)))) func159 (it:=λN=>Yr N) (λN=>(bz (VF N) bV)) oF.b oF.vo

def E97:=en [(158,Ma),(187,SG),(159,SA),(188,Md)] [(2,[1,2,6,7,8])]
def A97:Fn [.I, .R, .R, .R, .R, .I, .R, .R, .I] As:=λa b c d e f g h i=>[aV [.n a, .sh 92 b, .sh 9 c, .sh 9 d, .sh 59 e, .n f, .sh 100 g, .sh 53 h, .n i]]
def k97:Fn [.B] dM:=λa=>⟨[aB a],[]⟩
def C_:Fn [.B, .R, .I, .I, .I, .R, .R, .R, .R, .I, .R, .R, .I] Tb:=λa b c d e f g h i j k l m=>[cP 2 0,cA 4 (.b a),cH 12 92 b,cI 14 c,cI 16 d,oB 1 [.n e, .sh 92 f, .sh 9 g, .sh 9 h, .sh 59 i, .n j, .sh 100 k, .sh 53 l, .n m]]
def XK(N:aG)(K:Kt R):=N8.l2 N (J C_ .ret K) (J C_ (.exit 0) K)
def afE(N:aG):It R:=(lp 2 (al C_ (λK=>XK N K N) an) ln)
theorem acg(N:aG):cB E97 (afE N (R:=R)) (ca f97 2):=lq 2 C_ (XK N) λK g=>N8.r2 N g (J C_ .ret K) (J C_ (.exit 0) K)
def ahV:=eG A97 k97 N8.c N8.v
theorem apH:FO 97 ahV:=fq (E:=E97) (aN YZ (aN Y6 (aN Y0 (aN Ry bh)))) func97 (it:=λN=>afE N) (λN=>(bz (acg N) bV)) N8.b N8.vo

def alw:=en [] []
def aj4:Fn [.S, .S, .I, .I, .I, .S] As:=λa b c d e f=>[aV [.s a, .s b, .n c, .n d, .n e], .fb [.s f]]
def anY:Fn [.B] dM:=λa=>⟨[aB a],[]⟩
def ZH:=eG aj4 anY (ct _) Gu.v
theorem agi:FO 165 ZH:=ft (E:=alw) bh func165 Gu.b λ(a0,a1,a2,a3,a4,a5,_)=>Gu.fI _ a0 a1 a2 a3 a4 a5

def ad1:=en [(165,ZH)] [(2,[0,1,4,7,8])]
def aj3:Fn [.R, .S] As:=λa b=>[aH 100 a, .v aq [.fn 165 [[.s b]]]]
def anX:Fn [.I] dM:=λa=>⟨[aI a],[]⟩
def xA:Fn [.R, .S, .I, .I, .I] Tb:=λa b c d e=>[cH 0 100 a,cA 2 (.fn 165 [[.s b]]),cI 8 c,cI 14 d,cI 16 e]
def OT(N:aG)(K:Kt R):=qd.l2 N (J xA .ret K) (J xA (.exit 0) K)
def Yt(N:aG):It R:=(lp 2 (al xA (λK=>OT N K N) an) ln)
theorem VH(N:aG):cB ad1 (Yt N (R:=R)) (ca f164 2):=lq 2 xA (OT N) λK g=>qd.r2 N g (J xA .ret K) (J xA (.exit 0) K)
def ZG:=eG aj3 anX qd.c qd.v
theorem agh:FO 164 ZG:=fq (E:=ad1) (aN agi bh) func164 (it:=λN=>Yt N) (λN=>(bz (VH N) bV)) qd.b qd.vo

def E71:=en [(164,ZG)] []
def A71:Fn [.I, .R, .R, .R, .R, .I, .R, .R, .I, .S] As:=λa b c d e f g h i j=>[aV [.n a, .sh 92 b, .sh 9 c, .sh 9 d, .sh 59 e, .n f, .sh 100 g, .sh 53 h, .n i],aS j]
def k71:Fn [.I] dM:=λa=>⟨[aI a],[]⟩
def acL:=eG A71 k71 IQ.c IQ.v
theorem agY:FO 71 acL:=fr (E:=E71) (aN agh bh) func71 IQ.b IQ.vo

def adR:=en [(71,acL)] [(2,[1,2,6,7,8])]
def ajD:Fn [.I, .R, .R, .R, .R, .I, .R, .R, .I] As:=λa b c d e f g h i=>[aV [.n a, .sh 92 b, .sh 9 c, .sh 9 d, .sh 59 e, .n f, .sh 100 g, .sh 53 h, .n i]]
def anw:Fn [.B] dM:=λa=>⟨[aB a],[]⟩
def wW:Fn [.B, .R, .I, .I, .I, .R, .R, .R, .R, .I, .R, .R, .I] Tb:=λa b c d e f g h i j k l m=>[cP 2 0,cA 4 (.b a),cH 12 100 b,cI 14 c,cI 16 d,oB 1 [.n e, .sh 92 f, .sh 9 g, .sh 9 h, .sh 59 i, .n j, .sh 100 k, .sh 53 l, .n m]]
def OE(N:aG)(K:Kt R):=vq.l2 N (J wW .ret K) (J wW (.exit 0) K)
def Yj(N:aG):It R:=(lp 2 (al wW (λK=>OE N K N) an) ln)
theorem Vu(N:aG):cB adR (Yj N (R:=R)) (ca f120 2):=lq 2 wW (OE N) λK g=>vq.r2 N g (J wW .ret K) (J wW (.exit 0) K)
def Zw:=eG ajD anw vq.c vq.v
theorem af5:FO 120 Zw:=fq (E:=adR) (aN agY bh) func120 (it:=λN=>Yj N) (λN=>(bz (Vu N) bV)) vq.b vq.vo

def E98:=en [(64,Kf),(63,sO),(120,Zw)] [(2,[1,2,6,7,8])]
def A98:Fn [.I, .R, .R, .R, .R, .I, .R, .R, .I] As:=λa b c d e f g h i=>[aV [.n a, .sh 92 b, .sh 9 c, .sh 9 d, .sh 59 e, .n f, .sh 100 g, .sh 53 h, .n i]]
def k98:Fn [.B] dM:=λa=>⟨[aB a],[]⟩
def Da:Fn [.B, .R, .I, .I, .I, .R, .R, .R, .R, .I, .R, .R, .I] Tb:=λa b c d e f g h i j k l m=>[cP 2 0,cA 4 (.b a),cH 12 100 b,cI 14 c,cI 16 d,oB 1 [.n e, .sh 92 f, .sh 9 g, .sh 9 h, .sh 59 i, .n j, .sh 100 k, .sh 53 l, .n m]]
def XL(N:aG)(K:Kt R):=MI.l2 N (J Da .ret K) (J Da (.exit 0) K)
def afF(N:aG):It R:=(lp 2 (al Da (λK=>XL N K N) an) ln)
theorem ach(N:aG):cB E98 (afF N (R:=R)) (ca f98 2):=lq 2 Da (XL N) λK g=>MI.r2 N g (J Da .ret K) (J Da (.exit 0) K)
def ahW:=eG A98 k98 MI.c MI.v
theorem apI:FO 98 ahW:=fq (E:=E98) (aN Nt (aN yp (aN af5 bh))) func98 (it:=λN=>afF N) (λN=>(bz (ach N) bV)) MI.b MI.vo

def E99:=en [(63,sO),(64,Kf)] [(2,[1,2,6,7,8])]
def A99:Fn [.I, .R, .R, .R, .R, .I, .R, .R, .I] As:=λa b c d e f g h i=>[aV [.n a, .sh 92 b, .sh 9 c, .sh 9 d, .sh 59 e, .n f, .sh 100 g, .sh 53 h, .n i]]
def k99:Fn [.B] dM:=λa=>⟨[aB a],[]⟩
def Db:Fn [.B, .R, .I, .I, .I, .R, .R, .R, .R, .I, .R, .R, .I] Tb:=λa b c d e f g h i j k l m=>[cP 2 0,cA 4 (.b a),cH 12 53 b,cI 14 c,cI 16 d,oB 1 [.n e, .sh 92 f, .sh 9 g, .sh 9 h, .sh 59 i, .n j, .sh 100 k, .sh 53 l, .n m]]
def XM(N:aG)(K:Kt R):=N9.l2 N (J Db .ret K) (J Db (.exit 0) K)
def afG(N:aG):It R:=(lp 2 (al Db (λK=>XM N K N) an) ln)
theorem aci(N:aG):cB E99 (afG N (R:=R)) (ca f99 2):=lq 2 Db (XM N) λK g=>N9.r2 N g (J Db .ret K) (J Db (.exit 0) K)
def ahX:=eG A99 k99 N9.c N9.v
theorem apJ:FO 99 ahX:=fq (E:=E99) (aN yp (aN Nt bh)) func99 (it:=λN=>afG N) (λN=>(bz (aci N) bV)) N9.b N9.vo

def E25:=en [(63,sO),(97,ahV),(98,ahW),(99,ahX),(100,L3)] []
def A25:Fn [.I, .R, .R, .R, .R, .I, .R, .R, .I] As:=λa b c d e f g h i=>[aV [.n a, .sh 92 b, .sh 9 c, .sh 9 d, .sh 59 e, .n f, .sh 100 g, .sh 53 h, .n i]]
def k25:Fn [.B] dM:=λa=>⟨[aB a],[]⟩
def WV:=eG A25 k25 ED.c ED.v
theorem acm:FO 25 WV:=fr (E:=E25) (aN yp (aN apH (aN apI (aN apJ (aN Rm bh))))) func25 ED.b ED.vo

def E65:=en [(156,Kb),(156,Kc)] []
def A65:Fn [.I, .R, .R, .R, .R, .I, .R, .R, .I, .I] As:=λa b c d e f g h i j=>[aV [.n a, .sh 92 b, .sh 9 c, .sh 9 d, .sh 59 e, .n f, .sh 100 g, .sh 53 h, .n i],aI j]
def k65:Fn [.I] dM:=λa=>⟨[aI a],[]⟩
def ahN:=eG A65 k65 TM.c TM.v
theorem apz:FO 65 ahN:=fr (E:=E65) (aN Ru (aN Rv bh)) func65 TM.b TM.vo

def E67:=en [] []
def A67:Fn [.S, .I, .I, .S, .S] As:=λa b c d e=>[aV [.s a, .n b, .n c, .s d], .fb [.s e]]
def k67:Fn [.B] dM:=λa=>⟨[aB a],[]⟩
def ahO:=eG A67 k67 (ct _) U67.v
theorem apA:FO 67 ahO:=ft (E:=E67) bh func67 U67.b λ(a0,a1,a2,a3,a4,_)=>U67.fI _ a0 a1 a2 a3 a4

def aeh:=en [(67,ahO)] [(2,[0,1,4,7,8])]
def ak8:Fn [.R, .S] As:=λa b=>[aH 92 a, .v aq [.fn 67 [[.s b]]]]
def ao2:Fn [.I] dM:=λa=>⟨[aI a],[]⟩
def xK:Fn [.R, .S, .I, .I, .I] Tb:=λa b c d e=>[cH 0 92 a,cA 2 (.fn 67 [[.s b]]),cI 8 c,cI 14 d,cI 16 e]
def PD(N:aG)(K:Kt R):=vE.l2 N (J xK .ret K) (J xK (.exit 0) K)
def YK(N:aG):It R:=(lp 2 (al xK (λK=>PD N K N) an) ln)
theorem Wl(N:aG):cB aeh (YK N (R:=R)) (ca f66 2):=lq 2 xK (PD N) λK g=>vE.r2 N g (J xK .ret K) (J xK (.exit 0) K)
def SZ:=eG ak8 ao2 vE.c vE.v
theorem Zh:FO 66 SZ:=fq (E:=aeh) (aN apA bh) func66 (it:=λN=>YK N) (λN=>(bz (Wl N) bV)) vE.b vE.vo

def alx:=en [] []
def aj6:Fn [.S, .I, .I, .S, .S] As:=λa b c d e=>[aV [.s a, .n b, .n c, .s d], .fb [.s e]]
def an0:Fn [.B] dM:=λa=>⟨[aB a],[]⟩
def SC:=eG aj6 an0 (ct _) zk.v
theorem Y2:FO 167 SC:=ft (E:=alx) bh func167 zk.b λ(a0,a1,a2,a3,a4,_)=>zk.fI _ a0 a1 a2 a3 a4

def aei:=en [(167,SC)] [(2,[0,1,4,7,8])]
def ak9:Fn [.R, .S] As:=λa b=>[aH 92 a, .v aq [.fn 167 [[.s b]]]]
def ao3:Fn [.I] dM:=λa=>⟨[aI a],[]⟩
def xL:Fn [.R, .S, .I, .I, .I] Tb:=λa b c d e=>[cH 0 92 a,cA 2 (.fn 167 [[.s b]]),cI 8 c,cI 14 d,cI 16 e]
def PE(N:aG)(K:Kt R):=rP.l2 N (J xL .ret K) (J xL (.exit 0) K)
def YL(N:aG):It R:=(lp 2 (al xL (λK=>PE N K N) an) ln)
theorem Wm(N:aG):cB aei (YL N (R:=R)) (ca f66 2):=lq 2 xL (PE N) λK g=>rP.r2 N g (J xL .ret K) (J xL (.exit 0) K)
def S0:=eG ak9 ao3 rP.c rP.v
theorem Zi:FO 66 S0:=fq (E:=aei) (aN Y2 bh) func66 (it:=λN=>YL N) (λN=>(bz (Wm N) bV)) rP.b rP.vo

def alG:=en [] []
def akq:Fn [.S, .I, .I, .S, .I, .S, .I, .I, .I, .S, .I] As:=λa b c d e f g h i j k=>[aV [.s a, .n b, .n c, .s d], .fb [.n e, .s f, .n g, .n h, .n i, .s j, .n k]]
def aok:Fn [.B] dM:=λa=>⟨[aB a],[]⟩
def ZP:=eG akq aok (ct _) PS.v
theorem ags:FO 206 ZP:=ft (E:=alG) bh func206 PS.b λ(a0,a1,a2,a3,a4,a5,a6,a7,a8,a9,a10,_)=>PS.fI _ a0 a1 a2 a3 a4 a5 a6 a7 a8 a9 a10

def aej:=en [(206,ZP)] [(2,[0,1,4,7,8])]
def ak_:Fn [.R, .I, .S, .I, .I, .I, .S, .I] As:=λa b c d e f g h=>[aH 92 a, .v aq [.fn 206 [[.n b, .s c, .n d, .n e, .n f, .s g, .n h]]]]
def ao4:Fn [.I] dM:=λa=>⟨[aI a],[]⟩
def xM:Fn [.R, .I, .S, .I, .I, .I, .S, .I, .I, .I, .I] Tb:=λa b c d e f g h i j k=>[cH 0 92 a,cA 2 (.fn 206 [[.n b, .s c, .n d, .n e, .n f, .s g, .n h]]),cI 8 i,cI 14 j,cI 16 k]
def PF(N:aG)(K:Kt R):=IM.l2 N (J xM .ret K) (J xM (.exit 0) K)
def YM(N:aG):It R:=(lp 2 (al xM (λK=>PF N K N) an) ln)
theorem Wn(N:aG):cB aej (YM N (R:=R)) (ca f66 2):=lq 2 xM (PF N) λK g=>IM.r2 N g (J xM .ret K) (J xM (.exit 0) K)
def S7:=eG ak_ ao4 IM.c IM.v
theorem Zj:FO 66 S7:=fq (E:=aej) (aN ags bh) func66 (it:=λN=>YM N) (λN=>(bz (Wn N) bV)) IM.b IM.vo

def E68:=en [(158,Ma),(100,L3),(63,sO)] []
def A68:Fn [.S, .I, .I, .S, .I] As:=λa b c d e=>[aV [.s a, .n b, .n c, .s d],aI e]
def k68:Fn [.B] dM:=λa=>⟨[aB a],[]⟩
def ahP:=eG A68 k68 (ct _) IP.v
theorem apB:FO 68 ahP:=ft (E:=E68) (aN YZ (aN Rm (aN yp bh))) func68 IP.b λ(a0,a1,a2,a3,a4,_)=>IP.fI _ a0 a1 a2 a3 a4

def aau:=en [] [(2,[0,1,5]),(6,[0,1,5,19])]
def akR:Fn [.I, .S] As:=λa b=>[.v aq [.i .u32 a],aS b]
def aoL:Fn [.I] dM:=λa=>⟨[.v aq [.i .u32 a]],[]⟩
def El:Fn [.I, .S, .I] Tb:=λa b c=>[cA 0 (.i .u32 a),cA 2 (.s b),cI 10 c]
def Em:Fn [.I, .S, .I, .I] Tb:=λa b c d=>[cA 0 (.i .u32 a),cA 2 (.s b),cI 10 c,cI 38 d]
def Pm(N:aG)(K:Kt R):=vA.l2 N (J El (.exit 0) K)
def Pn(N:aG)(K:Kt R):=vA.l6 N (J Em (.exit 2) K)
def Q0(N:aG):It R:=(lp 2 (al El (λK=>Pm N K N) an) (lp 6 (al Em (λK=>Pn N K N) an) ln))
theorem V7(N:aG):cB aau (Q0 N (R:=R)) (ca f253 2):=lq 2 El (Pm N) λK g=>vA.r2 N g (J El (.exit 0) K)
theorem V8(N:aG):cB aau (Q0 N (R:=R)) (ca f253 6):=lq 6 Em (Pn N) λK g=>vA.r6 N g (J Em (.exit 2) K)
def Z2:=eG akR aoL vA.c vA.v
theorem agG:FO 253 Z2:=fq (E:=aau) bh func253 (it:=λN=>Q0 N) (λN=>(bz (V7 N) (bz (V8 N) bV))) vA.b vA.vo

def alO:=en [(253,Z2)] []
def akB:Fn [.S] As:=λa=>[aS a]
def aov:Fn [.I] dM:=λa=>⟨[.v aq [.i .u32 a]],[]⟩
def SR:=eG akB aov tQ.c tQ.v
theorem agy:FO 224 SR:=fr (E:=alO) (aN agG bh) func224 tQ.b tQ.vo

def aly:=en [(224,SR)] []
def aj9:Fn [.I, .S] As:=λa b=>[aI a,aS b]
def an3:Fn [.I] dM:=λa=>⟨[aI a],[]⟩
def SE:=eG aj9 an3 qe.c qe.v
theorem Y4:FO 170 SE:=fr (E:=aly) (aN agy bh) func170 qe.b qe.vo

def E74:=en [(168,SD),(169,Mc),(170,SE)] [(5,[1,4,5,19,20,21]),(15,[4,5,49,50,51]),(18,[4,5,10,49,50,51,56,57])]
def A74:Fn [.R, .I, .S] As:=λa b c=>[aV [.sh 59 a, .n b],aS c]
def k74:Fn [.R, .I] dM:=λa b=>⟨[aV [.ow 59 ak a, .n b]],[]⟩
def KS:Fn [.S, .I, .I, .I, .I, .R] Tb:=λa b c d e f=>[cA 2 (.s a),cP 8 0,cP 10 1,cA 38 (.own 2),cI 40 b,cI 42 c,oB 1 [.nl, .n d],oB 3 [.own 2, .n e],oR 5 59 f]
def Ez:Fn [.I, .I, .I, .I, .R] Tb:=λa b c d e=>[cP 8 0,cP 10 1,cA 98 (.own 2),cI 100 a,cI 102 b,oB 1 [.nl, .n c],oB 3 [.own 2, .n d],oR 5 59 e]
def EA:Fn [.N, .I, .I, .I, .I, .I, .I, .R] Tb:=λa b c d e f g h=>[cP 8 0,cP 10 1,cA 20 (.inn 2 a 0),cA 98 (.own 2),cI 100 b,cI 102 c,cI 112 d,cI 114 e,oB 1 [.nl, .n f],oB 3 [.own 2, .n g],oR 5 59 h]
def XG(N:aG)(K:Kt R):=nM.l5 N (J KS (.exit 0) K)
def PG(N:aG)(K:Kt R):=nM.l15 N (J Ez (.exit 2) K)
def PH(N:aG)(K:Kt R):=nM.l18 N (J EA (.exit 4) K)
def Vk(N:aG):It R:=(lp 5 (al KS (λK=>XG N K N) an) (lp 15 (al Ez (λK=>PG N K N) an) (lp 18 (al EA (λK=>PH N K N) an) ln)))
theorem acb(N:aG):cB E74 (Vk N (R:=R)) (ca f74 5):=lq 5 KS (XG N) λK g=>nM.r5 N g (J KS (.exit 0) K)
theorem Wp(N:aG):cB E74 (Vk N (R:=R)) (ca f74 15):=lq 15 Ez (PG N) λK g=>nM.r15 N g (J Ez (.exit 2) K)
theorem Wq(N:aG):cB E74 (Vk N (R:=R)) (ca f74 18):=lq 18 EA (PH N) λK g=>nM.r18 N g (J EA (.exit 4) K)
def acM:=eG A74 k74 nM.c nM.v
theorem agZ:FO 74 acM:=fq (E:=E74) (aN Y3 (aN Rx (aN Y4 bh))) func74 (it:=λN=>Vk N) (λN=>(bz (acb N) (bz (Wp N) (bz (Wq N) bV)))) nM.b nM.vo

def alM:=en [] []
def akz:Fn [.S, .S] As:=λa b=>[aS a, .fb [.s b]]
def aot:Fn [.B] dM:=λa=>⟨[aB a],[]⟩
def SQ:=eG akz aot (ct _) zn.v
theorem Zc:FO 220 SQ:=ft (E:=alM) bh func220 zn.b λ(a0,a1,_)=>zn.fI _ a0 a1

def aec:=en [(220,SQ)] [(2,[0,1,4,7,8])]
def akQ:Fn [.R, .S] As:=λa b=>[aH 9 a, .v aq [.fn 220 [[.s b]]]]
def aoK:Fn [.I] dM:=λa=>⟨[aI a],[]⟩
def xJ:Fn [.R, .S, .I, .I, .I] Tb:=λa b c d e=>[cH 0 9 a,cA 2 (.fn 220 [[.s b]]),cI 8 c,cI 14 d,cI 16 e]
def Pj(N:aG)(K:Kt R):=rO.l2 N (J xJ .ret K) (J xJ (.exit 0) K)
def YF(N:aG):It R:=(lp 2 (al xJ (λK=>Pj N K N) an) ln)
theorem V3(N:aG):cB aec (YF N (R:=R)) (ca f251 2):=lq 2 xJ (Pj N) λK g=>rO.r2 N g (J xJ .ret K) (J xJ (.exit 0) K)
def Z1:=eG akQ aoK rO.c rO.v
theorem agF:FO 251 Z1:=fq (E:=aec) (aN Zc bh) func251 (it:=λN=>YF N) (λN=>(bz (V3 N) bV)) rO.b rO.vo

def ad_:=en [(251,Z1),(220,SQ)] [(5,[0,1,5,6])]
def aky:Fn [.R, .S] As:=λa b=>[aO 9 a, .v aq [.fn 220 [[.s b]]]]
def aos:Fn [.R] dM:=λa=>⟨[aO 9 a],[[.nl]]⟩
def Eh:Fn [.S, .I, .I, .R] Tb:=λa b c d=>[cA 0 (.own 900000000),cA 2 (.fn 220 [[.s a]]),cI 10 b,cI 12 c,oR 1800000001 9 d]
def O_(N:aG)(K:Kt R):=vu.l5 N (J Eh (.exit 0) K)
def YC(N:aG):It R:=(lp 5 (al Eh (λK=>O_ N K N) an) ln)
theorem VV(N:aG):cB ad_ (YC N (R:=R)) (ca f219 5):=lq 5 Eh (O_ N) λK g=>vu.r5 N g (J Eh (.exit 0) K)
def ZT:=eG aky aos vu.c vu.v
theorem agw:FO 219 ZT:=fq (E:=ad_) (aN agF (aN Zc bh)) func219 (it:=λN=>YC N) (λN=>(bz (VV N) bV)) vu.b vu.vo

def alv:=en [(217,SP),(219,ZT)] []
def aj1:Fn [.R, .S] As:=λa b=>[aH 9 a,aS b]
def anV:Fn [.R] dM:=λa=>⟨[aO 9 a],[]⟩
def SB:=eG aj1 anV jI.c jI.v
theorem Y1:FO 161 SB:=fr (E:=alv) (aN Zb (aN agw bh)) func161 jI.b jI.vo

def ad0:=en [(169,Mc),(170,SE)] [(5,[1,5,12,13,14])]
def aj2:Fn [.R, .I, .S] As:=λa b c=>[aV [.sh 59 a, .n b],aS c]
def anW:Fn [.I] dM:=λa=>⟨[aI a],[]⟩
def Ea:Fn [.S, .I, .R, .I, .I] Tb:=λa b c d e=>[cA 2 (.s a),cI 10 b,cH 24 59 c,cI 26 d,cI 28 e]
def OS(N:aG)(K:Kt R):=uI.l5 N (J Ea (.exit 0) K)
def Ys(N:aG):It R:=(lp 5 (al Ea (λK=>OS N K N) an) ln)
theorem VG(N:aG):cB ad0 (Ys N (R:=R)) (ca f162 5):=lq 5 Ea (OS N) λK g=>uI.r5 N g (J Ea (.exit 0) K)
def ZE:=eG aj2 anW uI.c uI.v
theorem agd:FO 162 ZE:=fq (E:=ad0) (aN Rx (aN Y4 bh)) func162 (it:=λN=>Ys N) (λN=>(bz (VG N) bV)) uI.b uI.vo

def E69:=en [(155,L_),(159,SA),(64,Kf),(74,acM),(160,Mb),(161,SB),(162,ZE)] []
def A69:Fn [.R, .R, .R, .I, .S] As:=λa b c d e=>[aV [.sh 9 a, .sh 9 b, .sh 59 c, .n d],aS e]
def k69:Fn [.R, .R, .R, .I, .S] dM:=λa b c d e=>⟨[aV [.ow 9 ak a, .ow 9 ak b, .ow 59 ak c, .n d],aS e],[]⟩
def acK:=eG A69 k69 MH.c MH.v
theorem agX:FO 69 acK:=fr (E:=E69) (aN Rt (aN Y0 (aN Nt (aN agZ (aN Rw (aN Y1 (aN agd bh))))))) func69 MH.b MH.vo

def acB:Go.Shelf.Ren:=⟨λn=>bif bA n 22 then 163 else bif bA n 29 then 221 else 222,λn=>bif bA n 24 then 39 else bif bA n 9 then 53 else bif bA n 3 then 3 else bif bA n 4 then 4 else n,λn=>n⟩
def ZF:az eR->aD (aY×dM):=Ins.zW 53 72
theorem abM:Ins.L Tryz.prog acB "slices.Insert[[]loop.example/g00245/impl.Client,loop.example/g00245/impl.Client]" 7 where
 mixed:=hM
 f22:=func163.trans (by kernel_rfl)
 t3:=by kernel_rfl
 a3:=Ins.oh (P:=Tryz.prog) (t:=3) (d:= .int .i64) (by kernel_rfl) rfl
 t4:=by kernel_rfl
 a4:=Ins.oh (P:=Tryz.prog) (t:=4) (d:= .bool) (by kernel_rfl) rfl
 t24:=by kernel_rfl
 a24:=Ins.oh (P:=Tryz.prog) (t:=39) (d:= .slice 53) (by kernel_rfl) rfl
 z9:=Ins.L0 hE (t:=53) (ti:=⟨ak,[.i .i64, .s, .i .i64, .i .i64, .i .i64, .s, .i .i64],72⟩) (by kernel_rfl)
theorem agf:FO 163 ZF:=
 Ins.Dx (e:=53) (te:=⟨ak,[.i .i64, .s, .i .i64, .i .i64, .i .i64, .s, .i .i64],72⟩) (by kernel_rfl) rfl (by kernel_rfl) hE abM
  (λargs w=>run_callFunc_extern (e:=gz #[39,39] #[4]) func221 (by kernel_rfl) (by kernel_rfl) (by kernel_rfl) (by kernel_rfl) args w)
  ⟨_,func163,by kernel_rfl,by kernel_rfl⟩

def E70:=en [(163,ZF)] [(2,[0,3,4])]
def A70:Fn [.I, .R, .R, .R, .R, .I, .R, .R, .I, .I, .S, .I, .I, .I, .S, .I] As:=λa b c d e f g h i j k l m o p q=>[.pt [.n a, .ow 92 ak b, .ow 9 ak c, .ow 9 ak d, .ow 59 ak e, .n f, .ow 100 ak g, .ow 53 ak h, .n i],aV [.n j, .s k, .n l, .n m, .n o, .s p, .n q]]
def k70:Fn [.I, .R, .R, .R, .R, .I, .R, .R, .I] dM:=λa b c d e f g h i=>⟨[],[[.n a, .kp b, .kp c, .kp d, .kp e, .n f, .kp g, .ow 53 ak h, .n i]]⟩
def KR:Fn [.I, .I, .I, .I, .I, .S, .I, .I, .I, .S, .I, .R, .R, .R, .R, .R, .R] Tb:=λa b c d e f g h i j k l m o p q r=>[cP 0 900000900,cP 6 1,cI 8 a,oB 1800001801 [.n b, .own 900000001, .own 900000002, .own 900000003, .own 900000004, .n c, .own 900000006, .own 900000007, .n d],oB 3 [.n e, .s f, .n g, .n h, .n i, .s j, .n k],oR 1800000003 92 l,oR 1800000005 9 m,oR 1800000007 9 o,oR 1800000009 59 p,oR 1800000013 100 q,oR 1800000015 53 r]
def XF(N:aG)(K:Kt R):=po.l2 N (J KR (.exit 0) K)
def afA(N:aG):It R:=(lp 2 (al KR (λK=>XF N K N) an) ln)
theorem aca(N:aG):cB E70 (afA N (R:=R)) (ca f70 2):=lq 2 KR (XF N) λK g=>po.r2 N g (J KR (.exit 0) K)
def ahQ:=eG A70 k70 po.c po.v
theorem apC:FO 70 ahQ:=fq (E:=E70) (aN agf bh) func70 (it:=λN=>afA N) (λN=>(bz (aca N) bV)) po.b po.vo

def ad2:=en [(66,SZ),(66,S0),(66,S7),(167,SC)] [(5,[0,1,5,6])]
def aj5:Fn [.R, .S] As:=λa b=>[aO 92 a, .v aq [.fn 167 [[.s b]]]]
def anZ:Fn [.R] dM:=λa=>⟨[aO 92 a],[[.nl]]⟩
def Eb:Fn [.S, .I, .I, .R] Tb:=λa b c d=>[cA 0 (.own 900000000),cA 2 (.fn 167 [[.s a]]),cI 10 b,cI 12 c,oR 1800000001 92 d]
def OU(N:aG)(K:Kt R):=oG.l5 N (J Eb (.exit 0) K)
def Yu(N:aG):It R:=(lp 5 (al Eb (λK=>OU N K N) an) ln)
theorem VI(N:aG):cB ad2 (Yu N (R:=R)) (ca f166 5):=lq 5 Eb (OU N) λK g=>oG.r5 N g (J Eb (.exit 0) K)
def ZI:=eG aj5 anZ oG.c oG.v
theorem agj:FO 166 ZI:=fq (E:=ad2) (aN Zh (aN Zi (aN Zj (aN Y2 bh)))) func166 (it:=λN=>Yu N) (λN=>(bz (VI N) bV)) oG.b oG.vo

def E72:=en [(154,Sz),(166,ZI)] []
def A72:Fn [.R, .S] As:=λa b=>[aH 92 a,aS b]
def k72:Fn [.R] dM:=λa=>⟨[aO 92 a],[]⟩
def WX:=eG A72 k72 B6.c B6.v
theorem aco:FO 72 WX:=fr (E:=E72) (aN YY (aN agj bh)) func72 B6.b B6.vo

def E73:=en [(155,L_),(161,SB)] []
def A73:Fn [.R, .R, .R, .I, .S] As:=λa b c d e=>[aV [.sh 9 a, .sh 9 b, .sh 59 c, .n d],aS e]
def k73:Fn [.R, .R, .R, .I] dM:=λa b c d=>⟨[aV [.ow 9 ak a, .ow 9 ak b, .ow 59 ak c, .n d]],[]⟩
def ahR:=eG A73 k73 Ii.c Ii.v
theorem apD:FO 73 ahR:=fr (E:=E73) (aN Rt (aN Y1 bh)) func73 Ii.b Ii.vo

def E11:=en [(62,NU),(25,WV),(63,sO),(64,Kf),(65,ahN),(66,SZ),(66,S0),(66,S7),(68,ahP),(69,acK),(70,ahQ),(71,acL),(72,WX),(73,ahR),(74,acM)] []
def A11:Fn [.I, .R, .R, .R, .R, .I, .R, .R, .I, .I, .S] As:=λa b c d e f g h i j k=>[aV [.n a, .sh 92 b, .sh 9 c, .sh 9 d, .sh 59 e, .n f, .sh 100 g, .sh 53 h, .n i],aI j,aS k]
def k11:Fn [.I, .R, .R, .R, .R, .I, .R, .R, .I, .I] dM:=λa b c d e f g h i j=>⟨[aV [.n a, .ow 92 ak b, .ow 9 ak c, .ow 9 ak d, .ow 59 ak e, .n f, .ow 100 ak g, .ow 53 ak h, .n i],aI j],[]⟩
def aho:=eG A11 k11 wG.c wG.v
theorem aph:FO 11 aho:=fr (E:=E11) (aN RD (aN acm (aN yp (aN Nt (aN apz (aN Zh (aN Zi (aN Zj (aN apB (aN agX (aN apC (aN agY (aN aco (aN apD (aN agZ bh))))))))))))))) func11 wG.b wG.vo

def ald:=en [(25,WV),(63,sO)] []
def ajw:Fn [.I, .R, .R, .R, .R, .I, .R, .R, .I, .I] As:=λa b c d e f g h i j=>[aV [.n a, .sh 92 b, .sh 9 c, .sh 9 d, .sh 59 e, .n f, .sh 100 g, .sh 53 h, .n i],aI j]
def ann:Fn [.B] dM:=λa=>⟨[aB a],[]⟩
def L4:=eG ajw ann tL.c tL.v
theorem Rn:FO 104 L4:=fr (E:=ald) (aN acm (aN yp bh)) func104 tL.b tL.vo

def alD:=en [] []
def ake:Fn [.I, .S, .R] As:=λa b c=>[aV [.n a, .s b, .sh 231 c]]
def an9:Fn [.I, .S, .R] dM:=λa b c=>⟨[aV [.n a, .s b, .ow 231 ak c]],[]⟩
def ZL:=eG ake an9 IJ.c IJ.v
theorem agm:FO 190 ZL:=fh (E:=alD) bh func190 (it:=λ_=>ln) (λ_=>bV) (λ_=>IJ.b) λx f h=>⟨0,IJ.fI _ x.1 x.2.1 x.2.2.1 h⟩

def ad4:=en [(63,sO)] [(2,[1,2,6,7,8])]
def akf:Fn [.I, .S, .R] As:=λa b c=>[aV [.n a, .s b, .sh 231 c]]
def an_:Fn [.B] dM:=λa=>⟨[aB a],[]⟩
def xD:Fn [.B, .R, .I, .I, .I, .S, .R] Tb:=λa b c d e f g=>[cP 2 0,cA 4 (.b a),cH 12 231 b,cI 14 c,cI 16 d,oB 1 [.n e, .s f, .sh 231 g]]
def O0(N:aG)(K:Kt R):=Gv.l2 N (J xD .ret K) (J xD (.exit 0) K)
def Yw(N:aG):It R:=(lp 2 (al xD (λK=>O0 N K N) an) ln)
theorem VN(N:aG):cB ad4 (Yw N (R:=R)) (ca f191 2):=lq 2 xD (O0 N) λK g=>Gv.r2 N g (J xD .ret K) (J xD (.exit 0) K)
def ZM:=eG akf an_ (ct _) Gv.v
theorem agn:FO 191 ZM:=fh (E:=ad4) (aN yp bh) func191 (it:=λN=>Yw N) (λN=>(bz (VN N) bV)) Gv.b λx f h=>Gv.fI _ x.1 x.2.1 x.2.2.1 f.1.2.1 f.1.2.2.1

def ale:=en [(190,ZL),(191,ZM),(63,sO)] []
def ajx:Fn [.I, .S, .R, .S] As:=λa b c d=>[aV [.n a, .s b, .sh 231 c],aS d]
def ano:Fn [.I, .S, .R, .B] dM:=λa b c d=>⟨[aV [.n a, .s b, .ow 231 ak c],aB d],[]⟩
def Zs:=eG ajx ano Cg.c Cg.v
theorem af1:FO 105 Zs:=fh (E:=ale) (aN agm (aN agn (aN yp bh))) func105 (it:=λ_=>ln) (λ_=>bV) (λ_=>Cg.b) λx f h=>⟨0,Cg.fI _ x.1 x.2.1 x.2.2.1 x.2.2.2.1 h f.1.2.1 f.1.2.2.1 f.2.1.1⟩

def adO:=en [] [(1,[0,1,9,10,11])]
def ajy:Fn [.I, .R, .R, .R, .R, .I, .R, .R, .I, .I] As:=λa b c d e f g h i j=>[.pt [.n a, .ow 92 ak b, .ow 9 ak c, .ow 9 ak d, .ow 59 ak e, .n f, .ow 100 ak g, .ow 53 ak h, .n i],aI j]
def anp:Fn [.I, .R, .R, .R, .R, .I, .R, .R, .I] dM:=λa b c d e f g h i=>⟨[],[[.n a, .kp b, .kp c, .kp d, .kp e, .n f, .kp g, .kp h, .n i]]⟩
def D5:Fn [.I, .I, .I, .I, .I, .I, .R, .R, .R, .R, .R, .R] Tb:=λa b c d e f g h i j k l=>[cP 0 900000900,cI 2 a,cA 18 (.own 900000007),cI 20 b,cI 22 c,oB 1800001801 [.n d, .own 900000001, .own 900000002, .own 900000003, .own 900000004, .n e, .own 900000006, .own 900000007, .n f],oR 1800000015 53 g,oR 1800000003 92 h,oR 1800000005 9 i,oR 1800000007 9 j,oR 1800000009 59 k,oR 1800000013 100 l]
def OB(N:aG)(K:Kt R):=zj.l1 N (J D5 (.exit 0) K)
def Yg(N:aG):It R:=(lp 1 (al D5 (λK=>OB N K N) an) ln)
theorem Vr(N:aG):cB adO (Yg N (R:=R)) (ca f106 1):=lq 1 D5 (OB N) λK g=>zj.r1 N g (J D5 (.exit 0) K)
def Zt:=eG ajy anp zj.c zj.v
theorem af2:FO 106 Zt:=fq (E:=adO) bh func106 (it:=λN=>Yg N) (λN=>(bz (Vr N) bV)) zj.b zj.vo

def E28:=en [(62,NU),(104,L4),(105,Zs),(106,Zt)] []
def A28:Fn [.I, .R, .R, .R, .R, .I, .R, .R, .I, .I, .S] As:=λa b c d e f g h i j k=>[aV [.n a, .sh 92 b, .sh 9 c, .sh 9 d, .sh 59 e, .n f, .sh 100 g, .sh 53 h, .n i],aI j,aS k]
def k28:Fn [.I, .R, .R, .R, .R, .I, .R, .R, .I, .B] dM:=λa b c d e f g h i j=>⟨[aV [.n a, .ow 92 ak b, .ow 9 ak c, .ow 9 ak d, .ow 59 ak e, .n f, .ow 100 ak g, .ow 53 ak h, .n i],aB j],[]⟩
def ahE:=eG A28 k28 KX.c KX.v
theorem apq:FO 28 ahE:=fr (E:=E28) (aN RD (aN Rn (aN af1 (aN af2 bh)))) func28 KX.b KX.vo

def adP:=en [] [(1,[0,1,2,11,12,13])]
def ajz:Fn [.I, .R, .R, .R, .R, .I, .R, .R, .I, .I, .I] As:=λa b c d e f g h i j k=>[.pt [.n a, .ow 92 ak b, .ow 9 ak c, .ow 9 ak d, .ow 59 ak e, .n f, .ow 100 ak g, .ow 53 ak h, .n i],aI j,aI k]
def anq:Fn [.I, .R, .R, .R, .R, .I, .R, .R, .I] dM:=λa b c d e f g h i=>⟨[],[[.n a, .kp b, .kp c, .kp d, .kp e, .n f, .kp g, .kp h, .n i]]⟩
def D6:Fn [.I, .I, .I, .I, .I, .I, .I, .R, .R, .R, .R, .R, .R] Tb:=λa b c d e f g h i j k l m=>[cP 0 900000900,cI 2 a,cI 4 b,cA 22 (.own 900000007),cI 24 c,cI 26 d,oB 1800001801 [.n e, .own 900000001, .own 900000002, .own 900000003, .own 900000004, .n f, .own 900000006, .own 900000007, .n g],oR 1800000015 53 h,oR 1800000003 92 i,oR 1800000005 9 j,oR 1800000007 9 k,oR 1800000009 59 l,oR 1800000013 100 m]
def OC(N:aG)(K:Kt R):=uH.l1 N (J D6 (.exit 0) K)
def Yh(N:aG):It R:=(lp 1 (al D6 (λK=>OC N K N) an) ln)
theorem Vs(N:aG):cB adP (Yh N (R:=R)) (ca f107 1):=lq 1 D6 (OC N) λK g=>uH.r1 N g (J D6 (.exit 0) K)
def Ss:=eG ajz anq uH.c uH.v
theorem YS:FO 107 Ss:=fq (E:=adP) bh func107 (it:=λN=>Yh N) (λN=>(bz (Vs N) bV)) uH.b uH.vo

def acC:Go.Shelf.Ren:=⟨λn=>bif bA n 22 then 234 else bif bA n 29 then 262 else 263,λn=>bif bA n 24 then 34 else bif bA n 9 then 92 else bif bA n 3 then 3 else bif bA n 4 then 4 else n,λn=>n⟩
def ZY:az eR->aD (aY×dM):=Ins.zW 92 48
theorem abN:Ins.L Tryz.prog acC "slices.Insert[[]loop.example/g00245/impl.Entry,loop.example/g00245/impl.Entry]" 4 where
 mixed:=hM
 f22:=func234.trans (by kernel_rfl)
 t3:=by kernel_rfl
 a3:=Ins.oh (P:=Tryz.prog) (t:=3) (d:= .int .i64) (by kernel_rfl) rfl
 t4:=by kernel_rfl
 a4:=Ins.oh (P:=Tryz.prog) (t:=4) (d:= .bool) (by kernel_rfl) rfl
 t24:=by kernel_rfl
 a24:=Ins.oh (P:=Tryz.prog) (t:=34) (d:= .slice 92) (by kernel_rfl) rfl
 z9:=Ins.L0 hE (t:=92) (ti:=⟨ak,[.s, .i .i64, .i .i64, .s],48⟩) (by kernel_rfl)
theorem agC:FO 234 ZY:=
 Ins.Dx (e:=92) (te:=⟨ak,[.s, .i .i64, .i .i64, .s],48⟩) (by kernel_rfl) rfl (by kernel_rfl) hE abN
  (λargs w=>run_callFunc_extern (e:=gz #[34,34] #[4]) func262 (by kernel_rfl) (by kernel_rfl) (by kernel_rfl) (by kernel_rfl) args w)
  ⟨_,func234,by kernel_rfl,by kernel_rfl⟩

def ad5:=en [(72,WX),(234,ZY)] [(3,[3,5,6])]
def akg:Fn [.R, .S, .I, .I, .S] As:=λa b c d e=>[aH 92 a,aV [.s b, .n c, .n d, .s e]]
def aoa:Fn [.R] dM:=λa=>⟨[aO 92 a],[]⟩
def Ed:Fn [.I, .S, .I, .I, .S, .R] Tb:=λa b c d e f=>[cP 6 0,cA 10 (.own 1),cI 12 a,oB 1 [.s b, .n c, .n d, .s e],oR 3 92 f]
def O3(N:aG)(K:Kt R):=tP.l3 N (J Ed (.exit 0) K)
def Yx(N:aG):It R:=(lp 3 (al Ed (λK=>O3 N K N) an) ln)
theorem VO(N:aG):cB ad5 (Yx N (R:=R)) (ca f192 3):=lq 3 Ed (O3 N) λK g=>tP.r3 N g (J Ed (.exit 0) K)
def SI:=eG akg aoa tP.c tP.v
theorem ago:FO 192 SI:=fq (E:=ad5) (aN aco (aN agC bh)) func192 (it:=λN=>Yx N) (λN=>(bz (VO N) bV)) tP.b tP.vo

def alf:=en [(69,acK),(72,WX),(187,SG),(192,SI)] []
def ajA:Fn [.I, .R, .R, .R, .R, .I, .R, .R, .I, .S, .I, .I, .S] As:=λa b c d e f g h i j k l m=>[.pt [.n a, .ow 92 ak b, .ow 9 ak c, .ow 9 ak d, .ow 59 ak e, .n f, .ow 100 ak g, .ow 53 ak h, .n i],aV [.s j, .n k, .n l, .s m]]
def anr:Fn [.I, .R, .R, .R, .R, .I, .R, .R, .I] dM:=λa b c d e f g h i=>⟨[],[[.n a, .ow 92 ak b, .ow 9 ak c, .ow 9 ak d, .ow 59 ak e, .n f, .kp g, .kp h, .n i]]⟩
def Zu:=eG ajA anr Ci.c Ci.v
theorem af3:FO 108 Zu:=fr (E:=alf) (aN agX (aN aco (aN Y6 (aN ago bh)))) func108 Ci.b Ci.vo

def E29:=en [(62,NU),(104,L4),(63,sO),(107,Ss),(108,Zu)] []
def A29:Fn [.I, .R, .R, .R, .R, .I, .R, .R, .I, .I, .I] As:=λa b c d e f g h i j k=>[aV [.n a, .sh 92 b, .sh 9 c, .sh 9 d, .sh 59 e, .n f, .sh 100 g, .sh 53 h, .n i],aI j,aI k]
def k29:Fn [.I, .R, .R, .R, .R, .I, .R, .R, .I, .B] dM:=λa b c d e f g h i j=>⟨[aV [.n a, .ow 92 ak b, .ow 9 ak c, .ow 9 ak d, .ow 59 ak e, .n f, .ow 100 ak g, .ow 53 ak h, .n i],aB j],[]⟩
def ahF:=eG A29 k29 N5.c N5.v
theorem apr:FO 29 ahF:=fr (E:=E29) (aN RD (aN Rn (aN yp (aN YS (aN af3 bh))))) func29 N5.b N5.vo

def E30:=en [(62,NU),(104,L4),(107,Ss)] []
def A30:Fn [.I, .R, .R, .R, .R, .I, .R, .R, .I, .I] As:=λa b c d e f g h i j=>[aV [.n a, .sh 92 b, .sh 9 c, .sh 9 d, .sh 59 e, .n f, .sh 100 g, .sh 53 h, .n i],aI j]
def k30:Fn [.I, .R, .R, .R, .R, .I, .R, .R, .I, .B] dM:=λa b c d e f g h i j=>⟨[aV [.n a, .ow 92 ak b, .ow 9 ak c, .ow 9 ak d, .ow 59 ak e, .n f, .ow 100 ak g, .ow 53 ak h, .n i],aB j],[]⟩
def ahG:=eG A30 k30 N6.c N6.v
theorem aps:FO 30 ahG:=fr (E:=E30) (aN RD (aN Rn (aN YS bh))) func30 N6.b N6.vo

def E20:=en [] [(2,[1,2,4,5,6])]
def A20:Fn [.I, .R, .R, .R, .R, .I, .R, .R, .I, .I] As:=λa b c d e f g h i j=>[aV [.n a, .sh 92 b, .sh 9 c, .sh 9 d, .sh 59 e, .n f, .sh 100 g, .sh 53 h, .n i],aI j]
def k20:Fn [.I, .S, .I, .I, .I, .S, .I, .B] dM:=λa b c d e f g h=>⟨[aV [.n a, .s b, .n c, .n d, .n e, .s f, .n g],aB h],[]⟩
def CZ:Fn [.I, .B, .I, .I, .R, .R, .R, .R, .I, .R, .R, .I, .I, .S, .I, .I, .I, .S, .I] Tb:=λa b c d e f g h i j k l m o p q r s t=>[cI 2 a,cP 4 0,cP 8 1,cA 10 (.b b),cI 12 c,oB 1 [.n d, .sh 92 e, .sh 9 f, .sh 9 g, .sh 59 h, .n i, .sh 100 j, .sh 53 k, .n l],oB 3 [.n m, .s o, .n p, .n q, .n r, .s s, .n t]]
def Xr(N:aG)(K:Kt R):=xP.l2 N (J CZ .ret K) (J CZ (.exit 0) K)
def afv(N:aG):It R:=(lp 2 (al CZ (λK=>Xr N K N) an) ln)
theorem abZ(N:aG):cB E20 (afv N (R:=R)) (ca f20 2):=lq 2 CZ (Xr N) λK g=>xP.r2 N g (J CZ .ret K) (J CZ (.exit 0) K)
def ahr:=eG A20 k20 xP.c xP.v
theorem apk:FO 20 ahr:=fq (E:=E20) bh func20 (it:=λN=>afv N) (λN=>(bz (abZ N) bV)) xP.b xP.vo

def E5:=en [(15,ahp),(21,ahw),(27,ahD),(19,ahq),(11,aho),(28,ahE),(29,ahF),(30,ahG),(20,ahr),(25,WV)] [(6,[2,3,4,5]),(11,[2,3,4,6,7]),(25,[2,10,11,12,13,14,15,16,17,18])]
def A5:Fn [.R] As:=λa=>[aH 5 a]
def k5:Fn [.B] dM:=λa=>⟨[aB a],[]⟩
def Uj:Fn [.B, .I, .I, .I, .I, .R, .R, .R, .R, .R, .R, .R] Tb:=λa b c d e f g h i j k l=>[cA 4 (.b a),cP 6 0,cA 8 (.own 1),cI 10 b,oB 1 [.n c, .own 2, .own 3, .own 4, .own 5, .n d, .own 6, .own 7, .n e],oR 3 3 f,oR 5 92 g,oR 7 9 h,oR 9 9 i,oR 11 59 j,oR 13 100 k,oR 15 53 l]
def C8:Fn [.B, .I, .I, .I, .I, .I, .R, .R, .R, .R, .R, .R, .R] Tb:=λa b c d e f g h i j k l m=>[cA 4 (.b a),cP 6 0,cA 8 (.own 1),cI 12 b,cI 14 c,oB 1 [.n d, .own 2, .own 3, .own 4, .own 5, .n e, .own 6, .own 7, .n f],oR 3 3 g,oR 5 92 h,oR 7 9 i,oR 9 9 j,oR 11 59 k,oR 13 100 l,oR 15 53 m]
def C9:Fn [.B, .B, .B, .I, .B, .B, .I, .I, .I, .I, .I, .I, .I, .I, .I, .I, .R, .R, .R, .R, .R, .R, .R, .R, .R, .R, .R, .R, .R, .R, .R, .R, .R, .R] Tb:=λa b c d e f g h i j k l m o p q r s t u v w x y z aa ab ac ad ae af ag ah ai=>[cA 4 (.b a),cA 20 (.b b),cA 22 (.b c),cP 24 0,cI 26 d,cP 28 1,cA 30 (.b e),cP 32 2,cA 34 (.b f),cI 36 g,oB 1 [.n h, .own 3, .own 4, .own 5, .own 6, .n i, .own 7, .own 8, .n j],oB 3 [.n k, .own 9, .own 10, .own 11, .own 12, .n l, .own 13, .own 14, .n m],oB 5 [.n o, .own 15, .own 16, .own 17, .own 18, .n p, .own 19, .own 20, .n q],oR 7 92 r,oR 9 9 s,oR 11 9 t,oR 13 59 u,oR 15 100 v,oR 17 53 w,oR 19 92 x,oR 21 9 y,oR 23 9 z,oR 25 59 aa,oR 27 100 ab,oR 29 53 ac,oR 31 92 ad,oR 33 9 ae,oR 35 9 af,oR 37 59 ag,oR 39 100 ah,oR 41 53 ai]
def aet(N:aG)(K:Kt R):=U5.l6 N (J Uj (.exit 0) K)
def XD(N:aG)(K:Kt R):=U5.Fc N (J C8 .ret K) (J C8 (.exit 2) K)
def XE(N:aG)(K:Kt R):=U5.TV N (J C9 .ret K) (J C9 (.exit 4) K)
def it5(N:aG):It R:=(lp 6 (al Uj (λK=>aet N K N) an) (lp 11 (al C8 (λK=>XD N K N) an) (lp 25 (al C9 (λK=>XE N K N) an) ln)))
theorem afN(N:aG):cB E5 (it5 N (R:=R)) (ca f5 6):=lq 6 Uj (aet N) λK g=>U5.r6 N g (J Uj (.exit 0) K)
theorem ab9(N:aG):cB E5 (it5 N (R:=R)) (ca f5 11):=lq 11 C8 (XD N) λK g=>U5.z5 N g (J C8 .ret K) (J C8 (.exit 2) K)
theorem ab_(N:aG):cB E5 (it5 N (R:=R)) (ca f5 25):=lq 25 C9 (XE N) λK g=>U5.r25 N g (J C9 .ret K) (J C9 (.exit 4) K)
def sp5:=eG A5 k5 U5.c U5.v
theorem ok5:FO 5 sp5:=fq (E:=E5) (aN api (aN apl (aN apo (aN apj (aN aph (aN apq (aN apr (aN aps (aN apk (aN acm bh)))))))))) func5 (it:=λN=>it5 N) (λN=>(bz (afN N) (bz (ab9 N) (bz (ab_ N) bV)))) U5.b U5.vo

def asn:=en [(63,sO)] [(5,[0,1,4,5,6,7,8])]
def akM:Fn [.S, .I] As:=λa b=>[aS a,aI b]
def aoG:Fn [.I, .I, .B] dM:=λa b c=>⟨[aI a,aI b,aB c],[]⟩
def IH:Fn [.S, .I, .I, .I, .B, .I, .I] Tb:=λa b c d e f g=>[cA 0 (.s a),cI 2 b,cI 8 c,cI 10 d,cA 12 (.b e),cI 14 f,cI 16 g]
def aaH(N:aG)(K:Kt R):=gp.l5 N (J IH .ret K) (J IH (.exit 0) K)
def aqZ(N:aG):It R:=(lp 5 (al IH (λK=>aaH N K N) an) ln)
def SW:=eG akM aoG (ct _) gp.v

def aso:=en [(224,SR)] []
def akN:Fn [.S] As:=λa=>[aS a]
def aoH:Fn [.S] dM:=λa=>⟨[aS a],[]⟩
def ahA:=eG akN aoH EC.c EC.v

def ash:=en [(245,SW),(63,sO),(246,ahA)] [(3,[0,4,5])]
def ako:Fn [.S] As:=λa=>[aS a]
def aoi:Fn [.R, .I] dM:=λa b=>⟨[aO 9 a,aI b],[]⟩
def PR:Fn [.S, .I, .R] Tb:=λa b c=>[cA 0 (.s a),cA 8 (.own 0),cI 10 b,oR 1 9 c]
def aaG(N:aG)(K:Kt R):=U203.l3 N (J PR (.exit 0) K)
def aqY(N:aG):It R:=(lp 3 (al PR (λK=>aaG N K N) an) ln)
def ahu:=eG ako aoi U203.c U203.v

def asf:=en [(63,sO)] [(2,[1,2,6,7,8])]
def akm:Fn [.R] As:=λa=>[aV [.sh 236 a]]
def aog:Fn [.B] dM:=λa=>⟨[aB a],[]⟩
def IG:Fn [.B, .R, .I, .I, .R] Tb:=λa b c d e=>[cP 2 0,cA 4 (.b a),cH 12 236 b,cI 14 c,cI 16 d,oB 1 [.sh 236 e]]
def aaF(N:aG)(K:Kt R):=zl.l2 N (J IG .ret K) (J IG (.exit 0) K)
def aqX(N:aG):It R:=(lp 2 (al IG (λK=>aaF N K N) an) ln)
def ahs:=eG akm aog zl.c zl.v

def asr:=en [] []
def akZ:Fn [.S, .S, .I, .S] As:=λa b c d=>[aV [.s a, .s b, .n c], .fb [.s d]]
def aoT:Fn [.B] dM:=λa=>⟨[aB a],[]⟩
def ahC:=eG akZ aoT (ct _) PU.v

def ap6:=en [(267,ahC)] [(2,[0,1,4,7,8])]
def adK:Fn [.R, .S] As:=λa b=>[aH 236 a, .v aq [.fn 267 [[.s b]]]]
def afJ:Fn [.I] dM:=λa=>⟨[aI a],[]⟩
def Ep:Fn [.R, .S, .I, .I, .I] Tb:=λa b c d e=>[cH 0 236 a,cA 2 (.fn 267 [[.s b]]),cI 8 c,cI 14 d,cI 16 e]
def Ug(N:aG)(K:Kt R):=vC.l2 N (J Ep .ret K) (J Ep (.exit 0) K)
def ani(N:aG):It R:=(lp 2 (al Ep (λK=>Ug N K N) an) ln)
def acF:=eG adK afJ vC.c vC.v

def asm:=en [(266,acF)] []
def akL:Fn [.R, .S] As:=λa b=>[aV [.sh 236 a],aS b]
def aoF:Fn [.I] dM:=λa=>⟨[aI a],[]⟩
def ahz:=eG akL aoF AB.c AB.v

def asg:=en [(244,ahz)] []
def akn:Fn [.R, .S] As:=λa b=>[aV [.sh 236 a],aS b]
def aoh:Fn [.S, .B] dM:=λa b=>⟨[aS a,aB b],[]⟩
def aht:=eG akn aoh Az.c Az.v

def asp:=en [(245,SW)] []
def akO:Fn [.S, .I] As:=λa b=>[aS a,aI b]
def aoI:Fn [.S, .I, .B] dM:=λa b c=>⟨[aS a,aI b,aB c],[]⟩
def ahB:=eG akO aoI (ct _) vx.v

def asi:=en [(247,ahB),(245,SW),(158,Ma)] []
def akp:Fn [.S] As:=λa=>[aS a]
def aoj:Fn [.S, .I, .I, .S, .B] dM:=λa b c d e=>⟨[aV [.s a, .n b, .n c, .s d],aB e],[]⟩
def ahv:=eG akp aoj (ct _) xQ.v

def asc:=en [(201,ahs),(202,aht),(203,ahu),(204,ahv),(192,SI)] [(7,[3,27,28,29])]
def ajC:Fn [.R] As:=λa=>[aV [.sh 236 a]]
def anv:Fn [.R] dM:=λa=>⟨[aO 92 a],[]⟩
def PQ:Fn [.I, .I, .R, .R] Tb:=λa b c d=>[cA 6 (.own 0),cA 54 (.own 1),cI 56 a,cI 58 b,oR 1 92 c,oR 3 9 d]
def aaE(N:aG)(K:Kt R):=U118.l7 N (J PQ (.exit 0) K)
def aqW(N:aG):It R:=(lp 7 (al PQ (λK=>aaE N K N) an) ln)
def ard:=eG ajC anv U118.c U118.v

end Go.FG.Se
