/- Functions of the program: the evaluation of each, and that a call of it does what is told. No condition. -/
import Derived.Test.YtjejmgffiilmlaaGreatTab
import Derived.Test.YtjejmgffiilmlaaGreatPProxies
import Derived.Test.YtjejmgffiilmlaaGreatIns
set_option linter.unusedVariables false
set_option linter.unusedSimpArgs false
set_option maxRecDepth 100000
open Bool renaming true->ai,false->ak
open Function renaming comp_def->dW
open Go.Extern.SlicesOverlaps renaming overlaps->gE
open Nat renaming beq->bn
open _root_ renaming Nat->aE,List->ay,Option->aC,Bool->aW
namespace Go.FG.Se
open Go.Proofs Go.Proofs.Tryz
variable {R:Type}
abbrev FO:=k_ Tryz.prog T

def E15:=en [] []
def A15:Fn [.R] As:=λa=>[aH 5 a]
def k15:Fn [.B] dE:=λa=>⟨[aB a],[]⟩
def aia:=eg A15 k15 (ct _) U15.v
theorem aqt:FO 15 aia:=ft (E:=E15) ba func15 U15.b λ(a0,_)=>U15.fJ _ a0

def E87:=en [] [(3,[0,3,4])]
def A87:Fn [.R] As:=λa=>[aH 5 a]
def k87:Fn [.R, .I, .I] dE:=λa b c=>⟨[.pt [.sh 5 a, .n b, .n c]],[]⟩
def KO:Fn [.R, .I, .I] Tb:=λa b c=>[cH 0 5 a,cI 6 b,cI 8 c]
def XS(N:aE)(K:Kt R):=Cu.l3 N (J KO (.exit 0) K)
def agn(N:aE):It R:=(lp 3 (al KO (λK=>XS N K N) an) ln)
theorem acR(N:aE):cq E87 (agn N (R:=R)) (b8 f87 3):=lq 3 KO (XS N) λK g=>Cu.r3 N g (J KO (.exit 0) K)
def SS:=eg A87 k87 Cu.c Cu.v
theorem WI:FO 87 SS:=fq (E:=E87) ba func87 (it:=λN=>agn N) (λN=>(bk (acR N) bM)) Cu.b Cu.vo

def al7:=en [] []
def ake:Fn [.R, .I, .I] As:=λa b c=>[.pt [.sh 5 a, .n b, .n c]]
def aol:Fn [.I, .R, .I, .I] dE:=λa b c d=>⟨[aI a],[[.sh 5 b, .n c, .n d]]⟩
def ZM:=eg ake aol bO.c bO.v
theorem agN:FO 102 ZM:=fr (E:=al7) ba func102 bO.b bO.vo

def al8:=en [(102,ZM)] []
def akf:Fn [.R, .I, .I, .I] As:=λa b c d=>[.pt [.sh 5 a, .n b, .n c],aI d]
def aom:Fn [.I, .R, .I, .I] dE:=λa b c d=>⟨[aI a],[[.sh 5 b, .n c, .n d]]⟩
def qf:=eg akf aom de.c de.v
theorem rC:FO 103 qf:=fr (E:=al8) (aG agN ba) func103 de.b de.vo

def amc:=en [(103,qf)] []
def akp:Fn [.R, .I, .I, .I] As:=λa b c d=>[.pt [.sh 5 a, .n b, .n c],aI d]
def aox:Fn [.B, .R, .I, .I] dE:=λa b c d=>⟨[aB a],[[.sh 5 b, .n c, .n d]]⟩
def LV:=eg akp aox ia.c ia.v
theorem Ri:FO 126 LV:=fr (E:=amc) (aG rC ba) func126 ia.b ia.vo

def E88:=en [(103,qf)] []
def A88:Fn [.R, .I, .I, .R] As:=λa b c d=>[.pt [.sh 5 a, .n b, .n c],aO 3 d]
def k88:Fn [.I, .R, .I, .I, .R] dE:=λa b c d e=>⟨[aI a],[[.sh 5 b, .n c, .n d],[.kp e]]⟩
def SU:=eg A88 k88 rS.c rS.v
theorem WJ:FO 88 SU:=fr (E:=E88) (aG rC ba) func88 rS.b rS.vo

def E91:=en [(126,LV),(88,SU),(103,qf)] []
def A91:Fn [.R, .I, .I, .I] As:=λa b c d=>[.pt [.sh 5 a, .n b, .n c],aI d]
def k91:Fn [.I, .R, .I, .I] dE:=λa b c d=>⟨[aI a],[[.sh 5 b, .n c, .n d]]⟩
def aiC:=eg A91 k91 TE.c TE.v
theorem aqM:FO 91 aiC:=fr (E:=E91) (aG Ri (aG WJ (aG rC ba))) func91 TE.b TE.vo

def amB:=en [(103,qf)] []
def alg:Fn [.R, .I, .I, .R] As:=λa b c d=>[.pt [.sh 5 a, .n b, .n c],aO 9 d]
def apo:Fn [.S, .R, .I, .I, .R] dE:=λa b c d e=>⟨[aS a],[[.sh 5 b, .n c, .n d],[.kp e]]⟩
def Sz:=eg alg apo oW.c oW.v
theorem Zs:FO 210 Sz:=fr (E:=amB) (aG rC ba) func210 oW.b oW.vo

def amb:=en [(210,Sz)] []
def ako:Fn [.R, .I, .I] As:=λa b c=>[.pt [.sh 5 a, .n b, .n c]]
def aow:Fn [.S, .R, .I, .I] dE:=λa b c d=>⟨[aS a],[[.sh 5 b, .n c, .n d]]⟩
def HZ:=eg ako aow jR.c jR.v
theorem LH:FO 125 HZ:=fr (E:=amb) (aG Zs ba) func125 jR.b jR.vo

def T5:=en [] [(3,[0,1,2])]
def alN:Fn [] As:=[]
def apW:Fn [.R, .I] dE:=λa b=>⟨[aV [.ow 59 ai a, .n b]],[]⟩
def qC:Fn [.I, .I, .I] Tb:=λa b c=>[cP 0 0,cP 2 1,cI 4 a,oB 1 [.nl, .n b],oB 3 [.nl, .n c]]
def nR:Fn [.I, .I, .I, .R] Tb:=λa b c d=>[cP 0 0,cP 2 1,cI 4 a,oB 1 [.nl, .n b],oB 3 [.own 2, .n c],oR 5 59 d]
def O_(N:aE)(K:Kt R):=EG.l3 N (J qC (.exit 0) K) (J nR (.exit 0) K)
def Kx(N:aE)(K:Kt R):=EG.tW N (J qC (.exit 0) K) (J nR (.exit 0) K)
def Lt(N:aE):It R:=(lp 3 (al qC (λK=>O_ N K N) (al nR (λK=>Kx N K N) an)) ln)
theorem Mf(N:aE)(K:Kt R):Wd T5 (Lt N) (b8 f257 3) 3 K nR (Kx N K):=lw (λg=>EG.z_ N (cmp _ qC (g∘fN)) (cmp _ nR (g∘fN)) (J qC (.exit 0) K) (J nR (.exit 0) K)) λm i=>by simp only[dW,wf i];rfl
theorem adE(N:aE)(K:Kt R):Wd T5 (Lt N) (b8 f257 3) 3 K qC (O_ N K):=lw (λg=>EG.r3 N (cmp _ qC (g∘fN)) (cmp _ nR (g∘fN)) (J qC (.exit 0) K) (J nR (.exit 0) K)) λm i=>by simp only[dW,wf i,wf (Mf N K m)];rfl
theorem Wg(N:aE):cq T5 (Lt N (R:=R)) (b8 f257 3):=lm 3 (ga qC (adE N) (ga nR (Mf N) pb))
def SK:=eg alN apW EG.c EG.v
theorem ZA:FO 257 SK:=fq (E:=T5) ba func257 (it:=λN=>Lt N) (λN=>(bk (Wg N) bM)) EG.b EG.vo

def amL:=en [(257,SK)] []
def alv:Fn [] As:=[]
def apC:Fn [.R, .R, .R, .I] dE:=λa b c d=>⟨[aV [.ow 9 ai a, .ow 9 ai b, .ow 59 ai c, .n d]],[]⟩
def SF:=eg alv apC (ct _) Um.v
theorem Zx:FO 230 SF:=ft (E:=amL) (aG ZA ba) func230 Um.b λ_=>Um.fJ _

def amt:=en [(230,SF)] []
def akX:Fn [] As:=[]
def ao5:Fn [.I, .R, .R, .R, .R, .I, .R, .R, .I] dE:=λa b c d e f g h i=>⟨[aV [.n a, .ow 92 ai b, .ow 9 ai c, .ow 9 ai d, .ow 59 ai e, .n f, .ow 100 ai g, .ow 53 ai h, .n i]],[]⟩
def Su:=eg akX ao5 (ct _) Ul.v
theorem Zo:FO 182 Su:=ft (E:=amt) (aG Zx ba) func182 Ul.b λ_=>Ul.fJ _

def aeO:=en [(88,SU),(103,qf),(125,HZ),(126,LV),(210,Sz)] [(4,[0,1,3,4,5,6,7])]
def akZ:Fn [.R, .I, .I, .I, .R, .R, .R, .R, .I, .R, .R, .I, .R, .R, .R] As:=λa b c d e f g h i j k l m o p=>[.pt [.sh 5 a, .n b, .n c],aV [.n d, .ow 92 ai e, .ow 9 ai f, .ow 9 ai g, .ow 59 ai h, .n i, .ow 100 ai j, .ow 53 ai k, .n l, .ow 236 ai m, .ow 3 ai o, .ow 92 ai p]]
def ao7:Fn [.I, .I, .S, .I, .R, .R, .I, .I, .R, .R, .R, .R, .R, .R, .R, .R, .R] dE:=λa b c d e f g h i j k l m o p q r=>⟨[aV [.n a, .n b, .s c, .n d, .ow 3 ai e]],[[.sh 5 f, .n g, .n h],[.nl, .kp i, .kp j, .kp k, .kp l, .nl, .kp m, .kp o, .nl, .kp p, .kp q, .kp r]]⟩
def Ed:Fn [.I, .I, .I, .I, .R, .I, .I, .R, .R, .R, .R, .R, .R, .R, .R, .R, .I, .I, .I, .I, .I, .S, .I, .I, .I, .S, .I, .R] Tb:=λa b c d e f g h i j k l m o p q r s t u v w x y z aa ab ac=>[cP 0 900000900,cV 2 [.n a, .own 900001001, .own 900001002, .own 900001003, .own 900001004, .n b, .own 900001006, .own 900001007, .n c, .own 900001009, .own 900001010, .own 900001011],cP 6 10,cP 8 11,cP 10 12,cA 12 (.own 13),cI 14 d,oB 1800001801 [.sh 5 e, .n f, .n g],oR 1800002003 92 h,oR 1800002005 9 i,oR 1800002007 9 j,oR 1800002009 59 k,oR 1800002013 100 l,oR 1800002015 53 m,oR 1800002019 236 o,oR 1800002021 3 p,oR 1800002023 92 q,oB 21 [.n r, .own 900001001, .own 900001002, .own 900001003, .own 900001004, .n s, .own 900001006, .own 900001007, .n t, .own 900001009, .own 900001010, .own 900001011],oB 23 [.n u, .n v, .s w, .n x, .nl],oB 25 [.n y, .n z, .s aa, .n ab, .nl],oR 27 3 ac]
def OI(N:aE)(K:Kt R):=uN.l4 N (J Ed (.exit 0) K)
def YL(N:aE):It R:=(lp 4 (al Ed (λK=>OI N K N) an) ln)
theorem VT(N:aE):cq aeO (YL N (R:=R)) (b8 f184 4):=lq 4 Ed (OI N) λK g=>uN.r4 N g (J Ed (.exit 0) K)
def Z5:=eg akZ ao7 uN.c uN.v
theorem ag6:FO 184 Z5:=fq (E:=aeO) (aG WJ (aG rC (aG LH (aG Ri (aG Zs ba))))) func184 (it:=λN=>YL N) (λN=>(bk (VT N) bM)) uN.b uN.vo

def T3:=en [] [(3,[1,2,3,4])]
def akE:Fn [.R, .I] As:=λa b=>[aV [.sh 59 a, .n b]]
def aoM:Fn [.R, .I] dE:=λa b=>⟨[aV [.ow 59 ai a, .n b]],[]⟩
def qA:Fn [.I, .R, .I, .I, .I] Tb:=λa b c d e=>[cP 2 0,cP 4 1,cP 6 2,cI 8 a,oB 1 [.sh 59 b, .n c],oB 3 [.nl, .n d],oB 5 [.nl, .n e]]
def nP:Fn [.I, .R, .I, .I, .I, .R] Tb:=λa b c d e f=>[cP 2 0,cP 4 1,cP 6 2,cI 8 a,oB 1 [.sh 59 b, .n c],oB 3 [.nl, .n d],oB 5 [.own 3, .n e],oR 7 59 f]
def Ox(N:aE)(K:Kt R):=mr.l3 N (J qA (.exit 0) K) (J nP (.exit 0) K)
def Kr(N:aE)(K:Kt R):=mr.tW N (J qA (.exit 0) K) (J nP (.exit 0) K)
def Lq(N:aE):It R:=(lp 3 (al qA (λK=>Ox N K N) (al nP (λK=>Kr N K N) an)) ln)
theorem Md(N:aE)(K:Kt R):Wd T3 (Lq N) (b8 f146 3) 3 K nP (Kr N K):=lw (λg=>mr.z_ N (cmp _ qA (g∘fN)) (cmp _ nP (g∘fN)) (J qA (.exit 0) K) (J nP (.exit 0) K)) λm i=>by simp only[dW,wf i];rfl
theorem adC(N:aE)(K:Kt R):Wd T3 (Lq N) (b8 f146 3) 3 K qA (Ox N K):=lw (λg=>mr.r3 N (cmp _ qA (g∘fN)) (cmp _ nP (g∘fN)) (J qA (.exit 0) K) (J nP (.exit 0) K)) λm i=>by simp only[dW,wf i,wf (Md N K m)];rfl
theorem VJ(N:aE):cq T3 (Lq N (R:=R)) (b8 f146 3):=lm 3 (ga qA (adC N) (ga nP (Md N) pb))
def H2:=eg akE aoM mr.c mr.v
theorem LJ:FO 146 H2:=fq (E:=T3) ba func146 (it:=λN=>Lq N) (λN=>(bk (VJ N) bM)) mr.b mr.vo

def amg:=en [(146,H2)] []
def aky:Fn [.R, .R, .R, .I] As:=λa b c d=>[aV [.sh 9 a, .sh 9 b, .sh 59 c, .n d]]
def aoG:Fn [.R, .R, .R, .I] dE:=λa b c d=>⟨[aV [.ow 9 ai a, .ow 9 ai b, .ow 59 ai c, .n d]],[]⟩
def LZ:=eg aky aoG fw.c fw.v
theorem Rm:FO 140 LZ:=fr (E:=amg) (aG LJ ba) func140 fw.b fw.vo

def E48:=en [(140,LZ)] []
def A48:Fn [.I, .R, .R, .R, .R, .I, .R, .R, .I] As:=λa b c d e f g h i=>[aV [.n a, .sh 92 b, .sh 9 c, .sh 9 d, .sh 59 e, .n f, .sh 100 g, .sh 53 h, .n i]]
def k48:Fn [.I, .R, .R, .R, .R, .I, .R, .R, .I] dE:=λa b c d e f g h i=>⟨[aV [.n a, .ow 92 ai b, .ow 9 ai c, .ow 9 ai d, .ow 59 ai e, .n f, .ow 100 ai g, .ow 53 ai h, .n i]],[]⟩
def H4:=eg A48 k48 ka.c ka.v
theorem JO:FO 48 H4:=fr (E:=E48) (aG Rm ba) func48 ka.b ka.vo

def E49:=en [] []
def A49:Fn [.I, .I, .I] As:=λa b c=>[aI a,aI b,aI c]
def k49:Fn [.B] dE:=λa=>⟨[aB a],[]⟩
def tZ:=eg A49 k49 (ct _) kg.v
theorem va:FO 49 tZ:=ft (E:=E49) ba func49 kg.b λ(a0,a1,a2,_)=>kg.fJ _ a0 a1 a2

def E50:=en [(49,tZ)] []
def A50:Fn [.S] As:=λa=>[aS a]
def k50:Fn [.B] dE:=λa=>⟨[aB a],[]⟩
def Kb:=eg A50 k50 (ct _) Gu.v
theorem Nk:FO 50 Kb:=ft (E:=E50) (aG va ba) func50 Gu.b λ(a0,_)=>Gu.fJ _ a0

def amh:=en [(50,Kb),(49,tZ)] []
def akz:Fn [.S, .I, .I, .S] As:=λa b c d=>[aV [.s a, .n b, .n c, .s d]]
def aoH:Fn [.B] dE:=λa=>⟨[aB a],[]⟩
def H0:=eg akz aoH (ct _) iI.v
theorem LI:FO 141 H0:=ft (E:=amh) (aG Nk (aG va ba)) func141 iI.b λ(a0,a1,a2,a3,_)=>iI.fJ _ a0 a1 a2 a3

def aeH:=en [] [(2,[0,1,4,5])]
def akB:Fn [.R, .S] As:=λa b=>[aH 9 a,aS b]
def aoJ:Fn [.B] dE:=λa=>⟨[aB a],[]⟩
def xB:Fn [.R, .S, .B, .I] Tb:=λa b c d=>[cH 0 9 a,cA 2 (.s b),cA 8 (.b c),cI 10 d]
def Ou(N:aE)(K:Kt R):=eT.l2 N (J xB .ret K) (J xB (.exit 0) K)
def YE(N:aE):It R:=(lp 2 (al xB (λK=>Ou N K N) an) ln)
theorem VG(N:aE):cq aeH (YE N (R:=R)) (b8 f143 2):=lq 2 xB (Ou N) λK g=>eT.r2 N g (J xB .ret K) (J xB (.exit 0) K)
def L0:=eg akB aoJ eT.c eT.v
theorem Rn:FO 143 L0:=fq (E:=aeH) ba func143 (it:=λN=>YE N) (λN=>(bk (VG N) bM)) eT.b eT.vo

def amD:=en [(143,L0)] []
def alj:Fn [.R, .R, .R, .I, .S] As:=λa b c d e=>[aV [.sh 9 a, .sh 9 b, .sh 59 c, .n d],aS e]
def aps:Fn [.B] dE:=λa=>⟨[aB a],[]⟩
def SA:=eg alj aps sd.c sd.v
theorem Zt:FO 213 SA:=fr (E:=amD) (aG Rn ba) func213 sd.b sd.vo

def aaV:=en [(49,tZ)] [(4,[1,2,3]),(9,[1,2,3,4])]
def akF:Fn [.R, .I] As:=λa b=>[aV [.sh 59 a, .n b]]
def aoN:Fn [.B] dE:=λa=>⟨[aB a],[]⟩
def xC:Fn [.B, .I, .R, .I] Tb:=λa b c d=>[cP 2 0,cA 4 (.b a),cI 6 b,oB 1 [.sh 59 c, .n d]]
def xD:Fn [.B, .I, .I, .R, .I] Tb:=λa b c d e=>[cP 2 0,cA 4 (.b a),cI 6 b,cI 8 c,oB 1 [.sh 59 d, .n e]]
def Oy(N:aE)(K:Kt R):=e7.l4 N (J xC .ret K) (J xC (.exit 0) K)
def Oz(N:aE)(K:Kt R):=e7.l9 N (J xD .ret K) (J xD (.exit 2) K)
def QM(N:aE):It R:=(lp 4 (al xC (λK=>Oy N K N) an) (lp 9 (al xD (λK=>Oz N K N) an) ln))
theorem VK(N:aE):cq aaV (QM N (R:=R)) (b8 f147 4):=lq 4 xC (Oy N) λK g=>e7.r4 N g (J xC .ret K) (J xC (.exit 0) K)
theorem VL(N:aE):cq aaV (QM N (R:=R)) (b8 f147 9):=lq 9 xD (Oz N) λK g=>e7.r9 N g (J xD .ret K) (J xD (.exit 2) K)
def L4:=eg akF aoN e7.c e7.v
theorem Ro:FO 147 L4:=fq (E:=aaV) (aG va ba) func147 (it:=λN=>QM N) (λN=>(bk (VK N) (bk (VL N) bM))) e7.b e7.vo

def aeG:=en [(50,Kb),(143,L0),(147,L4)] [(3,[1,2,3,4])]
def akA:Fn [.R, .R, .R, .I] As:=λa b c d=>[aV [.sh 9 a, .sh 9 b, .sh 59 c, .n d]]
def aoI:Fn [.B] dE:=λa=>⟨[aB a],[]⟩
def xA:Fn [.B, .I, .R, .R, .R, .I, .R] Tb:=λa b c d e f g=>[cP 2 0,cA 4 (.b a),cA 6 (.own 1),cI 8 b,oB 1 [.sh 9 c, .sh 9 d, .sh 59 e, .n f],oR 3 9 g]
def Ot(N:aE)(K:Kt R):=jk.l3 N (J xA .ret K) (J xA (.exit 0) K)
def YD(N:aE):It R:=(lp 3 (al xA (λK=>Ot N K N) an) ln)
theorem VF(N:aE):cq aeG (YD N (R:=R)) (b8 f142 3):=lq 3 xA (Ot N) λK g=>jk.r3 N g (J xA .ret K) (J xA (.exit 0) K)
def Sf:=eg akA aoI jk.c jk.v
theorem Ze:FO 142 Sf:=fq (E:=aeG) (aG Nk (aG Rn (aG Ro ba))) func142 (it:=λN=>YD N) (λN=>(bk (VF N) bM)) jk.b jk.vo

def aeE:=en [(141,H0),(213,SA),(142,Sf)] [(2,[1,2,3])]
def akw:Fn [.I, .R, .R, .R, .R, .I, .R, .R, .I] As:=λa b c d e f g h i=>[aV [.n a, .sh 92 b, .sh 9 c, .sh 9 d, .sh 59 e, .n f, .sh 100 g, .sh 53 h, .n i]]
def aoE:Fn [.B] dE:=λa=>⟨[aB a],[]⟩
def w8:Fn [.B, .I, .I, .R, .R, .R, .R, .I, .R, .R, .I] Tb:=λa b c d e f g h i j k=>[cP 2 0,cA 4 (.b a),cI 6 b,oB 1 [.n c, .sh 92 d, .sh 9 e, .sh 9 f, .sh 59 g, .n h, .sh 100 i, .sh 53 j, .n k]]
def Oo(N:aE)(K:Kt R):=m9.l2 N (J w8 .ret K) (J w8 (.exit 0) K)
def YB(N:aE):It R:=(lp 2 (al w8 (λK=>Oo N K N) an) ln)
theorem VD(N:aE):cq aeE (YB N (R:=R)) (b8 f133 2):=lq 2 w8 (Oo N) λK g=>m9.r2 N g (J w8 .ret K) (J w8 (.exit 0) K)
def ZU:=eg akw aoE m9.c m9.v
theorem agV:FO 133 ZU:=fq (E:=aeE) (aG LI (aG Zt (aG Ze ba))) func133 (it:=λN=>YB N) (λN=>(bk (VD N) bM)) m9.b m9.vo

def aeF:=en [(50,Kb),(49,tZ)] [(5,[1,2,4,5,6])]
def akx:Fn [.I, .R, .R, .R, .R, .I, .R, .R, .I, .I] As:=λa b c d e f g h i j=>[aV [.n a, .sh 92 b, .sh 9 c, .sh 9 d, .sh 59 e, .n f, .sh 100 g, .sh 53 h, .n i],aI j]
def aoF:Fn [.B] dE:=λa=>⟨[aB a],[]⟩
def w_:Fn [.I, .B, .I, .I, .R, .R, .R, .R, .I, .R, .R, .I, .S, .S, .I, .I, .I] Tb:=λa b c d e f g h i j k l m o p q r=>[cI 2 a,cP 4 0,cA 8 (.b b),cP 10 1,cI 12 c,oB 1 [.n d, .sh 92 e, .sh 9 f, .sh 9 g, .sh 59 h, .n i, .sh 100 j, .sh 53 k, .n l],oB 3 [.s m, .s o, .n p, .n q, .n r]]
def Oq(N:aE)(K:Kt R):=m_.l5 N (J w_ .ret K) (J w_ (.exit 0) K)
def YC(N:aE):It R:=(lp 5 (al w_ (λK=>Oq N K N) an) ln)
theorem VE(N:aE):cq aeF (YC N (R:=R)) (b8 f134 5):=lq 5 w_ (Oq N) λK g=>m_.r5 N g (J w_ .ret K) (J w_ (.exit 0) K)
def ZV:=eg akx aoF m_.c m_.v
theorem agW:FO 134 ZV:=fq (E:=aeF) (aG Nk (aG va ba)) func134 (it:=λN=>YC N) (λN=>(bk (VE N) bM)) m_.b m_.vo

def E43:=en [(49,tZ),(133,ZU),(134,ZV),(50,Kb)] [(4,[1,2,3]),(9,[1,2,4])]
def A43:Fn [.I, .R, .R, .R, .R, .I, .R, .R, .I] As:=λa b c d e f g h i=>[aV [.n a, .sh 92 b, .sh 9 c, .sh 9 d, .sh 59 e, .n f, .sh 100 g, .sh 53 h, .n i]]
def k43:Fn [.B] dE:=λa=>⟨[aB a],[]⟩
def C8:Fn [.B, .I, .I, .R, .R, .R, .R, .I, .R, .R, .I] Tb:=λa b c d e f g h i j k=>[cP 2 0,cA 4 (.b a),cI 6 b,oB 1 [.n c, .sh 92 d, .sh 9 e, .sh 9 f, .sh 59 g, .n h, .sh 100 i, .sh 53 j, .n k]]
def C9:Fn [.B, .I, .I, .R, .R, .R, .R, .I, .R, .R, .I] Tb:=λa b c d e f g h i j k=>[cP 2 0,cA 4 (.b a),cI 8 b,oB 1 [.n c, .sh 92 d, .sh 9 e, .sh 9 f, .sh 59 g, .n h, .sh 100 i, .sh 53 j, .n k]]
def XJ(N:aE)(K:Kt R):=mo.l4 N (J C8 .ret K) (J C8 (.exit 0) K)
def XK(N:aE)(K:Kt R):=mo.l9 N (J C9 .ret K) (J C9 (.exit 2) K)
def acu(N:aE):It R:=(lp 4 (al C8 (λK=>XJ N K N) an) (lp 9 (al C9 (λK=>XK N K N) an) ln))
theorem acI(N:aE):cq E43 (acu N (R:=R)) (b8 f43 4):=lq 4 C8 (XJ N) λK g=>mo.r4 N g (J C8 .ret K) (J C8 (.exit 0) K)
theorem acJ(N:aE):cq E43 (acu N (R:=R)) (b8 f43 9):=lq 9 C9 (XK N) λK g=>mo.r9 N g (J C9 .ret K) (J C9 (.exit 2) K)
def Xb:=eg A43 k43 mo.c mo.v
theorem ac2:FO 43 Xb:=fq (E:=E43) (aG va (aG agV (aG agW (aG Nk ba)))) func43 (it:=λN=>acu N) (λN=>(bk (acI N) (bk (acJ N) bM))) mo.b mo.vo

def E51:=en [] [(2,[1,2,4,5,6])]
def A51:Fn [.I, .R, .R, .R, .R, .I, .R, .R, .I, .S] As:=λa b c d e f g h i j=>[aV [.n a, .sh 92 b, .sh 9 c, .sh 9 d, .sh 59 e, .n f, .sh 100 g, .sh 53 h, .n i],aS j]
def k51:Fn [.S, .I, .I, .S, .B] dE:=λa b c d e=>⟨[aV [.s a, .n b, .n c, .s d],aB e],[]⟩
def C_:Fn [.S, .B, .I, .I, .R, .R, .R, .R, .I, .R, .R, .I, .S, .I, .I, .S] Tb:=λa b c d e f g h i j k l m o p q=>[cA 2 (.s a),cP 4 0,cP 8 1,cA 10 (.b b),cI 12 c,oB 1 [.n d, .sh 92 e, .sh 9 f, .sh 9 g, .sh 59 h, .n i, .sh 100 j, .sh 53 k, .n l],oB 3 [.s m, .n o, .n p, .s q]]
def XL(N:aE)(K:Kt R):=KR.l2 N (J C_ .ret K) (J C_ (.exit 0) K)
def agk(N:aE):It R:=(lp 2 (al C_ (λK=>XL N K N) an) ln)
theorem acK(N:aE):cq E51 (agk N (R:=R)) (b8 f51 2):=lq 2 C_ (XL N) λK g=>KR.r2 N g (J C_ .ret K) (J C_ (.exit 0) K)
def aiu:=eg A51 k51 KR.c KR.v
theorem aqE:FO 51 aiu:=fq (E:=E51) ba func51 (it:=λN=>agk N) (λN=>(bk (acK N) bM)) KR.b KR.vo

def E52:=en [(141,H0),(49,tZ)] []
def A52:Fn [.S, .I, .I, .S, .I] As:=λa b c d e=>[aV [.s a, .n b, .n c, .s d],aI e]
def k52:Fn [.B] dE:=λa=>⟨[aB a],[]⟩
def Xc:=eg A52 k52 (ct _) Ie.v
theorem ac3:FO 52 Xc:=ft (E:=E52) (aG LI (aG va ba)) func52 Ie.b λ(a0,a1,a2,a3,a4,_)=>Ie.fJ _ a0 a1 a2 a3 a4

def aaZ:=en [] [(2,[0,1,5]),(6,[0,1,5,6])]
def alJ:Fn [.I, .S] As:=λa b=>[.v ak [.i .u32 a],aS b]
def apS:Fn [.I] dE:=λa=>⟨[.v ak [.i .u32 a]],[]⟩
def El:Fn [.I, .S, .I] Tb:=λa b c=>[cA 0 (.i .u32 a),cA 2 (.s b),cI 10 c]
def Em:Fn [.I, .S, .I, .I] Tb:=λa b c d=>[cA 0 (.i .u32 a),cA 2 (.s b),cI 10 c,cI 12 d]
def O4(N:aE)(K:Kt R):=jr.l2 N (J El (.exit 0) K)
def O5(N:aE)(K:Kt R):=jr.l6 N (J Em (.exit 2) K)
def QS(N:aE):It R:=(lp 2 (al El (λK=>O4 N K N) an) (lp 6 (al Em (λK=>O5 N K N) an) ln))
theorem V_(N:aE):cq aaZ (QS N (R:=R)) (b8 f250 2):=lq 2 El (O4 N) λK g=>jr.r2 N g (J El (.exit 0) K)
theorem Wa(N:aE):cq aaZ (QS N (R:=R)) (b8 f250 6):=lq 6 Em (O5 N) λK g=>jr.r6 N g (J Em (.exit 2) K)
def aao:=eg alJ apS jr.c jr.v
theorem ahr:FO 250 aao:=fq (E:=aaZ) ba func250 (it:=λN=>QS N) (λN=>(bk (V_ N) (bk (Wa N) bM))) jr.b jr.vo

def amE:=en [(250,aao)] []
def alk:Fn [.S] As:=λa=>[aS a]
def apt:Fn [.I] dE:=λa=>⟨[.v ak [.i .u32 a]],[]⟩
def SB:=eg alk apt uQ.c uQ.v
theorem Zu:FO 215 SB:=fr (E:=amE) (aG ahr ba) func215 uQ.b uQ.vo

def ami:=en [(215,SB)] []
def akG:Fn [.I, .S] As:=λa b=>[aI a,aS b]
def aoO:Fn [.I] dE:=λa=>⟨[aI a],[]⟩
def Sh:=eg akG aoO fY.c fY.v
theorem Zg:FO 148 Sh:=fr (E:=ami) (aG Zu ba) func148 fY.b fY.vo

def E57:=en [(146,H2),(147,L4),(148,Sh)] [(5,[1,4,5,6]),(14,[4,5,8]),(17,[4,5,8,9])]
def A57:Fn [.R, .I, .S] As:=λa b c=>[aV [.sh 59 a, .n b],aS c]
def k57:Fn [.R, .I] dE:=λa b=>⟨[aV [.ow 59 ai a, .n b]],[]⟩
def KL:Fn [.S, .I, .I, .I, .R] Tb:=λa b c d e=>[cA 2 (.s a),cP 8 0,cP 10 1,cI 12 b,oB 1 [.nl, .n c],oB 3 [.own 2, .n d],oR 5 59 e]
def EA:Fn [.I, .I, .I, .R] Tb:=λa b c d=>[cP 8 0,cP 10 1,cI 16 a,oB 1 [.nl, .n b],oB 3 [.own 2, .n c],oR 5 59 d]
def EB:Fn [.I, .I, .I, .I, .R] Tb:=λa b c d e=>[cP 8 0,cP 10 1,cI 16 a,cI 18 b,oB 1 [.nl, .n c],oB 3 [.own 2, .n d],oR 5 59 e]
def XP(N:aE)(K:Kt R):=fg.l5 N (J KL (.exit 0) K)
def Pq(N:aE)(K:Kt R):=fg.l14 N (J EA (.exit 2) K)
def Ps(N:aE)(K:Kt R):=fg.l17 N (J EB (.exit 4) K)
def Vq(N:aE):It R:=(lp 5 (al KL (λK=>XP N K N) an) (lp 14 (al EA (λK=>Pq N K N) an) (lp 17 (al EB (λK=>Ps N K N) an) ln)))
theorem acO(N:aE):cq E57 (Vq N (R:=R)) (b8 f57 5):=lq 5 KL (XP N) λK g=>fg.r5 N g (J KL (.exit 0) K)
theorem Wt(N:aE):cq E57 (Vq N (R:=R)) (b8 f57 14):=lq 14 EA (Pq N) λK g=>fg.r14 N g (J EA (.exit 2) K)
theorem Wu(N:aE):cq E57 (Vq N (R:=R)) (b8 f57 17):=lq 17 EB (Ps N) λK g=>fg.r17 N g (J EB (.exit 4) K)
def Xe:=eg A57 k57 fg.c fg.v
theorem ac5:FO 57 Xe:=fq (E:=E57) (aG LJ (aG Ro (aG Zg ba))) func57 (it:=λN=>Vq N) (λN=>(bk (acO N) (bk (Wt N) (bk (Wu N) bM)))) fg.b fg.vo

def aeI:=en [] [(3,[0,1,5,6])]
def akC:Fn [.R, .S] As:=λa b=>[aH 9 a,aS b]
def aoK:Fn [.R] dE:=λa=>⟨[aO 9 a],[]⟩
def D_:Fn [.R, .S, .I, .R] Tb:=λa b c d=>[cH 0 9 a,cA 2 (.s b),cA 10 (.own 0),cI 12 c,oR 1 9 d]
def Ov(N:aE)(K:Kt R):=ot.l3 N (J D_ (.exit 0) K)
def YF(N:aE):It R:=(lp 3 (al D_ (λK=>Ov N K N) an) ln)
theorem VH(N:aE):cq aeI (YF N (R:=R)) (b8 f144 3):=lq 3 D_ (Ov N) λK g=>ot.r3 N g (J D_ (.exit 0) K)
def Sg:=eg akC aoK ot.c ot.v
theorem Zf:FO 144 Sg:=fq (E:=aeI) ba func144 (it:=λN=>YF N) (λN=>(bk (VH N) bM)) ot.b ot.vo

def aeJ:=en [(147,L4),(148,Sh)] [(5,[1,2,5,6])]
def akD:Fn [.R, .I, .S] As:=λa b c=>[aV [.sh 59 a, .n b],aS c]
def aoL:Fn [.I] dE:=λa=>⟨[aI a],[]⟩
def Ea:Fn [.S, .I, .I, .R, .I] Tb:=λa b c d e=>[cA 2 (.s a),cP 4 0,cI 10 b,cI 12 c,oB 1 [.sh 59 d, .n e]]
def Ow(N:aE)(K:Kt R):=lV.l5 N (J Ea (.exit 0) K)
def YG(N:aE):It R:=(lp 5 (al Ea (λK=>Ow N K N) an) ln)
theorem VI(N:aE):cq aeJ (YG N (R:=R)) (b8 f145 5):=lq 5 Ea (Ow N) λK g=>lV.r5 N g (J Ea (.exit 0) K)
def ZW:=eg akD aoL lV.c lV.v
theorem agX:FO 145 ZW:=fq (E:=aeJ) (aG Ro (aG Zg ba)) func145 (it:=λN=>YG N) (λN=>(bk (VI N) bM)) lV.b lV.vo

def E53:=en [(140,LZ),(142,Sf),(50,Kb),(57,Xe),(143,L0),(144,Sg),(145,ZW)] []
def A53:Fn [.R, .R, .R, .I, .S] As:=λa b c d e=>[aV [.sh 9 a, .sh 9 b, .sh 59 c, .n d],aS e]
def k53:Fn [.R, .R, .R, .I, .S] dE:=λa b c d e=>⟨[aV [.ow 9 ai a, .ow 9 ai b, .ow 59 ai c, .n d],aS e],[]⟩
def Xd:=eg A53 k53 jd.c jd.v
theorem ac4:FO 53 Xd:=fr (E:=E53) (aG Rm (aG Ze (aG Nk (aG ac5 (aG Rn (aG Zf (aG agX ba))))))) func53 jd.b jd.vo

def E54:=en [] [(3,[0,3,5,6]),(9,[0,3,5,7])]
def A54:Fn [.R, .I, .S, .I, .I, .I, .S, .I] As:=λa b c d e f g h=>[aH 53 a,aV [.n b, .s c, .n d, .n e, .n f, .s g, .n h]]
def k54:Fn [.R] dE:=λa=>⟨[aO 53 a],[]⟩
def KI:Fn [.R, .I, .I, .S, .I, .I, .I, .S, .I, .R] Tb:=λa b c d e f g h i j=>[cH 0 53 a,cP 6 0,cA 10 (.own 1),cI 12 b,oB 1 [.n c, .s d, .n e, .n f, .n g, .s h, .n i],oR 3 53 j]
def KJ:Fn [.R, .I, .I, .S, .I, .I, .I, .S, .I, .R] Tb:=λa b c d e f g h i j=>[cH 0 53 a,cP 6 0,cA 10 (.own 1),cI 14 b,oB 1 [.n c, .s d, .n e, .n f, .n g, .s h, .n i],oR 3 53 j]
def XM(N:aE)(K:Kt R):=ug.l3 N (J KI (.exit 0) K)
def XN(N:aE)(K:Kt R):=ug.l9 N (J KJ (.exit 2) K)
def acv(N:aE):It R:=(lp 3 (al KI (λK=>XM N K N) an) (lp 9 (al KJ (λK=>XN N K N) an) ln))
theorem acL(N:aE):cq E54 (acv N (R:=R)) (b8 f54 3):=lq 3 KI (XM N) λK g=>ug.r3 N g (J KI (.exit 0) K)
theorem acM(N:aE):cq E54 (acv N (R:=R)) (b8 f54 9):=lq 9 KJ (XN N) λK g=>ug.r9 N g (J KJ (.exit 2) K)
def aiv:=eg A54 k54 ug.c ug.v
theorem aqF:FO 54 aiv:=fq (E:=E54) ba func54 (it:=λN=>acv N) (λN=>(bk (acL N) (bk (acM N) bM))) ug.b ug.vo

def E55:=en [] [(3,[0,1,5,6])]
def A55:Fn [.R, .S] As:=λa b=>[aH 92 a,aS b]
def k55:Fn [.R] dE:=λa=>⟨[aO 92 a],[]⟩
def KK:Fn [.R, .S, .I, .R] Tb:=λa b c d=>[cH 0 92 a,cA 2 (.s b),cA 10 (.own 0),cI 12 c,oR 1 92 d]
def XO(N:aE)(K:Kt R):=Ct.l3 N (J KK (.exit 0) K)
def agl(N:aE):It R:=(lp 3 (al KK (λK=>XO N K N) an) ln)
theorem acN(N:aE):cq E55 (agl N (R:=R)) (b8 f55 3):=lq 3 KK (XO N) λK g=>Ct.r3 N g (J KK (.exit 0) K)
def adv:=eg A55 k55 Ct.c Ct.v
theorem ahJ:FO 55 adv:=fq (E:=E55) ba func55 (it:=λN=>agl N) (λN=>(bk (acN N) bM)) Ct.b Ct.vo

def E56:=en [(144,Sg),(146,H2)] []
def A56:Fn [.R, .R, .R, .I, .S] As:=λa b c d e=>[aV [.sh 9 a, .sh 9 b, .sh 59 c, .n d],aS e]
def k56:Fn [.R, .R, .R, .I] dE:=λa b c d=>⟨[aV [.ow 9 ai a, .ow 9 ai b, .ow 59 ai c, .n d]],[]⟩
def aiw:=eg A56 k56 Ig.c Ig.v
theorem aqG:FO 56 aiw:=fr (E:=E56) (aG Zf (aG LJ ba)) func56 Ig.b Ig.vo

def E9:=en [(48,H4),(43,Xb),(49,tZ),(50,Kb),(51,aiu),(52,Xc),(53,Xd),(54,aiv),(55,adv),(56,aiw),(57,Xe)] [(5,[1,2,3,6,7,8,9]),(22,[2,3,6,8,10,12,13])]
def A9:Fn [.I, .R, .R, .R, .R, .I, .R, .R, .I, .I, .S] As:=λa b c d e f g h i j k=>[aV [.n a, .sh 92 b, .sh 9 c, .sh 9 d, .sh 59 e, .n f, .sh 100 g, .sh 53 h, .n i],aI j,aS k]
def k9:Fn [.I, .R, .R, .R, .R, .I, .R, .R, .I, .I] dE:=λa b c d e f g h i j=>⟨[aV [.n a, .ow 92 ai b, .ow 9 ai c, .ow 9 ai d, .ow 59 ai e, .n f, .ow 100 ai g, .ow 53 ai h, .n i],aI j],[]⟩
def Uk:Fn [.I, .S, .I, .I, .I, .R, .R, .R, .R, .I, .R, .R, .I, .I, .I, .I, .I, .I, .I, .R, .R, .R, .R, .R, .R] Tb:=λa b c d e f g h i j k l m o p q r s t u v w x y z=>[cI 2 a,cA 4 (.s b),cP 6 0,cP 12 1,cI 14 c,cP 16 2,cI 18 d,oB 1 [.n e, .sh 92 f, .sh 9 g, .sh 9 h, .sh 59 i, .n j, .sh 100 k, .sh 53 l, .n m],oB 3 [.n o, .nl, .nl, .nl, .nl, .n p, .nl, .nl, .n q],oB 5 [.n r, .own 3, .own 4, .own 5, .own 6, .n s, .own 7, .own 8, .n t],oR 7 92 u,oR 9 9 v,oR 11 9 w,oR 13 59 x,oR 15 100 y,oR 17 53 z]
def PM:Fn [.I, .S, .I, .I, .I, .R, .R, .R, .R, .I, .R, .R, .I, .I, .I, .I, .I, .I, .I, .R, .R, .R, .R, .R, .R] Tb:=λa b c d e f g h i j k l m o p q r s t u v w x y z=>[cI 2 a,cA 4 (.s b),cP 6 0,cP 12 1,cI 14 c,cP 16 2,cI 18 d,oB 1 [.n e, .sh 92 f, .sh 9 g, .sh 9 h, .sh 59 i, .n j, .sh 100 k, .sh 53 l, .n m],oB 3 [.n o, .own 3, .own 4, .own 5, .own 6, .n p, .own 7, .own 8, .n q],oB 5 [.n r, .own 3, .own 4, .own 5, .own 6, .n s, .own 7, .own 8, .n t],oR 7 92 u,oR 9 9 v,oR 11 9 w,oR 13 59 x,oR 15 100 y,oR 17 53 z]
def KQ:Fn [.S, .B, .I, .I, .R, .R, .R, .R, .I, .R, .R, .I, .I, .I, .I, .I, .I, .I, .I, .S, .I, .I, .I, .S, .I, .R, .R, .R, .R, .R, .R] Tb:=λa b c d e f g h i j k l m o p q r s t u v w x y z aa ab ac ad ae af=>[cA 4 (.s a),cP 6 0,cP 12 1,cP 16 2,cP 20 3,cA 24 (.b b),cI 26 c,oB 1 [.n d, .sh 92 e, .sh 9 f, .sh 9 g, .sh 59 h, .n i, .sh 100 j, .sh 53 k, .n l],oB 3 [.n m, .nl, .nl, .nl, .nl, .n o, .nl, .nl, .n p],oB 5 [.n q, .own 4, .own 5, .own 6, .own 7, .n r, .own 8, .own 9, .n s],oB 7 [.n t, .s u, .n v, .n w, .n x, .s y, .n z],oR 9 92 aa,oR 11 9 ab,oR 13 9 ac,oR 15 59 ad,oR 17 100 ae,oR 19 53 af]
def afi(N:aE)(K:Kt R):=U9.l5 N (J PM .ret K) (J Uk (.exit 0) K)
def XY(N:aE)(K:Kt R):=U9.Vu N (J KQ (.exit 2) K)
def it9(N:aE):It R:=(lp 5 (al Uk (λK=>afi N K N) an) (lp 22 (al KQ (λK=>XY N K N) an) ln))
theorem agB(N:aE):cq E9 (it9 N (R:=R)) (b8 f9 5):=lq 5 Uk (afi N) λK g=>U9.r5 N g (J PM .ret K) (J Uk (.exit 0) K)
theorem acX(N:aE):cq E9 (it9 N (R:=R)) (b8 f9 22):=lq 22 KQ (XY N) λK g=>U9.r22 N g (J KQ (.exit 2) K)
def sp9:=eg A9 k9 U9.c U9.v
theorem ok9:FO 9 sp9:=fq (E:=E9) (aG JO (aG ac2 (aG va (aG Nk (aG aqE (aG ac3 (aG ac4 (aG aqF (aG ahJ (aG aqG (aG ac5 ba))))))))))) func9 (it:=λN=>it9 N) (λN=>(bk (agB N) (bk (acX N) bM))) U9.b U9.vo

def amd:=en [(43,Xb),(49,tZ)] []
def aks:Fn [.I, .R, .R, .R, .R, .I, .R, .R, .I, .I] As:=λa b c d e f g h i j=>[aV [.n a, .sh 92 b, .sh 9 c, .sh 9 d, .sh 59 e, .n f, .sh 100 g, .sh 53 h, .n i],aI j]
def aoA:Fn [.B] dE:=λa=>⟨[aB a],[]⟩
def LX:=eg aks aoA tO.c tO.v
theorem Rk:FO 129 LX:=fr (E:=amd) (aG ac2 (aG va ba)) func129 tO.b tO.vo

def amC:=en [] []
def alh:Fn [.I, .S, .R] As:=λa b c=>[aV [.n a, .s b, .sh 231 c]]
def apq:Fn [.I, .S, .R] dE:=λa b c=>⟨[aV [.n a, .s b, .ow 231 ai c]],[]⟩
def aac:=eg alh apq IL.c IL.v
theorem ahe:FO 211 aac:=fh (E:=amC) ba func211 (it:=λ_=>ln) (λ_=>bM) (λ_=>IL.b) λx f h=>⟨0,IL.fJ _ x.1 x.2.1 x.2.2.1 h⟩

def aeV:=en [(49,tZ)] [(2,[1,2,3])]
def ali:Fn [.I, .S, .R] As:=λa b c=>[aV [.n a, .s b, .sh 231 c]]
def apr:Fn [.B] dE:=λa=>⟨[aB a],[]⟩
def xM:Fn [.B, .I, .I, .S, .R] Tb:=λa b c d e=>[cP 2 0,cA 4 (.b a),cI 6 b,oB 1 [.n c, .s d, .sh 231 e]]
def OS(N:aE)(K:Kt R):=kU.l2 N (J xM .ret K) (J xM (.exit 0) K)
def YS(N:aE):It R:=(lp 2 (al xM (λK=>OS N K N) an) ln)
theorem V2(N:aE):cq aeV (YS N (R:=R)) (b8 f212 2):=lq 2 xM (OS N) λK g=>kU.r2 N g (J xM .ret K) (J xM (.exit 0) K)
def aad:=eg ali apr (ct _) kU.v
theorem ahf:FO 212 aad:=fh (E:=aeV) (aG va ba) func212 (it:=λN=>YS N) (λN=>(bk (V2 N) bM)) kU.b λx f h=>kU.fJ _ x.1 x.2.1 x.2.2.1 f.1.2.1 f.1.2.2.1

def ame:=en [(211,aac),(212,aad),(49,tZ)] []
def akt:Fn [.I, .S, .R, .S] As:=λa b c d=>[aV [.n a, .s b, .sh 231 c],aS d]
def aoB:Fn [.I, .S, .R, .B] dE:=λa b c d=>⟨[aV [.n a, .s b, .ow 231 ai c],aB d],[]⟩
def ZT:=eg akt aoB EE.c EE.v
theorem agU:FO 130 ZT:=fh (E:=ame) (aG ahe (aG ahf (aG va ba))) func130 (it:=λ_=>ln) (λ_=>bM) (λ_=>EE.b) λx f h=>⟨0,EE.fJ _ x.1 x.2.1 x.2.2.1 x.2.2.2.1 h f.1.2.1 f.1.2.2.1 f.2.1.1⟩

def aeD:=en [] [(1,[0,1,2,6])]
def aku:Fn [.I, .R, .R, .R, .R, .I, .R, .R, .I, .I, .I] As:=λa b c d e f g h i j k=>[.pt [.n a, .ow 92 ai b, .ow 9 ai c, .ow 9 ai d, .ow 59 ai e, .n f, .ow 100 ai g, .ow 53 ai h, .n i],aI j,aI k]
def aoC:Fn [.I, .R, .R, .R, .R, .I, .R, .R, .I] dE:=λa b c d e f g h i=>⟨[],[[.n a, .kp b, .kp c, .kp d, .kp e, .n f, .kp g, .kp h, .n i]]⟩
def D9:Fn [.I, .I, .I, .I, .I, .I, .R, .R, .R, .R, .R, .R] Tb:=λa b c d e f g h i j k l=>[cP 0 900000900,cI 2 a,cI 4 b,cI 12 c,oB 1800001801 [.n d, .own 900000001, .own 900000002, .own 900000003, .own 900000004, .n e, .own 900000006, .own 900000007, .n f],oR 1800000003 92 g,oR 1800000005 9 h,oR 1800000007 9 i,oR 1800000009 59 j,oR 1800000013 100 k,oR 1800000015 53 l]
def On(N:aE)(K:Kt R):=rK.l1 N (J D9 (.exit 0) K)
def YA(N:aE):It R:=(lp 1 (al D9 (λK=>On N K N) an) ln)
theorem VC(N:aE):cq aeD (YA N (R:=R)) (b8 f131 1):=lq 1 D9 (On N) λK g=>rK.r1 N g (J D9 (.exit 0) K)
def LY:=eg aku aoC rK.c rK.v
theorem Rl:FO 131 LY:=fq (E:=aeD) ba func131 (it:=λN=>YA N) (λN=>(bk (VC N) bM)) rK.b rK.vo

def E38:=en [(48,H4),(129,LX),(130,ZT),(131,LY)] []
def A38:Fn [.I, .R, .R, .R, .R, .I, .R, .R, .I, .I, .S] As:=λa b c d e f g h i j k=>[aV [.n a, .sh 92 b, .sh 9 c, .sh 9 d, .sh 59 e, .n f, .sh 100 g, .sh 53 h, .n i],aI j,aS k]
def k38:Fn [.I, .R, .R, .R, .R, .I, .R, .R, .I, .B] dE:=λa b c d e f g h i j=>⟨[aV [.n a, .ow 92 ai b, .ow 9 ai c, .ow 9 ai d, .ow 59 ai e, .n f, .ow 100 ai g, .ow 53 ai h, .n i],aB j],[]⟩
def ads:=eg A38 k38 Mz.c Mz.v
theorem ahG:FO 38 ads:=fr (E:=E38) (aG JO (aG Rk (aG agU (aG Rl ba)))) func38 Mz.b Mz.vo

def aaX:=en [] [(3,[0,3,5,6]),(9,[0,3,5,7])]
def ala:Fn [.R, .S, .I, .I, .S] As:=λa b c d e=>[aH 92 a,aV [.s b, .n c, .n d, .s e]]
def api:Fn [.R] dE:=λa=>⟨[aO 92 a],[]⟩
def Eg:Fn [.R, .I, .S, .I, .I, .S, .R] Tb:=λa b c d e f g=>[cH 0 92 a,cP 6 0,cA 10 (.own 1),cI 12 b,oB 1 [.s c, .n d, .n e, .s f],oR 3 92 g]
def Eh:Fn [.R, .I, .S, .I, .I, .S, .R] Tb:=λa b c d e f g=>[cH 0 92 a,cP 6 0,cA 10 (.own 1),cI 14 b,oB 1 [.s c, .n d, .n e, .s f],oR 3 92 g]
def OQ(N:aE)(K:Kt R):=fI.l3 N (J Eg (.exit 0) K)
def OR(N:aE)(K:Kt R):=fI.l9 N (J Eh (.exit 2) K)
def QQ(N:aE):It R:=(lp 3 (al Eg (λK=>OQ N K N) an) (lp 9 (al Eh (λK=>OR N K N) an) ln))
theorem V0(N:aE):cq aaX (QQ N (R:=R)) (b8 f198 3):=lq 3 Eg (OQ N) λK g=>fI.r3 N g (J Eg (.exit 0) K)
theorem V1(N:aE):cq aaX (QQ N (R:=R)) (b8 f198 9):=lq 9 Eh (OR N) λK g=>fI.r9 N g (J Eh (.exit 2) K)
def Sy:=eg ala api fI.c fI.v
theorem Zr:FO 198 Sy:=fq (E:=aaX) ba func198 (it:=λN=>QQ N) (λN=>(bk (V0 N) (bk (V1 N) bM))) fI.b fI.vo

def amf:=WA T md [(53,Xd),(55,adv),(213,SA),(198,Sy)] [] [] [(0,1, .own 92),(0,2, .own 9),(0,3, .own 9),(0,4, .own 59)]
def akv:Fn [.I, .R, .R, .R, .R, .I, .R, .R, .I, .S, .I, .I, .S] As:=λa b c d e f g h i j k l m=>[.pt [.n a, .ow 92 ai b, .ow 9 ai c, .ow 9 ai d, .ow 59 ai e, .n f, .ow 100 ai g, .ow 53 ai h, .n i],aV [.s j, .n k, .n l, .s m]]
def aoD:Fn [.I, .R, .R, .R, .R, .I, .R, .R, .I] dE:=λa b c d e f g h i=>⟨[],[[.n a, .ow 92 ai b, .ow 9 ai c, .ow 9 ai d, .ow 59 ai e, .n f, .kp g, .kp h, .n i]]⟩
def Sd:=eg akv aoD xV.c xV.v
theorem Zd:FO 132 Sd:=fr (E:=amf) (aG ac4 (aG ahJ (aG Zt (aG Zr ba)))) func132 xV.b xV.vo

def E40:=en [(48,H4),(129,LX),(49,tZ),(131,LY),(132,Sd)] []
def A40:Fn [.I, .R, .R, .R, .R, .I, .R, .R, .I, .I, .I] As:=λa b c d e f g h i j k=>[aV [.n a, .sh 92 b, .sh 9 c, .sh 9 d, .sh 59 e, .n f, .sh 100 g, .sh 53 h, .n i],aI j,aI k]
def k40:Fn [.I, .R, .R, .R, .R, .I, .R, .R, .I, .B] dE:=λa b c d e f g h i j=>⟨[aV [.n a, .ow 92 ai b, .ow 9 ai c, .ow 9 ai d, .ow 59 ai e, .n f, .ow 100 ai g, .ow 53 ai h, .n i],aB j],[]⟩
def adt:=eg A40 k40 MA.c MA.v
theorem ahH:FO 40 adt:=fr (E:=E40) (aG JO (aG Rk (aG va (aG Rl (aG Zd ba))))) func40 MA.b MA.vo

def ae4:=en [] [(2,[0,3])]
def alS:Fn [.I] As:=λa=>[aI a]
def ap1:Fn [.S] dE:=λa=>⟨[aS a],[]⟩
def Es:Fn [.I, .R] Tb:=λa b=>[cI 0 a,cA 6 (.own 0),oR 1 5 b]
def Pc(N:aE)(K:Kt R):=jT.l2 N (J Es (.exit 0) K)
def Y1(N:aE):It R:=(lp 2 (al Es (λK=>Pc N K N) an) ln)
theorem Wi(N:aE):cq ae4 (Y1 N (R:=R)) (b8 f264 2):=lq 2 Es (Pc N) λK g=>jT.r2 N g (J Es (.exit 0) K)
def Mc:=eg alS ap1 jT.c jT.v
theorem Rw:FO 264 Mc:=fh (E:=ae4) ba func264 (it:=λN=>Y1 N) (λN=>(bk (Wi N) bM)) jT.b λx f h=>jT.fJ _ x.1 h

def amQ:=en [(141,H0),(264,Mc)] []
def alE:Fn [.S, .I, .I, .S] As:=λa b c d=>[aV [.s a, .n b, .n c, .s d]]
def apM:Fn [.S, .B] dE:=λa b=>⟨[aS a,aB b],[]⟩
def Mb:=eg alE apM (ct _) jI.v
theorem Rv:FO 241 Mb:=fh (E:=amQ) (aG LI (aG Rw ba)) func241 (it:=λ_=>ln) (λ_=>bM) (λ_=>jI.b) λx f h=>⟨0,jI.fJ _ x.1 x.2.1 x.2.2.1 x.2.2.2.1⟩

def amU:=en [] []
def alT:Fn [.I] As:=λa=>[.v ak [.i .u32 a]]
def ap2:Fn [.S] dE:=λa=>⟨[aS a],[]⟩
def aav:=eg alT ap2 (ct _) oX.v
theorem ahy:FO 265 aav:=ft (E:=amU) ba func265 oX.b λ(a0,_)=>oX.fJ _ a0

def amO:=en [(49,tZ),(264,Mc),(215,SB),(265,aav)] []
def alC:Fn [.S] As:=λa=>[aS a]
def apJ:Fn [.S, .B] dE:=λa b=>⟨[aS a,aB b],[]⟩
def Ma:=eg alC apJ fT.c fT.v
theorem Ru:FO 239 Ma:=fr (E:=amO) (aG va (aG Rw (aG Zu (aG ahy ba)))) func239 fT.b fT.vo

def amV:=en [(241,Mb),(239,Ma)] []
def alV:Fn [.S, .I, .I, .S] As:=λa b c d=>[aV [.s a, .n b, .n c, .s d]]
def ap4:Fn [.R, .B] dE:=λa b=>⟨[aO 268 a,aB b],[]⟩
def aaw:=eg alV ap4 Cs.c Cs.v
theorem ahz:FO 270 aaw:=fr (E:=amV) (aG Rv (aG Ru ba)) func270 Cs.b Cs.vo

def amN:=en [(49,tZ)] []
def alz:Fn [.S] As:=λa=>[aS a]
def apG:Fn [.B] dE:=λa=>⟨[aB a],[]⟩
def SG:=eg alz apG (ct _) uS.v
theorem Zy:FO 236 SG:=ft (E:=amN) (aG va ba) func236 uS.b λ(a0,_)=>uS.fJ _ a0

def aeT:=en [(236,SG),(49,tZ)] [(4,[1,2,3])]
def ak7:Fn [.R] As:=λa=>[aV [.sh 236 a]]
def ape:Fn [.B] dE:=λa=>⟨[aB a],[]⟩
def xL:Fn [.B, .I, .R] Tb:=λa b c=>[cP 2 0,cA 4 (.b a),cI 6 b,oB 1 [.sh 236 c]]
def OO(N:aE)(K:Kt R):=fy.l4 N (J xL .ret K) (J xL (.exit 0) K)
def YQ(N:aE):It R:=(lp 4 (al xL (λK=>OO N K N) an) ln)
theorem VY(N:aE):cq aeT (YQ N (R:=R)) (b8 f194 4):=lq 4 xL (OO N) λK g=>fy.r4 N g (J xL .ret K) (J xL (.exit 0) K)
def H3:=eg ak7 ape fy.c fy.v
theorem LK:FO 194 H3:=fq (E:=aeT) (aG Zy (aG va ba)) func194 (it:=λN=>YQ N) (λN=>(bk (VY N) bM)) fy.b fy.vo

def ae0:=en [] [(2,[1,2,4,5])]
def alA:Fn [.R, .S] As:=λa b=>[aV [.sh 236 a],aS b]
def apH:Fn [.I] dE:=λa=>⟨[aI a],[]⟩
def xP:Fn [.S, .I, .I, .R] Tb:=λa b c d=>[cA 2 (.s a),cP 4 0,cI 8 b,cI 10 c,oB 1 [.sh 236 d]]
def OZ(N:aE)(K:Kt R):=jS.l2 N (J xP .ret K) (J xP (.exit 0) K)
def YX(N:aE):It R:=(lp 2 (al xP (λK=>OZ N K N) an) ln)
theorem V8(N:aE):cq ae0 (YX N (R:=R)) (b8 f237 2):=lq 2 xP (OZ N) λK g=>jS.r2 N g (J xP .ret K) (J xP (.exit 0) K)
def SI:=eg alA apH jS.c jS.v
theorem Zz:FO 237 SI:=fq (E:=ae0) ba func237 (it:=λN=>YX N) (λN=>(bk (V8 N) bM)) jS.b jS.vo

def Ob:=en [] [(3,[2,3,4,5,6]),(9,[2,3,4,5,7])]
def al1:Fn [.R, .S, .S, .I] As:=λa b c d=>[aV [.sh 236 a],aV [.s b, .s c, .n d]]
def ap_:Fn [.R] dE:=λa=>⟨[aV [.ow 236 ai a]],[]⟩
def qF:Fn [.I, .R, .S, .S, .I] Tb:=λa b c d e=>[cP 4 0,cP 6 1,cP 8 2,cP 10 3,cI 12 a,oB 1 [.sh 236 b],oB 3 [.s c, .s d, .n e],oB 5 [.nl],oB 7 [.nl]]
def nU:Fn [.I, .R, .S, .S, .I, .R] Tb:=λa b c d e f=>[cP 4 0,cP 6 1,cP 8 2,cP 10 3,cI 12 a,oB 1 [.sh 236 b],oB 3 [.s c, .s d, .n e],oB 5 [.nl],oB 7 [.own 4],oR 9 236 f]
def Ez:Fn [.I, .R, .S, .S, .I, .R] Tb:=λa b c d e f=>[cP 4 0,cP 6 1,cP 8 2,cP 10 3,cI 14 a,oB 1 [.sh 236 b],oB 3 [.s c, .s d, .n e],oB 5 [.nl],oB 7 [.own 4],oR 9 236 f]
def Pn(N:aE)(K:Kt R):=kB.l3 N (J qF (.exit 0) K) (J nU (.exit 0) K)
def KA(N:aE)(K:Kt R):=kB.tW N (J qF (.exit 0) K) (J nU (.exit 0) K)
def Po(N:aE)(K:Kt R):=kB.l9 N (J Ez (.exit 2) K)
def Hq(N:aE):It R:=(lp 3 (al qF (λK=>Pn N K N) (al nU (λK=>KA N K N) an)) (lp 9 (al Ez (λK=>Po N K N) an) ln))
theorem Mi(N:aE)(K:Kt R):Wd Ob (Hq N) (b8 f278 3) 3 K nU (KA N K):=lw (λg=>kB.z_ N (cmp _ qF (g∘fN)) (cmp _ nU (g∘fN)) (J qF (.exit 0) K) (J nU (.exit 0) K)) λm i=>by simp only[dW,wf i];rfl
theorem adH(N:aE)(K:Kt R):Wd Ob (Hq N) (b8 f278 3) 3 K qF (Pn N K):=lw (λg=>kB.r3 N (cmp _ qF (g∘fN)) (cmp _ nU (g∘fN)) (J qF (.exit 0) K) (J nU (.exit 0) K)) λm i=>by simp only[dW,wf i,wf (Mi N K m)];rfl
theorem Wn(N:aE):cq Ob (Hq N (R:=R)) (b8 f278 3):=lm 3 (ga qF (adH N) (ga nU (Mi N) pb))
theorem Wr(N:aE):cq Ob (Hq N (R:=R)) (b8 f278 9):=lq 9 Ez (Po N) λK g=>kB.r9 N g (J Ez (.exit 2) K)
def aaB:=eg al1 ap_ kB.c kB.v
theorem ahE:FO 278 aaB:=fq (E:=Ob) ba func278 (it:=λN=>Hq N) (λN=>(bk (Wn N) (bk (Wr N) bM))) kB.b kB.vo

def T8:=en [] [(3,[1,2,4,5,6])]
def al2:Fn [.R, .S] As:=λa b=>[aV [.sh 236 a],aS b]
def aqa:Fn [.R] dE:=λa=>⟨[aV [.ow 236 ai a]],[]⟩
def qG:Fn [.S, .I, .R] Tb:=λa b c=>[cA 2 (.s a),cP 4 0,cP 8 1,cP 10 2,cI 12 b,oB 1 [.sh 236 c],oB 3 [.nl],oB 5 [.nl]]
def nV:Fn [.S, .I, .R, .R] Tb:=λa b c d=>[cA 2 (.s a),cP 4 0,cP 8 1,cP 10 2,cI 12 b,oB 1 [.sh 236 c],oB 3 [.nl],oB 5 [.own 3],oR 7 236 d]
def Pp(N:aE)(K:Kt R):=lW.l3 N (J qG (.exit 0) K) (J nV (.exit 0) K)
def KB(N:aE)(K:Kt R):=lW.tW N (J qG (.exit 0) K) (J nV (.exit 0) K)
def Lw(N:aE):It R:=(lp 3 (al qG (λK=>Pp N K N) (al nV (λK=>KB N K N) an)) ln)
theorem Mj(N:aE)(K:Kt R):Wd T8 (Lw N) (b8 f279 3) 3 K nV (KB N K):=lw (λg=>lW.z_ N (cmp _ qG (g∘fN)) (cmp _ nV (g∘fN)) (J qG (.exit 0) K) (J nV (.exit 0) K)) λm i=>by simp only[dW,wf i];rfl
theorem adI(N:aE)(K:Kt R):Wd T8 (Lw N) (b8 f279 3) 3 K qG (Pp N K):=lw (λg=>lW.r3 N (cmp _ qG (g∘fN)) (cmp _ nV (g∘fN)) (J qG (.exit 0) K) (J nV (.exit 0) K)) λm i=>by simp only[dW,wf i,wf (Mj N K m)];rfl
theorem Ws(N:aE):cq T8 (Lw N (R:=R)) (b8 f279 3):=lm 3 (ga qG (adI N) (ga nV (Mj N) pb))
def aaC:=eg al2 aqa lW.c lW.v
theorem ahF:FO 279 aaC:=fq (E:=T8) ba func279 (it:=λN=>Lw N) (λN=>(bk (Ws N) bM)) lW.b lW.vo

def amW:=en [(194,H3),(236,SG),(237,SI),(278,aaB),(279,aaC)] []
def al0:Fn [.R, .I, .S, .S, .S] As:=λa b c d e=>[aV [.sh 236 a],aV [.n b, .s c, .s d, .s e]]
def ap9:Fn [.R, .B] dE:=λa b=>⟨[aV [.ow 236 ai a],aB b],[]⟩
def aaA:=eg al0 ap9 AF.c AF.v
theorem ahD:FO 276 aaA:=fr (E:=amW) (aG LK (aG Zy (aG Zz (aG ahE (aG ahF ba))))) func276 AF.b AF.vo

def ae5:=en [(276,aaA)] [(3,[1,4,5,6,7])]
def alW:Fn [.R, .R] As:=λa b=>[aV [.sh 236 a],aH 268 b]
def ap5:Fn [.R, .I] dE:=λa b=>⟨[aV [.ow 236 ai a],aI b],[]⟩
def Eu:Fn [.R, .I, .I, .R] Tb:=λa b c d=>[cH 2 268 a,cP 8 0,cI 10 b,cP 12 1,cI 14 c,oB 1 [.nl],oB 3 [.own 2],oR 5 236 d]
def Gw:Fn [.R, .I, .I, .R] Tb:=λa b c d=>[cH 2 268 a,cP 8 0,cI 10 b,cP 12 1,cI 14 c,oB 1 [.own 2],oB 3 [.own 2],oR 5 236 d]
def Pf(N:aE)(K:Kt R):=pC.l3 N (J Gw .ret K) (J Eu (.exit 0) K)
def Y2(N:aE):It R:=(lp 3 (al Eu (λK=>Pf N K N) an) ln)
theorem Wj(N:aE):cq ae5 (Y2 N (R:=R)) (b8 f271 3):=lq 3 Eu (Pf N) λK g=>pC.r3 N g (J Gw .ret K) (J Eu (.exit 0) K)
def SM:=eg alW ap5 pC.c pC.v
theorem ZC:FO 271 SM:=fq (E:=ae5) (aG ahD ba) func271 (it:=λN=>Y2 N) (λN=>(bk (Wj N) bM)) pC.b pC.vo

def amS:=en [] []
def alQ:Fn [.B] As:=λa=>[aB a]
def apZ:Fn [.I] dE:=λa=>⟨[aI a],[]⟩
def SL:=eg alQ apZ (ct _) zA.v
theorem ZB:FO 260 SL:=ft (E:=amS) ba func260 zA.b λ(a0,_)=>zA.fJ _ a0

def amR:=WA T md [(40,adt),(270,aaw),(271,SM),(260,SL)] [] [] [(0,1, .own 92),(0,2, .own 9),(0,3, .own 9),(0,4, .own 59),(0,6, .own 100),(0,7, .own 53),(0,9, .own 236),(0,10, .own 3),(0,11, .own 92)]
def alO:Fn [.I, .R, .R, .R, .R, .I, .R, .R, .I, .R, .R, .R, .I, .I, .S, .I, .R] As:=λa b c d e f g h i j k l m o p q r=>[.pt [.n a, .ow 92 ai b, .ow 9 ai c, .ow 9 ai d, .ow 59 ai e, .n f, .ow 100 ai g, .ow 53 ai h, .n i, .ow 236 ai j, .ow 3 ai k, .ow 92 ai l],aV [.n m, .n o, .s p, .n q, .sh 3 r]]
def apX:Fn [.I, .I, .R, .R, .R, .R, .I, .R, .R, .I, .R, .R, .R] dE:=λa b c d e f g h i j k l m=>⟨[aI a],[[.n b, .ow 92 ai c, .ow 9 ai d, .ow 9 ai e, .ow 59 ai f, .n g, .ow 100 ai h, .ow 53 ai i, .n j, .ow 236 ai k, .ow 3 ai l, .ow 92 ai m]]⟩
def aas:=eg alO apX Cq.c Cq.v
theorem ahv:FO 258 aas:=fr (E:=amR) (aG ahH (aG ahz (aG ZC (aG ZB ba)))) func258 Cq.b Cq.vo

def E42:=en [(48,H4),(129,LX),(131,LY)] []
def A42:Fn [.I, .R, .R, .R, .R, .I, .R, .R, .I, .I] As:=λa b c d e f g h i j=>[aV [.n a, .sh 92 b, .sh 9 c, .sh 9 d, .sh 59 e, .n f, .sh 100 g, .sh 53 h, .n i],aI j]
def k42:Fn [.I, .R, .R, .R, .R, .I, .R, .R, .I, .B] dE:=λa b c d e f g h i j=>⟨[aV [.n a, .ow 92 ai b, .ow 9 ai c, .ow 9 ai d, .ow 59 ai e, .n f, .ow 100 ai g, .ow 53 ai h, .n i],aB j],[]⟩
def adu:=eg A42 k42 MB.c MB.v
theorem ahI:FO 42 adu:=fr (E:=E42) (aG JO (aG Rk (aG Rl ba))) func42 MB.b MB.vo

def E23:=en [(48,H4)] []
def A23:Fn [.I, .R, .R, .R, .R, .I, .R, .R, .I, .I] As:=λa b c d e f g h i j=>[aV [.n a, .sh 92 b, .sh 9 c, .sh 9 d, .sh 59 e, .n f, .sh 100 g, .sh 53 h, .n i],aI j]
def k23:Fn [.I, .R, .R, .R, .R, .I, .R, .R, .I] dE:=λa b c d e f g h i=>⟨[aV [.n a, .ow 92 ai b, .ow 9 ai c, .ow 9 ai d, .ow 59 ai e, .n f, .ow 100 ai g, .ow 53 ai h, .n i]],[]⟩
def aih:=eg A23 k23 IM.c IM.v
theorem aqv:FO 23 aih:=fr (E:=E23) (aG JO ba) func23 IM.b IM.vo

def E24:=en [(48,H4)] [(4,[1,2,4,5,6])]
def A24:Fn [.I, .R, .R, .R, .R, .I, .R, .R, .I, .I] As:=λa b c d e f g h i j=>[aV [.n a, .sh 92 b, .sh 9 c, .sh 9 d, .sh 59 e, .n f, .sh 100 g, .sh 53 h, .n i],aI j]
def k24:Fn [.I, .R, .R, .R, .R, .I, .R, .R, .I] dE:=λa b c d e f g h i=>⟨[aV [.n a, .ow 92 ai b, .ow 9 ai c, .ow 9 ai d, .ow 59 ai e, .n f, .ow 100 ai g, .ow 53 ai h, .n i]],[]⟩
def KH:Fn [.I, .I, .I, .R, .R, .R, .R, .I, .R, .R, .I, .I, .I, .I, .I, .I, .I, .R, .R, .R, .R, .R, .R] Tb:=λa b c d e f g h i j k l m o p q r s t u v w x=>[cI 2 a,cP 4 0,cP 8 1,cP 10 2,cI 12 b,oB 1 [.n c, .sh 92 d, .sh 9 e, .sh 9 f, .sh 59 g, .n h, .sh 100 i, .sh 53 j, .n k],oB 3 [.n l, .nl, .nl, .nl, .nl, .n m, .nl, .nl, .n o],oB 5 [.n p, .own 3, .own 4, .own 5, .own 6, .n q, .own 7, .own 8, .n r],oR 7 92 s,oR 9 9 t,oR 11 9 u,oR 13 59 v,oR 15 100 w,oR 17 53 x]
def XI(N:aE)(K:Kt R):=IP.l4 N (J KH (.exit 0) K)
def agj(N:aE):It R:=(lp 4 (al KH (λK=>XI N K N) an) ln)
theorem acH(N:aE):cq E24 (agj N (R:=R)) (b8 f24 4):=lq 4 KH (XI N) λK g=>IP.r4 N g (J KH (.exit 0) K)
def aii:=eg A24 k24 IP.c IP.v
theorem aqw:FO 24 aii:=fq (E:=E24) (aG JO ba) func24 (it:=λN=>agj N) (λN=>(bk (acH N) bM)) IP.b IP.vo

def T7:=en [(194,H3)] [(5,[1,2,4,6,7])]
def alX:Fn [.R, .R] As:=λa b=>[aV [.sh 236 a],aH 3 b]
def ap6:Fn [.R, .B] dE:=λa b=>⟨[aV [.ow 236 ai a],aB b],[]⟩
def qE:Fn [.R, .I, .R] Tb:=λa b c=>[cH 2 3 a,cP 4 0,cP 8 1,cP 12 2,cI 14 b,oB 1 [.sh 236 c],oB 3 [.nl],oB 5 [.nl]]
def nT:Fn [.R, .I, .R, .R] Tb:=λa b c d=>[cH 2 3 a,cP 4 0,cP 8 1,cP 12 2,cI 14 b,oB 1 [.sh 236 c],oB 3 [.nl],oB 5 [.own 3],oR 7 236 d]
def Pg(N:aE)(K:Kt R):=vI.l5 N (J qE (.exit 0) K) (J nT (.exit 0) K)
def Kz(N:aE)(K:Kt R):=vI.l5a N (J qE (.exit 0) K) (J nT (.exit 0) K)
def Lv(N:aE):It R:=(lp 5 (al qE (λK=>Pg N K N) (al nT (λK=>Kz N K N) an)) ln)
theorem Mh(N:aE)(K:Kt R):Wd T7 (Lv N) (b8 f272 5) 5 K nT (Kz N K):=lw (λg=>vI.r5a N (cmp _ qE (g∘fN)) (cmp _ nT (g∘fN)) (J qE (.exit 0) K) (J nT (.exit 0) K)) λm i=>by simp only[dW,wf i];rfl
theorem adG(N:aE)(K:Kt R):Wd T7 (Lv N) (b8 f272 5) 5 K qE (Pg N K):=lw (λg=>vI.r5 N (cmp _ qE (g∘fN)) (cmp _ nT (g∘fN)) (J qE (.exit 0) K) (J nT (.exit 0) K)) λm i=>by simp only[dW,wf i,wf (Mh N K m)];rfl
theorem Wk(N:aE):cq T7 (Lv N (R:=R)) (b8 f272 5):=lm 5 (ga qE (adG N) (ga nT (Mh N) pb))
def aax:=eg alX ap6 vI.c vI.v
theorem ahA:FO 272 aax:=fq (E:=T7) (aG LK ba) func272 (it:=λN=>Lv N) (λN=>(bk (Wk N) bM)) vI.b vI.vo

def amy:=en [(237,SI)] []
def ak8:Fn [.R, .S] As:=λa b=>[aV [.sh 236 a],aS b]
def apf:Fn [.S, .B] dE:=λa b=>⟨[aS a,aB b],[]⟩
def Sx:=eg ak8 apf mJ.c mJ.v
theorem Zq:FO 195 Sx:=fr (E:=amy) (aG Zz ba) func195 mJ.b mJ.vo

def ae1:=en [(49,tZ),(264,Mc)] [(6,[0,1,4,5,6,7,8,9])]
def alB:Fn [.S, .I] As:=λa b=>[aS a,aI b]
def apI:Fn [.I, .I, .B] dE:=λa b c=>⟨[aI a,aI b,aB c],[]⟩
def xQ:Fn [.S, .I, .I, .I, .B, .I, .I, .I] Tb:=λa b c d e f g h=>[cA 0 (.s a),cI 2 b,cI 8 c,cI 10 d,cA 12 (.b e),cI 14 f,cI 16 g,cI 18 h]
def O3(N:aE)(K:Kt R):=fA.l6 N (J xQ .ret K) (J xQ (.exit 0) K)
def YY(N:aE):It R:=(lp 6 (al xQ (λK=>O3 N K N) an) ln)
theorem V9(N:aE):cq ae1 (YY N (R:=R)) (b8 f238 6):=lq 6 xQ (O3 N) λK g=>fA.r6 N g (J xQ .ret K) (J xQ (.exit 0) K)
def L_:=eg alB apI (ct _) fA.v
theorem Rt:FO 238 L_:=fh (E:=ae1) (aG va (aG Rw ba)) func238 (it:=λN=>YY N) (λN=>(bk (V9 N) bM)) fA.b λx f h=>fA.fJ _ x.1 x.2.1 f.1.1

def aeU:=en [(238,L_),(239,Ma)] [(5,[0,2,3,4,5])]
def ak9:Fn [.S] As:=λa=>[aS a]
def apg:Fn [.R, .I] dE:=λa b=>⟨[aO 9 a,aI b],[]⟩
def Ef:Fn [.S, .I, .I, .R] Tb:=λa b c d=>[cA 0 (.s a),cA 4 .nl,cI 6 b,cA 8 (.own 0),cI 10 c,oR 1 9 d]
def Gv:Fn [.S, .I, .I, .R] Tb:=λa b c d=>[cA 0 (.s a),cA 4 (.own 0),cI 6 b,cA 8 (.own 0),cI 10 c,oR 1 9 d]
def OP(N:aE)(K:Kt R):=rM.l5 N (J Gv .ret K) (J Ef (.exit 0) K)
def YR(N:aE):It R:=(lp 5 (al Ef (λK=>OP N K N) an) ln)
theorem VZ(N:aE):cq aeU (YR N (R:=R)) (b8 f196 5):=lq 5 Ef (OP N) λK g=>rM.r5 N g (J Gv .ret K) (J Ef (.exit 0) K)
def Z_:=eg ak9 apg rM.c rM.v
theorem ahb:FO 196 Z_:=fq (E:=aeU) (aG Rt (aG Ru ba)) func196 (it:=λN=>YR N) (λN=>(bk (VZ N) bM)) rM.b rM.vo

def amP:=en [(238,L_)] []
def alD:Fn [.S, .I] As:=λa b=>[aS a,aI b]
def apK:Fn [.S, .I, .B] dE:=λa b c=>⟨[aS a,aI b,aB c],[]⟩
def aan:=eg alD apK (ct _) pB.v
theorem ahq:FO 240 aan:=fh (E:=amP) (aG Rt ba) func240 (it:=λ_=>ln) (λ_=>bM) (λ_=>pB.b) λx f h=>⟨0,pB.fJ _ x.1 x.2.1 f.1.1⟩

def amz:=en [(240,aan),(238,L_),(241,Mb)] []
def ak_:Fn [.S] As:=λa=>[aS a]
def aph:Fn [.S, .I, .I, .S, .B] dE:=λa b c d e=>⟨[aV [.s a, .n b, .n c, .s d],aB e],[]⟩
def aaa:=eg ak_ aph (ct _) jC.v
theorem ahc:FO 197 aaa:=fh (E:=amz) (aG ahq (aG Rt (aG Rv ba))) func197 (it:=λ_=>ln) (λ_=>bM) (λ_=>jC.b) λx f h=>⟨0,jC.fJ _ x.1 f.1.1⟩

def aez:=en [(194,H3),(195,Sx),(196,Z_),(197,aaa),(198,Sy)] [(7,[3,6,8])]
def akl:Fn [.R] As:=λa=>[aV [.sh 236 a]]
def aot:Fn [.R] dE:=λa=>⟨[aO 92 a],[]⟩
def D6:Fn [.I, .R, .R] Tb:=λa b c=>[cA 6 (.own 0),cA 12 (.own 1),cI 16 a,oR 1 92 b,oR 3 9 c]
def Oh(N:aE)(K:Kt R):=rI.l7 N (J D6 (.exit 0) K)
def Yw(N:aE):It R:=(lp 7 (al D6 (λK=>Oh N K N) an) ln)
theorem Vy(N:aE):cq aez (Yw N (R:=R)) (b8 f111 7):=lq 7 D6 (Oh N) λK g=>rI.r7 N g (J D6 (.exit 0) K)
def ZQ:=eg akl aot rI.c rI.v
theorem agR:FO 111 ZQ:=fq (E:=aez) (aG LK (aG Zq (aG ahb (aG ahc (aG Zr ba))))) func111 (it:=λN=>Yw N) (λN=>(bk (Vy N) bM)) rI.b rI.vo

def ae6:=en [(194,H3),(195,Sx),(241,Mb),(239,Ma)] [(9,[1,4,5,6,9,10])]
def alY:Fn [.R, .R] As:=λa b=>[aV [.sh 236 a],aH 92 b]
def ap7:Fn [.R, .B] dE:=λa b=>⟨[aO 268 a,aB b],[]⟩
def Ew:Fn [.R, .B, .S, .I, .R] Tb:=λa b c d e=>[cH 2 92 a,cA 8 .nl,cA 10 (.b b),cA 12 (.own 0),cA 18 (.s c),cI 20 d,oR 1 268 e]
def Gx:Fn [.R, .B, .S, .I, .R, .R] Tb:=λa b c d e f=>[cH 2 92 a,cA 8 (.own 0),cA 10 (.b b),cA 12 (.own 1),cA 18 (.s c),cI 20 d,oR 1 268 e,oR 3 268 f]
def Ph(N:aE)(K:Kt R):=mv.l9 N (J Gx .ret K) (J Ew (.exit 0) K)
def Y3(N:aE):It R:=(lp 9 (al Ew (λK=>Ph N K N) an) ln)
theorem Wl(N:aE):cq ae6 (Y3 N (R:=R)) (b8 f273 9):=lq 9 Ew (Ph N) λK g=>mv.r9 N g (J Gx .ret K) (J Ew (.exit 0) K)
def aay:=eg alY ap7 mv.c mv.v
theorem ahB:FO 273 aay:=fq (E:=ae6) (aG LK (aG Zq (aG Rv (aG Ru ba)))) func273 (it:=λN=>Y3 N) (λN=>(bk (Wl N) bM)) mv.b mv.vo

def ae7:=en [(182,Su),(141,H0),(52,Xc),(132,Sd)] [(4,[0,1,4,5,6])]
def alZ:Fn [.I, .R] As:=λa b=>[aI a,aH 92 b]
def ap8:Fn [.I, .R, .R, .R, .R, .I, .R, .R, .I] dE:=λa b c d e f g h i=>⟨[aV [.n a, .ow 92 ai b, .ow 9 ai c, .ow 9 ai d, .ow 59 ai e, .n f, .ow 100 ai g, .ow 53 ai h, .n i]],[]⟩
def Ey:Fn [.I, .R, .I, .I, .I, .I, .I, .I, .I, .R, .R, .R, .R, .R, .R] Tb:=λa b c d e f g h i j k l m o p=>[cI 0 a,cH 2 92 b,cP 8 0,cP 10 1,cI 12 c,oB 1 [.n d, .nl, .nl, .nl, .nl, .n e, .nl, .nl, .n f],oB 3 [.n g, .own 2, .own 3, .own 4, .own 5, .n h, .own 6, .own 7, .n i],oR 5 92 j,oR 7 9 k,oR 9 9 l,oR 11 59 m,oR 13 100 o,oR 15 53 p]
def Pj(N:aE)(K:Kt R):=na.l4 N (J Ey (.exit 0) K)
def Y4(N:aE):It R:=(lp 4 (al Ey (λK=>Pj N K N) an) ln)
theorem Wm(N:aE):cq ae7 (Y4 N (R:=R)) (b8 f274 4):=lq 4 Ey (Pj N) λK g=>na.r4 N g (J Ey (.exit 0) K)
def aaz:=eg alZ ap8 na.c na.v
theorem ahC:FO 274 aaz:=fq (E:=ae7) (aG Zo (aG LI (aG ac3 (aG Zd ba)))) func274 (it:=λN=>Y4 N) (λN=>(bk (Wm N) bM)) na.b na.vo

def T6:=WA T md [(272,aax),(111,ZQ),(52,Xc),(273,aay),(271,SM),(274,aaz)] [(7,[0,6,7,8])] [] [(0,1, .own 92),(0,2, .own 9),(0,3, .own 9),(0,4, .own 59),(0,6, .own 100),(0,7, .own 53),(0,9, .own 236),(0,10, .own 3),(0,11, .own 92)]
def alP:Fn [.I, .R, .R, .R, .R, .I, .R, .R, .I, .R, .R, .R, .I, .I, .S, .I, .R] As:=λa b c d e f g h i j k l m o p q r=>[.pt [.n a, .ow 92 ai b, .ow 9 ai c, .ow 9 ai d, .ow 59 ai e, .n f, .ow 100 ai g, .ow 53 ai h, .n i, .ow 236 ai j, .ow 3 ai k, .ow 92 ai l],aV [.n m, .n o, .s p, .n q, .sh 3 r]]
def apY:Fn [.I, .R, .R, .R, .R, .I, .R, .R, .I, .R, .R, .R] dE:=λa b c d e f g h i j k l=>⟨[],[[.n a, .ow 92 ai b, .ow 9 ai c, .ow 9 ai d, .ow 59 ai e, .n f, .ow 100 ai g, .ow 53 ai h, .n i, .ow 236 ai j, .ow 3 ai k, .ow 92 ai l]]⟩
def qD:Fn [.I, .I, .I, .I, .R, .R, .R, .R, .R, .R, .R, .R, .R, .R, .R] Tb:=λa b c d e f g h i j k l m o p=>[cP 0 900000900,cA 12 (.own 1),cA 14 (.own 2),cI 16 a,oB 1800001801 [.n b, .own 900000001, .own 900000002, .own 900000003, .own 900000004, .n c, .own 900000006, .own 900000007, .n d, .own 9, .own 900000010, .own 900000011],oR 3 92 e,oR 5 92 f,oR 1800000003 92 g,oR 1800000005 9 h,oR 1800000007 9 i,oR 1800000009 59 j,oR 1800000013 100 k,oR 1800000015 53 l,oR 19 236 m,oR 1800000021 3 o,oR 1800000023 92 p]
def nS:Fn [.I, .I, .I, .I, .R, .R, .R, .R, .R, .R, .R, .R, .R, .R, .R] Tb:=λa b c d e f g h i j k l m o p=>[cP 0 900000900,cA 12 (.own 1),cA 14 (.own 2),cI 16 a,oB 1800001801 [.n b, .own 900000001, .own 900000002, .own 900000003, .own 900000004, .n c, .own 900000006, .own 900000007, .n d, .own 900000009, .own 900000010, .own 900000011],oR 3 92 e,oR 5 92 f,oR 1800000003 92 g,oR 1800000005 9 h,oR 1800000007 9 i,oR 1800000009 59 j,oR 1800000013 100 k,oR 1800000015 53 l,oR 1800000019 236 m,oR 1800000021 3 o,oR 1800000023 92 p]
def Pb(N:aE)(K:Kt R):=vG.l7 N (J qD (.exit 0) K) (J nS (.exit 0) K)
def Ky(N:aE)(K:Kt R):=vG.l7a N (J qD (.exit 0) K) (J nS (.exit 0) K)
def Lu(N:aE):It R:=(lp 7 (al qD (λK=>Pb N K N) (al nS (λK=>Ky N K N) an)) ln)
theorem Mg(N:aE)(K:Kt R):Wd T6 (Lu N) (b8 f259 7) 7 K nS (Ky N K):=lw (λg=>vG.r7a N (cmp _ qD (g∘fN)) (cmp _ nS (g∘fN)) (J qD (.exit 0) K) (J nS (.exit 0) K)) λm i=>by simp only[dW,wf i];rfl
theorem adF(N:aE)(K:Kt R):Wd T6 (Lu N) (b8 f259 7) 7 K qD (Pb N K):=lw (λg=>vG.r7 N (cmp _ qD (g∘fN)) (cmp _ nS (g∘fN)) (J qD (.exit 0) K) (J nS (.exit 0) K)) λm i=>by simp only[dW,wf i,wf (Mg N K m)];rfl
theorem Wh(N:aE):cq T6 (Lu N (R:=R)) (b8 f259 7):=lm 7 (ga qD (adF N) (ga nS (Mg N) pb))
def aat:=eg alP apY vG.c vG.v
theorem ahw:FO 259 aat:=fq (E:=T6) (aG ahA (aG agR (aG ac3 (aG ahB (aG ZC (aG ahC ba)))))) func259 (it:=λN=>Lu N) (λN=>(bk (Wh N) bM)) vG.b vG.vo

def amM:=WA T md [(9,sp9),(38,ads),(258,aas),(42,adu),(23,aih),(24,aii),(259,aat),(260,SL)] [] [] [(0,1, .own 92),(0,2, .own 9),(0,3, .own 9),(0,4, .own 59),(0,6, .own 100),(0,7, .own 53),(0,9, .own 236),(0,10, .own 3),(0,11, .own 92)]
def alw:Fn [.I, .R, .R, .R, .R, .I, .R, .R, .I, .R, .R, .R, .I, .I, .S, .I, .R] As:=λa b c d e f g h i j k l m o p q r=>[.pt [.n a, .ow 92 ai b, .ow 9 ai c, .ow 9 ai d, .ow 59 ai e, .n f, .ow 100 ai g, .ow 53 ai h, .n i, .ow 236 ai j, .ow 3 ai k, .ow 92 ai l],aV [.n m, .n o, .s p, .n q, .sh 3 r]]
def apD:Fn [.I, .I, .R, .R, .R, .R, .I, .R, .R, .I, .R, .R, .R] dE:=λa b c d e f g h i j k l m=>⟨[aI a],[[.n b, .ow 92 ai c, .ow 9 ai d, .ow 9 ai e, .ow 59 ai f, .n g, .ow 100 ai h, .ow 53 ai i, .n j, .ow 236 ai k, .ow 3 ai l, .ow 92 ai m]]⟩
def aaj:=eg alw apD Cp.c Cp.v
theorem ahm:FO 231 aaj:=fr (E:=amM) (aG ok9 (aG ahG (aG ahv (aG ahI (aG aqv (aG aqw (aG ahw (aG ZB ba)))))))) func231 Cp.b Cp.vo

def amu:=WA T md [(231,aaj)] [] [] [(0,1, .own 92),(0,2, .own 9),(0,3, .own 9),(0,4, .own 59),(0,6, .own 100),(0,7, .own 53),(0,9, .own 236),(0,10, .own 3),(0,11, .own 92)]
def akY:Fn [.I, .R, .R, .R, .R, .I, .R, .R, .I, .R, .R, .R, .I, .I, .S, .I, .R] As:=λa b c d e f g h i j k l m o p q r=>[.pt [.n a, .ow 92 ai b, .ow 9 ai c, .ow 9 ai d, .ow 59 ai e, .n f, .ow 100 ai g, .ow 53 ai h, .n i, .ow 236 ai j, .ow 3 ai k, .ow 92 ai l],aV [.n m, .n o, .s p, .n q, .sh 3 r]]
def ao6:Fn [.I, .R, .R, .R, .R, .I, .R, .R, .I, .R, .R, .R] dE:=λa b c d e f g h i j k l=>⟨[],[[.n a, .ow 92 ai b, .ow 9 ai c, .ow 9 ai d, .ow 59 ai e, .n f, .ow 100 ai g, .ow 53 ai h, .n i, .ow 236 ai j, .ow 3 ai k, .ow 92 ai l]]⟩
def Z4:=eg akY ao6 xW.c xW.v
theorem ag5:FO 183 Z4:=fr (E:=amu) (aG ahm ba) func183 xW.b xW.vo

def E94:=en [(182,Su),(103,qf),(184,Z5),(183,Z4)] [(3,[0,2,3,4,1000000003009236,1000000003010003,1000000003011092])]
def A94:Fn [.R, .I, .I] As:=λa b c=>[.pt [.sh 5 a, .n b, .n c]]
def k94:Fn [.I, .R, .R, .R, .R, .I, .R, .R, .I, .R, .I, .I] dE:=λa b c d e f g h i j k l=>⟨[aV [.n a, .ow 92 ai b, .ow 9 ai c, .ow 9 ai d, .ow 59 ai e, .n f, .ow 100 ai g, .ow 53 ai h, .n i]],[[.sh 5 j, .n k, .n l]]⟩
def KP:Fn [.I, .R, .I, .I, .I, .I, .I, .I, .I, .I, .R, .R, .R, .R, .R, .R, .R, .R, .R] Tb:=λa b c d e f g h i j k l m o p q r s t=>[cP 0 900000900,cP 4 1,cP 6 2,cI 8 a,oB 1800001801 [.sh 5 b, .n c, .n d],oB 3 [.n e, .nl, .nl, .nl, .nl, .n f, .nl, .nl, .n g],oB 5 [.n h, .own 3, .own 4, .own 5, .own 6, .n i, .own 7, .own 8, .n j, .own 9, .own 10, .own 11],oR 7 92 k,oR 9 9 l,oR 11 9 m,oR 13 59 o,oR 15 100 p,oR 17 53 q,oR 19 236 r,oR 21 3 s,oR 23 92 t]
def XT(N:aE)(K:Kt R):=NV.l3 N (J KP (.exit 0) K)
def ago(N:aE):It R:=(lp 3 (al KP (λK=>XT N K N) an) ln)
theorem acS(N:aE):cq E94 (ago N (R:=R)) (b8 f94 3):=lq 3 KP (XT N) λK g=>NV.r3 N g (J KP (.exit 0) K)
def aiE:=eg A94 k94 NV.c NV.v
theorem aqO:FO 94 aiE:=fq (E:=E94) (aG Zo (aG rC (aG ag6 (aG ag5 ba)))) func94 (it:=λN=>ago N) (λN=>(bk (acS N) bM)) NV.b NV.vo

def aeY:=en [(230,SF),(103,qf),(125,HZ),(53,Xd)] [(3,[0,2,3,4])]
def als:Fn [.R, .I, .I] As:=λa b c=>[.pt [.sh 5 a, .n b, .n c]]
def apA:Fn [.R, .R, .R, .I, .R, .I, .I] dE:=λa b c d e f g=>⟨[aV [.ow 9 ai a, .ow 9 ai b, .ow 59 ai c, .n d]],[[.sh 5 e, .n f, .n g]]⟩
def Ej:Fn [.I, .R, .I, .I, .I, .I, .R, .R, .R] Tb:=λa b c d e f g h i=>[cP 0 900000900,cP 4 1,cP 6 2,cI 8 a,oB 1800001801 [.sh 5 b, .n c, .n d],oB 3 [.nl, .nl, .nl, .n e],oB 5 [.own 3, .own 4, .own 5, .n f],oR 7 9 g,oR 9 9 h,oR 11 59 i]
def OV(N:aE)(K:Kt R):=zx.l3 N (J Ej (.exit 0) K)
def YV(N:aE):It R:=(lp 3 (al Ej (λK=>OV N K N) an) ln)
theorem V5(N:aE):cq aeY (YV N (R:=R)) (b8 f228 3):=lq 3 Ej (OV N) λK g=>zx.r3 N g (J Ej (.exit 0) K)
def aah:=eg als apA zx.c zx.v
theorem ahk:FO 228 aah:=fq (E:=aeY) (aG Zx (aG rC (aG LH (aG ac4 ba)))) func228 (it:=λN=>YV N) (λN=>(bk (V5 N) bM)) zx.b zx.vo

def ae3:=en [(257,SK),(103,qf),(125,HZ),(57,Xe)] [(3,[0,2,3,4])]
def alM:Fn [.R, .I, .I] As:=λa b c=>[.pt [.sh 5 a, .n b, .n c]]
def apV:Fn [.R, .I, .R, .I, .I] dE:=λa b c d e=>⟨[aV [.ow 59 ai a, .n b]],[[.sh 5 c, .n d, .n e]]⟩
def Er:Fn [.I, .R, .I, .I, .I, .I, .R] Tb:=λa b c d e f g=>[cP 0 900000900,cP 4 1,cP 6 2,cI 8 a,oB 1800001801 [.sh 5 b, .n c, .n d],oB 3 [.nl, .n e],oB 5 [.own 3, .n f],oR 7 59 g]
def O9(N:aE)(K:Kt R):=sg.l3 N (J Er (.exit 0) K)
def Y0(N:aE):It R:=(lp 3 (al Er (λK=>O9 N K N) an) ln)
theorem Wf(N:aE):cq ae3 (Y0 N (R:=R)) (b8 f256 3):=lq 3 Er (O9 N) λK g=>sg.r3 N g (J Er (.exit 0) K)
def aar:=eg alM apV sg.c sg.v
theorem ahu:FO 256 aar:=fq (E:=ae3) (aG ZA (aG rC (aG LH (aG ac5 ba)))) func256 (it:=λN=>Y0 N) (λN=>(bk (Wf N) bM)) sg.b sg.vo

def amK:=WA T md [(103,qf),(256,aar),(146,H2)] [] [] [(500,0, .sh 59)]
def alu:Fn [.R, .I, .I] As:=λa b c=>[.pt [.sh 5 a, .n b, .n c]]
def apB:Fn [.R, .I, .R, .I, .I] dE:=λa b c d e=>⟨[aV [.sh 59 a, .n b]],[[.sh 5 c, .n d, .n e]]⟩
def aai:=eg alu apB xY.c xY.v
theorem ahl:FO 229 aai:=fr (E:=amK) (aG rC (aG ahu (aG LJ ba))) func229 xY.b xY.vo

def ams:=WA T md [(103,qf),(228,aah),(140,LZ),(229,aai)] [] [] [(500,2, .sh 59)]
def akW:Fn [.R, .I, .I] As:=λa b c=>[.pt [.sh 5 a, .n b, .n c]]
def ao4:Fn [.R, .R, .R, .I, .R, .I, .I] dE:=λa b c d e f g=>⟨[aV [.ow 9 ai a, .ow 9 ai b, .sh 59 c, .n d]],[[.sh 5 e, .n f, .n g]]⟩
def Z3:=eg akW ao4 AB.c AB.v
theorem ag4:FO 181 Z3:=fr (E:=ams) (aG rC (aG ahk (aG Rm (aG ahl ba)))) func181 AB.b AB.vo

def E89:=WA T md [(103,qf),(94,aiE),(48,H4),(181,Z3)] [] [] [(500,4, .sh 59)]
def A89:Fn [.R, .I, .I] As:=λa b c=>[.pt [.sh 5 a, .n b, .n c]]
def k89:Fn [.I, .R, .R, .R, .R, .I, .R, .R, .I, .R, .I, .I] dE:=λa b c d e f g h i j k l=>⟨[aV [.n a, .ow 92 ai b, .ow 9 ai c, .ow 9 ai d, .sh 59 e, .n f, .ow 100 ai g, .ow 53 ai h, .n i]],[[.sh 5 j, .n k, .n l]]⟩
def adz:=eg A89 k89 Cv.c Cv.v
theorem ahN:FO 89 adz:=fr (E:=E89) (aG rC (aG aqO (aG JO (aG ag4 ba)))) func89 Cv.b Cv.vo

def E36:=en [(87,SS),(91,aiC),(125,HZ),(126,LV),(89,adz)] []
def A36:Fn [.R] As:=λa=>[aH 5 a]
def k36:Fn [.I, .R, .R, .R, .R, .I, .R, .R, .I, .I, .S] dE:=λa b c d e f g h i j k=>⟨[aV [.n a, .ow 92 ai b, .ow 9 ai c, .ow 9 ai d, .sh 59 e, .n f, .ow 100 ai g, .ow 53 ai h, .n i],aI j,aS k],[]⟩
def aiq:=eg A36 k36 Tz.c Tz.v
theorem aqA:FO 36 aiq:=fr (E:=E36) (aG WI (aG aqM (aG LH (aG Ri (aG ahN ba))))) func36 Tz.b Tz.vo

def amj:=en [] []
def akH:Fn [.R] As:=λa=>[aH 92 a]
def aoP:Fn [.R] dE:=λa=>⟨[aO 92 a],[]⟩
def Si:=eg akH aoP vB.c vB.v
theorem Zh:FO 154 Si:=fr (E:=amj) ba func154 vB.b vB.vo

def amF:=en [] []
def alm:Fn [.R] As:=λa=>[aH 9 a]
def apu:Fn [.R] dE:=λa=>⟨[aO 9 a],[]⟩
def SC:=eg alm apu se.c se.v
theorem Zv:FO 217 SC:=fr (E:=amF) ba func217 se.b se.vo

def amI:=en [] []
def alq:Fn [.R] As:=λa=>[aH 3 a]
def apy:Fn [.R] dE:=λa=>⟨[aO 3 a],[]⟩
def aag:=eg alq apy uR.c uR.v
theorem ahi:FO 223 aag:=fr (E:=amI) ba func223 uR.b uR.vo

def T4:=en [(223,aag)] [(3,[2,3,10,11,12])]
def akT:Fn [.R, .I] As:=λa b=>[aV [.sh 59 a, .n b]]
def ao1:Fn [.R, .I] dE:=λa b=>⟨[aV [.ow 59 ai a, .n b]],[]⟩
def qB:Fn [.R, .I, .I, .I, .I] Tb:=λa b c d e=>[cP 4 0,cP 6 1,cH 20 59 a,cI 22 b,cI 24 c,oB 1 [.nl, .n d],oB 3 [.nl, .n e]]
def nQ:Fn [.R, .I, .I, .I, .I, .R] Tb:=λa b c d e f=>[cP 4 0,cP 6 1,cH 20 59 a,cI 22 b,cI 24 c,oB 1 [.nl, .n d],oB 3 [.own 2, .n e],oR 5 59 f]
def OE(N:aE)(K:Kt R):=iO.l3 N (J qB (.exit 0) K) (J nQ (.exit 0) K)
def Kv(N:aE)(K:Kt R):=iO.tW N (J qB (.exit 0) K) (J nQ (.exit 0) K)
def Ls(N:aE):It R:=(lp 3 (al qB (λK=>OE N K N) (al nQ (λK=>Kv N K N) an)) ln)
theorem Me(N:aE)(K:Kt R):Wd T4 (Ls N) (b8 f168 3) 3 K nQ (Kv N K):=lw (λg=>iO.z_ N (cmp _ qB (g∘fN)) (cmp _ nQ (g∘fN)) (J qB (.exit 0) K) (J nQ (.exit 0) K)) λm i=>by simp only[dW,wf i];rfl
theorem adD(N:aE)(K:Kt R):Wd T4 (Ls N) (b8 f168 3) 3 K qB (OE N K):=lw (λg=>iO.r3 N (cmp _ qB (g∘fN)) (cmp _ nQ (g∘fN)) (J qB (.exit 0) K) (J nQ (.exit 0) K)) λm i=>by simp only[dW,wf i,wf (Me N K m)];rfl
theorem VQ(N:aE):cq T4 (Ls N (R:=R)) (b8 f168 3):=lm 3 (ga qB (adD N) (ga nQ (Me N) pb))
def Sr:=eg akT ao1 iO.c iO.v
theorem Zm:FO 168 Sr:=fq (E:=T4) (aG ahi ba) func168 (it:=λN=>Ls N) (λN=>(bk (VQ N) bM)) iO.b iO.vo

def amk:=en [(217,SC),(168,Sr)] []
def akI:Fn [.R, .R, .R, .I] As:=λa b c d=>[aV [.sh 9 a, .sh 9 b, .sh 59 c, .n d]]
def aoQ:Fn [.R, .R, .R, .I] dE:=λa b c d=>⟨[aV [.ow 9 ai a, .ow 9 ai b, .ow 59 ai c, .n d]],[]⟩
def L5:=eg akI aoQ i9.c i9.v
theorem Rp:FO 155 L5:=fr (E:=amk) (aG Zv (aG Zm ba)) func155 i9.b i9.vo

def E62:=en [(154,Si),(155,L5)] []
def A62:Fn [.I, .R, .R, .R, .R, .I, .R, .R, .I] As:=λa b c d e f g h i=>[aV [.n a, .sh 92 b, .sh 9 c, .sh 9 d, .sh 59 e, .n f, .sh 100 g, .sh 53 h, .n i]]
def k62:Fn [.I, .R, .R, .R, .R, .I, .R, .R, .I] dE:=λa b c d e f g h i=>⟨[aV [.n a, .ow 92 ai b, .ow 9 ai c, .ow 9 ai d, .ow 59 ai e, .n f, .ow 100 ai g, .ow 53 ai h, .n i]],[]⟩
def SN:=eg A62 k62 EH.c EH.v
theorem WH:FO 62 SN:=fr (E:=E62) (aG Zh (aG Rp ba)) func62 EH.b EH.vo

def E63:=en [] []
def A63:Fn [.I, .I, .I] As:=λa b c=>[aI a,aI b,aI c]
def k63:Fn [.B] dE:=λa=>⟨[aB a],[]⟩
def sQ:=eg A63 k63 (ct _) n7.v
theorem yx:FO 63 sQ:=ft (E:=E63) ba func63 n7.b λ(a0,a1,a2,_)=>n7.fJ _ a0 a1 a2

def E64:=en [(63,sQ)] []
def A64:Fn [.S] As:=λa=>[aS a]
def k64:Fn [.B] dE:=λa=>⟨[aB a],[]⟩
def Kc:=eg A64 k64 (ct _) MC.v
theorem Nl:FO 64 Kc:=ft (E:=E64) (aG yx ba) func64 MC.b λ(a0,_)=>MC.fJ _ a0

def al6:=en [(63,sQ)] []
def akd:Fn [.I] As:=λa=>[aI a]
def aok:Fn [.B] dE:=λa=>⟨[aB a],[]⟩
def LS:=eg akd aok (ct _) Ax.v
theorem Rg:FO 100 LS:=ft (E:=al6) (aG yx ba) func100 Ax.b λ(a0,_)=>Ax.fJ _ a0

def amm:=en [(64,Kc),(100,LS),(63,sQ)] []
def akK:Fn [.S, .I, .I, .S] As:=λa b c d=>[aV [.s a, .n b, .n c, .s d]]
def aoS:Fn [.B] dE:=λa=>⟨[aB a],[]⟩
def L6:=eg akK aoS (ct _) Az.v
theorem Zi:FO 158 L6:=ft (E:=amm) (aG Nl (aG Rg (aG yx ba))) func158 Az.b λ(a0,a1,a2,a3,_)=>Az.fJ _ a0 a1 a2 a3

def amT:=en [] []
def alR:Fn [.I] As:=λa=>[.v ak [.nl],aI a]
def ap0:Fn [.R] dE:=λa=>⟨[aO 9 a],[]⟩
def aau:=eg alR ap0 Cr.c Cr.v
theorem ahx:FO 261 aau:=fr (E:=amT) ba func261 Cr.b Cr.vo

def aaY:=en [(261,aau)] [(3,[0,3,9,10,11]),(11,[6,25,26,27])]
def aly:Fn [.R] As:=λa=>[aH 23 a]
def apF:Fn [.R] dE:=λa=>⟨[aO 9 a],[]⟩
def Ek:Fn [.R, .I, .R, .I, .I] Tb:=λa b c d e=>[cH 0 23 a,cI 6 b,cH 18 23 c,cI 20 d,cI 22 e]
def zK:Fn [.R, .I, .I, .R] Tb:=λa b c d=>[cA 12 (.own 0),cH 50 23 a,cI 52 b,cI 54 c,oR 1 9 d]
def OY(N:aE)(K:Kt R):=vD.l3 N (J Ek (.exit 0) K)
def Kw(N:aE)(K:Kt R):=vD.l11 N (J zK (.exit 2) K)
def QR(N:aE):It R:=(lp 3 (al Ek (λK=>OY N K N) an) (lp 11 (al zK (λK=>Kw N K N) an) ln))
theorem V7(N:aE):cq aaY (QR N (R:=R)) (b8 f233 3):=lq 3 Ek (OY N) λK g=>vD.r3 N g (J Ek (.exit 0) K)
theorem Q6(N:aE):cq aaY (QR N (R:=R)) (b8 f233 11):=lq 11 zK (Kw N) λK g=>vD.FA N g (J zK (.exit 2) K)
def aal:=eg aly apF vD.c vD.v
theorem aho:FO 233 aal:=fq (E:=aaY) (aG ahx ba) func233 (it:=λN=>QR N) (λN=>(bk (V7 N) (bk (Q6 N) bM))) vD.b vD.vo

def amw:=en [(233,aal)] []
def ak3:Fn [.R, .R, .R, .I] As:=λa b c d=>[aV [.sh 9 a, .sh 9 b, .sh 59 c, .n d]]
def apa:Fn [.R] dE:=λa=>⟨[aO 9 a],[]⟩
def L9:=eg ak3 apa pU.c pU.v
theorem Rs:FO 188 L9:=fr (E:=amw) (aG aho ba) func188 pU.b pU.vo

def aeW:=en [] [(2,[0,1,4,7,8])]
def aln:Fn [.R, .S] As:=λa b=>[aH 9 a,aS b]
def apv:Fn [.I] dE:=λa=>⟨[aI a],[]⟩
def xN:Fn [.R, .S, .I, .I, .I] Tb:=λa b c d e=>[cH 0 9 a,cA 2 (.s b),cI 8 c,cI 14 d,cI 16 e]
def OT(N:aE)(K:Kt R):=zv.l2 N (J xN .ret K) (J xN (.exit 0) K)
def YT(N:aE):It R:=(lp 2 (al xN (λK=>OT N K N) an) ln)
theorem V3(N:aE):cq aeW (YT N (R:=R)) (b8 f218 2):=lq 2 xN (OT N) λK g=>zv.r2 N g (J xN .ret K) (J xN (.exit 0) K)
def aae:=eg aln apv zv.c zv.v
theorem ahg:FO 218 aae:=fq (E:=aeW) ba func218 (it:=λN=>YT N) (λN=>(bk (V3 N) bM)) zv.b zv.vo

def amn:=en [(218,aae)] []
def akM:Fn [.R, .S] As:=λa b=>[aH 9 a,aS b]
def aoU:Fn [.B] dE:=λa=>⟨[aB a],[]⟩
def L7:=eg akM aoU rL.c rL.v
theorem Rq:FO 160 L7:=fr (E:=amn) (aG ahg ba) func160 rL.b rL.vo

def amv:=en [(188,L9),(160,L7)] []
def ak2:Fn [.R, .R, .R, .I, .S] As:=λa b c d e=>[aV [.sh 9 a, .sh 9 b, .sh 59 c, .n d],aS e]
def ao_:Fn [.B] dE:=λa=>⟨[aB a],[]⟩
def Sv:=eg ak2 ao_ uP.c uP.v
theorem Zp:FO 187 Sv:=fr (E:=amv) (aG Rs (aG Rq ba)) func187 uP.b uP.vo

def aaW:=en [(63,sQ)] [(2,[1,2,8,9,10]),(5,[1,2,4,8,9,10,14,15,16])]
def akU:Fn [.R, .I] As:=λa b=>[aV [.sh 59 a, .n b]]
def ao2:Fn [.B] dE:=λa=>⟨[aB a],[]⟩
def xG:Fn [.B, .R, .I, .I, .R, .I] Tb:=λa b c d e f=>[cP 2 0,cA 4 (.b a),cH 16 59 b,cI 18 c,cI 20 d,oB 1 [.sh 59 e, .n f]]
def xH:Fn [.B, .R, .R, .I, .I, .R, .I, .I, .R, .I] Tb:=λa b c d e f g h i j=>[cP 2 0,cA 4 (.b a),cH 8 3 b,cH 16 59 c,cI 18 d,cI 20 e,cH 28 3 f,cI 30 g,cI 32 h,oB 1 [.sh 59 i, .n j]]
def OG(N:aE)(K:Kt R):=oV.l2 N (J xG .ret K) (J xG (.exit 0) K)
def OH(N:aE)(K:Kt R):=oV.l5 N (J xH .ret K) (J xH (.exit 2) K)
def QP(N:aE):It R:=(lp 2 (al xG (λK=>OG N K N) an) (lp 5 (al xH (λK=>OH N K N) an) ln))
theorem VR(N:aE):cq aaW (QP N (R:=R)) (b8 f169 2):=lq 2 xG (OG N) λK g=>oV.r2 N g (J xG .ret K) (J xG (.exit 0) K)
theorem VS(N:aE):cq aaW (QP N (R:=R)) (b8 f169 5):=lq 5 xH (OH N) λK g=>oV.r5 N g (J xH .ret K) (J xH (.exit 2) K)
def L8:=eg akU ao2 oV.c oV.v
theorem Rr:FO 169 L8:=fq (E:=aaW) (aG yx ba) func169 (it:=λN=>QP N) (λN=>(bk (VR N) (bk (VS N) bM))) oV.b oV.vo

def aeK:=en [(188,L9),(64,Kc),(160,L7),(169,L8)] [(3,[1,2,3,8,9,10])]
def akL:Fn [.R, .R, .R, .I] As:=λa b c d=>[aV [.sh 9 a, .sh 9 b, .sh 59 c, .n d]]
def aoT:Fn [.B] dE:=λa=>⟨[aB a],[]⟩
def xE:Fn [.B, .I, .I, .R, .R, .R, .I, .R] Tb:=λa b c d e f g h=>[cP 2 0,cA 4 (.b a),cA 6 (.own 1),cA 16 (.own 1),cI 18 b,cI 20 c,oB 1 [.sh 9 d, .sh 9 e, .sh 59 f, .n g],oR 3 9 h]
def OA(N:aE)(K:Kt R):=ou.l3 N (J xE .ret K) (J xE (.exit 0) K)
def YH(N:aE):It R:=(lp 3 (al xE (λK=>OA N K N) an) ln)
theorem VM(N:aE):cq aeK (YH N (R:=R)) (b8 f159 3):=lq 3 xE (OA N) λK g=>ou.r3 N g (J xE .ret K) (J xE (.exit 0) K)
def Sl:=eg akL aoT ou.c ou.v
theorem Zj:FO 159 Sl:=fq (E:=aeK) (aG Rs (aG Nl (aG Rq (aG Rr ba)))) func159 (it:=λN=>YH N) (λN=>(bk (VM N) bM)) ou.b ou.vo

def E97:=en [(158,L6),(187,Sv),(159,Sl),(188,L9)] [(2,[1,2,6,7,8])]
def A97:Fn [.I, .R, .R, .R, .R, .I, .R, .R, .I] As:=λa b c d e f g h i=>[aV [.n a, .sh 92 b, .sh 9 c, .sh 9 d, .sh 59 e, .n f, .sh 100 g, .sh 53 h, .n i]]
def k97:Fn [.B] dE:=λa=>⟨[aB a],[]⟩
def Db:Fn [.B, .R, .I, .I, .I, .R, .R, .R, .R, .I, .R, .R, .I] Tb:=λa b c d e f g h i j k l m=>[cP 2 0,cA 4 (.b a),cH 12 92 b,cI 14 c,cI 16 d,oB 1 [.n e, .sh 92 f, .sh 9 g, .sh 9 h, .sh 59 i, .n j, .sh 100 k, .sh 53 l, .n m]]
def XV(N:aE)(K:Kt R):=NX.l2 N (J Db .ret K) (J Db (.exit 0) K)
def agq(N:aE):It R:=(lp 2 (al Db (λK=>XV N K N) an) ln)
theorem acU(N:aE):cq E97 (agq N (R:=R)) (b8 f97 2):=lq 2 Db (XV N) λK g=>NX.r2 N g (J Db .ret K) (J Db (.exit 0) K)
def aiH:=eg A97 k97 NX.c NX.v
theorem aqR:FO 97 aiH:=fq (E:=E97) (aG Zi (aG Zp (aG Zj (aG Rs ba)))) func97 (it:=λN=>agq N) (λN=>(bk (acU N) bM)) NX.b NX.vo

def amp:=en [] []
def akQ:Fn [.S, .S, .I, .I, .I, .S] As:=λa b c d e f=>[aV [.s a, .s b, .n c, .n d, .n e], .fb [.s f]]
def aoY:Fn [.B] dE:=λa=>⟨[aB a],[]⟩
def Z1:=eg akQ aoY (ct _) Gs.v
theorem ag2:FO 165 Z1:=ft (E:=amp) ba func165 Gs.b λ(a0,a1,a2,a3,a4,a5,_)=>Gs.fJ _ a0 a1 a2 a3 a4 a5

def aeM:=en [(165,Z1)] [(2,[0,1,4,7,8])]
def akP:Fn [.R, .S] As:=λa b=>[aH 100 a, .v ak [.fn 165 [[.s b]]]]
def aoX:Fn [.I] dE:=λa=>⟨[aI a],[]⟩
def xF:Fn [.R, .S, .I, .I, .I] Tb:=λa b c d e=>[cH 0 100 a,cA 2 (.fn 165 [[.s b]]),cI 8 c,cI 14 d,cI 16 e]
def OC(N:aE)(K:Kt R):=pS.l2 N (J xF .ret K) (J xF (.exit 0) K)
def YJ(N:aE):It R:=(lp 2 (al xF (λK=>OC N K N) an) ln)
theorem VO(N:aE):cq aeM (YJ N (R:=R)) (b8 f164 2):=lq 2 xF (OC N) λK g=>pS.r2 N g (J xF .ret K) (J xF (.exit 0) K)
def Z0:=eg akP aoX pS.c pS.v
theorem ag1:FO 164 Z0:=fq (E:=aeM) (aG ag2 ba) func164 (it:=λN=>YJ N) (λN=>(bk (VO N) bM)) pS.b pS.vo

def E71:=en [(164,Z0)] []
def A71:Fn [.I, .R, .R, .R, .R, .I, .R, .R, .I, .S] As:=λa b c d e f g h i j=>[aV [.n a, .sh 92 b, .sh 9 c, .sh 9 d, .sh 59 e, .n f, .sh 100 g, .sh 53 h, .n i],aS j]
def k71:Fn [.I] dE:=λa=>⟨[aI a],[]⟩
def adx:=eg A71 k71 IU.c IU.v
theorem ahL:FO 71 adx:=fr (E:=E71) (aG ag1 ba) func71 IU.b IU.vo

def aeA:=en [(71,adx)] [(2,[1,2,6,7,8])]
def akn:Fn [.I, .R, .R, .R, .R, .I, .R, .R, .I] As:=λa b c d e f g h i=>[aV [.n a, .sh 92 b, .sh 9 c, .sh 9 d, .sh 59 e, .n f, .sh 100 g, .sh 53 h, .n i]]
def aov:Fn [.B] dE:=λa=>⟨[aB a],[]⟩
def w7:Fn [.B, .R, .I, .I, .I, .R, .R, .R, .R, .I, .R, .R, .I] Tb:=λa b c d e f g h i j k l m=>[cP 2 0,cA 4 (.b a),cH 12 100 b,cI 14 c,cI 16 d,oB 1 [.n e, .sh 92 f, .sh 9 g, .sh 9 h, .sh 59 i, .n j, .sh 100 k, .sh 53 l, .n m]]
def Oi(N:aE)(K:Kt R):=vA.l2 N (J w7 .ret K) (J w7 (.exit 0) K)
def Yx(N:aE):It R:=(lp 2 (al w7 (λK=>Oi N K N) an) ln)
theorem Vz(N:aE):cq aeA (Yx N (R:=R)) (b8 f120 2):=lq 2 w7 (Oi N) λK g=>vA.r2 N g (J w7 .ret K) (J w7 (.exit 0) K)
def ZR:=eg akn aov vA.c vA.v
theorem agS:FO 120 ZR:=fq (E:=aeA) (aG ahL ba) func120 (it:=λN=>Yx N) (λN=>(bk (Vz N) bM)) vA.b vA.vo

def E98:=en [(64,Kc),(63,sQ),(120,ZR)] [(2,[1,2,6,7,8])]
def A98:Fn [.I, .R, .R, .R, .R, .I, .R, .R, .I] As:=λa b c d e f g h i=>[aV [.n a, .sh 92 b, .sh 9 c, .sh 9 d, .sh 59 e, .n f, .sh 100 g, .sh 53 h, .n i]]
def k98:Fn [.B] dE:=λa=>⟨[aB a],[]⟩
def Dc:Fn [.B, .R, .I, .I, .I, .R, .R, .R, .R, .I, .R, .R, .I] Tb:=λa b c d e f g h i j k l m=>[cP 2 0,cA 4 (.b a),cH 12 100 b,cI 14 c,cI 16 d,oB 1 [.n e, .sh 92 f, .sh 9 g, .sh 9 h, .sh 59 i, .n j, .sh 100 k, .sh 53 l, .n m]]
def XW(N:aE)(K:Kt R):=ME.l2 N (J Dc .ret K) (J Dc (.exit 0) K)
def ags(N:aE):It R:=(lp 2 (al Dc (λK=>XW N K N) an) ln)
theorem acV(N:aE):cq E98 (ags N (R:=R)) (b8 f98 2):=lq 2 Dc (XW N) λK g=>ME.r2 N g (J Dc .ret K) (J Dc (.exit 0) K)
def aiI:=eg A98 k98 ME.c ME.v
theorem aqS:FO 98 aiI:=fq (E:=E98) (aG Nl (aG yx (aG agS ba))) func98 (it:=λN=>ags N) (λN=>(bk (acV N) bM)) ME.b ME.vo

def E99:=en [(63,sQ),(64,Kc)] [(2,[1,2,6,7,8])]
def A99:Fn [.I, .R, .R, .R, .R, .I, .R, .R, .I] As:=λa b c d e f g h i=>[aV [.n a, .sh 92 b, .sh 9 c, .sh 9 d, .sh 59 e, .n f, .sh 100 g, .sh 53 h, .n i]]
def k99:Fn [.B] dE:=λa=>⟨[aB a],[]⟩
def Dd:Fn [.B, .R, .I, .I, .I, .R, .R, .R, .R, .I, .R, .R, .I] Tb:=λa b c d e f g h i j k l m=>[cP 2 0,cA 4 (.b a),cH 12 53 b,cI 14 c,cI 16 d,oB 1 [.n e, .sh 92 f, .sh 9 g, .sh 9 h, .sh 59 i, .n j, .sh 100 k, .sh 53 l, .n m]]
def XX(N:aE)(K:Kt R):=NY.l2 N (J Dd .ret K) (J Dd (.exit 0) K)
def agt(N:aE):It R:=(lp 2 (al Dd (λK=>XX N K N) an) ln)
theorem acW(N:aE):cq E99 (agt N (R:=R)) (b8 f99 2):=lq 2 Dd (XX N) λK g=>NY.r2 N g (J Dd .ret K) (J Dd (.exit 0) K)
def aiJ:=eg A99 k99 NY.c NY.v
theorem aqT:FO 99 aiJ:=fq (E:=E99) (aG yx (aG Nl ba)) func99 (it:=λN=>agt N) (λN=>(bk (acW N) bM)) NY.b NY.vo

def E25:=en [(63,sQ),(97,aiH),(98,aiI),(99,aiJ),(100,LS)] []
def A25:Fn [.I, .R, .R, .R, .R, .I, .R, .R, .I] As:=λa b c d e f g h i=>[aV [.n a, .sh 92 b, .sh 9 c, .sh 9 d, .sh 59 e, .n f, .sh 100 g, .sh 53 h, .n i]]
def k25:Fn [.B] dE:=λa=>⟨[aB a],[]⟩
def Xa:=eg A25 k25 o9.c o9.v
theorem ac1:FO 25 Xa:=fr (E:=E25) (aG yx (aG aqR (aG aqS (aG aqT (aG Rg ba))))) func25 o9.b o9.vo

def aml:=en [] []
def akJ:Fn [.I, .S, .I, .I, .I, .S, .I, .I] As:=λa b c d e f g h=>[aV [.n a, .s b, .n c, .n d, .n e, .s f, .n g], .fb [.n h]]
def aoR:Fn [.B] dE:=λa=>⟨[aB a],[]⟩
def ZX:=eg akJ aoR (ct _) IJ.v
theorem agY:FO 157 ZX:=ft (E:=aml) ba func157 IJ.b λ(a0,a1,a2,a3,a4,a5,a6,a7,_)=>IJ.fJ _ a0 a1 a2 a3 a4 a5 a6 a7

def Xz:=en [(157,ZX)] [(2,[0,1,4,7,8])]
def aet:Fn [.R, .I] As:=λa b=>[aH 53 a, .v ak [.fn 157 [[.n b]]]]
def agu:Fn [.I] dE:=λa=>⟨[aI a],[]⟩
def s6:Fn [.R, .I, .I, .I, .I] Tb:=λa b c d e=>[cH 0 53 a,cA 2 (.fn 157 [[.n b]]),cI 8 c,cI 14 d,cI 16 e]
def Ks(N:aE)(K:Kt R):=pR.l2 N (J s6 .ret K) (J s6 (.exit 0) K)
def QN(N:aE):It R:=(lp 2 (al s6 (λK=>Ks N K N) an) ln)
theorem Q4(N:aE):cq Xz (QN N (R:=R)) (b8 f156 2):=lq 2 s6 (Ks N) λK g=>pR.r2 N g (J s6 .ret K) (J s6 (.exit 0) K)
def Sj:=eg aet agu pR.c pR.v
theorem acZ:FO 156 Sj:=fq (E:=Xz) (aG agY ba) func156 (it:=λN=>QN N) (λN=>(bk (Q4 N) bM)) pR.b pR.vo

def E93:=en [] []
def A93:Fn [.I, .S, .I, .I, .I, .S, .I, .I] As:=λa b c d e f g h=>[aV [.n a, .s b, .n c, .n d, .n e, .s f, .n g], .fb [.n h]]
def k93:Fn [.B] dE:=λa=>⟨[aB a],[]⟩
def aiD:=eg A93 k93 (ct _) U93.v
theorem aqN:FO 93 aiD:=ft (E:=E93) ba func93 U93.b λ(a0,a1,a2,a3,a4,a5,a6,a7,_)=>U93.fJ _ a0 a1 a2 a3 a4 a5 a6 a7

def XA:=en [(93,aiD)] [(2,[0,1,4,7,8])]
def aeu:Fn [.R, .I] As:=λa b=>[aH 53 a, .v ak [.fn 93 [[.n b]]]]
def agv:Fn [.I] dE:=λa=>⟨[aI a],[]⟩
def s7:Fn [.R, .I, .I, .I, .I] Tb:=λa b c d e=>[cH 0 53 a,cA 2 (.fn 93 [[.n b]]),cI 8 c,cI 14 d,cI 16 e]
def Ku(N:aE)(K:Kt R):=Ay.l2 N (J s7 .ret K) (J s7 (.exit 0) K)
def QO(N:aE):It R:=(lp 2 (al s7 (λK=>Ku N K N) an) ln)
theorem Q5(N:aE):cq XA (QO N (R:=R)) (b8 f156 2):=lq 2 s7 (Ku N) λK g=>Ay.r2 N g (J s7 .ret K) (J s7 (.exit 0) K)
def Sk:=eg aeu agv Ay.c Ay.v
theorem ac0:FO 156 Sk:=fq (E:=XA) (aG aqN ba) func156 (it:=λN=>QO N) (λN=>(bk (Q5 N) bM)) Ay.b Ay.vo

def E65:=en [(156,Sj),(156,Sk)] []
def A65:Fn [.I, .R, .R, .R, .R, .I, .R, .R, .I, .I] As:=λa b c d e f g h i j=>[aV [.n a, .sh 92 b, .sh 9 c, .sh 9 d, .sh 59 e, .n f, .sh 100 g, .sh 53 h, .n i],aI j]
def k65:Fn [.I] dE:=λa=>⟨[aI a],[]⟩
def aix:=eg A65 k65 TD.c TD.v
theorem aqH:FO 65 aix:=fr (E:=E65) (aG acZ (aG ac0 ba)) func65 TD.b TD.vo

def E67:=en [] []
def A67:Fn [.S, .I, .I, .S, .S] As:=λa b c d e=>[aV [.s a, .n b, .n c, .s d], .fb [.s e]]
def k67:Fn [.B] dE:=λa=>⟨[aB a],[]⟩
def aiy:=eg A67 k67 (ct _) U67.v
theorem aqI:FO 67 aiy:=ft (E:=E67) ba func67 U67.b λ(a0,a1,a2,a3,a4,_)=>U67.fJ _ a0 a1 a2 a3 a4

def ae8:=en [(67,aiy)] [(2,[0,1,4,7,8])]
def al3:Fn [.R, .S] As:=λa b=>[aH 92 a, .v ak [.fn 67 [[.s b]]]]
def aqb:Fn [.I] dE:=λa=>⟨[aI a],[]⟩
def xS:Fn [.R, .S, .I, .I, .I] Tb:=λa b c d e=>[cH 0 92 a,cA 2 (.fn 67 [[.s b]]),cI 8 c,cI 14 d,cI 16 e]
def Pt(N:aE)(K:Kt R):=vJ.l2 N (J xS .ret K) (J xS (.exit 0) K)
def Y5(N:aE):It R:=(lp 2 (al xS (λK=>Pt N K N) an) ln)
theorem Wv(N:aE):cq ae8 (Y5 N (R:=R)) (b8 f66 2):=lq 2 xS (Pt N) λK g=>vJ.r2 N g (J xS .ret K) (J xS (.exit 0) K)
def SP:=eg al3 aqb vJ.c vJ.v
theorem ZD:FO 66 SP:=fq (E:=ae8) (aG aqI ba) func66 (it:=λN=>Y5 N) (λN=>(bk (Wv N) bM)) vJ.b vJ.vo

def amq:=en [] []
def akS:Fn [.S, .I, .I, .S, .S] As:=λa b c d e=>[aV [.s a, .n b, .n c, .s d], .fb [.s e]]
def ao0:Fn [.B] dE:=λa=>⟨[aB a],[]⟩
def Sq:=eg akS ao0 (ct _) zr.v
theorem Zl:FO 167 Sq:=ft (E:=amq) ba func167 zr.b λ(a0,a1,a2,a3,a4,_)=>zr.fJ _ a0 a1 a2 a3 a4

def ae9:=en [(167,Sq)] [(2,[0,1,4,7,8])]
def al4:Fn [.R, .S] As:=λa b=>[aH 92 a, .v ak [.fn 167 [[.s b]]]]
def aqc:Fn [.I] dE:=λa=>⟨[aI a],[]⟩
def xT:Fn [.R, .S, .I, .I, .I] Tb:=λa b c d e=>[cH 0 92 a,cA 2 (.fn 167 [[.s b]]),cI 8 c,cI 14 d,cI 16 e]
def Pv(N:aE)(K:Kt R):=rO.l2 N (J xT .ret K) (J xT (.exit 0) K)
def Y6(N:aE):It R:=(lp 2 (al xT (λK=>Pv N K N) an) ln)
theorem Ww(N:aE):cq ae9 (Y6 N (R:=R)) (b8 f66 2):=lq 2 xT (Pv N) λK g=>rO.r2 N g (J xT .ret K) (J xT (.exit 0) K)
def SQ:=eg al4 aqc rO.c rO.v
theorem ZE:FO 66 SQ:=fq (E:=ae9) (aG Zl ba) func66 (it:=λN=>Y6 N) (λN=>(bk (Ww N) bM)) rO.b rO.vo

def amA:=en [] []
def alf:Fn [.S, .I, .I, .S, .I, .S, .I, .I, .I, .S, .I] As:=λa b c d e f g h i j k=>[aV [.s a, .n b, .n c, .s d], .fb [.n e, .s f, .n g, .n h, .n i, .s j, .n k]]
def apn:Fn [.B] dE:=λa=>⟨[aB a],[]⟩
def aab:=eg alf apn (ct _) PJ.v
theorem ahd:FO 206 aab:=ft (E:=amA) ba func206 PJ.b λ(a0,a1,a2,a3,a4,a5,a6,a7,a8,a9,a10,_)=>PJ.fJ _ a0 a1 a2 a3 a4 a5 a6 a7 a8 a9 a10

def ae_:=en [(206,aab)] [(2,[0,1,4,7,8])]
def al5:Fn [.R, .I, .S, .I, .I, .I, .S, .I] As:=λa b c d e f g h=>[aH 92 a, .v ak [.fn 206 [[.n b, .s c, .n d, .n e, .n f, .s g, .n h]]]]
def aqd:Fn [.I] dE:=λa=>⟨[aI a],[]⟩
def xU:Fn [.R, .I, .S, .I, .I, .I, .S, .I, .I, .I, .I] Tb:=λa b c d e f g h i j k=>[cH 0 92 a,cA 2 (.fn 206 [[.n b, .s c, .n d, .n e, .n f, .s g, .n h]]),cI 8 i,cI 14 j,cI 16 k]
def Pw(N:aE)(K:Kt R):=IQ.l2 N (J xU .ret K) (J xU (.exit 0) K)
def Y7(N:aE):It R:=(lp 2 (al xU (λK=>Pw N K N) an) ln)
theorem Wx(N:aE):cq ae_ (Y7 N (R:=R)) (b8 f66 2):=lq 2 xU (Pw N) λK g=>IQ.r2 N g (J xU .ret K) (J xU (.exit 0) K)
def SR:=eg al5 aqd IQ.c IQ.v
theorem ZF:FO 66 SR:=fq (E:=ae_) (aG ahd ba) func66 (it:=λN=>Y7 N) (λN=>(bk (Wx N) bM)) IQ.b IQ.vo

def E68:=en [(158,L6),(100,LS),(63,sQ)] []
def A68:Fn [.S, .I, .I, .S, .I] As:=λa b c d e=>[aV [.s a, .n b, .n c, .s d],aI e]
def k68:Fn [.B] dE:=λa=>⟨[aB a],[]⟩
def aiz:=eg A68 k68 (ct _) Ih.v
theorem aqJ:FO 68 aiz:=ft (E:=E68) (aG Zi (aG Rg (aG yx ba))) func68 Ih.b λ(a0,a1,a2,a3,a4,_)=>Ih.fJ _ a0 a1 a2 a3 a4

def aa0:=en [] [(2,[0,1,5]),(6,[0,1,5,19])]
def alL:Fn [.I, .S] As:=λa b=>[.v ak [.i .u32 a],aS b]
def apU:Fn [.I] dE:=λa=>⟨[.v ak [.i .u32 a]],[]⟩
def Eo:Fn [.I, .S, .I] Tb:=λa b c=>[cA 0 (.i .u32 a),cA 2 (.s b),cI 10 c]
def Ep:Fn [.I, .S, .I, .I] Tb:=λa b c d=>[cA 0 (.i .u32 a),cA 2 (.s b),cI 10 c,cI 38 d]
def O7(N:aE)(K:Kt R):=vF.l2 N (J Eo (.exit 0) K)
def O8(N:aE)(K:Kt R):=vF.l6 N (J Ep (.exit 2) K)
def QT(N:aE):It R:=(lp 2 (al Eo (λK=>O7 N K N) an) (lp 6 (al Ep (λK=>O8 N K N) an) ln))
theorem Wc(N:aE):cq aa0 (QT N (R:=R)) (b8 f253 2):=lq 2 Eo (O7 N) λK g=>vF.r2 N g (J Eo (.exit 0) K)
theorem We(N:aE):cq aa0 (QT N (R:=R)) (b8 f253 6):=lq 6 Ep (O8 N) λK g=>vF.r6 N g (J Ep (.exit 2) K)
def aaq:=eg alL apU vF.c vF.v
theorem aht:FO 253 aaq:=fq (E:=aa0) ba func253 (it:=λN=>QT N) (λN=>(bk (Wc N) (bk (We N) bM))) vF.b vF.vo

def amJ:=en [(253,aaq)] []
def alr:Fn [.S] As:=λa=>[aS a]
def apz:Fn [.I] dE:=λa=>⟨[.v ak [.i .u32 a]],[]⟩
def SE:=eg alr apz tQ.c tQ.v
theorem ahj:FO 224 SE:=fr (E:=amJ) (aG aht ba) func224 tQ.b tQ.vo

def amr:=en [(224,SE)] []
def akV:Fn [.I, .S] As:=λa b=>[aI a,aS b]
def ao3:Fn [.I] dE:=λa=>⟨[aI a],[]⟩
def Ss:=eg akV ao3 pT.c pT.v
theorem Zn:FO 170 Ss:=fr (E:=amr) (aG ahj ba) func170 pT.b pT.vo

def E74:=en [(168,Sr),(169,L8),(170,Ss)] [(5,[1,4,5,19,20,21]),(15,[4,5,49,50,51]),(18,[4,5,10,49,50,51,56,57])]
def A74:Fn [.R, .I, .S] As:=λa b c=>[aV [.sh 59 a, .n b],aS c]
def k74:Fn [.R, .I] dE:=λa b=>⟨[aV [.ow 59 ai a, .n b]],[]⟩
def KN:Fn [.S, .I, .I, .I, .I, .R] Tb:=λa b c d e f=>[cA 2 (.s a),cP 8 0,cP 10 1,cA 38 (.own 2),cI 40 b,cI 42 c,oB 1 [.nl, .n d],oB 3 [.own 2, .n e],oR 5 59 f]
def EC:Fn [.I, .I, .I, .I, .R] Tb:=λa b c d e=>[cP 8 0,cP 10 1,cA 98 (.own 2),cI 100 a,cI 102 b,oB 1 [.nl, .n c],oB 3 [.own 2, .n d],oR 5 59 e]
def ED:Fn [.N, .I, .I, .I, .I, .I, .I, .R] Tb:=λa b c d e f g h=>[cP 8 0,cP 10 1,cA 20 (.inn 2 a 0),cA 98 (.own 2),cI 100 b,cI 102 c,cI 112 d,cI 114 e,oB 1 [.nl, .n f],oB 3 [.own 2, .n g],oR 5 59 h]
def XR(N:aE)(K:Kt R):=nI.l5 N (J KN (.exit 0) K)
def Py(N:aE)(K:Kt R):=nI.l15 N (J EC (.exit 2) K)
def Pz(N:aE)(K:Kt R):=nI.l18 N (J ED (.exit 4) K)
def Vr(N:aE):It R:=(lp 5 (al KN (λK=>XR N K N) an) (lp 15 (al EC (λK=>Py N K N) an) (lp 18 (al ED (λK=>Pz N K N) an) ln)))
theorem acQ(N:aE):cq E74 (Vr N (R:=R)) (b8 f74 5):=lq 5 KN (XR N) λK g=>nI.r5 N g (J KN (.exit 0) K)
theorem Wy(N:aE):cq E74 (Vr N (R:=R)) (b8 f74 15):=lq 15 EC (Py N) λK g=>nI.r15 N g (J EC (.exit 2) K)
theorem Wz(N:aE):cq E74 (Vr N (R:=R)) (b8 f74 18):=lq 18 ED (Pz N) λK g=>nI.r18 N g (J ED (.exit 4) K)
def ady:=eg A74 k74 nI.c nI.v
theorem ahM:FO 74 ady:=fq (E:=E74) (aG Zm (aG Rr (aG Zn ba))) func74 (it:=λN=>Vr N) (λN=>(bk (acQ N) (bk (Wy N) (bk (Wz N) bM)))) nI.b nI.vo

def amH:=en [] []
def alp:Fn [.S, .S] As:=λa b=>[aS a, .fb [.s b]]
def apx:Fn [.B] dE:=λa=>⟨[aB a],[]⟩
def SD:=eg alp apx (ct _) zw.v
theorem Zw:FO 220 SD:=ft (E:=amH) ba func220 zw.b λ(a0,a1,_)=>zw.fJ _ a0 a1

def ae2:=en [(220,SD)] [(2,[0,1,4,7,8])]
def alK:Fn [.R, .S] As:=λa b=>[aH 9 a, .v ak [.fn 220 [[.s b]]]]
def apT:Fn [.I] dE:=λa=>⟨[aI a],[]⟩
def xR:Fn [.R, .S, .I, .I, .I] Tb:=λa b c d e=>[cH 0 9 a,cA 2 (.fn 220 [[.s b]]),cI 8 c,cI 14 d,cI 16 e]
def O6(N:aE)(K:Kt R):=rN.l2 N (J xR .ret K) (J xR (.exit 0) K)
def YZ(N:aE):It R:=(lp 2 (al xR (λK=>O6 N K N) an) ln)
theorem Wb(N:aE):cq ae2 (YZ N (R:=R)) (b8 f251 2):=lq 2 xR (O6 N) λK g=>rN.r2 N g (J xR .ret K) (J xR (.exit 0) K)
def aap:=eg alK apT rN.c rN.v
theorem ahs:FO 251 aap:=fq (E:=ae2) (aG Zw ba) func251 (it:=λN=>YZ N) (λN=>(bk (Wb N) bM)) rN.b rN.vo

def aeX:=en [(251,aap),(220,SD)] [(5,[0,1,5,6])]
def alo:Fn [.R, .S] As:=λa b=>[aO 9 a, .v ak [.fn 220 [[.s b]]]]
def apw:Fn [.R] dE:=λa=>⟨[aO 9 a],[[.nl]]⟩
def Ei:Fn [.S, .I, .I, .R] Tb:=λa b c d=>[cA 0 (.own 900000000),cA 2 (.fn 220 [[.s a]]),cI 10 b,cI 12 c,oR 1800000001 9 d]
def OU(N:aE)(K:Kt R):=vC.l5 N (J Ei (.exit 0) K)
def YU(N:aE):It R:=(lp 5 (al Ei (λK=>OU N K N) an) ln)
theorem V4(N:aE):cq aeX (YU N (R:=R)) (b8 f219 5):=lq 5 Ei (OU N) λK g=>vC.r5 N g (J Ei (.exit 0) K)
def aaf:=eg alo apw vC.c vC.v
theorem ahh:FO 219 aaf:=fq (E:=aeX) (aG ahs (aG Zw ba)) func219 (it:=λN=>YU N) (λN=>(bk (V4 N) bM)) vC.b vC.vo

def amo:=en [(217,SC),(219,aaf)] []
def akN:Fn [.R, .S] As:=λa b=>[aH 9 a,aS b]
def aoV:Fn [.R] dE:=λa=>⟨[aO 9 a],[]⟩
def Sn:=eg akN aoV jB.c jB.v
theorem Zk:FO 161 Sn:=fr (E:=amo) (aG Zv (aG ahh ba)) func161 jB.b jB.vo

def aeL:=en [(169,L8),(170,Ss)] [(5,[1,5,12,13,14])]
def akO:Fn [.R, .I, .S] As:=λa b c=>[aV [.sh 59 a, .n b],aS c]
def aoW:Fn [.I] dE:=λa=>⟨[aI a],[]⟩
def Eb:Fn [.S, .I, .R, .I, .I] Tb:=λa b c d e=>[cA 2 (.s a),cI 10 b,cH 24 59 c,cI 26 d,cI 28 e]
def OB(N:aE)(K:Kt R):=uM.l5 N (J Eb (.exit 0) K)
def YI(N:aE):It R:=(lp 5 (al Eb (λK=>OB N K N) an) ln)
theorem VN(N:aE):cq aeL (YI N (R:=R)) (b8 f162 5):=lq 5 Eb (OB N) λK g=>uM.r5 N g (J Eb (.exit 0) K)
def ZY:=eg akO aoW uM.c uM.v
theorem agZ:FO 162 ZY:=fq (E:=aeL) (aG Rr (aG Zn ba)) func162 (it:=λN=>YI N) (λN=>(bk (VN N) bM)) uM.b uM.vo

def E69:=en [(155,L5),(159,Sl),(64,Kc),(74,ady),(160,L7),(161,Sn),(162,ZY)] []
def A69:Fn [.R, .R, .R, .I, .S] As:=λa b c d e=>[aV [.sh 9 a, .sh 9 b, .sh 59 c, .n d],aS e]
def k69:Fn [.R, .R, .R, .I, .S] dE:=λa b c d e=>⟨[aV [.ow 9 ai a, .ow 9 ai b, .ow 59 ai c, .n d],aS e],[]⟩
def adw:=eg A69 k69 MD.c MD.v
theorem ahK:FO 69 adw:=fr (E:=E69) (aG Rp (aG Zj (aG Nl (aG ahM (aG Rq (aG Zk (aG agZ ba))))))) func69 MD.b MD.vo

def adm:Go.Shelf.Ren:=⟨λn=>bif bn n 22 then 163 else bif bn n 29 then 221 else 222,λn=>bif bn n 24 then 39 else bif bn n 9 then 53 else bif bn n 3 then 3 else bif bn n 4 then 4 else n,λn=>n⟩
def ZZ:ay eQ->aC (aW×dE):=Ins.zZ 53 72
theorem acp:Ins.L Tryz.prog adm "slices.Insert[[]loop.example/g00245/impl.Client,loop.example/g00245/impl.Client]" 7 where
 mixed:=hM
 f22:=func163.trans (by kernel_rfl)
 t3:=by kernel_rfl
 a3:=Ins.n8 (P:=Tryz.prog) (t:=3) (d:= .int .i64) (by kernel_rfl) rfl
 t4:=by kernel_rfl
 a4:=Ins.n8 (P:=Tryz.prog) (t:=4) (d:= .bool) (by kernel_rfl) rfl
 t24:=by kernel_rfl
 a24:=Ins.n8 (P:=Tryz.prog) (t:=39) (d:= .slice 53) (by kernel_rfl) rfl
 z9:=Ins.LR hE (t:=53) (ti:=⟨ai,[.i .i64, .s, .i .i64, .i .i64, .i .i64, .s, .i .i64],72⟩) (by kernel_rfl)
theorem ag0:FO 163 ZZ:=
 Ins.Dz (e:=53) (te:=⟨ai,[.i .i64, .s, .i .i64, .i .i64, .i .i64, .s, .i .i64],72⟩) (by kernel_rfl) rfl (by kernel_rfl) hE acp
  (λargs w=>run_callFunc_extern (e:=gE #[39,39] #[4]) func221 (by kernel_rfl) (by kernel_rfl) (by kernel_rfl) (by kernel_rfl) args w)
  ⟨_,func163,by kernel_rfl,by kernel_rfl⟩

def E70:=en [(163,ZZ)] [(2,[0,3,4])]
def A70:Fn [.I, .R, .R, .R, .R, .I, .R, .R, .I, .I, .S, .I, .I, .I, .S, .I] As:=λa b c d e f g h i j k l m o p q=>[.pt [.n a, .ow 92 ai b, .ow 9 ai c, .ow 9 ai d, .ow 59 ai e, .n f, .ow 100 ai g, .ow 53 ai h, .n i],aV [.n j, .s k, .n l, .n m, .n o, .s p, .n q]]
def k70:Fn [.I, .R, .R, .R, .R, .I, .R, .R, .I] dE:=λa b c d e f g h i=>⟨[],[[.n a, .kp b, .kp c, .kp d, .kp e, .n f, .kp g, .ow 53 ai h, .n i]]⟩
def KM:Fn [.I, .I, .I, .I, .I, .S, .I, .I, .I, .S, .I, .R, .R, .R, .R, .R, .R] Tb:=λa b c d e f g h i j k l m o p q r=>[cP 0 900000900,cP 6 1,cI 8 a,oB 1800001801 [.n b, .own 900000001, .own 900000002, .own 900000003, .own 900000004, .n c, .own 900000006, .own 900000007, .n d],oB 3 [.n e, .s f, .n g, .n h, .n i, .s j, .n k],oR 1800000003 92 l,oR 1800000005 9 m,oR 1800000007 9 o,oR 1800000009 59 p,oR 1800000013 100 q,oR 1800000015 53 r]
def XQ(N:aE)(K:Kt R):=o_.l2 N (J KM (.exit 0) K)
def agm(N:aE):It R:=(lp 2 (al KM (λK=>XQ N K N) an) ln)
theorem acP(N:aE):cq E70 (agm N (R:=R)) (b8 f70 2):=lq 2 KM (XQ N) λK g=>o_.r2 N g (J KM (.exit 0) K)
def aiA:=eg A70 k70 o_.c o_.v
theorem aqK:FO 70 aiA:=fq (E:=E70) (aG ag0 ba) func70 (it:=λN=>agm N) (λN=>(bk (acP N) bM)) o_.b o_.vo

def aeN:=en [(66,SP),(66,SQ),(66,SR),(167,Sq)] [(5,[0,1,5,6])]
def akR:Fn [.R, .S] As:=λa b=>[aO 92 a, .v ak [.fn 167 [[.s b]]]]
def aoZ:Fn [.R] dE:=λa=>⟨[aO 92 a],[[.nl]]⟩
def Ec:Fn [.S, .I, .I, .R] Tb:=λa b c d=>[cA 0 (.own 900000000),cA 2 (.fn 167 [[.s a]]),cI 10 b,cI 12 c,oR 1800000001 92 d]
def OD(N:aE)(K:Kt R):=ov.l5 N (J Ec (.exit 0) K)
def YK(N:aE):It R:=(lp 5 (al Ec (λK=>OD N K N) an) ln)
theorem VP(N:aE):cq aeN (YK N (R:=R)) (b8 f166 5):=lq 5 Ec (OD N) λK g=>ov.r5 N g (J Ec (.exit 0) K)
def Z2:=eg akR aoZ ov.c ov.v
theorem ag3:FO 166 Z2:=fq (E:=aeN) (aG ZD (aG ZE (aG ZF (aG Zl ba)))) func166 (it:=λN=>YK N) (λN=>(bk (VP N) bM)) ov.b ov.vo

def E72:=en [(154,Si),(166,Z2)] []
def A72:Fn [.R, .S] As:=λa b=>[aH 92 a,aS b]
def k72:Fn [.R] dE:=λa=>⟨[aO 92 a],[]⟩
def Xf:=eg A72 k72 B7.c B7.v
theorem ac6:FO 72 Xf:=fr (E:=E72) (aG Zh (aG ag3 ba)) func72 B7.b B7.vo

def E73:=en [(155,L5),(161,Sn)] []
def A73:Fn [.R, .R, .R, .I, .S] As:=λa b c d e=>[aV [.sh 9 a, .sh 9 b, .sh 59 c, .n d],aS e]
def k73:Fn [.R, .R, .R, .I] dE:=λa b c d=>⟨[aV [.ow 9 ai a, .ow 9 ai b, .ow 59 ai c, .n d]],[]⟩
def aiB:=eg A73 k73 Ii.c Ii.v
theorem aqL:FO 73 aiB:=fr (E:=E73) (aG Rp (aG Zk ba)) func73 Ii.b Ii.vo

def E11:=en [(62,SN),(25,Xa),(63,sQ),(64,Kc),(65,aix),(66,SP),(66,SQ),(66,SR),(68,aiz),(69,adw),(70,aiA),(71,adx),(72,Xf),(73,aiB),(74,ady)] []
def A11:Fn [.I, .R, .R, .R, .R, .I, .R, .R, .I, .I, .S] As:=λa b c d e f g h i j k=>[aV [.n a, .sh 92 b, .sh 9 c, .sh 9 d, .sh 59 e, .n f, .sh 100 g, .sh 53 h, .n i],aI j,aS k]
def k11:Fn [.I, .R, .R, .R, .R, .I, .R, .R, .I, .I] dE:=λa b c d e f g h i j=>⟨[aV [.n a, .ow 92 ai b, .ow 9 ai c, .ow 9 ai d, .ow 59 ai e, .n f, .ow 100 ai g, .ow 53 ai h, .n i],aI j],[]⟩
def ah_:=eg A11 k11 PI.c PI.v
theorem aqs:FO 11 ah_:=fr (E:=E11) (aG WH (aG ac1 (aG yx (aG Nl (aG aqH (aG ZD (aG ZE (aG ZF (aG aqJ (aG ahK (aG aqK (aG ahL (aG ac6 (aG aqL (aG ahM ba))))))))))))))) func11 PI.b PI.vo

def aeB:=en [(103,qf),(89,adz)] [(5,[0,2,4,5,6,7])]
def akq:Fn [.R, .I, .I] As:=λa b c=>[.pt [.sh 5 a, .n b, .n c]]
def aoy:Fn [.I, .R, .R, .R, .R, .I, .R, .R, .I, .I, .R, .I, .I] dE:=λa b c d e f g h i j k l m=>⟨[aV [.n a, .ow 92 ai b, .ow 9 ai c, .ow 9 ai d, .sh 59 e, .n f, .ow 100 ai g, .ow 53 ai h, .n i],aI j],[[.sh 5 k, .n l, .n m]]⟩
def D7:Fn [.I, .I, .R, .I, .I, .I, .I, .I, .I, .R, .I, .I, .R, .R, .R, .R, .R, .R] Tb:=λa b c d e f g h i j k l m o p q r s=>[cP 0 900000900,cP 4 1,cI 8 a,cP 10 2,cA 12 (.own 3),cI 14 b,oB 1800001801 [.sh 5 c, .n d, .n e],oB 3 [.n f, .nl, .nl, .nl, .nl, .n g, .nl, .nl, .n h],oB 5 [.n i, .own 4, .own 5, .own 6, .sh 59 j, .n k, .own 7, .own 8, .n l],oR 7 3 m,oR 9 92 o,oR 11 9 p,oR 13 9 q,oR 15 100 r,oR 17 53 s]
def Oj(N:aE)(K:Kt R):=rJ.l5 N (J D7 (.exit 0) K)
def Yy(N:aE):It R:=(lp 5 (al D7 (λK=>Oj N K N) an) ln)
theorem VA(N:aE):cq aeB (Yy N (R:=R)) (b8 f127 5):=lq 5 D7 (Oj N) λK g=>rJ.r5 N g (J D7 (.exit 0) K)
def LW:=eg akq aoy rJ.c rJ.v
theorem Rj:FO 127 LW:=fq (E:=aeB) (aG rC (aG ahN ba)) func127 (it:=λN=>Yy N) (λN=>(bk (VA N) bM)) rJ.b rJ.vo

def aeC:=en [] [(3,[0,1,5,6])]
def akr:Fn [.I, .I] As:=λa b=>[aI a, .v ak [.i .u8 b]]
def aoz:Fn [.S] dE:=λa=>⟨[aS a],[]⟩
def D8:Fn [.I, .I, .I, .R] Tb:=λa b c d=>[cI 0 a,cA 2 (.i .u8 b),cA 10 (.own 0),cI 12 c,oR 1 5 d]
def Ol(N:aE)(K:Kt R):=zq.l3 N (J D8 (.exit 0) K)
def Yz(N:aE):It R:=(lp 3 (al D8 (λK=>Ol N K N) an) ln)
theorem VB(N:aE):cq aeC (Yz N (R:=R)) (b8 f128 3):=lq 3 D8 (Ol N) λK g=>zq.r3 N g (J D8 (.exit 0) K)
def ZS:=eg akr aoz zq.c zq.v
theorem agT:FO 128 ZS:=fq (E:=aeC) ba func128 (it:=λN=>Yz N) (λN=>(bk (VB N) bM)) zq.b zq.vo

def E37:=en [(87,SS),(88,SU),(127,LW),(128,ZS)] []
def A37:Fn [.R] As:=λa=>[aH 5 a]
def k37:Fn [.I, .R, .R, .R, .R, .I, .R, .R, .I, .I, .S] dE:=λa b c d e f g h i j k=>⟨[aV [.n a, .ow 92 ai b, .ow 9 ai c, .ow 9 ai d, .sh 59 e, .n f, .ow 100 ai g, .ow 53 ai h, .n i],aI j,aS k],[]⟩
def air:=eg A37 k37 TA.c TA.v
theorem aqB:FO 37 air:=fr (E:=E37) (aG WI (aG WJ (aG Rj (aG agT ba)))) func37 TA.b TA.vo

def al9:=en [(25,Xa),(63,sQ)] []
def akg:Fn [.I, .R, .R, .R, .R, .I, .R, .R, .I, .I] As:=λa b c d e f g h i j=>[aV [.n a, .sh 92 b, .sh 9 c, .sh 9 d, .sh 59 e, .n f, .sh 100 g, .sh 53 h, .n i],aI j]
def aon:Fn [.B] dE:=λa=>⟨[aB a],[]⟩
def LU:=eg akg aon tN.c tN.v
theorem Rh:FO 104 LU:=fr (E:=al9) (aG ac1 (aG yx ba)) func104 tN.b tN.vo

def amx:=en [] []
def ak4:Fn [.I, .S, .R] As:=λa b c=>[aV [.n a, .s b, .sh 231 c]]
def apb:Fn [.I, .S, .R] dE:=λa b c=>⟨[aV [.n a, .s b, .ow 231 ai c]],[]⟩
def Z8:=eg ak4 apb IK.c IK.v
theorem ag9:FO 190 Z8:=fh (E:=amx) ba func190 (it:=λ_=>ln) (λ_=>bM) (λ_=>IK.b) λx f h=>⟨0,IK.fJ _ x.1 x.2.1 x.2.2.1 h⟩

def aeR:=en [(63,sQ)] [(2,[1,2,6,7,8])]
def ak5:Fn [.I, .S, .R] As:=λa b c=>[aV [.n a, .s b, .sh 231 c]]
def apc:Fn [.B] dE:=λa=>⟨[aB a],[]⟩
def xK:Fn [.B, .R, .I, .I, .I, .S, .R] Tb:=λa b c d e f g=>[cP 2 0,cA 4 (.b a),cH 12 231 b,cI 14 c,cI 16 d,oB 1 [.n e, .s f, .sh 231 g]]
def OM(N:aE)(K:Kt R):=Gt.l2 N (J xK .ret K) (J xK (.exit 0) K)
def YO(N:aE):It R:=(lp 2 (al xK (λK=>OM N K N) an) ln)
theorem VW(N:aE):cq aeR (YO N (R:=R)) (b8 f191 2):=lq 2 xK (OM N) λK g=>Gt.r2 N g (J xK .ret K) (J xK (.exit 0) K)
def Z9:=eg ak5 apc (ct _) Gt.v
theorem ag_:FO 191 Z9:=fh (E:=aeR) (aG yx ba) func191 (it:=λN=>YO N) (λN=>(bk (VW N) bM)) Gt.b λx f h=>Gt.fJ _ x.1 x.2.1 x.2.2.1 f.1.2.1 f.1.2.2.1

def al_:=en [(190,Z8),(191,Z9),(63,sQ)] []
def akh:Fn [.I, .S, .R, .S] As:=λa b c d=>[aV [.n a, .s b, .sh 231 c],aS d]
def aoo:Fn [.I, .S, .R, .B] dE:=λa b c d=>⟨[aV [.n a, .s b, .ow 231 ai c],aB d],[]⟩
def ZN:=eg akh aoo Cn.c Cn.v
theorem agO:FO 105 ZN:=fh (E:=al_) (aG ag9 (aG ag_ (aG yx ba))) func105 (it:=λ_=>ln) (λ_=>bM) (λ_=>Cn.b) λx f h=>⟨0,Cn.fJ _ x.1 x.2.1 x.2.2.1 x.2.2.2.1 h f.1.2.1 f.1.2.2.1 f.2.1.1⟩

def aex:=en [] [(1,[0,1,9,10,11])]
def aki:Fn [.I, .R, .R, .R, .R, .I, .R, .R, .I, .I] As:=λa b c d e f g h i j=>[.pt [.n a, .ow 92 ai b, .ow 9 ai c, .ow 9 ai d, .ow 59 ai e, .n f, .ow 100 ai g, .ow 53 ai h, .n i],aI j]
def aop:Fn [.I, .R, .R, .R, .R, .I, .R, .R, .I] dE:=λa b c d e f g h i=>⟨[],[[.n a, .kp b, .kp c, .kp d, .kp e, .n f, .kp g, .kp h, .n i]]⟩
def D4:Fn [.I, .I, .I, .I, .I, .I, .R, .R, .R, .R, .R, .R] Tb:=λa b c d e f g h i j k l=>[cP 0 900000900,cI 2 a,cA 18 (.own 900000007),cI 20 b,cI 22 c,oB 1800001801 [.n d, .own 900000001, .own 900000002, .own 900000003, .own 900000004, .n e, .own 900000006, .own 900000007, .n f],oR 1800000015 53 g,oR 1800000003 92 h,oR 1800000005 9 i,oR 1800000007 9 j,oR 1800000009 59 k,oR 1800000013 100 l]
def Of(N:aE)(K:Kt R):=zp.l1 N (J D4 (.exit 0) K)
def Yu(N:aE):It R:=(lp 1 (al D4 (λK=>Of N K N) an) ln)
theorem Vw(N:aE):cq aex (Yu N (R:=R)) (b8 f106 1):=lq 1 D4 (Of N) λK g=>zp.r1 N g (J D4 (.exit 0) K)
def ZO:=eg aki aop zp.c zp.v
theorem agP:FO 106 ZO:=fq (E:=aex) ba func106 (it:=λN=>Yu N) (λN=>(bk (Vw N) bM)) zp.b zp.vo

def E28:=en [(62,SN),(104,LU),(105,ZN),(106,ZO)] []
def A28:Fn [.I, .R, .R, .R, .R, .I, .R, .R, .I, .I, .S] As:=λa b c d e f g h i j k=>[aV [.n a, .sh 92 b, .sh 9 c, .sh 9 d, .sh 59 e, .n f, .sh 100 g, .sh 53 h, .n i],aI j,aS k]
def k28:Fn [.I, .R, .R, .R, .R, .I, .R, .R, .I, .B] dE:=λa b c d e f g h i j=>⟨[aV [.n a, .ow 92 ai b, .ow 9 ai c, .ow 9 ai d, .ow 59 ai e, .n f, .ow 100 ai g, .ow 53 ai h, .n i],aB j],[]⟩
def ain:=eg A28 k28 Tw.c Tw.v
theorem aqx:FO 28 ain:=fr (E:=E28) (aG WH (aG Rh (aG agO (aG agP ba)))) func28 Tw.b Tw.vo

def E39:=en [(87,SS),(88,SU),(127,LW)] []
def A39:Fn [.R] As:=λa=>[aH 5 a]
def k39:Fn [.I, .R, .R, .R, .R, .I, .R, .R, .I, .I, .I] dE:=λa b c d e f g h i j k=>⟨[aV [.n a, .ow 92 ai b, .ow 9 ai c, .ow 9 ai d, .sh 59 e, .n f, .ow 100 ai g, .ow 53 ai h, .n i],aI j,aI k],[]⟩
def ais:=eg A39 k39 TB.c TB.v
theorem aqC:FO 39 ais:=fr (E:=E39) (aG WI (aG WJ (aG Rj ba))) func39 TB.b TB.vo

def aey:=en [] [(1,[0,1,2,11,12,13])]
def akj:Fn [.I, .R, .R, .R, .R, .I, .R, .R, .I, .I, .I] As:=λa b c d e f g h i j k=>[.pt [.n a, .ow 92 ai b, .ow 9 ai c, .ow 9 ai d, .ow 59 ai e, .n f, .ow 100 ai g, .ow 53 ai h, .n i],aI j,aI k]
def aoq:Fn [.I, .R, .R, .R, .R, .I, .R, .R, .I] dE:=λa b c d e f g h i=>⟨[],[[.n a, .kp b, .kp c, .kp d, .kp e, .n f, .kp g, .kp h, .n i]]⟩
def D5:Fn [.I, .I, .I, .I, .I, .I, .I, .R, .R, .R, .R, .R, .R] Tb:=λa b c d e f g h i j k l m=>[cP 0 900000900,cI 2 a,cI 4 b,cA 22 (.own 900000007),cI 24 c,cI 26 d,oB 1800001801 [.n e, .own 900000001, .own 900000002, .own 900000003, .own 900000004, .n f, .own 900000006, .own 900000007, .n g],oR 1800000015 53 h,oR 1800000003 92 i,oR 1800000005 9 j,oR 1800000007 9 k,oR 1800000009 59 l,oR 1800000013 100 m]
def Og(N:aE)(K:Kt R):=uL.l1 N (J D5 (.exit 0) K)
def Yv(N:aE):It R:=(lp 1 (al D5 (λK=>Og N K N) an) ln)
theorem Vx(N:aE):cq aey (Yv N (R:=R)) (b8 f107 1):=lq 1 D5 (Og N) λK g=>uL.r1 N g (J D5 (.exit 0) K)
def Sb:=eg akj aoq uL.c uL.v
theorem Zc:FO 107 Sb:=fq (E:=aey) ba func107 (it:=λN=>Yv N) (λN=>(bk (Vx N) bM)) uL.b uL.vo

def adn:Go.Shelf.Ren:=⟨λn=>bif bn n 22 then 234 else bif bn n 29 then 262 else 263,λn=>bif bn n 24 then 34 else bif bn n 9 then 92 else bif bn n 3 then 3 else bif bn n 4 then 4 else n,λn=>n⟩
def aam:ay eQ->aC (aW×dE):=Ins.zZ 92 48
theorem acq:Ins.L Tryz.prog adn "slices.Insert[[]loop.example/g00245/impl.Entry,loop.example/g00245/impl.Entry]" 4 where
 mixed:=hM
 f22:=func234.trans (by kernel_rfl)
 t3:=by kernel_rfl
 a3:=Ins.n8 (P:=Tryz.prog) (t:=3) (d:= .int .i64) (by kernel_rfl) rfl
 t4:=by kernel_rfl
 a4:=Ins.n8 (P:=Tryz.prog) (t:=4) (d:= .bool) (by kernel_rfl) rfl
 t24:=by kernel_rfl
 a24:=Ins.n8 (P:=Tryz.prog) (t:=34) (d:= .slice 92) (by kernel_rfl) rfl
 z9:=Ins.LR hE (t:=92) (ti:=⟨ai,[.s, .i .i64, .i .i64, .s],48⟩) (by kernel_rfl)
theorem ahp:FO 234 aam:=
 Ins.Dz (e:=92) (te:=⟨ai,[.s, .i .i64, .i .i64, .s],48⟩) (by kernel_rfl) rfl (by kernel_rfl) hE acq
  (λargs w=>run_callFunc_extern (e:=gE #[34,34] #[4]) func262 (by kernel_rfl) (by kernel_rfl) (by kernel_rfl) (by kernel_rfl) args w)
  ⟨_,func234,by kernel_rfl,by kernel_rfl⟩

def aeS:=en [(72,Xf),(234,aam)] [(3,[3,5,6])]
def ak6:Fn [.R, .S, .I, .I, .S] As:=λa b c d e=>[aH 92 a,aV [.s b, .n c, .n d, .s e]]
def apd:Fn [.R] dE:=λa=>⟨[aO 92 a],[]⟩
def Ee:Fn [.I, .S, .I, .I, .S, .R] Tb:=λa b c d e f=>[cP 6 0,cA 10 (.own 1),cI 12 a,oB 1 [.s b, .n c, .n d, .s e],oR 3 92 f]
def ON(N:aE)(K:Kt R):=tP.l3 N (J Ee (.exit 0) K)
def YP(N:aE):It R:=(lp 3 (al Ee (λK=>ON N K N) an) ln)
theorem VX(N:aE):cq aeS (YP N (R:=R)) (b8 f192 3):=lq 3 Ee (ON N) λK g=>tP.r3 N g (J Ee (.exit 0) K)
def Sw:=eg ak6 apd tP.c tP.v
theorem aha:FO 192 Sw:=fq (E:=aeS) (aG ac6 (aG ahp ba)) func192 (it:=λN=>YP N) (λN=>(bk (VX N) bM)) tP.b tP.vo

def ama:=en [(69,adw),(72,Xf),(187,Sv),(192,Sw)] []
def akk:Fn [.I, .R, .R, .R, .R, .I, .R, .R, .I, .S, .I, .I, .S] As:=λa b c d e f g h i j k l m=>[.pt [.n a, .ow 92 ai b, .ow 9 ai c, .ow 9 ai d, .ow 59 ai e, .n f, .ow 100 ai g, .ow 53 ai h, .n i],aV [.s j, .n k, .n l, .s m]]
def aor:Fn [.I, .R, .R, .R, .R, .I, .R, .R, .I] dE:=λa b c d e f g h i=>⟨[],[[.n a, .ow 92 ai b, .ow 9 ai c, .ow 9 ai d, .ow 59 ai e, .n f, .kp g, .kp h, .n i]]⟩
def ZP:=eg akk aor Co.c Co.v
theorem agQ:FO 108 ZP:=fr (E:=ama) (aG ahK (aG ac6 (aG Zp (aG aha ba)))) func108 Co.b Co.vo

def E29:=en [(62,SN),(104,LU),(63,sQ),(107,Sb),(108,ZP)] []
def A29:Fn [.I, .R, .R, .R, .R, .I, .R, .R, .I, .I, .I] As:=λa b c d e f g h i j k=>[aV [.n a, .sh 92 b, .sh 9 c, .sh 9 d, .sh 59 e, .n f, .sh 100 g, .sh 53 h, .n i],aI j,aI k]
def k29:Fn [.I, .R, .R, .R, .R, .I, .R, .R, .I, .B] dE:=λa b c d e f g h i j=>⟨[aV [.n a, .ow 92 ai b, .ow 9 ai c, .ow 9 ai d, .ow 59 ai e, .n f, .ow 100 ai g, .ow 53 ai h, .n i],aB j],[]⟩
def aio:=eg A29 k29 Tx.c Tx.v
theorem aqy:FO 29 aio:=fr (E:=E29) (aG WH (aG Rh (aG yx (aG Zc (aG agQ ba))))) func29 Tx.b Tx.vo

def E41:=en [(87,SS),(127,LW)] []
def A41:Fn [.R] As:=λa=>[aH 5 a]
def k41:Fn [.I, .R, .R, .R, .R, .I, .R, .R, .I, .I] dE:=λa b c d e f g h i j=>⟨[aV [.n a, .ow 92 ai b, .ow 9 ai c, .ow 9 ai d, .sh 59 e, .n f, .ow 100 ai g, .ow 53 ai h, .n i],aI j],[]⟩
def ait:=eg A41 k41 TC.c TC.v
theorem aqD:FO 41 ait:=fr (E:=E41) (aG WI (aG Rj ba)) func41 TC.b TC.vo

def E30:=en [(62,SN),(104,LU),(107,Sb)] []
def A30:Fn [.I, .R, .R, .R, .R, .I, .R, .R, .I, .I] As:=λa b c d e f g h i j=>[aV [.n a, .sh 92 b, .sh 9 c, .sh 9 d, .sh 59 e, .n f, .sh 100 g, .sh 53 h, .n i],aI j]
def k30:Fn [.I, .R, .R, .R, .R, .I, .R, .R, .I, .B] dE:=λa b c d e f g h i j=>⟨[aV [.n a, .ow 92 ai b, .ow 9 ai c, .ow 9 ai d, .ow 59 ai e, .n f, .ow 100 ai g, .ow 53 ai h, .n i],aB j],[]⟩
def aip:=eg A30 k30 Ty.c Ty.v
theorem aqz:FO 30 aip:=fr (E:=E30) (aG WH (aG Rh (aG Zc ba))) func30 Ty.b Ty.vo

def E95:=en [] [(4,[0,1,4,5])]
def A95:Fn [.R, .R] As:=λa b=>[aH 92 a,aH 92 b]
def k95:Fn [.B] dE:=λa=>⟨[aB a],[]⟩
def Da:Fn [.R, .R, .B, .I] Tb:=λa b c d=>[cH 0 92 a,cH 2 92 b,cA 8 (.b c),cI 10 d]
def XU(N:aE)(K:Kt R):=NW.l4 N (J Da .ret K) (J Da (.exit 0) K)
def agp(N:aE):It R:=(lp 4 (al Da (λK=>XU N K N) an) ln)
theorem acT(N:aE):cq E95 (agp N (R:=R)) (b8 f95 4):=lq 4 Da (XU N) λK g=>NW.r4 N g (J Da .ret K) (J Da (.exit 0) K)
def aiF:=eg A95 k95 NW.c NW.v
theorem aqP:FO 95 aiF:=fq (E:=E95) ba func95 (it:=λN=>agp N) (λN=>(bk (acT N) bM)) NW.b NW.vo

def aeP:=en [] [(4,[0,1,4,5])]
def ak0:Fn [.R, .R] As:=λa b=>[aH 9 a,aH 9 b]
def ao8:Fn [.B] dE:=λa=>⟨[aB a],[]⟩
def xI:Fn [.R, .R, .B, .I] Tb:=λa b c d=>[cH 0 9 a,cH 2 9 b,cA 8 (.b c),cI 10 d]
def OJ(N:aE)(K:Kt R):=uO.l4 N (J xI .ret K) (J xI (.exit 0) K)
def YM(N:aE):It R:=(lp 4 (al xI (λK=>OJ N K N) an) ln)
theorem VU(N:aE):cq aeP (YM N (R:=R)) (b8 f185 4):=lq 4 xI (OJ N) λK g=>uO.r4 N g (J xI .ret K) (J xI (.exit 0) K)
def Z6:=eg ak0 ao8 uO.c uO.v
theorem ag7:FO 185 Z6:=fq (E:=aeP) ba func185 (it:=λN=>YM N) (λN=>(bk (VU N) bM)) uO.b uO.vo

def aeZ:=en [] [(4,[0,1,4,5])]
def alx:Fn [.R, .R] As:=λa b=>[aH 3 a,aH 3 b]
def apE:Fn [.B] dE:=λa=>⟨[aB a],[]⟩
def xO:Fn [.R, .R, .B, .I] Tb:=λa b c d=>[cH 0 3 a,cH 2 3 b,cA 8 (.b c),cI 10 d]
def OX(N:aE)(K:Kt R):=zy.l4 N (J xO .ret K) (J xO (.exit 0) K)
def YW(N:aE):It R:=(lp 4 (al xO (λK=>OX N K N) an) ln)
theorem V6(N:aE):cq aeZ (YW N (R:=R)) (b8 f232 4):=lq 4 xO (OX N) λK g=>zy.r4 N g (J xO .ret K) (J xO (.exit 0) K)
def aak:=eg alx apE zy.c zy.v
theorem ahn:FO 232 aak:=fq (E:=aeZ) ba func232 (it:=λN=>YW N) (λN=>(bk (V6 N) bM)) zy.b zy.vo

def aeQ:=en [(232,aak)] [(4,[2,3,4,5])]
def ak1:Fn [.R, .I, .R, .I] As:=λa b c d=>[aV [.sh 59 a, .n b],aV [.sh 59 c, .n d]]
def ao9:Fn [.B] dE:=λa=>⟨[aB a],[]⟩
def xJ:Fn [.B, .I, .R, .I, .R, .I] Tb:=λa b c d e f=>[cP 4 0,cP 6 1,cA 8 (.b a),cI 10 b,oB 1 [.sh 59 c, .n d],oB 3 [.sh 59 e, .n f]]
def OK(N:aE)(K:Kt R):=zt.l4 N (J xJ .ret K) (J xJ (.exit 0) K)
def YN(N:aE):It R:=(lp 4 (al xJ (λK=>OK N K N) an) ln)
theorem VV(N:aE):cq aeQ (YN N (R:=R)) (b8 f186 4):=lq 4 xJ (OK N) λK g=>zt.r4 N g (J xJ .ret K) (J xJ (.exit 0) K)
def Z7:=eg ak1 ao9 zt.c zt.v
theorem ag8:FO 186 Z7:=fq (E:=aeQ) (aG ahn ba) func186 (it:=λN=>YN N) (λN=>(bk (VV N) bM)) zt.b zt.vo

def E96:=en [(185,Z6),(186,Z7)] []
def A96:Fn [.R, .R, .R, .I, .R, .R, .R, .I] As:=λa b c d e f g h=>[aV [.sh 9 a, .sh 9 b, .sh 59 c, .n d],aV [.sh 9 e, .sh 9 f, .sh 59 g, .n h]]
def k96:Fn [.B] dE:=λa=>⟨[aB a],[]⟩
def aiG:=eg A96 k96 TF.c TF.v
theorem aqQ:FO 96 aiG:=fr (E:=E96) (aG ag7 (aG ag8 ba)) func96 TF.b TF.vo

def E22:=en [(95,aiF),(96,aiG)] [(4,[2,3,4,5]),(9,[2,3,4,6])]
def A22:Fn [.I, .R, .R, .R, .R, .I, .R, .R, .I, .I, .R, .R, .R, .R, .I, .R, .R, .I] As:=λa b c d e f g h i j k l m o p q r s=>[aV [.n a, .sh 92 b, .sh 9 c, .sh 9 d, .sh 59 e, .n f, .sh 100 g, .sh 53 h, .n i],aV [.n j, .sh 92 k, .sh 9 l, .sh 9 m, .sh 59 o, .n p, .sh 100 q, .sh 53 r, .n s]]
def k22:Fn [.B] dE:=λa=>⟨[aB a],[]⟩
def C6:Fn [.B, .I, .I, .R, .R, .R, .R, .I, .R, .R, .I, .I, .R, .R, .R, .R, .I, .R, .R, .I] Tb:=λa b c d e f g h i j k l m o p q r s t u=>[cP 4 0,cP 6 1,cA 8 (.b a),cI 10 b,oB 1 [.n c, .sh 92 d, .sh 9 e, .sh 9 f, .sh 59 g, .n h, .sh 100 i, .sh 53 j, .n k],oB 3 [.n l, .sh 92 m, .sh 9 o, .sh 9 p, .sh 59 q, .n r, .sh 100 s, .sh 53 t, .n u]]
def C7:Fn [.B, .I, .I, .R, .R, .R, .R, .I, .R, .R, .I, .I, .R, .R, .R, .R, .I, .R, .R, .I] Tb:=λa b c d e f g h i j k l m o p q r s t u=>[cP 4 0,cP 6 1,cA 8 (.b a),cI 12 b,oB 1 [.n c, .sh 92 d, .sh 9 e, .sh 9 f, .sh 59 g, .n h, .sh 100 i, .sh 53 j, .n k],oB 3 [.n l, .sh 92 m, .sh 9 o, .sh 9 p, .sh 59 q, .n r, .sh 100 s, .sh 53 t, .n u]]
def XG(N:aE)(K:Kt R):=mU.l4 N (J C6 .ret K) (J C6 (.exit 0) K)
def XH(N:aE)(K:Kt R):=mU.l9 N (J C7 .ret K) (J C7 (.exit 2) K)
def acs(N:aE):It R:=(lp 4 (al C6 (λK=>XG N K N) an) (lp 9 (al C7 (λK=>XH N K N) an) ln))
theorem acF(N:aE):cq E22 (acs N (R:=R)) (b8 f22 4):=lq 4 C6 (XG N) λK g=>mU.r4 N g (J C6 .ret K) (J C6 (.exit 0) K)
theorem acG(N:aE):cq E22 (acs N (R:=R)) (b8 f22 9):=lq 9 C7 (XH N) λK g=>mU.r9 N g (J C7 .ret K) (J C7 (.exit 2) K)
def aif:=eg A22 k22 mU.c mU.v
theorem aqu:FO 22 aif:=fq (E:=E22) (aG aqP (aG aqQ ba)) func22 (it:=λN=>acs N) (λN=>(bk (acF N) (bk (acG N) bM))) mU.b mU.vo

def E7:=en [(15,aia),(36,aiq),(11,ah_),(9,sp9),(37,air),(28,ain),(38,ads),(39,ais),(29,aio),(40,adt),(41,ait),(30,aip),(42,adu),(22,aif),(25,Xa),(43,Xb)] []
def A7:Fn [.R] As:=λa=>[aH 5 a]
def k7:Fn [.B] dE:=λa=>⟨[aB a],[]⟩
def sp7:=eg A7 k7 U7.c U7.v
theorem ok7:FO 7 sp7:=fr (E:=E7) (aG aqt (aG aqA (aG aqs (aG ok9 (aG aqB (aG aqx (aG ahG (aG aqC (aG aqy (aG ahH (aG aqD (aG aqz (aG ahI (aG aqu (aG ac1 (aG ac2 ba)))))))))))))))) func7 U7.b U7.vo

def atw:=en [(63,sQ)] [(5,[0,1,4,5,6,7,8])]
def alG:Fn [.S, .I] As:=λa b=>[aS a,aI b]
def apO:Fn [.I, .I, .B] dE:=λa b c=>⟨[aI a,aI b,aB c],[]⟩
def II:Fn [.S, .I, .I, .I, .B, .I, .I] Tb:=λa b c d e f g=>[cA 0 (.s a),cI 2 b,cI 8 c,cI 10 d,cA 12 (.b e),cI 14 f,cI 16 g]
def abc(N:aE)(K:Kt R):=gv.l5 N (J II .ret K) (J II (.exit 0) K)
def ar_(N:aE):It R:=(lp 5 (al II (λK=>abc N K N) an) ln)
def SJ:=eg alG apO (ct _) gv.v

def atx:=en [(224,SE)] []
def alH:Fn [.S] As:=λa=>[aS a]
def apQ:Fn [.S] dE:=λa=>⟨[aS a],[]⟩
def aik:=eg alH apQ EF.c EF.v

def ats:=en [(245,SJ),(63,sQ),(246,aik)] [(3,[0,4,5])]
def ald:Fn [.S] As:=λa=>[aS a]
def apl:Fn [.R, .I] dE:=λa b=>⟨[aO 9 a,aI b],[]⟩
def PH:Fn [.S, .I, .R] Tb:=λa b c=>[cA 0 (.s a),cA 8 (.own 0),cI 10 b,oR 1 9 c]
def abb(N:aE)(K:Kt R):=U203.l3 N (J PH (.exit 0) K)
def ar9(N:aE):It R:=(lp 3 (al PH (λK=>abb N K N) an) ln)
def aid:=eg ald apl U203.c U203.v

def atq:=en [(63,sQ)] [(2,[1,2,6,7,8])]
def alb:Fn [.R] As:=λa=>[aV [.sh 236 a]]
def apj:Fn [.B] dE:=λa=>⟨[aB a],[]⟩
def IH:Fn [.B, .R, .I, .I, .R] Tb:=λa b c d e=>[cP 2 0,cA 4 (.b a),cH 12 236 b,cI 14 c,cI 16 d,oB 1 [.sh 236 e]]
def aba(N:aE)(K:Kt R):=zu.l2 N (J IH .ret K) (J IH (.exit 0) K)
def ar8(N:aE):It R:=(lp 2 (al IH (λK=>aba N K N) an) ln)
def aib:=eg alb apj zu.c zu.v

def atA:=en [] []
def alU:Fn [.S, .S, .I, .S] As:=λa b c d=>[aV [.s a, .s b, .n c], .fb [.s d]]
def ap3:Fn [.B] dE:=λa=>⟨[aB a],[]⟩
def aim:=eg alU ap3 (ct _) PK.v

def arc:=en [(267,aim)] [(2,[0,1,4,7,8])]
def aev:Fn [.R, .S] As:=λa b=>[aH 236 a, .v ak [.fn 267 [[.s b]]]]
def agw:Fn [.I] dE:=λa=>⟨[aI a],[]⟩
def Et:Fn [.R, .S, .I, .I, .I] Tb:=λa b c d e=>[cH 0 236 a,cA 2 (.fn 267 [[.s b]]),cI 8 c,cI 14 d,cI 16 e]
def Ug(N:aE)(K:Kt R):=vH.l2 N (J Et .ret K) (J Et (.exit 0) K)
def aoi(N:aE):It R:=(lp 2 (al Et (λK=>Ug N K N) an) ln)
def adr:=eg aev agw vH.c vH.v

def atv:=en [(266,adr)] []
def alF:Fn [.R, .S] As:=λa b=>[aV [.sh 236 a],aS b]
def apN:Fn [.I] dE:=λa=>⟨[aI a],[]⟩
def aij:=eg alF apN AE.c AE.v

def atr:=en [(244,aij)] []
def alc:Fn [.R, .S] As:=λa b=>[aV [.sh 236 a],aS b]
def apk:Fn [.S, .B] dE:=λa b=>⟨[aS a,aB b],[]⟩
def aic:=eg alc apk AD.c AD.v

def aty:=en [(245,SJ)] []
def alI:Fn [.S, .I] As:=λa b=>[aS a,aI b]
def apR:Fn [.S, .I, .B] dE:=λa b c=>⟨[aS a,aI b,aB c],[]⟩
def ail:=eg alI apR (ct _) vE.v

def att:=en [(247,ail),(245,SJ),(158,L6)] []
def ale:Fn [.S] As:=λa=>[aS a]
def apm:Fn [.S, .I, .I, .S, .B] dE:=λa b c d e=>⟨[aV [.s a, .n b, .n c, .s d],aB e],[]⟩
def aie:=eg ale apm (ct _) xX.v

def ato:=en [(201,aib),(202,aic),(203,aid),(204,aie),(192,Sw)] [(7,[3,27,28,29])]
def akm:Fn [.R] As:=λa=>[aV [.sh 236 a]]
def aou:Fn [.R] dE:=λa=>⟨[aO 92 a],[]⟩
def PG:Fn [.I, .I, .R, .R] Tb:=λa b c d=>[cA 6 (.own 0),cA 54 (.own 1),cI 56 a,cI 58 b,oR 1 92 c,oR 3 9 d]
def aa_(N:aE)(K:Kt R):=U118.l7 N (J PG (.exit 0) K)
def ar7(N:aE):It R:=(lp 7 (al PG (λK=>aa_ N K N) an) ln)
def asq:=eg akm aou U118.c U118.v

end Go.FG.Se
