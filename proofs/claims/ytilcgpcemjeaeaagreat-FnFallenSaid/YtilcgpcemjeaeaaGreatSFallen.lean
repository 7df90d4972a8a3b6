/- Functions of the program: the evaluation of each, and that a call of it does what is told. No condition. -/
import Derived.Test.YtilcgpcemjeaeaaGreatTab
import Derived.Test.YtilcgpcemjeaeaaGreatPFallenb
import Derived.Test.YtilcgpcemjeaeaaGreatIns
set_option linter.unusedVariables false
set_option linter.unusedSimpArgs false
set_option maxRecDepth 100000
open Bool renaming true->ai,false->ak
open Function renaming comp_def->dO
open Go.Extern.SlicesOverlaps renaming overlaps->fJ
open Go.Shelf renaming Ren->Qm
open Nat renaming beq->bD
open _root_ renaming Nat->aF,List->aA,Option->az,Bool->aX
namespace Go.FG.Se
open Go.Proofs
variable {R:Type}
def E8:=en [] []
def A8:Fn [.R] As:=λa=>[aH 5 a]
def k8:Fn [.B] dB:=λa=>⟨[aB a],[]⟩
def sp8:=dZ A8 k8 (ct _) U8.v
theorem ok8:ca Tryz.prog T 8 sp8:=ft (E:=E8) aY Tryz.func8 U8.b λ(a0,_)=>U8.eG _ a0

def E39:=en [] [(3,[0,3,4])]
def A39:Fn [.R] As:=λa=>[aH 5 a]
def k39:Fn [.R, .I, .I] dB:=λa b c=>⟨[.pt [.sh 5 a, .n b, .n c]],[]⟩
def MO:Fn [.R, .I, .I] Tb:=λa b c=>[cH 0 5 a,cI 6 b,cI 8 c]
def aaA(N:aF)(K:Kt R):=Kx.l3 N (J MO (.exit 0) K)
def ajB(N:aF):It R:=(lp 3 (al MO (λK=>aaA N K N) an) ln)
theorem afT(N:aF):b_ E39 (ajB N (R:=R)) (bX Tryz.f39 3):=lq 3 MO (aaA N) λK g=>Kx.r3 N g (J MO (.exit 0) K)
def agB:=dZ A39 k39 Kx.c Kx.v
theorem alm:ca Tryz.prog T 39 agB:=fq (E:=E39) aY Tryz.func39 (it:=λN=>ajB N) (λN=>(bn (afT N) bB)) Kx.b Kx.vo

def WQ:=en [] [(3,[0,1,2])]
def aoI:Fn [] As:=[]
def atx:Fn [.R, .I] dB:=λa b=>⟨[aV [.ow 26 ai a, .n b]],[]⟩
def rB:Fn [.I, .I, .I] Tb:=λa b c=>[cP 0 0,cP 2 1,cI 4 a,oB 1 [.nl, .n b],oB 3 [.nl, .n c]]
def oF:Fn [.I, .I, .I, .R] Tb:=λa b c d=>[cP 0 0,cP 2 1,cI 4 a,oB 1 [.nl, .n b],oB 3 [.own 2, .n c],oR 5 26 d]
def Rk(N:aF)(K:Kt R):=GD.l3 N (J rB (.exit 0) K) (J oF (.exit 0) K)
def Mt(N:aF)(K:Kt R):=GD.sL N (J rB (.exit 0) K) (J oF (.exit 0) K)
def NB(N:aF):It R:=(lp 3 (al rB (λK=>Rk N K N) (al oF (λK=>Mt N K N) an)) ln)
theorem Oo(N:aF)(K:Kt R):Wd WQ (NB N) (bX Tryz.f184 3) 3 K oF (Mt N K):=lw (λg=>GD.zM N (cmp _ rB (g∘fN)) (cmp _ oF (g∘fN)) (J rB (.exit 0) K) (J oF (.exit 0) K)) λm i=>by simp only[dO,wf i];rfl
theorem agP(N:aF)(K:Kt R):Wd WQ (NB N) (bX Tryz.f184 3) 3 K rB (Rk N K):=lw (λg=>GD.r3 N (cmp _ rB (g∘fN)) (cmp _ oF (g∘fN)) (J rB (.exit 0) K) (J oF (.exit 0) K)) λm i=>by simp only[dO,wf i,wf (Oo N K m)];rfl
theorem YD(N:aF):b_ WQ (NB N (R:=R)) (bX Tryz.f184 3):=lm 3 (ga rB (agP N) (ga oF (Oo N) oP))
def adi:=dZ aoI atx GD.c GD.v
theorem akA:ca Tryz.prog T 184 adi:=fq (E:=WQ) aY Tryz.func184 (it:=λN=>NB N) (λN=>(bn (YD N) bB)) GD.b GD.vo

def ap5:=en [(184,adi)] []
def anZ:Fn [] As:=[]
def asO:Fn [.R, .R, .R, .I] dB:=λa b c d=>⟨[aV [.ow 9 ai a, .ow 9 ai b, .ow 26 ai c, .n d]],[]⟩
def acV:=dZ anZ asO (ct _) W8.v
theorem ake:ca Tryz.prog T 115 acV:=ft (E:=ap5) (aG akA aY) Tryz.func115 W8.b λ_=>W8.eG _

def E57:=en [(115,acV)] []
def A57:Fn [] As:=[]
def k57:Fn [.I, .R, .R, .R, .R, .I, .R, .R, .I] dB:=λa b c d e f g h i=>⟨[aV [.n a, .ow 51 ai b, .ow 9 ai c, .ow 9 ai d, .ow 26 ai e, .n f, .ow 75 ai g, .ow 72 ai h, .n i]],[]⟩
def agH:=dZ A57 k57 (ct _) U57.v
theorem als:ca Tryz.prog T 57 agH:=ft (E:=E57) (aG ake aY) Tryz.func57 U57.b λ_=>U57.eG _

def E40:=en [] []
def A40:Fn [.R, .I, .I] As:=λa b c=>[.pt [.sh 5 a, .n b, .n c]]
def k40:Fn [.I, .R, .I, .I] dB:=λa b c d=>⟨[aI a],[[.sh 5 b, .n c, .n d]]⟩
def agC:=dZ A40 k40 du.c du.v
theorem aln:ca Tryz.prog T 40 agC:=fr (E:=E40) aY Tryz.func40 du.b du.vo

def E41:=en [(40,agC)] []
def A41:Fn [.R, .I, .I, .I] As:=λa b c d=>[.pt [.sh 5 a, .n b, .n c],aI d]
def k41:Fn [.I, .R, .I, .I] dB:=λa b c d=>⟨[aI a],[[.sh 5 b, .n c, .n d]]⟩
def L3:=dZ A41 k41 nA.c nA.v
theorem PN:ca Tryz.prog T 41 L3:=fr (E:=E41) (aG aln aY) Tryz.func41 nA.b nA.vo

def E80:=en [(41,L3)] []
def A80:Fn [.R, .I, .I, .R] As:=λa b c d=>[.pt [.sh 5 a, .n b, .n c],aO 3 d]
def k80:Fn [.I, .R, .I, .I, .R] dB:=λa b c d e=>⟨[aI a],[[.sh 5 b, .n c, .n d],[.kp e]]⟩
def al_:=dZ A80 k80 z_.c z_.v
theorem avg:ca Tryz.prog T 80 al_:=fr (E:=E80) (aG PN aY) Tryz.func80 z_.b z_.vo

def aqa:=en [(41,L3)] []
def an8:Fn [.R, .I, .I, .R] As:=λa b c d=>[.pt [.sh 5 a, .n b, .n c],aO 9 d]
def asX:Fn [.S, .R, .I, .I, .R] dB:=λa b c d e=>⟨[aS a],[[.sh 5 b, .n c, .n d],[.kp e]]⟩
def Ve:=dZ an8 asX pL.c pL.v
theorem ab8:ca Tryz.prog T 143 Ve:=fr (E:=aqa) (aG PN aY) Tryz.func143 pL.b pL.vo

def aqj:=en [(143,Ve)] []
def aoj:Fn [.R, .I, .I] As:=λa b c=>[.pt [.sh 5 a, .n b, .n c]]
def as9:Fn [.S, .R, .I, .I] dB:=λa b c d=>⟨[aS a],[[.sh 5 b, .n c, .n d]]⟩
def ac1:=dZ aoj as9 uZ.c uZ.v
theorem akk:ca Tryz.prog T 158 ac1:=fr (E:=aqj) (aG ab8 aY) Tryz.func158 uZ.b uZ.vo

def E94:=en [(41,L3)] []
def A94:Fn [.R, .I, .I, .I] As:=λa b c d=>[.pt [.sh 5 a, .n b, .n c],aI d]
def k94:Fn [.B, .R, .I, .I] dB:=λa b c d=>⟨[aB a],[[.sh 5 b, .n c, .n d]]⟩
def agL:=dZ A94 k94 HR.c HR.v
theorem alx:ca Tryz.prog T 94 agL:=fr (E:=E94) (aG PN aY) Tryz.func94 HR.b HR.vo

def E93:=en [(80,al_),(41,L3),(158,ac1),(94,agL),(143,Ve)] [(4,[0,1,3,4,5,6,7])]
def A93:Fn [.R, .I, .I, .I, .R, .R, .R, .R, .I, .R, .R, .I, .R, .R, .R] As:=λa b c d e f g h i j k l m o p=>[.pt [.sh 5 a, .n b, .n c],aV [.n d, .ow 51 ai e, .ow 9 ai f, .ow 9 ai g, .ow 26 ai h, .n i, .ow 75 ai j, .ow 72 ai k, .n l, .ow 94 ai m, .ow 3 ai o, .ow 51 ai p]]
def k93:Fn [.I, .I, .S, .I, .R, .R, .I, .I, .R, .R, .R, .R, .R, .R, .R, .R, .R] dB:=λa b c d e f g h i j k l m o p q r=>⟨[aV [.n a, .n b, .s c, .n d, .ow 3 ai e]],[[.sh 5 f, .n g, .n h],[.nl, .kp i, .kp j, .kp k, .kp l, .nl, .kp m, .kp o, .nl, .kp p, .kp q, .kp r]]⟩
def MU:Fn [.I, .I, .I, .I, .R, .I, .I, .R, .R, .R, .R, .R, .R, .R, .R, .R, .I, .I, .I, .I, .I, .S, .I, .I, .I, .S, .I, .R] Tb:=λa b c d e f g h i j k l m o p q r s t u v w x y z aa ab ac=>[cP 0 900000900,cV 2 [.n a, .own 900001001, .own 900001002, .own 900001003, .own 900001004, .n b, .own 900001006, .own 900001007, .n c, .own 900001009, .own 900001010, .own 900001011],cP 6 10,cP 8 11,cP 10 12,cA 12 (.own 13),cI 14 d,oB 1800001801 [.sh 5 e, .n f, .n g],oR 1800002003 51 h,oR 1800002005 9 i,oR 1800002007 9 j,oR 1800002009 26 k,oR 1800002013 75 l,oR 1800002015 72 m,oR 1800002019 94 o,oR 1800002021 3 p,oR 1800002023 51 q,oB 21 [.n r, .own 900001001, .own 900001002, .own 900001003, .own 900001004, .n s, .own 900001006, .own 900001007, .n t, .own 900001009, .own 900001010, .own 900001011],oB 23 [.n u, .n v, .s w, .n x, .nl],oB 25 [.n y, .n z, .s aa, .n ab, .nl],oR 27 3 ac]
def aaR(N:aF)(K:Kt R):=Kz.l4 N (J MU (.exit 0) K)
def ajL(N:aF):It R:=(lp 4 (al MU (λK=>aaR N K N) an) ln)
theorem af_(N:aF):b_ E93 (ajL N (R:=R)) (bX Tryz.f93 4):=lq 4 MU (aaR N) λK g=>Kz.r4 N g (J MU (.exit 0) K)
def ame:=dZ A93 k93 Kz.c Kz.v
theorem avl:ca Tryz.prog T 93 ame:=fq (E:=E93) (aG avg (aG PN (aG akk (aG alx (aG ab8 aY))))) Tryz.func93 (it:=λN=>ajL N) (λN=>(bn (af_ N) bB)) Kz.b Kz.vo

def WV:=en [] [(3,[1,2,3,4])]
def apt:Fn [.R, .I] As:=λa b=>[aV [.sh 26 a, .n b]]
def aul:Fn [.R, .I] dB:=λa b=>⟨[aV [.ow 26 ai a, .n b]],[]⟩
def rF:Fn [.I, .R, .I, .I, .I] Tb:=λa b c d e=>[cP 2 0,cP 4 1,cP 6 2,cI 8 a,oB 1 [.sh 26 b, .n c],oB 3 [.nl, .n d],oB 5 [.nl, .n e]]
def oJ:Fn [.I, .R, .I, .I, .I, .R] Tb:=λa b c d e f=>[cP 2 0,cP 4 1,cP 6 2,cI 8 a,oB 1 [.sh 26 b, .n c],oB 3 [.nl, .n d],oB 5 [.own 3, .n e],oR 7 26 f]
def RM(N:aF)(K:Kt R):=n8.l3 N (J rF (.exit 0) K) (J oJ (.exit 0) K)
def MB(N:aF)(K:Kt R):=n8.sL N (J rF (.exit 0) K) (J oJ (.exit 0) K)
def NH(N:aF):It R:=(lp 3 (al rF (λK=>RM N K N) (al oJ (λK=>MB N K N) an)) ln)
theorem Ov(N:aF)(K:Kt R):Wd WV (NH N) (bX Tryz.f244 3) 3 K oJ (MB N K):=lw (λg=>n8.zM N (cmp _ rF (g∘fN)) (cmp _ oJ (g∘fN)) (J rF (.exit 0) K) (J oJ (.exit 0) K)) λm i=>by simp only[dO,wf i];rfl
theorem agT(N:aF)(K:Kt R):Wd WV (NH N) (bX Tryz.f244 3) 3 K rF (RM N K):=lw (λg=>n8.r3 N (cmp _ rF (g∘fN)) (cmp _ oJ (g∘fN)) (J rF (.exit 0) K) (J oJ (.exit 0) K)) λm i=>by simp only[dO,wf i,wf (Ov N K m)];rfl
theorem Y4(N:aF):b_ WV (NH N (R:=R)) (bX Tryz.f244 3):=lm 3 (ga rF (agT N) (ga oJ (Ov N) oP))
def Oi:=dZ apt aul n8.c n8.v
theorem Un:ca Tryz.prog T 244 Oi:=fq (E:=WV) aY Tryz.func244 (it:=λN=>NH N) (λN=>(bn (Y4 N) bB)) n8.b n8.vo

def aqC:=en [(244,Oi)] []
def aoR:Fn [.R, .R, .R, .I] As:=λa b c d=>[aV [.sh 9 a, .sh 9 b, .sh 26 c, .n d]]
def atG:Fn [.R, .R, .R, .I] dB:=λa b c d=>⟨[aV [.ow 9 ai a, .ow 9 ai b, .ow 26 ai c, .n d]],[]⟩
def Vr:=dZ aoR atG gb.c gb.v
theorem acm:ca Tryz.prog T 193 Vr:=fr (E:=aqC) (aG Un aY) Tryz.func193 gb.b gb.vo

def ap7:=en [(193,Vr)] []
def an1:Fn [.I, .R, .R, .R, .R, .I, .R, .R, .I] As:=λa b c d e f g h i=>[aV [.n a, .sh 51 b, .sh 9 c, .sh 9 d, .sh 26 e, .n f, .sh 75 g, .sh 72 h, .n i]]
def asQ:Fn [.I, .R, .R, .R, .R, .I, .R, .R, .I] dB:=λa b c d e f g h i=>⟨[aV [.n a, .ow 51 ai b, .ow 9 ai c, .ow 9 ai d, .ow 26 ai e, .n f, .ow 75 ai g, .ow 72 ai h, .n i]],[]⟩
def Db:=dZ an1 asQ fQ.c fQ.v
theorem Ff:ca Tryz.prog T 117 Db:=fr (E:=ap7) (aG acm aY) Tryz.func117 fQ.b fQ.vo

def E50:=en [] []
def A50:Fn [.I, .I, .I] As:=λa b c=>[aI a,aI b,aI c]
def k50:Fn [.B] dB:=λa=>⟨[aB a],[]⟩
def sQ:=dZ A50 k50 (ct _) kl.v
theorem vi:ca Tryz.prog T 50 sQ:=ft (E:=E50) aY Tryz.func50 kl.b λ(a0,a1,a2,_)=>kl.eG _ a0 a1 a2

def apZ:=en [(50,sQ)] []
def anR:Fn [.S] As:=λa=>[aS a]
def asF:Fn [.B] dB:=λa=>⟨[aB a],[]⟩
def Da:=dZ anR asF (ct _) s8.v
theorem Fc:ca Tryz.prog T 107 Da:=ft (E:=apZ) (aG vi aY) Tryz.func107 s8.b λ(a0,_)=>s8.eG _ a0

def E49:=en [(107,Da),(50,sQ)] []
def A49:Fn [.S, .I, .I, .S] As:=λa b c d=>[aV [.s a, .n b, .n c, .s d]]
def k49:Fn [.B] dB:=λa=>⟨[aB a],[]⟩
def VJ:=dZ A49 k49 (ct _) nb.v
theorem Zl:ca Tryz.prog T 49 VJ:=ft (E:=E49) (aG Fc (aG vi aY)) Tryz.func49 nb.b λ(a0,a1,a2,a3,_)=>nb.eG _ a0 a1 a2 a3

def ah9:=en [] [(2,[0,1,4,5])]
def ao6:Fn [.R, .S] As:=λa b=>[aH 9 a,aS b]
def atW:Fn [.B] dB:=λa=>⟨[aB a],[]⟩
def zh:Fn [.R, .S, .B, .I] Tb:=λa b c d=>[cH 0 9 a,cA 2 (.s b),cA 8 (.b c),cI 10 d]
def Rv(N:aF)(K:Kt R):=fm.l2 N (J zh .ret K) (J zh (.exit 0) K)
def abK(N:aF):It R:=(lp 2 (al zh (λK=>Rv N K N) an) ln)
theorem YO(N:aF):b_ ah9 (abK N (R:=R)) (bX Tryz.f219 2):=lq 2 zh (Rv N) λK g=>fm.r2 N g (J zh .ret K) (J zh (.exit 0) K)
def Od:=dZ ao6 atW fm.c fm.v
theorem Ui:ca Tryz.prog T 219 Od:=fq (E:=ah9) aY Tryz.func219 (it:=λN=>abK N) (λN=>(bn (YO N) bB)) fm.b fm.vo

def aqh:=en [(219,Od)] []
def aog:Fn [.R, .R, .R, .I, .S] As:=λa b c d e=>[aV [.sh 9 a, .sh 9 b, .sh 26 c, .n d],aS e]
def as6:Fn [.B] dB:=λa=>⟨[aB a],[]⟩
def Vj:=dZ aog as6 s9.c s9.v
theorem acd:ca Tryz.prog T 153 Vj:=fr (E:=aqh) (aG Ui aY) Tryz.func153 s9.b s9.vo

def aeg:=en [(50,sQ)] [(4,[1,2,3]),(9,[1,2,3,4])]
def apf:Fn [.R, .I] As:=λa b=>[aV [.sh 26 a, .n b]]
def at8:Fn [.B] dB:=λa=>⟨[aB a],[]⟩
def zj:Fn [.B, .I, .R, .I] Tb:=λa b c d=>[cP 2 0,cA 4 (.b a),cI 6 b,oB 1 [.sh 26 c, .n d]]
def zk:Fn [.B, .I, .I, .R, .I] Tb:=λa b c d e=>[cP 2 0,cA 4 (.b a),cI 6 b,cI 8 c,oB 1 [.sh 26 d, .n e]]
def RA(N:aF)(K:Kt R):=fG.l4 N (J zj .ret K) (J zj (.exit 0) K)
def RB(N:aF)(K:Kt R):=fG.l9 N (J zk .ret K) (J zk (.exit 2) K)
def Tl(N:aF):It R:=(lp 4 (al zj (λK=>RA N K N) an) (lp 9 (al zk (λK=>RB N K N) an) ln))
theorem YT(N:aF):b_ aeg (Tl N (R:=R)) (bX Tryz.f231 4):=lq 4 zj (RA N) λK g=>fG.r4 N g (J zj .ret K) (J zj (.exit 0) K)
theorem YU(N:aF):b_ aeg (Tl N (R:=R)) (bX Tryz.f231 9):=lq 9 zk (RB N) λK g=>fG.r9 N g (J zk .ret K) (J zk (.exit 2) K)
def Of:=dZ apf at8 fG.c fG.v
theorem Uk:ca Tryz.prog T 231 Of:=fq (E:=aeg) (aG vi aY) Tryz.func231 (it:=λN=>Tl N) (λN=>(bn (YT N) (bn (YU N) bB))) fG.b fG.vo

def ah3:=en [(107,Da),(219,Od),(231,Of)] [(3,[1,2,3,4])]
def aoD:Fn [.R, .R, .R, .I] As:=λa b c d=>[aV [.sh 9 a, .sh 9 b, .sh 26 c, .n d]]
def ats:Fn [.B] dB:=λa=>⟨[aB a],[]⟩
def zd:Fn [.B, .I, .R, .R, .R, .I, .R] Tb:=λa b c d e f g=>[cP 2 0,cA 4 (.b a),cA 6 (.own 1),cI 8 b,oB 1 [.sh 9 c, .sh 9 d, .sh 26 e, .n f],oR 3 9 g]
def Ri(N:aF)(K:Kt R):=jA.l3 N (J zd .ret K) (J zd (.exit 0) K)
def abE(N:aF):It R:=(lp 3 (al zd (λK=>Ri N K N) an) ln)
theorem YB(N:aF):b_ ah3 (abE N (R:=R)) (bX Tryz.f179 3):=lq 3 zd (Ri N) λK g=>jA.r3 N g (J zd .ret K) (J zd (.exit 0) K)
def Vo:=dZ aoD ats jA.c jA.v
theorem aci:ca Tryz.prog T 179 Vo:=fq (E:=ah3) (aG Fc (aG Ui (aG Uk aY))) Tryz.func179 (it:=λN=>abE N) (λN=>(bn (YB N) bB)) jA.b jA.vo

def ahL:=en [(49,VJ),(153,Vj),(179,Vo)] [(2,[1,2,3])]
def anP:Fn [.I, .R, .R, .R, .R, .I, .R, .R, .I] As:=λa b c d e f g h i=>[aV [.n a, .sh 51 b, .sh 9 c, .sh 9 d, .sh 26 e, .n f, .sh 75 g, .sh 72 h, .n i]]
def asD:Fn [.B] dB:=λa=>⟨[aB a],[]⟩
def yV:Fn [.B, .I, .I, .R, .R, .R, .R, .I, .R, .R, .I] Tb:=λa b c d e f g h i j k=>[cP 2 0,cA 4 (.b a),cI 6 b,oB 1 [.n c, .sh 51 d, .sh 9 e, .sh 9 f, .sh 26 g, .n h, .sh 75 i, .sh 72 j, .n k]]
def QX(N:aF)(K:Kt R):=nQ.l2 N (J yV .ret K) (J yV (.exit 0) K)
def abl(N:aF):It R:=(lp 2 (al yV (λK=>QX N K N) an) ln)
theorem Yg(N:aF):b_ ahL (abl N (R:=R)) (bX Tryz.f105 2):=lq 2 yV (QX N) λK g=>nQ.r2 N g (J yV .ret K) (J yV (.exit 0) K)
def acR:=dZ anP asD nQ.c nQ.v
theorem aka:ca Tryz.prog T 105 acR:=fq (E:=ahL) (aG Zl (aG acd (aG aci aY))) Tryz.func105 (it:=λN=>abl N) (λN=>(bn (Yg N) bB)) nQ.b nQ.vo

def ahM:=en [(107,Da),(50,sQ)] [(5,[1,2,4,5,6])]
def anQ:Fn [.I, .R, .R, .R, .R, .I, .R, .R, .I, .I] As:=λa b c d e f g h i j=>[aV [.n a, .sh 51 b, .sh 9 c, .sh 9 d, .sh 26 e, .n f, .sh 75 g, .sh 72 h, .n i],aI j]
def asE:Fn [.B] dB:=λa=>⟨[aB a],[]⟩
def yW:Fn [.I, .B, .I, .I, .R, .R, .R, .R, .I, .R, .R, .I, .S, .S, .I, .I, .I] Tb:=λa b c d e f g h i j k l m o p q r=>[cI 2 a,cP 4 0,cA 8 (.b b),cP 10 1,cI 12 c,oB 1 [.n d, .sh 51 e, .sh 9 f, .sh 9 g, .sh 26 h, .n i, .sh 75 j, .sh 72 k, .n l],oB 3 [.s m, .s o, .n p, .n q, .n r]]
def QY(N:aF)(K:Kt R):=ng.l5 N (J yW .ret K) (J yW (.exit 0) K)
def abm(N:aF):It R:=(lp 5 (al yW (λK=>QY N K N) an) ln)
theorem Yh(N:aF):b_ ahM (abm N (R:=R)) (bX Tryz.f106 5):=lq 5 yW (QY N) λK g=>ng.r5 N g (J yW .ret K) (J yW (.exit 0) K)
def acS:=dZ anQ asE ng.c ng.v
theorem akb:ca Tryz.prog T 106 acS:=fq (E:=ahM) (aG Fc (aG vi aY)) Tryz.func106 (it:=λN=>abm N) (λN=>(bn (Yh N) bB)) ng.b ng.vo

def E45:=en [(50,sQ),(105,acR),(106,acS),(107,Da)] [(4,[1,2,3]),(9,[1,2,4])]
def A45:Fn [.I, .R, .R, .R, .R, .I, .R, .R, .I] As:=λa b c d e f g h i=>[aV [.n a, .sh 51 b, .sh 9 c, .sh 9 d, .sh 26 e, .n f, .sh 75 g, .sh 72 h, .n i]]
def k45:Fn [.B] dB:=λa=>⟨[aB a],[]⟩
def EB:Fn [.B, .I, .I, .R, .R, .R, .R, .I, .R, .R, .I] Tb:=λa b c d e f g h i j k=>[cP 2 0,cA 4 (.b a),cI 6 b,oB 1 [.n c, .sh 51 d, .sh 9 e, .sh 9 f, .sh 26 g, .n h, .sh 75 i, .sh 72 j, .n k]]
def EC:Fn [.B, .I, .I, .R, .R, .R, .R, .I, .R, .R, .I] Tb:=λa b c d e f g h i j k=>[cP 2 0,cA 4 (.b a),cI 8 b,oB 1 [.n c, .sh 51 d, .sh 9 e, .sh 9 f, .sh 26 g, .n h, .sh 75 i, .sh 72 j, .n k]]
def aaD(N:aF)(K:Kt R):=pe.l4 N (J EB .ret K) (J EB (.exit 0) K)
def aaE(N:aF)(K:Kt R):=pe.l9 N (J EC .ret K) (J EC (.exit 2) K)
def afB(N:aF):It R:=(lp 4 (al EB (λK=>aaD N K N) an) (lp 9 (al EC (λK=>aaE N K N) an) ln))
theorem afW(N:aF):b_ E45 (afB N (R:=R)) (bX Tryz.f45 4):=lq 4 EB (aaD N) λK g=>pe.r4 N g (J EB .ret K) (J EB (.exit 0) K)
theorem afX(N:aF):b_ E45 (afB N (R:=R)) (bX Tryz.f45 9):=lq 9 EC (aaE N) λK g=>pe.r9 N g (J EC .ret K) (J EC (.exit 2) K)
def ZO:=dZ A45 k45 pe.c pe.v
theorem agf:ca Tryz.prog T 45 ZO:=fq (E:=E45) (aG vi (aG aka (aG akb (aG Fc aY)))) Tryz.func45 (it:=λN=>afB N) (λN=>(bn (afW N) (bn (afX N) bB))) pe.b pe.vo

def aic:=en [] [(2,[1,2,4,5,6])]
def aph:Fn [.I, .R, .R, .R, .R, .I, .R, .R, .I, .S] As:=λa b c d e f g h i j=>[aV [.n a, .sh 51 b, .sh 9 c, .sh 9 d, .sh 26 e, .n f, .sh 75 g, .sh 72 h, .n i],aS j]
def aua:Fn [.S, .I, .I, .S, .B] dB:=λa b c d e=>⟨[aV [.s a, .n b, .n c, .s d],aB e],[]⟩
def zl:Fn [.S, .B, .I, .I, .R, .R, .R, .R, .I, .R, .R, .I, .S, .I, .I, .S] Tb:=λa b c d e f g h i j k l m o p q=>[cA 2 (.s a),cP 4 0,cP 8 1,cA 10 (.b b),cI 12 c,oB 1 [.n d, .sh 51 e, .sh 9 f, .sh 9 g, .sh 26 h, .n i, .sh 75 j, .sh 72 k, .n l],oB 3 [.s m, .n o, .n p, .s q]]
def RE(N:aF)(K:Kt R):=wQ.l2 N (J zl .ret K) (J zl (.exit 0) K)
def abO(N:aF):It R:=(lp 2 (al zl (λK=>RE N K N) an) ln)
theorem YX(N:aF):b_ aic (abO N (R:=R)) (bX Tryz.f233 2):=lq 2 zl (RE N) λK g=>wQ.r2 N g (J zl .ret K) (J zl (.exit 0) K)
def adC:=dZ aph aua wQ.c wQ.v
theorem akT:ca Tryz.prog T 233 adC:=fq (E:=aic) aY Tryz.func233 (it:=λN=>abO N) (λN=>(bn (YX N) bB)) wQ.b wQ.vo

def E13:=en [(49,VJ),(50,sQ)] []
def A13:Fn [.S, .I, .I, .S, .I] As:=λa b c d e=>[aV [.s a, .n b, .n c, .s d],aI e]
def k13:Fn [.B] dB:=λa=>⟨[aB a],[]⟩
def Qf:=dZ A13 k13 (ct _) vR.v
theorem T4:ca Tryz.prog T 13 Qf:=ft (E:=E13) (aG Zl (aG vi aY)) Tryz.func13 vR.b λ(a0,a1,a2,a3,a4,_)=>vR.eG _ a0 a1 a2 a3 a4

def aeh:=en [] [(2,[0,1,5]),(6,[0,1,5,6])]
def apg:Fn [.I, .S] As:=λa b=>[.v ak [.i .u32 a],aS b]
def at9:Fn [.I] dB:=λa=>⟨[.v ak [.i .u32 a]],[]⟩
def Gk:Fn [.I, .S, .I] Tb:=λa b c=>[cA 0 (.i .u32 a),cA 2 (.s b),cI 10 c]
def Gl:Fn [.I, .S, .I, .I] Tb:=λa b c d=>[cA 0 (.i .u32 a),cA 2 (.s b),cI 10 c,cI 12 d]
def RC(N:aF)(K:Kt R):=jU.l2 N (J Gk (.exit 0) K)
def RD(N:aF)(K:Kt R):=jU.l6 N (J Gl (.exit 2) K)
def Tm(N:aF):It R:=(lp 2 (al Gk (λK=>RC N K N) an) (lp 6 (al Gl (λK=>RD N K N) an) ln))
theorem YV(N:aF):b_ aeh (Tm N (R:=R)) (bX Tryz.f232 2):=lq 2 Gk (RC N) λK g=>jU.r2 N g (J Gk (.exit 0) K)
theorem YW(N:aF):b_ aeh (Tm N (R:=R)) (bX Tryz.f232 6):=lq 6 Gl (RD N) λK g=>jU.r6 N g (J Gl (.exit 2) K)
def adB:=dZ apg at9 jU.c jU.v
theorem akS:ca Tryz.prog T 232 adB:=fq (E:=aeh) aY Tryz.func232 (it:=λN=>Tm N) (λN=>(bn (YV N) (bn (YW N) bB))) jU.b jU.vo

def aqw:=en [(232,adB)] []
def aoH:Fn [.S] As:=λa=>[aS a]
def atw:Fn [.I] dB:=λa=>⟨[.v ak [.i .u32 a]],[]⟩
def Vp:=dZ aoH atw vU.c vU.v
theorem acj:ca Tryz.prog T 183 Vp:=fr (E:=aqw) (aG akS aY) Tryz.func183 vU.b vU.vo

def aq0:=en [(183,Vp)] []
def apB:Fn [.I, .S] As:=λa b=>[aI a,aS b]
def aut:Fn [.I] dB:=λa=>⟨[aI a],[]⟩
def VG:=dZ apB aut gn.c gn.v
theorem acC:ca Tryz.prog T 258 VG:=fr (E:=aq0) (aG acj aY) Tryz.func258 gn.b gn.vo

def WS:=en [(244,Oi),(231,Of),(258,VG)] [(5,[1,4,5,6]),(14,[4,5,8]),(17,[4,5,8,9])]
def ao5:Fn [.R, .I, .S] As:=λa b c=>[aV [.sh 26 a, .n b],aS c]
def atV:Fn [.R, .I] dB:=λa b=>⟨[aV [.ow 26 ai a, .n b]],[]⟩
def Gh:Fn [.S, .I, .I, .I, .R] Tb:=λa b c d e=>[cA 2 (.s a),cP 8 0,cP 10 1,cI 12 b,oB 1 [.nl, .n c],oB 3 [.own 2, .n d],oR 5 26 e]
def Bd:Fn [.I, .I, .I, .R] Tb:=λa b c d=>[cP 8 0,cP 10 1,cI 16 a,oB 1 [.nl, .n b],oB 3 [.own 2, .n c],oR 5 26 d]
def Be:Fn [.I, .I, .I, .I, .R] Tb:=λa b c d e=>[cP 8 0,cP 10 1,cI 16 a,cI 18 b,oB 1 [.nl, .n c],oB 3 [.own 2, .n d],oR 5 26 e]
def Ru(N:aF)(K:Kt R):=dx.l5 N (J Gh (.exit 0) K)
def Mx(N:aF)(K:Kt R):=dx.l14 N (J Bd (.exit 2) K)
def My(N:aF)(K:Kt R):=dx.l17 N (J Be (.exit 4) K)
def ND(N:aF):It R:=(lp 5 (al Gh (λK=>Ru N K N) an) (lp 14 (al Bd (λK=>Mx N K N) an) (lp 17 (al Be (λK=>My N K N) an) ln)))
theorem YN(N:aF):b_ WS (ND N (R:=R)) (bX Tryz.f218 5):=lq 5 Gh (Ru N) λK g=>dx.r5 N g (J Gh (.exit 0) K)
theorem TP(N:aF):b_ WS (ND N (R:=R)) (bX Tryz.f218 14):=lq 14 Bd (Mx N) λK g=>dx.r14 N g (J Bd (.exit 2) K)
theorem TQ(N:aF):b_ WS (ND N (R:=R)) (bX Tryz.f218 17):=lq 17 Be (My N) λK g=>dx.r17 N g (J Be (.exit 4) K)
def Vx:=dZ ao5 atV dx.c dx.v
theorem acs:ca Tryz.prog T 218 Vx:=fq (E:=WS) (aG Un (aG Uk (aG acC aY))) Tryz.func218 (it:=λN=>ND N) (λN=>(bn (YN N) (bn (TP N) (bn (TQ N) bB)))) dx.b dx.vo

def ah_:=en [] [(3,[0,1,5,6])]
def ao7:Fn [.R, .S] As:=λa b=>[aH 9 a,aS b]
def atX:Fn [.R] dB:=λa=>⟨[aO 9 a],[]⟩
def Gi:Fn [.R, .S, .I, .R] Tb:=λa b c d=>[cH 0 9 a,cA 2 (.s b),cA 10 (.own 0),cI 12 c,oR 1 9 d]
def Rw(N:aF)(K:Kt R):=pd.l3 N (J Gi (.exit 0) K)
def abL(N:aF):It R:=(lp 3 (al Gi (λK=>Rw N K N) an) ln)
theorem YP(N:aF):b_ ah_ (abL N (R:=R)) (bX Tryz.f220 3):=lq 3 Gi (Rw N) λK g=>pd.r3 N g (J Gi (.exit 0) K)
def Vy:=dZ ao7 atX pd.c pd.v
theorem acu:ca Tryz.prog T 220 Vy:=fq (E:=ah_) aY Tryz.func220 (it:=λN=>abL N) (λN=>(bn (YP N) bB)) pd.b pd.vo

def aia:=en [(231,Of),(258,VG)] [(5,[1,2,5,6])]
def ao8:Fn [.R, .I, .S] As:=λa b c=>[aV [.sh 26 a, .n b],aS c]
def atY:Fn [.I] dB:=λa=>⟨[aI a],[]⟩
def Gj:Fn [.S, .I, .I, .R, .I] Tb:=λa b c d e=>[cA 2 (.s a),cP 4 0,cI 10 b,cI 12 c,oB 1 [.sh 26 d, .n e]]
def Rx(N:aF)(K:Kt R):=mH.l5 N (J Gj (.exit 0) K)
def abM(N:aF):It R:=(lp 5 (al Gj (λK=>Rx N K N) an) ln)
theorem YQ(N:aF):b_ aia (abM N (R:=R)) (bX Tryz.f221 5):=lq 5 Gj (Rx N) λK g=>mH.r5 N g (J Gj (.exit 0) K)
def adw:=dZ ao8 atY mH.c mH.v
theorem akN:ca Tryz.prog T 221 adw:=fq (E:=aia) (aG Uk (aG acC aY)) Tryz.func221 (it:=λN=>abM N) (λN=>(bn (YQ N) bB)) mH.b mH.vo

def aqg:=en [(193,Vr),(179,Vo),(107,Da),(218,Vx),(219,Od),(220,Vy),(221,adw)] []
def aoe:Fn [.R, .R, .R, .I, .S] As:=λa b c d e=>[aV [.sh 9 a, .sh 9 b, .sh 26 c, .n d],aS e]
def as4:Fn [.R, .R, .R, .I, .S] dB:=λa b c d e=>⟨[aV [.ow 9 ai a, .ow 9 ai b, .ow 26 ai c, .n d],aS e],[]⟩
def Vh:=dZ aoe as4 e8.c e8.v
theorem aca:ca Tryz.prog T 151 Vh:=fr (E:=aqg) (aG acm (aG aci (aG Fc (aG acs (aG Ui (aG acu (aG akN aY))))))) Tryz.func151 e8.b e8.vo

def aei:=en [] [(3,[0,3,5,6]),(9,[0,3,5,7])]
def api:Fn [.R, .I, .S, .I, .I, .I, .S, .I] As:=λa b c d e f g h=>[aH 72 a,aV [.n b, .s c, .n d, .n e, .n f, .s g, .n h]]
def aub:Fn [.R] dB:=λa=>⟨[aO 72 a],[]⟩
def Gm:Fn [.R, .I, .I, .S, .I, .I, .I, .S, .I, .R] Tb:=λa b c d e f g h i j=>[cH 0 72 a,cP 6 0,cA 10 (.own 1),cI 12 b,oB 1 [.n c, .s d, .n e, .n f, .n g, .s h, .n i],oR 3 72 j]
def Gn:Fn [.R, .I, .I, .S, .I, .I, .I, .S, .I, .R] Tb:=λa b c d e f g h i j=>[cH 0 72 a,cP 6 0,cA 10 (.own 1),cI 14 b,oB 1 [.n c, .s d, .n e, .n f, .n g, .s h, .n i],oR 3 72 j]
def RF(N:aF)(K:Kt R):=lR.l3 N (J Gm (.exit 0) K)
def RG(N:aF)(K:Kt R):=lR.l9 N (J Gn (.exit 2) K)
def Tn(N:aF):It R:=(lp 3 (al Gm (λK=>RF N K N) an) (lp 9 (al Gn (λK=>RG N K N) an) ln))
theorem YY(N:aF):b_ aei (Tn N (R:=R)) (bX Tryz.f234 3):=lq 3 Gm (RF N) λK g=>lR.r3 N g (J Gm (.exit 0) K)
theorem YZ(N:aF):b_ aei (Tn N (R:=R)) (bX Tryz.f234 9):=lq 9 Gn (RG N) λK g=>lR.r9 N g (J Gn (.exit 2) K)
def adD:=dZ api aub lR.c lR.v
theorem akU:ca Tryz.prog T 234 adD:=fq (E:=aei) aY Tryz.func234 (it:=λN=>Tn N) (λN=>(bn (YY N) (bn (YZ N) bB))) lR.b lR.vo

def ahU:=en [] [(3,[0,1,5,6])]
def aof:Fn [.R, .S] As:=λa b=>[aH 51 a,aS b]
def as5:Fn [.R] dB:=λa=>⟨[aO 51 a],[]⟩
def FX:Fn [.R, .S, .I, .R] Tb:=λa b c d=>[cH 0 51 a,cA 2 (.s b),cA 10 (.own 0),cI 12 c,oR 1 51 d]
def Q7(N:aF)(K:Kt R):=ql.l3 N (J FX (.exit 0) K)
def abv(N:aF):It R:=(lp 3 (al FX (λK=>Q7 N K N) an) ln)
theorem Yq(N:aF):b_ ahU (abv N (R:=R)) (bX Tryz.f152 3):=lq 3 FX (Q7 N) λK g=>ql.r3 N g (J FX (.exit 0) K)
def Vi:=dZ aof as5 ql.c ql.v
theorem acb:ca Tryz.prog T 152 Vi:=fq (E:=ahU) aY Tryz.func152 (it:=λN=>abv N) (λN=>(bn (Yq N) bB)) ql.b ql.vo

def aqQ:=en [(220,Vy),(244,Oi)] []
def apj:Fn [.R, .R, .R, .I, .S] As:=λa b c d e=>[aV [.sh 9 a, .sh 9 b, .sh 26 c, .n d],aS e]
def auc:Fn [.R, .R, .R, .I] dB:=λa b c d=>⟨[aV [.ow 9 ai a, .ow 9 ai b, .ow 26 ai c, .n d]],[]⟩
def adE:=dZ apj auc va.c va.v
theorem akV:ca Tryz.prog T 235 adE:=fr (E:=aqQ) (aG acu (aG Un aY)) Tryz.func235 va.b va.vo

def aed:=en [(117,Db),(45,ZO),(50,sQ),(107,Da),(233,adC),(13,Qf),(151,Vh),(234,adD),(152,Vi),(235,adE),(218,Vx)] [(5,[1,2,3,6,7,8,9]),(22,[2,3,6,8,10,12,13])]
def aoJ:Fn [.I, .R, .R, .R, .R, .I, .R, .R, .I, .I, .S] As:=λa b c d e f g h i j k=>[aV [.n a, .sh 51 b, .sh 9 c, .sh 9 d, .sh 26 e, .n f, .sh 75 g, .sh 72 h, .n i],aI j,aS k]
def aty:Fn [.I, .R, .R, .R, .R, .I, .R, .R, .I, .I] dB:=λa b c d e f g h i j=>⟨[aV [.n a, .ow 51 ai b, .ow 9 ai c, .ow 9 ai d, .ow 26 ai e, .n f, .ow 75 ai g, .ow 72 ai h, .n i],aI j],[]⟩
def Gc:Fn [.I, .S, .I, .I, .I, .R, .R, .R, .R, .I, .R, .R, .I, .I, .I, .I, .I, .I, .I, .R, .R, .R, .R, .R, .R] Tb:=λa b c d e f g h i j k l m o p q r s t u v w x y z=>[cI 2 a,cA 4 (.s b),cP 6 0,cP 12 1,cI 14 c,cP 16 2,cI 18 d,oB 1 [.n e, .sh 51 f, .sh 9 g, .sh 9 h, .sh 26 i, .n j, .sh 75 k, .sh 72 l, .n m],oB 3 [.n o, .nl, .nl, .nl, .nl, .n p, .nl, .nl, .n q],oB 5 [.n r, .own 3, .own 4, .own 5, .own 6, .n s, .own 7, .own 8, .n t],oR 7 51 u,oR 9 9 v,oR 11 9 w,oR 13 26 x,oR 15 75 y,oR 17 72 z]
def Ig:Fn [.I, .S, .I, .I, .I, .R, .R, .R, .R, .I, .R, .R, .I, .I, .I, .I, .I, .I, .I, .R, .R, .R, .R, .R, .R] Tb:=λa b c d e f g h i j k l m o p q r s t u v w x y z=>[cI 2 a,cA 4 (.s b),cP 6 0,cP 12 1,cI 14 c,cP 16 2,cI 18 d,oB 1 [.n e, .sh 51 f, .sh 9 g, .sh 9 h, .sh 26 i, .n j, .sh 75 k, .sh 72 l, .n m],oB 3 [.n o, .own 3, .own 4, .own 5, .own 6, .n p, .own 7, .own 8, .n q],oB 5 [.n r, .own 3, .own 4, .own 5, .own 6, .n s, .own 7, .own 8, .n t],oR 7 51 u,oR 9 9 v,oR 11 9 w,oR 13 26 x,oR 15 75 y,oR 17 72 z]
def Bb:Fn [.S, .B, .I, .I, .R, .R, .R, .R, .I, .R, .R, .I, .I, .I, .I, .I, .I, .I, .I, .S, .I, .I, .I, .S, .I, .R, .R, .R, .R, .R, .R] Tb:=λa b c d e f g h i j k l m o p q r s t u v w x y z aa ab ac ad ae af=>[cA 4 (.s a),cP 6 0,cP 12 1,cP 16 2,cP 20 3,cA 24 (.b b),cI 26 c,oB 1 [.n d, .sh 51 e, .sh 9 f, .sh 9 g, .sh 26 h, .n i, .sh 75 j, .sh 72 k, .n l],oB 3 [.n m, .nl, .nl, .nl, .nl, .n o, .nl, .nl, .n p],oB 5 [.n q, .own 4, .own 5, .own 6, .own 7, .n r, .own 8, .own 9, .n s],oB 7 [.n t, .s u, .n v, .n w, .n x, .s y, .n z],oR 9 51 aa,oR 11 9 ab,oR 13 9 ac,oR 15 26 ad,oR 17 75 ae,oR 19 72 af]
def Rl(N:aF)(K:Kt R):=wM.l5 N (J Ig .ret K) (J Gc (.exit 0) K)
def Mu(N:aF)(K:Kt R):=wM.Yd N (J Bb (.exit 2) K)
def Ti(N:aF):It R:=(lp 5 (al Gc (λK=>Rl N K N) an) (lp 22 (al Bb (λK=>Mu N K N) an) ln))
theorem YE(N:aF):b_ aed (Ti N (R:=R)) (bX Tryz.f185 5):=lq 5 Gc (Rl N) λK g=>wM.r5 N g (J Ig .ret K) (J Gc (.exit 0) K)
theorem TM(N:aF):b_ aed (Ti N (R:=R)) (bX Tryz.f185 22):=lq 22 Bb (Mu N) λK g=>wM.r22 N g (J Bb (.exit 2) K)
def adk:=dZ aoJ aty wM.c wM.v
theorem akB:ca Tryz.prog T 185 adk:=fq (E:=aed) (aG Ff (aG agf (aG vi (aG Fc (aG akT (aG T4 (aG aca (aG akU (aG acb (aG akV (aG acs aY))))))))))) Tryz.func185 (it:=λN=>Ti N) (λN=>(bn (YE N) (bn (TM N) bB))) wM.b wM.vo

def aqR:=en [(45,ZO),(50,sQ)] []
def apk:Fn [.I, .R, .R, .R, .R, .I, .R, .R, .I, .I] As:=λa b c d e f g h i j=>[aV [.n a, .sh 51 b, .sh 9 c, .sh 9 d, .sh 26 e, .n f, .sh 75 g, .sh 72 h, .n i],aI j]
def aud:Fn [.B] dB:=λa=>⟨[aB a],[]⟩
def Og:=dZ apk aud vd.c vd.v
theorem Ul:ca Tryz.prog T 236 Og:=fr (E:=aqR) (aG agf (aG vi aY)) Tryz.func236 vd.b vd.vo

def aq6:=en [] []
def apI:Fn [.I, .S, .R] As:=λa b c=>[aV [.n a, .s b, .sh 237 c]]
def auB:Fn [.I, .S, .R] dB:=λa b c=>⟨[aV [.n a, .s b, .ow 237 ai c]],[]⟩
def adT:=dZ apI auB Kw.c Kw.v
theorem ak_:ca Tryz.prog T 267 adT:=fh (E:=aq6) aY Tryz.func267 (it:=λ_=>ln) (λ_=>bB) (λ_=>Kw.b) λx f h=>⟨0,Kw.eG _ x.1 x.2.1 x.2.2.1 h⟩

def aik:=en [(50,sQ)] [(2,[1,2,3])]
def apJ:Fn [.I, .S, .R] As:=λa b c=>[aV [.n a, .s b, .sh 237 c]]
def auC:Fn [.B] dB:=λa=>⟨[aB a],[]⟩
def zn:Fn [.B, .I, .I, .S, .R] Tb:=λa b c d e=>[cP 2 0,cA 4 (.b a),cI 6 b,oB 1 [.n c, .s d, .sh 237 e]]
def RQ(N:aF)(K:Kt R):=lK.l2 N (J zn .ret K) (J zn (.exit 0) K)
def abV(N:aF):It R:=(lp 2 (al zn (λK=>RQ N K N) an) ln)
theorem Y8(N:aF):b_ aik (abV N (R:=R)) (bX Tryz.f268 2):=lq 2 zn (RQ N) λK g=>lK.r2 N g (J zn .ret K) (J zn (.exit 0) K)
def adU:=dZ apJ auC (ct _) lK.v
theorem ala:ca Tryz.prog T 268 adU:=fh (E:=aik) (aG vi aY) Tryz.func268 (it:=λN=>abV N) (λN=>(bn (Y8 N) bB)) lK.b λx f h=>lK.eG _ x.1 x.2.1 x.2.2.1 f.1.2.1 f.1.2.2.1

def aqS:=en [(267,adT),(268,adU),(50,sQ)] []
def apl:Fn [.I, .S, .R, .S] As:=λa b c d=>[aV [.n a, .s b, .sh 237 c],aS d]
def aue:Fn [.I, .S, .R, .B] dB:=λa b c d=>⟨[aV [.n a, .s b, .ow 237 ai c],aB d],[]⟩
def adF:=dZ apl aue GF.c GF.v
theorem akW:ca Tryz.prog T 237 adF:=fh (E:=aqS) (aG ak_ (aG ala (aG vi aY))) Tryz.func237 (it:=λ_=>ln) (λ_=>bB) (λ_=>GF.b) λx f h=>⟨0,GF.eG _ x.1 x.2.1 x.2.2.1 x.2.2.2.1 h f.1.2.1 f.1.2.2.1 f.2.1.1⟩

def aid:=en [] [(1,[0,1,2,6])]
def apm:Fn [.I, .R, .R, .R, .R, .I, .R, .R, .I, .I, .I] As:=λa b c d e f g h i j k=>[.pt [.n a, .ow 51 ai b, .ow 9 ai c, .ow 9 ai d, .ow 26 ai e, .n f, .ow 75 ai g, .ow 72 ai h, .n i],aI j,aI k]
def auf:Fn [.I, .R, .R, .R, .R, .I, .R, .R, .I] dB:=λa b c d e f g h i=>⟨[],[[.n a, .kp b, .kp c, .kp d, .kp e, .n f, .kp g, .kp h, .n i]]⟩
def Gq:Fn [.I, .I, .I, .I, .I, .I, .R, .R, .R, .R, .R, .R] Tb:=λa b c d e f g h i j k l=>[cP 0 900000900,cI 2 a,cI 4 b,cI 12 c,oB 1800001801 [.n d, .own 900000001, .own 900000002, .own 900000003, .own 900000004, .n e, .own 900000006, .own 900000007, .n f],oR 1800000003 51 g,oR 1800000005 9 h,oR 1800000007 9 i,oR 1800000009 26 j,oR 1800000013 75 k,oR 1800000015 72 l]
def RH(N:aF)(K:Kt R):=sI.l1 N (J Gq (.exit 0) K)
def abP(N:aF):It R:=(lp 1 (al Gq (λK=>RH N K N) an) ln)
theorem Y0(N:aF):b_ aid (abP N (R:=R)) (bX Tryz.f238 1):=lq 1 Gq (RH N) λK g=>sI.r1 N g (J Gq (.exit 0) K)
def Oh:=dZ apm auf sI.c sI.v
theorem Um:ca Tryz.prog T 238 Oh:=fq (E:=aid) aY Tryz.func238 (it:=λN=>abP N) (λN=>(bn (Y0 N) bB)) sI.b sI.vo

def aqx:=en [(117,Db),(236,Og),(237,adF),(238,Oh)] []
def aoK:Fn [.I, .R, .R, .R, .R, .I, .R, .R, .I, .I, .S] As:=λa b c d e f g h i j k=>[aV [.n a, .sh 51 b, .sh 9 c, .sh 9 d, .sh 26 e, .n f, .sh 75 g, .sh 72 h, .n i],aI j,aS k]
def atz:Fn [.I, .R, .R, .R, .R, .I, .R, .R, .I, .B] dB:=λa b c d e f g h i j=>⟨[aV [.n a, .ow 51 ai b, .ow 9 ai c, .ow 9 ai d, .ow 26 ai e, .n f, .ow 75 ai g, .ow 72 ai h, .n i],aB j],[]⟩
def adl:=dZ aoK atz DM.c DM.v
theorem akC:ca Tryz.prog T 186 adl:=fr (E:=aqx) (aG Ff (aG Ul (aG akW (aG Um aY)))) Tryz.func186 DM.b DM.vo

def E55:=en [] [(3,[0,3,5,6]),(9,[0,3,5,7])]
def A55:Fn [.R, .S, .I, .I, .S] As:=λa b c d e=>[aH 51 a,aV [.s b, .n c, .n d, .s e]]
def k55:Fn [.R] dB:=λa=>⟨[aO 51 a],[]⟩
def MR:Fn [.R, .I, .S, .I, .I, .S, .R] Tb:=λa b c d e f g=>[cH 0 51 a,cP 6 0,cA 10 (.own 1),cI 12 b,oB 1 [.s c, .n d, .n e, .s f],oR 3 51 g]
def MS:Fn [.R, .I, .S, .I, .I, .S, .R] Tb:=λa b c d e f g=>[cH 0 51 a,cP 6 0,cA 10 (.own 1),cI 14 b,oB 1 [.s c, .n d, .n e, .s f],oR 3 51 g]
def aaL(N:aF)(K:Kt R):=lM.l3 N (J MR (.exit 0) K)
def aaM(N:aF)(K:Kt R):=lM.l9 N (J MS (.exit 2) K)
def afD(N:aF):It R:=(lp 3 (al MR (λK=>aaL N K N) an) (lp 9 (al MS (λK=>aaM N K N) an) ln))
theorem af4(N:aF):b_ E55 (afD N (R:=R)) (bX Tryz.f55 3):=lq 3 MR (aaL N) λK g=>lM.r3 N g (J MR (.exit 0) K)
theorem af5(N:aF):b_ E55 (afD N (R:=R)) (bX Tryz.f55 9):=lq 9 MS (aaM N) λK g=>lM.r9 N g (J MS (.exit 2) K)
def agG:=dZ A55 k55 lM.c lM.v
theorem alr:ca Tryz.prog T 55 agG:=fq (E:=E55) aY Tryz.func55 (it:=λN=>afD N) (λN=>(bn (af4 N) (bn (af5 N) bB))) lM.b lM.vo

def E88:=Wz T md [(151,Vh),(152,Vi),(153,Vj),(55,agG)] [] [] [(0,1,.own 51),(0,2,.own 9),(0,3,.own 9),(0,4,.own 26)]
def A88:Fn [.I, .R, .R, .R, .R, .I, .R, .R, .I, .S, .I, .I, .S] As:=λa b c d e f g h i j k l m=>[.pt [.n a, .ow 51 ai b, .ow 9 ai c, .ow 9 ai d, .ow 26 ai e, .n f, .ow 75 ai g, .ow 72 ai h, .n i],aV [.s j, .n k, .n l, .s m]]
def k88:Fn [.I, .R, .R, .R, .R, .I, .R, .R, .I] dB:=λa b c d e f g h i=>⟨[],[[.n a, .ow 51 ai b, .ow 9 ai c, .ow 9 ai d, .ow 26 ai e, .n f, .kp g, .kp h, .n i]]⟩
def agJ:=dZ A88 k88 OR.c OR.v
theorem alv:ca Tryz.prog T 88 agJ:=fr (E:=E88) (aG aca (aG acb (aG acd (aG alr aY)))) Tryz.func88 OR.b OR.vo

def aqT:=en [(117,Db),(236,Og),(50,sQ),(238,Oh),(88,agJ)] []
def apn:Fn [.I, .R, .R, .R, .R, .I, .R, .R, .I, .I, .I] As:=λa b c d e f g h i j k=>[aV [.n a, .sh 51 b, .sh 9 c, .sh 9 d, .sh 26 e, .n f, .sh 75 g, .sh 72 h, .n i],aI j,aI k]
def aug:Fn [.I, .R, .R, .R, .R, .I, .R, .R, .I, .B] dB:=λa b c d e f g h i j=>⟨[aV [.n a, .ow 51 ai b, .ow 9 ai c, .ow 9 ai d, .ow 26 ai e, .n f, .ow 75 ai g, .ow 72 ai h, .n i],aB j],[]⟩
def adG:=dZ apn aug DP.c DP.v
theorem akX:ca Tryz.prog T 239 adG:=fr (E:=aqT) (aG Ff (aG Ul (aG vi (aG Um (aG alv aY))))) Tryz.func239 DP.b DP.vo

def ah4:=en [] [(2,[0,3])]
def aoF:Fn [.I] As:=λa=>[aI a]
def atu:Fn [.S] dB:=λa=>⟨[aS a],[]⟩
def Gb:Fn [.I, .R] Tb:=λa b=>[cI 0 a,cA 6 (.own 0),oR 1 5 b]
def Rj(N:aF)(K:Kt R):=kE.l2 N (J Gb (.exit 0) K)
def abF(N:aF):It R:=(lp 2 (al Gb (λK=>Rj N K N) an) ln)
theorem YC(N:aF):b_ ah4 (abF N (R:=R)) (bX Tryz.f181 2):=lq 2 Gb (Rj N) λK g=>kE.r2 N g (J Gb (.exit 0) K)
def N9:=dZ aoF atu kE.c kE.v
theorem Ud:ca Tryz.prog T 181 N9:=fh (E:=ah4) aY Tryz.func181 (it:=λN=>abF N) (λN=>(bn (YC N) bB)) kE.b λx f h=>kE.eG _ x.1 h

def ap4:=en [(49,VJ),(181,N9)] []
def anY:Fn [.S, .I, .I, .S] As:=λa b c d=>[aV [.s a, .n b, .n c, .s d]]
def asN:Fn [.S, .B] dB:=λa b=>⟨[aS a,aB b],[]⟩
def N4:=dZ anY asN (ct _) jL.v
theorem T3:ca Tryz.prog T 114 N4:=fh (E:=ap4) (aG Zl (aG Ud aY)) Tryz.func114 (it:=λ_=>ln) (λ_=>bB) (λ_=>jL.b) λx f h=>⟨0,jL.eG _ x.1 x.2.1 x.2.2.1 x.2.2.2.1⟩

def aqv:=en [] []
def aoG:Fn [.I] As:=λa=>[.v ak [.i .u32 a]]
def atv:Fn [.S] dB:=λa=>⟨[aS a],[]⟩
def adh:=dZ aoG atv (ct _) pb.v
theorem akz:ca Tryz.prog T 182 adh:=ft (E:=aqv) aY Tryz.func182 pb.b λ(a0,_)=>pb.eG _ a0

def ap2:=en [(50,sQ),(181,N9),(183,Vp),(182,adh)] []
def anW:Fn [.S] As:=λa=>[aS a]
def asL:Fn [.S, .B] dB:=λa b=>⟨[aS a,aB b],[]⟩
def N3:=dZ anW asL fK.c fK.v
theorem T2:ca Tryz.prog T 112 N3:=fr (E:=ap2) (aG vi (aG Ud (aG acj (aG akz aY)))) Tryz.func112 fK.b fK.vo

def aqU:=en [(114,N4),(112,N3)] []
def apo:Fn [.S, .I, .I, .S] As:=λa b c d=>[aV [.s a, .n b, .n c, .s d]]
def auh:Fn [.R, .B] dB:=λa b=>⟨[aO 218 a,aB b],[]⟩
def adH:=dZ apo auh DQ.c DQ.v
theorem akY:ca Tryz.prog T 240 adH:=fr (E:=aqU) (aG T3 (aG T2 aY)) Tryz.func240 DQ.b DQ.vo

def ap0:=en [(50,sQ)] []
def anT:Fn [.S] As:=λa=>[aS a]
def asH:Fn [.B] dB:=λa=>⟨[aB a],[]⟩
def Va:=dZ anT asH (ct _) qj.v
theorem ab4:ca Tryz.prog T 109 Va:=ft (E:=ap0) (aG vi aY) Tryz.func109 qj.b λ(a0,_)=>qj.eG _ a0

def E51:=en [(109,Va),(50,sQ)] [(4,[1,2,3])]
def A51:Fn [.R] As:=λa=>[aV [.sh 94 a]]
def k51:Fn [.B] dB:=λa=>⟨[aB a],[]⟩
def EH:Fn [.B, .I, .R] Tb:=λa b c=>[cP 2 0,cA 4 (.b a),cI 6 b,oB 1 [.sh 94 c]]
def aaJ(N:aF)(K:Kt R):=gE.l4 N (J EH .ret K) (J EH (.exit 0) K)
def ajF(N:aF):It R:=(lp 4 (al EH (λK=>aaJ N K N) an) ln)
theorem af2(N:aF):b_ E51 (ajF N (R:=R)) (bX Tryz.f51 4):=lq 4 EH (aaJ N) λK g=>gE.r4 N g (J EH .ret K) (J EH (.exit 0) K)
def Qg:=dZ A51 k51 gE.c gE.v
theorem Ur:ca Tryz.prog T 51 Qg:=fq (E:=E51) (aG ab4 (aG vi aY)) Tryz.func51 (it:=λN=>ajF N) (λN=>(bn (af2 N) bB)) gE.b gE.vo

def ahO:=en [] [(2,[1,2,4,5])]
def anU:Fn [.R, .S] As:=λa b=>[aV [.sh 94 a],aS b]
def asJ:Fn [.I] dB:=λa=>⟨[aI a],[]⟩
def yY:Fn [.S, .I, .I, .R] Tb:=λa b c d=>[cA 2 (.s a),cP 4 0,cI 8 b,cI 10 c,oB 1 [.sh 94 d]]
def Q0(N:aF)(K:Kt R):=jz.l2 N (J yY .ret K) (J yY (.exit 0) K)
def abo(N:aF):It R:=(lp 2 (al yY (λK=>Q0 N K N) an) ln)
theorem Yj(N:aF):b_ ahO (abo N (R:=R)) (bX Tryz.f110 2):=lq 2 yY (Q0 N) λK g=>jz.r2 N g (J yY .ret K) (J yY (.exit 0) K)
def Vb:=dZ anU asJ jz.c jz.v
theorem ab5:ca Tryz.prog T 110 Vb:=fq (E:=ahO) aY Tryz.func110 (it:=λN=>abo N) (λN=>(bn (Yj N) bB)) jz.b jz.vo

def QT:=en [] [(3,[2,3,4,5,6]),(9,[2,3,4,5,7])]
def apT:Fn [.R, .S, .S, .I] As:=λa b c d=>[aV [.sh 94 a],aV [.s b, .s c, .n d]]
def auK:Fn [.R] dB:=λa=>⟨[aV [.ow 94 ai a]],[]⟩
def rG:Fn [.I, .R, .S, .S, .I] Tb:=λa b c d e=>[cP 4 0,cP 6 1,cP 8 2,cP 10 3,cI 12 a,oB 1 [.sh 94 b],oB 3 [.s c, .s d, .n e],oB 5 [.nl],oB 7 [.nl]]
def oK:Fn [.I, .R, .S, .S, .I, .R] Tb:=λa b c d e f=>[cP 4 0,cP 6 1,cP 8 2,cP 10 3,cI 12 a,oB 1 [.sh 94 b],oB 3 [.s c, .s d, .n e],oB 5 [.nl],oB 7 [.own 4],oR 9 94 f]
def Gz:Fn [.I, .R, .S, .S, .I, .R] Tb:=λa b c d e f=>[cP 4 0,cP 6 1,cP 8 2,cP 10 3,cI 14 a,oB 1 [.sh 94 b],oB 3 [.s c, .s d, .n e],oB 5 [.nl],oB 7 [.own 4],oR 9 94 f]
def RW(N:aF)(K:Kt R):=eu.l3 N (J rG (.exit 0) K) (J oK (.exit 0) K)
def ME(N:aF)(K:Kt R):=eu.sL N (J rG (.exit 0) K) (J oK (.exit 0) K)
def RX(N:aF)(K:Kt R):=eu.l9 N (J Gz (.exit 2) K)
def Jn(N:aF):It R:=(lp 3 (al rG (λK=>RW N K N) (al oK (λK=>ME N K N) an)) (lp 9 (al Gz (λK=>RX N K N) an) ln))
theorem Ow(N:aF)(K:Kt R):Wd QT (Jn N) (bX Tryz.f279 3) 3 K oK (ME N K):=lw (λg=>eu.zM N (cmp _ rG (g∘fN)) (cmp _ oK (g∘fN)) (J rG (.exit 0) K) (J oK (.exit 0) K)) λm i=>by simp only[dO,wf i];rfl
theorem agU(N:aF)(K:Kt R):Wd QT (Jn N) (bX Tryz.f279 3) 3 K rG (RW N K):=lw (λg=>eu.r3 N (cmp _ rG (g∘fN)) (cmp _ oK (g∘fN)) (J rG (.exit 0) K) (J oK (.exit 0) K)) λm i=>by simp only[dO,wf i,wf (Ow N K m)];rfl
theorem Zd(N:aF):b_ QT (Jn N (R:=R)) (bX Tryz.f279 3):=lm 3 (ga rG (agU N) (ga oK (Ow N) oP))
theorem Ze(N:aF):b_ QT (Jn N (R:=R)) (bX Tryz.f279 9):=lq 9 Gz (RX N) λK g=>eu.r9 N g (J Gz (.exit 2) K)
def ad1:=dZ apT auK eu.c eu.v
theorem alh:ca Tryz.prog T 279 ad1:=fq (E:=QT) aY Tryz.func279 (it:=λN=>Jn N) (λN=>(bn (Zd N) (bn (Ze N) bB))) eu.b eu.vo

def WW:=en [] [(3,[1,2,4,5,6])]
def apU:Fn [.R, .S] As:=λa b=>[aV [.sh 94 a],aS b]
def auL:Fn [.R] dB:=λa=>⟨[aV [.ow 94 ai a]],[]⟩
def rH:Fn [.S, .I, .R] Tb:=λa b c=>[cA 2 (.s a),cP 4 0,cP 8 1,cP 10 2,cI 12 b,oB 1 [.sh 94 c],oB 3 [.nl],oB 5 [.nl]]
def oL:Fn [.S, .I, .R, .R] Tb:=λa b c d=>[cA 2 (.s a),cP 4 0,cP 8 1,cP 10 2,cI 12 b,oB 1 [.sh 94 c],oB 3 [.nl],oB 5 [.own 3],oR 7 94 d]
def RY(N:aF)(K:Kt R):=eT.l3 N (J rH (.exit 0) K) (J oL (.exit 0) K)
def MF(N:aF)(K:Kt R):=eT.sL N (J rH (.exit 0) K) (J oL (.exit 0) K)
def NI(N:aF):It R:=(lp 3 (al rH (λK=>RY N K N) (al oL (λK=>MF N K N) an)) ln)
theorem Ox(N:aF)(K:Kt R):Wd WW (NI N) (bX Tryz.f280 3) 3 K oL (MF N K):=lw (λg=>eT.zM N (cmp _ rH (g∘fN)) (cmp _ oL (g∘fN)) (J rH (.exit 0) K) (J oL (.exit 0) K)) λm i=>by simp only[dO,wf i];rfl
theorem agV(N:aF)(K:Kt R):Wd WW (NI N) (bX Tryz.f280 3) 3 K rH (RY N K):=lw (λg=>eT.r3 N (cmp _ rH (g∘fN)) (cmp _ oL (g∘fN)) (J rH (.exit 0) K) (J oL (.exit 0) K)) λm i=>by simp only[dO,wf i,wf (Ox N K m)];rfl
theorem Zf(N:aF):b_ WW (NI N (R:=R)) (bX Tryz.f280 3):=lm 3 (ga rH (agV N) (ga oL (Ox N) oP))
def ad2:=dZ apU auL eT.c eT.v
theorem ali:ca Tryz.prog T 280 ad2:=fq (E:=WW) aY Tryz.func280 (it:=λN=>NI N) (λN=>(bn (Zf N) bB)) eT.b eT.vo

def aq7:=en [(51,Qg),(109,Va),(110,Vb),(279,ad1),(280,ad2)] []
def apK:Fn [.R, .I, .S, .S, .S] As:=λa b c d e=>[aV [.sh 94 a],aV [.n b, .s c, .s d, .s e]]
def auD:Fn [.R, .B] dB:=λa b=>⟨[aV [.ow 94 ai a],aB b],[]⟩
def adV:=dZ apK auD BZ.c BZ.v
theorem alb:ca Tryz.prog T 269 adV:=fr (E:=aq7) (aG Ur (aG ab4 (aG ab5 (aG alh (aG ali aY))))) Tryz.func269 BZ.b BZ.vo

def aie:=en [(269,adV)] [(3,[1,4,5,6,7])]
def apq:Fn [.R, .R] As:=λa b=>[aV [.sh 94 a],aH 218 b]
def aui:Fn [.R, .I] dB:=λa b=>⟨[aV [.ow 94 ai a],aI b],[]⟩
def Gr:Fn [.R, .I, .I, .R] Tb:=λa b c d=>[cH 2 218 a,cP 8 0,cI 10 b,cP 12 1,cI 14 c,oB 1 [.nl],oB 3 [.own 2],oR 5 94 d]
def Ih:Fn [.R, .I, .I, .R] Tb:=λa b c d=>[cH 2 218 a,cP 8 0,cI 10 b,cP 12 1,cI 14 c,oB 1 [.own 2],oB 3 [.own 2],oR 5 94 d]
def RI(N:aF)(K:Kt R):=qm.l3 N (J Ih .ret K) (J Gr (.exit 0) K)
def abQ(N:aF):It R:=(lp 3 (al Gr (λK=>RI N K N) an) ln)
theorem Y1(N:aF):b_ aie (abQ N (R:=R)) (bX Tryz.f241 3):=lq 3 Gr (RI N) λK g=>qm.r3 N g (J Ih .ret K) (J Gr (.exit 0) K)
def VC:=dZ apq aui qm.c qm.v
theorem acy:ca Tryz.prog T 241 VC:=fq (E:=aie) (aG alb aY) Tryz.func241 (it:=λN=>abQ N) (λN=>(bn (Y1 N) bB)) qm.b qm.vo

def aqB:=en [] []
def aoQ:Fn [.B] As:=λa=>[aB a]
def atF:Fn [.I] dB:=λa=>⟨[aI a],[]⟩
def Vq:=dZ aoQ atF (ct _) AP.v
theorem ack:ca Tryz.prog T 192 Vq:=ft (E:=aqB) aY Tryz.func192 AP.b λ(a0,_)=>AP.eG _ a0

def aqy:=Wz T md [(239,adG),(240,adH),(241,VC),(192,Vq)] [] [] [(0,1,.own 51),(0,2,.own 9),(0,3,.own 9),(0,4,.own 26),(0,6,.own 75),(0,7,.own 72),(0,9,.own 94),(0,10,.own 3),(0,11,.own 51)]
def aoL:Fn [.I, .R, .R, .R, .R, .I, .R, .R, .I, .R, .R, .R, .I, .I, .S, .I, .R] As:=λa b c d e f g h i j k l m o p q r=>[.pt [.n a, .ow 51 ai b, .ow 9 ai c, .ow 9 ai d, .ow 26 ai e, .n f, .ow 75 ai g, .ow 72 ai h, .n i, .ow 94 ai j, .ow 3 ai k, .ow 51 ai l],aV [.n m, .n o, .s p, .n q, .sh 3 r]]
def atA:Fn [.I, .I, .R, .R, .R, .R, .I, .R, .R, .I, .R, .R, .R] dB:=λa b c d e f g h i j k l m=>⟨[aI a],[[.n b, .ow 51 ai c, .ow 9 ai d, .ow 9 ai e, .ow 26 ai f, .n g, .ow 75 ai h, .ow 72 ai i, .n j, .ow 94 ai k, .ow 3 ai l, .ow 51 ai m]]⟩
def adm:=dZ aoL atA DN.c DN.v
theorem akD:ca Tryz.prog T 187 adm:=fr (E:=aqy) (aG akX (aG akY (aG acy (aG ack aY)))) Tryz.func187 DN.b DN.vo

def aqz:=en [(117,Db),(236,Og),(238,Oh)] []
def aoM:Fn [.I, .R, .R, .R, .R, .I, .R, .R, .I, .I] As:=λa b c d e f g h i j=>[aV [.n a, .sh 51 b, .sh 9 c, .sh 9 d, .sh 26 e, .n f, .sh 75 g, .sh 72 h, .n i],aI j]
def atB:Fn [.I, .R, .R, .R, .R, .I, .R, .R, .I, .B] dB:=λa b c d e f g h i j=>⟨[aV [.n a, .ow 51 ai b, .ow 9 ai c, .ow 9 ai d, .ow 26 ai e, .n f, .ow 75 ai g, .ow 72 ai h, .n i],aB j],[]⟩
def adn:=dZ aoM atB DO.c DO.v
theorem akE:ca Tryz.prog T 188 adn:=fr (E:=aqz) (aG Ff (aG Ul (aG Um aY))) Tryz.func188 DO.b DO.vo

def aqA:=en [(117,Db)] []
def aoN:Fn [.I, .R, .R, .R, .R, .I, .R, .R, .I, .I] As:=λa b c d e f g h i j=>[aV [.n a, .sh 51 b, .sh 9 c, .sh 9 d, .sh 26 e, .n f, .sh 75 g, .sh 72 h, .n i],aI j]
def atC:Fn [.I, .R, .R, .R, .R, .I, .R, .R, .I] dB:=λa b c d e f g h i=>⟨[aV [.n a, .ow 51 ai b, .ow 9 ai c, .ow 9 ai d, .ow 26 ai e, .n f, .ow 75 ai g, .ow 72 ai h, .n i]],[]⟩
def ado:=dZ aoN atC qH.c qH.v
theorem akF:ca Tryz.prog T 189 ado:=fr (E:=aqA) (aG Ff aY) Tryz.func189 qH.b qH.vo

def ah5:=en [(117,Db)] [(4,[1,2,4,5,6])]
def aoO:Fn [.I, .R, .R, .R, .R, .I, .R, .R, .I, .I] As:=λa b c d e f g h i j=>[aV [.n a, .sh 51 b, .sh 9 c, .sh 9 d, .sh 26 e, .n f, .sh 75 g, .sh 72 h, .n i],aI j]
def atD:Fn [.I, .R, .R, .R, .R, .I, .R, .R, .I] dB:=λa b c d e f g h i=>⟨[aV [.n a, .ow 51 ai b, .ow 9 ai c, .ow 9 ai d, .ow 26 ai e, .n f, .ow 75 ai g, .ow 72 ai h, .n i]],[]⟩
def Gd:Fn [.I, .I, .I, .R, .R, .R, .R, .I, .R, .R, .I, .I, .I, .I, .I, .I, .I, .R, .R, .R, .R, .R, .R] Tb:=λa b c d e f g h i j k l m o p q r s t u v w x=>[cI 2 a,cP 4 0,cP 8 1,cP 10 2,cI 12 b,oB 1 [.n c, .sh 51 d, .sh 9 e, .sh 9 f, .sh 26 g, .n h, .sh 75 i, .sh 72 j, .n k],oB 3 [.n l, .nl, .nl, .nl, .nl, .n m, .nl, .nl, .n o],oB 5 [.n p, .own 3, .own 4, .own 5, .own 6, .n q, .own 7, .own 8, .n r],oR 7 51 s,oR 9 9 t,oR 11 9 u,oR 13 26 v,oR 15 75 w,oR 17 72 x]
def Rm(N:aF)(K:Kt R):=s_.l4 N (J Gd (.exit 0) K)
def abG(N:aF):It R:=(lp 4 (al Gd (λK=>Rm N K N) an) ln)
theorem YF(N:aF):b_ ah5 (abG N (R:=R)) (bX Tryz.f190 4):=lq 4 Gd (Rm N) λK g=>s_.r4 N g (J Gd (.exit 0) K)
def adp:=dZ aoO atD s_.c s_.v
theorem akG:ca Tryz.prog T 190 adp:=fq (E:=ah5) (aG Ff aY) Tryz.func190 (it:=λN=>abG N) (λN=>(bn (YF N) bB)) s_.b s_.vo

def WU:=en [(51,Qg)] [(5,[1,2,4,6,7])]
def apr:Fn [.R, .R] As:=λa b=>[aV [.sh 94 a],aH 3 b]
def auj:Fn [.R, .B] dB:=λa b=>⟨[aV [.ow 94 ai a],aB b],[]⟩
def rE:Fn [.R, .I, .R] Tb:=λa b c=>[cH 2 3 a,cP 4 0,cP 8 1,cP 12 2,cI 14 b,oB 1 [.sh 94 c],oB 3 [.nl],oB 5 [.nl]]
def oI:Fn [.R, .I, .R, .R] Tb:=λa b c d=>[cH 2 3 a,cP 4 0,cP 8 1,cP 12 2,cI 14 b,oB 1 [.sh 94 c],oB 3 [.nl],oB 5 [.own 3],oR 7 94 d]
def RJ(N:aF)(K:Kt R):=wR.l5 N (J rE (.exit 0) K) (J oI (.exit 0) K)
def MA(N:aF)(K:Kt R):=wR.l5a N (J rE (.exit 0) K) (J oI (.exit 0) K)
def NG(N:aF):It R:=(lp 5 (al rE (λK=>RJ N K N) (al oI (λK=>MA N K N) an)) ln)
theorem Ou(N:aF)(K:Kt R):Wd WU (NG N) (bX Tryz.f242 5) 5 K oI (MA N K):=lw (λg=>wR.r5a N (cmp _ rE (g∘fN)) (cmp _ oI (g∘fN)) (J rE (.exit 0) K) (J oI (.exit 0) K)) λm i=>by simp only[dO,wf i];rfl
theorem agS(N:aF)(K:Kt R):Wd WU (NG N) (bX Tryz.f242 5) 5 K rE (RJ N K):=lw (λg=>wR.r5 N (cmp _ rE (g∘fN)) (cmp _ oI (g∘fN)) (J rE (.exit 0) K) (J oI (.exit 0) K)) λm i=>by simp only[dO,wf i,wf (Ou N K m)];rfl
theorem Y2(N:aF):b_ WU (NG N (R:=R)) (bX Tryz.f242 5):=lm 5 (ga rE (agS N) (ga oI (Ou N) oP))
def adI:=dZ apr auj wR.c wR.v
theorem akZ:ca Tryz.prog T 242 adI:=fq (E:=WU) (aG Ur aY) Tryz.func242 (it:=λN=>NG N) (λN=>(bn (Y2 N) bB)) wR.b wR.vo

def E52:=en [(110,Vb)] []
def A52:Fn [.R, .S] As:=λa b=>[aV [.sh 94 a],aS b]
def k52:Fn [.S, .B] dB:=λa b=>⟨[aS a,aB b],[]⟩
def agF:=dZ A52 k52 vZ.c vZ.v
theorem alq:ca Tryz.prog T 52 agF:=fr (E:=E52) (aG ab5 aY) Tryz.func52 vZ.b vZ.vo

def ahP:=en [(50,sQ),(181,N9)] [(6,[0,1,4,5,6,7,8,9])]
def anV:Fn [.S, .I] As:=λa b=>[aS a,aI b]
def asK:Fn [.I, .I, .B] dB:=λa b c=>⟨[aI a,aI b,aB c],[]⟩
def yZ:Fn [.S, .I, .I, .I, .B, .I, .I, .I] Tb:=λa b c d e f g h=>[cA 0 (.s a),cI 2 b,cI 8 c,cI 10 d,cA 12 (.b e),cI 14 f,cI 16 g,cI 18 h]
def Q1(N:aF)(K:Kt R):=fP.l6 N (J yZ .ret K) (J yZ (.exit 0) K)
def abp(N:aF):It R:=(lp 6 (al yZ (λK=>Q1 N K N) an) ln)
theorem Yk(N:aF):b_ ahP (abp N (R:=R)) (bX Tryz.f111 6):=lq 6 yZ (Q1 N) λK g=>fP.r6 N g (J yZ .ret K) (J yZ (.exit 0) K)
def N2:=dZ anV asK (ct _) fP.v
theorem T1:ca Tryz.prog T 111 N2:=fh (E:=ahP) (aG vi (aG Ud aY)) Tryz.func111 (it:=λN=>abp N) (λN=>(bn (Yk N) bB)) fP.b λx f h=>fP.eG _ x.1 x.2.1 f.1.1

def E53:=en [(111,N2),(112,N3)] [(5,[0,2,3,4,5])]
def A53:Fn [.S] As:=λa=>[aS a]
def k53:Fn [.R, .I] dB:=λa b=>⟨[aO 9 a,aI b],[]⟩
def MQ:Fn [.S, .I, .I, .R] Tb:=λa b c d=>[cA 0 (.s a),cA 4 .nl,cI 6 b,cA 8 (.own 0),cI 10 c,oR 1 9 d]
def M1:Fn [.S, .I, .I, .R] Tb:=λa b c d=>[cA 0 (.s a),cA 4 (.own 0),cI 6 b,cA 8 (.own 0),cI 10 c,oR 1 9 d]
def aaK(N:aF)(K:Kt R):=HQ.l5 N (J M1 .ret K) (J MQ (.exit 0) K)
def ajG(N:aF):It R:=(lp 5 (al MQ (λK=>aaK N K N) an) ln)
theorem af3(N:aF):b_ E53 (ajG N (R:=R)) (bX Tryz.f53 5):=lq 5 MQ (aaK N) λK g=>HQ.r5 N g (J M1 .ret K) (J MQ (.exit 0) K)
def al6:=dZ A53 k53 HQ.c HQ.v
theorem avc:ca Tryz.prog T 53 al6:=fq (E:=E53) (aG T1 (aG T2 aY)) Tryz.func53 (it:=λN=>ajG N) (λN=>(bn (af3 N) bB)) HQ.b HQ.vo

def ap3:=en [(111,N2)] []
def anX:Fn [.S, .I] As:=λa b=>[aS a,aI b]
def asM:Fn [.S, .I, .B] dB:=λa b c=>⟨[aS a,aI b,aB c],[]⟩
def acU:=dZ anX asM (ct _) qk.v
theorem akd:ca Tryz.prog T 113 acU:=fh (E:=ap3) (aG T1 aY) Tryz.func113 (it:=λ_=>ln) (λ_=>bB) (λ_=>qk.b) λx f h=>⟨0,qk.eG _ x.1 x.2.1 f.1.1⟩

def E54:=en [(113,acU),(111,N2),(114,N4)] []
def A54:Fn [.S] As:=λa=>[aS a]
def k54:Fn [.S, .I, .I, .S, .B] dB:=λa b c d e=>⟨[aV [.s a, .n b, .n c, .s d],aB e],[]⟩
def al7:=dZ A54 k54 (ct _) rJ.v
theorem avd:ca Tryz.prog T 54 al7:=fh (E:=E54) (aG akd (aG T1 (aG T3 aY))) Tryz.func54 (it:=λ_=>ln) (λ_=>bB) (λ_=>rJ.b) λx f h=>⟨0,rJ.eG _ x.1 f.1.1⟩

def E14:=en [(51,Qg),(52,agF),(53,al6),(54,al7),(55,agG)] [(7,[3,6,8])]
def A14:Fn [.R] As:=λa=>[aV [.sh 94 a]]
def k14:Fn [.R] dB:=λa=>⟨[aO 51 a],[]⟩
def MK:Fn [.I, .R, .R] Tb:=λa b c=>[cA 6 (.own 0),cA 12 (.own 1),cI 16 a,oR 1 51 b,oR 3 9 c]
def aau(N:aF)(K:Kt R):=yF.l7 N (J MK (.exit 0) K)
def ajv(N:aF):It R:=(lp 7 (al MK (λK=>aau N K N) an) ln)
theorem afN(N:aF):b_ E14 (ajv N (R:=R)) (bX Tryz.f14 7):=lq 7 MK (aau N) λK g=>yF.r7 N g (J MK (.exit 0) K)
def ZN:=dZ A14 k14 yF.c yF.v
theorem agd:ca Tryz.prog T 14 ZN:=fq (E:=E14) (aG Ur (aG alq (aG avc (aG avd (aG alr aY))))) Tryz.func14 (it:=λN=>ajv N) (λN=>(bn (afN N) bB)) yF.b yF.vo

def aif:=en [(51,Qg),(52,agF),(114,N4),(112,N3)] [(9,[1,4,5,6,9,10])]
def aps:Fn [.R, .R] As:=λa b=>[aV [.sh 94 a],aH 51 b]
def auk:Fn [.R, .B] dB:=λa b=>⟨[aO 218 a,aB b],[]⟩
def Gs:Fn [.R, .B, .S, .I, .R] Tb:=λa b c d e=>[cH 2 51 a,cA 8 .nl,cA 10 (.b b),cA 12 (.own 0),cA 18 (.s c),cI 20 d,oR 1 218 e]
def Ii:Fn [.R, .B, .S, .I, .R, .R] Tb:=λa b c d e f=>[cH 2 51 a,cA 8 (.own 0),cA 10 (.b b),cA 12 (.own 1),cA 18 (.s c),cI 20 d,oR 1 218 e,oR 3 218 f]
def RK(N:aF)(K:Kt R):=jM.l9 N (J Ii .ret K) (J Gs (.exit 0) K)
def abR(N:aF):It R:=(lp 9 (al Gs (λK=>RK N K N) an) ln)
theorem Y3(N:aF):b_ aif (abR N (R:=R)) (bX Tryz.f243 9):=lq 9 Gs (RK N) λK g=>jM.r9 N g (J Ii .ret K) (J Gs (.exit 0) K)
def adJ:=dZ aps auk jM.c jM.v
theorem ak0:ca Tryz.prog T 243 adJ:=fq (E:=aif) (aG Ur (aG alq (aG T3 (aG T2 aY)))) Tryz.func243 (it:=λN=>abR N) (λN=>(bn (Y3 N) bB)) jM.b jM.vo

def E33:=en [(57,agH),(49,VJ),(13,Qf),(88,agJ)] [(4,[0,1,4,5,6])]
def A33:Fn [.I, .R] As:=λa b=>[aI a,aH 51 b]
def k33:Fn [.I, .R, .R, .R, .R, .I, .R, .R, .I] dB:=λa b c d e f g h i=>⟨[aV [.n a, .ow 51 ai b, .ow 9 ai c, .ow 9 ai d, .ow 26 ai e, .n f, .ow 75 ai g, .ow 72 ai h, .n i]],[]⟩
def MM:Fn [.I, .R, .I, .I, .I, .I, .I, .I, .I, .R, .R, .R, .R, .R, .R] Tb:=λa b c d e f g h i j k l m o p=>[cI 0 a,cH 2 51 b,cP 8 0,cP 10 1,cI 12 c,oB 1 [.n d, .nl, .nl, .nl, .nl, .n e, .nl, .nl, .n f],oB 3 [.n g, .own 2, .own 3, .own 4, .own 5, .n h, .own 6, .own 7, .n i],oR 5 51 j,oR 7 9 k,oR 9 9 l,oR 11 26 m,oR 13 75 o,oR 15 72 p]
def aax(N:aF)(K:Kt R):=z8.l4 N (J MM (.exit 0) K)
def ajy(N:aF):It R:=(lp 4 (al MM (λK=>aax N K N) an) ln)
theorem afQ(N:aF):b_ E33 (ajy N (R:=R)) (bX Tryz.f33 4):=lq 4 MM (aax N) λK g=>z8.r4 N g (J MM (.exit 0) K)
def alZ:=dZ A33 k33 z8.c z8.v
theorem au6:ca Tryz.prog T 33 alZ:=fq (E:=E33) (aG als (aG Zl (aG T4 (aG alv aY)))) Tryz.func33 (it:=λN=>ajy N) (λN=>(bn (afQ N) bB)) z8.b z8.vo

def WR:=Wz T md [(242,adI),(14,ZN),(13,Qf),(243,adJ),(241,VC),(33,alZ)] [(7,[0,6,7,8])] [] [(0,1,.own 51),(0,2,.own 9),(0,3,.own 9),(0,4,.own 26),(0,6,.own 75),(0,7,.own 72),(0,9,.own 94),(0,10,.own 3),(0,11,.own 51)]
def aoP:Fn [.I, .R, .R, .R, .R, .I, .R, .R, .I, .R, .R, .R, .I, .I, .S, .I, .R] As:=λa b c d e f g h i j k l m o p q r=>[.pt [.n a, .ow 51 ai b, .ow 9 ai c, .ow 9 ai d, .ow 26 ai e, .n f, .ow 75 ai g, .ow 72 ai h, .n i, .ow 94 ai j, .ow 3 ai k, .ow 51 ai l],aV [.n m, .n o, .s p, .n q, .sh 3 r]]
def atE:Fn [.I, .R, .R, .R, .R, .I, .R, .R, .I, .R, .R, .R] dB:=λa b c d e f g h i j k l=>⟨[],[[.n a, .ow 51 ai b, .ow 9 ai c, .ow 9 ai d, .ow 26 ai e, .n f, .ow 75 ai g, .ow 72 ai h, .n i, .ow 94 ai j, .ow 3 ai k, .ow 51 ai l]]⟩
def rC:Fn [.I, .I, .I, .I, .R, .R, .R, .R, .R, .R, .R, .R, .R, .R, .R] Tb:=λa b c d e f g h i j k l m o p=>[cP 0 900000900,cA 12 (.own 1),cA 14 (.own 2),cI 16 a,oB 1800001801 [.n b, .own 900000001, .own 900000002, .own 900000003, .own 900000004, .n c, .own 900000006, .own 900000007, .n d, .own 9, .own 900000010, .own 900000011],oR 3 51 e,oR 5 51 f,oR 1800000003 51 g,oR 1800000005 9 h,oR 1800000007 9 i,oR 1800000009 26 j,oR 1800000013 75 k,oR 1800000015 72 l,oR 19 94 m,oR 1800000021 3 o,oR 1800000023 51 p]
def oG:Fn [.I, .I, .I, .I, .R, .R, .R, .R, .R, .R, .R, .R, .R, .R, .R] Tb:=λa b c d e f g h i j k l m o p=>[cP 0 900000900,cA 12 (.own 1),cA 14 (.own 2),cI 16 a,oB 1800001801 [.n b, .own 900000001, .own 900000002, .own 900000003, .own 900000004, .n c, .own 900000006, .own 900000007, .n d, .own 900000009, .own 900000010, .own 900000011],oR 3 51 e,oR 5 51 f,oR 1800000003 51 g,oR 1800000005 9 h,oR 1800000007 9 i,oR 1800000009 26 j,oR 1800000013 75 k,oR 1800000015 72 l,oR 1800000019 94 m,oR 1800000021 3 o,oR 1800000023 51 p]
def Rn(N:aF)(K:Kt R):=wN.l7 N (J rC (.exit 0) K) (J oG (.exit 0) K)
def Mv(N:aF)(K:Kt R):=wN.l7a N (J rC (.exit 0) K) (J oG (.exit 0) K)
def NC(N:aF):It R:=(lp 7 (al rC (λK=>Rn N K N) (al oG (λK=>Mv N K N) an)) ln)
theorem Oq(N:aF)(K:Kt R):Wd WR (NC N) (bX Tryz.f191 7) 7 K oG (Mv N K):=lw (λg=>wN.r7a N (cmp _ rC (g∘fN)) (cmp _ oG (g∘fN)) (J rC (.exit 0) K) (J oG (.exit 0) K)) λm i=>by simp only[dO,wf i];rfl
theorem agQ(N:aF)(K:Kt R):Wd WR (NC N) (bX Tryz.f191 7) 7 K rC (Rn N K):=lw (λg=>wN.r7 N (cmp _ rC (g∘fN)) (cmp _ oG (g∘fN)) (J rC (.exit 0) K) (J oG (.exit 0) K)) λm i=>by simp only[dO,wf i,wf (Oq N K m)];rfl
theorem YG(N:aF):b_ WR (NC N (R:=R)) (bX Tryz.f191 7):=lm 7 (ga rC (agQ N) (ga oG (Oq N) oP))
def adq:=dZ aoP atE wN.c wN.v
theorem akH:ca Tryz.prog T 191 adq:=fq (E:=WR) (aG akZ (aG agd (aG T4 (aG ak0 (aG acy (aG au6 aY)))))) Tryz.func191 (it:=λN=>NC N) (λN=>(bn (YG N) bB)) wN.b wN.vo

def ap6:=Wz T md [(185,adk),(186,adl),(187,adm),(188,adn),(189,ado),(190,adp),(191,adq),(192,Vq)] [] [] [(0,1,.own 51),(0,2,.own 9),(0,3,.own 9),(0,4,.own 26),(0,6,.own 75),(0,7,.own 72),(0,9,.own 94),(0,10,.own 3),(0,11,.own 51)]
def an0:Fn [.I, .R, .R, .R, .R, .I, .R, .R, .I, .R, .R, .R, .I, .I, .S, .I, .R] As:=λa b c d e f g h i j k l m o p q r=>[.pt [.n a, .ow 51 ai b, .ow 9 ai c, .ow 9 ai d, .ow 26 ai e, .n f, .ow 75 ai g, .ow 72 ai h, .n i, .ow 94 ai j, .ow 3 ai k, .ow 51 ai l],aV [.n m, .n o, .s p, .n q, .sh 3 r]]
def asP:Fn [.I, .I, .R, .R, .R, .R, .I, .R, .R, .I, .R, .R, .R] dB:=λa b c d e f g h i j k l m=>⟨[aI a],[[.n b, .ow 51 ai c, .ow 9 ai d, .ow 9 ai e, .ow 26 ai f, .n g, .ow 75 ai h, .ow 72 ai i, .n j, .ow 94 ai k, .ow 3 ai l, .ow 51 ai m]]⟩
def acW:=dZ an0 asP DI.c DI.v
theorem akf:ca Tryz.prog T 116 acW:=fr (E:=ap6) (aG akB (aG akC (aG akD (aG akE (aG akF (aG akG (aG akH (aG ack aY)))))))) Tryz.func116 DI.b DI.vo

def E58:=Wz T md [(116,acW)] [] [] [(0,1,.own 51),(0,2,.own 9),(0,3,.own 9),(0,4,.own 26),(0,6,.own 75),(0,7,.own 72),(0,9,.own 94),(0,10,.own 3),(0,11,.own 51)]
def A58:Fn [.I, .R, .R, .R, .R, .I, .R, .R, .I, .R, .R, .R, .I, .I, .S, .I, .R] As:=λa b c d e f g h i j k l m o p q r=>[.pt [.n a, .ow 51 ai b, .ow 9 ai c, .ow 9 ai d, .ow 26 ai e, .n f, .ow 75 ai g, .ow 72 ai h, .n i, .ow 94 ai j, .ow 3 ai k, .ow 51 ai l],aV [.n m, .n o, .s p, .n q, .sh 3 r]]
def k58:Fn [.I, .R, .R, .R, .R, .I, .R, .R, .I, .R, .R, .R] dB:=λa b c d e f g h i j k l=>⟨[],[[.n a, .ow 51 ai b, .ow 9 ai c, .ow 9 ai d, .ow 26 ai e, .n f, .ow 75 ai g, .ow 72 ai h, .n i, .ow 94 ai j, .ow 3 ai k, .ow 51 ai l]]⟩
def al8:=dZ A58 k58 J5.c J5.v
theorem ave:ca Tryz.prog T 58 al8:=fr (E:=E58) (aG akf aY) Tryz.func58 J5.b J5.vo

def E38:=en [(57,agH),(93,ame),(94,agL),(41,L3),(58,al8)] [(7,[0,5,6,7,8,1000000005009094,1000000005010003,1000000005011051])]
def A38:Fn [.R, .I, .I, .R] As:=λa b c d=>[.pt [.sh 5 a, .n b, .n c],aH 5 d]
def k38:Fn [.R, .R, .I, .I] dB:=λa b c d=>⟨[aO 29 a],[[.sh 5 b, .n c, .n d]]⟩
def MN:Fn [.I, .I, .R, .I, .I, .I, .I, .I, .R, .R, .R, .R, .R, .R, .R, .R, .R, .R] Tb:=λa b c d e f g h i j k l m o p q r s=>[cP 0 900000900,cP 10 1,cA 12 (.own 2),cI 14 a,cI 16 b,oB 1800001801 [.sh 5 c, .n d, .n e],oB 3 [.n f, .own 3, .own 4, .own 5, .own 6, .n g, .own 7, .own 8, .n h, .own 9, .own 10, .own 11],oR 5 29 i,oR 7 51 j,oR 9 9 k,oR 11 9 l,oR 13 26 m,oR 15 75 o,oR 17 72 p,oR 19 94 q,oR 21 3 r,oR 23 51 s]
def aaz(N:aF)(K:Kt R):=Qt.l7 N (J MN (.exit 0) K)
def ajA(N:aF):It R:=(lp 7 (al MN (λK=>aaz N K N) an) ln)
theorem afS(N:aF):b_ E38 (ajA N (R:=R)) (bX Tryz.f38 7):=lq 7 MN (aaz N) λK g=>Qt.r7 N g (J MN (.exit 0) K)
def al1:=dZ A38 k38 Qt.c Qt.v
theorem au8:ca Tryz.prog T 38 al1:=fq (E:=E38) (aG als (aG avl (aG alx (aG PN (aG ave aY))))) Tryz.func38 (it:=λN=>ajA N) (λN=>(bn (afS N) bB)) Qt.b Qt.vo

def E9:=en [(39,agB),(38,al1)] []
def A9:Fn [.R] As:=λa=>[aH 5 a]
def k9:Fn [.R] dB:=λa=>⟨[aO 29 a],[]⟩
def sp9:=dZ A9 k9 U9.c U9.v
theorem ok9:ca Tryz.prog T 9 sp9:=fr (E:=E9) (aG alm (aG au8 aY)) Tryz.func9 U9.b U9.vo

def E10:=en [(39,agB),(40,agC),(41,L3)] [(5,[3,4,5])]
def A10:Fn [.R] As:=λa=>[aH 5 a]
def k10:Fn [.R] dB:=λa=>⟨[aO 3 a],[]⟩
def MJ:Fn [.I, .R, .I, .I, .R] Tb:=λa b c d e=>[cP 6 0,cA 8 (.own 1),cI 10 a,oB 1 [.sh 5 b, .n c, .n d],oR 3 3 e]
def aar(N:aF)(K:Kt R):=MV.l5 N (J MJ (.exit 0) K)
def ajt(N:aF):It R:=(lp 5 (al MJ (λK=>aar N K N) an) ln)
theorem afK(N:aF):b_ E10 (ajt N (R:=R)) (bX Tryz.f10 5):=lq 5 MJ (aar N) λK g=>MV.r5 N g (J MJ (.exit 0) K)
def alT:=dZ A10 k10 MV.c MV.v
theorem auZ:ca Tryz.prog T 10 alT:=fq (E:=E10) (aG alm (aG aln (aG PN aY))) Tryz.func10 (it:=λN=>ajt N) (λN=>(bn (afK N) bB)) MV.b MV.vo

def E82:=en [] []
def A82:Fn [.I, .I, .I] As:=λa b c=>[aI a,aI b,aI c]
def k82:Fn [.B] dB:=λa=>⟨[aB a],[]⟩
def qv:=dZ A82 k82 (ct _) lz.v
theorem qQ:ca Tryz.prog T 82 qv:=ft (E:=E82) aY Tryz.func82 lz.b λ(a0,a1,a2,_)=>lz.eG _ a0 a1 a2

def E31:=en [(82,qv)] []
def A31:Fn [.I, .I, .S, .I, .R] As:=λa b c d e=>[aV [.n a, .n b, .s c, .n d, .sh 3 e]]
def k31:Fn [.B] dB:=λa=>⟨[aB a],[]⟩
def alX:=dZ A31 k31 (ct _) U31.v
theorem au4:ca Tryz.prog T 31 alX:=ft (E:=E31) (aG qQ aY) Tryz.func31 U31.b λ(a0,a1,a2,a3,a4,_)=>U31.eG _ a0 a1 a2 a3 a4

def WN:=en [] [(3,[0,1,3])]
def aok:Fn [] As:=[]
def as_:Fn [.R, .I] dB:=λa b=>⟨[aV [.ow 26 ai a, .n b]],[]⟩
def rA:Fn [.I, .I, .I] Tb:=λa b c=>[cP 0 0,cP 2 1,cI 6 a,oB 1 [.nl, .n b],oB 3 [.nl, .n c]]
def oE:Fn [.I, .I, .I, .R] Tb:=λa b c d=>[cP 0 0,cP 2 1,cI 6 a,oB 1 [.nl, .n b],oB 3 [.own 2, .n c],oR 5 26 d]
def Q9(N:aF)(K:Kt R):=GC.l3 N (J rA (.exit 0) K) (J oE (.exit 0) K)
def Mo(N:aF)(K:Kt R):=GC.sL N (J rA (.exit 0) K) (J oE (.exit 0) K)
def Nz(N:aF):It R:=(lp 3 (al rA (λK=>Q9 N K N) (al oE (λK=>Mo N K N) an)) ln)
theorem On(N:aF)(K:Kt R):Wd WN (Nz N) (bX Tryz.f159 3) 3 K oE (Mo N K):=lw (λg=>GC.zM N (cmp _ rA (g∘fN)) (cmp _ oE (g∘fN)) (J rA (.exit 0) K) (J oE (.exit 0) K)) λm i=>by simp only[dO,wf i];rfl
theorem agO(N:aF)(K:Kt R):Wd WN (Nz N) (bX Tryz.f159 3) 3 K rA (Q9 N K):=lw (λg=>GC.r3 N (cmp _ rA (g∘fN)) (cmp _ oE (g∘fN)) (J rA (.exit 0) K) (J oE (.exit 0) K)) λm i=>by simp only[dO,wf i,wf (On N K m)];rfl
theorem Ys(N:aF):b_ WN (Nz N (R:=R)) (bX Tryz.f159 3):=lm 3 (ga rA (agO N) (ga oE (On N) oP))
def ac2:=dZ aok as_ GC.c GC.v
theorem akl:ca Tryz.prog T 159 ac2:=fq (E:=WN) aY Tryz.func159 (it:=λN=>Nz N) (λN=>(bn (Ys N) bB)) GC.b GC.vo

def E95:=en [(159,ac2)] []
def A95:Fn [] As:=[]
def k95:Fn [.R, .R, .R, .I] dB:=λa b c d=>⟨[aV [.ow 9 ai a, .ow 9 ai b, .ow 26 ai c, .n d]],[]⟩
def amf:=dZ A95 k95 (ct _) U95.v
theorem avm:ca Tryz.prog T 95 amf:=ft (E:=E95) (aG akl aY) Tryz.func95 U95.b λ_=>U95.eG _

def E42:=en [(95,amf)] []
def A42:Fn [] As:=[]
def k42:Fn [.I, .R, .R, .R, .R, .I, .R, .R, .I] dB:=λa b c d e f g h i=>⟨[aV [.n a, .ow 51 ai b, .ow 9 ai c, .ow 9 ai d, .ow 26 ai e, .n f, .ow 75 ai g, .ow 72 ai h, .n i]],[]⟩
def agD:=dZ A42 k42 (ct _) U42.v
theorem alo:ca Tryz.prog T 42 agD:=ft (E:=E42) (aG avm aY) Tryz.func42 U42.b λ_=>U42.eG _

def aqJ:=en [] []
def ao3:Fn [.R] As:=λa=>[aH 51 a]
def atT:Fn [.R] dB:=λa=>⟨[aO 51 a],[]⟩
def Vv:=dZ ao3 atT wP.c wP.v
theorem acq:ca Tryz.prog T 216 Vv:=fr (E:=aqJ) aY Tryz.func216 wP.b wP.vo

def aqY:=en [] []
def apy:Fn [.R] As:=λa=>[aH 9 a]
def auq:Fn [.R] dB:=λa=>⟨[aO 9 a],[]⟩
def VE:=dZ apy auq tf.c tf.v
theorem acA:ca Tryz.prog T 255 VE:=fr (E:=aqY) aY Tryz.func255 tf.b tf.vo

def aq1:=en [] []
def apC:Fn [.R] As:=λa=>[aH 3 a]
def auu:Fn [.R] dB:=λa=>⟨[aO 3 a],[]⟩
def adO:=dZ apC auu vW.c vW.v
theorem ak5:ca Tryz.prog T 261 adO:=fr (E:=aq1) aY Tryz.func261 vW.b vW.vo

def WT:=en [(261,adO)] [(3,[2,3,10,11,12])]
def ao9:Fn [.R, .I] As:=λa b=>[aV [.sh 26 a, .n b]]
def atZ:Fn [.R, .I] dB:=λa b=>⟨[aV [.ow 26 ai a, .n b]],[]⟩
def rD:Fn [.R, .I, .I, .I, .I] Tb:=λa b c d e=>[cP 4 0,cP 6 1,cH 20 26 a,cI 22 b,cI 24 c,oB 1 [.nl, .n d],oB 3 [.nl, .n e]]
def oH:Fn [.R, .I, .I, .I, .I, .R] Tb:=λa b c d e f=>[cP 4 0,cP 6 1,cH 20 26 a,cI 22 b,cI 24 c,oB 1 [.nl, .n d],oB 3 [.own 2, .n e],oR 5 26 f]
def Ry(N:aF)(K:Kt R):=jm.l3 N (J rD (.exit 0) K) (J oH (.exit 0) K)
def Mz(N:aF)(K:Kt R):=jm.sL N (J rD (.exit 0) K) (J oH (.exit 0) K)
def NF(N:aF):It R:=(lp 3 (al rD (λK=>Ry N K N) (al oH (λK=>Mz N K N) an)) ln)
theorem Ot(N:aF)(K:Kt R):Wd WT (NF N) (bX Tryz.f224 3) 3 K oH (Mz N K):=lw (λg=>jm.zM N (cmp _ rD (g∘fN)) (cmp _ oH (g∘fN)) (J rD (.exit 0) K) (J oH (.exit 0) K)) λm i=>by simp only[dO,wf i];rfl
theorem agR(N:aF)(K:Kt R):Wd WT (NF N) (bX Tryz.f224 3) 3 K rD (Ry N K):=lw (λg=>jm.r3 N (cmp _ rD (g∘fN)) (cmp _ oH (g∘fN)) (J rD (.exit 0) K) (J oH (.exit 0) K)) λm i=>by simp only[dO,wf i,wf (Ot N K m)];rfl
theorem YR(N:aF):b_ WT (NF N (R:=R)) (bX Tryz.f224 3):=lm 3 (ga rD (agR N) (ga oH (Ot N) oP))
def Vz:=dZ ao9 atZ jm.c jm.v
theorem acv:ca Tryz.prog T 224 Vz:=fq (E:=WT) (aG ak5 aY) Tryz.func224 (it:=λN=>NF N) (λN=>(bn (YR N) bB)) jm.b jm.vo

def aqH:=en [(255,VE),(224,Vz)] []
def aoZ:Fn [.R, .R, .R, .I] As:=λa b c d=>[aV [.sh 9 a, .sh 9 b, .sh 26 c, .n d]]
def atO:Fn [.R, .R, .R, .I] dB:=λa b c d=>⟨[aV [.ow 9 ai a, .ow 9 ai b, .ow 26 ai c, .n d]],[]⟩
def Oc:=dZ aoZ atO ju.c ju.v
theorem Uh:ca Tryz.prog T 212 Oc:=fr (E:=aqH) (aG acA (aG acv aY)) Tryz.func212 ju.b ju.vo

def aqk:=en [(216,Vv),(212,Oc)] []
def aol:Fn [.I, .R, .R, .R, .R, .I, .R, .R, .I] As:=λa b c d e f g h i=>[aV [.n a, .sh 51 b, .sh 9 c, .sh 9 d, .sh 26 e, .n f, .sh 75 g, .sh 72 h, .n i]]
def ata:Fn [.I, .R, .R, .R, .R, .I, .R, .R, .I] dB:=λa b c d e f g h i=>⟨[aV [.n a, .ow 51 ai b, .ow 9 ai c, .ow 9 ai d, .ow 26 ai e, .n f, .ow 75 ai g, .ow 72 ai h, .n i]],[]⟩
def Dd:=dZ aol ata iP.c iP.v
theorem Fh:ca Tryz.prog T 160 Dd:=fr (E:=aqk) (aG acq (aG Uh aY)) Tryz.func160 iP.b iP.vo

def aqd:=en [(82,qv)] []
def aob:Fn [.S] As:=λa=>[aS a]
def as1:Fn [.B] dB:=λa=>⟨[aB a],[]⟩
def Dc:=dZ aob as1 (ct _) zq.v
theorem Fg:ca Tryz.prog T 148 Dc:=ft (E:=aqd) (aG qQ aY) Tryz.func148 zq.b λ(a0,_)=>zq.eG _ a0

def E86:=en [(82,qv)] []
def A86:Fn [.I] As:=λa=>[aI a]
def k86:Fn [.B] dB:=λa=>⟨[aB a],[]⟩
def ZQ:=dZ A86 k86 (ct _) R6.v
theorem agi:ca Tryz.prog T 86 ZQ:=ft (E:=E86) (aG qQ aY) Tryz.func86 R6.b λ(a0,_)=>R6.eG _ a0

def ap_:=en [(148,Dc),(86,ZQ),(82,qv)] []
def an7:Fn [.S, .I, .I, .S] As:=λa b c d=>[aV [.s a, .n b, .n c, .s d]]
def asW:Fn [.B] dB:=λa=>⟨[aB a],[]⟩
def JU:=dZ an7 asW (ct _) wJ.v
theorem NT:ca Tryz.prog T 125 JU:=ft (E:=ap_) (aG Fg (aG agi (aG qQ aY))) Tryz.func125 wJ.b λ(a0,a1,a2,a3,_)=>wJ.eG _ a0 a1 a2 a3

def aqX:=en [] []
def apx:Fn [.I] As:=λa=>[.v ak [.nl],aI a]
def aup:Fn [.R] dB:=λa=>⟨[aO 9 a],[]⟩
def adM:=dZ apx aup DR.c DR.v
theorem ak3:ca Tryz.prog T 254 adM:=fr (E:=aqX) aY Tryz.func254 DR.b DR.vo

def aef:=en [(254,adM)] [(3,[0,3,9,10,11]),(11,[6,25,26,27])]
def aoY:Fn [.R] As:=λa=>[aH 31 a]
def atN:Fn [.R] dB:=λa=>⟨[aO 9 a],[]⟩
def Ge:Fn [.R, .I, .R, .I, .I] Tb:=λa b c d e=>[cH 0 31 a,cI 6 b,cH 18 31 c,cI 20 d,cI 22 e]
def Bc:Fn [.R, .I, .I, .R] Tb:=λa b c d=>[cA 12 (.own 0),cH 50 31 a,cI 52 b,cI 54 c,oR 1 9 d]
def Rr(N:aF)(K:Kt R):=wO.l3 N (J Ge (.exit 0) K)
def Mw(N:aF)(K:Kt R):=wO.PD N (J Bc (.exit 2) K)
def Tk(N:aF):It R:=(lp 3 (al Ge (λK=>Rr N K N) an) (lp 11 (al Bc (λK=>Mw N K N) an) ln))
theorem YK(N:aF):b_ aef (Tk N (R:=R)) (bX Tryz.f211 3):=lq 3 Ge (Rr N) λK g=>wO.r3 N g (J Ge (.exit 0) K)
theorem TN(N:aF):b_ aef (Tk N (R:=R)) (bX Tryz.f211 11):=lq 11 Bc (Mw N) λK g=>wO.Ap N g (J Bc (.exit 2) K)
def adt:=dZ aoY atN wO.c wO.v
theorem akK:ca Tryz.prog T 211 adt:=fq (E:=aef) (aG ak3 aY) Tryz.func211 (it:=λN=>Tk N) (λN=>(bn (YK N) (bn (TN N) bB))) wO.b wO.vo

def aqc:=en [(211,adt)] []
def aoa:Fn [.R, .R, .R, .I] As:=λa b c d=>[aV [.sh 9 a, .sh 9 b, .sh 26 c, .n d]]
def as0:Fn [.R] dB:=λa=>⟨[aO 9 a],[]⟩
def N6:=dZ aoa as0 qE.c qE.v
theorem T6:ca Tryz.prog T 147 N6:=fr (E:=aqc) (aG akK aY) Tryz.func147 qE.b qE.vo

def aih:=en [] [(2,[0,1,4,7,8])]
def apw:Fn [.R, .S] As:=λa b=>[aH 9 a,aS b]
def auo:Fn [.I] dB:=λa=>⟨[aI a],[]⟩
def zm:Fn [.R, .S, .I, .I, .I] Tb:=λa b c d e=>[cH 0 9 a,cA 2 (.s b),cI 8 c,cI 14 d,cI 16 e]
def RN(N:aF)(K:Kt R):=AR.l2 N (J zm .ret K) (J zm (.exit 0) K)
def abS(N:aF):It R:=(lp 2 (al zm (λK=>RN N K N) an) ln)
theorem Y5(N:aF):b_ aih (abS N (R:=R)) (bX Tryz.f253 2):=lq 2 zm (RN N) λK g=>AR.r2 N g (J zm .ret K) (J zm (.exit 0) K)
def adL:=dZ apw auo AR.c AR.v
theorem ak2:ca Tryz.prog T 253 adL:=fq (E:=aih) aY Tryz.func253 (it:=λN=>abS N) (λN=>(bn (Y5 N) bB)) AR.b AR.vo

def aqG:=en [(253,adL)] []
def aoW:Fn [.R, .S] As:=λa b=>[aH 9 a,aS b]
def atL:Fn [.B] dB:=λa=>⟨[aB a],[]⟩
def Oa:=dZ aoW atL sH.c sH.v
theorem Uf:ca Tryz.prog T 209 Oa:=fr (E:=aqG) (aG ak2 aY) Tryz.func209 sH.b sH.vo

def aqb:=en [(147,N6),(209,Oa)] []
def an9:Fn [.R, .R, .R, .I, .S] As:=λa b c d e=>[aV [.sh 9 a, .sh 9 b, .sh 26 c, .n d],aS e]
def asY:Fn [.B] dB:=λa=>⟨[aB a],[]⟩
def N5:=dZ an9 asY sG.c sG.v
theorem T5:ca Tryz.prog T 145 N5:=fr (E:=aqb) (aG T6 (aG Uf aY)) Tryz.func145 sG.b sG.vo

def aee:=en [(82,qv)] [(2,[1,2,8,9,10]),(5,[1,2,4,8,9,10,14,15,16])]
def aoX:Fn [.R, .I] As:=λa b=>[aV [.sh 26 a, .n b]]
def atM:Fn [.B] dB:=λa=>⟨[aB a],[]⟩
def zf:Fn [.B, .R, .I, .I, .R, .I] Tb:=λa b c d e f=>[cP 2 0,cA 4 (.b a),cH 16 26 b,cI 18 c,cI 20 d,oB 1 [.sh 26 e, .n f]]
def zg:Fn [.B, .R, .R, .I, .I, .R, .I, .I, .R, .I] Tb:=λa b c d e f g h i j=>[cP 2 0,cA 4 (.b a),cH 8 3 b,cH 16 26 c,cI 18 d,cI 20 e,cH 28 3 f,cI 30 g,cI 32 h,oB 1 [.sh 26 i, .n j]]
def Rp(N:aF)(K:Kt R):=pN.l2 N (J zf .ret K) (J zf (.exit 0) K)
def Rq(N:aF)(K:Kt R):=pN.l5 N (J zg .ret K) (J zg (.exit 2) K)
def Tj(N:aF):It R:=(lp 2 (al zf (λK=>Rp N K N) an) (lp 5 (al zg (λK=>Rq N K N) an) ln))
theorem YI(N:aF):b_ aee (Tj N (R:=R)) (bX Tryz.f210 2):=lq 2 zf (Rp N) λK g=>pN.r2 N g (J zf .ret K) (J zf (.exit 0) K)
theorem YJ(N:aF):b_ aee (Tj N (R:=R)) (bX Tryz.f210 5):=lq 5 zg (Rq N) λK g=>pN.r5 N g (J zg .ret K) (J zg (.exit 2) K)
def Ob:=dZ aoX atM pN.c pN.v
theorem Ug:ca Tryz.prog T 210 Ob:=fq (E:=aee) (aG qQ aY) Tryz.func210 (it:=λN=>Tj N) (λN=>(bn (YI N) (bn (YJ N) bB))) pN.b pN.vo

def ahT:=en [(147,N6),(148,Dc),(209,Oa),(210,Ob)] [(3,[1,2,3,8,9,10])]
def an_:Fn [.R, .R, .R, .I] As:=λa b c d=>[aV [.sh 9 a, .sh 9 b, .sh 26 c, .n d]]
def asZ:Fn [.B] dB:=λa=>⟨[aB a],[]⟩
def za:Fn [.B, .I, .I, .R, .R, .R, .I, .R] Tb:=λa b c d e f g h=>[cP 2 0,cA 4 (.b a),cA 6 (.own 1),cA 16 (.own 1),cI 18 b,cI 20 c,oB 1 [.sh 9 d, .sh 9 e, .sh 26 f, .n g],oR 3 9 h]
def Q6(N:aF)(K:Kt R):=o_.l3 N (J za .ret K) (J za (.exit 0) K)
def abu(N:aF):It R:=(lp 3 (al za (λK=>Q6 N K N) an) ln)
theorem Yp(N:aF):b_ ahT (abu N (R:=R)) (bX Tryz.f146 3):=lq 3 za (Q6 N) λK g=>o_.r3 N g (J za .ret K) (J za (.exit 0) K)
def Vf:=dZ an_ asZ o_.c o_.v
theorem ab9:ca Tryz.prog T 146 Vf:=fq (E:=ahT) (aG T6 (aG Fg (aG Uf (aG Ug aY)))) Tryz.func146 (it:=λN=>abu N) (λN=>(bn (Yp N) bB)) o_.b o_.vo

def E83:=en [(125,JU),(145,N5),(146,Vf),(147,N6)] [(2,[1,2,6,7,8])]
def A83:Fn [.I, .R, .R, .R, .R, .I, .R, .R, .I] As:=λa b c d e f g h i=>[aV [.n a, .sh 51 b, .sh 9 c, .sh 9 d, .sh 26 e, .n f, .sh 75 g, .sh 72 h, .n i]]
def k83:Fn [.B] dB:=λa=>⟨[aB a],[]⟩
def EI:Fn [.B, .R, .I, .I, .I, .R, .R, .R, .R, .I, .R, .R, .I] Tb:=λa b c d e f g h i j k l m=>[cP 2 0,cA 4 (.b a),cH 12 51 b,cI 14 c,cI 16 d,oB 1 [.n e, .sh 51 f, .sh 9 g, .sh 9 h, .sh 26 i, .n j, .sh 75 k, .sh 72 l, .n m]]
def aaO(N:aF)(K:Kt R):=Qv.l2 N (J EI .ret K) (J EI (.exit 0) K)
def ajI(N:aF):It R:=(lp 2 (al EI (λK=>aaO N K N) an) ln)
theorem af7(N:aF):b_ E83 (ajI N (R:=R)) (bX Tryz.f83 2):=lq 2 EI (aaO N) λK g=>Qv.r2 N g (J EI .ret K) (J EI (.exit 0) K)
def ama:=dZ A83 k83 Qv.c Qv.v
theorem avh:ca Tryz.prog T 83 ama:=fq (E:=E83) (aG NT (aG T5 (aG ab9 (aG T6 aY)))) Tryz.func83 (it:=λN=>ajI N) (λN=>(bn (af7 N) bB)) Qv.b Qv.vo

def aqi:=en [] []
def aoi:Fn [.S, .S, .I, .I, .I, .S] As:=λa b c d e f=>[aV [.s a, .s b, .n c, .n d, .n e], .fb [.s f]]
def as8:Fn [.B] dB:=λa=>⟨[aB a],[]⟩
def ac0:=dZ aoi as8 (ct _) Ia.v
theorem akj:ca Tryz.prog T 157 ac0:=ft (E:=aqi) aY Tryz.func157 Ia.b λ(a0,a1,a2,a3,a4,a5,_)=>Ia.eG _ a0 a1 a2 a3 a4 a5

def ahV:=en [(157,ac0)] [(2,[0,1,4,7,8])]
def aoh:Fn [.R, .S] As:=λa b=>[aH 75 a, .v ak [.fn 157 [[.s b]]]]
def as7:Fn [.I] dB:=λa=>⟨[aI a],[]⟩
def zb:Fn [.R, .S, .I, .I, .I] Tb:=λa b c d e=>[cH 0 75 a,cA 2 (.fn 157 [[.s b]]),cI 8 c,cI 14 d,cI 16 e]
def Q8(N:aF)(K:Kt R):=qF.l2 N (J zb .ret K) (J zb (.exit 0) K)
def abw(N:aF):It R:=(lp 2 (al zb (λK=>Q8 N K N) an) ln)
theorem Yr(N:aF):b_ ahV (abw N (R:=R)) (bX Tryz.f156 2):=lq 2 zb (Q8 N) λK g=>qF.r2 N g (J zb .ret K) (J zb (.exit 0) K)
def acZ:=dZ aoh as7 qF.c qF.v
theorem aki:ca Tryz.prog T 156 acZ:=fq (E:=ahV) (aG akj aY) Tryz.func156 (it:=λN=>abw N) (λN=>(bn (Yr N) bB)) qF.b qF.vo

def E92:=en [(156,acZ)] []
def A92:Fn [.I, .R, .R, .R, .R, .I, .R, .R, .I, .S] As:=λa b c d e f g h i j=>[aV [.n a, .sh 51 b, .sh 9 c, .sh 9 d, .sh 26 e, .n f, .sh 75 g, .sh 72 h, .n i],aS j]
def k92:Fn [.I] dB:=λa=>⟨[aI a],[]⟩
def agK:=dZ A92 k92 Ky.c Ky.v
theorem alw:ca Tryz.prog T 92 agK:=fr (E:=E92) (aG aki aY) Tryz.func92 Ky.b Ky.vo

def E35:=en [(92,agK)] [(2,[1,2,6,7,8])]
def A35:Fn [.I, .R, .R, .R, .R, .I, .R, .R, .I] As:=λa b c d e f g h i=>[aV [.n a, .sh 51 b, .sh 9 c, .sh 9 d, .sh 26 e, .n f, .sh 75 g, .sh 72 h, .n i]]
def k35:Fn [.B] dB:=λa=>⟨[aB a],[]⟩
def Ez:Fn [.B, .R, .I, .I, .I, .R, .R, .R, .R, .I, .R, .R, .I] Tb:=λa b c d e f g h i j k l m=>[cP 2 0,cA 4 (.b a),cH 12 75 b,cI 14 c,cI 16 d,oB 1 [.n e, .sh 51 f, .sh 9 g, .sh 9 h, .sh 26 i, .n j, .sh 75 k, .sh 72 l, .n m]]
def aay(N:aF)(K:Kt R):=MY.l2 N (J Ez .ret K) (J Ez (.exit 0) K)
def ajz(N:aF):It R:=(lp 2 (al Ez (λK=>aay N K N) an) ln)
theorem afR(N:aF):b_ E35 (ajz N (R:=R)) (bX Tryz.f35 2):=lq 2 Ez (aay N) λK g=>MY.r2 N g (J Ez .ret K) (J Ez (.exit 0) K)
def al0:=dZ A35 k35 MY.c MY.v
theorem au7:ca Tryz.prog T 35 al0:=fq (E:=E35) (aG alw aY) Tryz.func35 (it:=λN=>ajz N) (λN=>(bn (afR N) bB)) MY.b MY.vo

def E84:=en [(148,Dc),(82,qv),(35,al0)] [(2,[1,2,6,7,8])]
def A84:Fn [.I, .R, .R, .R, .R, .I, .R, .R, .I] As:=λa b c d e f g h i=>[aV [.n a, .sh 51 b, .sh 9 c, .sh 9 d, .sh 26 e, .n f, .sh 75 g, .sh 72 h, .n i]]
def k84:Fn [.B] dB:=λa=>⟨[aB a],[]⟩
def EJ:Fn [.B, .R, .I, .I, .I, .R, .R, .R, .R, .I, .R, .R, .I] Tb:=λa b c d e f g h i j k l m=>[cP 2 0,cA 4 (.b a),cH 12 75 b,cI 14 c,cI 16 d,oB 1 [.n e, .sh 51 f, .sh 9 g, .sh 9 h, .sh 26 i, .n j, .sh 75 k, .sh 72 l, .n m]]
def aaP(N:aF)(K:Kt R):=OP.l2 N (J EJ .ret K) (J EJ (.exit 0) K)
def ajJ(N:aF):It R:=(lp 2 (al EJ (λK=>aaP N K N) an) ln)
theorem af8(N:aF):b_ E84 (ajJ N (R:=R)) (bX Tryz.f84 2):=lq 2 EJ (aaP N) λK g=>OP.r2 N g (J EJ .ret K) (J EJ (.exit 0) K)
def amb:=dZ A84 k84 OP.c OP.v
theorem avi:ca Tryz.prog T 84 amb:=fq (E:=E84) (aG Fg (aG qQ (aG au7 aY))) Tryz.func84 (it:=λN=>ajJ N) (λN=>(bn (af8 N) bB)) OP.b OP.vo

def E85:=en [(82,qv),(148,Dc)] [(2,[1,2,6,7,8])]
def A85:Fn [.I, .R, .R, .R, .R, .I, .R, .R, .I] As:=λa b c d e f g h i=>[aV [.n a, .sh 51 b, .sh 9 c, .sh 9 d, .sh 26 e, .n f, .sh 75 g, .sh 72 h, .n i]]
def k85:Fn [.B] dB:=λa=>⟨[aB a],[]⟩
def EK:Fn [.B, .R, .I, .I, .I, .R, .R, .R, .R, .I, .R, .R, .I] Tb:=λa b c d e f g h i j k l m=>[cP 2 0,cA 4 (.b a),cH 12 72 b,cI 14 c,cI 16 d,oB 1 [.n e, .sh 51 f, .sh 9 g, .sh 9 h, .sh 26 i, .n j, .sh 75 k, .sh 72 l, .n m]]
def aaQ(N:aF)(K:Kt R):=Qw.l2 N (J EK .ret K) (J EK (.exit 0) K)
def ajK(N:aF):It R:=(lp 2 (al EK (λK=>aaQ N K N) an) ln)
theorem af9(N:aF):b_ E85 (ajK N (R:=R)) (bX Tryz.f85 2):=lq 2 EK (aaQ N) λK g=>Qw.r2 N g (J EK .ret K) (J EK (.exit 0) K)
def amc:=dZ A85 k85 Qw.c Qw.v
theorem avj:ca Tryz.prog T 85 amc:=fq (E:=E85) (aG qQ (aG Fg aY)) Tryz.func85 (it:=λN=>ajK N) (λN=>(bn (af9 N) bB)) Qw.b Qw.vo

def E30:=en [(82,qv),(83,ama),(84,amb),(85,amc),(86,ZQ)] []
def A30:Fn [.I, .R, .R, .R, .R, .I, .R, .R, .I] As:=λa b c d e f g h i=>[aV [.n a, .sh 51 b, .sh 9 c, .sh 9 d, .sh 26 e, .n f, .sh 75 g, .sh 72 h, .n i]]
def k30:Fn [.B] dB:=λa=>⟨[aB a],[]⟩
def agA:=dZ A30 k30 OO.c OO.v
theorem alk:ca Tryz.prog T 30 agA:=fr (E:=E30) (aG qQ (aG avh (aG avi (aG avj (aG agi aY))))) Tryz.func30 OO.b OO.vo

def aqs:=en [] []
def aoy:Fn [.I, .S, .I, .I, .I, .S, .I, .I] As:=λa b c d e f g h=>[aV [.n a, .s b, .n c, .n d, .n e, .s f, .n g], .fb [.n h]]
def atn:Fn [.B] dB:=λa=>⟨[aB a],[]⟩
def ada:=dZ aoy atn (ct _) Kr.v
theorem aku:ca Tryz.prog T 174 ada:=ft (E:=aqs) aY Tryz.func174 Kr.b λ(a0,a1,a2,a3,a4,a5,a6,a7,_)=>Kr.eG _ a0 a1 a2 a3 a4 a5 a6 a7

def aaj:=en [(174,ada)] [(2,[0,1,4,7,8])]
def ahE:Fn [.R, .I] As:=λa b=>[aH 72 a, .v ak [.fn 174 [[.n b]]]]
def ajP:Fn [.I] dB:=λa=>⟨[aI a],[]⟩
def um:Fn [.R, .I, .I, .I, .I] Tb:=λa b c d e=>[cH 0 72 a,cA 2 (.fn 174 [[.n b]]),cI 8 c,cI 14 d,cI 16 e]
def Mr(N:aF)(K:Kt R):=qG.l2 N (J um .ret K) (J um (.exit 0) K)
def Tg(N:aF):It R:=(lp 2 (al um (λK=>Mr N K N) an) ln)
theorem TK(N:aF):b_ aaj (Tg N (R:=R)) (bX Tryz.f173 2):=lq 2 um (Mr N) λK g=>qG.r2 N g (J um .ret K) (J um (.exit 0) K)
def LX:=dZ ahE ajP qG.c qG.v
theorem Ub:ca Tryz.prog T 173 LX:=fq (E:=aaj) (aG aku aY) Tryz.func173 (it:=λN=>Tg N) (λN=>(bn (TK N) bB)) qG.b qG.vo

def aqt:=en [] []
def aoA:Fn [.I, .S, .I, .I, .I, .S, .I, .I] As:=λa b c d e f g h=>[aV [.n a, .s b, .n c, .n d, .n e, .s f, .n g], .fb [.n h]]
def atp:Fn [.B] dB:=λa=>⟨[aB a],[]⟩
def Vn:=dZ aoA atp (ct _) AM.v
theorem ach:ca Tryz.prog T 176 Vn:=ft (E:=aqt) aY Tryz.func176 AM.b λ(a0,a1,a2,a3,a4,a5,a6,a7,_)=>AM.eG _ a0 a1 a2 a3 a4 a5 a6 a7

def aak:=en [(176,Vn)] [(2,[0,1,4,7,8])]
def ahF:Fn [.R, .I] As:=λa b=>[aH 72 a, .v ak [.fn 176 [[.n b]]]]
def ajQ:Fn [.I] dB:=λa=>⟨[aI a],[]⟩
def uo:Fn [.R, .I, .I, .I, .I] Tb:=λa b c d e=>[cH 0 72 a,cA 2 (.fn 176 [[.n b]]),cI 8 c,cI 14 d,cI 16 e]
def Ms(N:aF)(K:Kt R):=nr.l2 N (J uo .ret K) (J uo (.exit 0) K)
def Th(N:aF):It R:=(lp 2 (al uo (λK=>Ms N K N) an) ln)
theorem TL(N:aF):b_ aak (Th N (R:=R)) (bX Tryz.f173 2):=lq 2 uo (Ms N) λK g=>nr.r2 N g (J uo .ret K) (J uo (.exit 0) K)
def LY:=dZ ahF ajQ nr.c nr.v
theorem Uc:ca Tryz.prog T 173 LY:=fq (E:=aak) (aG ach aY) Tryz.func173 (it:=λN=>Th N) (λN=>(bn (TL N) bB)) nr.b nr.vo

def apW:=en [(173,LX),(173,LY)] []
def anL:Fn [.I, .R, .R, .R, .R, .I, .R, .R, .I, .I] As:=λa b c d e f g h i j=>[aV [.n a, .sh 51 b, .sh 9 c, .sh 9 d, .sh 26 e, .n f, .sh 75 g, .sh 72 h, .n i],aI j]
def asz:Fn [.I] dB:=λa=>⟨[aI a],[]⟩
def U_:=dZ anL asz zp.c zp.v
theorem ab3:ca Tryz.prog T 101 U_:=fr (E:=apW) (aG Ub (aG Uc aY)) Tryz.func101 zp.b zp.vo

def aql:=en [] []
def aom:Fn [.S, .I, .I, .S, .S] As:=λa b c d e=>[aV [.s a, .n b, .n c, .s d], .fb [.s e]]
def atb:Fn [.B] dB:=λa=>⟨[aB a],[]⟩
def ac3:=dZ aom atb (ct _) Kq.v
theorem akm:ca Tryz.prog T 161 ac3:=ft (E:=aql) aY Tryz.func161 Kq.b λ(a0,a1,a2,a3,a4,_)=>Kq.eG _ a0 a1 a2 a3 a4

def aag:=en [(161,ac3)] [(2,[0,1,4,7,8])]
def ahB:Fn [.R, .S] As:=λa b=>[aH 51 a, .v ak [.fn 161 [[.s b]]]]
def ajM:Fn [.I] dB:=λa=>⟨[aI a],[]⟩
def ui:Fn [.R, .S, .I, .I, .I] Tb:=λa b c d e=>[cH 0 51 a,cA 2 (.fn 161 [[.s b]]),cI 8 c,cI 14 d,cI 16 e]
def Ml(N:aF)(K:Kt R):=pU.l2 N (J ui .ret K) (J ui (.exit 0) K)
def Td(N:aF):It R:=(lp 2 (al ui (λK=>Ml N K N) an) ln)
theorem TE(N:aF):b_ aag (Td N (R:=R)) (bX Tryz.f155 2):=lq 2 ui (Ml N) λK g=>pU.r2 N g (J ui .ret K) (J ui (.exit 0) K)
def LU:=dZ ahB ajM pU.c pU.v
theorem T8:ca Tryz.prog T 155 LU:=fq (E:=aag) (aG akm aY) Tryz.func155 (it:=λN=>Td N) (λN=>(bn (TE N) bB)) pU.b pU.vo

def aqK:=en [] []
def ao4:Fn [.S, .I, .I, .S, .S] As:=λa b c d e=>[aV [.s a, .n b, .n c, .s d], .fb [.s e]]
def atU:Fn [.B] dB:=λa=>⟨[aB a],[]⟩
def Vw:=dZ ao4 atU (ct _) AQ.v
theorem acr:ca Tryz.prog T 217 Vw:=ft (E:=aqK) aY Tryz.func217 AQ.b λ(a0,a1,a2,a3,a4,_)=>AQ.eG _ a0 a1 a2 a3 a4

def aah:=en [(217,Vw)] [(2,[0,1,4,7,8])]
def ahC:Fn [.R, .S] As:=λa b=>[aH 51 a, .v ak [.fn 217 [[.s b]]]]
def ajN:Fn [.I] dB:=λa=>⟨[aI a],[]⟩
def uj:Fn [.R, .S, .I, .I, .I] Tb:=λa b c d e=>[cH 0 51 a,cA 2 (.fn 217 [[.s b]]),cI 8 c,cI 14 d,cI 16 e]
def Mm(N:aF)(K:Kt R):=nq.l2 N (J uj .ret K) (J uj (.exit 0) K)
def Te(N:aF):It R:=(lp 2 (al uj (λK=>Mm N K N) an) ln)
theorem TF(N:aF):b_ aah (Te N (R:=R)) (bX Tryz.f155 2):=lq 2 uj (Mm N) λK g=>nq.r2 N g (J uj .ret K) (J uj (.exit 0) K)
def LV:=dZ ahC ajN nq.c nq.v
theorem T9:ca Tryz.prog T 155 LV:=fq (E:=aah) (aG acr aY) Tryz.func155 (it:=λN=>Te N) (λN=>(bn (TF N) bB)) nq.b nq.vo

def E89:=en [] []
def A89:Fn [.S, .I, .I, .S, .I, .S, .I, .I, .I, .S, .I] As:=λa b c d e f g h i j k=>[aV [.s a, .n b, .n c, .s d], .fb [.n e, .s f, .n g, .n h, .n i, .s j, .n k]]
def k89:Fn [.B] dB:=λa=>⟨[aB a],[]⟩
def amd:=dZ A89 k89 (ct _) U89.v
theorem avk:ca Tryz.prog T 89 amd:=ft (E:=E89) aY Tryz.func89 U89.b λ(a0,a1,a2,a3,a4,a5,a6,a7,a8,a9,a10,_)=>U89.eG _ a0 a1 a2 a3 a4 a5 a6 a7 a8 a9 a10

def aai:=en [(89,amd)] [(2,[0,1,4,7,8])]
def ahD:Fn [.R, .I, .S, .I, .I, .I, .S, .I] As:=λa b c d e f g h=>[aH 51 a, .v ak [.fn 89 [[.n b, .s c, .n d, .n e, .n f, .s g, .n h]]]]
def ajO:Fn [.I] dB:=λa=>⟨[aI a],[]⟩
def uk:Fn [.R, .I, .S, .I, .I, .I, .S, .I, .I, .I, .I] Tb:=λa b c d e f g h i j k=>[cH 0 51 a,cA 2 (.fn 89 [[.n b, .s c, .n d, .n e, .n f, .s g, .n h]]),cI 8 i,cI 14 j,cI 16 k]
def Mn(N:aF)(K:Kt R):=BW.l2 N (J uk .ret K) (J uk (.exit 0) K)
def Tf(N:aF):It R:=(lp 2 (al uk (λK=>Mn N K N) an) ln)
theorem TG(N:aF):b_ aai (Tf N (R:=R)) (bX Tryz.f155 2):=lq 2 uk (Mn N) λK g=>BW.r2 N g (J uk .ret K) (J uk (.exit 0) K)
def LW:=dZ ahD ajO BW.c BW.v
theorem T_:ca Tryz.prog T 155 LW:=fq (E:=aai) (aG avk aY) Tryz.func155 (it:=λN=>Tf N) (λN=>(bn (TG N) bB)) BW.b BW.vo

def E62:=en [(125,JU),(86,ZQ),(82,qv)] []
def A62:Fn [.S, .I, .I, .S, .I] As:=λa b c d e=>[aV [.s a, .n b, .n c, .s d],aI e]
def k62:Fn [.B] dB:=λa=>⟨[aB a],[]⟩
def ZP:=dZ A62 k62 (ct _) GG.v
theorem agh:ca Tryz.prog T 62 ZP:=ft (E:=E62) (aG NT (aG agi (aG qQ aY))) Tryz.func62 GG.b λ(a0,a1,a2,a3,a4,_)=>GG.eG _ a0 a1 a2 a3 a4

def aej:=en [] [(2,[0,1,5]),(6,[0,1,5,19])]
def apM:Fn [.I, .S] As:=λa b=>[.v ak [.i .u32 a],aS b]
def auE:Fn [.I] dB:=λa=>⟨[.v ak [.i .u32 a]],[]⟩
def Gv:Fn [.I, .S, .I] Tb:=λa b c=>[cA 0 (.i .u32 a),cA 2 (.s b),cI 10 c]
def Gw:Fn [.I, .S, .I, .I] Tb:=λa b c d=>[cA 0 (.i .u32 a),cA 2 (.s b),cI 10 c,cI 38 d]
def RR(N:aF)(K:Kt R):=wT.l2 N (J Gv (.exit 0) K)
def RS(N:aF)(K:Kt R):=wT.l6 N (J Gw (.exit 2) K)
def Tq(N:aF):It R:=(lp 2 (al Gv (λK=>RR N K N) an) (lp 6 (al Gw (λK=>RS N K N) an) ln))
theorem Y9(N:aF):b_ aej (Tq N (R:=R)) (bX Tryz.f270 2):=lq 2 Gv (RR N) λK g=>wT.r2 N g (J Gv (.exit 0) K)
theorem Y_(N:aF):b_ aej (Tq N (R:=R)) (bX Tryz.f270 6):=lq 6 Gw (RS N) λK g=>wT.r6 N g (J Gw (.exit 2) K)
def adW:=dZ apM auE wT.c wT.v
theorem alc:ca Tryz.prog T 270 adW:=fq (E:=aej) aY Tryz.func270 (it:=λN=>Tq N) (λN=>(bn (Y9 N) (bn (Y_ N) bB))) wT.b wT.vo

def aqW:=en [(270,adW)] []
def apv:Fn [.S] As:=λa=>[aS a]
def aun:Fn [.I] dB:=λa=>⟨[.v ak [.i .u32 a]],[]⟩
def VD:=dZ apv aun ve.c ve.v
theorem acz:ca Tryz.prog T 247 VD:=fr (E:=aqW) (aG alc aY) Tryz.func247 ve.b ve.vo

def aqL:=en [(247,VD)] []
def ao_:Fn [.I, .S] As:=λa b=>[aI a,aS b]
def at0:Fn [.I] dB:=λa=>⟨[aI a],[]⟩
def VA:=dZ ao_ at0 qI.c qI.v
theorem acw:ca Tryz.prog T 225 VA:=fr (E:=aqL) (aG acz aY) Tryz.func225 qI.b qI.vo

def WO:=en [(224,Vz),(210,Ob),(225,VA)] [(5,[1,4,5,19,20,21]),(15,[4,5,49,50,51]),(18,[4,5,10,49,50,51,56,57])]
def aop:Fn [.R, .I, .S] As:=λa b c=>[aV [.sh 26 a, .n b],aS c]
def ate:Fn [.R, .I] dB:=λa b=>⟨[aV [.ow 26 ai a, .n b]],[]⟩
def F2:Fn [.S, .I, .I, .I, .I, .R] Tb:=λa b c d e f=>[cA 2 (.s a),cP 8 0,cP 10 1,cA 38 (.own 2),cI 40 b,cI 42 c,oB 1 [.nl, .n d],oB 3 [.own 2, .n e],oR 5 26 f]
def A_:Fn [.I, .I, .I, .I, .R] Tb:=λa b c d e=>[cP 8 0,cP 10 1,cA 98 (.own 2),cI 100 a,cI 102 b,oB 1 [.nl, .n c],oB 3 [.own 2, .n d],oR 5 26 e]
def Ba:Fn [.N, .I, .I, .I, .I, .I, .I, .R] Tb:=λa b c d e f g h=>[cP 8 0,cP 10 1,cA 20 (.inn 2 a 0),cA 98 (.own 2),cI 100 b,cI 102 c,cI 112 d,cI 114 e,oB 1 [.nl, .n f],oB 3 [.own 2, .n g],oR 5 26 h]
def Ra(N:aF)(K:Kt R):=iL.l5 N (J F2 (.exit 0) K)
def Mp(N:aF)(K:Kt R):=iL.Jp N (J A_ (.exit 2) K)
def Mq(N:aF)(K:Kt R):=iL.l18 N (J Ba (.exit 4) K)
def NA(N:aF):It R:=(lp 5 (al F2 (λK=>Ra N K N) an) (lp 15 (al A_ (λK=>Mp N K N) an) (lp 18 (al Ba (λK=>Mq N K N) an) ln)))
theorem Yu(N:aF):b_ WO (NA N (R:=R)) (bX Tryz.f164 5):=lq 5 F2 (Ra N) λK g=>iL.r5 N g (J F2 (.exit 0) K)
theorem TH(N:aF):b_ WO (NA N (R:=R)) (bX Tryz.f164 15):=lq 15 A_ (Mp N) λK g=>iL.QF N g (J A_ (.exit 2) K)
theorem TJ(N:aF):b_ WO (NA N (R:=R)) (bX Tryz.f164 18):=lq 18 Ba (Mq N) λK g=>iL.r18 N g (J Ba (.exit 4) K)
def Vk:=dZ aop ate iL.c iL.v
theorem ace:ca Tryz.prog T 164 Vk:=fq (E:=WO) (aG acv (aG Ug (aG acw aY))) Tryz.func164 (it:=λN=>NA N) (λN=>(bn (Yu N) (bn (TH N) (bn (TJ N) bB)))) iL.b iL.vo

def aqZ:=en [] []
def apA:Fn [.S, .S] As:=λa b=>[aS a, .fb [.s b]]
def aus:Fn [.B] dB:=λa=>⟨[aB a],[]⟩
def VF:=dZ apA aus (ct _) AU.v
theorem acB:ca Tryz.prog T 257 VF:=ft (E:=aqZ) aY Tryz.func257 AU.b λ(a0,a1,_)=>AU.eG _ a0 a1

def ail:=en [(257,VF)] [(2,[0,1,4,7,8])]
def apN:Fn [.R, .S] As:=λa b=>[aH 9 a, .v ak [.fn 257 [[.s b]]]]
def auF:Fn [.I] dB:=λa=>⟨[aI a],[]⟩
def zo:Fn [.R, .S, .I, .I, .I] Tb:=λa b c d e=>[cH 0 9 a,cA 2 (.fn 257 [[.s b]]),cI 8 c,cI 14 d,cI 16 e]
def RT(N:aF)(K:Kt R):=sJ.l2 N (J zo .ret K) (J zo (.exit 0) K)
def abW(N:aF):It R:=(lp 2 (al zo (λK=>RT N K N) an) ln)
theorem Za(N:aF):b_ ail (abW N (R:=R)) (bX Tryz.f272 2):=lq 2 zo (RT N) λK g=>sJ.r2 N g (J zo .ret K) (J zo (.exit 0) K)
def adX:=dZ apN auF sJ.c sJ.v
theorem ald:ca Tryz.prog T 272 adX:=fq (E:=ail) (aG acB aY) Tryz.func272 (it:=λN=>abW N) (λN=>(bn (Za N) bB)) sJ.b sJ.vo

def aii:=en [(272,adX),(257,VF)] [(5,[0,1,5,6])]
def apz:Fn [.R, .S] As:=λa b=>[aO 9 a, .v ak [.fn 257 [[.s b]]]]
def aur:Fn [.R] dB:=λa=>⟨[aO 9 a],[[.nl]]⟩
def Gt:Fn [.S, .I, .I, .R] Tb:=λa b c d=>[cA 0 (.own 900000000),cA 2 (.fn 257 [[.s a]]),cI 10 b,cI 12 c,oR 1800000001 9 d]
def RO(N:aF)(K:Kt R):=wS.l5 N (J Gt (.exit 0) K)
def abT(N:aF):It R:=(lp 5 (al Gt (λK=>RO N K N) an) ln)
theorem Y6(N:aF):b_ aii (abT N (R:=R)) (bX Tryz.f256 5):=lq 5 Gt (RO N) λK g=>wS.r5 N g (J Gt (.exit 0) K)
def adN:=dZ apz aur wS.c wS.v
theorem ak4:ca Tryz.prog T 256 adN:=fq (E:=aii) (aG ald (aG acB aY)) Tryz.func256 (it:=λN=>abT N) (λN=>(bn (Y6 N) bB)) wS.b wS.vo

def aqI:=en [(255,VE),(256,adN)] []
def ao0:Fn [.R, .S] As:=λa b=>[aH 9 a,aS b]
def atP:Fn [.R] dB:=λa=>⟨[aO 9 a],[]⟩
def Vu:=dZ ao0 atP ka.c ka.v
theorem acp:ca Tryz.prog T 213 Vu:=fr (E:=aqI) (aG acA (aG ak4 aY)) Tryz.func213 ka.b ka.vo

def ah7:=en [(210,Ob),(225,VA)] [(5,[1,5,12,13,14])]
def ao1:Fn [.R, .I, .S] As:=λa b c=>[aV [.sh 26 a, .n b],aS c]
def atQ:Fn [.I] dB:=λa=>⟨[aI a],[]⟩
def Gf:Fn [.S, .I, .R, .I, .I] Tb:=λa b c d e=>[cA 2 (.s a),cI 10 b,cH 24 26 c,cI 26 d,cI 28 e]
def Rs(N:aF)(K:Kt R):=vV.l5 N (J Gf (.exit 0) K)
def abI(N:aF):It R:=(lp 5 (al Gf (λK=>Rs N K N) an) ln)
theorem YL(N:aF):b_ ah7 (abI N (R:=R)) (bX Tryz.f214 5):=lq 5 Gf (Rs N) λK g=>vV.r5 N g (J Gf (.exit 0) K)
def adu:=dZ ao1 atQ vV.c vV.v
theorem akL:ca Tryz.prog T 214 adu:=fq (E:=ah7) (aG Ug (aG acw aY)) Tryz.func214 (it:=λN=>abI N) (λN=>(bn (YL N) bB)) vV.b vV.vo

def aqe:=en [(212,Oc),(146,Vf),(148,Dc),(164,Vk),(209,Oa),(213,Vu),(214,adu)] []
def aoc:Fn [.R, .R, .R, .I, .S] As:=λa b c d e=>[aV [.sh 9 a, .sh 9 b, .sh 26 c, .n d],aS e]
def as2:Fn [.R, .R, .R, .I, .S] dB:=λa b c d e=>⟨[aV [.ow 9 ai a, .ow 9 ai b, .ow 26 ai c, .n d],aS e],[]⟩
def Vg:=dZ aoc as2 zr.c zr.v
theorem ab_:ca Tryz.prog T 149 Vg:=fr (E:=aqe) (aG Uh (aG ab9 (aG Fg (aG ace (aG Uf (aG acp (aG akL aY))))))) Tryz.func149 zr.b zr.vo

def agw:Qm:=⟨λn=>bif bD n 22 then 223 else bif bD n 29 then 259 else 260,λn=>bif bD n 24 then 38 else bif bD n 9 then 72 else bif bD n 3 then 3 else bif bD n 4 then 4 else n,λn=>n⟩
def adx:aA fy->az (aX×dB):=Ins.xK 72 72
theorem afx:Ins.L Tryz.prog agw "slices.Insert[[]loop.example/g00245/impl.Client,loop.example/g00245/impl.Client]" 7 where
 mixed:=hM
 f22:=Tryz.func223.trans (by kernel_rfl)
 t3:=by kernel_rfl
 a3:=Ins.lh (P:=Tryz.prog) (t:=3) (d:= .int .i64) (by kernel_rfl) rfl
 t4:=by kernel_rfl
 a4:=Ins.lh (P:=Tryz.prog) (t:=4) (d:= .bool) (by kernel_rfl) rfl
 t24:=by kernel_rfl
 a24:=Ins.lh (P:=Tryz.prog) (t:=38) (d:= .slice 72) (by kernel_rfl) rfl
 z9:=Ins.Hz hE (t:=72) (ti:=⟨ai,[.i .i64, .s, .i .i64, .i .i64, .i .i64, .s, .i .i64],72⟩) (by kernel_rfl)
theorem akO:ca Tryz.prog T 223 adx:=
 Ins.zC (e:=72) (te:=⟨ai,[.i .i64, .s, .i .i64, .i .i64, .i .i64, .s, .i .i64],72⟩) (by kernel_rfl) rfl (by kernel_rfl) hE afx
  (λargs w=>run_callFunc_extern (e:=fJ #[38,38] #[4]) Tryz.func259 (by kernel_rfl) (by kernel_rfl) (by kernel_rfl) (by kernel_rfl) args w)
  ⟨_,Tryz.func223,by kernel_rfl,by kernel_rfl⟩

def ahW:=en [(223,adx)] [(2,[0,3,4])]
def aon:Fn [.I, .R, .R, .R, .R, .I, .R, .R, .I, .I, .S, .I, .I, .I, .S, .I] As:=λa b c d e f g h i j k l m o p q=>[.pt [.n a, .ow 51 ai b, .ow 9 ai c, .ow 9 ai d, .ow 26 ai e, .n f, .ow 75 ai g, .ow 72 ai h, .n i],aV [.n j, .s k, .n l, .n m, .n o, .s p, .n q]]
def atc:Fn [.I, .R, .R, .R, .R, .I, .R, .R, .I] dB:=λa b c d e f g h i=>⟨[],[[.n a, .kp b, .kp c, .kp d, .kp e, .n f, .kp g, .ow 72 ai h, .n i]]⟩
def FY:Fn [.I, .I, .I, .I, .I, .S, .I, .I, .I, .S, .I, .R, .R, .R, .R, .R, .R] Tb:=λa b c d e f g h i j k l m o p q r=>[cP 0 900000900,cP 6 1,cI 8 a,oB 1800001801 [.n b, .own 900000001, .own 900000002, .own 900000003, .own 900000004, .n c, .own 900000006, .own 900000007, .n d],oB 3 [.n e, .s f, .n g, .n h, .n i, .s j, .n k],oR 1800000003 51 l,oR 1800000005 9 m,oR 1800000007 9 o,oR 1800000009 26 p,oR 1800000013 75 q,oR 1800000015 72 r]
def Q_(N:aF)(K:Kt R):=jl.l2 N (J FY (.exit 0) K)
def abx(N:aF):It R:=(lp 2 (al FY (λK=>Q_ N K N) an) ln)
theorem Yt(N:aF):b_ ahW (abx N (R:=R)) (bX Tryz.f162 2):=lq 2 FY (Q_ N) λK g=>jl.r2 N g (J FY (.exit 0) K)
def ac4:=dZ aon atc jl.c jl.v
theorem akn:ca Tryz.prog T 162 ac4:=fq (E:=ahW) (aG akO aY) Tryz.func162 (it:=λN=>abx N) (λN=>(bn (Yt N) bB)) jl.b jl.vo

def ah8:=en [(155,LU),(155,LV),(155,LW),(217,Vw)] [(5,[0,1,5,6])]
def ao2:Fn [.R, .S] As:=λa b=>[aO 51 a, .v ak [.fn 217 [[.s b]]]]
def atS:Fn [.R] dB:=λa=>⟨[aO 51 a],[[.nl]]⟩
def Gg:Fn [.S, .I, .I, .R] Tb:=λa b c d=>[cA 0 (.own 900000000),cA 2 (.fn 217 [[.s a]]),cI 10 b,cI 12 c,oR 1800000001 51 d]
def Rt(N:aF)(K:Kt R):=pc.l5 N (J Gg (.exit 0) K)
def abJ(N:aF):It R:=(lp 5 (al Gg (λK=>Rt N K N) an) ln)
theorem YM(N:aF):b_ ah8 (abJ N (R:=R)) (bX Tryz.f215 5):=lq 5 Gg (Rt N) λK g=>pc.r5 N g (J Gg (.exit 0) K)
def adv:=dZ ao2 atS pc.c pc.v
theorem akM:ca Tryz.prog T 215 adv:=fq (E:=ah8) (aG T8 (aG T9 (aG T_ (aG acr aY)))) Tryz.func215 (it:=λN=>abJ N) (λN=>(bn (YM N) bB)) pc.b pc.vo

def aqf:=en [(216,Vv),(215,adv)] []
def aod:Fn [.R, .S] As:=λa b=>[aH 51 a,aS b]
def as3:Fn [.R] dB:=λa=>⟨[aO 51 a],[]⟩
def N7:=dZ aod as3 pM.c pM.v
theorem T7:ca Tryz.prog T 150 N7:=fr (E:=aqf) (aG acq (aG akM aY)) Tryz.func150 pM.b pM.vo

def aqm:=en [(212,Oc),(213,Vu)] []
def aoo:Fn [.R, .R, .R, .I, .S] As:=λa b c d e=>[aV [.sh 9 a, .sh 9 b, .sh 26 c, .n d],aS e]
def atd:Fn [.R, .R, .R, .I] dB:=λa b c d=>⟨[aV [.ow 9 ai a, .ow 9 ai b, .ow 26 ai c, .n d]],[]⟩
def ac5:=dZ aoo atd u5.c u5.v
theorem ako:ca Tryz.prog T 163 ac5:=fr (E:=aqm) (aG Uh (aG acp aY)) Tryz.func163 u5.b u5.vo

def E96:=en [(160,Dd),(30,agA),(82,qv),(148,Dc),(101,U_),(155,LU),(155,LV),(155,LW),(62,ZP),(149,Vg),(162,ac4),(92,agK),(150,N7),(163,ac5),(164,Vk)] []
def A96:Fn [.I, .R, .R, .R, .R, .I, .R, .R, .I, .I, .S] As:=λa b c d e f g h i j k=>[aV [.n a, .sh 51 b, .sh 9 c, .sh 9 d, .sh 26 e, .n f, .sh 75 g, .sh 72 h, .n i],aI j,aS k]
def k96:Fn [.I, .R, .R, .R, .R, .I, .R, .R, .I, .I] dB:=λa b c d e f g h i j=>⟨[aV [.n a, .ow 51 ai b, .ow 9 ai c, .ow 9 ai d, .ow 26 ai e, .n f, .ow 75 ai g, .ow 72 ai h, .n i],aI j],[]⟩
def amg:=dZ A96 k96 R7.c R7.v
theorem avn:ca Tryz.prog T 96 amg:=fr (E:=E96) (aG Fh (aG alk (aG qQ (aG Fg (aG ab3 (aG T8 (aG T9 (aG T_ (aG agh (aG ab_ (aG akn (aG alw (aG T7 (aG ako (aG ace aY))))))))))))))) Tryz.func96 R7.b R7.vo

def aqn:=en [(30,agA),(82,qv)] []
def aoq:Fn [.I, .R, .R, .R, .R, .I, .R, .R, .I, .I] As:=λa b c d e f g h i j=>[aV [.n a, .sh 51 b, .sh 9 c, .sh 9 d, .sh 26 e, .n f, .sh 75 g, .sh 72 h, .n i],aI j]
def atf:Fn [.B] dB:=λa=>⟨[aB a],[]⟩
def N8:=dZ aoq atf u6.c u6.v
theorem Ua:ca Tryz.prog T 165 N8:=fr (E:=aqn) (aG alk (aG qQ aY)) Tryz.func165 u6.b u6.vo

def aqM:=en [] []
def apa:Fn [.I, .S, .R] As:=λa b c=>[aV [.n a, .s b, .sh 237 c]]
def at2:Fn [.I, .S, .R] dB:=λa b c=>⟨[aV [.n a, .s b, .ow 237 ai c]],[]⟩
def ady:=dZ apa at2 Ks.c Ks.v
theorem akP:ca Tryz.prog T 226 ady:=fh (E:=aqM) aY Tryz.func226 (it:=λ_=>ln) (λ_=>bB) (λ_=>Ks.b) λx f h=>⟨0,Ks.eG _ x.1 x.2.1 x.2.2.1 h⟩

def aib:=en [(82,qv)] [(2,[1,2,6,7,8])]
def apb:Fn [.I, .S, .R] As:=λa b c=>[aV [.n a, .s b, .sh 237 c]]
def at4:Fn [.B] dB:=λa=>⟨[aB a],[]⟩
def zi:Fn [.B, .R, .I, .I, .I, .S, .R] Tb:=λa b c d e f g=>[cP 2 0,cA 4 (.b a),cH 12 237 b,cI 14 c,cI 16 d,oB 1 [.n e, .s f, .sh 237 g]]
def Rz(N:aF)(K:Kt R):=Ib.l2 N (J zi .ret K) (J zi (.exit 0) K)
def abN(N:aF):It R:=(lp 2 (al zi (λK=>Rz N K N) an) ln)
theorem YS(N:aF):b_ aib (abN N (R:=R)) (bX Tryz.f227 2):=lq 2 zi (Rz N) λK g=>Ib.r2 N g (J zi .ret K) (J zi (.exit 0) K)
def adz:=dZ apb at4 (ct _) Ib.v
theorem akQ:ca Tryz.prog T 227 adz:=fh (E:=aib) (aG qQ aY) Tryz.func227 (it:=λN=>abN N) (λN=>(bn (YS N) bB)) Ib.b λx f h=>Ib.eG _ x.1 x.2.1 x.2.2.1 f.1.2.1 f.1.2.2.1

def aqo:=en [(226,ady),(227,adz),(82,qv)] []
def aor:Fn [.I, .S, .R, .S] As:=λa b c d=>[aV [.n a, .s b, .sh 237 c],aS d]
def atg:Fn [.I, .S, .R, .B] dB:=λa b c d=>⟨[aV [.n a, .s b, .ow 237 ai c],aB d],[]⟩
def ac6:=dZ aor atg DJ.c DJ.v
theorem akp:ca Tryz.prog T 166 ac6:=fh (E:=aqo) (aG akP (aG akQ (aG qQ aY))) Tryz.func166 (it:=λ_=>ln) (λ_=>bB) (λ_=>DJ.b) λx f h=>⟨0,DJ.eG _ x.1 x.2.1 x.2.2.1 x.2.2.2.1 h f.1.2.1 f.1.2.2.1 f.2.1.1⟩

def ahX:=en [] [(1,[0,1,9,10,11])]
def aos:Fn [.I, .R, .R, .R, .R, .I, .R, .R, .I, .I] As:=λa b c d e f g h i j=>[.pt [.n a, .ow 51 ai b, .ow 9 ai c, .ow 9 ai d, .ow 26 ai e, .n f, .ow 75 ai g, .ow 72 ai h, .n i],aI j]
def ath:Fn [.I, .R, .R, .R, .R, .I, .R, .R, .I] dB:=λa b c d e f g h i=>⟨[],[[.n a, .kp b, .kp c, .kp d, .kp e, .n f, .kp g, .kp h, .n i]]⟩
def F7:Fn [.I, .I, .I, .I, .I, .I, .R, .R, .R, .R, .R, .R] Tb:=λa b c d e f g h i j k l=>[cP 0 900000900,cI 2 a,cA 18 (.own 900000007),cI 20 b,cI 22 c,oB 1800001801 [.n d, .own 900000001, .own 900000002, .own 900000003, .own 900000004, .n e, .own 900000006, .own 900000007, .n f],oR 1800000015 72 g,oR 1800000003 51 h,oR 1800000005 9 i,oR 1800000007 9 j,oR 1800000009 26 k,oR 1800000013 75 l]
def Rb(N:aF)(K:Kt R):=AJ.l1 N (J F7 (.exit 0) K)
def aby(N:aF):It R:=(lp 1 (al F7 (λK=>Rb N K N) an) ln)
theorem Yv(N:aF):b_ ahX (aby N (R:=R)) (bX Tryz.f167 1):=lq 1 F7 (Rb N) λK g=>AJ.r1 N g (J F7 (.exit 0) K)
def ac7:=dZ aos ath AJ.c AJ.v
theorem akq:ca Tryz.prog T 167 ac7:=fq (E:=ahX) aY Tryz.func167 (it:=λN=>aby N) (λN=>(bn (Yv N) bB)) AJ.b AJ.vo

def E97:=en [(160,Dd),(165,N8),(166,ac6),(167,ac7)] []
def A97:Fn [.I, .R, .R, .R, .R, .I, .R, .R, .I, .I, .S] As:=λa b c d e f g h i j k=>[aV [.n a, .sh 51 b, .sh 9 c, .sh 9 d, .sh 26 e, .n f, .sh 75 g, .sh 72 h, .n i],aI j,aS k]
def k97:Fn [.I, .R, .R, .R, .R, .I, .R, .R, .I, .B] dB:=λa b c d e f g h i j=>⟨[aV [.n a, .ow 51 ai b, .ow 9 ai c, .ow 9 ai d, .ow 26 ai e, .n f, .ow 75 ai g, .ow 72 ai h, .n i],aB j],[]⟩
def amh:=dZ A97 k97 Wl.c Wl.v
theorem avo:ca Tryz.prog T 97 amh:=fr (E:=E97) (aG Fh (aG Ua (aG akp (aG akq aY)))) Tryz.func97 Wl.b Wl.vo

def ahZ:=en [] [(1,[0,1,2,11,12,13])]
def aow:Fn [.I, .R, .R, .R, .R, .I, .R, .R, .I, .I, .I] As:=λa b c d e f g h i j k=>[.pt [.n a, .ow 51 ai b, .ow 9 ai c, .ow 9 ai d, .ow 26 ai e, .n f, .ow 75 ai g, .ow 72 ai h, .n i],aI j,aI k]
def atl:Fn [.I, .R, .R, .R, .R, .I, .R, .R, .I] dB:=λa b c d e f g h i=>⟨[],[[.n a, .kp b, .kp c, .kp d, .kp e, .n f, .kp g, .kp h, .n i]]⟩
def F9:Fn [.I, .I, .I, .I, .I, .I, .I, .R, .R, .R, .R, .R, .R] Tb:=λa b c d e f g h i j k l m=>[cP 0 900000900,cI 2 a,cI 4 b,cA 22 (.own 900000007),cI 24 c,cI 26 d,oB 1800001801 [.n e, .own 900000001, .own 900000002, .own 900000003, .own 900000004, .n f, .own 900000006, .own 900000007, .n g],oR 1800000015 72 h,oR 1800000003 51 i,oR 1800000005 9 j,oR 1800000007 9 k,oR 1800000009 26 l,oR 1800000013 75 m]
def Re(N:aF)(K:Kt R):=vT.l1 N (J F9 (.exit 0) K)
def abA(N:aF):It R:=(lp 1 (al F9 (λK=>Re N K N) an) ln)
theorem Yx(N:aF):b_ ahZ (abA N (R:=R)) (bX Tryz.f171 1):=lq 1 F9 (Re N) λK g=>vT.r1 N g (J F9 (.exit 0) K)
def Vm:=dZ aow atl vT.c vT.v
theorem acg:ca Tryz.prog T 171 Vm:=fq (E:=ahZ) aY Tryz.func171 (it:=λN=>abA N) (λN=>(bn (Yx N) bB)) vT.b vT.vo

def agv:Qm:=⟨λn=>bif bD n 22 then 198 else bif bD n 29 then 248 else 249,λn=>bif bD n 24 then 30 else bif bD n 9 then 51 else bif bD n 3 then 3 else bif bD n 4 then 4 else n,λn=>n⟩
def ads:aA fy->az (aX×dB):=Ins.xK 51 48
theorem afw:Ins.L Tryz.prog agv "slices.Insert[[]loop.example/g00245/impl.Entry,loop.example/g00245/impl.Entry]" 4 where
 mixed:=hM
 f22:=Tryz.func198.trans (by kernel_rfl)
 t3:=by kernel_rfl
 a3:=Ins.lh (P:=Tryz.prog) (t:=3) (d:= .int .i64) (by kernel_rfl) rfl
 t4:=by kernel_rfl
 a4:=Ins.lh (P:=Tryz.prog) (t:=4) (d:= .bool) (by kernel_rfl) rfl
 t24:=by kernel_rfl
 a24:=Ins.lh (P:=Tryz.prog) (t:=30) (d:= .slice 51) (by kernel_rfl) rfl
 z9:=Ins.Hz hE (t:=51) (ti:=⟨ai,[.s, .i .i64, .i .i64, .s],48⟩) (by kernel_rfl)
theorem akJ:ca Tryz.prog T 198 ads:=
 Ins.zC (e:=51) (te:=⟨ai,[.s, .i .i64, .i .i64, .s],48⟩) (by kernel_rfl) rfl (by kernel_rfl) hE afw
  (λargs w=>run_callFunc_extern (e:=fJ #[30,30] #[4]) Tryz.func248 (by kernel_rfl) (by kernel_rfl) (by kernel_rfl) (by kernel_rfl) args w)
  ⟨_,Tryz.func198,by kernel_rfl,by kernel_rfl⟩

def ahS:=en [(150,N7),(198,ads)] [(3,[3,5,6])]
def an6:Fn [.R, .S, .I, .I, .S] As:=λa b c d e=>[aH 51 a,aV [.s b, .n c, .n d, .s e]]
def asV:Fn [.R] dB:=λa=>⟨[aO 51 a],[]⟩
def FW:Fn [.I, .S, .I, .I, .S, .R] Tb:=λa b c d e f=>[cP 6 0,cA 10 (.own 1),cI 12 a,oB 1 [.s b, .n c, .n d, .s e],oR 3 51 f]
def Q5(N:aF)(K:Kt R):=uY.l3 N (J FW (.exit 0) K)
def abt(N:aF):It R:=(lp 3 (al FW (λK=>Q5 N K N) an) ln)
theorem Yo(N:aF):b_ ahS (abt N (R:=R)) (bX Tryz.f124 3):=lq 3 FW (Q5 N) λK g=>uY.r3 N g (J FW (.exit 0) K)
def Vd:=dZ an6 asV uY.c uY.v
theorem ab7:ca Tryz.prog T 124 Vd:=fq (E:=ahS) (aG T7 (aG akJ aY)) Tryz.func124 (it:=λN=>abt N) (λN=>(bn (Yo N) bB)) uY.b uY.vo

def E87:=en [(149,Vg),(150,N7),(145,N5),(124,Vd)] []
def A87:Fn [.I, .R, .R, .R, .R, .I, .R, .R, .I, .S, .I, .I, .S] As:=λa b c d e f g h i j k l m=>[.pt [.n a, .ow 51 ai b, .ow 9 ai c, .ow 9 ai d, .ow 26 ai e, .n f, .ow 75 ai g, .ow 72 ai h, .n i],aV [.s j, .n k, .n l, .s m]]
def k87:Fn [.I, .R, .R, .R, .R, .I, .R, .R, .I] dB:=λa b c d e f g h i=>⟨[],[[.n a, .ow 51 ai b, .ow 9 ai c, .ow 9 ai d, .ow 26 ai e, .n f, .kp g, .kp h, .n i]]⟩
def agI:=dZ A87 k87 OQ.c OQ.v
theorem alu:ca Tryz.prog T 87 agI:=fr (E:=E87) (aG ab_ (aG T7 (aG T5 (aG ab7 aY)))) Tryz.func87 OQ.b OQ.vo

def aqp:=en [(160,Dd),(165,N8),(82,qv),(171,Vm),(87,agI)] []
def aot:Fn [.I, .R, .R, .R, .R, .I, .R, .R, .I, .I, .I] As:=λa b c d e f g h i j k=>[aV [.n a, .sh 51 b, .sh 9 c, .sh 9 d, .sh 26 e, .n f, .sh 75 g, .sh 72 h, .n i],aI j,aI k]
def ati:Fn [.I, .R, .R, .R, .R, .I, .R, .R, .I, .B] dB:=λa b c d e f g h i j=>⟨[aV [.n a, .ow 51 ai b, .ow 9 ai c, .ow 9 ai d, .ow 26 ai e, .n f, .ow 75 ai g, .ow 72 ai h, .n i],aB j],[]⟩
def ac8:=dZ aot ati DK.c DK.v
theorem akr:ca Tryz.prog T 168 ac8:=fr (E:=aqp) (aG Fh (aG Ua (aG qQ (aG acg (aG alu aY))))) Tryz.func168 DK.b DK.vo

def aim:=en [(82,qv)] [(4,[0,4])]
def apQ:Fn [.I] As:=λa=>[aI a]
def auH:Fn [.S, .B] dB:=λa b=>⟨[aS a,aB b],[]⟩
def Gx:Fn [.I, .R] Tb:=λa b=>[cI 0 a,cA 8 (.own 0),oR 1 5 b]
def RU(N:aF)(K:Kt R):=nR.l4 N (J Gx (.exit 0) K)
def abX(N:aF):It R:=(lp 4 (al Gx (λK=>RU N K N) an) ln)
theorem Zb(N:aF):b_ aim (abX N (R:=R)) (bX Tryz.f275 4):=lq 4 Gx (RU N) λK g=>nR.r4 N g (J Gx (.exit 0) K)
def Oj:=dZ apQ auH (ct _) nR.v
theorem Uq:ca Tryz.prog T 275 Oj:=fh (E:=aim) (aG qQ aY) Tryz.func275 (it:=λN=>abX N) (λN=>(bn (Zb N) bB)) nR.b λx f h=>nR.eG _ x.1

def aq8:=en [(275,Oj)] []
def apO:Fn [.S] As:=λa=>[aS a]
def auG:Fn [.S, .B] dB:=λa b=>⟨[aS a,aB b],[]⟩
def adY:=dZ apO auG (ct _) DT.v
theorem ale:ca Tryz.prog T 274 adY:=fh (E:=aq8) (aG Uq aY) Tryz.func274 (it:=λ_=>ln) (λ_=>bB) (λ_=>DT.b) λx f h=>⟨0,DT.eG _ x.1⟩

def aq2:=en [(125,JU),(274,adY),(275,Oj)] []
def apD:Fn [.S, .I, .I, .S] As:=λa b c d=>[aV [.s a, .n b, .n c, .s d]]
def auv:Fn [.S, .B] dB:=λa b=>⟨[aS a,aB b],[]⟩
def adP:=dZ apD auv (ct _) DS.v
theorem ak6:ca Tryz.prog T 262 adP:=fh (E:=aq2) (aG NT (aG ale (aG Uq aY))) Tryz.func262 (it:=λ_=>ln) (λ_=>bB) (λ_=>DS.b) λx f h=>⟨0,DS.eG _ x.1 x.2.1 x.2.2.1 x.2.2.2.1⟩

def aqE:=en [(247,VD)] []
def aoU:Fn [.S] As:=λa=>[aS a]
def atJ:Fn [.S] dB:=λa=>⟨[aS a],[]⟩
def Vt:=dZ aoU atJ u_.c u_.v
theorem aco:ca Tryz.prog T 196 Vt:=fr (E:=aqE) (aG acz aY) Tryz.func196 u_.b u_.vo

def aq3:=en [(82,qv),(275,Oj),(196,Vt)] []
def apE:Fn [.S] As:=λa=>[aS a]
def auw:Fn [.S, .B] dB:=λa b=>⟨[aS a,aB b],[]⟩
def adQ:=dZ apE auw BX.c BX.v
theorem ak7:ca Tryz.prog T 263 adQ:=fr (E:=aq3) (aG qQ (aG Uq (aG aco aY))) Tryz.func263 BX.b BX.vo

def aqN:=en [(262,adP),(263,adQ)] []
def apc:Fn [.S, .I, .I, .S] As:=λa b c d=>[aV [.s a, .n b, .n c, .s d]]
def at5:Fn [.S, .B] dB:=λa b=>⟨[aS a,aB b],[]⟩
def VB:=dZ apc at5 mU.c mU.v
theorem acx:ca Tryz.prog T 228 VB:=fr (E:=aqN) (aG ak6 (aG ak7 aY)) Tryz.func228 mU.b mU.vo

def aqq:=en [(228,VB)] []
def aou:Fn [.S, .I, .I, .S] As:=λa b c d=>[aV [.s a, .n b, .n c, .s d]]
def atj:Fn [.R, .B] dB:=λa b=>⟨[aO 218 a,aB b],[]⟩
def ac9:=dZ aou atj u9.c u9.v
theorem aks:ca Tryz.prog T 169 ac9:=fr (E:=aqq) (aG acx aY) Tryz.func169 u9.b u9.vo

def aqO:=en [] []
def apd:Fn [.R] As:=λa=>[aV [.sh 94 a]]
def at6:Fn [.R] dB:=λa=>⟨[aV [.ow 94 ai a]],[]⟩
def Oe:=dZ apd at6 td.c td.v
theorem Uj:ca Tryz.prog T 229 Oe:=fr (E:=aqO) aY Tryz.func229 td.b td.vo

def aqV:=en [] []
def apu:Fn [.S, .S, .I, .S] As:=λa b c d=>[aV [.s a, .s b, .n c], .fb [.s d]]
def aum:Fn [.B] dB:=λa=>⟨[aB a],[]⟩
def adK:=dZ apu aum (ct _) Ku.v
theorem ak1:ca Tryz.prog T 246 adK:=ft (E:=aqV) aY Tryz.func246 Ku.b λ(a0,a1,a2,a3,_)=>Ku.eG _ a0 a1 a2 a3

def aal:=en [(246,adK)] [(2,[0,1,4,7,8])]
def ahG:Fn [.R, .S] As:=λa b=>[aH 94 a, .v ak [.fn 246 [[.s b]]]]
def ajR:Fn [.I] dB:=λa=>⟨[aI a],[]⟩
def uq:Fn [.R, .S, .I, .I, .I] Tb:=λa b c d e=>[cH 0 94 a,cA 2 (.fn 246 [[.s b]]),cI 8 c,cI 14 d,cI 16 e]
def MC(N:aF)(K:Kt R):=sj.l2 N (J uq .ret K) (J uq (.exit 0) K)
def To(N:aF):It R:=(lp 2 (al uq (λK=>MC N K N) an) ln)
theorem TR(N:aF):b_ aal (To N (R:=R)) (bX Tryz.f245 2):=lq 2 uq (MC N) λK g=>sj.r2 N g (J uq .ret K) (J uq (.exit 0) K)
def LZ:=dZ ahG ajR sj.c sj.v
theorem Uo:ca Tryz.prog T 245 LZ:=fq (E:=aal) (aG ak1 aY) Tryz.func245 (it:=λN=>To N) (λN=>(bn (TR N) bB)) sj.b sj.vo

def aq9:=en [] []
def apS:Fn [.S, .S, .I, .S] As:=λa b c d=>[aV [.s a, .s b, .n c], .fb [.s d]]
def auJ:Fn [.B] dB:=λa=>⟨[aB a],[]⟩
def VI:=dZ apS auJ (ct _) AW.v
theorem acE:ca Tryz.prog T 278 VI:=ft (E:=aq9) aY Tryz.func278 AW.b λ(a0,a1,a2,a3,_)=>AW.eG _ a0 a1 a2 a3

def aam:=en [(278,VI)] [(2,[0,1,4,7,8])]
def ahH:Fn [.R, .S] As:=λa b=>[aH 94 a, .v ak [.fn 278 [[.s b]]]]
def ajS:Fn [.I] dB:=λa=>⟨[aI a],[]⟩
def ur:Fn [.R, .S, .I, .I, .I] Tb:=λa b c d e=>[cH 0 94 a,cA 2 (.fn 278 [[.s b]]),cI 8 c,cI 14 d,cI 16 e]
def MD(N:aF)(K:Kt R):=nt.l2 N (J ur .ret K) (J ur (.exit 0) K)
def Tp(N:aF):It R:=(lp 2 (al ur (λK=>MD N K N) an) ln)
theorem TS(N:aF):b_ aam (Tp N (R:=R)) (bX Tryz.f245 2):=lq 2 ur (MD N) λK g=>nt.r2 N g (J ur .ret K) (J ur (.exit 0) K)
def L0:=dZ ahH ajS nt.c nt.v
theorem Up:ca Tryz.prog T 245 L0:=fq (E:=aam) (aG acE aY) Tryz.func245 (it:=λN=>Tp N) (λN=>(bn (TS N) bB)) nt.b nt.vo

def aqD:=en [(245,LZ),(245,L0)] []
def aoS:Fn [.R, .S] As:=λa b=>[aV [.sh 94 a],aS b]
def atH:Fn [.I] dB:=λa=>⟨[aI a],[]⟩
def Vs:=dZ aoS atH eE.c eE.v
theorem acn:ca Tryz.prog T 194 Vs:=fr (E:=aqD) (aG Uo (aG Up aY)) Tryz.func194 eE.b eE.vo

def ahQ:=en [(82,qv)] [(2,[1,2,6,7,8])]
def an2:Fn [.R] As:=λa=>[aV [.sh 94 a]]
def asR:Fn [.B] dB:=λa=>⟨[aB a],[]⟩
def y_:Fn [.B, .R, .I, .I, .R] Tb:=λa b c d e=>[cP 2 0,cA 4 (.b a),cH 12 94 b,cI 14 c,cI 16 d,oB 1 [.sh 94 e]]
def Q3(N:aF)(K:Kt R):=ik.l2 N (J y_ .ret K) (J y_ (.exit 0) K)
def abq(N:aF):It R:=(lp 2 (al y_ (λK=>Q3 N K N) an) ln)
theorem Ym(N:aF):b_ ahQ (abq N (R:=R)) (bX Tryz.f120 2):=lq 2 y_ (Q3 N) λK g=>ik.r2 N g (J y_ .ret K) (J y_ (.exit 0) K)
def JT:=dZ an2 asR ik.c ik.v
theorem NS:ca Tryz.prog T 120 JT:=fq (E:=ahQ) (aG qQ aY) Tryz.func120 (it:=λN=>abq N) (λN=>(bn (Ym N) bB)) ik.b ik.vo

def aq4:=en [(82,qv)] []
def apF:Fn [.I, .S, .S, .S] As:=λa b c d=>[aV [.n a, .s b, .s c, .s d]]
def auy:Fn [.B] dB:=λa=>⟨[aB a],[]⟩
def adR:=dZ apF auy (ct _) Kv.v
theorem ak8:ca Tryz.prog T 264 adR:=ft (E:=aq4) (aG qQ aY) Tryz.func264 Kv.b λ(a0,a1,a2,a3,_)=>Kv.eG _ a0 a1 a2 a3

def ain:=en [(245,LZ),(245,L0),(278,VI)] [(5,[0,1,5,6])]
def apR:Fn [.R, .S] As:=λa b=>[aO 94 a, .v ak [.fn 278 [[.s b]]]]
def auI:Fn [.R] dB:=λa=>⟨[aO 94 a],[[.nl]]⟩
def Gy:Fn [.S, .I, .I, .R] Tb:=λa b c d=>[cA 0 (.own 900000000),cA 2 (.fn 278 [[.s a]]),cI 10 b,cI 12 c,oR 1800000001 94 d]
def RV(N:aF)(K:Kt R):=wU.l5 N (J Gy (.exit 0) K)
def abY(N:aF):It R:=(lp 5 (al Gy (λK=>RV N K N) an) ln)
theorem Zc(N:aF):b_ ain (abY N (R:=R)) (bX Tryz.f277 5):=lq 5 Gy (RV N) λK g=>wU.r5 N g (J Gy (.exit 0) K)
def ad0:=dZ apR auI wU.c wU.v
theorem alg:ca Tryz.prog T 277 ad0:=fq (E:=ain) (aG Uo (aG Up (aG acE aY))) Tryz.func277 (it:=λN=>abY N) (λN=>(bn (Zc N) bB)) wU.b wU.vo

def aq5:=en [(229,Oe),(277,ad0)] []
def apH:Fn [.R, .S] As:=λa b=>[aV [.sh 94 a],aS b]
def auA:Fn [.R] dB:=λa=>⟨[aV [.ow 94 ai a]],[]⟩
def VH:=dZ apH auA iY.c iY.v
theorem acD:ca Tryz.prog T 266 VH:=fr (E:=aq5) (aG Uj (aG alg aY)) Tryz.func266 iY.b iY.vo

def agx:Qm:=⟨λn=>bif bD n 22 then 276 else bif bD n 29 then 283 else 284,λn=>bif bD n 24 then 41 else bif bD n 9 then 94 else bif bD n 3 then 3 else bif bD n 4 then 4 else n,λn=>n⟩
def adZ:aA fy->az (aX×dB):=Ins.xK 94 40
theorem afy:Ins.L Tryz.prog agx "slices.Insert[[]loop.example/g00245/impl.File,loop.example/g00245/impl.File]" 3 where
 mixed:=hM
 f22:=Tryz.func276.trans (by kernel_rfl)
 t3:=by kernel_rfl
 a3:=Ins.lh (P:=Tryz.prog) (t:=3) (d:= .int .i64) (by kernel_rfl) rfl
 t4:=by kernel_rfl
 a4:=Ins.lh (P:=Tryz.prog) (t:=4) (d:= .bool) (by kernel_rfl) rfl
 t24:=by kernel_rfl
 a24:=Ins.lh (P:=Tryz.prog) (t:=41) (d:= .slice 94) (by kernel_rfl) rfl
 z9:=Ins.Hz hE (t:=94) (ti:=⟨ai,[.s, .s, .i .i64],40⟩) (by kernel_rfl)
theorem alf:ca Tryz.prog T 276 adZ:=
 Ins.zC (e:=94) (te:=⟨ai,[.s, .s, .i .i64],40⟩) (by kernel_rfl) rfl (by kernel_rfl) hE afy
  (λargs w=>run_callFunc_extern (e:=fJ #[41,41] #[4]) Tryz.func283 (by kernel_rfl) (by kernel_rfl) (by kernel_rfl) (by kernel_rfl) args w)
  ⟨_,Tryz.func276,by kernel_rfl,by kernel_rfl⟩

def aij:=en [(266,VH),(276,adZ)] [(3,[3,4,5,6])]
def apG:Fn [.R, .S, .S, .I] As:=λa b c d=>[aV [.sh 94 a],aV [.s b, .s c, .n d]]
def auz:Fn [.R] dB:=λa=>⟨[aV [.ow 94 ai a]],[]⟩
def Gu:Fn [.I, .S, .S, .I, .R] Tb:=λa b c d e=>[cP 6 0,cP 8 1,cP 10 2,cI 12 a,oB 1 [.s b, .s c, .n d],oB 3 [.nl],oB 5 [.own 3],oR 7 94 e]
def RP(N:aF)(K:Kt R):=gM.l3 N (J Gu (.exit 0) K)
def abU(N:aF):It R:=(lp 3 (al Gu (λK=>RP N K N) an) ln)
theorem Y7(N:aF):b_ aij (abU N (R:=R)) (bX Tryz.f265 3):=lq 3 Gu (RP N) λK g=>gM.r3 N g (J Gu (.exit 0) K)
def adS:=dZ apG auz gM.c gM.v
theorem ak9:ca Tryz.prog T 265 adS:=fq (E:=aij) (aG acD (aG alf aY)) Tryz.func265 (it:=λN=>abU N) (λN=>(bn (Y7 N) bB)) gM.b gM.vo

def aqP:=en [(194,Vs),(120,JT),(264,adR),(265,adS),(266,VH)] []
def ape:Fn [.R, .I, .S, .S, .S] As:=λa b c d e=>[aV [.sh 94 a],aV [.n b, .s c, .s d, .s e]]
def at7:Fn [.R, .B] dB:=λa b=>⟨[aV [.ow 94 ai a],aB b],[]⟩
def adA:=dZ ape at7 rI.c rI.v
theorem akR:ca Tryz.prog T 230 adA:=fr (E:=aqP) (aG acn (aG NS (aG ak8 (aG ak9 (aG acD aY))))) Tryz.func230 rI.b rI.vo

def ahY:=en [(229,Oe),(230,adA)] [(3,[1,4,5,6,13,14,15])]
def aov:Fn [.R, .R] As:=λa b=>[aV [.sh 94 a],aH 218 b]
def atk:Fn [.R, .I] dB:=λa b=>⟨[aV [.ow 94 ai a],aI b],[]⟩
def F8:Fn [.R, .I, .R, .I, .I, .R] Tb:=λa b c d e f=>[cH 2 218 a,cP 8 0,cI 10 b,cP 12 1,cH 26 218 c,cI 28 d,cI 30 e,oB 1 [.nl],oB 3 [.own 2],oR 5 94 f]
def Ie:Fn [.R, .I, .R, .I, .I, .R] Tb:=λa b c d e f=>[cH 2 218 a,cP 8 0,cI 10 b,cP 12 1,cH 26 218 c,cI 28 d,cI 30 e,oB 1 [.own 2],oB 3 [.own 2],oR 5 94 f]
def Rc(N:aF)(K:Kt R):=vS.l3 N (J Ie .ret K) (J F8 (.exit 0) K)
def abz(N:aF):It R:=(lp 3 (al F8 (λK=>Rc N K N) an) ln)
theorem Yw(N:aF):b_ ahY (abz N (R:=R)) (bX Tryz.f170 3):=lq 3 F8 (Rc N) λK g=>vS.r3 N g (J Ie .ret K) (J F8 (.exit 0) K)
def Vl:=dZ aov atk vS.c vS.v
theorem acf:ca Tryz.prog T 170 Vl:=fq (E:=ahY) (aG Uj (aG akR aY)) Tryz.func170 (it:=λN=>abz N) (λN=>(bn (Yw N) bB)) vS.b vS.vo

def E98:=Wz T md [(168,ac8),(145,N5),(169,ac9),(170,Vl)] [] [] [(0,1,.own 51),(0,2,.own 9),(0,3,.own 9),(0,4,.own 26),(0,6,.own 75),(0,7,.own 72),(0,9,.own 94),(0,10,.own 3),(0,11,.own 51)]
def A98:Fn [.I, .R, .R, .R, .R, .I, .R, .R, .I, .R, .R, .R, .I, .I] As:=λa b c d e f g h i j k l m o=>[.pt [.n a, .ow 51 ai b, .ow 9 ai c, .ow 9 ai d, .ow 26 ai e, .n f, .ow 75 ai g, .ow 72 ai h, .n i, .ow 94 ai j, .ow 3 ai k, .ow 51 ai l],aI m,aI o]
def k98:Fn [.B, .I, .R, .R, .R, .R, .I, .R, .R, .I, .R, .R, .R] dB:=λa b c d e f g h i j k l m=>⟨[aB a],[[.n b, .ow 51 ai c, .ow 9 ai d, .ow 9 ai e, .ow 26 ai f, .n g, .ow 75 ai h, .ow 72 ai i, .n j, .ow 94 ai k, .ow 3 ai l, .ow 51 ai m]]⟩
def ami:=dZ A98 k98 Wm.c Wm.v
theorem avp:ca Tryz.prog T 98 ami:=fr (E:=E98) (aG akr (aG T5 (aG aks (aG acf aY)))) Tryz.func98 Wm.b Wm.vo

def E99:=en [(160,Dd),(165,N8),(171,Vm)] []
def A99:Fn [.I, .R, .R, .R, .R, .I, .R, .R, .I, .I] As:=λa b c d e f g h i j=>[aV [.n a, .sh 51 b, .sh 9 c, .sh 9 d, .sh 26 e, .n f, .sh 75 g, .sh 72 h, .n i],aI j]
def k99:Fn [.I, .R, .R, .R, .R, .I, .R, .R, .I, .B] dB:=λa b c d e f g h i j=>⟨[aV [.n a, .ow 51 ai b, .ow 9 ai c, .ow 9 ai d, .ow 26 ai e, .n f, .ow 75 ai g, .ow 72 ai h, .n i],aB j],[]⟩
def amj:=dZ A99 k99 Wn.c Wn.v
theorem avq:ca Tryz.prog T 99 amj:=fr (E:=E99) (aG Fh (aG Ua (aG acg aY))) Tryz.func99 Wn.b Wn.vo

def aqr:=en [] []
def aox:Fn [.I, .I] As:=λa b=>[aI a,aI b]
def atm:Fn [.I] dB:=λa=>⟨[aI a],[]⟩
def ac_:=dZ aox atm AL.c AL.v
theorem akt:ca Tryz.prog T 172 ac_:=fr (E:=aqr) aY Tryz.func172 AL.b AL.vo

def apV:=en [(160,Dd),(172,ac_)] []
def anK:Fn [.I, .R, .R, .R, .R, .I, .R, .R, .I, .I] As:=λa b c d e f g h i j=>[aV [.n a, .sh 51 b, .sh 9 c, .sh 9 d, .sh 26 e, .n f, .sh 75 g, .sh 72 h, .n i],aI j]
def asy:Fn [.I, .R, .R, .R, .R, .I, .R, .R, .I] dB:=λa b c d e f g h i=>⟨[aV [.n a, .ow 51 ai b, .ow 9 ai c, .ow 9 ai d, .ow 26 ai e, .n f, .ow 75 ai g, .ow 72 ai h, .n i]],[]⟩
def acN:=dZ anK asy DF.c DF.v
theorem aj7:ca Tryz.prog T 100 acN:=fr (E:=apV) (aG Fh (aG akt aY)) Tryz.func100 DF.b DF.vo

def ah0:=en [(173,LX),(173,LY),(176,Vn)] [(5,[0,1,5,6])]
def aoz:Fn [.R, .I] As:=λa b=>[aO 72 a, .v ak [.fn 176 [[.n b]]]]
def ato:Fn [.R] dB:=λa=>⟨[aO 72 a],[[.nl]]⟩
def F_:Fn [.I, .I, .I, .R] Tb:=λa b c d=>[cA 0 (.own 900000000),cA 2 (.fn 176 [[.n a]]),cI 10 b,cI 12 c,oR 1800000001 72 d]
def Rf(N:aF)(K:Kt R):=wK.l5 N (J F_ (.exit 0) K)
def abB(N:aF):It R:=(lp 5 (al F_ (λK=>Rf N K N) an) ln)
theorem Yy(N:aF):b_ ah0 (abB N (R:=R)) (bX Tryz.f175 5):=lq 5 F_ (Rf N) λK g=>wK.r5 N g (J F_ (.exit 0) K)
def adb:=dZ aoz ato wK.c wK.v
theorem akv:ca Tryz.prog T 175 adb:=fq (E:=ah0) (aG Ub (aG Uc (aG ach aY))) Tryz.func175 (it:=λN=>abB N) (λN=>(bn (Yy N) bB)) wK.b wK.vo

def apX:=en [(160,Dd),(175,adb)] []
def anM:Fn [.I, .R, .R, .R, .R, .I, .R, .R, .I, .I] As:=λa b c d e f g h i j=>[aV [.n a, .sh 51 b, .sh 9 c, .sh 9 d, .sh 26 e, .n f, .sh 75 g, .sh 72 h, .n i],aI j]
def asA:Fn [.I, .R, .R, .R, .R, .I, .R, .R, .I] dB:=λa b c d e f g h i=>⟨[aV [.n a, .ow 51 ai b, .ow 9 ai c, .ow 9 ai d, .ow 26 ai e, .n f, .ow 75 ai g, .ow 72 ai h, .n i]],[]⟩
def acO:=dZ anM asA DG.c DG.v
theorem aj8:ca Tryz.prog T 102 acO:=fr (E:=apX) (aG Fh (aG akv aY)) Tryz.func102 DG.b DG.vo

def ah1:=en [(120,JT),(229,Oe)] [(5,[1,4,6,17,18,19])]
def aoB:Fn [.R, .R] As:=λa b=>[aV [.sh 94 a],aH 3 b]
def atq:Fn [.R, .B] dB:=λa b=>⟨[aV [.ow 94 ai a],aB b],[]⟩
def Ga:Fn [.R, .R, .I, .I, .R] Tb:=λa b c d e=>[cH 2 3 a,cP 8 0,cP 12 1,cH 34 94 b,cI 36 c,cI 38 d,oB 1 [.nl],oB 3 [.own 2],oR 5 94 e]
def Rg(N:aF)(K:Kt R):=wL.l5 N (J Ga (.exit 0) K)
def abC(N:aF):It R:=(lp 5 (al Ga (λK=>Rg N K N) an) ln)
theorem Yz(N:aF):b_ ah1 (abC N (R:=R)) (bX Tryz.f177 5):=lq 5 Ga (Rg N) λK g=>wL.r5 N g (J Ga (.exit 0) K)
def ade:=dZ aoB atq wL.c wL.v
theorem akw:ca Tryz.prog T 177 ade:=fq (E:=ah1) (aG NS (aG Uj aY)) Tryz.func177 (it:=λN=>abC N) (λN=>(bn (Yz N) bB)) wL.b wL.vo

def ap8:=en [(194,Vs)] []
def an3:Fn [.R, .S] As:=λa b=>[aV [.sh 94 a],aS b]
def asS:Fn [.S, .B] dB:=λa b=>⟨[aS a,aB b],[]⟩
def Vc:=dZ an3 asS uX.c uX.v
theorem ab6:ca Tryz.prog T 121 Vc:=fr (E:=ap8) (aG acn aY) Tryz.func121 uX.b uX.vo

def ah6:=en [(82,qv)] [(5,[0,1,4,5,6,7,8])]
def aoT:Fn [.S, .I] As:=λa b=>[aS a,aI b]
def atI:Fn [.I, .I, .B] dB:=λa b c=>⟨[aI a,aI b,aB c],[]⟩
def ze:Fn [.S, .I, .I, .I, .B, .I, .I] Tb:=λa b c d e f g=>[cA 0 (.s a),cI 2 b,cI 8 c,cI 10 d,cA 12 (.b e),cI 14 f,cI 16 g]
def Ro(N:aF)(K:Kt R):=gm.l5 N (J ze .ret K) (J ze (.exit 0) K)
def abH(N:aF):It R:=(lp 5 (al ze (λK=>Ro N K N) an) ln)
theorem YH(N:aF):b_ ah6 (abH N (R:=R)) (bX Tryz.f195 5):=lq 5 ze (Ro N) λK g=>gm.r5 N g (J ze .ret K) (J ze (.exit 0) K)
def N_:=dZ aoT atI (ct _) gm.v
theorem Ue:ca Tryz.prog T 195 N_:=fh (E:=ah6) (aG qQ aY) Tryz.func195 (it:=λN=>abH N) (λN=>(bn (YH N) bB)) gm.b λx f h=>gm.eG _ x.1 x.2.1 f.1.1

def ahR:=en [(195,N_),(82,qv),(196,Vt)] [(3,[0,4,5])]
def an4:Fn [.S] As:=λa=>[aS a]
def asT:Fn [.R, .I] dB:=λa b=>⟨[aO 9 a,aI b],[]⟩
def FV:Fn [.S, .I, .R] Tb:=λa b c=>[cA 0 (.s a),cA 8 (.own 0),cI 10 b,oR 1 9 c]
def Q4(N:aF)(K:Kt R):=U122.l3 N (J FV (.exit 0) K)
def abr(N:aF):It R:=(lp 3 (al FV (λK=>Q4 N K N) an) ln)
theorem Yn(N:aF):b_ ahR (abr N (R:=R)) (bX Tryz.f122 3):=lq 3 FV (Q4 N) λK g=>U122.r3 N g (J FV (.exit 0) K)
def acX:=dZ an4 asT U122.c U122.v
theorem akg:ca Tryz.prog T 122 acX:=fq (E:=ahR) (aG Ue (aG qQ (aG aco aY))) Tryz.func122 (it:=λN=>abr N) (λN=>(bn (Yn N) bB)) U122.b U122.vo

def aqF:=en [(195,N_)] []
def aoV:Fn [.S, .I] As:=λa b=>[aS a,aI b]
def atK:Fn [.S, .I, .B] dB:=λa b c=>⟨[aS a,aI b,aB c],[]⟩
def adr:=dZ aoV atK (ct _) tc.v
theorem akI:ca Tryz.prog T 197 adr:=fh (E:=aqF) (aG Ue aY) Tryz.func197 (it:=λ_=>ln) (λ_=>bB) (λ_=>tc.b) λx f h=>⟨0,tc.eG _ x.1 x.2.1 f.1.1⟩

def ap9:=en [(197,adr),(195,N_),(125,JU)] []
def an5:Fn [.S] As:=λa=>[aS a]
def asU:Fn [.S, .I, .I, .S, .B] dB:=λa b c d e=>⟨[aV [.s a, .n b, .n c, .s d],aB e],[]⟩
def acY:=dZ an5 asU (ct _) vQ.v
theorem akh:ca Tryz.prog T 123 acY:=fh (E:=ap9) (aG akI (aG Ue (aG NT aY))) Tryz.func123 (it:=λ_=>ln) (λ_=>bB) (λ_=>vQ.b) λx f h=>⟨0,vQ.eG _ x.1 f.1.1⟩

def E61:=en [(120,JT),(121,Vc),(122,acX),(123,acY),(124,Vd)] [(7,[3,27,28,29])]
def A61:Fn [.R] As:=λa=>[aV [.sh 94 a]]
def k61:Fn [.R] dB:=λa=>⟨[aO 51 a],[]⟩
def MT:Fn [.I, .I, .R, .R] Tb:=λa b c d=>[cA 6 (.own 0),cA 54 (.own 1),cI 56 a,cI 58 b,oR 1 51 c,oR 3 9 d]
def aaN(N:aF)(K:Kt R):=U61.l7 N (J MT (.exit 0) K)
def ajH(N:aF):It R:=(lp 7 (al MT (λK=>aaN N K N) an) ln)
theorem af6(N:aF):b_ E61 (ajH N (R:=R)) (bX Tryz.f61 7):=lq 7 MT (aaN N) λK g=>U61.r7 N g (J MT (.exit 0) K)
def al9:=dZ A61 k61 U61.c U61.v
theorem avf:ca Tryz.prog T 61 al9:=fq (E:=E61) (aG NS (aG ab6 (aG akg (aG akh (aG ab7 aY))))) Tryz.func61 (it:=λN=>ajH N) (λN=>(bn (af6 N) bB)) U61.b U61.vo

def ah2:=en [(120,JT),(228,VB),(121,Vc)] [(5,[2,4,5,6,17,18,19])]
def aoC:Fn [.R, .R] As:=λa b=>[aV [.sh 94 a],aH 51 b]
def atr:Fn [.R, .B] dB:=λa b=>⟨[aO 218 a,aB b],[]⟩
def zc:Fn [.B, .S, .R, .I, .I, .R] Tb:=λa b c d e f=>[cP 4 0,cA 8 .nl,cA 10 (.b a),cA 12 (.s b),cH 34 51 c,cI 36 d,cI 38 e,oB 1 [.sh 94 f]]
def Rh(N:aF)(K:Kt R):=AO.l5 N (J zc .ret K) (J zc (.exit 0) K)
def abD(N:aF):It R:=(lp 5 (al zc (λK=>Rh N K N) an) ln)
theorem YA(N:aF):b_ ah2 (abD N (R:=R)) (bX Tryz.f178 5):=lq 5 zc (Rh N) λK g=>AO.r5 N g (J zc .ret K) (J zc (.exit 0) K)
def adf:=dZ aoC atr AO.c AO.v
theorem akx:ca Tryz.prog T 178 adf:=fq (E:=ah2) (aG NS (aG acx (aG ab6 aY))) Tryz.func178 (it:=λN=>abD N) (λN=>(bn (YA N) bB)) AO.b AO.vo

def E32:=en [(42,agD),(62,ZP),(87,agI)] [(4,[0,4,5,11,12,13])]
def A32:Fn [.I, .R] As:=λa b=>[aI a,aH 51 b]
def k32:Fn [.I, .R, .R, .R, .R, .I, .R, .R, .I] dB:=λa b c d e f g h i=>⟨[aV [.n a, .ow 51 ai b, .ow 9 ai c, .ow 9 ai d, .ow 26 ai e, .n f, .ow 75 ai g, .ow 72 ai h, .n i]],[]⟩
def ML:Fn [.I, .R, .I, .I, .I, .I, .I, .I, .I, .I, .R, .R, .R, .R, .R, .R] Tb:=λa b c d e f g h i j k l m o p q=>[cI 0 a,cP 8 0,cP 10 1,cH 22 51 b,cI 24 c,cI 26 d,oB 1 [.n e, .nl, .nl, .nl, .nl, .n f, .nl, .nl, .n g],oB 3 [.n h, .own 2, .own 3, .own 4, .own 5, .n i, .own 6, .own 7, .n j],oR 5 51 k,oR 7 9 l,oR 9 9 m,oR 11 26 o,oR 13 75 p,oR 15 72 q]
def aaw(N:aF)(K:Kt R):=Qs.l4 N (J ML (.exit 0) K)
def ajx(N:aF):It R:=(lp 4 (al ML (λK=>aaw N K N) an) ln)
theorem afP(N:aF):b_ E32 (ajx N (R:=R)) (bX Tryz.f32 4):=lq 4 ML (aaw N) λK g=>Qs.r4 N g (J ML (.exit 0) K)
def alY:=dZ A32 k32 Qs.c Qs.v
theorem au5:ca Tryz.prog T 32 alY:=fq (E:=E32) (aG alo (aG agh (aG alu aY))) Tryz.func32 (it:=λN=>ajx N) (λN=>(bn (afP N) bB)) Qs.b Qs.vo

def ahK:=Wz T md [(177,ade),(61,al9),(62,ZP),(178,adf),(170,Vl),(32,alY)] [(3,[0,4,26,27,28])] [] [(0,1,.own 51),(0,2,.own 9),(0,3,.own 9),(0,4,.own 26),(0,6,.own 75),(0,7,.own 72),(0,9,.own 94),(0,10,.own 3),(0,11,.own 51)]
def anN:Fn [.I, .R, .R, .R, .R, .I, .R, .R, .I, .R, .R, .R, .R] As:=λa b c d e f g h i j k l m=>[.pt [.n a, .ow 51 ai b, .ow 9 ai c, .ow 9 ai d, .ow 26 ai e, .n f, .ow 75 ai g, .ow 72 ai h, .n i, .ow 94 ai j, .ow 3 ai k, .ow 51 ai l],aH 3 m]
def asB:Fn [.I, .R, .R, .R, .R, .I, .R, .R, .I, .R, .R, .R] dB:=λa b c d e f g h i j k l=>⟨[],[[.n a, .ow 51 ai b, .ow 9 ai c, .ow 9 ai d, .ow 26 ai e, .n f, .ow 75 ai g, .ow 72 ai h, .n i, .ow 94 ai j, .ow 3 ai k, .ow 51 ai l]]⟩
def FT:Fn [.I, .I, .I, .I, .I, .R, .R, .R, .R, .R, .R, .R, .R, .R, .R, .R] Tb:=λa b c d e f g h i j k l m o p q=>[cP 0 900000900,cA 8 (.own 1),cA 52 (.own 2),cI 54 a,cI 56 b,oB 1800001801 [.n c, .own 900000001, .own 900000002, .own 900000003, .own 900000004, .n d, .own 900000006, .own 900000007, .n e, .own 9, .own 900000010, .own 900000011],oR 3 51 f,oR 5 51 g,oR 1800000003 51 h,oR 1800000005 9 i,oR 1800000007 9 j,oR 1800000009 26 k,oR 1800000013 75 l,oR 1800000015 72 m,oR 19 94 o,oR 1800000021 3 p,oR 1800000023 51 q]
def QW(N:aF)(K:Kt R):=AG.l3 N (J FT (.exit 0) K)
def abk(N:aF):It R:=(lp 3 (al FT (λK=>QW N K N) an) ln)
theorem Yf(N:aF):b_ ahK (abk N (R:=R)) (bX Tryz.f103 3):=lq 3 FT (QW N) λK g=>AG.r3 N g (J FT (.exit 0) K)
def acP:=dZ anN asB AG.c AG.v
theorem aj9:ca Tryz.prog T 103 acP:=fq (E:=ahK) (aG akw (aG avf (aG agh (aG akx (aG acf (aG au5 aY)))))) Tryz.func103 (it:=λN=>abk N) (λN=>(bn (Yf N) bB)) AG.b AG.vo

def apY:=en [] []
def anO:Fn [.B] As:=λa=>[aB a]
def asC:Fn [.I] dB:=λa=>⟨[aI a],[]⟩
def acQ:=dZ anO asC (ct _) GA.v
theorem aj_:ca Tryz.prog T 104 acQ:=ft (E:=apY) aY Tryz.func104 GA.b λ(a0,_)=>GA.eG _ a0

def E43:=Wz T md [(96,amg),(97,amh),(98,ami),(99,amj),(100,acN),(101,U_),(102,acO),(103,acP),(104,acQ)] [] [] [(0,1,.own 51),(0,2,.own 9),(0,3,.own 9),(0,4,.own 26),(0,6,.own 75),(0,7,.own 72),(0,9,.own 94),(0,10,.own 3),(0,11,.own 51)]
def A43:Fn [.I, .R, .R, .R, .R, .I, .R, .R, .I, .R, .R, .R, .I, .I, .S, .I, .R] As:=λa b c d e f g h i j k l m o p q r=>[.pt [.n a, .ow 51 ai b, .ow 9 ai c, .ow 9 ai d, .ow 26 ai e, .n f, .ow 75 ai g, .ow 72 ai h, .n i, .ow 94 ai j, .ow 3 ai k, .ow 51 ai l],aV [.n m, .n o, .s p, .n q, .sh 3 r]]
def k43:Fn [.I, .I, .R, .R, .R, .R, .I, .R, .R, .I, .R, .R, .R] dB:=λa b c d e f g h i j k l m=>⟨[aI a],[[.n b, .ow 51 ai c, .ow 9 ai d, .ow 9 ai e, .ow 26 ai f, .n g, .ow 75 ai h, .ow 72 ai i, .n j, .ow 94 ai k, .ow 3 ai l, .ow 51 ai m]]⟩
def al2:=dZ A43 k43 Wk.c Wk.v
theorem au9:ca Tryz.prog T 43 al2:=fr (E:=E43) (aG avn (aG avo (aG avp (aG avq (aG aj7 (aG ab3 (aG aj8 (aG aj9 (aG aj_ aY))))))))) Tryz.func43 Wk.b Wk.vo

def E11:=en [(31,alX),(42,agD),(43,al2)] [(4,[0,2,3,14,15,16]),(11,[2,6,27,28,29,1000000006009094,1000000006010003,1000000006011051])]
def A11:Fn [.R] As:=λa=>[aH 29 a]
def k11:Fn [.I, .R, .R, .R, .R, .I, .R, .R, .I, .R, .R, .R, .B] dB:=λa b c d e f g h i j k l m=>⟨[aV [.n a, .ow 51 ai b, .ow 9 ai c, .ow 9 ai d, .ow 26 ai e, .n f, .ow 75 ai g, .ow 72 ai h, .n i, .ow 94 ai j, .ow 3 ai k, .ow 51 ai l],aB m],[]⟩
def Eu:Fn [.R, .B, .R, .I, .I, .I, .I, .I] Tb:=λa b c d e f g h=>[cH 0 29 a,cP 4 0,cA 6 (.b b),cH 28 29 c,cI 30 d,cI 32 e,oB 1 [.n f, .nl, .nl, .nl, .nl, .n g, .nl, .nl, .n h, .nl, .nl, .nl]]
def FU:Fn [.R, .I, .I, .I, .I, .I, .I, .I, .I, .R, .R, .R, .R, .R, .R, .R, .R, .R] Tb:=λa b c d e f g h i j k l m o p q r s=>[cP 4 0,cP 12 1,cH 54 29 a,cI 56 b,cI 58 c,oB 1 [.n d, .nl, .nl, .nl, .nl, .n e, .nl, .nl, .n f, .nl, .nl, .nl],oB 3 [.n g, .own 2, .own 3, .own 4, .own 5, .n h, .own 6, .own 7, .n i, .own 8, .own 9, .own 10],oR 5 51 j,oR 7 9 k,oR 9 9 l,oR 11 26 m,oR 13 75 o,oR 15 72 p,oR 17 94 q,oR 19 3 r,oR 21 51 s]
def aas(N:aF)(K:Kt R):=DH.l4 N (J Eu .ret K) (J Eu (.exit 0) K)
def Q2(N:aF)(K:Kt R):=DH.PD N (J FU (.exit 2) K)
def afA(N:aF):It R:=(lp 4 (al Eu (λK=>aas N K N) an) (lp 11 (al FU (λK=>Q2 N K N) an) ln))
theorem afL(N:aF):b_ E11 (afA N (R:=R)) (bX Tryz.f11 4):=lq 4 Eu (aas N) λK g=>DH.r4 N g (J Eu .ret K) (J Eu (.exit 0) K)
theorem Yl(N:aF):b_ E11 (afA N (R:=R)) (bX Tryz.f11 11):=lq 11 FU (Q2 N) λK g=>DH.Ap N g (J FU (.exit 2) K)
def alU:=dZ A11 k11 DH.c DH.v
theorem au0:ca Tryz.prog T 11 alU:=fq (E:=E11) (aG au4 (aG alo (aG au9 aY))) Tryz.func11 (it:=λN=>afA N) (λN=>(bn (afL N) (bn (Yl N) bB))) DH.b DH.vo

def E44:=en [] [(2,[0,3,4,5])]
def A44:Fn [.R, .S, .I, .I, .S] As:=λa b c d e=>[aH 51 a,aV [.s b, .n c, .n d, .s e]]
def k44:Fn [.B] dB:=λa=>⟨[aB a],[]⟩
def EA:Fn [.R, .B, .I, .S, .I, .I, .S] Tb:=λa b c d e f g=>[cH 0 51 a,cP 6 0,cA 8 (.b b),cI 10 c,oB 1 [.s d, .n e, .n f, .s g]]
def aaC(N:aF)(K:Kt R):=Bf.l2 N (J EA .ret K) (J EA (.exit 0) K)
def ajC(N:aF):It R:=(lp 2 (al EA (λK=>aaC N K N) an) ln)
theorem afV(N:aF):b_ E44 (ajC N (R:=R)) (bX Tryz.f44 2):=lq 2 EA (aaC N) λK g=>Bf.r2 N g (J EA .ret K) (J EA (.exit 0) K)
def agE:=dZ A44 k44 Bf.c Bf.v
theorem alp:ca Tryz.prog T 44 agE:=fq (E:=E44) aY Tryz.func44 (it:=λN=>ajC N) (λN=>(bn (afV N) bB)) Bf.b Bf.vo

def E46:=en [] [(2,[1,2,3]),(5,[1,2,3,4])]
def A46:Fn [.I, .R, .R, .R, .R, .I, .R, .R, .I] As:=λa b c d e f g h i=>[aV [.n a, .sh 51 b, .sh 9 c, .sh 9 d, .sh 26 e, .n f, .sh 75 g, .sh 72 h, .n i]]
def k46:Fn [.B] dB:=λa=>⟨[aB a],[]⟩
def ED:Fn [.B, .I, .I, .R, .R, .R, .R, .I, .R, .R, .I] Tb:=λa b c d e f g h i j k=>[cP 2 0,cA 4 (.b a),cI 6 b,oB 1 [.n c, .sh 51 d, .sh 9 e, .sh 9 f, .sh 26 g, .n h, .sh 75 i, .sh 72 j, .n k]]
def EE:Fn [.B, .I, .I, .I, .R, .R, .R, .R, .I, .R, .R, .I] Tb:=λa b c d e f g h i j k l=>[cP 2 0,cA 4 (.b a),cI 6 b,cI 8 c,oB 1 [.n d, .sh 51 e, .sh 9 f, .sh 9 g, .sh 26 h, .n i, .sh 75 j, .sh 72 k, .n l]]
def aaF(N:aF)(K:Kt R):=MZ.l2 N (J ED .ret K) (J ED (.exit 0) K)
def aaG(N:aF)(K:Kt R):=MZ.l5 N (J EE .ret K) (J EE (.exit 2) K)
def afC(N:aF):It R:=(lp 2 (al ED (λK=>aaF N K N) an) (lp 5 (al EE (λK=>aaG N K N) an) ln))
theorem afY(N:aF):b_ E46 (afC N (R:=R)) (bX Tryz.f46 2):=lq 2 ED (aaF N) λK g=>MZ.r2 N g (J ED .ret K) (J ED (.exit 0) K)
theorem afZ(N:aF):b_ E46 (afC N (R:=R)) (bX Tryz.f46 5):=lq 5 EE (aaG N) λK g=>MZ.r5 N g (J EE .ret K) (J EE (.exit 2) K)
def al3:=dZ A46 k46 MZ.c MZ.v
theorem au_:ca Tryz.prog T 46 al3:=fq (E:=E46) aY Tryz.func46 (it:=λN=>afC N) (λN=>(bn (afY N) (bn (afZ N) bB))) MZ.b MZ.vo

def aqu:=en [] []
def aoE:Fn [.S, .S] As:=λa b=>[aS a,aS b]
def att:Fn [.B] dB:=λa=>⟨[aB a],[]⟩
def adg:=dZ aoE att DL.c DL.v
theorem aky:ca Tryz.prog T 180 adg:=fr (E:=aqu) aY Tryz.func180 DL.b DL.vo

def ahN:=en [(50,sQ),(180,adg)] [(3,[2,3,4,5])]
def anS:Fn [.I, .R, .R, .R, .R, .I, .R, .R, .I, .R, .R, .R, .I, .S, .I, .I, .I, .S, .I] As:=λa b c d e f g h i j k l m o p q r s t=>[aV [.n a, .sh 51 b, .sh 9 c, .sh 9 d, .sh 26 e, .n f, .sh 75 g, .sh 72 h, .n i, .sh 94 j, .sh 3 k, .sh 51 l],aV [.n m, .s o, .n p, .n q, .n r, .s s, .n t]]
def asG:Fn [.B] dB:=λa=>⟨[aB a],[]⟩
def yX:Fn [.B, .I, .I, .R, .R, .R, .R, .I, .R, .R, .I, .R, .R, .R, .I, .S, .I, .I, .I, .S, .I] Tb:=λa b c d e f g h i j k l m o p q r s t u v=>[cP 4 0,cP 6 1,cA 8 (.b a),cI 10 b,oB 1 [.n c, .sh 51 d, .sh 9 e, .sh 9 f, .sh 26 g, .n h, .sh 75 i, .sh 72 j, .n k, .sh 94 l, .sh 3 m, .sh 51 o],oB 3 [.n p, .s q, .n r, .n s, .n t, .s u, .n v]]
def QZ(N:aF)(K:Kt R):=AH.l3 N (J yX .ret K) (J yX (.exit 0) K)
def abn(N:aF):It R:=(lp 3 (al yX (λK=>QZ N K N) an) ln)
theorem Yi(N:aF):b_ ahN (abn N (R:=R)) (bX Tryz.f108 3):=lq 3 yX (QZ N) λK g=>AH.r3 N g (J yX .ret K) (J yX (.exit 0) K)
def acT:=dZ anS asG AH.c AH.v
theorem akc:ca Tryz.prog T 108 acT:=fq (E:=ahN) (aG vi (aG aky aY)) Tryz.func108 (it:=λN=>abn N) (λN=>(bn (Yi N) bB)) AH.b AH.vo

def E47:=en [(108,acT)] [(2,[1,2,3])]
def A47:Fn [.I, .R, .R, .R, .R, .I, .R, .R, .I, .R, .R, .R] As:=λa b c d e f g h i j k l=>[aV [.n a, .sh 51 b, .sh 9 c, .sh 9 d, .sh 26 e, .n f, .sh 75 g, .sh 72 h, .n i, .sh 94 j, .sh 3 k, .sh 51 l]]
def k47:Fn [.B] dB:=λa=>⟨[aB a],[]⟩
def EF:Fn [.B, .I, .I, .R, .R, .R, .R, .I, .R, .R, .I, .R, .R, .R] Tb:=λa b c d e f g h i j k l m o=>[cP 2 0,cA 4 (.b a),cI 6 b,oB 1 [.n c, .sh 51 d, .sh 9 e, .sh 9 f, .sh 26 g, .n h, .sh 75 i, .sh 72 j, .n k, .sh 94 l, .sh 3 m, .sh 51 o]]
def aaH(N:aF)(K:Kt R):=Qu.l2 N (J EF .ret K) (J EF (.exit 0) K)
def ajD(N:aF):It R:=(lp 2 (al EF (λK=>aaH N K N) an) ln)
theorem af0(N:aF):b_ E47 (ajD N (R:=R)) (bX Tryz.f47 2):=lq 2 EF (aaH N) λK g=>Qu.r2 N g (J EF .ret K) (J EF (.exit 0) K)
def al4:=dZ A47 k47 Qu.c Qu.v
theorem ava:ca Tryz.prog T 47 al4:=fq (E:=E47) (aG akc aY) Tryz.func47 (it:=λN=>ajD N) (λN=>(bn (af0 N) bB)) Qu.b Qu.vo

def E48:=en [(44,agE)] [(2,[1,2,3])]
def A48:Fn [.I, .R, .R, .R, .R, .I, .R, .R, .I, .R, .R, .R] As:=λa b c d e f g h i j k l=>[aV [.n a, .sh 51 b, .sh 9 c, .sh 9 d, .sh 26 e, .n f, .sh 75 g, .sh 72 h, .n i, .sh 94 j, .sh 3 k, .sh 51 l]]
def k48:Fn [.B] dB:=λa=>⟨[aB a],[]⟩
def EG:Fn [.B, .I, .I, .R, .R, .R, .R, .I, .R, .R, .I, .R, .R, .R] Tb:=λa b c d e f g h i j k l m o=>[cP 2 0,cA 4 (.b a),cI 6 b,oB 1 [.n c, .sh 51 d, .sh 9 e, .sh 9 f, .sh 26 g, .n h, .sh 75 i, .sh 72 j, .n k, .sh 94 l, .sh 3 m, .sh 51 o]]
def aaI(N:aF)(K:Kt R):=Ic.l2 N (J EG .ret K) (J EG (.exit 0) K)
def ajE(N:aF):It R:=(lp 2 (al EG (λK=>aaI N K N) an) ln)
theorem af1(N:aF):b_ E48 (ajE N (R:=R)) (bX Tryz.f48 2):=lq 2 EG (aaI N) λK g=>Ic.r2 N g (J EG .ret K) (J EG (.exit 0) K)
def al5:=dZ A48 k48 Ic.c Ic.v
theorem avb:ca Tryz.prog T 48 al5:=fq (E:=E48) (aG alp aY) Tryz.func48 (it:=λN=>ajE N) (λN=>(bn (af1 N) bB)) Ic.b Ic.vo

def E12:=en [(14,ZN),(13,Qf),(44,agE),(45,ZO),(46,al3),(47,al4),(48,al5)] [(3,[1,2,3,4])]
def A12:Fn [.I, .R, .R, .R, .R, .I, .R, .R, .I, .R, .R, .R] As:=λa b c d e f g h i j k l=>[aV [.n a, .sh 51 b, .sh 9 c, .sh 9 d, .sh 26 e, .n f, .sh 75 g, .sh 72 h, .n i, .sh 94 j, .sh 3 k, .sh 51 l]]
def k12:Fn [.B] dB:=λa=>⟨[aB a],[]⟩
def Ew:Fn [.B, .I, .I, .R, .R, .R, .R, .I, .R, .R, .I, .R, .R, .R, .R] Tb:=λa b c d e f g h i j k l m o p=>[cP 2 0,cA 4 (.b a),cA 6 (.own 1),cI 8 b,oB 1 [.n c, .sh 51 d, .sh 9 e, .sh 9 f, .sh 26 g, .n h, .sh 75 i, .sh 72 j, .n k, .sh 94 l, .sh 3 m, .sh 51 o],oR 3 51 p]
def aat(N:aF)(K:Kt R):=MW.l3 N (J Ew .ret K) (J Ew (.exit 0) K)
def aju(N:aF):It R:=(lp 3 (al Ew (λK=>aat N K N) an) ln)
theorem afM(N:aF):b_ E12 (aju N (R:=R)) (bX Tryz.f12 3):=lq 3 Ew (aat N) λK g=>MW.r3 N g (J Ew .ret K) (J Ew (.exit 0) K)
def alV:=dZ A12 k12 MW.c MW.v
theorem au1:ca Tryz.prog T 12 alV:=fq (E:=E12) (aG agd (aG T4 (aG alp (aG agf (aG au_ (aG ava (aG avb aY))))))) Tryz.func12 (it:=λN=>aju N) (λN=>(bn (afM N) bB)) MW.b MW.vo

def E15:=en [(51,Qg)] [(4,[1,2,3])]
def A15:Fn [.R] As:=λa=>[aV [.sh 94 a]]
def k15:Fn [.B] dB:=λa=>⟨[aB a],[]⟩
def Ey:Fn [.B, .I, .R] Tb:=λa b c=>[cP 2 0,cA 4 (.b a),cI 6 b,oB 1 [.sh 94 c]]
def aav(N:aF)(K:Kt R):=MX.l4 N (J Ey .ret K) (J Ey (.exit 0) K)
def ajw(N:aF):It R:=(lp 4 (al Ey (λK=>aav N K N) an) ln)
theorem afO(N:aF):b_ E15 (ajw N (R:=R)) (bX Tryz.f15 4):=lq 4 Ey (aav N) λK g=>MX.r4 N g (J Ey .ret K) (J Ey (.exit 0) K)
def alW:=dZ A15 k15 MX.c MX.v
theorem au2:ca Tryz.prog T 15 alW:=fq (E:=E15) (aG Ur aY) Tryz.func15 (it:=λN=>ajw N) (λN=>(bn (afO N) bB)) MX.b MX.vo

def E3:=Wz T md [(8,sp8),(9,sp9),(10,alT),(11,alU),(12,alV),(13,Qf),(14,ZN),(15,alW)] [(15,[2,7,9,11,12])] [9004000] []
def A3:Fn [.R] As:=λa=>[aH 5 a]
def k3:Fn [.B] dB:=λa=>⟨[aB a],[]⟩
def MP:Fn [.B, .I, .I, .I, .I, .I, .I, .I, .I, .R, .R, .R, .R, .R, .R, .R, .R, .R, .R, .R, .R, .R, .R, .R, .R, .R, .R] Tb:=λa b c d e f g h i j k l m o p q r s t u v w x y z aa ab=>[cA 4 (.b a),cP 14 0,cP 18 1,cI 22 b,cI 24 c,oB 1 [.n d, .own 2, .own 3, .own 4, .own 5, .n e, .own 6, .own 7, .n f, .own 8, .own 9, .own 10],oB 3 [.n g, .own 11, .own 12, .own 13, .own 14, .n h, .own 15, .own 16, .n i, .own 17, .own 18, .own 19],oR 5 51 j,oR 7 9 k,oR 9 9 l,oR 11 26 m,oR 13 75 o,oR 15 72 p,oR 17 94 q,oR 19 3 r,oR 21 51 s,oR 23 51 t,oR 25 9 u,oR 27 9 v,oR 29 26 w,oR 31 75 x,oR 33 72 y,oR 35 94 z,oR 37 3 aa,oR 39 51 ab]
def aaB(N:aF)(K:Kt R):=U3.Jp N (J MP (.exit 0) K)
def it3(N:aF):It R:=(lp 15 (al MP (λK=>aaB N K N) an) ln)
theorem afU(N:aF):b_ E3 (it3 N (R:=R)) (bX Tryz.f3 15):=lq 15 MP (aaB N) λK g=>U3.QF N g (J MP (.exit 0) K)
def sp3:=dZ A3 k3 U3.c U3.v
theorem ok3:ca Tryz.prog T 3 sp3:=fq (E:=E3) (aG ok8 (aG ok9 (aG auZ (aG au0 (aG au1 (aG T4 (aG agd (aG au2 aY)))))))) Tryz.func3 (it:=λN=>it3 N) (λN=>(bn (afU N) bB)) U3.b U3.vo

def E56:=en [(50,sQ)] []
def A56:Fn [.I, .I, .S, .I, .R] As:=λa b c d e=>[aV [.n a, .n b, .s c, .n d, .sh 3 e]]
def k56:Fn [.B] dB:=λa=>⟨[aB a],[]⟩
def aA0:=dZ A56 k56 (ct _) U56.v

end Go.FG.Se
