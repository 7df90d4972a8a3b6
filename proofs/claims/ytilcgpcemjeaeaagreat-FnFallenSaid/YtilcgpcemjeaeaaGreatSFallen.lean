/- Functions of the program: the evaluation of each, and that a call of it does what is told. No condition. -/
import Derived.Test.YtilcgpcemjeaeaaGreatTab
import Derived.Test.YtilcgpcemjeaeaaGreatPFallenb
import Derived.Test.YtilcgpcemjeaeaaGreatIns
set_option linter.unusedVariables false
set_option linter.unusedSimpArgs false
set_option maxRecDepth 100000
open Bool renaming true->ai,false->ak
open Function renaming comp_def->dN
open Go.Extern.SlicesOverlaps renaming overlaps->fI
open Go.Shelf renaming Ren->Qq
open Nat renaming beq->bD
open _root_ renaming Nat->aF,List->az,Option->aC,Bool->aX
namespace Go.FG.Se
open Go.Proofs Go.Proofs.Tryz
variable {R:Type}
abbrev FO:=lS Tryz.prog T

def E8:=en [] []
def A8:Fn [.R] As:=λa=>[aH 5 a]
def k8:Fn [.B] dA:=λa=>⟨[aB a],[]⟩
def sp8:=dY A8 k8 (ct _) U8.v
theorem ok8:FO 8 sp8:=ft (E:=E8) aY func8 U8.b λ(a0,_)=>U8.eG _ a0

def E39:=en [] [(3,[0,3,4])]
def A39:Fn [.R] As:=λa=>[aH 5 a]
def k39:Fn [.R, .I, .I] dA:=λa b c=>⟨[.pt [.sh 5 a, .n b, .n c]],[]⟩
def MT:Fn [.R, .I, .I] Tb:=λa b c=>[cH 0 5 a,cI 6 b,cI 8 c]
def aaC(N:aF)(K:Kt R):=KD.l3 N (J MT (.exit 0) K)
def ajC(N:aF):It R:=(lp 3 (al MT (λK=>aaC N K N) an) ln)
theorem afU(N:aF):b_ E39 (ajC N (R:=R)) (bX f39 3):=lq 3 MT (aaC N) λK g=>KD.r3 N g (J MT (.exit 0) K)
def agC:=dY A39 k39 KD.c KD.v
theorem aln:FO 39 agC:=fq (E:=E39) aY func39 (it:=λN=>ajC N) (λN=>(bn (afU N) bB)) KD.b KD.vo

def WT:=en [] [(3,[0,1,2])]
def aoJ:Fn [] As:=[]
def aty:Fn [.R, .I] dA:=λa b=>⟨[aV [.ow 26 ai a, .n b]],[]⟩
def rE:Fn [.I, .I, .I] Tb:=λa b c=>[cP 0 0,cP 2 1,cI 4 a,oB 1 [.nl, .n b],oB 3 [.nl, .n c]]
def oJ:Fn [.I, .I, .I, .R] Tb:=λa b c d=>[cP 0 0,cP 2 1,cI 4 a,oB 1 [.nl, .n b],oB 3 [.own 2, .n c],oR 5 26 d]
def Rn(N:aF)(K:Kt R):=GL.l3 N (J rE (.exit 0) K) (J oJ (.exit 0) K)
def My(N:aF)(K:Kt R):=GL.sO N (J rE (.exit 0) K) (J oJ (.exit 0) K)
def NH(N:aF):It R:=(lp 3 (al rE (λK=>Rn N K N) (al oJ (λK=>My N K N) an)) ln)
theorem Ow(N:aF)(K:Kt R):Wd WT (NH N) (bX f184 3) 3 K oJ (My N K):=lw (λg=>GL.zQ N (cmp _ rE (g∘fM)) (cmp _ oJ (g∘fM)) (J rE (.exit 0) K) (J oJ (.exit 0) K)) λm i=>by simp only[dN,wf i];rfl
theorem agQ(N:aF)(K:Kt R):Wd WT (NH N) (bX f184 3) 3 K rE (Rn N K):=lw (λg=>GL.r3 N (cmp _ rE (g∘fM)) (cmp _ oJ (g∘fM)) (J rE (.exit 0) K) (J oJ (.exit 0) K)) λm i=>by simp only[dN,wf i,wf (Ow N K m)];rfl
theorem YF(N:aF):b_ WT (NH N (R:=R)) (bX f184 3):=lm 3 (ga rE (agQ N) (ga oJ (Ow N) oU))
def adl:=dY aoJ aty GL.c GL.v
theorem akB:FO 184 adl:=fq (E:=WT) aY func184 (it:=λN=>NH N) (λN=>(bn (YF N) bB)) GL.b GL.vo

def ap6:=en [(184,adl)] []
def an0:Fn [] As:=[]
def asP:Fn [.R, .R, .R, .I] dA:=λa b c d=>⟨[aV [.ow 9 ai a, .ow 9 ai b, .ow 26 ai c, .n d]],[]⟩
def acX:=dY an0 asP (ct _) W_.v
theorem akf:FO 115 acX:=ft (E:=ap6) (aG akB aY) func115 W_.b λ_=>W_.eG _

def E57:=en [(115,acX)] []
def A57:Fn [] As:=[]
def k57:Fn [.I, .R, .R, .R, .R, .I, .R, .R, .I] dA:=λa b c d e f g h i=>⟨[aV [.n a, .ow 51 ai b, .ow 9 ai c, .ow 9 ai d, .ow 26 ai e, .n f, .ow 75 ai g, .ow 72 ai h, .n i]],[]⟩
def agI:=dY A57 k57 (ct _) U57.v
theorem alu:FO 57 agI:=ft (E:=E57) (aG akf aY) func57 U57.b λ_=>U57.eG _

def E40:=en [] []
def A40:Fn [.R, .I, .I] As:=λa b c=>[.pt [.sh 5 a, .n b, .n c]]
def k40:Fn [.I, .R, .I, .I] dA:=λa b c d=>⟨[aI a],[[.sh 5 b, .n c, .n d]]⟩
def agD:=dY A40 k40 dt.c dt.v
theorem alo:FO 40 agD:=fr (E:=E40) aY func40 dt.b dt.vo

def E41:=en [(40,agD)] []
def A41:Fn [.R, .I, .I, .I] As:=λa b c d=>[.pt [.sh 5 a, .n b, .n c],aI d]
def k41:Fn [.I, .R, .I, .I] dA:=λa b c d=>⟨[aI a],[[.sh 5 b, .n c, .n d]]⟩
def L9:=dY A41 k41 nE.c nE.v
theorem PS:FO 41 L9:=fr (E:=E41) (aG alo aY) func41 nE.b nE.vo

def E80:=en [(41,L9)] []
def A80:Fn [.R, .I, .I, .R] As:=λa b c d=>[.pt [.sh 5 a, .n b, .n c],aO 3 d]
def k80:Fn [.I, .R, .I, .I, .R] dA:=λa b c d e=>⟨[aI a],[[.sh 5 b, .n c, .n d],[.kp e]]⟩
def ama:=dY A80 k80 Af.c Af.v
theorem avh:FO 80 ama:=fr (E:=E80) (aG PS aY) func80 Af.b Af.vo

def aqb:=en [(41,L9)] []
def an9:Fn [.R, .I, .I, .R] As:=λa b c d=>[.pt [.sh 5 a, .n b, .n c],aO 9 d]
def asY:Fn [.S, .R, .I, .I, .R] dA:=λa b c d e=>⟨[aS a],[[.sh 5 b, .n c, .n d],[.kp e]]⟩
def Vh:=dY an9 asY pO.c pO.v
theorem ab_:FO 143 Vh:=fr (E:=aqb) (aG PS aY) func143 pO.b pO.vo

def aqk:=en [(143,Vh)] []
def aok:Fn [.R, .I, .I] As:=λa b c=>[.pt [.sh 5 a, .n b, .n c]]
def as_:Fn [.S, .R, .I, .I] dA:=λa b c d=>⟨[aS a],[[.sh 5 b, .n c, .n d]]⟩
def ac3:=dY aok as_ u_.c u_.v
theorem akl:FO 158 ac3:=fr (E:=aqk) (aG ab_ aY) func158 u_.b u_.vo

def E94:=en [(41,L9)] []
def A94:Fn [.R, .I, .I, .I] As:=λa b c d=>[.pt [.sh 5 a, .n b, .n c],aI d]
def k94:Fn [.B, .R, .I, .I] dA:=λa b c d=>⟨[aB a],[[.sh 5 b, .n c, .n d]]⟩
def agM:=dY A94 k94 HZ.c HZ.v
theorem aly:FO 94 agM:=fr (E:=E94) (aG PS aY) func94 HZ.b HZ.vo

def E93:=en [(80,ama),(41,L9),(158,ac3),(94,agM),(143,Vh)] [(4,[0,1,3,4,5,6,7])]
def A93:Fn [.R, .I, .I, .I, .R, .R, .R, .R, .I, .R, .R, .I, .R, .R, .R] As:=λa b c d e f g h i j k l m o p=>[.pt [.sh 5 a, .n b, .n c],aV [.n d, .ow 51 ai e, .ow 9 ai f, .ow 9 ai g, .ow 26 ai h, .n i, .ow 75 ai j, .ow 72 ai k, .n l, .ow 94 ai m, .ow 3 ai o, .ow 51 ai p]]
def k93:Fn [.I, .I, .S, .I, .R, .R, .I, .I, .R, .R, .R, .R, .R, .R, .R, .R, .R] dA:=λa b c d e f g h i j k l m o p q r=>⟨[aV [.n a, .n b, .s c, .n d, .ow 3 ai e]],[[.sh 5 f, .n g, .n h],[.nl, .kp i, .kp j, .kp k, .kp l, .nl, .kp m, .kp o, .nl, .kp p, .kp q, .kp r]]⟩
def MZ:Fn [.I, .I, .I, .I, .R, .I, .I, .R, .R, .R, .R, .R, .R, .R, .R, .R, .I, .I, .I, .I, .I, .S, .I, .I, .I, .S, .I, .R] Tb:=λa b c d e f g h i j k l m o p q r s t u v w x y z aa ab ac=>[cP 0 900000900,cV 2 [.n a, .own 900001001, .own 900001002, .own 900001003, .own 900001004, .n b, .own 900001006, .own 900001007, .n c, .own 900001009, .own 900001010, .own 900001011],cP 6 10,cP 8 11,cP 10 12,cA 12 (.own 13),cI 14 d,oB 1800001801 [.sh 5 e, .n f, .n g],oR 1800002003 51 h,oR 1800002005 9 i,oR 1800002007 9 j,oR 1800002009 26 k,oR 1800002013 75 l,oR 1800002015 72 m,oR 1800002019 94 o,oR 1800002021 3 p,oR 1800002023 51 q,oB 21 [.n r, .own 900001001, .own 900001002, .own 900001003, .own 900001004, .n s, .own 900001006, .own 900001007, .n t, .own 900001009, .own 900001010, .own 900001011],oB 23 [.n u, .n v, .s w, .n x, .nl],oB 25 [.n y, .n z, .s aa, .n ab, .nl],oR 27 3 ac]
def aaT(N:aF)(K:Kt R):=KF.l4 N (J MZ (.exit 0) K)
def ajM(N:aF):It R:=(lp 4 (al MZ (λK=>aaT N K N) an) ln)
theorem agb(N:aF):b_ E93 (ajM N (R:=R)) (bX f93 4):=lq 4 MZ (aaT N) λK g=>KF.r4 N g (J MZ (.exit 0) K)
def amf:=dY A93 k93 KF.c KF.v
theorem avm:FO 93 amf:=fq (E:=E93) (aG avh (aG PS (aG akl (aG aly (aG ab_ aY))))) func93 (it:=λN=>ajM N) (λN=>(bn (agb N) bB)) KF.b KF.vo

def WY:=en [] [(3,[1,2,3,4])]
def apu:Fn [.R, .I] As:=λa b=>[aV [.sh 26 a, .n b]]
def aum:Fn [.R, .I] dA:=λa b=>⟨[aV [.ow 26 ai a, .n b]],[]⟩
def rI:Fn [.I, .R, .I, .I, .I] Tb:=λa b c d e=>[cP 2 0,cP 4 1,cP 6 2,cI 8 a,oB 1 [.sh 26 b, .n c],oB 3 [.nl, .n d],oB 5 [.nl, .n e]]
def oN:Fn [.I, .R, .I, .I, .I, .R] Tb:=λa b c d e f=>[cP 2 0,cP 4 1,cP 6 2,cI 8 a,oB 1 [.sh 26 b, .n c],oB 3 [.nl, .n d],oB 5 [.own 3, .n e],oR 7 26 f]
def RP(N:aF)(K:Kt R):=n_.l3 N (J rI (.exit 0) K) (J oN (.exit 0) K)
def MG(N:aF)(K:Kt R):=n_.sO N (J rI (.exit 0) K) (J oN (.exit 0) K)
def NM(N:aF):It R:=(lp 3 (al rI (λK=>RP N K N) (al oN (λK=>MG N K N) an)) ln)
theorem OA(N:aF)(K:Kt R):Wd WY (NM N) (bX f244 3) 3 K oN (MG N K):=lw (λg=>n_.zQ N (cmp _ rI (g∘fM)) (cmp _ oN (g∘fM)) (J rI (.exit 0) K) (J oN (.exit 0) K)) λm i=>by simp only[dN,wf i];rfl
theorem agU(N:aF)(K:Kt R):Wd WY (NM N) (bX f244 3) 3 K rI (RP N K):=lw (λg=>n_.r3 N (cmp _ rI (g∘fM)) (cmp _ oN (g∘fM)) (J rI (.exit 0) K) (J oN (.exit 0) K)) λm i=>by simp only[dN,wf i,wf (OA N K m)];rfl
theorem Y6(N:aF):b_ WY (NM N (R:=R)) (bX f244 3):=lm 3 (ga rI (agU N) (ga oN (OA N) oU))
def Oq:=dY apu aum n_.c n_.v
theorem Uq:FO 244 Oq:=fq (E:=WY) aY func244 (it:=λN=>NM N) (λN=>(bn (Y6 N) bB)) n_.b n_.vo

def aqD:=en [(244,Oq)] []
def aoS:Fn [.R, .R, .R, .I] As:=λa b c d=>[aV [.sh 9 a, .sh 9 b, .sh 26 c, .n d]]
def atH:Fn [.R, .R, .R, .I] dA:=λa b c d=>⟨[aV [.ow 9 ai a, .ow 9 ai b, .ow 26 ai c, .n d]],[]⟩
def Vu:=dY aoS atH f_.c f_.v
theorem aco:FO 193 Vu:=fr (E:=aqD) (aG Uq aY) func193 f_.b f_.vo

def ap8:=en [(193,Vu)] []
def an2:Fn [.I, .R, .R, .R, .R, .I, .R, .R, .I] As:=λa b c d e f g h i=>[aV [.n a, .sh 51 b, .sh 9 c, .sh 9 d, .sh 26 e, .n f, .sh 75 g, .sh 72 h, .n i]]
def asR:Fn [.I, .R, .R, .R, .R, .I, .R, .R, .I] dA:=λa b c d e f g h i=>⟨[aV [.n a, .ow 51 ai b, .ow 9 ai c, .ow 9 ai d, .ow 26 ai e, .n f, .ow 75 ai g, .ow 72 ai h, .n i]],[]⟩
def Dg:=dY an2 asR fP.c fP.v
theorem Fl:FO 117 Dg:=fr (E:=ap8) (aG aco aY) func117 fP.b fP.vo

def E50:=en [] []
def A50:Fn [.I, .I, .I] As:=λa b c=>[aI a,aI b,aI c]
def k50:Fn [.B] dA:=λa=>⟨[aB a],[]⟩
def sU:=dY A50 k50 (ct _) km.v
theorem vm:FO 50 sU:=ft (E:=E50) aY func50 km.b λ(a0,a1,a2,_)=>km.eG _ a0 a1 a2

def ap0:=en [(50,sU)] []
def anS:Fn [.S] As:=λa=>[aS a]
def asG:Fn [.B] dA:=λa=>⟨[aB a],[]⟩
def Df:=dY anS asG (ct _) tf.v
theorem Fk:FO 107 Df:=ft (E:=ap0) (aG vm aY) func107 tf.b λ(a0,_)=>tf.eG _ a0

def E49:=en [(107,Df),(50,sU)] []
def A49:Fn [.S, .I, .I, .S] As:=λa b c d=>[aV [.s a, .n b, .n c, .s d]]
def k49:Fn [.B] dA:=λa=>⟨[aB a],[]⟩
def VM:=dY A49 k49 (ct _) ni.v
theorem Zn:FO 49 VM:=ft (E:=E49) (aG Fk (aG vm aY)) func49 ni.b λ(a0,a1,a2,a3,_)=>ni.eG _ a0 a1 a2 a3

def ah_:=en [] [(2,[0,1,4,5])]
def ao7:Fn [.R, .S] As:=λa b=>[aH 9 a,aS b]
def atX:Fn [.B] dA:=λa=>⟨[aB a],[]⟩
def zl:Fn [.R, .S, .B, .I] Tb:=λa b c d=>[cH 0 9 a,cA 2 (.s b),cA 8 (.b c),cI 10 d]
def Ry(N:aF)(K:Kt R):=fj.l2 N (J zl .ret K) (J zl (.exit 0) K)
def abM(N:aF):It R:=(lp 2 (al zl (λK=>Ry N K N) an) ln)
theorem YQ(N:aF):b_ ah_ (abM N (R:=R)) (bX f219 2):=lq 2 zl (Ry N) λK g=>fj.r2 N g (J zl .ret K) (J zl (.exit 0) K)
def Oi:=dY ao7 atX fj.c fj.v
theorem Ul:FO 219 Oi:=fq (E:=ah_) aY func219 (it:=λN=>abM N) (λN=>(bn (YQ N) bB)) fj.b fj.vo

def aqi:=en [(219,Oi)] []
def aoh:Fn [.R, .R, .R, .I, .S] As:=λa b c d e=>[aV [.sh 9 a, .sh 9 b, .sh 26 c, .n d],aS e]
def as7:Fn [.B] dA:=λa=>⟨[aB a],[]⟩
def Vm:=dY aoh as7 th.c th.v
theorem acf:FO 153 Vm:=fr (E:=aqi) (aG Ul aY) func153 th.b th.vo

def aei:=en [(50,sU)] [(4,[1,2,3]),(9,[1,2,3,4])]
def apg:Fn [.R, .I] As:=λa b=>[aV [.sh 26 a, .n b]]
def at9:Fn [.B] dA:=λa=>⟨[aB a],[]⟩
def zn:Fn [.B, .I, .R, .I] Tb:=λa b c d=>[cP 2 0,cA 4 (.b a),cI 6 b,oB 1 [.sh 26 c, .n d]]
def zo:Fn [.B, .I, .I, .R, .I] Tb:=λa b c d e=>[cP 2 0,cA 4 (.b a),cI 6 b,cI 8 c,oB 1 [.sh 26 d, .n e]]
def RD(N:aF)(K:Kt R):=fF.l4 N (J zn .ret K) (J zn (.exit 0) K)
def RE(N:aF)(K:Kt R):=fF.l9 N (J zo .ret K) (J zo (.exit 2) K)
def To(N:aF):It R:=(lp 4 (al zn (λK=>RD N K N) an) (lp 9 (al zo (λK=>RE N K N) an) ln))
theorem YV(N:aF):b_ aei (To N (R:=R)) (bX f231 4):=lq 4 zn (RD N) λK g=>fF.r4 N g (J zn .ret K) (J zn (.exit 0) K)
theorem YW(N:aF):b_ aei (To N (R:=R)) (bX f231 9):=lq 9 zo (RE N) λK g=>fF.r9 N g (J zo .ret K) (J zo (.exit 2) K)
def Ol:=dY apg at9 fF.c fF.v
theorem Un:FO 231 Ol:=fq (E:=aei) (aG vm aY) func231 (it:=λN=>To N) (λN=>(bn (YV N) (bn (YW N) bB))) fF.b fF.vo

def ah4:=en [(107,Df),(219,Oi),(231,Ol)] [(3,[1,2,3,4])]
def aoE:Fn [.R, .R, .R, .I] As:=λa b c d=>[aV [.sh 9 a, .sh 9 b, .sh 26 c, .n d]]
def att:Fn [.B] dA:=λa=>⟨[aB a],[]⟩
def zh:Fn [.B, .I, .R, .R, .R, .I, .R] Tb:=λa b c d e f g=>[cP 2 0,cA 4 (.b a),cA 6 (.own 1),cI 8 b,oB 1 [.sh 9 c, .sh 9 d, .sh 26 e, .n f],oR 3 9 g]
def Rl(N:aF)(K:Kt R):=jC.l3 N (J zh .ret K) (J zh (.exit 0) K)
def abG(N:aF):It R:=(lp 3 (al zh (λK=>Rl N K N) an) ln)
theorem YD(N:aF):b_ ah4 (abG N (R:=R)) (bX f179 3):=lq 3 zh (Rl N) λK g=>jC.r3 N g (J zh .ret K) (J zh (.exit 0) K)
def Vr:=dY aoE att jC.c jC.v
theorem ack:FO 179 Vr:=fq (E:=ah4) (aG Fk (aG Ul (aG Un aY))) func179 (it:=λN=>abG N) (λN=>(bn (YD N) bB)) jC.b jC.vo

def ahM:=en [(49,VM),(153,Vm),(179,Vr)] [(2,[1,2,3])]
def anQ:Fn [.I, .R, .R, .R, .R, .I, .R, .R, .I] As:=λa b c d e f g h i=>[aV [.n a, .sh 51 b, .sh 9 c, .sh 9 d, .sh 26 e, .n f, .sh 75 g, .sh 72 h, .n i]]
def asE:Fn [.B] dA:=λa=>⟨[aB a],[]⟩
def yZ:Fn [.B, .I, .I, .R, .R, .R, .R, .I, .R, .R, .I] Tb:=λa b c d e f g h i j k=>[cP 2 0,cA 4 (.b a),cI 6 b,oB 1 [.n c, .sh 51 d, .sh 9 e, .sh 9 f, .sh 26 g, .n h, .sh 75 i, .sh 72 j, .n k]]
def Q0(N:aF)(K:Kt R):=nU.l2 N (J yZ .ret K) (J yZ (.exit 0) K)
def abn(N:aF):It R:=(lp 2 (al yZ (λK=>Q0 N K N) an) ln)
theorem Yi(N:aF):b_ ahM (abn N (R:=R)) (bX f105 2):=lq 2 yZ (Q0 N) λK g=>nU.r2 N g (J yZ .ret K) (J yZ (.exit 0) K)
def acT:=dY anQ asE nU.c nU.v
theorem akb:FO 105 acT:=fq (E:=ahM) (aG Zn (aG acf (aG ack aY))) func105 (it:=λN=>abn N) (λN=>(bn (Yi N) bB)) nU.b nU.vo

def ahN:=en [(107,Df),(50,sU)] [(5,[1,2,4,5,6])]
def anR:Fn [.I, .R, .R, .R, .R, .I, .R, .R, .I, .I] As:=λa b c d e f g h i j=>[aV [.n a, .sh 51 b, .sh 9 c, .sh 9 d, .sh 26 e, .n f, .sh 75 g, .sh 72 h, .n i],aI j]
def asF:Fn [.B] dA:=λa=>⟨[aB a],[]⟩
def y_:Fn [.I, .B, .I, .I, .R, .R, .R, .R, .I, .R, .R, .I, .S, .S, .I, .I, .I] Tb:=λa b c d e f g h i j k l m o p q r=>[cI 2 a,cP 4 0,cA 8 (.b b),cP 10 1,cI 12 c,oB 1 [.n d, .sh 51 e, .sh 9 f, .sh 9 g, .sh 26 h, .n i, .sh 75 j, .sh 72 k, .n l],oB 3 [.s m, .s o, .n p, .n q, .n r]]
def Q1(N:aF)(K:Kt R):=np.l5 N (J y_ .ret K) (J y_ (.exit 0) K)
def abo(N:aF):It R:=(lp 5 (al y_ (λK=>Q1 N K N) an) ln)
theorem Yj(N:aF):b_ ahN (abo N (R:=R)) (bX f106 5):=lq 5 y_ (Q1 N) λK g=>np.r5 N g (J y_ .ret K) (J y_ (.exit 0) K)
def acU:=dY anR asF np.c np.v
theorem akc:FO 106 acU:=fq (E:=ahN) (aG Fk (aG vm aY)) func106 (it:=λN=>abo N) (λN=>(bn (Yj N) bB)) np.b np.vo

def E45:=en [(50,sU),(105,acT),(106,acU),(107,Df)] [(4,[1,2,3]),(9,[1,2,4])]
def A45:Fn [.I, .R, .R, .R, .R, .I, .R, .R, .I] As:=λa b c d e f g h i=>[aV [.n a, .sh 51 b, .sh 9 c, .sh 9 d, .sh 26 e, .n f, .sh 75 g, .sh 72 h, .n i]]
def k45:Fn [.B] dA:=λa=>⟨[aB a],[]⟩
def EG:Fn [.B, .I, .I, .R, .R, .R, .R, .I, .R, .R, .I] Tb:=λa b c d e f g h i j k=>[cP 2 0,cA 4 (.b a),cI 6 b,oB 1 [.n c, .sh 51 d, .sh 9 e, .sh 9 f, .sh 26 g, .n h, .sh 75 i, .sh 72 j, .n k]]
def EH:Fn [.B, .I, .I, .R, .R, .R, .R, .I, .R, .R, .I] Tb:=λa b c d e f g h i j k=>[cP 2 0,cA 4 (.b a),cI 8 b,oB 1 [.n c, .sh 51 d, .sh 9 e, .sh 9 f, .sh 26 g, .n h, .sh 75 i, .sh 72 j, .n k]]
def aaF(N:aF)(K:Kt R):=pj.l4 N (J EG .ret K) (J EG (.exit 0) K)
def aaG(N:aF)(K:Kt R):=pj.l9 N (J EH .ret K) (J EH (.exit 2) K)
def afC(N:aF):It R:=(lp 4 (al EG (λK=>aaF N K N) an) (lp 9 (al EH (λK=>aaG N K N) an) ln))
theorem afX(N:aF):b_ E45 (afC N (R:=R)) (bX f45 4):=lq 4 EG (aaF N) λK g=>pj.r4 N g (J EG .ret K) (J EG (.exit 0) K)
theorem afY(N:aF):b_ E45 (afC N (R:=R)) (bX f45 9):=lq 9 EH (aaG N) λK g=>pj.r9 N g (J EH .ret K) (J EH (.exit 2) K)
def ZQ:=dY A45 k45 pj.c pj.v
theorem agh:FO 45 ZQ:=fq (E:=E45) (aG vm (aG akb (aG akc (aG Fk aY)))) func45 (it:=λN=>afC N) (λN=>(bn (afX N) (bn (afY N) bB))) pj.b pj.vo

def aid:=en [] [(2,[1,2,4,5,6])]
def api:Fn [.I, .R, .R, .R, .R, .I, .R, .R, .I, .S] As:=λa b c d e f g h i j=>[aV [.n a, .sh 51 b, .sh 9 c, .sh 9 d, .sh 26 e, .n f, .sh 75 g, .sh 72 h, .n i],aS j]
def aub:Fn [.S, .I, .I, .S, .B] dA:=λa b c d e=>⟨[aV [.s a, .n b, .n c, .s d],aB e],[]⟩
def zp:Fn [.S, .B, .I, .I, .R, .R, .R, .R, .I, .R, .R, .I, .S, .I, .I, .S] Tb:=λa b c d e f g h i j k l m o p q=>[cA 2 (.s a),cP 4 0,cP 8 1,cA 10 (.b b),cI 12 c,oB 1 [.n d, .sh 51 e, .sh 9 f, .sh 9 g, .sh 26 h, .n i, .sh 75 j, .sh 72 k, .n l],oB 3 [.s m, .n o, .n p, .s q]]
def RH(N:aF)(K:Kt R):=wW.l2 N (J zp .ret K) (J zp (.exit 0) K)
def abQ(N:aF):It R:=(lp 2 (al zp (λK=>RH N K N) an) ln)
theorem YZ(N:aF):b_ aid (abQ N (R:=R)) (bX f233 2):=lq 2 zp (RH N) λK g=>wW.r2 N g (J zp .ret K) (J zp (.exit 0) K)
def adE:=dY api aub wW.c wW.v
theorem akU:FO 233 adE:=fq (E:=aid) aY func233 (it:=λN=>abQ N) (λN=>(bn (YZ N) bB)) wW.b wW.vo

def E13:=en [(49,VM),(50,sU)] []
def A13:Fn [.S, .I, .I, .S, .I] As:=λa b c d e=>[aV [.s a, .n b, .n c, .s d],aI e]
def k13:Fn [.B] dA:=λa=>⟨[aB a],[]⟩
def Qj:=dY A13 k13 (ct _) vT.v
theorem T7:FO 13 Qj:=ft (E:=E13) (aG Zn (aG vm aY)) func13 vT.b λ(a0,a1,a2,a3,a4,_)=>vT.eG _ a0 a1 a2 a3 a4

def aej:=en [] [(2,[0,1,5]),(6,[0,1,5,6])]
def aph:Fn [.I, .S] As:=λa b=>[.v ak [.i .u32 a],aS b]
def aua:Fn [.I] dA:=λa=>⟨[.v ak [.i .u32 a]],[]⟩
def Gt:Fn [.I, .S, .I] Tb:=λa b c=>[cA 0 (.i .u32 a),cA 2 (.s b),cI 10 c]
def Gu:Fn [.I, .S, .I, .I] Tb:=λa b c d=>[cA 0 (.i .u32 a),cA 2 (.s b),cI 10 c,cI 12 d]
def RF(N:aF)(K:Kt R):=jV.l2 N (J Gt (.exit 0) K)
def RG(N:aF)(K:Kt R):=jV.l6 N (J Gu (.exit 2) K)
def Tp(N:aF):It R:=(lp 2 (al Gt (λK=>RF N K N) an) (lp 6 (al Gu (λK=>RG N K N) an) ln))
theorem YX(N:aF):b_ aej (Tp N (R:=R)) (bX f232 2):=lq 2 Gt (RF N) λK g=>jV.r2 N g (J Gt (.exit 0) K)
theorem YY(N:aF):b_ aej (Tp N (R:=R)) (bX f232 6):=lq 6 Gu (RG N) λK g=>jV.r6 N g (J Gu (.exit 2) K)
def adD:=dY aph aua jV.c jV.v
theorem akT:FO 232 adD:=fq (E:=aej) aY func232 (it:=λN=>Tp N) (λN=>(bn (YX N) (bn (YY N) bB))) jV.b jV.vo

def aqx:=en [(232,adD)] []
def aoI:Fn [.S] As:=λa=>[aS a]
def atx:Fn [.I] dA:=λa=>⟨[.v ak [.i .u32 a]],[]⟩
def Vs:=dY aoI atx vW.c vW.v
theorem acm:FO 183 Vs:=fr (E:=aqx) (aG akT aY) func183 vW.b vW.vo

def aq1:=en [(183,Vs)] []
def apC:Fn [.I, .S] As:=λa b=>[aI a,aS b]
def auu:Fn [.I] dA:=λa=>⟨[aI a],[]⟩
def VJ:=dY apC auu gm.c gm.v
theorem acE:FO 258 VJ:=fr (E:=aq1) (aG acm aY) func258 gm.b gm.vo

def WV:=en [(244,Oq),(231,Ol),(258,VJ)] [(5,[1,4,5,6]),(14,[4,5,8]),(17,[4,5,8,9])]
def ao6:Fn [.R, .I, .S] As:=λa b c=>[aV [.sh 26 a, .n b],aS c]
def atW:Fn [.R, .I] dA:=λa b=>⟨[aV [.ow 26 ai a, .n b]],[]⟩
def Gq:Fn [.S, .I, .I, .I, .R] Tb:=λa b c d e=>[cA 2 (.s a),cP 8 0,cP 10 1,cI 12 b,oB 1 [.nl, .n c],oB 3 [.own 2, .n d],oR 5 26 e]
def Bi:Fn [.I, .I, .I, .R] Tb:=λa b c d=>[cP 8 0,cP 10 1,cI 16 a,oB 1 [.nl, .n b],oB 3 [.own 2, .n c],oR 5 26 d]
def Bj:Fn [.I, .I, .I, .I, .R] Tb:=λa b c d e=>[cP 8 0,cP 10 1,cI 16 a,cI 18 b,oB 1 [.nl, .n c],oB 3 [.own 2, .n d],oR 5 26 e]
def Rx(N:aF)(K:Kt R):=dv.l5 N (J Gq (.exit 0) K)
def MC(N:aF)(K:Kt R):=dv.l14 N (J Bi (.exit 2) K)
def MD(N:aF)(K:Kt R):=dv.l17 N (J Bj (.exit 4) K)
def NJ(N:aF):It R:=(lp 5 (al Gq (λK=>Rx N K N) an) (lp 14 (al Bi (λK=>MC N K N) an) (lp 17 (al Bj (λK=>MD N K N) an) ln)))
theorem YP(N:aF):b_ WV (NJ N (R:=R)) (bX f218 5):=lq 5 Gq (Rx N) λK g=>dv.r5 N g (J Gq (.exit 0) K)
theorem TS(N:aF):b_ WV (NJ N (R:=R)) (bX f218 14):=lq 14 Bi (MC N) λK g=>dv.r14 N g (J Bi (.exit 2) K)
theorem TT(N:aF):b_ WV (NJ N (R:=R)) (bX f218 17):=lq 17 Bj (MD N) λK g=>dv.r17 N g (J Bj (.exit 4) K)
def VA:=dY ao6 atW dv.c dv.v
theorem acv:FO 218 VA:=fq (E:=WV) (aG Uq (aG Un (aG acE aY))) func218 (it:=λN=>NJ N) (λN=>(bn (YP N) (bn (TS N) (bn (TT N) bB)))) dv.b dv.vo

def aia:=en [] [(3,[0,1,5,6])]
def ao8:Fn [.R, .S] As:=λa b=>[aH 9 a,aS b]
def atY:Fn [.R] dA:=λa=>⟨[aO 9 a],[]⟩
def Gr:Fn [.R, .S, .I, .R] Tb:=λa b c d=>[cH 0 9 a,cA 2 (.s b),cA 10 (.own 0),cI 12 c,oR 1 9 d]
def Rz(N:aF)(K:Kt R):=ph.l3 N (J Gr (.exit 0) K)
def abN(N:aF):It R:=(lp 3 (al Gr (λK=>Rz N K N) an) ln)
theorem YR(N:aF):b_ aia (abN N (R:=R)) (bX f220 3):=lq 3 Gr (Rz N) λK g=>ph.r3 N g (J Gr (.exit 0) K)
def VB:=dY ao8 atY ph.c ph.v
theorem acw:FO 220 VB:=fq (E:=aia) aY func220 (it:=λN=>abN N) (λN=>(bn (YR N) bB)) ph.b ph.vo

def aib:=en [(231,Ol),(258,VJ)] [(5,[1,2,5,6])]
def ao9:Fn [.R, .I, .S] As:=λa b c=>[aV [.sh 26 a, .n b],aS c]
def atZ:Fn [.I] dA:=λa=>⟨[aI a],[]⟩
def Gs:Fn [.S, .I, .I, .R, .I] Tb:=λa b c d e=>[cA 2 (.s a),cP 4 0,cI 10 b,cI 12 c,oB 1 [.sh 26 d, .n e]]
def RA(N:aF)(K:Kt R):=mL.l5 N (J Gs (.exit 0) K)
def abO(N:aF):It R:=(lp 5 (al Gs (λK=>RA N K N) an) ln)
theorem YS(N:aF):b_ aib (abO N (R:=R)) (bX f221 5):=lq 5 Gs (RA N) λK g=>mL.r5 N g (J Gs (.exit 0) K)
def ady:=dY ao9 atZ mL.c mL.v
theorem akO:FO 221 ady:=fq (E:=aib) (aG Un (aG acE aY)) func221 (it:=λN=>abO N) (λN=>(bn (YS N) bB)) mL.b mL.vo

def aqh:=en [(193,Vu),(179,Vr),(107,Df),(218,VA),(219,Oi),(220,VB),(221,ady)] []
def aof:Fn [.R, .R, .R, .I, .S] As:=λa b c d e=>[aV [.sh 9 a, .sh 9 b, .sh 26 c, .n d],aS e]
def as5:Fn [.R, .R, .R, .I, .S] dA:=λa b c d e=>⟨[aV [.ow 9 ai a, .ow 9 ai b, .ow 26 ai c, .n d],aS e],[]⟩
def Vk:=dY aof as5 e6.c e6.v
theorem acd:FO 151 Vk:=fr (E:=aqh) (aG aco (aG ack (aG Fk (aG acv (aG Ul (aG acw (aG akO aY))))))) func151 e6.b e6.vo

def aek:=en [] [(3,[0,3,5,6]),(9,[0,3,5,7])]
def apj:Fn [.R, .I, .S, .I, .I, .I, .S, .I] As:=λa b c d e f g h=>[aH 72 a,aV [.n b, .s c, .n d, .n e, .n f, .s g, .n h]]
def auc:Fn [.R] dA:=λa=>⟨[aO 72 a],[]⟩
def Gv:Fn [.R, .I, .I, .S, .I, .I, .I, .S, .I, .R] Tb:=λa b c d e f g h i j=>[cH 0 72 a,cP 6 0,cA 10 (.own 1),cI 12 b,oB 1 [.n c, .s d, .n e, .n f, .n g, .s h, .n i],oR 3 72 j]
def Gw:Fn [.R, .I, .I, .S, .I, .I, .I, .S, .I, .R] Tb:=λa b c d e f g h i j=>[cH 0 72 a,cP 6 0,cA 10 (.own 1),cI 14 b,oB 1 [.n c, .s d, .n e, .n f, .n g, .s h, .n i],oR 3 72 j]
def RI(N:aF)(K:Kt R):=lU.l3 N (J Gv (.exit 0) K)
def RJ(N:aF)(K:Kt R):=lU.l9 N (J Gw (.exit 2) K)
def Tq(N:aF):It R:=(lp 3 (al Gv (λK=>RI N K N) an) (lp 9 (al Gw (λK=>RJ N K N) an) ln))
theorem Y0(N:aF):b_ aek (Tq N (R:=R)) (bX f234 3):=lq 3 Gv (RI N) λK g=>lU.r3 N g (J Gv (.exit 0) K)
theorem Y1(N:aF):b_ aek (Tq N (R:=R)) (bX f234 9):=lq 9 Gw (RJ N) λK g=>lU.r9 N g (J Gw (.exit 2) K)
def adF:=dY apj auc lU.c lU.v
theorem akV:FO 234 adF:=fq (E:=aek) aY func234 (it:=λN=>Tq N) (λN=>(bn (Y0 N) (bn (Y1 N) bB))) lU.b lU.vo

def ahV:=en [] [(3,[0,1,5,6])]
def aog:Fn [.R, .S] As:=λa b=>[aH 51 a,aS b]
def as6:Fn [.R] dA:=λa=>⟨[aO 51 a],[]⟩
def Ga:Fn [.R, .S, .I, .R] Tb:=λa b c d=>[cH 0 51 a,cA 2 (.s b),cA 10 (.own 0),cI 12 c,oR 1 51 d]
def Q_(N:aF)(K:Kt R):=qo.l3 N (J Ga (.exit 0) K)
def abx(N:aF):It R:=(lp 3 (al Ga (λK=>Q_ N K N) an) ln)
theorem Ys(N:aF):b_ ahV (abx N (R:=R)) (bX f152 3):=lq 3 Ga (Q_ N) λK g=>qo.r3 N g (J Ga (.exit 0) K)
def Vl:=dY aog as6 qo.c qo.v
theorem ace:FO 152 Vl:=fq (E:=ahV) aY func152 (it:=λN=>abx N) (λN=>(bn (Ys N) bB)) qo.b qo.vo

def aqR:=en [(220,VB),(244,Oq)] []
def apk:Fn [.R, .R, .R, .I, .S] As:=λa b c d e=>[aV [.sh 9 a, .sh 9 b, .sh 26 c, .n d],aS e]
def aud:Fn [.R, .R, .R, .I] dA:=λa b c d=>⟨[aV [.ow 9 ai a, .ow 9 ai b, .ow 26 ai c, .n d]],[]⟩
def adG:=dY apk aud vg.c vg.v
theorem akW:FO 235 adG:=fr (E:=aqR) (aG acw (aG Uq aY)) func235 vg.b vg.vo

def aef:=en [(117,Dg),(45,ZQ),(50,sU),(107,Df),(233,adE),(13,Qj),(151,Vk),(234,adF),(152,Vl),(235,adG),(218,VA)] [(5,[1,2,3,6,7,8,9]),(22,[2,3,6,8,10,12,13])]
def aoK:Fn [.I, .R, .R, .R, .R, .I, .R, .R, .I, .I, .S] As:=λa b c d e f g h i j k=>[aV [.n a, .sh 51 b, .sh 9 c, .sh 9 d, .sh 26 e, .n f, .sh 75 g, .sh 72 h, .n i],aI j,aS k]
def atz:Fn [.I, .R, .R, .R, .R, .I, .R, .R, .I, .I] dA:=λa b c d e f g h i j=>⟨[aV [.n a, .ow 51 ai b, .ow 9 ai c, .ow 9 ai d, .ow 26 ai e, .n f, .ow 75 ai g, .ow 72 ai h, .n i],aI j],[]⟩
def Gj:Fn [.I, .S, .I, .I, .I, .R, .R, .R, .R, .I, .R, .R, .I, .I, .I, .I, .I, .I, .I, .R, .R, .R, .R, .R, .R] Tb:=λa b c d e f g h i j k l m o p q r s t u v w x y z=>[cI 2 a,cA 4 (.s b),cP 6 0,cP 12 1,cI 14 c,cP 16 2,cI 18 d,oB 1 [.n e, .sh 51 f, .sh 9 g, .sh 9 h, .sh 26 i, .n j, .sh 75 k, .sh 72 l, .n m],oB 3 [.n o, .nl, .nl, .nl, .nl, .n p, .nl, .nl, .n q],oB 5 [.n r, .own 3, .own 4, .own 5, .own 6, .n s, .own 7, .own 8, .n t],oR 7 51 u,oR 9 9 v,oR 11 9 w,oR 13 26 x,oR 15 75 y,oR 17 72 z]
def Im:Fn [.I, .S, .I, .I, .I, .R, .R, .R, .R, .I, .R, .R, .I, .I, .I, .I, .I, .I, .I, .R, .R, .R, .R, .R, .R] Tb:=λa b c d e f g h i j k l m o p q r s t u v w x y z=>[cI 2 a,cA 4 (.s b),cP 6 0,cP 12 1,cI 14 c,cP 16 2,cI 18 d,oB 1 [.n e, .sh 51 f, .sh 9 g, .sh 9 h, .sh 26 i, .n j, .sh 75 k, .sh 72 l, .n m],oB 3 [.n o, .own 3, .own 4, .own 5, .own 6, .n p, .own 7, .own 8, .n q],oB 5 [.n r, .own 3, .own 4, .own 5, .own 6, .n s, .own 7, .own 8, .n t],oR 7 51 u,oR 9 9 v,oR 11 9 w,oR 13 26 x,oR 15 75 y,oR 17 72 z]
def Bg:Fn [.S, .B, .I, .I, .R, .R, .R, .R, .I, .R, .R, .I, .I, .I, .I, .I, .I, .I, .I, .S, .I, .I, .I, .S, .I, .R, .R, .R, .R, .R, .R] Tb:=λa b c d e f g h i j k l m o p q r s t u v w x y z aa ab ac ad ae af=>[cA 4 (.s a),cP 6 0,cP 12 1,cP 16 2,cP 20 3,cA 24 (.b b),cI 26 c,oB 1 [.n d, .sh 51 e, .sh 9 f, .sh 9 g, .sh 26 h, .n i, .sh 75 j, .sh 72 k, .n l],oB 3 [.n m, .nl, .nl, .nl, .nl, .n o, .nl, .nl, .n p],oB 5 [.n q, .own 4, .own 5, .own 6, .own 7, .n r, .own 8, .own 9, .n s],oB 7 [.n t, .s u, .n v, .n w, .n x, .s y, .n z],oR 9 51 aa,oR 11 9 ab,oR 13 9 ac,oR 15 26 ad,oR 17 75 ae,oR 19 72 af]
def Ro(N:aF)(K:Kt R):=wS.l5 N (J Im .ret K) (J Gj (.exit 0) K)
def Mz(N:aF)(K:Kt R):=wS.Yf N (J Bg (.exit 2) K)
def Tl(N:aF):It R:=(lp 5 (al Gj (λK=>Ro N K N) an) (lp 22 (al Bg (λK=>Mz N K N) an) ln))
theorem YG(N:aF):b_ aef (Tl N (R:=R)) (bX f185 5):=lq 5 Gj (Ro N) λK g=>wS.r5 N g (J Im .ret K) (J Gj (.exit 0) K)
theorem TQ(N:aF):b_ aef (Tl N (R:=R)) (bX f185 22):=lq 22 Bg (Mz N) λK g=>wS.r22 N g (J Bg (.exit 2) K)
def adm:=dY aoK atz wS.c wS.v
theorem akC:FO 185 adm:=fq (E:=aef) (aG Fl (aG agh (aG vm (aG Fk (aG akU (aG T7 (aG acd (aG akV (aG ace (aG akW (aG acv aY))))))))))) func185 (it:=λN=>Tl N) (λN=>(bn (YG N) (bn (TQ N) bB))) wS.b wS.vo

def aqS:=en [(45,ZQ),(50,sU)] []
def apl:Fn [.I, .R, .R, .R, .R, .I, .R, .R, .I, .I] As:=λa b c d e f g h i j=>[aV [.n a, .sh 51 b, .sh 9 c, .sh 9 d, .sh 26 e, .n f, .sh 75 g, .sh 72 h, .n i],aI j]
def aue:Fn [.B] dA:=λa=>⟨[aB a],[]⟩
def On:=dY apl aue vh.c vh.v
theorem Uo:FO 236 On:=fr (E:=aqS) (aG agh (aG vm aY)) func236 vh.b vh.vo

def aq7:=en [] []
def apJ:Fn [.I, .S, .R] As:=λa b c=>[aV [.n a, .s b, .sh 237 c]]
def auC:Fn [.I, .S, .R] dA:=λa b c=>⟨[aV [.n a, .s b, .ow 237 ai c]],[]⟩
def adV:=dY apJ auC KC.c KC.v
theorem ala:FO 267 adV:=fh (E:=aq7) aY func267 (it:=λ_=>ln) (λ_=>bB) (λ_=>KC.b) λx f h=>⟨0,KC.eG _ x.1 x.2.1 x.2.2.1 h⟩

def ail:=en [(50,sU)] [(2,[1,2,3])]
def apK:Fn [.I, .S, .R] As:=λa b c=>[aV [.n a, .s b, .sh 237 c]]
def auD:Fn [.B] dA:=λa=>⟨[aB a],[]⟩
def zr:Fn [.B, .I, .I, .S, .R] Tb:=λa b c d e=>[cP 2 0,cA 4 (.b a),cI 6 b,oB 1 [.n c, .s d, .sh 237 e]]
def RT(N:aF)(K:Kt R):=lL.l2 N (J zr .ret K) (J zr (.exit 0) K)
def abX(N:aF):It R:=(lp 2 (al zr (λK=>RT N K N) an) ln)
theorem Y_(N:aF):b_ ail (abX N (R:=R)) (bX f268 2):=lq 2 zr (RT N) λK g=>lL.r2 N g (J zr .ret K) (J zr (.exit 0) K)
def adW:=dY apK auD (ct _) lL.v
theorem alb:FO 268 adW:=fh (E:=ail) (aG vm aY) func268 (it:=λN=>abX N) (λN=>(bn (Y_ N) bB)) lL.b λx f h=>lL.eG _ x.1 x.2.1 x.2.2.1 f.1.2.1 f.1.2.2.1

def aqT:=en [(267,adV),(268,adW),(50,sU)] []
def apm:Fn [.I, .S, .R, .S] As:=λa b c d=>[aV [.n a, .s b, .sh 237 c],aS d]
def auf:Fn [.I, .S, .R, .B] dA:=λa b c d=>⟨[aV [.n a, .s b, .ow 237 ai c],aB d],[]⟩
def adH:=dY apm auf GM.c GM.v
theorem akX:FO 237 adH:=fh (E:=aqT) (aG ala (aG alb (aG vm aY))) func237 (it:=λ_=>ln) (λ_=>bB) (λ_=>GM.b) λx f h=>⟨0,GM.eG _ x.1 x.2.1 x.2.2.1 x.2.2.2.1 h f.1.2.1 f.1.2.2.1 f.2.1.1⟩

def aie:=en [] [(1,[0,1,2,6])]
def apn:Fn [.I, .R, .R, .R, .R, .I, .R, .R, .I, .I, .I] As:=λa b c d e f g h i j k=>[.pt [.n a, .ow 51 ai b, .ow 9 ai c, .ow 9 ai d, .ow 26 ai e, .n f, .ow 75 ai g, .ow 72 ai h, .n i],aI j,aI k]
def aug:Fn [.I, .R, .R, .R, .R, .I, .R, .R, .I] dA:=λa b c d e f g h i=>⟨[],[[.n a, .kp b, .kp c, .kp d, .kp e, .n f, .kp g, .kp h, .n i]]⟩
def Gx:Fn [.I, .I, .I, .I, .I, .I, .R, .R, .R, .R, .R, .R] Tb:=λa b c d e f g h i j k l=>[cP 0 900000900,cI 2 a,cI 4 b,cI 12 c,oB 1800001801 [.n d, .own 900000001, .own 900000002, .own 900000003, .own 900000004, .n e, .own 900000006, .own 900000007, .n f],oR 1800000003 51 g,oR 1800000005 9 h,oR 1800000007 9 i,oR 1800000009 26 j,oR 1800000013 75 k,oR 1800000015 72 l]
def RK(N:aF)(K:Kt R):=sL.l1 N (J Gx (.exit 0) K)
def abR(N:aF):It R:=(lp 1 (al Gx (λK=>RK N K N) an) ln)
theorem Y2(N:aF):b_ aie (abR N (R:=R)) (bX f238 1):=lq 1 Gx (RK N) λK g=>sL.r1 N g (J Gx (.exit 0) K)
def Oo:=dY apn aug sL.c sL.v
theorem Up:FO 238 Oo:=fq (E:=aie) aY func238 (it:=λN=>abR N) (λN=>(bn (Y2 N) bB)) sL.b sL.vo

def aqy:=en [(117,Dg),(236,On),(237,adH),(238,Oo)] []
def aoL:Fn [.I, .R, .R, .R, .R, .I, .R, .R, .I, .I, .S] As:=λa b c d e f g h i j k=>[aV [.n a, .sh 51 b, .sh 9 c, .sh 9 d, .sh 26 e, .n f, .sh 75 g, .sh 72 h, .n i],aI j,aS k]
def atA:Fn [.I, .R, .R, .R, .R, .I, .R, .R, .I, .B] dA:=λa b c d e f g h i j=>⟨[aV [.n a, .ow 51 ai b, .ow 9 ai c, .ow 9 ai d, .ow 26 ai e, .n f, .ow 75 ai g, .ow 72 ai h, .n i],aB j],[]⟩
def adn:=dY aoL atA DR.c DR.v
theorem akD:FO 186 adn:=fr (E:=aqy) (aG Fl (aG Uo (aG akX (aG Up aY)))) func186 DR.b DR.vo

def E55:=en [] [(3,[0,3,5,6]),(9,[0,3,5,7])]
def A55:Fn [.R, .S, .I, .I, .S] As:=λa b c d e=>[aH 51 a,aV [.s b, .n c, .n d, .s e]]
def k55:Fn [.R] dA:=λa=>⟨[aO 51 a],[]⟩
def MW:Fn [.R, .I, .S, .I, .I, .S, .R] Tb:=λa b c d e f g=>[cH 0 51 a,cP 6 0,cA 10 (.own 1),cI 12 b,oB 1 [.s c, .n d, .n e, .s f],oR 3 51 g]
def MX:Fn [.R, .I, .S, .I, .I, .S, .R] Tb:=λa b c d e f g=>[cH 0 51 a,cP 6 0,cA 10 (.own 1),cI 14 b,oB 1 [.s c, .n d, .n e, .s f],oR 3 51 g]
def aaN(N:aF)(K:Kt R):=lN.l3 N (J MW (.exit 0) K)
def aaO(N:aF)(K:Kt R):=lN.l9 N (J MX (.exit 2) K)
def afE(N:aF):It R:=(lp 3 (al MW (λK=>aaN N K N) an) (lp 9 (al MX (λK=>aaO N K N) an) ln))
theorem af5(N:aF):b_ E55 (afE N (R:=R)) (bX f55 3):=lq 3 MW (aaN N) λK g=>lN.r3 N g (J MW (.exit 0) K)
theorem af6(N:aF):b_ E55 (afE N (R:=R)) (bX f55 9):=lq 9 MX (aaO N) λK g=>lN.r9 N g (J MX (.exit 2) K)
def agH:=dY A55 k55 lN.c lN.v
theorem als:FO 55 agH:=fq (E:=E55) aY func55 (it:=λN=>afE N) (λN=>(bn (af5 N) (bn (af6 N) bB))) lN.b lN.vo

def E88:=WC T md [(151,Vk),(152,Vl),(153,Vm),(55,agH)] [] [] [(0,1,.own 51),(0,2,.own 9),(0,3,.own 9),(0,4,.own 26)]
def A88:Fn [.I, .R, .R, .R, .R, .I, .R, .R, .I, .S, .I, .I, .S] As:=λa b c d e f g h i j k l m=>[.pt [.n a, .ow 51 ai b, .ow 9 ai c, .ow 9 ai d, .ow 26 ai e, .n f, .ow 75 ai g, .ow 72 ai h, .n i],aV [.s j, .n k, .n l, .s m]]
def k88:Fn [.I, .R, .R, .R, .R, .I, .R, .R, .I] dA:=λa b c d e f g h i=>⟨[],[[.n a, .ow 51 ai b, .ow 9 ai c, .ow 9 ai d, .ow 26 ai e, .n f, .kp g, .kp h, .n i]]⟩
def agK:=dY A88 k88 OV.c OV.v
theorem alw:FO 88 agK:=fr (E:=E88) (aG acd (aG ace (aG acf (aG als aY)))) func88 OV.b OV.vo

def aqU:=en [(117,Dg),(236,On),(50,sU),(238,Oo),(88,agK)] []
def apo:Fn [.I, .R, .R, .R, .R, .I, .R, .R, .I, .I, .I] As:=λa b c d e f g h i j k=>[aV [.n a, .sh 51 b, .sh 9 c, .sh 9 d, .sh 26 e, .n f, .sh 75 g, .sh 72 h, .n i],aI j,aI k]
def auh:Fn [.I, .R, .R, .R, .R, .I, .R, .R, .I, .B] dA:=λa b c d e f g h i j=>⟨[aV [.n a, .ow 51 ai b, .ow 9 ai c, .ow 9 ai d, .ow 26 ai e, .n f, .ow 75 ai g, .ow 72 ai h, .n i],aB j],[]⟩
def adI:=dY apo auh DU.c DU.v
theorem akY:FO 239 adI:=fr (E:=aqU) (aG Fl (aG Uo (aG vm (aG Up (aG alw aY))))) func239 DU.b DU.vo

def ah5:=en [] [(2,[0,3])]
def aoG:Fn [.I] As:=λa=>[aI a]
def atv:Fn [.S] dA:=λa=>⟨[aS a],[]⟩
def Gi:Fn [.I, .R] Tb:=λa b=>[cI 0 a,cA 6 (.own 0),oR 1 5 b]
def Rm(N:aF)(K:Kt R):=kF.l2 N (J Gi (.exit 0) K)
def abH(N:aF):It R:=(lp 2 (al Gi (λK=>Rm N K N) an) ln)
theorem YE(N:aF):b_ ah5 (abH N (R:=R)) (bX f181 2):=lq 2 Gi (Rm N) λK g=>kF.r2 N g (J Gi (.exit 0) K)
def Od:=dY aoG atv kF.c kF.v
theorem Ug:FO 181 Od:=fh (E:=ah5) aY func181 (it:=λN=>abH N) (λN=>(bn (YE N) bB)) kF.b λx f h=>kF.eG _ x.1 h

def ap5:=en [(49,VM),(181,Od)] []
def anZ:Fn [.S, .I, .I, .S] As:=λa b c d=>[aV [.s a, .n b, .n c, .s d]]
def asO:Fn [.S, .B] dA:=λa b=>⟨[aS a,aB b],[]⟩
def N9:=dY anZ asO (ct _) jM.v
theorem T6:FO 114 N9:=fh (E:=ap5) (aG Zn (aG Ug aY)) func114 (it:=λ_=>ln) (λ_=>bB) (λ_=>jM.b) λx f h=>⟨0,jM.eG _ x.1 x.2.1 x.2.2.1 x.2.2.2.1⟩

def aqw:=en [] []
def aoH:Fn [.I] As:=λa=>[.v ak [.i .u32 a]]
def atw:Fn [.S] dA:=λa=>⟨[aS a],[]⟩
def adk:=dY aoH atw (ct _) pe.v
theorem akA:FO 182 adk:=ft (E:=aqw) aY func182 pe.b λ(a0,_)=>pe.eG _ a0

def ap3:=en [(50,sU),(181,Od),(183,Vs),(182,adk)] []
def anX:Fn [.S] As:=λa=>[aS a]
def asM:Fn [.S, .B] dA:=λa b=>⟨[aS a,aB b],[]⟩
def N8:=dY anX asM fJ.c fJ.v
theorem T5:FO 112 N8:=fr (E:=ap3) (aG vm (aG Ug (aG acm (aG akA aY)))) func112 fJ.b fJ.vo

def aqV:=en [(114,N9),(112,N8)] []
def apq:Fn [.S, .I, .I, .S] As:=λa b c d=>[aV [.s a, .n b, .n c, .s d]]
def aui:Fn [.R, .B] dA:=λa b=>⟨[aO 218 a,aB b],[]⟩
def adJ:=dY apq aui DV.c DV.v
theorem akZ:FO 240 adJ:=fr (E:=aqV) (aG T6 (aG T5 aY)) func240 DV.b DV.vo

def ap1:=en [(50,sU)] []
def anU:Fn [.S] As:=λa=>[aS a]
def asI:Fn [.B] dA:=λa=>⟨[aB a],[]⟩
def Vd:=dY anU asI (ct _) qm.v
theorem ab6:FO 109 Vd:=ft (E:=ap1) (aG vm aY) func109 qm.b λ(a0,_)=>qm.eG _ a0

def E51:=en [(109,Vd),(50,sU)] [(4,[1,2,3])]
def A51:Fn [.R] As:=λa=>[aV [.sh 94 a]]
def k51:Fn [.B] dA:=λa=>⟨[aB a],[]⟩
def EM:Fn [.B, .I, .R] Tb:=λa b c=>[cP 2 0,cA 4 (.b a),cI 6 b,oB 1 [.sh 94 c]]
def aaL(N:aF)(K:Kt R):=gD.l4 N (J EM .ret K) (J EM (.exit 0) K)
def ajG(N:aF):It R:=(lp 4 (al EM (λK=>aaL N K N) an) ln)
theorem af3(N:aF):b_ E51 (ajG N (R:=R)) (bX f51 4):=lq 4 EM (aaL N) λK g=>gD.r4 N g (J EM .ret K) (J EM (.exit 0) K)
def Qk:=dY A51 k51 gD.c gD.v
theorem Uu:FO 51 Qk:=fq (E:=E51) (aG ab6 (aG vm aY)) func51 (it:=λN=>ajG N) (λN=>(bn (af3 N) bB)) gD.b gD.vo

def ahP:=en [] [(2,[1,2,4,5])]
def anV:Fn [.R, .S] As:=λa b=>[aV [.sh 94 a],aS b]
def asK:Fn [.I] dA:=λa=>⟨[aI a],[]⟩
def zb:Fn [.S, .I, .I, .R] Tb:=λa b c d=>[cA 2 (.s a),cP 4 0,cI 8 b,cI 10 c,oB 1 [.sh 94 d]]
def Q3(N:aF)(K:Kt R):=jB.l2 N (J zb .ret K) (J zb (.exit 0) K)
def abq(N:aF):It R:=(lp 2 (al zb (λK=>Q3 N K N) an) ln)
theorem Yl(N:aF):b_ ahP (abq N (R:=R)) (bX f110 2):=lq 2 zb (Q3 N) λK g=>jB.r2 N g (J zb .ret K) (J zb (.exit 0) K)
def Ve:=dY anV asK jB.c jB.v
theorem ab7:FO 110 Ve:=fq (E:=ahP) aY func110 (it:=λN=>abq N) (λN=>(bn (Yl N) bB)) jB.b jB.vo

def QX:=en [] [(3,[2,3,4,5,6]),(9,[2,3,4,5,7])]
def apU:Fn [.R, .S, .S, .I] As:=λa b c d=>[aV [.sh 94 a],aV [.s b, .s c, .n d]]
def auL:Fn [.R] dA:=λa=>⟨[aV [.ow 94 ai a]],[]⟩
def rJ:Fn [.I, .R, .S, .S, .I] Tb:=λa b c d e=>[cP 4 0,cP 6 1,cP 8 2,cP 10 3,cI 12 a,oB 1 [.sh 94 b],oB 3 [.s c, .s d, .n e],oB 5 [.nl],oB 7 [.nl]]
def oO:Fn [.I, .R, .S, .S, .I, .R] Tb:=λa b c d e f=>[cP 4 0,cP 6 1,cP 8 2,cP 10 3,cI 12 a,oB 1 [.sh 94 b],oB 3 [.s c, .s d, .n e],oB 5 [.nl],oB 7 [.own 4],oR 9 94 f]
def GI:Fn [.I, .R, .S, .S, .I, .R] Tb:=λa b c d e f=>[cP 4 0,cP 6 1,cP 8 2,cP 10 3,cI 14 a,oB 1 [.sh 94 b],oB 3 [.s c, .s d, .n e],oB 5 [.nl],oB 7 [.own 4],oR 9 94 f]
def RZ(N:aF)(K:Kt R):=eu.l3 N (J rJ (.exit 0) K) (J oO (.exit 0) K)
def MJ(N:aF)(K:Kt R):=eu.sO N (J rJ (.exit 0) K) (J oO (.exit 0) K)
def R0(N:aF)(K:Kt R):=eu.l9 N (J GI (.exit 2) K)
def Jt(N:aF):It R:=(lp 3 (al rJ (λK=>RZ N K N) (al oO (λK=>MJ N K N) an)) (lp 9 (al GI (λK=>R0 N K N) an) ln))
theorem OB(N:aF)(K:Kt R):Wd QX (Jt N) (bX f279 3) 3 K oO (MJ N K):=lw (λg=>eu.zQ N (cmp _ rJ (g∘fM)) (cmp _ oO (g∘fM)) (J rJ (.exit 0) K) (J oO (.exit 0) K)) λm i=>by simp only[dN,wf i];rfl
theorem agV(N:aF)(K:Kt R):Wd QX (Jt N) (bX f279 3) 3 K rJ (RZ N K):=lw (λg=>eu.r3 N (cmp _ rJ (g∘fM)) (cmp _ oO (g∘fM)) (J rJ (.exit 0) K) (J oO (.exit 0) K)) λm i=>by simp only[dN,wf i,wf (OB N K m)];rfl
theorem Zf(N:aF):b_ QX (Jt N (R:=R)) (bX f279 3):=lm 3 (ga rJ (agV N) (ga oO (OB N) oU))
theorem Zg(N:aF):b_ QX (Jt N (R:=R)) (bX f279 9):=lq 9 GI (R0 N) λK g=>eu.r9 N g (J GI (.exit 2) K)
def ad3:=dY apU auL eu.c eu.v
theorem ali:FO 279 ad3:=fq (E:=QX) aY func279 (it:=λN=>Jt N) (λN=>(bn (Zf N) (bn (Zg N) bB))) eu.b eu.vo

def WZ:=en [] [(3,[1,2,4,5,6])]
def apV:Fn [.R, .S] As:=λa b=>[aV [.sh 94 a],aS b]
def auM:Fn [.R] dA:=λa=>⟨[aV [.ow 94 ai a]],[]⟩
def rK:Fn [.S, .I, .R] Tb:=λa b c=>[cA 2 (.s a),cP 4 0,cP 8 1,cP 10 2,cI 12 b,oB 1 [.sh 94 c],oB 3 [.nl],oB 5 [.nl]]
def oP:Fn [.S, .I, .R, .R] Tb:=λa b c d=>[cA 2 (.s a),cP 4 0,cP 8 1,cP 10 2,cI 12 b,oB 1 [.sh 94 c],oB 3 [.nl],oB 5 [.own 3],oR 7 94 d]
def R2(N:aF)(K:Kt R):=eS.l3 N (J rK (.exit 0) K) (J oP (.exit 0) K)
def MK(N:aF)(K:Kt R):=eS.sO N (J rK (.exit 0) K) (J oP (.exit 0) K)
def NN(N:aF):It R:=(lp 3 (al rK (λK=>R2 N K N) (al oP (λK=>MK N K N) an)) ln)
theorem OC(N:aF)(K:Kt R):Wd WZ (NN N) (bX f280 3) 3 K oP (MK N K):=lw (λg=>eS.zQ N (cmp _ rK (g∘fM)) (cmp _ oP (g∘fM)) (J rK (.exit 0) K) (J oP (.exit 0) K)) λm i=>by simp only[dN,wf i];rfl
theorem agW(N:aF)(K:Kt R):Wd WZ (NN N) (bX f280 3) 3 K rK (R2 N K):=lw (λg=>eS.r3 N (cmp _ rK (g∘fM)) (cmp _ oP (g∘fM)) (J rK (.exit 0) K) (J oP (.exit 0) K)) λm i=>by simp only[dN,wf i,wf (OC N K m)];rfl
theorem Zh(N:aF):b_ WZ (NN N (R:=R)) (bX f280 3):=lm 3 (ga rK (agW N) (ga oP (OC N) oU))
def ad4:=dY apV auM eS.c eS.v
theorem alj:FO 280 ad4:=fq (E:=WZ) aY func280 (it:=λN=>NN N) (λN=>(bn (Zh N) bB)) eS.b eS.vo

def aq8:=en [(51,Qk),(109,Vd),(110,Ve),(279,ad3),(280,ad4)] []
def apM:Fn [.R, .I, .S, .S, .S] As:=λa b c d e=>[aV [.sh 94 a],aV [.n b, .s c, .s d, .s e]]
def auE:Fn [.R, .B] dA:=λa b=>⟨[aV [.ow 94 ai a],aB b],[]⟩
def adX:=dY apM auE B4.c B4.v
theorem alc:FO 269 adX:=fr (E:=aq8) (aG Uu (aG ab6 (aG ab7 (aG ali (aG alj aY))))) func269 B4.b B4.vo

def aif:=en [(269,adX)] [(3,[1,4,5,6,7])]
def apr:Fn [.R, .R] As:=λa b=>[aV [.sh 94 a],aH 218 b]
def auj:Fn [.R, .I] dA:=λa b=>⟨[aV [.ow 94 ai a],aI b],[]⟩
def Gy:Fn [.R, .I, .I, .R] Tb:=λa b c d=>[cH 2 218 a,cP 8 0,cI 10 b,cP 12 1,cI 14 c,oB 1 [.nl],oB 3 [.own 2],oR 5 94 d]
def Io:Fn [.R, .I, .I, .R] Tb:=λa b c d=>[cH 2 218 a,cP 8 0,cI 10 b,cP 12 1,cI 14 c,oB 1 [.own 2],oB 3 [.own 2],oR 5 94 d]
def RM(N:aF)(K:Kt R):=qp.l3 N (J Io .ret K) (J Gy (.exit 0) K)
def abS(N:aF):It R:=(lp 3 (al Gy (λK=>RM N K N) an) ln)
theorem Y3(N:aF):b_ aif (abS N (R:=R)) (bX f241 3):=lq 3 Gy (RM N) λK g=>qp.r3 N g (J Io .ret K) (J Gy (.exit 0) K)
def VF:=dY apr auj qp.c qp.v
theorem acA:FO 241 VF:=fq (E:=aif) (aG alc aY) func241 (it:=λN=>abS N) (λN=>(bn (Y3 N) bB)) qp.b qp.vo

def aqC:=en [] []
def aoR:Fn [.B] As:=λa=>[aB a]
def atG:Fn [.I] dA:=λa=>⟨[aI a],[]⟩
def Vt:=dY aoR atG (ct _) AY.v
theorem acn:FO 192 Vt:=ft (E:=aqC) aY func192 AY.b λ(a0,_)=>AY.eG _ a0

def aqz:=WC T md [(239,adI),(240,adJ),(241,VF),(192,Vt)] [] [] [(0,1,.own 51),(0,2,.own 9),(0,3,.own 9),(0,4,.own 26),(0,6,.own 75),(0,7,.own 72),(0,9,.own 94),(0,10,.own 3),(0,11,.own 51)]
def aoM:Fn [.I, .R, .R, .R, .R, .I, .R, .R, .I, .R, .R, .R, .I, .I, .S, .I, .R] As:=λa b c d e f g h i j k l m o p q r=>[.pt [.n a, .ow 51 ai b, .ow 9 ai c, .ow 9 ai d, .ow 26 ai e, .n f, .ow 75 ai g, .ow 72 ai h, .n i, .ow 94 ai j, .ow 3 ai k, .ow 51 ai l],aV [.n m, .n o, .s p, .n q, .sh 3 r]]
def atB:Fn [.I, .I, .R, .R, .R, .R, .I, .R, .R, .I, .R, .R, .R] dA:=λa b c d e f g h i j k l m=>⟨[aI a],[[.n b, .ow 51 ai c, .ow 9 ai d, .ow 9 ai e, .ow 26 ai f, .n g, .ow 75 ai h, .ow 72 ai i, .n j, .ow 94 ai k, .ow 3 ai l, .ow 51 ai m]]⟩
def ado:=dY aoM atB DS.c DS.v
theorem akE:FO 187 ado:=fr (E:=aqz) (aG akY (aG akZ (aG acA (aG acn aY)))) func187 DS.b DS.vo

def aqA:=en [(117,Dg),(236,On),(238,Oo)] []
def aoN:Fn [.I, .R, .R, .R, .R, .I, .R, .R, .I, .I] As:=λa b c d e f g h i j=>[aV [.n a, .sh 51 b, .sh 9 c, .sh 9 d, .sh 26 e, .n f, .sh 75 g, .sh 72 h, .n i],aI j]
def atC:Fn [.I, .R, .R, .R, .R, .I, .R, .R, .I, .B] dA:=λa b c d e f g h i j=>⟨[aV [.n a, .ow 51 ai b, .ow 9 ai c, .ow 9 ai d, .ow 26 ai e, .n f, .ow 75 ai g, .ow 72 ai h, .n i],aB j],[]⟩
def adp:=dY aoN atC DT.c DT.v
theorem akF:FO 188 adp:=fr (E:=aqA) (aG Fl (aG Uo (aG Up aY))) func188 DT.b DT.vo

def aqB:=en [(117,Dg)] []
def aoO:Fn [.I, .R, .R, .R, .R, .I, .R, .R, .I, .I] As:=λa b c d e f g h i j=>[aV [.n a, .sh 51 b, .sh 9 c, .sh 9 d, .sh 26 e, .n f, .sh 75 g, .sh 72 h, .n i],aI j]
def atD:Fn [.I, .R, .R, .R, .R, .I, .R, .R, .I] dA:=λa b c d e f g h i=>⟨[aV [.n a, .ow 51 ai b, .ow 9 ai c, .ow 9 ai d, .ow 26 ai e, .n f, .ow 75 ai g, .ow 72 ai h, .n i]],[]⟩
def adq:=dY aoO atD qK.c qK.v
theorem akG:FO 189 adq:=fr (E:=aqB) (aG Fl aY) func189 qK.b qK.vo

def ah6:=en [(117,Dg)] [(4,[1,2,4,5,6])]
def aoP:Fn [.I, .R, .R, .R, .R, .I, .R, .R, .I, .I] As:=λa b c d e f g h i j=>[aV [.n a, .sh 51 b, .sh 9 c, .sh 9 d, .sh 26 e, .n f, .sh 75 g, .sh 72 h, .n i],aI j]
def atE:Fn [.I, .R, .R, .R, .R, .I, .R, .R, .I] dA:=λa b c d e f g h i=>⟨[aV [.n a, .ow 51 ai b, .ow 9 ai c, .ow 9 ai d, .ow 26 ai e, .n f, .ow 75 ai g, .ow 72 ai h, .n i]],[]⟩
def Gk:Fn [.I, .I, .I, .R, .R, .R, .R, .I, .R, .R, .I, .I, .I, .I, .I, .I, .I, .R, .R, .R, .R, .R, .R] Tb:=λa b c d e f g h i j k l m o p q r s t u v w x=>[cI 2 a,cP 4 0,cP 8 1,cP 10 2,cI 12 b,oB 1 [.n c, .sh 51 d, .sh 9 e, .sh 9 f, .sh 26 g, .n h, .sh 75 i, .sh 72 j, .n k],oB 3 [.n l, .nl, .nl, .nl, .nl, .n m, .nl, .nl, .n o],oB 5 [.n p, .own 3, .own 4, .own 5, .own 6, .n q, .own 7, .own 8, .n r],oR 7 51 s,oR 9 9 t,oR 11 9 u,oR 13 26 v,oR 15 75 w,oR 17 72 x]
def Rp(N:aF)(K:Kt R):=tl.l4 N (J Gk (.exit 0) K)
def abI(N:aF):It R:=(lp 4 (al Gk (λK=>Rp N K N) an) ln)
theorem YH(N:aF):b_ ah6 (abI N (R:=R)) (bX f190 4):=lq 4 Gk (Rp N) λK g=>tl.r4 N g (J Gk (.exit 0) K)
def adr:=dY aoP atE tl.c tl.v
theorem akH:FO 190 adr:=fq (E:=ah6) (aG Fl aY) func190 (it:=λN=>abI N) (λN=>(bn (YH N) bB)) tl.b tl.vo

def WX:=en [(51,Qk)] [(5,[1,2,4,6,7])]
def aps:Fn [.R, .R] As:=λa b=>[aV [.sh 94 a],aH 3 b]
def auk:Fn [.R, .B] dA:=λa b=>⟨[aV [.ow 94 ai a],aB b],[]⟩
def rH:Fn [.R, .I, .R] Tb:=λa b c=>[cH 2 3 a,cP 4 0,cP 8 1,cP 12 2,cI 14 b,oB 1 [.sh 94 c],oB 3 [.nl],oB 5 [.nl]]
def oM:Fn [.R, .I, .R, .R] Tb:=λa b c d=>[cH 2 3 a,cP 4 0,cP 8 1,cP 12 2,cI 14 b,oB 1 [.sh 94 c],oB 3 [.nl],oB 5 [.own 3],oR 7 94 d]
def RN(N:aF)(K:Kt R):=wX.l5 N (J rH (.exit 0) K) (J oM (.exit 0) K)
def MF(N:aF)(K:Kt R):=wX.l5a N (J rH (.exit 0) K) (J oM (.exit 0) K)
def NL(N:aF):It R:=(lp 5 (al rH (λK=>RN N K N) (al oM (λK=>MF N K N) an)) ln)
theorem Oz(N:aF)(K:Kt R):Wd WX (NL N) (bX f242 5) 5 K oM (MF N K):=lw (λg=>wX.r5a N (cmp _ rH (g∘fM)) (cmp _ oM (g∘fM)) (J rH (.exit 0) K) (J oM (.exit 0) K)) λm i=>by simp only[dN,wf i];rfl
theorem agT(N:aF)(K:Kt R):Wd WX (NL N) (bX f242 5) 5 K rH (RN N K):=lw (λg=>wX.r5 N (cmp _ rH (g∘fM)) (cmp _ oM (g∘fM)) (J rH (.exit 0) K) (J oM (.exit 0) K)) λm i=>by simp only[dN,wf i,wf (Oz N K m)];rfl
theorem Y4(N:aF):b_ WX (NL N (R:=R)) (bX f242 5):=lm 5 (ga rH (agT N) (ga oM (Oz N) oU))
def adK:=dY aps auk wX.c wX.v
theorem ak0:FO 242 adK:=fq (E:=WX) (aG Uu aY) func242 (it:=λN=>NL N) (λN=>(bn (Y4 N) bB)) wX.b wX.vo

def E52:=en [(110,Ve)] []
def A52:Fn [.R, .S] As:=λa b=>[aV [.sh 94 a],aS b]
def k52:Fn [.S, .B] dA:=λa b=>⟨[aS a,aB b],[]⟩
def agG:=dY A52 k52 v7.c v7.v
theorem alr:FO 52 agG:=fr (E:=E52) (aG ab7 aY) func52 v7.b v7.vo

def ahQ:=en [(50,sU),(181,Od)] [(6,[0,1,4,5,6,7,8,9])]
def anW:Fn [.S, .I] As:=λa b=>[aS a,aI b]
def asL:Fn [.I, .I, .B] dA:=λa b c=>⟨[aI a,aI b,aB c],[]⟩
def zc:Fn [.S, .I, .I, .I, .B, .I, .I, .I] Tb:=λa b c d e f g h=>[cA 0 (.s a),cI 2 b,cI 8 c,cI 10 d,cA 12 (.b e),cI 14 f,cI 16 g,cI 18 h]
def Q4(N:aF)(K:Kt R):=fO.l6 N (J zc .ret K) (J zc (.exit 0) K)
def abr(N:aF):It R:=(lp 6 (al zc (λK=>Q4 N K N) an) ln)
theorem Ym(N:aF):b_ ahQ (abr N (R:=R)) (bX f111 6):=lq 6 zc (Q4 N) λK g=>fO.r6 N g (J zc .ret K) (J zc (.exit 0) K)
def N7:=dY anW asL (ct _) fO.v
theorem T4:FO 111 N7:=fh (E:=ahQ) (aG vm (aG Ug aY)) func111 (it:=λN=>abr N) (λN=>(bn (Ym N) bB)) fO.b λx f h=>fO.eG _ x.1 x.2.1 f.1.1

def E53:=en [(111,N7),(112,N8)] [(5,[0,2,3,4,5])]
def A53:Fn [.S] As:=λa=>[aS a]
def k53:Fn [.R, .I] dA:=λa b=>⟨[aO 9 a,aI b],[]⟩
def MV:Fn [.S, .I, .I, .R] Tb:=λa b c d=>[cA 0 (.s a),cA 4 .nl,cI 6 b,cA 8 (.own 0),cI 10 c,oR 1 9 d]
def M7:Fn [.S, .I, .I, .R] Tb:=λa b c d=>[cA 0 (.s a),cA 4 (.own 0),cI 6 b,cA 8 (.own 0),cI 10 c,oR 1 9 d]
def aaM(N:aF)(K:Kt R):=HY.l5 N (J M7 .ret K) (J MV (.exit 0) K)
def ajH(N:aF):It R:=(lp 5 (al MV (λK=>aaM N K N) an) ln)
theorem af4(N:aF):b_ E53 (ajH N (R:=R)) (bX f53 5):=lq 5 MV (aaM N) λK g=>HY.r5 N g (J M7 .ret K) (J MV (.exit 0) K)
def al7:=dY A53 k53 HY.c HY.v
theorem avd:FO 53 al7:=fq (E:=E53) (aG T4 (aG T5 aY)) func53 (it:=λN=>ajH N) (λN=>(bn (af4 N) bB)) HY.b HY.vo

def ap4:=en [(111,N7)] []
def anY:Fn [.S, .I] As:=λa b=>[aS a,aI b]
def asN:Fn [.S, .I, .B] dA:=λa b c=>⟨[aS a,aI b,aB c],[]⟩
def acW:=dY anY asN (ct _) qn.v
theorem ake:FO 113 acW:=fh (E:=ap4) (aG T4 aY) func113 (it:=λ_=>ln) (λ_=>bB) (λ_=>qn.b) λx f h=>⟨0,qn.eG _ x.1 x.2.1 f.1.1⟩

def E54:=en [(113,acW),(111,N7),(114,N9)] []
def A54:Fn [.S] As:=λa=>[aS a]
def k54:Fn [.S, .I, .I, .S, .B] dA:=λa b c d e=>⟨[aV [.s a, .n b, .n c, .s d],aB e],[]⟩
def al8:=dY A54 k54 (ct _) rM.v
theorem ave:FO 54 al8:=fh (E:=E54) (aG ake (aG T4 (aG T6 aY))) func54 (it:=λ_=>ln) (λ_=>bB) (λ_=>rM.b) λx f h=>⟨0,rM.eG _ x.1 f.1.1⟩

def E14:=en [(51,Qk),(52,agG),(53,al7),(54,al8),(55,agH)] [(7,[3,6,8])]
def A14:Fn [.R] As:=λa=>[aV [.sh 94 a]]
def k14:Fn [.R] dA:=λa=>⟨[aO 51 a],[]⟩
def MP:Fn [.I, .R, .R] Tb:=λa b c=>[cA 6 (.own 0),cA 12 (.own 1),cI 16 a,oR 1 51 b,oR 3 9 c]
def aaw(N:aF)(K:Kt R):=yL.l7 N (J MP (.exit 0) K)
def ajw(N:aF):It R:=(lp 7 (al MP (λK=>aaw N K N) an) ln)
theorem afO(N:aF):b_ E14 (ajw N (R:=R)) (bX f14 7):=lq 7 MP (aaw N) λK g=>yL.r7 N g (J MP (.exit 0) K)
def ZP:=dY A14 k14 yL.c yL.v
theorem agf:FO 14 ZP:=fq (E:=E14) (aG Uu (aG alr (aG avd (aG ave (aG als aY))))) func14 (it:=λN=>ajw N) (λN=>(bn (afO N) bB)) yL.b yL.vo

def aih:=en [(51,Qk),(52,agG),(114,N9),(112,N8)] [(9,[1,4,5,6,9,10])]
def apt:Fn [.R, .R] As:=λa b=>[aV [.sh 94 a],aH 51 b]
def aul:Fn [.R, .B] dA:=λa b=>⟨[aO 218 a,aB b],[]⟩
def Gz:Fn [.R, .B, .S, .I, .R] Tb:=λa b c d e=>[cH 2 51 a,cA 8 .nl,cA 10 (.b b),cA 12 (.own 0),cA 18 (.s c),cI 20 d,oR 1 218 e]
def Ip:Fn [.R, .B, .S, .I, .R, .R] Tb:=λa b c d e f=>[cH 2 51 a,cA 8 (.own 0),cA 10 (.b b),cA 12 (.own 1),cA 18 (.s c),cI 20 d,oR 1 218 e,oR 3 218 f]
def RO(N:aF)(K:Kt R):=jN.l9 N (J Ip .ret K) (J Gz (.exit 0) K)
def abT(N:aF):It R:=(lp 9 (al Gz (λK=>RO N K N) an) ln)
theorem Y5(N:aF):b_ aih (abT N (R:=R)) (bX f243 9):=lq 9 Gz (RO N) λK g=>jN.r9 N g (J Ip .ret K) (J Gz (.exit 0) K)
def adL:=dY apt aul jN.c jN.v
theorem ak1:FO 243 adL:=fq (E:=aih) (aG Uu (aG alr (aG T6 (aG T5 aY)))) func243 (it:=λN=>abT N) (λN=>(bn (Y5 N) bB)) jN.b jN.vo

def E33:=en [(57,agI),(49,VM),(13,Qj),(88,agK)] [(4,[0,1,4,5,6])]
def A33:Fn [.I, .R] As:=λa b=>[aI a,aH 51 b]
def k33:Fn [.I, .R, .R, .R, .R, .I, .R, .R, .I] dA:=λa b c d e f g h i=>⟨[aV [.n a, .ow 51 ai b, .ow 9 ai c, .ow 9 ai d, .ow 26 ai e, .n f, .ow 75 ai g, .ow 72 ai h, .n i]],[]⟩
def MR:Fn [.I, .R, .I, .I, .I, .I, .I, .I, .I, .R, .R, .R, .R, .R, .R] Tb:=λa b c d e f g h i j k l m o p=>[cI 0 a,cH 2 51 b,cP 8 0,cP 10 1,cI 12 c,oB 1 [.n d, .nl, .nl, .nl, .nl, .n e, .nl, .nl, .n f],oB 3 [.n g, .own 2, .own 3, .own 4, .own 5, .n h, .own 6, .own 7, .n i],oR 5 51 j,oR 7 9 k,oR 9 9 l,oR 11 26 m,oR 13 75 o,oR 15 72 p]
def aaz(N:aF)(K:Kt R):=Ae.l4 N (J MR (.exit 0) K)
def ajz(N:aF):It R:=(lp 4 (al MR (λK=>aaz N K N) an) ln)
theorem afR(N:aF):b_ E33 (ajz N (R:=R)) (bX f33 4):=lq 4 MR (aaz N) λK g=>Ae.r4 N g (J MR (.exit 0) K)
def al0:=dY A33 k33 Ae.c Ae.v
theorem au7:FO 33 al0:=fq (E:=E33) (aG alu (aG Zn (aG T7 (aG alw aY)))) func33 (it:=λN=>ajz N) (λN=>(bn (afR N) bB)) Ae.b Ae.vo

def WU:=WC T md [(242,adK),(14,ZP),(13,Qj),(243,adL),(241,VF),(33,al0)] [(7,[0,6,7,8])] [] [(0,1,.own 51),(0,2,.own 9),(0,3,.own 9),(0,4,.own 26),(0,6,.own 75),(0,7,.own 72),(0,9,.own 94),(0,10,.own 3),(0,11,.own 51)]
def aoQ:Fn [.I, .R, .R, .R, .R, .I, .R, .R, .I, .R, .R, .R, .I, .I, .S, .I, .R] As:=λa b c d e f g h i j k l m o p q r=>[.pt [.n a, .ow 51 ai b, .ow 9 ai c, .ow 9 ai d, .ow 26 ai e, .n f, .ow 75 ai g, .ow 72 ai h, .n i, .ow 94 ai j, .ow 3 ai k, .ow 51 ai l],aV [.n m, .n o, .s p, .n q, .sh 3 r]]
def atF:Fn [.I, .R, .R, .R, .R, .I, .R, .R, .I, .R, .R, .R] dA:=λa b c d e f g h i j k l=>⟨[],[[.n a, .ow 51 ai b, .ow 9 ai c, .ow 9 ai d, .ow 26 ai e, .n f, .ow 75 ai g, .ow 72 ai h, .n i, .ow 94 ai j, .ow 3 ai k, .ow 51 ai l]]⟩
def rF:Fn [.I, .I, .I, .I, .R, .R, .R, .R, .R, .R, .R, .R, .R, .R, .R] Tb:=λa b c d e f g h i j k l m o p=>[cP 0 900000900,cA 12 (.own 1),cA 14 (.own 2),cI 16 a,oB 1800001801 [.n b, .own 900000001, .own 900000002, .own 900000003, .own 900000004, .n c, .own 900000006, .own 900000007, .n d, .own 9, .own 900000010, .own 900000011],oR 3 51 e,oR 5 51 f,oR 1800000003 51 g,oR 1800000005 9 h,oR 1800000007 9 i,oR 1800000009 26 j,oR 1800000013 75 k,oR 1800000015 72 l,oR 19 94 m,oR 1800000021 3 o,oR 1800000023 51 p]
def oK:Fn [.I, .I, .I, .I, .R, .R, .R, .R, .R, .R, .R, .R, .R, .R, .R] Tb:=λa b c d e f g h i j k l m o p=>[cP 0 900000900,cA 12 (.own 1),cA 14 (.own 2),cI 16 a,oB 1800001801 [.n b, .own 900000001, .own 900000002, .own 900000003, .own 900000004, .n c, .own 900000006, .own 900000007, .n d, .own 900000009, .own 900000010, .own 900000011],oR 3 51 e,oR 5 51 f,oR 1800000003 51 g,oR 1800000005 9 h,oR 1800000007 9 i,oR 1800000009 26 j,oR 1800000013 75 k,oR 1800000015 72 l,oR 1800000019 94 m,oR 1800000021 3 o,oR 1800000023 51 p]
def Rq(N:aF)(K:Kt R):=wT.l7 N (J rF (.exit 0) K) (J oK (.exit 0) K)
def MA(N:aF)(K:Kt R):=wT.l7a N (J rF (.exit 0) K) (J oK (.exit 0) K)
def NI(N:aF):It R:=(lp 7 (al rF (λK=>Rq N K N) (al oK (λK=>MA N K N) an)) ln)
theorem Ox(N:aF)(K:Kt R):Wd WU (NI N) (bX f191 7) 7 K oK (MA N K):=lw (λg=>wT.r7a N (cmp _ rF (g∘fM)) (cmp _ oK (g∘fM)) (J rF (.exit 0) K) (J oK (.exit 0) K)) λm i=>by simp only[dN,wf i];rfl
theorem agR(N:aF)(K:Kt R):Wd WU (NI N) (bX f191 7) 7 K rF (Rq N K):=lw (λg=>wT.r7 N (cmp _ rF (g∘fM)) (cmp _ oK (g∘fM)) (J rF (.exit 0) K) (J oK (.exit 0) K)) λm i=>by simp only[dN,wf i,wf (Ox N K m)];rfl
theorem YI(N:aF):b_ WU (NI N (R:=R)) (bX f191 7):=lm 7 (ga rF (agR N) (ga oK (Ox N) oU))
def ads:=dY aoQ atF wT.c wT.v
theorem akI:FO 191 ads:=fq (E:=WU) (aG ak0 (aG agf (aG T7 (aG ak1 (aG acA (aG au7 aY)))))) func191 (it:=λN=>NI N) (λN=>(bn (YI N) bB)) wT.b wT.vo

def ap7:=WC T md [(185,adm),(186,adn),(187,ado),(188,adp),(189,adq),(190,adr),(191,ads),(192,Vt)] [] [] [(0,1,.own 51),(0,2,.own 9),(0,3,.own 9),(0,4,.own 26),(0,6,.own 75),(0,7,.own 72),(0,9,.own 94),(0,10,.own 3),(0,11,.own 51)]
def an1:Fn [.I, .R, .R, .R, .R, .I, .R, .R, .I, .R, .R, .R, .I, .I, .S, .I, .R] As:=λa b c d e f g h i j k l m o p q r=>[.pt [.n a, .ow 51 ai b, .ow 9 ai c, .ow 9 ai d, .ow 26 ai e, .n f, .ow 75 ai g, .ow 72 ai h, .n i, .ow 94 ai j, .ow 3 ai k, .ow 51 ai l],aV [.n m, .n o, .s p, .n q, .sh 3 r]]
def asQ:Fn [.I, .I, .R, .R, .R, .R, .I, .R, .R, .I, .R, .R, .R] dA:=λa b c d e f g h i j k l m=>⟨[aI a],[[.n b, .ow 51 ai c, .ow 9 ai d, .ow 9 ai e, .ow 26 ai f, .n g, .ow 75 ai h, .ow 72 ai i, .n j, .ow 94 ai k, .ow 3 ai l, .ow 51 ai m]]⟩
def acY:=dY an1 asQ DN.c DN.v
theorem akg:FO 116 acY:=fr (E:=ap7) (aG akC (aG akD (aG akE (aG akF (aG akG (aG akH (aG akI (aG acn aY)))))))) func116 DN.b DN.vo

def E58:=WC T md [(116,acY)] [] [] [(0,1,.own 51),(0,2,.own 9),(0,3,.own 9),(0,4,.own 26),(0,6,.own 75),(0,7,.own 72),(0,9,.own 94),(0,10,.own 3),(0,11,.own 51)]
def A58:Fn [.I, .R, .R, .R, .R, .I, .R, .R, .I, .R, .R, .R, .I, .I, .S, .I, .R] As:=λa b c d e f g h i j k l m o p q r=>[.pt [.n a, .ow 51 ai b, .ow 9 ai c, .ow 9 ai d, .ow 26 ai e, .n f, .ow 75 ai g, .ow 72 ai h, .n i, .ow 94 ai j, .ow 3 ai k, .ow 51 ai l],aV [.n m, .n o, .s p, .n q, .sh 3 r]]
def k58:Fn [.I, .R, .R, .R, .R, .I, .R, .R, .I, .R, .R, .R] dA:=λa b c d e f g h i j k l=>⟨[],[[.n a, .ow 51 ai b, .ow 9 ai c, .ow 9 ai d, .ow 26 ai e, .n f, .ow 75 ai g, .ow 72 ai h, .n i, .ow 94 ai j, .ow 3 ai k, .ow 51 ai l]]⟩
def al9:=dY A58 k58 Ka.c Ka.v
theorem avf:FO 58 al9:=fr (E:=E58) (aG akg aY) func58 Ka.b Ka.vo

def E38:=en [(57,agI),(93,amf),(94,agM),(41,L9),(58,al9)] [(7,[0,5,6,7,8,1000000005009094,1000000005010003,1000000005011051])]
def A38:Fn [.R, .I, .I, .R] As:=λa b c d=>[.pt [.sh 5 a, .n b, .n c],aH 5 d]
def k38:Fn [.R, .R, .I, .I] dA:=λa b c d=>⟨[aO 29 a],[[.sh 5 b, .n c, .n d]]⟩
def MS:Fn [.I, .I, .R, .I, .I, .I, .I, .I, .R, .R, .R, .R, .R, .R, .R, .R, .R, .R] Tb:=λa b c d e f g h i j k l m o p q r s=>[cP 0 900000900,cP 10 1,cA 12 (.own 2),cI 14 a,cI 16 b,oB 1800001801 [.sh 5 c, .n d, .n e],oB 3 [.n f, .own 3, .own 4, .own 5, .own 6, .n g, .own 7, .own 8, .n h, .own 9, .own 10, .own 11],oR 5 29 i,oR 7 51 j,oR 9 9 k,oR 11 9 l,oR 13 26 m,oR 15 75 o,oR 17 72 p,oR 19 94 q,oR 21 3 r,oR 23 51 s]
def aaB(N:aF)(K:Kt R):=Qx.l7 N (J MS (.exit 0) K)
def ajB(N:aF):It R:=(lp 7 (al MS (λK=>aaB N K N) an) ln)
theorem afT(N:aF):b_ E38 (ajB N (R:=R)) (bX f38 7):=lq 7 MS (aaB N) λK g=>Qx.r7 N g (J MS (.exit 0) K)
def al2:=dY A38 k38 Qx.c Qx.v
theorem au9:FO 38 al2:=fq (E:=E38) (aG alu (aG avm (aG aly (aG PS (aG avf aY))))) func38 (it:=λN=>ajB N) (λN=>(bn (afT N) bB)) Qx.b Qx.vo

def E9:=en [(39,agC),(38,al2)] []
def A9:Fn [.R] As:=λa=>[aH 5 a]
def k9:Fn [.R] dA:=λa=>⟨[aO 29 a],[]⟩
def sp9:=dY A9 k9 U9.c U9.v
theorem ok9:FO 9 sp9:=fr (E:=E9) (aG aln (aG au9 aY)) func9 U9.b U9.vo

def E10:=en [(39,agC),(40,agD),(41,L9)] [(5,[3,4,5])]
def A10:Fn [.R] As:=λa=>[aH 5 a]
def k10:Fn [.R] dA:=λa=>⟨[aO 3 a],[]⟩
def MO:Fn [.I, .R, .I, .I, .R] Tb:=λa b c d e=>[cP 6 0,cA 8 (.own 1),cI 10 a,oB 1 [.sh 5 b, .n c, .n d],oR 3 3 e]
def aat(N:aF)(K:Kt R):=M0.l5 N (J MO (.exit 0) K)
def aju(N:aF):It R:=(lp 5 (al MO (λK=>aat N K N) an) ln)
theorem afL(N:aF):b_ E10 (aju N (R:=R)) (bX f10 5):=lq 5 MO (aat N) λK g=>M0.r5 N g (J MO (.exit 0) K)
def alU:=dY A10 k10 M0.c M0.v
theorem au0:FO 10 alU:=fq (E:=E10) (aG aln (aG alo (aG PS aY))) func10 (it:=λN=>aju N) (λN=>(bn (afL N) bB)) M0.b M0.vo

def E82:=en [] []
def A82:Fn [.I, .I, .I] As:=λa b c=>[aI a,aI b,aI c]
def k82:Fn [.B] dA:=λa=>⟨[aB a],[]⟩
def qy:=dY A82 k82 (ct _) lB.v
theorem qT:FO 82 qy:=ft (E:=E82) aY func82 lB.b λ(a0,a1,a2,_)=>lB.eG _ a0 a1 a2

def E31:=en [(82,qy)] []
def A31:Fn [.I, .I, .S, .I, .R] As:=λa b c d e=>[aV [.n a, .n b, .s c, .n d, .sh 3 e]]
def k31:Fn [.B] dA:=λa=>⟨[aB a],[]⟩
def alY:=dY A31 k31 (ct _) U31.v
theorem au5:FO 31 alY:=ft (E:=E31) (aG qT aY) func31 U31.b λ(a0,a1,a2,a3,a4,_)=>U31.eG _ a0 a1 a2 a3 a4

def WR:=en [] [(3,[0,1,3])]
def aol:Fn [] As:=[]
def ata:Fn [.R, .I] dA:=λa b=>⟨[aV [.ow 26 ai a, .n b]],[]⟩
def rD:Fn [.I, .I, .I] Tb:=λa b c=>[cP 0 0,cP 2 1,cI 6 a,oB 1 [.nl, .n b],oB 3 [.nl, .n c]]
def oI:Fn [.I, .I, .I, .R] Tb:=λa b c d=>[cP 0 0,cP 2 1,cI 6 a,oB 1 [.nl, .n b],oB 3 [.own 2, .n c],oR 5 26 d]
def Rb(N:aF)(K:Kt R):=GK.l3 N (J rD (.exit 0) K) (J oI (.exit 0) K)
def Mt(N:aF)(K:Kt R):=GK.sO N (J rD (.exit 0) K) (J oI (.exit 0) K)
def NF(N:aF):It R:=(lp 3 (al rD (λK=>Rb N K N) (al oI (λK=>Mt N K N) an)) ln)
theorem Ov(N:aF)(K:Kt R):Wd WR (NF N) (bX f159 3) 3 K oI (Mt N K):=lw (λg=>GK.zQ N (cmp _ rD (g∘fM)) (cmp _ oI (g∘fM)) (J rD (.exit 0) K) (J oI (.exit 0) K)) λm i=>by simp only[dN,wf i];rfl
theorem agP(N:aF)(K:Kt R):Wd WR (NF N) (bX f159 3) 3 K rD (Rb N K):=lw (λg=>GK.r3 N (cmp _ rD (g∘fM)) (cmp _ oI (g∘fM)) (J rD (.exit 0) K) (J oI (.exit 0) K)) λm i=>by simp only[dN,wf i,wf (Ov N K m)];rfl
theorem Yu(N:aF):b_ WR (NF N (R:=R)) (bX f159 3):=lm 3 (ga rD (agP N) (ga oI (Ov N) oU))
def ac4:=dY aol ata GK.c GK.v
theorem akm:FO 159 ac4:=fq (E:=WR) aY func159 (it:=λN=>NF N) (λN=>(bn (Yu N) bB)) GK.b GK.vo

def E95:=en [(159,ac4)] []
def A95:Fn [] As:=[]
def k95:Fn [.R, .R, .R, .I] dA:=λa b c d=>⟨[aV [.ow 9 ai a, .ow 9 ai b, .ow 26 ai c, .n d]],[]⟩
def amg:=dY A95 k95 (ct _) U95.v
theorem avn:FO 95 amg:=ft (E:=E95) (aG akm aY) func95 U95.b λ_=>U95.eG _

def E42:=en [(95,amg)] []
def A42:Fn [] As:=[]
def k42:Fn [.I, .R, .R, .R, .R, .I, .R, .R, .I] dA:=λa b c d e f g h i=>⟨[aV [.n a, .ow 51 ai b, .ow 9 ai c, .ow 9 ai d, .ow 26 ai e, .n f, .ow 75 ai g, .ow 72 ai h, .n i]],[]⟩
def agE:=dY A42 k42 (ct _) U42.v
theorem alp:FO 42 agE:=ft (E:=E42) (aG avn aY) func42 U42.b λ_=>U42.eG _

def aqK:=en [] []
def ao4:Fn [.R] As:=λa=>[aH 51 a]
def atU:Fn [.R] dA:=λa=>⟨[aO 51 a],[]⟩
def Vy:=dY ao4 atU wV.c wV.v
theorem acs:FO 216 Vy:=fr (E:=aqK) aY func216 wV.b wV.vo

def aqZ:=en [] []
def apz:Fn [.R] As:=λa=>[aH 9 a]
def aur:Fn [.R] dA:=λa=>⟨[aO 9 a],[]⟩
def VH:=dY apz aur tq.c tq.v
theorem acC:FO 255 VH:=fr (E:=aqZ) aY func255 tq.b tq.vo

def aq2:=en [] []
def apD:Fn [.R] As:=λa=>[aH 3 a]
def auv:Fn [.R] dA:=λa=>⟨[aO 3 a],[]⟩
def adQ:=dY apD auv v5.c v5.v
theorem ak6:FO 261 adQ:=fr (E:=aq2) aY func261 v5.b v5.vo

def WW:=en [(261,adQ)] [(3,[2,3,10,11,12])]
def ao_:Fn [.R, .I] As:=λa b=>[aV [.sh 26 a, .n b]]
def at0:Fn [.R, .I] dA:=λa b=>⟨[aV [.ow 26 ai a, .n b]],[]⟩
def rG:Fn [.R, .I, .I, .I, .I] Tb:=λa b c d e=>[cP 4 0,cP 6 1,cH 20 26 a,cI 22 b,cI 24 c,oB 1 [.nl, .n d],oB 3 [.nl, .n e]]
def oL:Fn [.R, .I, .I, .I, .I, .R] Tb:=λa b c d e f=>[cP 4 0,cP 6 1,cH 20 26 a,cI 22 b,cI 24 c,oB 1 [.nl, .n d],oB 3 [.own 2, .n e],oR 5 26 f]
def RB(N:aF)(K:Kt R):=jq.l3 N (J rG (.exit 0) K) (J oL (.exit 0) K)
def ME(N:aF)(K:Kt R):=jq.sO N (J rG (.exit 0) K) (J oL (.exit 0) K)
def NK(N:aF):It R:=(lp 3 (al rG (λK=>RB N K N) (al oL (λK=>ME N K N) an)) ln)
theorem Oy(N:aF)(K:Kt R):Wd WW (NK N) (bX f224 3) 3 K oL (ME N K):=lw (λg=>jq.zQ N (cmp _ rG (g∘fM)) (cmp _ oL (g∘fM)) (J rG (.exit 0) K) (J oL (.exit 0) K)) λm i=>by simp only[dN,wf i];rfl
theorem agS(N:aF)(K:Kt R):Wd WW (NK N) (bX f224 3) 3 K rG (RB N K):=lw (λg=>jq.r3 N (cmp _ rG (g∘fM)) (cmp _ oL (g∘fM)) (J rG (.exit 0) K) (J oL (.exit 0) K)) λm i=>by simp only[dN,wf i,wf (Oy N K m)];rfl
theorem YT(N:aF):b_ WW (NK N (R:=R)) (bX f224 3):=lm 3 (ga rG (agS N) (ga oL (Oy N) oU))
def VC:=dY ao_ at0 jq.c jq.v
theorem acx:FO 224 VC:=fq (E:=WW) (aG ak6 aY) func224 (it:=λN=>NK N) (λN=>(bn (YT N) bB)) jq.b jq.vo

def aqI:=en [(255,VH),(224,VC)] []
def ao0:Fn [.R, .R, .R, .I] As:=λa b c d=>[aV [.sh 9 a, .sh 9 b, .sh 26 c, .n d]]
def atP:Fn [.R, .R, .R, .I] dA:=λa b c d=>⟨[aV [.ow 9 ai a, .ow 9 ai b, .ow 26 ai c, .n d]],[]⟩
def Oh:=dY ao0 atP jw.c jw.v
theorem Uk:FO 212 Oh:=fr (E:=aqI) (aG acC (aG acx aY)) func212 jw.b jw.vo

def aql:=en [(216,Vy),(212,Oh)] []
def aom:Fn [.I, .R, .R, .R, .R, .I, .R, .R, .I] As:=λa b c d e f g h i=>[aV [.n a, .sh 51 b, .sh 9 c, .sh 9 d, .sh 26 e, .n f, .sh 75 g, .sh 72 h, .n i]]
def atb:Fn [.I, .R, .R, .R, .R, .I, .R, .R, .I] dA:=λa b c d e f g h i=>⟨[aV [.n a, .ow 51 ai b, .ow 9 ai c, .ow 9 ai d, .ow 26 ai e, .n f, .ow 75 ai g, .ow 72 ai h, .n i]],[]⟩
def Di:=dY aom atb iP.c iP.v
theorem Fo:FO 160 Di:=fr (E:=aql) (aG acs (aG Uk aY)) func160 iP.b iP.vo

def aqe:=en [(82,qy)] []
def aoc:Fn [.S] As:=λa=>[aS a]
def as2:Fn [.B] dA:=λa=>⟨[aB a],[]⟩
def Dh:=dY aoc as2 (ct _) zv.v
theorem Fm:FO 148 Dh:=ft (E:=aqe) (aG qT aY) func148 zv.b λ(a0,_)=>zv.eG _ a0

def E86:=en [(82,qy)] []
def A86:Fn [.I] As:=λa=>[aI a]
def k86:Fn [.B] dA:=λa=>⟨[aB a],[]⟩
def ZS:=dY A86 k86 (ct _) R9.v
theorem agj:FO 86 ZS:=ft (E:=E86) (aG qT aY) func86 R9.b λ(a0,_)=>R9.eG _ a0

def aqa:=en [(148,Dh),(86,ZS),(82,qy)] []
def an8:Fn [.S, .I, .I, .S] As:=λa b c d=>[aV [.s a, .n b, .n c, .s d]]
def asX:Fn [.B] dA:=λa=>⟨[aB a],[]⟩
def J0:=dY an8 asX (ct _) wP.v
theorem NY:FO 125 J0:=ft (E:=aqa) (aG Fm (aG agj (aG qT aY))) func125 wP.b λ(a0,a1,a2,a3,_)=>wP.eG _ a0 a1 a2 a3

def aqY:=en [] []
def apy:Fn [.I] As:=λa=>[.v ak [.nl],aI a]
def auq:Fn [.R] dA:=λa=>⟨[aO 9 a],[]⟩
def adO:=dY apy auq DW.c DW.v
theorem ak4:FO 254 adO:=fr (E:=aqY) aY func254 DW.b DW.vo

def aeh:=en [(254,adO)] [(3,[0,3,9,10,11]),(11,[6,25,26,27])]
def aoZ:Fn [.R] As:=λa=>[aH 31 a]
def atO:Fn [.R] dA:=λa=>⟨[aO 9 a],[]⟩
def Gl:Fn [.R, .I, .R, .I, .I] Tb:=λa b c d e=>[cH 0 31 a,cI 6 b,cH 18 31 c,cI 20 d,cI 22 e]
def Bh:Fn [.R, .I, .I, .R] Tb:=λa b c d=>[cA 12 (.own 0),cH 50 31 a,cI 52 b,cI 54 c,oR 1 9 d]
def Ru(N:aF)(K:Kt R):=wU.l3 N (J Gl (.exit 0) K)
def MB(N:aF)(K:Kt R):=wU.PH N (J Bh (.exit 2) K)
def Tn(N:aF):It R:=(lp 3 (al Gl (λK=>Ru N K N) an) (lp 11 (al Bh (λK=>MB N K N) an) ln))
theorem YM(N:aF):b_ aeh (Tn N (R:=R)) (bX f211 3):=lq 3 Gl (Ru N) λK g=>wU.r3 N g (J Gl (.exit 0) K)
theorem TR(N:aF):b_ aeh (Tn N (R:=R)) (bX f211 11):=lq 11 Bh (MB N) λK g=>wU.Aw N g (J Bh (.exit 2) K)
def adv:=dY aoZ atO wU.c wU.v
theorem akL:FO 211 adv:=fq (E:=aeh) (aG ak4 aY) func211 (it:=λN=>Tn N) (λN=>(bn (YM N) (bn (TR N) bB))) wU.b wU.vo

def aqd:=en [(211,adv)] []
def aob:Fn [.R, .R, .R, .I] As:=λa b c d=>[aV [.sh 9 a, .sh 9 b, .sh 26 c, .n d]]
def as1:Fn [.R] dA:=λa=>⟨[aO 9 a],[]⟩
def Oa:=dY aob as1 qH.c qH.v
theorem T9:FO 147 Oa:=fr (E:=aqd) (aG akL aY) func147 qH.b qH.vo

def aii:=en [] [(2,[0,1,4,7,8])]
def apx:Fn [.R, .S] As:=λa b=>[aH 9 a,aS b]
def aup:Fn [.I] dA:=λa=>⟨[aI a],[]⟩
def zq:Fn [.R, .S, .I, .I, .I] Tb:=λa b c d e=>[cH 0 9 a,cA 2 (.s b),cI 8 c,cI 14 d,cI 16 e]
def RQ(N:aF)(K:Kt R):=A0.l2 N (J zq .ret K) (J zq (.exit 0) K)
def abU(N:aF):It R:=(lp 2 (al zq (λK=>RQ N K N) an) ln)
theorem Y7(N:aF):b_ aii (abU N (R:=R)) (bX f253 2):=lq 2 zq (RQ N) λK g=>A0.r2 N g (J zq .ret K) (J zq (.exit 0) K)
def adN:=dY apx aup A0.c A0.v
theorem ak3:FO 253 adN:=fq (E:=aii) aY func253 (it:=λN=>abU N) (λN=>(bn (Y7 N) bB)) A0.b A0.vo

def aqH:=en [(253,adN)] []
def aoX:Fn [.R, .S] As:=λa b=>[aH 9 a,aS b]
def atM:Fn [.B] dA:=λa=>⟨[aB a],[]⟩
def Of:=dY aoX atM sK.c sK.v
theorem Ui:FO 209 Of:=fr (E:=aqH) (aG ak3 aY) func209 sK.b sK.vo

def aqc:=en [(147,Oa),(209,Of)] []
def an_:Fn [.R, .R, .R, .I, .S] As:=λa b c d e=>[aV [.sh 9 a, .sh 9 b, .sh 26 c, .n d],aS e]
def asZ:Fn [.B] dA:=λa=>⟨[aB a],[]⟩
def N_:=dY an_ asZ sJ.c sJ.v
theorem T8:FO 145 N_:=fr (E:=aqc) (aG T9 (aG Ui aY)) func145 sJ.b sJ.vo

def aeg:=en [(82,qy)] [(2,[1,2,8,9,10]),(5,[1,2,4,8,9,10,14,15,16])]
def aoY:Fn [.R, .I] As:=λa b=>[aV [.sh 26 a, .n b]]
def atN:Fn [.B] dA:=λa=>⟨[aB a],[]⟩
def zj:Fn [.B, .R, .I, .I, .R, .I] Tb:=λa b c d e f=>[cP 2 0,cA 4 (.b a),cH 16 26 b,cI 18 c,cI 20 d,oB 1 [.sh 26 e, .n f]]
def zk:Fn [.B, .R, .R, .I, .I, .R, .I, .I, .R, .I] Tb:=λa b c d e f g h i j=>[cP 2 0,cA 4 (.b a),cH 8 3 b,cH 16 26 c,cI 18 d,cI 20 e,cH 28 3 f,cI 30 g,cI 32 h,oB 1 [.sh 26 i, .n j]]
def Rs(N:aF)(K:Kt R):=pQ.l2 N (J zj .ret K) (J zj (.exit 0) K)
def Rt(N:aF)(K:Kt R):=pQ.l5 N (J zk .ret K) (J zk (.exit 2) K)
def Tm(N:aF):It R:=(lp 2 (al zj (λK=>Rs N K N) an) (lp 5 (al zk (λK=>Rt N K N) an) ln))
theorem YK(N:aF):b_ aeg (Tm N (R:=R)) (bX f210 2):=lq 2 zj (Rs N) λK g=>pQ.r2 N g (J zj .ret K) (J zj (.exit 0) K)
theorem YL(N:aF):b_ aeg (Tm N (R:=R)) (bX f210 5):=lq 5 zk (Rt N) λK g=>pQ.r5 N g (J zk .ret K) (J zk (.exit 2) K)
def Og:=dY aoY atN pQ.c pQ.v
theorem Uj:FO 210 Og:=fq (E:=aeg) (aG qT aY) func210 (it:=λN=>Tm N) (λN=>(bn (YK N) (bn (YL N) bB))) pQ.b pQ.vo

def ahU:=en [(147,Oa),(148,Dh),(209,Of),(210,Og)] [(3,[1,2,3,8,9,10])]
def aoa:Fn [.R, .R, .R, .I] As:=λa b c d=>[aV [.sh 9 a, .sh 9 b, .sh 26 c, .n d]]
def as0:Fn [.B] dA:=λa=>⟨[aB a],[]⟩
def ze:Fn [.B, .I, .I, .R, .R, .R, .I, .R] Tb:=λa b c d e f g h=>[cP 2 0,cA 4 (.b a),cA 6 (.own 1),cA 16 (.own 1),cI 18 b,cI 20 c,oB 1 [.sh 9 d, .sh 9 e, .sh 26 f, .n g],oR 3 9 h]
def Q9(N:aF)(K:Kt R):=pd.l3 N (J ze .ret K) (J ze (.exit 0) K)
def abw(N:aF):It R:=(lp 3 (al ze (λK=>Q9 N K N) an) ln)
theorem Yr(N:aF):b_ ahU (abw N (R:=R)) (bX f146 3):=lq 3 ze (Q9 N) λK g=>pd.r3 N g (J ze .ret K) (J ze (.exit 0) K)
def Vi:=dY aoa as0 pd.c pd.v
theorem aca:FO 146 Vi:=fq (E:=ahU) (aG T9 (aG Fm (aG Ui (aG Uj aY)))) func146 (it:=λN=>abw N) (λN=>(bn (Yr N) bB)) pd.b pd.vo

def E83:=en [(125,J0),(145,N_),(146,Vi),(147,Oa)] [(2,[1,2,6,7,8])]
def A83:Fn [.I, .R, .R, .R, .R, .I, .R, .R, .I] As:=λa b c d e f g h i=>[aV [.n a, .sh 51 b, .sh 9 c, .sh 9 d, .sh 26 e, .n f, .sh 75 g, .sh 72 h, .n i]]
def k83:Fn [.B] dA:=λa=>⟨[aB a],[]⟩
def EN:Fn [.B, .R, .I, .I, .I, .R, .R, .R, .R, .I, .R, .R, .I] Tb:=λa b c d e f g h i j k l m=>[cP 2 0,cA 4 (.b a),cH 12 51 b,cI 14 c,cI 16 d,oB 1 [.n e, .sh 51 f, .sh 9 g, .sh 9 h, .sh 26 i, .n j, .sh 75 k, .sh 72 l, .n m]]
def aaQ(N:aF)(K:Kt R):=Qz.l2 N (J EN .ret K) (J EN (.exit 0) K)
def ajJ(N:aF):It R:=(lp 2 (al EN (λK=>aaQ N K N) an) ln)
theorem af8(N:aF):b_ E83 (ajJ N (R:=R)) (bX f83 2):=lq 2 EN (aaQ N) λK g=>Qz.r2 N g (J EN .ret K) (J EN (.exit 0) K)
def amb:=dY A83 k83 Qz.c Qz.v
theorem avi:FO 83 amb:=fq (E:=E83) (aG NY (aG T8 (aG aca (aG T9 aY)))) func83 (it:=λN=>ajJ N) (λN=>(bn (af8 N) bB)) Qz.b Qz.vo

def aqj:=en [] []
def aoj:Fn [.S, .S, .I, .I, .I, .S] As:=λa b c d e f=>[aV [.s a, .s b, .n c, .n d, .n e], .fb [.s f]]
def as9:Fn [.B] dA:=λa=>⟨[aB a],[]⟩
def ac2:=dY aoj as9 (ct _) Ii.v
theorem akk:FO 157 ac2:=ft (E:=aqj) aY func157 Ii.b λ(a0,a1,a2,a3,a4,a5,_)=>Ii.eG _ a0 a1 a2 a3 a4 a5

def ahW:=en [(157,ac2)] [(2,[0,1,4,7,8])]
def aoi:Fn [.R, .S] As:=λa b=>[aH 75 a, .v ak [.fn 157 [[.s b]]]]
def as8:Fn [.I] dA:=λa=>⟨[aI a],[]⟩
def zf:Fn [.R, .S, .I, .I, .I] Tb:=λa b c d e=>[cH 0 75 a,cA 2 (.fn 157 [[.s b]]),cI 8 c,cI 14 d,cI 16 e]
def Ra(N:aF)(K:Kt R):=qI.l2 N (J zf .ret K) (J zf (.exit 0) K)
def aby(N:aF):It R:=(lp 2 (al zf (λK=>Ra N K N) an) ln)
theorem Yt(N:aF):b_ ahW (aby N (R:=R)) (bX f156 2):=lq 2 zf (Ra N) λK g=>qI.r2 N g (J zf .ret K) (J zf (.exit 0) K)
def ac1:=dY aoi as8 qI.c qI.v
theorem akj:FO 156 ac1:=fq (E:=ahW) (aG akk aY) func156 (it:=λN=>aby N) (λN=>(bn (Yt N) bB)) qI.b qI.vo

def E92:=en [(156,ac1)] []
def A92:Fn [.I, .R, .R, .R, .R, .I, .R, .R, .I, .S] As:=λa b c d e f g h i j=>[aV [.n a, .sh 51 b, .sh 9 c, .sh 9 d, .sh 26 e, .n f, .sh 75 g, .sh 72 h, .n i],aS j]
def k92:Fn [.I] dA:=λa=>⟨[aI a],[]⟩
def agL:=dY A92 k92 KE.c KE.v
theorem alx:FO 92 agL:=fr (E:=E92) (aG akj aY) func92 KE.b KE.vo

def E35:=en [(92,agL)] [(2,[1,2,6,7,8])]
def A35:Fn [.I, .R, .R, .R, .R, .I, .R, .R, .I] As:=λa b c d e f g h i=>[aV [.n a, .sh 51 b, .sh 9 c, .sh 9 d, .sh 26 e, .n f, .sh 75 g, .sh 72 h, .n i]]
def k35:Fn [.B] dA:=λa=>⟨[aB a],[]⟩
def EE:Fn [.B, .R, .I, .I, .I, .R, .R, .R, .R, .I, .R, .R, .I] Tb:=λa b c d e f g h i j k l m=>[cP 2 0,cA 4 (.b a),cH 12 75 b,cI 14 c,cI 16 d,oB 1 [.n e, .sh 51 f, .sh 9 g, .sh 9 h, .sh 26 i, .n j, .sh 75 k, .sh 72 l, .n m]]
def aaA(N:aF)(K:Kt R):=M4.l2 N (J EE .ret K) (J EE (.exit 0) K)
def ajA(N:aF):It R:=(lp 2 (al EE (λK=>aaA N K N) an) ln)
theorem afS(N:aF):b_ E35 (ajA N (R:=R)) (bX f35 2):=lq 2 EE (aaA N) λK g=>M4.r2 N g (J EE .ret K) (J EE (.exit 0) K)
def al1:=dY A35 k35 M4.c M4.v
theorem au8:FO 35 al1:=fq (E:=E35) (aG alx aY) func35 (it:=λN=>ajA N) (λN=>(bn (afS N) bB)) M4.b M4.vo

def E84:=en [(148,Dh),(82,qy),(35,al1)] [(2,[1,2,6,7,8])]
def A84:Fn [.I, .R, .R, .R, .R, .I, .R, .R, .I] As:=λa b c d e f g h i=>[aV [.n a, .sh 51 b, .sh 9 c, .sh 9 d, .sh 26 e, .n f, .sh 75 g, .sh 72 h, .n i]]
def k84:Fn [.B] dA:=λa=>⟨[aB a],[]⟩
def EO:Fn [.B, .R, .I, .I, .I, .R, .R, .R, .R, .I, .R, .R, .I] Tb:=λa b c d e f g h i j k l m=>[cP 2 0,cA 4 (.b a),cH 12 75 b,cI 14 c,cI 16 d,oB 1 [.n e, .sh 51 f, .sh 9 g, .sh 9 h, .sh 26 i, .n j, .sh 75 k, .sh 72 l, .n m]]
def aaR(N:aF)(K:Kt R):=OT.l2 N (J EO .ret K) (J EO (.exit 0) K)
def ajK(N:aF):It R:=(lp 2 (al EO (λK=>aaR N K N) an) ln)
theorem af9(N:aF):b_ E84 (ajK N (R:=R)) (bX f84 2):=lq 2 EO (aaR N) λK g=>OT.r2 N g (J EO .ret K) (J EO (.exit 0) K)
def amc:=dY A84 k84 OT.c OT.v
theorem avj:FO 84 amc:=fq (E:=E84) (aG Fm (aG qT (aG au8 aY))) func84 (it:=λN=>ajK N) (λN=>(bn (af9 N) bB)) OT.b OT.vo

def E85:=en [(82,qy),(148,Dh)] [(2,[1,2,6,7,8])]
def A85:Fn [.I, .R, .R, .R, .R, .I, .R, .R, .I] As:=λa b c d e f g h i=>[aV [.n a, .sh 51 b, .sh 9 c, .sh 9 d, .sh 26 e, .n f, .sh 75 g, .sh 72 h, .n i]]
def k85:Fn [.B] dA:=λa=>⟨[aB a],[]⟩
def EP:Fn [.B, .R, .I, .I, .I, .R, .R, .R, .R, .I, .R, .R, .I] Tb:=λa b c d e f g h i j k l m=>[cP 2 0,cA 4 (.b a),cH 12 72 b,cI 14 c,cI 16 d,oB 1 [.n e, .sh 51 f, .sh 9 g, .sh 9 h, .sh 26 i, .n j, .sh 75 k, .sh 72 l, .n m]]
def aaS(N:aF)(K:Kt R):=QA.l2 N (J EP .ret K) (J EP (.exit 0) K)
def ajL(N:aF):It R:=(lp 2 (al EP (λK=>aaS N K N) an) ln)
theorem af_(N:aF):b_ E85 (ajL N (R:=R)) (bX f85 2):=lq 2 EP (aaS N) λK g=>QA.r2 N g (J EP .ret K) (J EP (.exit 0) K)
def amd:=dY A85 k85 QA.c QA.v
theorem avk:FO 85 amd:=fq (E:=E85) (aG qT (aG Fm aY)) func85 (it:=λN=>ajL N) (λN=>(bn (af_ N) bB)) QA.b QA.vo

def E30:=en [(82,qy),(83,amb),(84,amc),(85,amd),(86,ZS)] []
def A30:Fn [.I, .R, .R, .R, .R, .I, .R, .R, .I] As:=λa b c d e f g h i=>[aV [.n a, .sh 51 b, .sh 9 c, .sh 9 d, .sh 26 e, .n f, .sh 75 g, .sh 72 h, .n i]]
def k30:Fn [.B] dA:=λa=>⟨[aB a],[]⟩
def agB:=dY A30 k30 OS.c OS.v
theorem alm:FO 30 agB:=fr (E:=E30) (aG qT (aG avi (aG avj (aG avk (aG agj aY))))) func30 OS.b OS.vo

def aqt:=en [] []
def aoz:Fn [.I, .S, .I, .I, .I, .S, .I, .I] As:=λa b c d e f g h=>[aV [.n a, .s b, .n c, .n d, .n e, .s f, .n g], .fb [.n h]]
def ato:Fn [.B] dA:=λa=>⟨[aB a],[]⟩
def ade:=dY aoz ato (ct _) Ky.v
theorem akv:FO 174 ade:=ft (E:=aqt) aY func174 Ky.b λ(a0,a1,a2,a3,a4,a5,a6,a7,_)=>Ky.eG _ a0 a1 a2 a3 a4 a5 a6 a7

def aal:=en [(174,ade)] [(2,[0,1,4,7,8])]
def ahF:Fn [.R, .I] As:=λa b=>[aH 72 a, .v ak [.fn 174 [[.n b]]]]
def ajQ:Fn [.I] dA:=λa=>⟨[aI a],[]⟩
def uv:Fn [.R, .I, .I, .I, .I] Tb:=λa b c d e=>[cH 0 72 a,cA 2 (.fn 174 [[.n b]]),cI 8 c,cI 14 d,cI 16 e]
def Mw(N:aF)(K:Kt R):=qJ.l2 N (J uv .ret K) (J uv (.exit 0) K)
def Tj(N:aF):It R:=(lp 2 (al uv (λK=>Mw N K N) an) ln)
theorem TN(N:aF):b_ aal (Tj N (R:=R)) (bX f173 2):=lq 2 uv (Mw N) λK g=>qJ.r2 N g (J uv .ret K) (J uv (.exit 0) K)
def L5:=dY ahF ajQ qJ.c qJ.v
theorem Ue:FO 173 L5:=fq (E:=aal) (aG akv aY) func173 (it:=λN=>Tj N) (λN=>(bn (TN N) bB)) qJ.b qJ.vo

def aqu:=en [] []
def aoB:Fn [.I, .S, .I, .I, .I, .S, .I, .I] As:=λa b c d e f g h=>[aV [.n a, .s b, .n c, .n d, .n e, .s f, .n g], .fb [.n h]]
def atq:Fn [.B] dA:=λa=>⟨[aB a],[]⟩
def Vq:=dY aoB atq (ct _) AW.v
theorem acj:FO 176 Vq:=ft (E:=aqu) aY func176 AW.b λ(a0,a1,a2,a3,a4,a5,a6,a7,_)=>AW.eG _ a0 a1 a2 a3 a4 a5 a6 a7

def aam:=en [(176,Vq)] [(2,[0,1,4,7,8])]
def ahG:Fn [.R, .I] As:=λa b=>[aH 72 a, .v ak [.fn 176 [[.n b]]]]
def ajR:Fn [.I] dA:=λa=>⟨[aI a],[]⟩
def uw:Fn [.R, .I, .I, .I, .I] Tb:=λa b c d e=>[cH 0 72 a,cA 2 (.fn 176 [[.n b]]),cI 8 c,cI 14 d,cI 16 e]
def Mx(N:aF)(K:Kt R):=ny.l2 N (J uw .ret K) (J uw (.exit 0) K)
def Tk(N:aF):It R:=(lp 2 (al uw (λK=>Mx N K N) an) ln)
theorem TP(N:aF):b_ aam (Tk N (R:=R)) (bX f173 2):=lq 2 uw (Mx N) λK g=>ny.r2 N g (J uw .ret K) (J uw (.exit 0) K)
def L6:=dY ahG ajR ny.c ny.v
theorem Uf:FO 173 L6:=fq (E:=aam) (aG acj aY) func173 (it:=λN=>Tk N) (λN=>(bn (TP N) bB)) ny.b ny.vo

def apX:=en [(173,L5),(173,L6)] []
def anM:Fn [.I, .R, .R, .R, .R, .I, .R, .R, .I, .I] As:=λa b c d e f g h i j=>[aV [.n a, .sh 51 b, .sh 9 c, .sh 9 d, .sh 26 e, .n f, .sh 75 g, .sh 72 h, .n i],aI j]
def asA:Fn [.I] dA:=λa=>⟨[aI a],[]⟩
def Vc:=dY anM asA zu.c zu.v
theorem ab5:FO 101 Vc:=fr (E:=apX) (aG Ue (aG Uf aY)) func101 zu.b zu.vo

def aqm:=en [] []
def aon:Fn [.S, .I, .I, .S, .S] As:=λa b c d e=>[aV [.s a, .n b, .n c, .s d], .fb [.s e]]
def atc:Fn [.B] dA:=λa=>⟨[aB a],[]⟩
def ac5:=dY aon atc (ct _) Kx.v
theorem akn:FO 161 ac5:=ft (E:=aqm) aY func161 Kx.b λ(a0,a1,a2,a3,a4,_)=>Kx.eG _ a0 a1 a2 a3 a4

def aai:=en [(161,ac5)] [(2,[0,1,4,7,8])]
def ahC:Fn [.R, .S] As:=λa b=>[aH 51 a, .v ak [.fn 161 [[.s b]]]]
def ajN:Fn [.I] dA:=λa=>⟨[aI a],[]⟩
def uo:Fn [.R, .S, .I, .I, .I] Tb:=λa b c d e=>[cH 0 51 a,cA 2 (.fn 161 [[.s b]]),cI 8 c,cI 14 d,cI 16 e]
def Mq(N:aF)(K:Kt R):=pW.l2 N (J uo .ret K) (J uo (.exit 0) K)
def Tg(N:aF):It R:=(lp 2 (al uo (λK=>Mq N K N) an) ln)
theorem TH(N:aF):b_ aai (Tg N (R:=R)) (bX f155 2):=lq 2 uo (Mq N) λK g=>pW.r2 N g (J uo .ret K) (J uo (.exit 0) K)
def L0:=dY ahC ajN pW.c pW.v
theorem Ua:FO 155 L0:=fq (E:=aai) (aG akn aY) func155 (it:=λN=>Tg N) (λN=>(bn (TH N) bB)) pW.b pW.vo

def aqL:=en [] []
def ao5:Fn [.S, .I, .I, .S, .S] As:=λa b c d e=>[aV [.s a, .n b, .n c, .s d], .fb [.s e]]
def atV:Fn [.B] dA:=λa=>⟨[aB a],[]⟩
def Vz:=dY ao5 atV (ct _) AZ.v
theorem acu:FO 217 Vz:=ft (E:=aqL) aY func217 AZ.b λ(a0,a1,a2,a3,a4,_)=>AZ.eG _ a0 a1 a2 a3 a4

def aaj:=en [(217,Vz)] [(2,[0,1,4,7,8])]
def ahD:Fn [.R, .S] As:=λa b=>[aH 51 a, .v ak [.fn 217 [[.s b]]]]
def ajO:Fn [.I] dA:=λa=>⟨[aI a],[]⟩
def uq:Fn [.R, .S, .I, .I, .I] Tb:=λa b c d e=>[cH 0 51 a,cA 2 (.fn 217 [[.s b]]),cI 8 c,cI 14 d,cI 16 e]
def Mr(N:aF)(K:Kt R):=nv.l2 N (J uq .ret K) (J uq (.exit 0) K)
def Th(N:aF):It R:=(lp 2 (al uq (λK=>Mr N K N) an) ln)
theorem TJ(N:aF):b_ aaj (Th N (R:=R)) (bX f155 2):=lq 2 uq (Mr N) λK g=>nv.r2 N g (J uq .ret K) (J uq (.exit 0) K)
def L3:=dY ahD ajO nv.c nv.v
theorem Ub:FO 155 L3:=fq (E:=aaj) (aG acu aY) func155 (it:=λN=>Th N) (λN=>(bn (TJ N) bB)) nv.b nv.vo

def E89:=en [] []
def A89:Fn [.S, .I, .I, .S, .I, .S, .I, .I, .I, .S, .I] As:=λa b c d e f g h i j k=>[aV [.s a, .n b, .n c, .s d], .fb [.n e, .s f, .n g, .n h, .n i, .s j, .n k]]
def k89:Fn [.B] dA:=λa=>⟨[aB a],[]⟩
def ame:=dY A89 k89 (ct _) U89.v
theorem avl:FO 89 ame:=ft (E:=E89) aY func89 U89.b λ(a0,a1,a2,a3,a4,a5,a6,a7,a8,a9,a10,_)=>U89.eG _ a0 a1 a2 a3 a4 a5 a6 a7 a8 a9 a10

def aak:=en [(89,ame)] [(2,[0,1,4,7,8])]
def ahE:Fn [.R, .I, .S, .I, .I, .I, .S, .I] As:=λa b c d e f g h=>[aH 51 a, .v ak [.fn 89 [[.n b, .s c, .n d, .n e, .n f, .s g, .n h]]]]
def ajP:Fn [.I] dA:=λa=>⟨[aI a],[]⟩
def ur:Fn [.R, .I, .S, .I, .I, .I, .S, .I, .I, .I, .I] Tb:=λa b c d e f g h i j k=>[cH 0 51 a,cA 2 (.fn 89 [[.n b, .s c, .n d, .n e, .n f, .s g, .n h]]),cI 8 i,cI 14 j,cI 16 k]
def Ms(N:aF)(K:Kt R):=B2.l2 N (J ur .ret K) (J ur (.exit 0) K)
def Ti(N:aF):It R:=(lp 2 (al ur (λK=>Ms N K N) an) ln)
theorem TK(N:aF):b_ aak (Ti N (R:=R)) (bX f155 2):=lq 2 ur (Ms N) λK g=>B2.r2 N g (J ur .ret K) (J ur (.exit 0) K)
def L4:=dY ahE ajP B2.c B2.v
theorem Uc:FO 155 L4:=fq (E:=aak) (aG avl aY) func155 (it:=λN=>Ti N) (λN=>(bn (TK N) bB)) B2.b B2.vo

def E62:=en [(125,J0),(86,ZS),(82,qy)] []
def A62:Fn [.S, .I, .I, .S, .I] As:=λa b c d e=>[aV [.s a, .n b, .n c, .s d],aI e]
def k62:Fn [.B] dA:=λa=>⟨[aB a],[]⟩
def ZR:=dY A62 k62 (ct _) GN.v
theorem agi:FO 62 ZR:=ft (E:=E62) (aG NY (aG agj (aG qT aY))) func62 GN.b λ(a0,a1,a2,a3,a4,_)=>GN.eG _ a0 a1 a2 a3 a4

def ael:=en [] [(2,[0,1,5]),(6,[0,1,5,19])]
def apN:Fn [.I, .S] As:=λa b=>[.v ak [.i .u32 a],aS b]
def auF:Fn [.I] dA:=λa=>⟨[.v ak [.i .u32 a]],[]⟩
def GD:Fn [.I, .S, .I] Tb:=λa b c=>[cA 0 (.i .u32 a),cA 2 (.s b),cI 10 c]
def GF:Fn [.I, .S, .I, .I] Tb:=λa b c d=>[cA 0 (.i .u32 a),cA 2 (.s b),cI 10 c,cI 38 d]
def RU(N:aF)(K:Kt R):=wZ.l2 N (J GD (.exit 0) K)
def RV(N:aF)(K:Kt R):=wZ.l6 N (J GF (.exit 2) K)
def Tv(N:aF):It R:=(lp 2 (al GD (λK=>RU N K N) an) (lp 6 (al GF (λK=>RV N K N) an) ln))
theorem Za(N:aF):b_ ael (Tv N (R:=R)) (bX f270 2):=lq 2 GD (RU N) λK g=>wZ.r2 N g (J GD (.exit 0) K)
theorem Zb(N:aF):b_ ael (Tv N (R:=R)) (bX f270 6):=lq 6 GF (RV N) λK g=>wZ.r6 N g (J GF (.exit 2) K)
def adY:=dY apN auF wZ.c wZ.v
theorem ald:FO 270 adY:=fq (E:=ael) aY func270 (it:=λN=>Tv N) (λN=>(bn (Za N) (bn (Zb N) bB))) wZ.b wZ.vo

def aqX:=en [(270,adY)] []
def apw:Fn [.S] As:=λa=>[aS a]
def auo:Fn [.I] dA:=λa=>⟨[.v ak [.i .u32 a]],[]⟩
def VG:=dY apw auo vi.c vi.v
theorem acB:FO 247 VG:=fr (E:=aqX) (aG ald aY) func247 vi.b vi.vo

def aqM:=en [(247,VG)] []
def apa:Fn [.I, .S] As:=λa b=>[aI a,aS b]
def at2:Fn [.I] dA:=λa=>⟨[aI a],[]⟩
def VD:=dY apa at2 qL.c qL.v
theorem acy:FO 225 VD:=fr (E:=aqM) (aG acB aY) func225 qL.b qL.vo

def WS:=en [(224,VC),(210,Og),(225,VD)] [(5,[1,4,5,19,20,21]),(15,[4,5,49,50,51]),(18,[4,5,10,49,50,51,56,57])]
def aoq:Fn [.R, .I, .S] As:=λa b c=>[aV [.sh 26 a, .n b],aS c]
def atf:Fn [.R, .I] dA:=λa b=>⟨[aV [.ow 26 ai a, .n b]],[]⟩
def Gc:Fn [.S, .I, .I, .I, .I, .R] Tb:=λa b c d e f=>[cA 2 (.s a),cP 8 0,cP 10 1,cA 38 (.own 2),cI 40 b,cI 42 c,oB 1 [.nl, .n d],oB 3 [.own 2, .n e],oR 5 26 f]
def Be:Fn [.I, .I, .I, .I, .R] Tb:=λa b c d e=>[cP 8 0,cP 10 1,cA 98 (.own 2),cI 100 a,cI 102 b,oB 1 [.nl, .n c],oB 3 [.own 2, .n d],oR 5 26 e]
def Bf:Fn [.N, .I, .I, .I, .I, .I, .I, .R] Tb:=λa b c d e f g h=>[cP 8 0,cP 10 1,cA 20 (.inn 2 a 0),cA 98 (.own 2),cI 100 b,cI 102 c,cI 112 d,cI 114 e,oB 1 [.nl, .n f],oB 3 [.own 2, .n g],oR 5 26 h]
def Re(N:aF)(K:Kt R):=iL.l5 N (J Gc (.exit 0) K)
def Mu(N:aF)(K:Kt R):=iL.Jv N (J Be (.exit 2) K)
def Mv(N:aF)(K:Kt R):=iL.l18 N (J Bf (.exit 4) K)
def NG(N:aF):It R:=(lp 5 (al Gc (λK=>Re N K N) an) (lp 15 (al Be (λK=>Mu N K N) an) (lp 18 (al Bf (λK=>Mv N K N) an) ln)))
theorem Yw(N:aF):b_ WS (NG N (R:=R)) (bX f164 5):=lq 5 Gc (Re N) λK g=>iL.r5 N g (J Gc (.exit 0) K)
theorem TL(N:aF):b_ WS (NG N (R:=R)) (bX f164 15):=lq 15 Be (Mu N) λK g=>iL.QJ N g (J Be (.exit 2) K)
theorem TM(N:aF):b_ WS (NG N (R:=R)) (bX f164 18):=lq 18 Bf (Mv N) λK g=>iL.r18 N g (J Bf (.exit 4) K)
def Vn:=dY aoq atf iL.c iL.v
theorem acg:FO 164 Vn:=fq (E:=WS) (aG acx (aG Uj (aG acy aY))) func164 (it:=λN=>NG N) (λN=>(bn (Yw N) (bn (TL N) (bn (TM N) bB)))) iL.b iL.vo

def aq0:=en [] []
def apB:Fn [.S, .S] As:=λa b=>[aS a, .fb [.s b]]
def aut:Fn [.B] dA:=λa=>⟨[aB a],[]⟩
def VI:=dY apB aut (ct _) A1.v
theorem acD:FO 257 VI:=ft (E:=aq0) aY func257 A1.b λ(a0,a1,_)=>A1.eG _ a0 a1

def aim:=en [(257,VI)] [(2,[0,1,4,7,8])]
def apO:Fn [.R, .S] As:=λa b=>[aH 9 a, .v ak [.fn 257 [[.s b]]]]
def auG:Fn [.I] dA:=λa=>⟨[aI a],[]⟩
def zt:Fn [.R, .S, .I, .I, .I] Tb:=λa b c d e=>[cH 0 9 a,cA 2 (.fn 257 [[.s b]]),cI 8 c,cI 14 d,cI 16 e]
def RW(N:aF)(K:Kt R):=sM.l2 N (J zt .ret K) (J zt (.exit 0) K)
def abY(N:aF):It R:=(lp 2 (al zt (λK=>RW N K N) an) ln)
theorem Zc(N:aF):b_ aim (abY N (R:=R)) (bX f272 2):=lq 2 zt (RW N) λK g=>sM.r2 N g (J zt .ret K) (J zt (.exit 0) K)
def adZ:=dY apO auG sM.c sM.v
theorem ale:FO 272 adZ:=fq (E:=aim) (aG acD aY) func272 (it:=λN=>abY N) (λN=>(bn (Zc N) bB)) sM.b sM.vo

def aij:=en [(272,adZ),(257,VI)] [(5,[0,1,5,6])]
def apA:Fn [.R, .S] As:=λa b=>[aO 9 a, .v ak [.fn 257 [[.s b]]]]
def aus:Fn [.R] dA:=λa=>⟨[aO 9 a],[[.nl]]⟩
def GA:Fn [.S, .I, .I, .R] Tb:=λa b c d=>[cA 0 (.own 900000000),cA 2 (.fn 257 [[.s a]]),cI 10 b,cI 12 c,oR 1800000001 9 d]
def RR(N:aF)(K:Kt R):=wY.l5 N (J GA (.exit 0) K)
def abV(N:aF):It R:=(lp 5 (al GA (λK=>RR N K N) an) ln)
theorem Y8(N:aF):b_ aij (abV N (R:=R)) (bX f256 5):=lq 5 GA (RR N) λK g=>wY.r5 N g (J GA (.exit 0) K)
def adP:=dY apA aus wY.c wY.v
theorem ak5:FO 256 adP:=fq (E:=aij) (aG ale (aG acD aY)) func256 (it:=λN=>abV N) (λN=>(bn (Y8 N) bB)) wY.b wY.vo

def aqJ:=en [(255,VH),(256,adP)] []
def ao1:Fn [.R, .S] As:=λa b=>[aH 9 a,aS b]
def atQ:Fn [.R] dA:=λa=>⟨[aO 9 a],[]⟩
def Vx:=dY ao1 atQ kg.c kg.v
theorem acr:FO 213 Vx:=fr (E:=aqJ) (aG acC (aG ak5 aY)) func213 kg.b kg.vo

def ah8:=en [(210,Og),(225,VD)] [(5,[1,5,12,13,14])]
def ao2:Fn [.R, .I, .S] As:=λa b c=>[aV [.sh 26 a, .n b],aS c]
def atS:Fn [.I] dA:=λa=>⟨[aI a],[]⟩
def Gm:Fn [.S, .I, .R, .I, .I] Tb:=λa b c d e=>[cA 2 (.s a),cI 10 b,cH 24 26 c,cI 26 d,cI 28 e]
def Rv(N:aF)(K:Kt R):=vZ.l5 N (J Gm (.exit 0) K)
def abK(N:aF):It R:=(lp 5 (al Gm (λK=>Rv N K N) an) ln)
theorem YN(N:aF):b_ ah8 (abK N (R:=R)) (bX f214 5):=lq 5 Gm (Rv N) λK g=>vZ.r5 N g (J Gm (.exit 0) K)
def adw:=dY ao2 atS vZ.c vZ.v
theorem akM:FO 214 adw:=fq (E:=ah8) (aG Uj (aG acy aY)) func214 (it:=λN=>abK N) (λN=>(bn (YN N) bB)) vZ.b vZ.vo

def aqf:=en [(212,Oh),(146,Vi),(148,Dh),(164,Vn),(209,Of),(213,Vx),(214,adw)] []
def aod:Fn [.R, .R, .R, .I, .S] As:=λa b c d e=>[aV [.sh 9 a, .sh 9 b, .sh 26 c, .n d],aS e]
def as3:Fn [.R, .R, .R, .I, .S] dA:=λa b c d e=>⟨[aV [.ow 9 ai a, .ow 9 ai b, .ow 26 ai c, .n d],aS e],[]⟩
def Vj:=dY aod as3 zw.c zw.v
theorem acb:FO 149 Vj:=fr (E:=aqf) (aG Uk (aG aca (aG Fm (aG acg (aG Ui (aG acr (aG akM aY))))))) func149 zw.b zw.vo

def agx:Qq:=⟨λn=>bif bD n 22 then 223 else bif bD n 29 then 259 else 260,λn=>bif bD n 24 then 38 else bif bD n 9 then 72 else bif bD n 3 then 3 else bif bD n 4 then 4 else n,λn=>n⟩
def adz:az fw->aC (aX×dA):=Ins.xQ 72 72
theorem afy:Ins.L Tryz.prog agx "slices.Insert[[]loop.example/g00245/impl.Client,loop.example/g00245/impl.Client]" 7 where
 mixed:=hM
 f22:=func223.trans (by kernel_rfl)
 t3:=by kernel_rfl
 a3:=Ins.lk (P:=Tryz.prog) (t:=3) (d:= .int .i64) (by kernel_rfl) rfl
 t4:=by kernel_rfl
 a4:=Ins.lk (P:=Tryz.prog) (t:=4) (d:= .bool) (by kernel_rfl) rfl
 t24:=by kernel_rfl
 a24:=Ins.lk (P:=Tryz.prog) (t:=38) (d:= .slice 72) (by kernel_rfl) rfl
 z9:=Ins.HG hE (t:=72) (ti:=⟨ai,[.i .i64, .s, .i .i64, .i .i64, .i .i64, .s, .i .i64],72⟩) (by kernel_rfl)
theorem akP:FO 223 adz:=
 Ins.zG (e:=72) (te:=⟨ai,[.i .i64, .s, .i .i64, .i .i64, .i .i64, .s, .i .i64],72⟩) (by kernel_rfl) rfl (by kernel_rfl) hE afy
  (λargs w=>run_callFunc_extern (e:=fI #[38,38] #[4]) func259 (by kernel_rfl) (by kernel_rfl) (by kernel_rfl) (by kernel_rfl) args w)
  ⟨_,func223,by kernel_rfl,by kernel_rfl⟩

def ahX:=en [(223,adz)] [(2,[0,3,4])]
def aoo:Fn [.I, .R, .R, .R, .R, .I, .R, .R, .I, .I, .S, .I, .I, .I, .S, .I] As:=λa b c d e f g h i j k l m o p q=>[.pt [.n a, .ow 51 ai b, .ow 9 ai c, .ow 9 ai d, .ow 26 ai e, .n f, .ow 75 ai g, .ow 72 ai h, .n i],aV [.n j, .s k, .n l, .n m, .n o, .s p, .n q]]
def atd:Fn [.I, .R, .R, .R, .R, .I, .R, .R, .I] dA:=λa b c d e f g h i=>⟨[],[[.n a, .kp b, .kp c, .kp d, .kp e, .n f, .kp g, .ow 72 ai h, .n i]]⟩
def Gb:Fn [.I, .I, .I, .I, .I, .S, .I, .I, .I, .S, .I, .R, .R, .R, .R, .R, .R] Tb:=λa b c d e f g h i j k l m o p q r=>[cP 0 900000900,cP 6 1,cI 8 a,oB 1800001801 [.n b, .own 900000001, .own 900000002, .own 900000003, .own 900000004, .n c, .own 900000006, .own 900000007, .n d],oB 3 [.n e, .s f, .n g, .n h, .n i, .s j, .n k],oR 1800000003 51 l,oR 1800000005 9 m,oR 1800000007 9 o,oR 1800000009 26 p,oR 1800000013 75 q,oR 1800000015 72 r]
def Rc(N:aF)(K:Kt R):=jo.l2 N (J Gb (.exit 0) K)
def abz(N:aF):It R:=(lp 2 (al Gb (λK=>Rc N K N) an) ln)
theorem Yv(N:aF):b_ ahX (abz N (R:=R)) (bX f162 2):=lq 2 Gb (Rc N) λK g=>jo.r2 N g (J Gb (.exit 0) K)
def ac6:=dY aoo atd jo.c jo.v
theorem ako:FO 162 ac6:=fq (E:=ahX) (aG akP aY) func162 (it:=λN=>abz N) (λN=>(bn (Yv N) bB)) jo.b jo.vo

def ah9:=en [(155,L0),(155,L3),(155,L4),(217,Vz)] [(5,[0,1,5,6])]
def ao3:Fn [.R, .S] As:=λa b=>[aO 51 a, .v ak [.fn 217 [[.s b]]]]
def atT:Fn [.R] dA:=λa=>⟨[aO 51 a],[[.nl]]⟩
def Gn:Fn [.S, .I, .I, .R] Tb:=λa b c d=>[cA 0 (.own 900000000),cA 2 (.fn 217 [[.s a]]),cI 10 b,cI 12 c,oR 1800000001 51 d]
def Rw(N:aF)(K:Kt R):=pf.l5 N (J Gn (.exit 0) K)
def abL(N:aF):It R:=(lp 5 (al Gn (λK=>Rw N K N) an) ln)
theorem YO(N:aF):b_ ah9 (abL N (R:=R)) (bX f215 5):=lq 5 Gn (Rw N) λK g=>pf.r5 N g (J Gn (.exit 0) K)
def adx:=dY ao3 atT pf.c pf.v
theorem akN:FO 215 adx:=fq (E:=ah9) (aG Ua (aG Ub (aG Uc (aG acu aY)))) func215 (it:=λN=>abL N) (λN=>(bn (YO N) bB)) pf.b pf.vo

def aqg:=en [(216,Vy),(215,adx)] []
def aoe:Fn [.R, .S] As:=λa b=>[aH 51 a,aS b]
def as4:Fn [.R] dA:=λa=>⟨[aO 51 a],[]⟩
def Ob:=dY aoe as4 pP.c pP.v
theorem T_:FO 150 Ob:=fr (E:=aqg) (aG acs (aG akN aY)) func150 pP.b pP.vo

def aqn:=en [(212,Oh),(213,Vx)] []
def aop:Fn [.R, .R, .R, .I, .S] As:=λa b c d e=>[aV [.sh 9 a, .sh 9 b, .sh 26 c, .n d],aS e]
def ate:Fn [.R, .R, .R, .I] dA:=λa b c d=>⟨[aV [.ow 9 ai a, .ow 9 ai b, .ow 26 ai c, .n d]],[]⟩
def ac7:=dY aop ate va.c va.v
theorem akp:FO 163 ac7:=fr (E:=aqn) (aG Uk (aG acr aY)) func163 va.b va.vo

def E96:=en [(160,Di),(30,agB),(82,qy),(148,Dh),(101,Vc),(155,L0),(155,L3),(155,L4),(62,ZR),(149,Vj),(162,ac6),(92,agL),(150,Ob),(163,ac7),(164,Vn)] []
def A96:Fn [.I, .R, .R, .R, .R, .I, .R, .R, .I, .I, .S] As:=λa b c d e f g h i j k=>[aV [.n a, .sh 51 b, .sh 9 c, .sh 9 d, .sh 26 e, .n f, .sh 75 g, .sh 72 h, .n i],aI j,aS k]
def k96:Fn [.I, .R, .R, .R, .R, .I, .R, .R, .I, .I] dA:=λa b c d e f g h i j=>⟨[aV [.n a, .ow 51 ai b, .ow 9 ai c, .ow 9 ai d, .ow 26 ai e, .n f, .ow 75 ai g, .ow 72 ai h, .n i],aI j],[]⟩
def amh:=dY A96 k96 R_.c R_.v
theorem avo:FO 96 amh:=fr (E:=E96) (aG Fo (aG alm (aG qT (aG Fm (aG ab5 (aG Ua (aG Ub (aG Uc (aG agi (aG acb (aG ako (aG alx (aG T_ (aG akp (aG acg aY))))))))))))))) func96 R_.b R_.vo

def aqo:=en [(30,agB),(82,qy)] []
def aor:Fn [.I, .R, .R, .R, .R, .I, .R, .R, .I, .I] As:=λa b c d e f g h i j=>[aV [.n a, .sh 51 b, .sh 9 c, .sh 9 d, .sh 26 e, .n f, .sh 75 g, .sh 72 h, .n i],aI j]
def atg:Fn [.B] dA:=λa=>⟨[aB a],[]⟩
def Oc:=dY aor atg vd.c vd.v
theorem Ud:FO 165 Oc:=fr (E:=aqo) (aG alm (aG qT aY)) func165 vd.b vd.vo

def aqN:=en [] []
def apb:Fn [.I, .S, .R] As:=λa b c=>[aV [.n a, .s b, .sh 237 c]]
def at4:Fn [.I, .S, .R] dA:=λa b c=>⟨[aV [.n a, .s b, .ow 237 ai c]],[]⟩
def adA:=dY apb at4 Kz.c Kz.v
theorem akQ:FO 226 adA:=fh (E:=aqN) aY func226 (it:=λ_=>ln) (λ_=>bB) (λ_=>Kz.b) λx f h=>⟨0,Kz.eG _ x.1 x.2.1 x.2.2.1 h⟩

def aic:=en [(82,qy)] [(2,[1,2,6,7,8])]
def apc:Fn [.I, .S, .R] As:=λa b c=>[aV [.n a, .s b, .sh 237 c]]
def at5:Fn [.B] dA:=λa=>⟨[aB a],[]⟩
def zm:Fn [.B, .R, .I, .I, .I, .S, .R] Tb:=λa b c d e f g=>[cP 2 0,cA 4 (.b a),cH 12 237 b,cI 14 c,cI 16 d,oB 1 [.n e, .s f, .sh 237 g]]
def RC(N:aF)(K:Kt R):=Ij.l2 N (J zm .ret K) (J zm (.exit 0) K)
def abP(N:aF):It R:=(lp 2 (al zm (λK=>RC N K N) an) ln)
theorem YU(N:aF):b_ aic (abP N (R:=R)) (bX f227 2):=lq 2 zm (RC N) λK g=>Ij.r2 N g (J zm .ret K) (J zm (.exit 0) K)
def adB:=dY apc at5 (ct _) Ij.v
theorem akR:FO 227 adB:=fh (E:=aic) (aG qT aY) func227 (it:=λN=>abP N) (λN=>(bn (YU N) bB)) Ij.b λx f h=>Ij.eG _ x.1 x.2.1 x.2.2.1 f.1.2.1 f.1.2.2.1

def aqp:=en [(226,adA),(227,adB),(82,qy)] []
def aos:Fn [.I, .S, .R, .S] As:=λa b c d=>[aV [.n a, .s b, .sh 237 c],aS d]
def ath:Fn [.I, .S, .R, .B] dA:=λa b c d=>⟨[aV [.n a, .s b, .ow 237 ai c],aB d],[]⟩
def ac8:=dY aos ath DO.c DO.v
theorem akq:FO 166 ac8:=fh (E:=aqp) (aG akQ (aG akR (aG qT aY))) func166 (it:=λ_=>ln) (λ_=>bB) (λ_=>DO.b) λx f h=>⟨0,DO.eG _ x.1 x.2.1 x.2.2.1 x.2.2.2.1 h f.1.2.1 f.1.2.2.1 f.2.1.1⟩

def ahY:=en [] [(1,[0,1,9,10,11])]
def aot:Fn [.I, .R, .R, .R, .R, .I, .R, .R, .I, .I] As:=λa b c d e f g h i j=>[.pt [.n a, .ow 51 ai b, .ow 9 ai c, .ow 9 ai d, .ow 26 ai e, .n f, .ow 75 ai g, .ow 72 ai h, .n i],aI j]
def ati:Fn [.I, .R, .R, .R, .R, .I, .R, .R, .I] dA:=λa b c d e f g h i=>⟨[],[[.n a, .kp b, .kp c, .kp d, .kp e, .n f, .kp g, .kp h, .n i]]⟩
def Gd:Fn [.I, .I, .I, .I, .I, .I, .R, .R, .R, .R, .R, .R] Tb:=λa b c d e f g h i j k l=>[cP 0 900000900,cI 2 a,cA 18 (.own 900000007),cI 20 b,cI 22 c,oB 1800001801 [.n d, .own 900000001, .own 900000002, .own 900000003, .own 900000004, .n e, .own 900000006, .own 900000007, .n f],oR 1800000015 72 g,oR 1800000003 51 h,oR 1800000005 9 i,oR 1800000007 9 j,oR 1800000009 26 k,oR 1800000013 75 l]
def Rf(N:aF)(K:Kt R):=AR.l1 N (J Gd (.exit 0) K)
def abA(N:aF):It R:=(lp 1 (al Gd (λK=>Rf N K N) an) ln)
theorem Yx(N:aF):b_ ahY (abA N (R:=R)) (bX f167 1):=lq 1 Gd (Rf N) λK g=>AR.r1 N g (J Gd (.exit 0) K)
def ac9:=dY aot ati AR.c AR.v
theorem akr:FO 167 ac9:=fq (E:=ahY) aY func167 (it:=λN=>abA N) (λN=>(bn (Yx N) bB)) AR.b AR.vo

def E97:=en [(160,Di),(165,Oc),(166,ac8),(167,ac9)] []
def A97:Fn [.I, .R, .R, .R, .R, .I, .R, .R, .I, .I, .S] As:=λa b c d e f g h i j k=>[aV [.n a, .sh 51 b, .sh 9 c, .sh 9 d, .sh 26 e, .n f, .sh 75 g, .sh 72 h, .n i],aI j,aS k]
def k97:Fn [.I, .R, .R, .R, .R, .I, .R, .R, .I, .B] dA:=λa b c d e f g h i j=>⟨[aV [.n a, .ow 51 ai b, .ow 9 ai c, .ow 9 ai d, .ow 26 ai e, .n f, .ow 75 ai g, .ow 72 ai h, .n i],aB j],[]⟩
def ami:=dY A97 k97 Wp.c Wp.v
theorem avp:FO 97 ami:=fr (E:=E97) (aG Fo (aG Ud (aG akq (aG akr aY)))) func97 Wp.b Wp.vo

def ah0:=en [] [(1,[0,1,2,11,12,13])]
def aox:Fn [.I, .R, .R, .R, .R, .I, .R, .R, .I, .I, .I] As:=λa b c d e f g h i j k=>[.pt [.n a, .ow 51 ai b, .ow 9 ai c, .ow 9 ai d, .ow 26 ai e, .n f, .ow 75 ai g, .ow 72 ai h, .n i],aI j,aI k]
def atm:Fn [.I, .R, .R, .R, .R, .I, .R, .R, .I] dA:=λa b c d e f g h i=>⟨[],[[.n a, .kp b, .kp c, .kp d, .kp e, .n f, .kp g, .kp h, .n i]]⟩
def Gf:Fn [.I, .I, .I, .I, .I, .I, .I, .R, .R, .R, .R, .R, .R] Tb:=λa b c d e f g h i j k l m=>[cP 0 900000900,cI 2 a,cI 4 b,cA 22 (.own 900000007),cI 24 c,cI 26 d,oB 1800001801 [.n e, .own 900000001, .own 900000002, .own 900000003, .own 900000004, .n f, .own 900000006, .own 900000007, .n g],oR 1800000015 72 h,oR 1800000003 51 i,oR 1800000005 9 j,oR 1800000007 9 k,oR 1800000009 26 l,oR 1800000013 75 m]
def Rh(N:aF)(K:Kt R):=vV.l1 N (J Gf (.exit 0) K)
def abC(N:aF):It R:=(lp 1 (al Gf (λK=>Rh N K N) an) ln)
theorem Yz(N:aF):b_ ah0 (abC N (R:=R)) (bX f171 1):=lq 1 Gf (Rh N) λK g=>vV.r1 N g (J Gf (.exit 0) K)
def Vp:=dY aox atm vV.c vV.v
theorem aci:FO 171 Vp:=fq (E:=ah0) aY func171 (it:=λN=>abC N) (λN=>(bn (Yz N) bB)) vV.b vV.vo

def agw:Qq:=⟨λn=>bif bD n 22 then 198 else bif bD n 29 then 248 else 249,λn=>bif bD n 24 then 30 else bif bD n 9 then 51 else bif bD n 3 then 3 else bif bD n 4 then 4 else n,λn=>n⟩
def adu:az fw->aC (aX×dA):=Ins.xQ 51 48
theorem afx:Ins.L Tryz.prog agw "slices.Insert[[]loop.example/g00245/impl.Entry,loop.example/g00245/impl.Entry]" 4 where
 mixed:=hM
 f22:=func198.trans (by kernel_rfl)
 t3:=by kernel_rfl
 a3:=Ins.lk (P:=Tryz.prog) (t:=3) (d:= .int .i64) (by kernel_rfl) rfl
 t4:=by kernel_rfl
 a4:=Ins.lk (P:=Tryz.prog) (t:=4) (d:= .bool) (by kernel_rfl) rfl
 t24:=by kernel_rfl
 a24:=Ins.lk (P:=Tryz.prog) (t:=30) (d:= .slice 51) (by kernel_rfl) rfl
 z9:=Ins.HG hE (t:=51) (ti:=⟨ai,[.s, .i .i64, .i .i64, .s],48⟩) (by kernel_rfl)
theorem akK:FO 198 adu:=
 Ins.zG (e:=51) (te:=⟨ai,[.s, .i .i64, .i .i64, .s],48⟩) (by kernel_rfl) rfl (by kernel_rfl) hE afx
  (λargs w=>run_callFunc_extern (e:=fI #[30,30] #[4]) func248 (by kernel_rfl) (by kernel_rfl) (by kernel_rfl) (by kernel_rfl) args w)
  ⟨_,func198,by kernel_rfl,by kernel_rfl⟩

def ahT:=en [(150,Ob),(198,adu)] [(3,[3,5,6])]
def an7:Fn [.R, .S, .I, .I, .S] As:=λa b c d e=>[aH 51 a,aV [.s b, .n c, .n d, .s e]]
def asW:Fn [.R] dA:=λa=>⟨[aO 51 a],[]⟩
def F_:Fn [.I, .S, .I, .I, .S, .R] Tb:=λa b c d e f=>[cP 6 0,cA 10 (.own 1),cI 12 a,oB 1 [.s b, .n c, .n d, .s e],oR 3 51 f]
def Q8(N:aF)(K:Kt R):=u9.l3 N (J F_ (.exit 0) K)
def abv(N:aF):It R:=(lp 3 (al F_ (λK=>Q8 N K N) an) ln)
theorem Yq(N:aF):b_ ahT (abv N (R:=R)) (bX f124 3):=lq 3 F_ (Q8 N) λK g=>u9.r3 N g (J F_ (.exit 0) K)
def Vg:=dY an7 asW u9.c u9.v
theorem ab9:FO 124 Vg:=fq (E:=ahT) (aG T_ (aG akK aY)) func124 (it:=λN=>abv N) (λN=>(bn (Yq N) bB)) u9.b u9.vo

def E87:=en [(149,Vj),(150,Ob),(145,N_),(124,Vg)] []
def A87:Fn [.I, .R, .R, .R, .R, .I, .R, .R, .I, .S, .I, .I, .S] As:=λa b c d e f g h i j k l m=>[.pt [.n a, .ow 51 ai b, .ow 9 ai c, .ow 9 ai d, .ow 26 ai e, .n f, .ow 75 ai g, .ow 72 ai h, .n i],aV [.s j, .n k, .n l, .s m]]
def k87:Fn [.I, .R, .R, .R, .R, .I, .R, .R, .I] dA:=λa b c d e f g h i=>⟨[],[[.n a, .ow 51 ai b, .ow 9 ai c, .ow 9 ai d, .ow 26 ai e, .n f, .kp g, .kp h, .n i]]⟩
def agJ:=dY A87 k87 OU.c OU.v
theorem alv:FO 87 agJ:=fr (E:=E87) (aG acb (aG T_ (aG T8 (aG ab9 aY)))) func87 OU.b OU.vo

def aqq:=en [(160,Di),(165,Oc),(82,qy),(171,Vp),(87,agJ)] []
def aou:Fn [.I, .R, .R, .R, .R, .I, .R, .R, .I, .I, .I] As:=λa b c d e f g h i j k=>[aV [.n a, .sh 51 b, .sh 9 c, .sh 9 d, .sh 26 e, .n f, .sh 75 g, .sh 72 h, .n i],aI j,aI k]
def atj:Fn [.I, .R, .R, .R, .R, .I, .R, .R, .I, .B] dA:=λa b c d e f g h i j=>⟨[aV [.n a, .ow 51 ai b, .ow 9 ai c, .ow 9 ai d, .ow 26 ai e, .n f, .ow 75 ai g, .ow 72 ai h, .n i],aB j],[]⟩
def ac_:=dY aou atj DP.c DP.v
theorem aks:FO 168 ac_:=fr (E:=aqq) (aG Fo (aG Ud (aG qT (aG aci (aG alv aY))))) func168 DP.b DP.vo

def ain:=en [(82,qy)] [(4,[0,4])]
def apR:Fn [.I] As:=λa=>[aI a]
def auI:Fn [.S, .B] dA:=λa b=>⟨[aS a,aB b],[]⟩
def GG:Fn [.I, .R] Tb:=λa b=>[cI 0 a,cA 8 (.own 0),oR 1 5 b]
def RX(N:aF)(K:Kt R):=nV.l4 N (J GG (.exit 0) K)
def abZ(N:aF):It R:=(lp 4 (al GG (λK=>RX N K N) an) ln)
theorem Zd(N:aF):b_ ain (abZ N (R:=R)) (bX f275 4):=lq 4 GG (RX N) λK g=>nV.r4 N g (J GG (.exit 0) K)
def Ot:=dY apR auI (ct _) nV.v
theorem Ut:FO 275 Ot:=fh (E:=ain) (aG qT aY) func275 (it:=λN=>abZ N) (λN=>(bn (Zd N) bB)) nV.b λx f h=>nV.eG _ x.1

def aq9:=en [(275,Ot)] []
def apQ:Fn [.S] As:=λa=>[aS a]
def auH:Fn [.S, .B] dA:=λa b=>⟨[aS a,aB b],[]⟩
def ad0:=dY apQ auH (ct _) DY.v
theorem alf:FO 274 ad0:=fh (E:=aq9) (aG Ut aY) func274 (it:=λ_=>ln) (λ_=>bB) (λ_=>DY.b) λx f h=>⟨0,DY.eG _ x.1⟩

def aq3:=en [(125,J0),(274,ad0),(275,Ot)] []
def apE:Fn [.S, .I, .I, .S] As:=λa b c d=>[aV [.s a, .n b, .n c, .s d]]
def auw:Fn [.S, .B] dA:=λa b=>⟨[aS a,aB b],[]⟩
def adR:=dY apE auw (ct _) DX.v
theorem ak7:FO 262 adR:=fh (E:=aq3) (aG NY (aG alf (aG Ut aY))) func262 (it:=λ_=>ln) (λ_=>bB) (λ_=>DX.b) λx f h=>⟨0,DX.eG _ x.1 x.2.1 x.2.2.1 x.2.2.2.1⟩

def aqF:=en [(247,VG)] []
def aoV:Fn [.S] As:=λa=>[aS a]
def atK:Fn [.S] dA:=λa=>⟨[aS a],[]⟩
def Vw:=dY aoV atK vf.c vf.v
theorem acq:FO 196 Vw:=fr (E:=aqF) (aG acB aY) func196 vf.b vf.vo

def aq4:=en [(82,qy),(275,Ot),(196,Vw)] []
def apF:Fn [.S] As:=λa=>[aS a]
def auy:Fn [.S, .B] dA:=λa b=>⟨[aS a,aB b],[]⟩
def adS:=dY apF auy B3.c B3.v
theorem ak8:FO 263 adS:=fr (E:=aq4) (aG qT (aG Ut (aG acq aY))) func263 B3.b B3.vo

def aqO:=en [(262,adR),(263,adS)] []
def apd:Fn [.S, .I, .I, .S] As:=λa b c d=>[aV [.s a, .n b, .n c, .s d]]
def at6:Fn [.S, .B] dA:=λa b=>⟨[aS a,aB b],[]⟩
def VE:=dY apd at6 mY.c mY.v
theorem acz:FO 228 VE:=fr (E:=aqO) (aG ak7 (aG ak8 aY)) func228 mY.b mY.vo

def aqr:=en [(228,VE)] []
def aov:Fn [.S, .I, .I, .S] As:=λa b c d=>[aV [.s a, .n b, .n c, .s d]]
def atk:Fn [.R, .B] dA:=λa b=>⟨[aO 218 a,aB b],[]⟩
def ada:=dY aov atk ve.c ve.v
theorem akt:FO 169 ada:=fr (E:=aqr) (aG acz aY) func169 ve.b ve.vo

def aqP:=en [] []
def ape:Fn [.R] As:=λa=>[aV [.sh 94 a]]
def at7:Fn [.R] dA:=λa=>⟨[aV [.ow 94 ai a]],[]⟩
def Oj:=dY ape at7 tp.c tp.v
theorem Um:FO 229 Oj:=fr (E:=aqP) aY func229 tp.b tp.vo

def aqW:=en [] []
def apv:Fn [.S, .S, .I, .S] As:=λa b c d=>[aV [.s a, .s b, .n c], .fb [.s d]]
def aun:Fn [.B] dA:=λa=>⟨[aB a],[]⟩
def adM:=dY apv aun (ct _) KA.v
theorem ak2:FO 246 adM:=ft (E:=aqW) aY func246 KA.b λ(a0,a1,a2,a3,_)=>KA.eG _ a0 a1 a2 a3

def aan:=en [(246,adM)] [(2,[0,1,4,7,8])]
def ahH:Fn [.R, .S] As:=λa b=>[aH 94 a, .v ak [.fn 246 [[.s b]]]]
def ajS:Fn [.I] dA:=λa=>⟨[aI a],[]⟩
def uz:Fn [.R, .S, .I, .I, .I] Tb:=λa b c d e=>[cH 0 94 a,cA 2 (.fn 246 [[.s b]]),cI 8 c,cI 14 d,cI 16 e]
def MH(N:aF)(K:Kt R):=sA.l2 N (J uz .ret K) (J uz (.exit 0) K)
def Ts(N:aF):It R:=(lp 2 (al uz (λK=>MH N K N) an) ln)
theorem TU(N:aF):b_ aan (Ts N (R:=R)) (bX f245 2):=lq 2 uz (MH N) λK g=>sA.r2 N g (J uz .ret K) (J uz (.exit 0) K)
def L7:=dY ahH ajS sA.c sA.v
theorem Ur:FO 245 L7:=fq (E:=aan) (aG ak2 aY) func245 (it:=λN=>Ts N) (λN=>(bn (TU N) bB)) sA.b sA.vo

def aq_:=en [] []
def apT:Fn [.S, .S, .I, .S] As:=λa b c d=>[aV [.s a, .s b, .n c], .fb [.s d]]
def auK:Fn [.B] dA:=λa=>⟨[aB a],[]⟩
def VL:=dY apT auK (ct _) A2.v
theorem acG:FO 278 VL:=ft (E:=aq_) aY func278 A2.b λ(a0,a1,a2,a3,_)=>A2.eG _ a0 a1 a2 a3

def aao:=en [(278,VL)] [(2,[0,1,4,7,8])]
def ahI:Fn [.R, .S] As:=λa b=>[aH 94 a, .v ak [.fn 278 [[.s b]]]]
def ajT:Fn [.I] dA:=λa=>⟨[aI a],[]⟩
def uA:Fn [.R, .S, .I, .I, .I] Tb:=λa b c d e=>[cH 0 94 a,cA 2 (.fn 278 [[.s b]]),cI 8 c,cI 14 d,cI 16 e]
def MI(N:aF)(K:Kt R):=nz.l2 N (J uA .ret K) (J uA (.exit 0) K)
def Tt(N:aF):It R:=(lp 2 (al uA (λK=>MI N K N) an) ln)
theorem TV(N:aF):b_ aao (Tt N (R:=R)) (bX f245 2):=lq 2 uA (MI N) λK g=>nz.r2 N g (J uA .ret K) (J uA (.exit 0) K)
def L8:=dY ahI ajT nz.c nz.v
theorem Us:FO 245 L8:=fq (E:=aao) (aG acG aY) func245 (it:=λN=>Tt N) (λN=>(bn (TV N) bB)) nz.b nz.vo

def aqE:=en [(245,L7),(245,L8)] []
def aoT:Fn [.R, .S] As:=λa b=>[aV [.sh 94 a],aS b]
def atI:Fn [.I] dA:=λa=>⟨[aI a],[]⟩
def Vv:=dY aoT atI eE.c eE.v
theorem acp:FO 194 Vv:=fr (E:=aqE) (aG Ur (aG Us aY)) func194 eE.b eE.vo

def ahR:=en [(82,qy)] [(2,[1,2,6,7,8])]
def an3:Fn [.R] As:=λa=>[aV [.sh 94 a]]
def asS:Fn [.B] dA:=λa=>⟨[aB a],[]⟩
def zd:Fn [.B, .R, .I, .I, .R] Tb:=λa b c d e=>[cP 2 0,cA 4 (.b a),cH 12 94 b,cI 14 c,cI 16 d,oB 1 [.sh 94 e]]
def Q6(N:aF)(K:Kt R):=il.l2 N (J zd .ret K) (J zd (.exit 0) K)
def abt(N:aF):It R:=(lp 2 (al zd (λK=>Q6 N K N) an) ln)
theorem Yo(N:aF):b_ ahR (abt N (R:=R)) (bX f120 2):=lq 2 zd (Q6 N) λK g=>il.r2 N g (J zd .ret K) (J zd (.exit 0) K)
def JZ:=dY an3 asS il.c il.v
theorem NX:FO 120 JZ:=fq (E:=ahR) (aG qT aY) func120 (it:=λN=>abt N) (λN=>(bn (Yo N) bB)) il.b il.vo

def aq5:=en [(82,qy)] []
def apG:Fn [.I, .S, .S, .S] As:=λa b c d=>[aV [.n a, .s b, .s c, .s d]]
def auz:Fn [.B] dA:=λa=>⟨[aB a],[]⟩
def adT:=dY apG auz (ct _) KB.v
theorem ak9:FO 264 adT:=ft (E:=aq5) (aG qT aY) func264 KB.b λ(a0,a1,a2,a3,_)=>KB.eG _ a0 a1 a2 a3

def aio:=en [(245,L7),(245,L8),(278,VL)] [(5,[0,1,5,6])]
def apS:Fn [.R, .S] As:=λa b=>[aO 94 a, .v ak [.fn 278 [[.s b]]]]
def auJ:Fn [.R] dA:=λa=>⟨[aO 94 a],[[.nl]]⟩
def GH:Fn [.S, .I, .I, .R] Tb:=λa b c d=>[cA 0 (.own 900000000),cA 2 (.fn 278 [[.s a]]),cI 10 b,cI 12 c,oR 1800000001 94 d]
def RY(N:aF)(K:Kt R):=w7.l5 N (J GH (.exit 0) K)
def ab0(N:aF):It R:=(lp 5 (al GH (λK=>RY N K N) an) ln)
theorem Ze(N:aF):b_ aio (ab0 N (R:=R)) (bX f277 5):=lq 5 GH (RY N) λK g=>w7.r5 N g (J GH (.exit 0) K)
def ad2:=dY apS auJ w7.c w7.v
theorem alh:FO 277 ad2:=fq (E:=aio) (aG Ur (aG Us (aG acG aY))) func277 (it:=λN=>ab0 N) (λN=>(bn (Ze N) bB)) w7.b w7.vo

def aq6:=en [(229,Oj),(277,ad2)] []
def apI:Fn [.R, .S] As:=λa b=>[aV [.sh 94 a],aS b]
def auB:Fn [.R] dA:=λa=>⟨[aV [.ow 94 ai a]],[]⟩
def VK:=dY apI auB i9.c i9.v
theorem acF:FO 266 VK:=fr (E:=aq6) (aG Um (aG alh aY)) func266 i9.b i9.vo

def agy:Qq:=⟨λn=>bif bD n 22 then 276 else bif bD n 29 then 283 else 284,λn=>bif bD n 24 then 41 else bif bD n 9 then 94 else bif bD n 3 then 3 else bif bD n 4 then 4 else n,λn=>n⟩
def ad1:az fw->aC (aX×dA):=Ins.xQ 94 40
theorem afz:Ins.L Tryz.prog agy "slices.Insert[[]loop.example/g00245/impl.File,loop.example/g00245/impl.File]" 3 where
 mixed:=hM
 f22:=func276.trans (by kernel_rfl)
 t3:=by kernel_rfl
 a3:=Ins.lk (P:=Tryz.prog) (t:=3) (d:= .int .i64) (by kernel_rfl) rfl
 t4:=by kernel_rfl
 a4:=Ins.lk (P:=Tryz.prog) (t:=4) (d:= .bool) (by kernel_rfl) rfl
 t24:=by kernel_rfl
 a24:=Ins.lk (P:=Tryz.prog) (t:=41) (d:= .slice 94) (by kernel_rfl) rfl
 z9:=Ins.HG hE (t:=94) (ti:=⟨ai,[.s, .s, .i .i64],40⟩) (by kernel_rfl)
theorem alg:FO 276 ad1:=
 Ins.zG (e:=94) (te:=⟨ai,[.s, .s, .i .i64],40⟩) (by kernel_rfl) rfl (by kernel_rfl) hE afz
  (λargs w=>run_callFunc_extern (e:=fI #[41,41] #[4]) func283 (by kernel_rfl) (by kernel_rfl) (by kernel_rfl) (by kernel_rfl) args w)
  ⟨_,func276,by kernel_rfl,by kernel_rfl⟩

def aik:=en [(266,VK),(276,ad1)] [(3,[3,4,5,6])]
def apH:Fn [.R, .S, .S, .I] As:=λa b c d=>[aV [.sh 94 a],aV [.s b, .s c, .n d]]
def auA:Fn [.R] dA:=λa=>⟨[aV [.ow 94 ai a]],[]⟩
def GC:Fn [.I, .S, .S, .I, .R] Tb:=λa b c d e=>[cP 6 0,cP 8 1,cP 10 2,cI 12 a,oB 1 [.s b, .s c, .n d],oB 3 [.nl],oB 5 [.own 3],oR 7 94 e]
def RS(N:aF)(K:Kt R):=gM.l3 N (J GC (.exit 0) K)
def abW(N:aF):It R:=(lp 3 (al GC (λK=>RS N K N) an) ln)
theorem Y9(N:aF):b_ aik (abW N (R:=R)) (bX f265 3):=lq 3 GC (RS N) λK g=>gM.r3 N g (J GC (.exit 0) K)
def adU:=dY apH auA gM.c gM.v
theorem ak_:FO 265 adU:=fq (E:=aik) (aG acF (aG alg aY)) func265 (it:=λN=>abW N) (λN=>(bn (Y9 N) bB)) gM.b gM.vo

def aqQ:=en [(194,Vv),(120,JZ),(264,adT),(265,adU),(266,VK)] []
def apf:Fn [.R, .I, .S, .S, .S] As:=λa b c d e=>[aV [.sh 94 a],aV [.n b, .s c, .s d, .s e]]
def at8:Fn [.R, .B] dA:=λa b=>⟨[aV [.ow 94 ai a],aB b],[]⟩
def adC:=dY apf at8 rL.c rL.v
theorem akS:FO 230 adC:=fr (E:=aqQ) (aG acp (aG NX (aG ak9 (aG ak_ (aG acF aY))))) func230 rL.b rL.vo

def ahZ:=en [(229,Oj),(230,adC)] [(3,[1,4,5,6,13,14,15])]
def aow:Fn [.R, .R] As:=λa b=>[aV [.sh 94 a],aH 218 b]
def atl:Fn [.R, .I] dA:=λa b=>⟨[aV [.ow 94 ai a],aI b],[]⟩
def Ge:Fn [.R, .I, .R, .I, .I, .R] Tb:=λa b c d e f=>[cH 2 218 a,cP 8 0,cI 10 b,cP 12 1,cH 26 218 c,cI 28 d,cI 30 e,oB 1 [.nl],oB 3 [.own 2],oR 5 94 f]
def Il:Fn [.R, .I, .R, .I, .I, .R] Tb:=λa b c d e f=>[cH 2 218 a,cP 8 0,cI 10 b,cP 12 1,cH 26 218 c,cI 28 d,cI 30 e,oB 1 [.own 2],oB 3 [.own 2],oR 5 94 f]
def Rg(N:aF)(K:Kt R):=vU.l3 N (J Il .ret K) (J Ge (.exit 0) K)
def abB(N:aF):It R:=(lp 3 (al Ge (λK=>Rg N K N) an) ln)
theorem Yy(N:aF):b_ ahZ (abB N (R:=R)) (bX f170 3):=lq 3 Ge (Rg N) λK g=>vU.r3 N g (J Il .ret K) (J Ge (.exit 0) K)
def Vo:=dY aow atl vU.c vU.v
theorem ach:FO 170 Vo:=fq (E:=ahZ) (aG Um (aG akS aY)) func170 (it:=λN=>abB N) (λN=>(bn (Yy N) bB)) vU.b vU.vo

def E98:=WC T md [(168,ac_),(145,N_),(169,ada),(170,Vo)] [] [] [(0,1,.own 51),(0,2,.own 9),(0,3,.own 9),(0,4,.own 26),(0,6,.own 75),(0,7,.own 72),(0,9,.own 94),(0,10,.own 3),(0,11,.own 51)]
def A98:Fn [.I, .R, .R, .R, .R, .I, .R, .R, .I, .R, .R, .R, .I, .I] As:=λa b c d e f g h i j k l m o=>[.pt [.n a, .ow 51 ai b, .ow 9 ai c, .ow 9 ai d, .ow 26 ai e, .n f, .ow 75 ai g, .ow 72 ai h, .n i, .ow 94 ai j, .ow 3 ai k, .ow 51 ai l],aI m,aI o]
def k98:Fn [.B, .I, .R, .R, .R, .R, .I, .R, .R, .I, .R, .R, .R] dA:=λa b c d e f g h i j k l m=>⟨[aB a],[[.n b, .ow 51 ai c, .ow 9 ai d, .ow 9 ai e, .ow 26 ai f, .n g, .ow 75 ai h, .ow 72 ai i, .n j, .ow 94 ai k, .ow 3 ai l, .ow 51 ai m]]⟩
def amj:=dY A98 k98 Wq.c Wq.v
theorem avq:FO 98 amj:=fr (E:=E98) (aG aks (aG T8 (aG akt (aG ach aY)))) func98 Wq.b Wq.vo

def E99:=en [(160,Di),(165,Oc),(171,Vp)] []
def A99:Fn [.I, .R, .R, .R, .R, .I, .R, .R, .I, .I] As:=λa b c d e f g h i j=>[aV [.n a, .sh 51 b, .sh 9 c, .sh 9 d, .sh 26 e, .n f, .sh 75 g, .sh 72 h, .n i],aI j]
def k99:Fn [.I, .R, .R, .R, .R, .I, .R, .R, .I, .B] dA:=λa b c d e f g h i j=>⟨[aV [.n a, .ow 51 ai b, .ow 9 ai c, .ow 9 ai d, .ow 26 ai e, .n f, .ow 75 ai g, .ow 72 ai h, .n i],aB j],[]⟩
def amk:=dY A99 k99 Wr.c Wr.v
theorem avr:FO 99 amk:=fr (E:=E99) (aG Fo (aG Ud (aG aci aY))) func99 Wr.b Wr.vo

def aqs:=en [] []
def aoy:Fn [.I, .I] As:=λa b=>[aI a,aI b]
def atn:Fn [.I] dA:=λa=>⟨[aI a],[]⟩
def adb:=dY aoy atn AU.c AU.v
theorem aku:FO 172 adb:=fr (E:=aqs) aY func172 AU.b AU.vo

def apW:=en [(160,Di),(172,adb)] []
def anL:Fn [.I, .R, .R, .R, .R, .I, .R, .R, .I, .I] As:=λa b c d e f g h i j=>[aV [.n a, .sh 51 b, .sh 9 c, .sh 9 d, .sh 26 e, .n f, .sh 75 g, .sh 72 h, .n i],aI j]
def asz:Fn [.I, .R, .R, .R, .R, .I, .R, .R, .I] dA:=λa b c d e f g h i=>⟨[aV [.n a, .ow 51 ai b, .ow 9 ai c, .ow 9 ai d, .ow 26 ai e, .n f, .ow 75 ai g, .ow 72 ai h, .n i]],[]⟩
def acP:=dY anL asz DK.c DK.v
theorem aj8:FO 100 acP:=fr (E:=apW) (aG Fo (aG aku aY)) func100 DK.b DK.vo

def ah1:=en [(173,L5),(173,L6),(176,Vq)] [(5,[0,1,5,6])]
def aoA:Fn [.R, .I] As:=λa b=>[aO 72 a, .v ak [.fn 176 [[.n b]]]]
def atp:Fn [.R] dA:=λa=>⟨[aO 72 a],[[.nl]]⟩
def Gg:Fn [.I, .I, .I, .R] Tb:=λa b c d=>[cA 0 (.own 900000000),cA 2 (.fn 176 [[.n a]]),cI 10 b,cI 12 c,oR 1800000001 72 d]
def Ri(N:aF)(K:Kt R):=wQ.l5 N (J Gg (.exit 0) K)
def abD(N:aF):It R:=(lp 5 (al Gg (λK=>Ri N K N) an) ln)
theorem YA(N:aF):b_ ah1 (abD N (R:=R)) (bX f175 5):=lq 5 Gg (Ri N) λK g=>wQ.r5 N g (J Gg (.exit 0) K)
def adf:=dY aoA atp wQ.c wQ.v
theorem akw:FO 175 adf:=fq (E:=ah1) (aG Ue (aG Uf (aG acj aY))) func175 (it:=λN=>abD N) (λN=>(bn (YA N) bB)) wQ.b wQ.vo

def apY:=en [(160,Di),(175,adf)] []
def anN:Fn [.I, .R, .R, .R, .R, .I, .R, .R, .I, .I] As:=λa b c d e f g h i j=>[aV [.n a, .sh 51 b, .sh 9 c, .sh 9 d, .sh 26 e, .n f, .sh 75 g, .sh 72 h, .n i],aI j]
def asB:Fn [.I, .R, .R, .R, .R, .I, .R, .R, .I] dA:=λa b c d e f g h i=>⟨[aV [.n a, .ow 51 ai b, .ow 9 ai c, .ow 9 ai d, .ow 26 ai e, .n f, .ow 75 ai g, .ow 72 ai h, .n i]],[]⟩
def acQ:=dY anN asB DL.c DL.v
theorem aj9:FO 102 acQ:=fr (E:=apY) (aG Fo (aG akw aY)) func102 DL.b DL.vo

def ah2:=en [(120,JZ),(229,Oj)] [(5,[1,4,6,17,18,19])]
def aoC:Fn [.R, .R] As:=λa b=>[aV [.sh 94 a],aH 3 b]
def atr:Fn [.R, .B] dA:=λa b=>⟨[aV [.ow 94 ai a],aB b],[]⟩
def Gh:Fn [.R, .R, .I, .I, .R] Tb:=λa b c d e=>[cH 2 3 a,cP 8 0,cP 12 1,cH 34 94 b,cI 36 c,cI 38 d,oB 1 [.nl],oB 3 [.own 2],oR 5 94 e]
def Rj(N:aF)(K:Kt R):=wR.l5 N (J Gh (.exit 0) K)
def abE(N:aF):It R:=(lp 5 (al Gh (λK=>Rj N K N) an) ln)
theorem YB(N:aF):b_ ah2 (abE N (R:=R)) (bX f177 5):=lq 5 Gh (Rj N) λK g=>wR.r5 N g (J Gh (.exit 0) K)
def adg:=dY aoC atr wR.c wR.v
theorem akx:FO 177 adg:=fq (E:=ah2) (aG NX (aG Um aY)) func177 (it:=λN=>abE N) (λN=>(bn (YB N) bB)) wR.b wR.vo

def ap9:=en [(194,Vv)] []
def an4:Fn [.R, .S] As:=λa b=>[aV [.sh 94 a],aS b]
def asT:Fn [.S, .B] dA:=λa b=>⟨[aS a,aB b],[]⟩
def Vf:=dY an4 asT u6.c u6.v
theorem ab8:FO 121 Vf:=fr (E:=ap9) (aG acp aY) func121 u6.b u6.vo

def ah7:=en [(82,qy)] [(5,[0,1,4,5,6,7,8])]
def aoU:Fn [.S, .I] As:=λa b=>[aS a,aI b]
def atJ:Fn [.I, .I, .B] dA:=λa b c=>⟨[aI a,aI b,aB c],[]⟩
def zi:Fn [.S, .I, .I, .I, .B, .I, .I] Tb:=λa b c d e f g=>[cA 0 (.s a),cI 2 b,cI 8 c,cI 10 d,cA 12 (.b e),cI 14 f,cI 16 g]
def Rr(N:aF)(K:Kt R):=gk.l5 N (J zi .ret K) (J zi (.exit 0) K)
def abJ(N:aF):It R:=(lp 5 (al zi (λK=>Rr N K N) an) ln)
theorem YJ(N:aF):b_ ah7 (abJ N (R:=R)) (bX f195 5):=lq 5 zi (Rr N) λK g=>gk.r5 N g (J zi .ret K) (J zi (.exit 0) K)
def Oe:=dY aoU atJ (ct _) gk.v
theorem Uh:FO 195 Oe:=fh (E:=ah7) (aG qT aY) func195 (it:=λN=>abJ N) (λN=>(bn (YJ N) bB)) gk.b λx f h=>gk.eG _ x.1 x.2.1 f.1.1

def ahS:=en [(195,Oe),(82,qy),(196,Vw)] [(3,[0,4,5])]
def an5:Fn [.S] As:=λa=>[aS a]
def asU:Fn [.R, .I] dA:=λa b=>⟨[aO 9 a,aI b],[]⟩
def F9:Fn [.S, .I, .R] Tb:=λa b c=>[cA 0 (.s a),cA 8 (.own 0),cI 10 b,oR 1 9 c]
def Q7(N:aF)(K:Kt R):=U122.l3 N (J F9 (.exit 0) K)
def abu(N:aF):It R:=(lp 3 (al F9 (λK=>Q7 N K N) an) ln)
theorem Yp(N:aF):b_ ahS (abu N (R:=R)) (bX f122 3):=lq 3 F9 (Q7 N) λK g=>U122.r3 N g (J F9 (.exit 0) K)
def acZ:=dY an5 asU U122.c U122.v
theorem akh:FO 122 acZ:=fq (E:=ahS) (aG Uh (aG qT (aG acq aY))) func122 (it:=λN=>abu N) (λN=>(bn (Yp N) bB)) U122.b U122.vo

def aqG:=en [(195,Oe)] []
def aoW:Fn [.S, .I] As:=λa b=>[aS a,aI b]
def atL:Fn [.S, .I, .B] dA:=λa b c=>⟨[aS a,aI b,aB c],[]⟩
def adt:=dY aoW atL (ct _) tn.v
theorem akJ:FO 197 adt:=fh (E:=aqG) (aG Uh aY) func197 (it:=λ_=>ln) (λ_=>bB) (λ_=>tn.b) λx f h=>⟨0,tn.eG _ x.1 x.2.1 f.1.1⟩

def ap_:=en [(197,adt),(195,Oe),(125,J0)] []
def an6:Fn [.S] As:=λa=>[aS a]
def asV:Fn [.S, .I, .I, .S, .B] dA:=λa b c d e=>⟨[aV [.s a, .n b, .n c, .s d],aB e],[]⟩
def ac0:=dY an6 asV (ct _) vS.v
theorem aki:FO 123 ac0:=fh (E:=ap_) (aG akJ (aG Uh (aG NY aY))) func123 (it:=λ_=>ln) (λ_=>bB) (λ_=>vS.b) λx f h=>⟨0,vS.eG _ x.1 f.1.1⟩

def E61:=en [(120,JZ),(121,Vf),(122,acZ),(123,ac0),(124,Vg)] [(7,[3,27,28,29])]
def A61:Fn [.R] As:=λa=>[aV [.sh 94 a]]
def k61:Fn [.R] dA:=λa=>⟨[aO 51 a],[]⟩
def MY:Fn [.I, .I, .R, .R] Tb:=λa b c d=>[cA 6 (.own 0),cA 54 (.own 1),cI 56 a,cI 58 b,oR 1 51 c,oR 3 9 d]
def aaP(N:aF)(K:Kt R):=U61.l7 N (J MY (.exit 0) K)
def ajI(N:aF):It R:=(lp 7 (al MY (λK=>aaP N K N) an) ln)
theorem af7(N:aF):b_ E61 (ajI N (R:=R)) (bX f61 7):=lq 7 MY (aaP N) λK g=>U61.r7 N g (J MY (.exit 0) K)
def al_:=dY A61 k61 U61.c U61.v
theorem avg:FO 61 al_:=fq (E:=E61) (aG NX (aG ab8 (aG akh (aG aki (aG ab9 aY))))) func61 (it:=λN=>ajI N) (λN=>(bn (af7 N) bB)) U61.b U61.vo

def ah3:=en [(120,JZ),(228,VE),(121,Vf)] [(5,[2,4,5,6,17,18,19])]
def aoD:Fn [.R, .R] As:=λa b=>[aV [.sh 94 a],aH 51 b]
def ats:Fn [.R, .B] dA:=λa b=>⟨[aO 218 a,aB b],[]⟩
def zg:Fn [.B, .S, .R, .I, .I, .R] Tb:=λa b c d e f=>[cP 4 0,cA 8 .nl,cA 10 (.b a),cA 12 (.s b),cH 34 51 c,cI 36 d,cI 38 e,oB 1 [.sh 94 f]]
def Rk(N:aF)(K:Kt R):=AX.l5 N (J zg .ret K) (J zg (.exit 0) K)
def abF(N:aF):It R:=(lp 5 (al zg (λK=>Rk N K N) an) ln)
theorem YC(N:aF):b_ ah3 (abF N (R:=R)) (bX f178 5):=lq 5 zg (Rk N) λK g=>AX.r5 N g (J zg .ret K) (J zg (.exit 0) K)
def adh:=dY aoD ats AX.c AX.v
theorem aky:FO 178 adh:=fq (E:=ah3) (aG NX (aG acz (aG ab8 aY))) func178 (it:=λN=>abF N) (λN=>(bn (YC N) bB)) AX.b AX.vo

def E32:=en [(42,agE),(62,ZR),(87,agJ)] [(4,[0,4,5,11,12,13])]
def A32:Fn [.I, .R] As:=λa b=>[aI a,aH 51 b]
def k32:Fn [.I, .R, .R, .R, .R, .I, .R, .R, .I] dA:=λa b c d e f g h i=>⟨[aV [.n a, .ow 51 ai b, .ow 9 ai c, .ow 9 ai d, .ow 26 ai e, .n f, .ow 75 ai g, .ow 72 ai h, .n i]],[]⟩
def MQ:Fn [.I, .R, .I, .I, .I, .I, .I, .I, .I, .I, .R, .R, .R, .R, .R, .R] Tb:=λa b c d e f g h i j k l m o p q=>[cI 0 a,cP 8 0,cP 10 1,cH 22 51 b,cI 24 c,cI 26 d,oB 1 [.n e, .nl, .nl, .nl, .nl, .n f, .nl, .nl, .n g],oB 3 [.n h, .own 2, .own 3, .own 4, .own 5, .n i, .own 6, .own 7, .n j],oR 5 51 k,oR 7 9 l,oR 9 9 m,oR 11 26 o,oR 13 75 p,oR 15 72 q]
def aay(N:aF)(K:Kt R):=Qw.l4 N (J MQ (.exit 0) K)
def ajy(N:aF):It R:=(lp 4 (al MQ (λK=>aay N K N) an) ln)
theorem afQ(N:aF):b_ E32 (ajy N (R:=R)) (bX f32 4):=lq 4 MQ (aay N) λK g=>Qw.r4 N g (J MQ (.exit 0) K)
def alZ:=dY A32 k32 Qw.c Qw.v
theorem au6:FO 32 alZ:=fq (E:=E32) (aG alp (aG agi (aG alv aY))) func32 (it:=λN=>ajy N) (λN=>(bn (afQ N) bB)) Qw.b Qw.vo

def ahL:=WC T md [(177,adg),(61,al_),(62,ZR),(178,adh),(170,Vo),(32,alZ)] [(3,[0,4,26,27,28])] [] [(0,1,.own 51),(0,2,.own 9),(0,3,.own 9),(0,4,.own 26),(0,6,.own 75),(0,7,.own 72),(0,9,.own 94),(0,10,.own 3),(0,11,.own 51)]
def anO:Fn [.I, .R, .R, .R, .R, .I, .R, .R, .I, .R, .R, .R, .R] As:=λa b c d e f g h i j k l m=>[.pt [.n a, .ow 51 ai b, .ow 9 ai c, .ow 9 ai d, .ow 26 ai e, .n f, .ow 75 ai g, .ow 72 ai h, .n i, .ow 94 ai j, .ow 3 ai k, .ow 51 ai l],aH 3 m]
def asC:Fn [.I, .R, .R, .R, .R, .I, .R, .R, .I, .R, .R, .R] dA:=λa b c d e f g h i j k l=>⟨[],[[.n a, .ow 51 ai b, .ow 9 ai c, .ow 9 ai d, .ow 26 ai e, .n f, .ow 75 ai g, .ow 72 ai h, .n i, .ow 94 ai j, .ow 3 ai k, .ow 51 ai l]]⟩
def F7:Fn [.I, .I, .I, .I, .I, .R, .R, .R, .R, .R, .R, .R, .R, .R, .R, .R] Tb:=λa b c d e f g h i j k l m o p q=>[cP 0 900000900,cA 8 (.own 1),cA 52 (.own 2),cI 54 a,cI 56 b,oB 1800001801 [.n c, .own 900000001, .own 900000002, .own 900000003, .own 900000004, .n d, .own 900000006, .own 900000007, .n e, .own 9, .own 900000010, .own 900000011],oR 3 51 f,oR 5 51 g,oR 1800000003 51 h,oR 1800000005 9 i,oR 1800000007 9 j,oR 1800000009 26 k,oR 1800000013 75 l,oR 1800000015 72 m,oR 19 94 o,oR 1800000021 3 p,oR 1800000023 51 q]
def QZ(N:aF)(K:Kt R):=AP.l3 N (J F7 (.exit 0) K)
def abm(N:aF):It R:=(lp 3 (al F7 (λK=>QZ N K N) an) ln)
theorem Yh(N:aF):b_ ahL (abm N (R:=R)) (bX f103 3):=lq 3 F7 (QZ N) λK g=>AP.r3 N g (J F7 (.exit 0) K)
def acR:=dY anO asC AP.c AP.v
theorem aj_:FO 103 acR:=fq (E:=ahL) (aG akx (aG avg (aG agi (aG aky (aG ach (aG au6 aY)))))) func103 (it:=λN=>abm N) (λN=>(bn (Yh N) bB)) AP.b AP.vo

def apZ:=en [] []
def anP:Fn [.B] As:=λa=>[aB a]
def asD:Fn [.I] dA:=λa=>⟨[aI a],[]⟩
def acS:=dY anP asD (ct _) GJ.v
theorem aka:FO 104 acS:=ft (E:=apZ) aY func104 GJ.b λ(a0,_)=>GJ.eG _ a0

def E43:=WC T md [(96,amh),(97,ami),(98,amj),(99,amk),(100,acP),(101,Vc),(102,acQ),(103,acR),(104,acS)] [] [] [(0,1,.own 51),(0,2,.own 9),(0,3,.own 9),(0,4,.own 26),(0,6,.own 75),(0,7,.own 72),(0,9,.own 94),(0,10,.own 3),(0,11,.own 51)]
def A43:Fn [.I, .R, .R, .R, .R, .I, .R, .R, .I, .R, .R, .R, .I, .I, .S, .I, .R] As:=λa b c d e f g h i j k l m o p q r=>[.pt [.n a, .ow 51 ai b, .ow 9 ai c, .ow 9 ai d, .ow 26 ai e, .n f, .ow 75 ai g, .ow 72 ai h, .n i, .ow 94 ai j, .ow 3 ai k, .ow 51 ai l],aV [.n m, .n o, .s p, .n q, .sh 3 r]]
def k43:Fn [.I, .I, .R, .R, .R, .R, .I, .R, .R, .I, .R, .R, .R] dA:=λa b c d e f g h i j k l m=>⟨[aI a],[[.n b, .ow 51 ai c, .ow 9 ai d, .ow 9 ai e, .ow 26 ai f, .n g, .ow 75 ai h, .ow 72 ai i, .n j, .ow 94 ai k, .ow 3 ai l, .ow 51 ai m]]⟩
def al3:=dY A43 k43 Wn.c Wn.v
theorem au_:FO 43 al3:=fr (E:=E43) (aG avo (aG avp (aG avq (aG avr (aG aj8 (aG ab5 (aG aj9 (aG aj_ (aG aka aY))))))))) func43 Wn.b Wn.vo

def E11:=en [(31,alY),(42,agE),(43,al3)] [(4,[0,2,3,14,15,16]),(11,[2,6,27,28,29,1000000006009094,1000000006010003,1000000006011051])]
def A11:Fn [.R] As:=λa=>[aH 29 a]
def k11:Fn [.I, .R, .R, .R, .R, .I, .R, .R, .I, .R, .R, .R, .B] dA:=λa b c d e f g h i j k l m=>⟨[aV [.n a, .ow 51 ai b, .ow 9 ai c, .ow 9 ai d, .ow 26 ai e, .n f, .ow 75 ai g, .ow 72 ai h, .n i, .ow 94 ai j, .ow 3 ai k, .ow 51 ai l],aB m],[]⟩
def EB:Fn [.R, .B, .R, .I, .I, .I, .I, .I] Tb:=λa b c d e f g h=>[cH 0 29 a,cP 4 0,cA 6 (.b b),cH 28 29 c,cI 30 d,cI 32 e,oB 1 [.n f, .nl, .nl, .nl, .nl, .n g, .nl, .nl, .n h, .nl, .nl, .nl]]
def F8:Fn [.R, .I, .I, .I, .I, .I, .I, .I, .I, .R, .R, .R, .R, .R, .R, .R, .R, .R] Tb:=λa b c d e f g h i j k l m o p q r s=>[cP 4 0,cP 12 1,cH 54 29 a,cI 56 b,cI 58 c,oB 1 [.n d, .nl, .nl, .nl, .nl, .n e, .nl, .nl, .n f, .nl, .nl, .nl],oB 3 [.n g, .own 2, .own 3, .own 4, .own 5, .n h, .own 6, .own 7, .n i, .own 8, .own 9, .own 10],oR 5 51 j,oR 7 9 k,oR 9 9 l,oR 11 26 m,oR 13 75 o,oR 15 72 p,oR 17 94 q,oR 19 3 r,oR 21 51 s]
def aau(N:aF)(K:Kt R):=DM.l4 N (J EB .ret K) (J EB (.exit 0) K)
def Q5(N:aF)(K:Kt R):=DM.PH N (J F8 (.exit 2) K)
def afB(N:aF):It R:=(lp 4 (al EB (λK=>aau N K N) an) (lp 11 (al F8 (λK=>Q5 N K N) an) ln))
theorem afM(N:aF):b_ E11 (afB N (R:=R)) (bX f11 4):=lq 4 EB (aau N) λK g=>DM.r4 N g (J EB .ret K) (J EB (.exit 0) K)
theorem Yn(N:aF):b_ E11 (afB N (R:=R)) (bX f11 11):=lq 11 F8 (Q5 N) λK g=>DM.Aw N g (J F8 (.exit 2) K)
def alV:=dY A11 k11 DM.c DM.v
theorem au1:FO 11 alV:=fq (E:=E11) (aG au5 (aG alp (aG au_ aY))) func11 (it:=λN=>afB N) (λN=>(bn (afM N) (bn (Yn N) bB))) DM.b DM.vo

def E44:=en [] [(2,[0,3,4,5])]
def A44:Fn [.R, .S, .I, .I, .S] As:=λa b c d e=>[aH 51 a,aV [.s b, .n c, .n d, .s e]]
def k44:Fn [.B] dA:=λa=>⟨[aB a],[]⟩
def EF:Fn [.R, .B, .I, .S, .I, .I, .S] Tb:=λa b c d e f g=>[cH 0 51 a,cP 6 0,cA 8 (.b b),cI 10 c,oB 1 [.s d, .n e, .n f, .s g]]
def aaE(N:aF)(K:Kt R):=Bk.l2 N (J EF .ret K) (J EF (.exit 0) K)
def ajD(N:aF):It R:=(lp 2 (al EF (λK=>aaE N K N) an) ln)
theorem afW(N:aF):b_ E44 (ajD N (R:=R)) (bX f44 2):=lq 2 EF (aaE N) λK g=>Bk.r2 N g (J EF .ret K) (J EF (.exit 0) K)
def agF:=dY A44 k44 Bk.c Bk.v
theorem alq:FO 44 agF:=fq (E:=E44) aY func44 (it:=λN=>ajD N) (λN=>(bn (afW N) bB)) Bk.b Bk.vo

def E46:=en [] [(2,[1,2,3]),(5,[1,2,3,4])]
def A46:Fn [.I, .R, .R, .R, .R, .I, .R, .R, .I] As:=λa b c d e f g h i=>[aV [.n a, .sh 51 b, .sh 9 c, .sh 9 d, .sh 26 e, .n f, .sh 75 g, .sh 72 h, .n i]]
def k46:Fn [.B] dA:=λa=>⟨[aB a],[]⟩
def EI:Fn [.B, .I, .I, .R, .R, .R, .R, .I, .R, .R, .I] Tb:=λa b c d e f g h i j k=>[cP 2 0,cA 4 (.b a),cI 6 b,oB 1 [.n c, .sh 51 d, .sh 9 e, .sh 9 f, .sh 26 g, .n h, .sh 75 i, .sh 72 j, .n k]]
def EJ:Fn [.B, .I, .I, .I, .R, .R, .R, .R, .I, .R, .R, .I] Tb:=λa b c d e f g h i j k l=>[cP 2 0,cA 4 (.b a),cI 6 b,cI 8 c,oB 1 [.n d, .sh 51 e, .sh 9 f, .sh 9 g, .sh 26 h, .n i, .sh 75 j, .sh 72 k, .n l]]
def aaH(N:aF)(K:Kt R):=M5.l2 N (J EI .ret K) (J EI (.exit 0) K)
def aaI(N:aF)(K:Kt R):=M5.l5 N (J EJ .ret K) (J EJ (.exit 2) K)
def afD(N:aF):It R:=(lp 2 (al EI (λK=>aaH N K N) an) (lp 5 (al EJ (λK=>aaI N K N) an) ln))
theorem afZ(N:aF):b_ E46 (afD N (R:=R)) (bX f46 2):=lq 2 EI (aaH N) λK g=>M5.r2 N g (J EI .ret K) (J EI (.exit 0) K)
theorem af0(N:aF):b_ E46 (afD N (R:=R)) (bX f46 5):=lq 5 EJ (aaI N) λK g=>M5.r5 N g (J EJ .ret K) (J EJ (.exit 2) K)
def al4:=dY A46 k46 M5.c M5.v
theorem ava:FO 46 al4:=fq (E:=E46) aY func46 (it:=λN=>afD N) (λN=>(bn (afZ N) (bn (af0 N) bB))) M5.b M5.vo

def aqv:=en [] []
def aoF:Fn [.S, .S] As:=λa b=>[aS a,aS b]
def atu:Fn [.B] dA:=λa=>⟨[aB a],[]⟩
def adi:=dY aoF atu DQ.c DQ.v
theorem akz:FO 180 adi:=fr (E:=aqv) aY func180 DQ.b DQ.vo

def ahO:=en [(50,sU),(180,adi)] [(3,[2,3,4,5])]
def anT:Fn [.I, .R, .R, .R, .R, .I, .R, .R, .I, .R, .R, .R, .I, .S, .I, .I, .I, .S, .I] As:=λa b c d e f g h i j k l m o p q r s t=>[aV [.n a, .sh 51 b, .sh 9 c, .sh 9 d, .sh 26 e, .n f, .sh 75 g, .sh 72 h, .n i, .sh 94 j, .sh 3 k, .sh 51 l],aV [.n m, .s o, .n p, .n q, .n r, .s s, .n t]]
def asH:Fn [.B] dA:=λa=>⟨[aB a],[]⟩
def za:Fn [.B, .I, .I, .R, .R, .R, .R, .I, .R, .R, .I, .R, .R, .R, .I, .S, .I, .I, .I, .S, .I] Tb:=λa b c d e f g h i j k l m o p q r s t u v=>[cP 4 0,cP 6 1,cA 8 (.b a),cI 10 b,oB 1 [.n c, .sh 51 d, .sh 9 e, .sh 9 f, .sh 26 g, .n h, .sh 75 i, .sh 72 j, .n k, .sh 94 l, .sh 3 m, .sh 51 o],oB 3 [.n p, .s q, .n r, .n s, .n t, .s u, .n v]]
def Q2(N:aF)(K:Kt R):=AQ.l3 N (J za .ret K) (J za (.exit 0) K)
def abp(N:aF):It R:=(lp 3 (al za (λK=>Q2 N K N) an) ln)
theorem Yk(N:aF):b_ ahO (abp N (R:=R)) (bX f108 3):=lq 3 za (Q2 N) λK g=>AQ.r3 N g (J za .ret K) (J za (.exit 0) K)
def acV:=dY anT asH AQ.c AQ.v
theorem akd:FO 108 acV:=fq (E:=ahO) (aG vm (aG akz aY)) func108 (it:=λN=>abp N) (λN=>(bn (Yk N) bB)) AQ.b AQ.vo

def E47:=en [(108,acV)] [(2,[1,2,3])]
def A47:Fn [.I, .R, .R, .R, .R, .I, .R, .R, .I, .R, .R, .R] As:=λa b c d e f g h i j k l=>[aV [.n a, .sh 51 b, .sh 9 c, .sh 9 d, .sh 26 e, .n f, .sh 75 g, .sh 72 h, .n i, .sh 94 j, .sh 3 k, .sh 51 l]]
def k47:Fn [.B] dA:=λa=>⟨[aB a],[]⟩
def EK:Fn [.B, .I, .I, .R, .R, .R, .R, .I, .R, .R, .I, .R, .R, .R] Tb:=λa b c d e f g h i j k l m o=>[cP 2 0,cA 4 (.b a),cI 6 b,oB 1 [.n c, .sh 51 d, .sh 9 e, .sh 9 f, .sh 26 g, .n h, .sh 75 i, .sh 72 j, .n k, .sh 94 l, .sh 3 m, .sh 51 o]]
def aaJ(N:aF)(K:Kt R):=Qy.l2 N (J EK .ret K) (J EK (.exit 0) K)
def ajE(N:aF):It R:=(lp 2 (al EK (λK=>aaJ N K N) an) ln)
theorem af1(N:aF):b_ E47 (ajE N (R:=R)) (bX f47 2):=lq 2 EK (aaJ N) λK g=>Qy.r2 N g (J EK .ret K) (J EK (.exit 0) K)
def al5:=dY A47 k47 Qy.c Qy.v
theorem avb:FO 47 al5:=fq (E:=E47) (aG akd aY) func47 (it:=λN=>ajE N) (λN=>(bn (af1 N) bB)) Qy.b Qy.vo

def E48:=en [(44,agF)] [(2,[1,2,3])]
def A48:Fn [.I, .R, .R, .R, .R, .I, .R, .R, .I, .R, .R, .R] As:=λa b c d e f g h i j k l=>[aV [.n a, .sh 51 b, .sh 9 c, .sh 9 d, .sh 26 e, .n f, .sh 75 g, .sh 72 h, .n i, .sh 94 j, .sh 3 k, .sh 51 l]]
def k48:Fn [.B] dA:=λa=>⟨[aB a],[]⟩
def EL:Fn [.B, .I, .I, .R, .R, .R, .R, .I, .R, .R, .I, .R, .R, .R] Tb:=λa b c d e f g h i j k l m o=>[cP 2 0,cA 4 (.b a),cI 6 b,oB 1 [.n c, .sh 51 d, .sh 9 e, .sh 9 f, .sh 26 g, .n h, .sh 75 i, .sh 72 j, .n k, .sh 94 l, .sh 3 m, .sh 51 o]]
def aaK(N:aF)(K:Kt R):=Ik.l2 N (J EL .ret K) (J EL (.exit 0) K)
def ajF(N:aF):It R:=(lp 2 (al EL (λK=>aaK N K N) an) ln)
theorem af2(N:aF):b_ E48 (ajF N (R:=R)) (bX f48 2):=lq 2 EL (aaK N) λK g=>Ik.r2 N g (J EL .ret K) (J EL (.exit 0) K)
def al6:=dY A48 k48 Ik.c Ik.v
theorem avc:FO 48 al6:=fq (E:=E48) (aG alq aY) func48 (it:=λN=>ajF N) (λN=>(bn (af2 N) bB)) Ik.b Ik.vo

def E12:=en [(14,ZP),(13,Qj),(44,agF),(45,ZQ),(46,al4),(47,al5),(48,al6)] [(3,[1,2,3,4])]
def A12:Fn [.I, .R, .R, .R, .R, .I, .R, .R, .I, .R, .R, .R] As:=λa b c d e f g h i j k l=>[aV [.n a, .sh 51 b, .sh 9 c, .sh 9 d, .sh 26 e, .n f, .sh 75 g, .sh 72 h, .n i, .sh 94 j, .sh 3 k, .sh 51 l]]
def k12:Fn [.B] dA:=λa=>⟨[aB a],[]⟩
def EC:Fn [.B, .I, .I, .R, .R, .R, .R, .I, .R, .R, .I, .R, .R, .R, .R] Tb:=λa b c d e f g h i j k l m o p=>[cP 2 0,cA 4 (.b a),cA 6 (.own 1),cI 8 b,oB 1 [.n c, .sh 51 d, .sh 9 e, .sh 9 f, .sh 26 g, .n h, .sh 75 i, .sh 72 j, .n k, .sh 94 l, .sh 3 m, .sh 51 o],oR 3 51 p]
def aav(N:aF)(K:Kt R):=M1.l3 N (J EC .ret K) (J EC (.exit 0) K)
def ajv(N:aF):It R:=(lp 3 (al EC (λK=>aav N K N) an) ln)
theorem afN(N:aF):b_ E12 (ajv N (R:=R)) (bX f12 3):=lq 3 EC (aav N) λK g=>M1.r3 N g (J EC .ret K) (J EC (.exit 0) K)
def alW:=dY A12 k12 M1.c M1.v
theorem au2:FO 12 alW:=fq (E:=E12) (aG agf (aG T7 (aG alq (aG agh (aG ava (aG avb (aG avc aY))))))) func12 (it:=λN=>ajv N) (λN=>(bn (afN N) bB)) M1.b M1.vo

def E15:=en [(51,Qk)] [(4,[1,2,3])]
def A15:Fn [.R] As:=λa=>[aV [.sh 94 a]]
def k15:Fn [.B] dA:=λa=>⟨[aB a],[]⟩
def ED:Fn [.B, .I, .R] Tb:=λa b c=>[cP 2 0,cA 4 (.b a),cI 6 b,oB 1 [.sh 94 c]]
def aax(N:aF)(K:Kt R):=M3.l4 N (J ED .ret K) (J ED (.exit 0) K)
def ajx(N:aF):It R:=(lp 4 (al ED (λK=>aax N K N) an) ln)
theorem afP(N:aF):b_ E15 (ajx N (R:=R)) (bX f15 4):=lq 4 ED (aax N) λK g=>M3.r4 N g (J ED .ret K) (J ED (.exit 0) K)
def alX:=dY A15 k15 M3.c M3.v
theorem au3:FO 15 alX:=fq (E:=E15) (aG Uu aY) func15 (it:=λN=>ajx N) (λN=>(bn (afP N) bB)) M3.b M3.vo

def E3:=WC T md [(8,sp8),(9,sp9),(10,alU),(11,alV),(12,alW),(13,Qj),(14,ZP),(15,alX)] [(15,[2,7,9,11,12])] [9004000] []
def A3:Fn [.R] As:=λa=>[aH 5 a]
def k3:Fn [.B] dA:=λa=>⟨[aB a],[]⟩
def MU:Fn [.B, .I, .I, .I, .I, .I, .I, .I, .I, .R, .R, .R, .R, .R, .R, .R, .R, .R, .R, .R, .R, .R, .R, .R, .R, .R, .R] Tb:=λa b c d e f g h i j k l m o p q r s t u v w x y z aa ab=>[cA 4 (.b a),cP 14 0,cP 18 1,cI 22 b,cI 24 c,oB 1 [.n d, .own 2, .own 3, .own 4, .own 5, .n e, .own 6, .own 7, .n f, .own 8, .own 9, .own 10],oB 3 [.n g, .own 11, .own 12, .own 13, .own 14, .n h, .own 15, .own 16, .n i, .own 17, .own 18, .own 19],oR 5 51 j,oR 7 9 k,oR 9 9 l,oR 11 26 m,oR 13 75 o,oR 15 72 p,oR 17 94 q,oR 19 3 r,oR 21 51 s,oR 23 51 t,oR 25 9 u,oR 27 9 v,oR 29 26 w,oR 31 75 x,oR 33 72 y,oR 35 94 z,oR 37 3 aa,oR 39 51 ab]
def aaD(N:aF)(K:Kt R):=U3.Jv N (J MU (.exit 0) K)
def it3(N:aF):It R:=(lp 15 (al MU (λK=>aaD N K N) an) ln)
theorem afV(N:aF):b_ E3 (it3 N (R:=R)) (bX f3 15):=lq 15 MU (aaD N) λK g=>U3.QJ N g (J MU (.exit 0) K)
def sp3:=dY A3 k3 U3.c U3.v
theorem ok3:FO 3 sp3:=fq (E:=E3) (aG ok8 (aG ok9 (aG au0 (aG au1 (aG au2 (aG T7 (aG agf (aG au3 aY)))))))) func3 (it:=λN=>it3 N) (λN=>(bn (afV N) bB)) U3.b U3.vo

def E56:=en [(50,sU)] []
def A56:Fn [.I, .I, .S, .I, .R] As:=λa b c d e=>[aV [.n a, .n b, .s c, .n d, .sh 3 e]]
def k56:Fn [.B] dA:=λa=>⟨[aB a],[]⟩
def aA1:=dY A56 k56 (ct _) U56.v

end Go.FG.Se
