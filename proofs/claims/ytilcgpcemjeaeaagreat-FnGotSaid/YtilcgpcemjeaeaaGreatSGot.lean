/- Functions of the program: the evaluation of each, and that a call of it does what is told. No condition. -/
import Derived.Test.YtilcgpcemjeaeaaGreatTab
import Derived.Test.YtilcgpcemjeaeaaGreatPGotb
import Derived.Test.YtilcgpcemjeaeaaGreatIns
set_option linter.unusedVariables false
set_option linter.unusedSimpArgs false
set_option maxRecDepth 100000
open Bool renaming true->ai,false->ak
open Function renaming comp_def->dN
open Go.Extern.SlicesOverlaps renaming overlaps->fG
open Go.Shelf renaming Ren->P4
open Nat renaming beq->bC
open _root_ renaming Nat->aF,List->aA,Option->az,Bool->aW
namespace Go.FG.Se
open Go.Proofs
variable {R:Type}
def E8:=en [] []
def A8:Fn [.R] As:=λa=>[aH 5 a]
def k8:Fn [.B] dB:=λa=>⟨[aB a],[]⟩
def sp8:=dX A8 k8 (ct _) U8.v
theorem ok8:b9 Tryz.prog T 8 sp8:=ft (E:=E8) aX Tryz.func8 U8.b λ(a0,_)=>U8.eu _ a0

def E39:=en [] [(3,[0,3,4])]
def A39:Fn [.R] As:=λa=>[aH 5 a]
def k39:Fn [.R, .I, .I] dB:=λa b c=>⟨[.pt [.sh 5 a, .n b, .n c]],[]⟩
def MB:Fn [.R, .I, .I] Tb:=λa b c=>[cH 0 5 a,cI 6 b,cI 8 c]
def Z5(N:aF)(K:Kt R):=Qd.l3 N (J MB (.exit 0) K)
def aiY(N:aF):It R:=(lp 3 (al MB (λK=>Z5 N K N) an) ln)
theorem afl(N:aF):cg E39 (aiY N (R:=R)) (bX Tryz.f39 3):=lq 3 MB (Z5 N) λK g=>Qd.r3 N g (J MB (.exit 0) K)
def alk:=dX A39 k39 Qd.c Qd.v
theorem auH:b9 Tryz.prog T 39 alk:=fq (E:=E39) aX Tryz.func39 (it:=λN=>aiY N) (λN=>(bw (afl N) bD)) Qd.b Qd.vo

def Wu:=en [] [(3,[0,1,2])]
def aoc:Fn [] As:=[]
def as4:Fn [.R, .I] dB:=λa b=>⟨[aV [.ow 26 ai a, .n b]],[]⟩
def ru:Fn [.I, .I, .I] Tb:=λa b c=>[cP 0 0,cP 2 1,cI 4 a,oB 1 [.nl, .n b],oB 3 [.nl, .n c]]
def oy:Fn [.I, .I, .I, .R] Tb:=λa b c d=>[cP 0 0,cP 2 1,cI 4 a,oB 1 [.nl, .n b],oB 3 [.own 2, .n c],oR 5 26 d]
def Q4(N:aF)(K:Kt R):=Gi.l3 N (J ru (.exit 0) K) (J oy (.exit 0) K)
def Mh(N:aF)(K:Kt R):=Gi.sG N (J ru (.exit 0) K) (J oy (.exit 0) K)
def Nh(N:aF):It R:=(lp 3 (al ru (λK=>Q4 N K N) (al oy (λK=>Mh N K N) an)) ln)
theorem N5(N:aF)(K:Kt R):Wd Wu (Nh N) (bX Tryz.f184 3) 3 K oy (Mh N K):=lw (λg=>Gi.zG N (cmp _ ru (g∘fK)) (cmp _ oy (g∘fK)) (J ru (.exit 0) K) (J oy (.exit 0) K)) λm i=>by simp only[dN,wf i];rfl
theorem af7(N:aF)(K:Kt R):Wd Wu (Nh N) (bX Tryz.f184 3) 3 K ru (Q4 N K):=lw (λg=>Gi.r3 N (cmp _ ru (g∘fK)) (cmp _ oy (g∘fK)) (J ru (.exit 0) K) (J oy (.exit 0) K)) λm i=>by simp only[dN,wf i,wf (N5 N K m)];rfl
theorem Yh(N:aF):cg Wu (Nh N (R:=R)) (bX Tryz.f184 3):=lm 3 (ga ru (af7 N) (ga oy (N5 N) oJ))
def acG:=dX aoc as4 Gi.c Gi.v
theorem ajV:b9 Tryz.prog T 184 acG:=fq (E:=Wu) aX Tryz.func184 (it:=λN=>Nh N) (λN=>(bw (Yh N) bD)) Gi.b Gi.vo

def apy:=en [(184,acG)] []
def anr:Fn [] As:=[]
def asi:Fn [.R, .R, .R, .I] dB:=λa b c d=>⟨[aV [.ow 9 ai a, .ow 9 ai b, .ow 26 ai c, .n d]],[]⟩
def ach:=dX anr asi (ct _) WO.v
theorem ajy:b9 Tryz.prog T 115 ach:=ft (E:=apy) (aG ajV aX) Tryz.func115 WO.b λ_=>WO.eu _

def E57:=en [(115,ach)] []
def A57:Fn [] As:=[]
def k57:Fn [.I, .R, .R, .R, .R, .I, .R, .R, .I] dB:=λa b c d e f g h i=>⟨[aV [.n a, .ow 51 ai b, .ow 9 ai c, .ow 9 ai d, .ow 26 ai e, .n f, .ow 75 ai g, .ow 72 ai h, .n i]],[]⟩
def afY:=dX A57 k57 (ct _) U57.v
theorem akL:b9 Tryz.prog T 57 afY:=ft (E:=E57) (aG ajy aX) Tryz.func57 U57.b λ_=>U57.eu _

def E40:=en [] []
def A40:Fn [.R, .I, .I] As:=λa b c=>[.pt [.sh 5 a, .n b, .n c]]
def k40:Fn [.I, .R, .I, .I] dB:=λa b c d=>⟨[aI a],[[.sh 5 b, .n c, .n d]]⟩
def alm:=dX A40 k40 dr.c dr.v
theorem auI:b9 Tryz.prog T 40 alm:=fr (E:=E40) aX Tryz.func40 dr.b dr.vo

def E41:=en [(40,alm)] []
def A41:Fn [.R, .I, .I, .I] As:=λa b c d=>[.pt [.sh 5 a, .n b, .n c],aI d]
def k41:Fn [.I, .R, .I, .I] dB:=λa b c d=>⟨[aI a],[[.sh 5 b, .n c, .n d]]⟩
def PU:=dX A41 k41 nX.c nX.v
theorem T6:b9 Tryz.prog T 41 PU:=fr (E:=E41) (aG auI aX) Tryz.func41 nX.b nX.vo

def E80:=en [(41,PU)] []
def A80:Fn [.R, .I, .I, .R] As:=λa b c d=>[.pt [.sh 5 a, .n b, .n c],aO 3 d]
def k80:Fn [.I, .R, .I, .I, .R] dB:=λa b c d e=>⟨[aI a],[[.sh 5 b, .n c, .n d],[.kp e]]⟩
def alu:=dX A80 k80 zW.c zW.v
theorem auP:b9 Tryz.prog T 80 alu:=fr (E:=E80) (aG T6 aX) Tryz.func80 zW.b zW.vo

def apE:=en [(41,PU)] []
def anC:Fn [.R, .I, .I, .R] As:=λa b c d=>[.pt [.sh 5 a, .n b, .n c],aO 9 d]
def ast:Fn [.S, .R, .I, .I, .R] dB:=λa b c d e=>⟨[aS a],[[.sh 5 b, .n c, .n d],[.kp e]]⟩
def UQ:=dX anC ast pI.c pI.v
theorem aby:b9 Tryz.prog T 143 UQ:=fr (E:=apE) (aG T6 aX) Tryz.func143 pI.b pI.vo

def apQ:=en [(143,UQ)] []
def anP:Fn [.R, .I, .I] As:=λa b c=>[.pt [.sh 5 a, .n b, .n c]]
def asG:Fn [.S, .R, .I, .I] dB:=λa b c d=>⟨[aS a],[[.sh 5 b, .n c, .n d]]⟩
def acq:=dX anP asG uR.c uR.v
theorem ajG:b9 Tryz.prog T 158 acq:=fr (E:=apQ) (aG aby aX) Tryz.func158 uR.b uR.vo

def E94:=en [(41,PU)] []
def A94:Fn [.R, .I, .I, .I] As:=λa b c d=>[.pt [.sh 5 a, .n b, .n c],aI d]
def k94:Fn [.B, .R, .I, .I] dB:=λa b c d=>⟨[aB a],[[.sh 5 b, .n c, .n d]]⟩
def af3:=dX A94 k94 HI.c HI.v
theorem akQ:b9 Tryz.prog T 94 af3:=fr (E:=E94) (aG T6 aX) Tryz.func94 HI.b HI.vo

def E93:=en [(80,alu),(41,PU),(158,acq),(94,af3),(143,UQ)] [(4,[0,1,3,4,5,6,7])]
def A93:Fn [.R, .I, .I, .I, .R, .R, .R, .R, .I, .R, .R, .I, .R, .R, .R] As:=λa b c d e f g h i j k l m o p=>[.pt [.sh 5 a, .n b, .n c],aV [.n d, .ow 51 ai e, .ow 9 ai f, .ow 9 ai g, .ow 26 ai h, .n i, .ow 75 ai j, .ow 72 ai k, .n l, .ow 94 ai m, .ow 3 ai o, .ow 51 ai p]]
def k93:Fn [.I, .I, .S, .I, .R, .R, .I, .I, .R, .R, .R, .R, .R, .R, .R, .R, .R] dB:=λa b c d e f g h i j k l m o p q r=>⟨[aV [.n a, .n b, .s c, .n d, .ow 3 ai e]],[[.sh 5 f, .n g, .n h],[.nl, .kp i, .kp j, .kp k, .kp l, .nl, .kp m, .kp o, .nl, .kp p, .kp q, .kp r]]⟩
def MG:Fn [.I, .I, .I, .I, .R, .I, .I, .R, .R, .R, .R, .R, .R, .R, .R, .R, .I, .I, .I, .I, .I, .S, .I, .I, .I, .S, .I, .R] Tb:=λa b c d e f g h i j k l m o p q r s t u v w x y z aa ab ac=>[cP 0 900000900,cV 2 [.n a, .own 900001001, .own 900001002, .own 900001003, .own 900001004, .n b, .own 900001006, .own 900001007, .n c, .own 900001009, .own 900001010, .own 900001011],cP 6 10,cP 8 11,cP 10 12,cA 12 (.own 13),cI 14 d,oB 1800001801 [.sh 5 e, .n f, .n g],oR 1800002003 51 h,oR 1800002005 9 i,oR 1800002007 9 j,oR 1800002009 26 k,oR 1800002013 75 l,oR 1800002015 72 m,oR 1800002019 94 o,oR 1800002021 3 p,oR 1800002023 51 q,oB 21 [.n r, .own 900001001, .own 900001002, .own 900001003, .own 900001004, .n s, .own 900001006, .own 900001007, .n t, .own 900001009, .own 900001010, .own 900001011],oB 23 [.n u, .n v, .s w, .n x, .nl],oB 25 [.n y, .n z, .s aa, .n ab, .nl],oR 27 3 ac]
def aaf(N:aF)(K:Kt R):=Km.l4 N (J MG (.exit 0) K)
def ai5(N:aF):It R:=(lp 4 (al MG (λK=>aaf N K N) an) ln)
theorem afw(N:aF):cg E93 (ai5 N (R:=R)) (bX Tryz.f93 4):=lq 4 MG (aaf N) λK g=>Km.r4 N g (J MG (.exit 0) K)
def alA:=dX A93 k93 Km.c Km.v
theorem auV:b9 Tryz.prog T 93 alA:=fq (E:=E93) (aG auP (aG T6 (aG ajG (aG akQ (aG aby aX))))) Tryz.func93 (it:=λN=>ai5 N) (λN=>(bw (afw N) bD)) Km.b Km.vo

def Wz:=en [] [(3,[1,2,3,4])]
def aoY:Fn [.R, .I] As:=λa b=>[aV [.sh 26 a, .n b]]
def atP:Fn [.R, .I] dB:=λa b=>⟨[aV [.ow 26 ai a, .n b]],[]⟩
def rC:Fn [.I, .R, .I, .I, .I] Tb:=λa b c d e=>[cP 2 0,cP 4 1,cP 6 2,cI 8 a,oB 1 [.sh 26 b, .n c],oB 3 [.nl, .n d],oB 5 [.nl, .n e]]
def oD:Fn [.I, .R, .I, .I, .I, .R] Tb:=λa b c d e f=>[cP 2 0,cP 4 1,cP 6 2,cI 8 a,oB 1 [.sh 26 b, .n c],oB 3 [.nl, .n d],oB 5 [.own 3, .n e],oR 7 26 f]
def Rv(N:aF)(K:Kt R):=n6.l3 N (J rC (.exit 0) K) (J oD (.exit 0) K)
def Mp(N:aF)(K:Kt R):=n6.sG N (J rC (.exit 0) K) (J oD (.exit 0) K)
def Nm(N:aF):It R:=(lp 3 (al rC (λK=>Rv N K N) (al oD (λK=>Mp N K N) an)) ln)
theorem N9(N:aF)(K:Kt R):Wd Wz (Nm N) (bX Tryz.f244 3) 3 K oD (Mp N K):=lw (λg=>n6.zG N (cmp _ rC (g∘fK)) (cmp _ oD (g∘fK)) (J rC (.exit 0) K) (J oD (.exit 0) K)) λm i=>by simp only[dN,wf i];rfl
theorem agb(N:aF)(K:Kt R):Wd Wz (Nm N) (bX Tryz.f244 3) 3 K rC (Rv N K):=lw (λg=>n6.r3 N (cmp _ rC (g∘fK)) (cmp _ oD (g∘fK)) (J rC (.exit 0) K) (J oD (.exit 0) K)) λm i=>by simp only[dN,wf i,wf (N9 N K m)];rfl
theorem YI(N:aF):cg Wz (Nm N (R:=R)) (bX Tryz.f244 3):=lm 3 (ga rC (agb N) (ga oD (N9 N) oJ))
def N1:=dX aoY atP n6.c n6.v
theorem T2:b9 Tryz.prog T 244 N1:=fq (E:=Wz) aX Tryz.func244 (it:=λN=>Nm N) (λN=>(bw (YI N) bD)) n6.b n6.vo

def ap8:=en [(244,N1)] []
def aol:Fn [.R, .R, .R, .I] As:=λa b c d=>[aV [.sh 9 a, .sh 9 b, .sh 26 c, .n d]]
def atc:Fn [.R, .R, .R, .I] dB:=λa b c d=>⟨[aV [.ow 9 ai a, .ow 9 ai b, .ow 26 ai c, .n d]],[]⟩
def U4:=dX aol atc fY.c fY.v
theorem abL:b9 Tryz.prog T 193 U4:=fr (E:=ap8) (aG T2 aX) Tryz.func193 fY.b fY.vo

def apA:=en [(193,U4)] []
def ant:Fn [.I, .R, .R, .R, .R, .I, .R, .R, .I] As:=λa b c d e f g h i=>[aV [.n a, .sh 51 b, .sh 9 c, .sh 9 d, .sh 26 e, .n f, .sh 75 g, .sh 72 h, .n i]]
def asl:Fn [.I, .R, .R, .R, .R, .I, .R, .R, .I] dB:=λa b c d e f g h i=>⟨[aV [.n a, .ow 51 ai b, .ow 9 ai c, .ow 9 ai d, .ow 26 ai e, .n f, .ow 75 ai g, .ow 72 ai h, .n i]],[]⟩
def C0:=dX ant asl fN.c fN.v
theorem ES:b9 Tryz.prog T 117 C0:=fr (E:=apA) (aG abL aX) Tryz.func117 fN.b fN.vo

def E50:=en [] []
def A50:Fn [.I, .I, .I] As:=λa b c=>[aI a,aI b,aI c]
def k50:Fn [.B] dB:=λa=>⟨[aB a],[]⟩
def tQ:=dX A50 k50 (ct _) kl.v
theorem v8:b9 Tryz.prog T 50 tQ:=ft (E:=E50) aX Tryz.func50 kl.b λ(a0,a1,a2,_)=>kl.eu _ a0 a1 a2

def aps:=en [(50,tQ)] []
def ank:Fn [.S] As:=λa=>[aS a]
def asa:Fn [.B] dB:=λa=>⟨[aB a],[]⟩
def CZ:=dX ank asa (ct _) sV.v
theorem ER:b9 Tryz.prog T 107 CZ:=ft (E:=aps) (aG v8 aX) Tryz.func107 sV.b λ(a0,_)=>sV.eu _ a0

def E49:=en [(107,CZ),(50,tQ)] []
def A49:Fn [.S, .I, .I, .S] As:=λa b c d=>[aV [.s a, .n b, .n c, .s d]]
def k49:Fn [.B] dB:=λa=>⟨[aB a],[]⟩
def Vo:=dX A49 k49 (ct _) m8.v
theorem Y1:b9 Tryz.prog T 49 Vo:=ft (E:=E49) (aG ER (aG v8 aX)) Tryz.func49 m8.b λ(a0,a1,a2,a3,_)=>m8.eu _ a0 a1 a2 a3

def ahu:=en [] [(2,[0,1,4,5])]
def aoA:Fn [.R, .S] As:=λa b=>[aH 9 a,aS b]
def atr:Fn [.B] dB:=λa=>⟨[aB a],[]⟩
def y_:Fn [.R, .S, .B, .I] Tb:=λa b c d=>[cH 0 9 a,cA 2 (.s b),cA 8 (.b c),cI 10 d]
def Rf(N:aF)(K:Kt R):=fc.l2 N (J y_ .ret K) (J y_ (.exit 0) K)
def aa_(N:aF):It R:=(lp 2 (al y_ (λK=>Rf N K N) an) ln)
theorem Ys(N:aF):cg ahu (aa_ N (R:=R)) (bX Tryz.f219 2):=lq 2 y_ (Rf N) λK g=>fc.r2 N g (J y_ .ret K) (J y_ (.exit 0) K)
def NW:=dX aoA atr fc.c fc.v
theorem TX:b9 Tryz.prog T 219 NW:=fq (E:=ahu) aX Tryz.func219 (it:=λN=>aa_ N) (λN=>(bw (Ys N) bD)) fc.b fc.vo

def apM:=en [(219,NW)] []
def anL:Fn [.R, .R, .R, .I, .S] As:=λa b c d e=>[aV [.sh 9 a, .sh 9 b, .sh 26 c, .n d],aS e]
def asC:Fn [.B] dB:=λa=>⟨[aB a],[]⟩
def UW:=dX anL asC sW.c sW.v
theorem abD:b9 Tryz.prog T 153 UW:=fr (E:=apM) (aG TX aX) Tryz.func153 sW.b sW.vo

def adH:=en [(50,tQ)] [(4,[1,2,3]),(9,[1,2,3,4])]
def aoL:Fn [.R, .I] As:=λa b=>[aV [.sh 26 a, .n b]]
def atC:Fn [.B] dB:=λa=>⟨[aB a],[]⟩
def zb:Fn [.B, .I, .R, .I] Tb:=λa b c d=>[cP 2 0,cA 4 (.b a),cI 6 b,oB 1 [.sh 26 c, .n d]]
def zc:Fn [.B, .I, .I, .R, .I] Tb:=λa b c d e=>[cP 2 0,cA 4 (.b a),cI 6 b,cI 8 c,oB 1 [.sh 26 d, .n e]]
def Rk(N:aF)(K:Kt R):=fD.l4 N (J zb .ret K) (J zb (.exit 0) K)
def Rl(N:aF)(K:Kt R):=fD.l9 N (J zc .ret K) (J zc (.exit 2) K)
def S4(N:aF):It R:=(lp 4 (al zb (λK=>Rk N K N) an) (lp 9 (al zc (λK=>Rl N K N) an) ln))
theorem Yx(N:aF):cg adH (S4 N (R:=R)) (bX Tryz.f231 4):=lq 4 zb (Rk N) λK g=>fD.r4 N g (J zb .ret K) (J zb (.exit 0) K)
theorem Yy(N:aF):cg adH (S4 N (R:=R)) (bX Tryz.f231 9):=lq 9 zc (Rl N) λK g=>fD.r9 N g (J zc .ret K) (J zc (.exit 2) K)
def NY:=dX aoL atC fD.c fD.v
theorem TZ:b9 Tryz.prog T 231 NY:=fq (E:=adH) (aG v8 aX) Tryz.func231 (it:=λN=>S4 N) (λN=>(bw (Yx N) (bw (Yy N) bD))) fD.b fD.vo

def aho:=en [(107,CZ),(219,NW),(231,NY)] [(3,[1,2,3,4])]
def an9:Fn [.R, .R, .R, .I] As:=λa b c d=>[aV [.sh 9 a, .sh 9 b, .sh 26 c, .n d]]
def as0:Fn [.B] dB:=λa=>⟨[aB a],[]⟩
def yW:Fn [.B, .I, .R, .R, .R, .I, .R] Tb:=λa b c d e f g=>[cP 2 0,cA 4 (.b a),cA 6 (.own 1),cI 8 b,oB 1 [.sh 9 c, .sh 9 d, .sh 26 e, .n f],oR 3 9 g]
def Q2(N:aF)(K:Kt R):=jx.l3 N (J yW .ret K) (J yW (.exit 0) K)
def aa4(N:aF):It R:=(lp 3 (al yW (λK=>Q2 N K N) an) ln)
theorem Yf(N:aF):cg aho (aa4 N (R:=R)) (bX Tryz.f179 3):=lq 3 yW (Q2 N) λK g=>jx.r3 N g (J yW .ret K) (J yW (.exit 0) K)
def U1:=dX an9 as0 jx.c jx.v
theorem abI:b9 Tryz.prog T 179 U1:=fq (E:=aho) (aG ER (aG TX (aG TZ aX))) Tryz.func179 (it:=λN=>aa4 N) (λN=>(bw (Yf N) bD)) jx.b jx.vo

def ag7:=en [(49,Vo),(153,UW),(179,U1)] [(2,[1,2,3])]
def ani:Fn [.I, .R, .R, .R, .R, .I, .R, .R, .I] As:=λa b c d e f g h i=>[aV [.n a, .sh 51 b, .sh 9 c, .sh 9 d, .sh 26 e, .n f, .sh 75 g, .sh 72 h, .n i]]
def ar9:Fn [.B] dB:=λa=>⟨[aB a],[]⟩
def yN:Fn [.B, .I, .I, .R, .R, .R, .R, .I, .R, .R, .I] Tb:=λa b c d e f g h i j k=>[cP 2 0,cA 4 (.b a),cI 6 b,oB 1 [.n c, .sh 51 d, .sh 9 e, .sh 9 f, .sh 26 g, .n h, .sh 75 i, .sh 72 j, .n k]]
def QH(N:aF)(K:Kt R):=nN.l2 N (J yN .ret K) (J yN (.exit 0) K)
def aaM(N:aF):It R:=(lp 2 (al yN (λK=>QH N K N) an) ln)
theorem XV(N:aF):cg ag7 (aaM N (R:=R)) (bX Tryz.f105 2):=lq 2 yN (QH N) λK g=>nN.r2 N g (J yN .ret K) (J yN (.exit 0) K)
def ace:=dX ani ar9 nN.c nN.v
theorem ajv:b9 Tryz.prog T 105 ace:=fq (E:=ag7) (aG Y1 (aG abD (aG abI aX))) Tryz.func105 (it:=λN=>aaM N) (λN=>(bw (XV N) bD)) nN.b nN.vo

def ag8:=en [(107,CZ),(50,tQ)] [(5,[1,2,4,5,6])]
def anj:Fn [.I, .R, .R, .R, .R, .I, .R, .R, .I, .I] As:=λa b c d e f g h i j=>[aV [.n a, .sh 51 b, .sh 9 c, .sh 9 d, .sh 26 e, .n f, .sh 75 g, .sh 72 h, .n i],aI j]
def ar_:Fn [.B] dB:=λa=>⟨[aB a],[]⟩
def yO:Fn [.I, .B, .I, .I, .R, .R, .R, .R, .I, .R, .R, .I, .S, .S, .I, .I, .I] Tb:=λa b c d e f g h i j k l m o p q r=>[cI 2 a,cP 4 0,cA 8 (.b b),cP 10 1,cI 12 c,oB 1 [.n d, .sh 51 e, .sh 9 f, .sh 9 g, .sh 26 h, .n i, .sh 75 j, .sh 72 k, .n l],oB 3 [.s m, .s o, .n p, .n q, .n r]]
def QI(N:aF)(K:Kt R):=m9.l5 N (J yO .ret K) (J yO (.exit 0) K)
def aaN(N:aF):It R:=(lp 5 (al yO (λK=>QI N K N) an) ln)
theorem XW(N:aF):cg ag8 (aaN N (R:=R)) (bX Tryz.f106 5):=lq 5 yO (QI N) λK g=>m9.r5 N g (J yO .ret K) (J yO (.exit 0) K)
def acf:=dX anj ar_ m9.c m9.v
theorem ajw:b9 Tryz.prog T 106 acf:=fq (E:=ag8) (aG ER (aG v8 aX)) Tryz.func106 (it:=λN=>aaN N) (λN=>(bw (XW N) bD)) m9.b m9.vo

def E45:=en [(50,tQ),(105,ace),(106,acf),(107,CZ)] [(4,[1,2,3]),(9,[1,2,4])]
def A45:Fn [.I, .R, .R, .R, .R, .I, .R, .R, .I] As:=λa b c d e f g h i=>[aV [.n a, .sh 51 b, .sh 9 c, .sh 9 d, .sh 26 e, .n f, .sh 75 g, .sh 72 h, .n i]]
def k45:Fn [.B] dB:=λa=>⟨[aB a],[]⟩
def Ek:Fn [.B, .I, .I, .R, .R, .R, .R, .I, .R, .R, .I] Tb:=λa b c d e f g h i j k=>[cP 2 0,cA 4 (.b a),cI 6 b,oB 1 [.n c, .sh 51 d, .sh 9 e, .sh 9 f, .sh 26 g, .n h, .sh 75 i, .sh 72 j, .n k]]
def El:Fn [.B, .I, .I, .R, .R, .R, .R, .I, .R, .R, .I] Tb:=λa b c d e f g h i j k=>[cP 2 0,cA 4 (.b a),cI 8 b,oB 1 [.n c, .sh 51 d, .sh 9 e, .sh 9 f, .sh 26 g, .n h, .sh 75 i, .sh 72 j, .n k]]
def Z6(N:aF)(K:Kt R):=qi.l4 N (J Ek .ret K) (J Ek (.exit 0) K)
def Z7(N:aF)(K:Kt R):=qi.l9 N (J El .ret K) (J El (.exit 2) K)
def ae4(N:aF):It R:=(lp 4 (al Ek (λK=>Z6 N K N) an) (lp 9 (al El (λK=>Z7 N K N) an) ln))
theorem afm(N:aF):cg E45 (ae4 N (R:=R)) (bX Tryz.f45 4):=lq 4 Ek (Z6 N) λK g=>qi.r4 N g (J Ek .ret K) (J Ek (.exit 0) K)
theorem afn(N:aF):cg E45 (ae4 N (R:=R)) (bX Tryz.f45 9):=lq 9 El (Z7 N) λK g=>qi.r9 N g (J El .ret K) (J El (.exit 2) K)
def afV:=dX A45 k45 qi.c qi.v
theorem akI:b9 Tryz.prog T 45 afV:=fq (E:=E45) (aG v8 (aG ajv (aG ajw (aG ER aX)))) Tryz.func45 (it:=λN=>ae4 N) (λN=>(bw (afm N) (bw (afn N) bD))) qi.b qi.vo

def ahy:=en [] [(2,[1,2,4,5,6])]
def aoN:Fn [.I, .R, .R, .R, .R, .I, .R, .R, .I, .S] As:=λa b c d e f g h i j=>[aV [.n a, .sh 51 b, .sh 9 c, .sh 9 d, .sh 26 e, .n f, .sh 75 g, .sh 72 h, .n i],aS j]
def atE:Fn [.S, .I, .I, .S, .B] dB:=λa b c d e=>⟨[aV [.s a, .n b, .n c, .s d],aB e],[]⟩
def zd:Fn [.S, .B, .I, .I, .R, .R, .R, .R, .I, .R, .R, .I, .S, .I, .I, .S] Tb:=λa b c d e f g h i j k l m o p q=>[cA 2 (.s a),cP 4 0,cP 8 1,cA 10 (.b b),cI 12 c,oB 1 [.n d, .sh 51 e, .sh 9 f, .sh 9 g, .sh 26 h, .n i, .sh 75 j, .sh 72 k, .n l],oB 3 [.s m, .n o, .n p, .s q]]
def Ro(N:aF)(K:Kt R):=wJ.l2 N (J zd .ret K) (J zd (.exit 0) K)
def abd(N:aF):It R:=(lp 2 (al zd (λK=>Ro N K N) an) ln)
theorem YB(N:aF):cg ahy (abd N (R:=R)) (bX Tryz.f233 2):=lq 2 zd (Ro N) λK g=>wJ.r2 N g (J zd .ret K) (J zd (.exit 0) K)
def ac0:=dX aoN atE wJ.c wJ.v
theorem ake:b9 Tryz.prog T 233 ac0:=fq (E:=ahy) aX Tryz.func233 (it:=λN=>abd N) (λN=>(bw (YB N) bD)) wJ.b wJ.vo

def E13:=en [(49,Vo),(50,tQ)] []
def A13:Fn [.S, .I, .I, .S, .I] As:=λa b c d e=>[aV [.s a, .n b, .n c, .s d],aI e]
def k13:Fn [.B] dB:=λa=>⟨[aB a],[]⟩
def Zu:=dX A13 k13 (ct _) Dg.v
theorem afz:b9 Tryz.prog T 13 Zu:=ft (E:=E13) (aG Y1 (aG v8 aX)) Tryz.func13 Dg.b λ(a0,a1,a2,a3,a4,_)=>Dg.eu _ a0 a1 a2 a3 a4

def adI:=en [] [(2,[0,1,5]),(6,[0,1,5,6])]
def aoM:Fn [.I, .S] As:=λa b=>[.v ak [.i .u32 a],aS b]
def atD:Fn [.I] dB:=λa=>⟨[.v ak [.i .u32 a]],[]⟩
def FW:Fn [.I, .S, .I] Tb:=λa b c=>[cA 0 (.i .u32 a),cA 2 (.s b),cI 10 c]
def FX:Fn [.I, .S, .I, .I] Tb:=λa b c d=>[cA 0 (.i .u32 a),cA 2 (.s b),cI 10 c,cI 12 d]
def Rm(N:aF)(K:Kt R):=jP.l2 N (J FW (.exit 0) K)
def Rn(N:aF)(K:Kt R):=jP.l6 N (J FX (.exit 2) K)
def S5(N:aF):It R:=(lp 2 (al FW (λK=>Rm N K N) an) (lp 6 (al FX (λK=>Rn N K N) an) ln))
theorem Yz(N:aF):cg adI (S5 N (R:=R)) (bX Tryz.f232 2):=lq 2 FW (Rm N) λK g=>jP.r2 N g (J FW (.exit 0) K)
theorem YA(N:aF):cg adI (S5 N (R:=R)) (bX Tryz.f232 6):=lq 6 FX (Rn N) λK g=>jP.r6 N g (J FX (.exit 2) K)
def acZ:=dX aoM atD jP.c jP.v
theorem akd:b9 Tryz.prog T 232 acZ:=fq (E:=adI) aX Tryz.func232 (it:=λN=>S5 N) (λN=>(bw (Yz N) (bw (YA N) bD))) jP.b jP.vo

def ap2:=en [(232,acZ)] []
def aob:Fn [.S] As:=λa=>[aS a]
def as3:Fn [.I] dB:=λa=>⟨[.v ak [.i .u32 a]],[]⟩
def U2:=dX aob as3 vM.c vM.v
theorem abJ:b9 Tryz.prog T 183 U2:=fr (E:=ap2) (aG akd aX) Tryz.func183 vM.b vM.vo

def aqw:=en [(183,U2)] []
def ao6:Fn [.I, .S] As:=λa b=>[aI a,aS b]
def atY:Fn [.I] dB:=λa=>⟨[aI a],[]⟩
def Vl:=dX ao6 atY gj.c gj.v
theorem ab0:b9 Tryz.prog T 258 Vl:=fr (E:=aqw) (aG abJ aX) Tryz.func258 gj.b gj.vo

def Ww:=en [(244,N1),(231,NY),(258,Vl)] [(5,[1,4,5,6]),(14,[4,5,8]),(17,[4,5,8,9])]
def aoz:Fn [.R, .I, .S] As:=λa b c=>[aV [.sh 26 a, .n b],aS c]
def atq:Fn [.R, .I] dB:=λa b=>⟨[aV [.ow 26 ai a, .n b]],[]⟩
def FT:Fn [.S, .I, .I, .I, .R] Tb:=λa b c d e=>[cA 2 (.s a),cP 8 0,cP 10 1,cI 12 b,oB 1 [.nl, .n c],oB 3 [.own 2, .n d],oR 5 26 e]
def A0:Fn [.I, .I, .I, .R] Tb:=λa b c d=>[cP 8 0,cP 10 1,cI 16 a,oB 1 [.nl, .n b],oB 3 [.own 2, .n c],oR 5 26 d]
def A1:Fn [.I, .I, .I, .I, .R] Tb:=λa b c d e=>[cP 8 0,cP 10 1,cI 16 a,cI 18 b,oB 1 [.nl, .n c],oB 3 [.own 2, .n d],oR 5 26 e]
def Re(N:aF)(K:Kt R):=du.l5 N (J FT (.exit 0) K)
def Ml(N:aF)(K:Kt R):=du.l14 N (J A0 (.exit 2) K)
def Mm(N:aF)(K:Kt R):=du.l17 N (J A1 (.exit 4) K)
def Nj(N:aF):It R:=(lp 5 (al FT (λK=>Re N K N) an) (lp 14 (al A0 (λK=>Ml N K N) an) (lp 17 (al A1 (λK=>Mm N K N) an) ln)))
theorem Yr(N:aF):cg Ww (Nj N (R:=R)) (bX Tryz.f218 5):=lq 5 FT (Re N) λK g=>du.r5 N g (J FT (.exit 0) K)
theorem Tv(N:aF):cg Ww (Nj N (R:=R)) (bX Tryz.f218 14):=lq 14 A0 (Ml N) λK g=>du.r14 N g (J A0 (.exit 2) K)
theorem Tw(N:aF):cg Ww (Nj N (R:=R)) (bX Tryz.f218 17):=lq 17 A1 (Mm N) λK g=>du.r17 N g (J A1 (.exit 4) K)
def Vc:=dX aoz atq du.c du.v
theorem abR:b9 Tryz.prog T 218 Vc:=fq (E:=Ww) (aG T2 (aG TZ (aG ab0 aX))) Tryz.func218 (it:=λN=>Nj N) (λN=>(bw (Yr N) (bw (Tv N) (bw (Tw N) bD)))) du.b du.vo

def ahv:=en [] [(3,[0,1,5,6])]
def aoB:Fn [.R, .S] As:=λa b=>[aH 9 a,aS b]
def ats:Fn [.R] dB:=λa=>⟨[aO 9 a],[]⟩
def FU:Fn [.R, .S, .I, .R] Tb:=λa b c d=>[cH 0 9 a,cA 2 (.s b),cA 10 (.own 0),cI 12 c,oR 1 9 d]
def Rg(N:aF)(K:Kt R):=o9.l3 N (J FU (.exit 0) K)
def aba(N:aF):It R:=(lp 3 (al FU (λK=>Rg N K N) an) ln)
theorem Yt(N:aF):cg ahv (aba N (R:=R)) (bX Tryz.f220 3):=lq 3 FU (Rg N) λK g=>o9.r3 N g (J FU (.exit 0) K)
def Vd:=dX aoB ats o9.c o9.v
theorem abS:b9 Tryz.prog T 220 Vd:=fq (E:=ahv) aX Tryz.func220 (it:=λN=>aba N) (λN=>(bw (Yt N) bD)) o9.b o9.vo

def ahw:=en [(231,NY),(258,Vl)] [(5,[1,2,5,6])]
def aoC:Fn [.R, .I, .S] As:=λa b c=>[aV [.sh 26 a, .n b],aS c]
def att:Fn [.I] dB:=λa=>⟨[aI a],[]⟩
def FV:Fn [.S, .I, .I, .R, .I] Tb:=λa b c d e=>[cA 2 (.s a),cP 4 0,cI 10 b,cI 12 c,oB 1 [.sh 26 d, .n e]]
def Rh(N:aF)(K:Kt R):=mG.l5 N (J FV (.exit 0) K)
def abb(N:aF):It R:=(lp 5 (al FV (λK=>Rh N K N) an) ln)
theorem Yu(N:aF):cg ahw (abb N (R:=R)) (bX Tryz.f221 5):=lq 5 FV (Rh N) λK g=>mG.r5 N g (J FV (.exit 0) K)
def acT:=dX aoC att mG.c mG.v
theorem aj8:b9 Tryz.prog T 221 acT:=fq (E:=ahw) (aG TZ (aG ab0 aX)) Tryz.func221 (it:=λN=>abb N) (λN=>(bw (Yu N) bD)) mG.b mG.vo

def apK:=en [(193,U4),(179,U1),(107,CZ),(218,Vc),(219,NW),(220,Vd),(221,acT)] []
def anJ:Fn [.R, .R, .R, .I, .S] As:=λa b c d e=>[aV [.sh 9 a, .sh 9 b, .sh 26 c, .n d],aS e]
def asA:Fn [.R, .R, .R, .I, .S] dB:=λa b c d e=>⟨[aV [.ow 9 ai a, .ow 9 ai b, .ow 26 ai c, .n d],aS e],[]⟩
def UT:=dX anJ asA eZ.c eZ.v
theorem abB:b9 Tryz.prog T 151 UT:=fr (E:=apK) (aG abL (aG abI (aG ER (aG abR (aG TX (aG abS (aG aj8 aX))))))) Tryz.func151 eZ.b eZ.vo

def adJ:=en [] [(3,[0,3,5,6]),(9,[0,3,5,7])]
def aoO:Fn [.R, .I, .S, .I, .I, .I, .S, .I] As:=λa b c d e f g h=>[aH 72 a,aV [.n b, .s c, .n d, .n e, .n f, .s g, .n h]]
def atF:Fn [.R] dB:=λa=>⟨[aO 72 a],[]⟩
def FY:Fn [.R, .I, .I, .S, .I, .I, .I, .S, .I, .R] Tb:=λa b c d e f g h i j=>[cH 0 72 a,cP 6 0,cA 10 (.own 1),cI 12 b,oB 1 [.n c, .s d, .n e, .n f, .n g, .s h, .n i],oR 3 72 j]
def F2:Fn [.R, .I, .I, .S, .I, .I, .I, .S, .I, .R] Tb:=λa b c d e f g h i j=>[cH 0 72 a,cP 6 0,cA 10 (.own 1),cI 14 b,oB 1 [.n c, .s d, .n e, .n f, .n g, .s h, .n i],oR 3 72 j]
def Rp(N:aF)(K:Kt R):=lQ.l3 N (J FY (.exit 0) K)
def Rq(N:aF)(K:Kt R):=lQ.l9 N (J F2 (.exit 2) K)
def S6(N:aF):It R:=(lp 3 (al FY (λK=>Rp N K N) an) (lp 9 (al F2 (λK=>Rq N K N) an) ln))
theorem YC(N:aF):cg adJ (S6 N (R:=R)) (bX Tryz.f234 3):=lq 3 FY (Rp N) λK g=>lQ.r3 N g (J FY (.exit 0) K)
theorem YD(N:aF):cg adJ (S6 N (R:=R)) (bX Tryz.f234 9):=lq 9 F2 (Rq N) λK g=>lQ.r9 N g (J F2 (.exit 2) K)
def ac1:=dX aoO atF lQ.c lQ.v
theorem akf:b9 Tryz.prog T 234 ac1:=fq (E:=adJ) aX Tryz.func234 (it:=λN=>S6 N) (λN=>(bw (YC N) (bw (YD N) bD))) lQ.b lQ.vo

def ahf:=en [] [(3,[0,1,5,6])]
def anK:Fn [.R, .S] As:=λa b=>[aH 51 a,aS b]
def asB:Fn [.R] dB:=λa=>⟨[aO 51 a],[]⟩
def FD:Fn [.R, .S, .I, .R] Tb:=λa b c d=>[cH 0 51 a,cA 2 (.s b),cA 10 (.own 0),cI 12 c,oR 1 51 d]
def QR(N:aF)(K:Kt R):=qg.l3 N (J FD (.exit 0) K)
def aaV(N:aF):It R:=(lp 3 (al FD (λK=>QR N K N) an) ln)
theorem X5(N:aF):cg ahf (aaV N (R:=R)) (bX Tryz.f152 3):=lq 3 FD (QR N) λK g=>qg.r3 N g (J FD (.exit 0) K)
def UU:=dX anK asB qg.c qg.v
theorem abC:b9 Tryz.prog T 152 UU:=fq (E:=ahf) aX Tryz.func152 (it:=λN=>aaV N) (λN=>(bw (X5 N) bD)) qg.b qg.vo

def aqm:=en [(220,Vd),(244,N1)] []
def aoP:Fn [.R, .R, .R, .I, .S] As:=λa b c d e=>[aV [.sh 9 a, .sh 9 b, .sh 26 c, .n d],aS e]
def atG:Fn [.R, .R, .R, .I] dB:=λa b c d=>⟨[aV [.ow 9 ai a, .ow 9 ai b, .ow 26 ai c, .n d]],[]⟩
def ac2:=dX aoP atG uW.c uW.v
theorem akg:b9 Tryz.prog T 235 ac2:=fr (E:=aqm) (aG abS (aG T2 aX)) Tryz.func235 uW.b uW.vo

def adE:=en [(117,C0),(45,afV),(50,tQ),(107,CZ),(233,ac0),(13,Zu),(151,UT),(234,ac1),(152,UU),(235,ac2),(218,Vc)] [(5,[1,2,3,6,7,8,9]),(22,[2,3,6,8,10,12,13])]
def aod:Fn [.I, .R, .R, .R, .R, .I, .R, .R, .I, .I, .S] As:=λa b c d e f g h i j k=>[aV [.n a, .sh 51 b, .sh 9 c, .sh 9 d, .sh 26 e, .n f, .sh 75 g, .sh 72 h, .n i],aI j,aS k]
def as5:Fn [.I, .R, .R, .R, .R, .I, .R, .R, .I, .I] dB:=λa b c d e f g h i j=>⟨[aV [.n a, .ow 51 ai b, .ow 9 ai c, .ow 9 ai d, .ow 26 ai e, .n f, .ow 75 ai g, .ow 72 ai h, .n i],aI j],[]⟩
def FN:Fn [.I, .S, .I, .I, .I, .R, .R, .R, .R, .I, .R, .R, .I, .I, .I, .I, .I, .I, .I, .R, .R, .R, .R, .R, .R] Tb:=λa b c d e f g h i j k l m o p q r s t u v w x y z=>[cI 2 a,cA 4 (.s b),cP 6 0,cP 12 1,cI 14 c,cP 16 2,cI 18 d,oB 1 [.n e, .sh 51 f, .sh 9 g, .sh 9 h, .sh 26 i, .n j, .sh 75 k, .sh 72 l, .n m],oB 3 [.n o, .nl, .nl, .nl, .nl, .n p, .nl, .nl, .n q],oB 5 [.n r, .own 3, .own 4, .own 5, .own 6, .n s, .own 7, .own 8, .n t],oR 7 51 u,oR 9 9 v,oR 11 9 w,oR 13 26 x,oR 15 75 y,oR 17 72 z]
def H9:Fn [.I, .S, .I, .I, .I, .R, .R, .R, .R, .I, .R, .R, .I, .I, .I, .I, .I, .I, .I, .R, .R, .R, .R, .R, .R] Tb:=λa b c d e f g h i j k l m o p q r s t u v w x y z=>[cI 2 a,cA 4 (.s b),cP 6 0,cP 12 1,cI 14 c,cP 16 2,cI 18 d,oB 1 [.n e, .sh 51 f, .sh 9 g, .sh 9 h, .sh 26 i, .n j, .sh 75 k, .sh 72 l, .n m],oB 3 [.n o, .own 3, .own 4, .own 5, .own 6, .n p, .own 7, .own 8, .n q],oB 5 [.n r, .own 3, .own 4, .own 5, .own 6, .n s, .own 7, .own 8, .n t],oR 7 51 u,oR 9 9 v,oR 11 9 w,oR 13 26 x,oR 15 75 y,oR 17 72 z]
def AY:Fn [.S, .B, .I, .I, .R, .R, .R, .R, .I, .R, .R, .I, .I, .I, .I, .I, .I, .I, .I, .S, .I, .I, .I, .S, .I, .R, .R, .R, .R, .R, .R] Tb:=λa b c d e f g h i j k l m o p q r s t u v w x y z aa ab ac ad ae af=>[cA 4 (.s a),cP 6 0,cP 12 1,cP 16 2,cP 20 3,cA 24 (.b b),cI 26 c,oB 1 [.n d, .sh 51 e, .sh 9 f, .sh 9 g, .sh 26 h, .n i, .sh 75 j, .sh 72 k, .n l],oB 3 [.n m, .nl, .nl, .nl, .nl, .n o, .nl, .nl, .n p],oB 5 [.n q, .own 4, .own 5, .own 6, .own 7, .n r, .own 8, .own 9, .n s],oB 7 [.n t, .s u, .n v, .n w, .n x, .s y, .n z],oR 9 51 aa,oR 11 9 ab,oR 13 9 ac,oR 15 26 ad,oR 17 75 ae,oR 19 72 af]
def Q5(N:aF)(K:Kt R):=wF.l5 N (J H9 .ret K) (J FN (.exit 0) K)
def Mi(N:aF)(K:Kt R):=wF.XS N (J AY (.exit 2) K)
def S1(N:aF):It R:=(lp 5 (al FN (λK=>Q5 N K N) an) (lp 22 (al AY (λK=>Mi N K N) an) ln))
theorem Yi(N:aF):cg adE (S1 N (R:=R)) (bX Tryz.f185 5):=lq 5 FN (Q5 N) λK g=>wF.r5 N g (J H9 .ret K) (J FN (.exit 0) K)
theorem Ts(N:aF):cg adE (S1 N (R:=R)) (bX Tryz.f185 22):=lq 22 AY (Mi N) λK g=>wF.r22 N g (J AY (.exit 2) K)
def acH:=dX aod as5 wF.c wF.v
theorem ajW:b9 Tryz.prog T 185 acH:=fq (E:=adE) (aG ES (aG akI (aG v8 (aG ER (aG ake (aG afz (aG abB (aG akf (aG abC (aG akg (aG abR aX))))))))))) Tryz.func185 (it:=λN=>S1 N) (λN=>(bw (Yi N) (bw (Ts N) bD))) wF.b wF.vo

def aqn:=en [(45,afV),(50,tQ)] []
def aoQ:Fn [.I, .R, .R, .R, .R, .I, .R, .R, .I, .I] As:=λa b c d e f g h i j=>[aV [.n a, .sh 51 b, .sh 9 c, .sh 9 d, .sh 26 e, .n f, .sh 75 g, .sh 72 h, .n i],aI j]
def atH:Fn [.B] dB:=λa=>⟨[aB a],[]⟩
def NZ:=dX aoQ atH uX.c uX.v
theorem T0:b9 Tryz.prog T 236 NZ:=fr (E:=aqn) (aG akI (aG v8 aX)) Tryz.func236 uX.b uX.vo

def aqC:=en [] []
def apc:Fn [.I, .S, .R] As:=λa b c=>[aV [.n a, .s b, .sh 237 c]]
def at7:Fn [.I, .S, .R] dB:=λa b c=>⟨[aV [.n a, .s b, .ow 237 ai c]],[]⟩
def adi:=dX apc at7 Kk.c Kk.v
theorem akv:b9 Tryz.prog T 267 adi:=fh (E:=aqC) aX Tryz.func267 (it:=λ_=>ln) (λ_=>bD) (λ_=>Kk.b) λx f h=>⟨0,Kk.eu _ x.1 x.2.1 x.2.2.1 h⟩

def ahF:=en [(50,tQ)] [(2,[1,2,3])]
def apd:Fn [.I, .S, .R] As:=λa b c=>[aV [.n a, .s b, .sh 237 c]]
def at8:Fn [.B] dB:=λa=>⟨[aB a],[]⟩
def zf:Fn [.B, .I, .I, .S, .R] Tb:=λa b c d e=>[cP 2 0,cA 4 (.b a),cI 6 b,oB 1 [.n c, .s d, .sh 237 e]]
def Rz(N:aF)(K:Kt R):=lJ.l2 N (J zf .ret K) (J zf (.exit 0) K)
def abk(N:aF):It R:=(lp 2 (al zf (λK=>Rz N K N) an) ln)
theorem YM(N:aF):cg ahF (abk N (R:=R)) (bX Tryz.f268 2):=lq 2 zf (Rz N) λK g=>lJ.r2 N g (J zf .ret K) (J zf (.exit 0) K)
def adk:=dX apd at8 (ct _) lJ.v
theorem akw:b9 Tryz.prog T 268 adk:=fh (E:=ahF) (aG v8 aX) Tryz.func268 (it:=λN=>abk N) (λN=>(bw (YM N) bD)) lJ.b λx f h=>lJ.eu _ x.1 x.2.1 x.2.2.1 f.1.2.1 f.1.2.2.1

def aqo:=en [(267,adi),(268,adk),(50,tQ)] []
def aoR:Fn [.I, .S, .R, .S] As:=λa b c d=>[aV [.n a, .s b, .sh 237 c],aS d]
def atI:Fn [.I, .S, .R, .B] dB:=λa b c d=>⟨[aV [.n a, .s b, .ow 237 ai c],aB d],[]⟩
def ac3:=dX aoR atI Gj.c Gj.v
theorem akh:b9 Tryz.prog T 237 ac3:=fh (E:=aqo) (aG akv (aG akw (aG v8 aX))) Tryz.func237 (it:=λ_=>ln) (λ_=>bD) (λ_=>Gj.b) λx f h=>⟨0,Gj.eu _ x.1 x.2.1 x.2.2.1 x.2.2.2.1 h f.1.2.1 f.1.2.2.1 f.2.1.1⟩

def ahz:=en [] [(1,[0,1,2,6])]
def aoS:Fn [.I, .R, .R, .R, .R, .I, .R, .R, .I, .I, .I] As:=λa b c d e f g h i j k=>[.pt [.n a, .ow 51 ai b, .ow 9 ai c, .ow 9 ai d, .ow 26 ai e, .n f, .ow 75 ai g, .ow 72 ai h, .n i],aI j,aI k]
def atJ:Fn [.I, .R, .R, .R, .R, .I, .R, .R, .I] dB:=λa b c d e f g h i=>⟨[],[[.n a, .kp b, .kp c, .kp d, .kp e, .n f, .kp g, .kp h, .n i]]⟩
def F7:Fn [.I, .I, .I, .I, .I, .I, .R, .R, .R, .R, .R, .R] Tb:=λa b c d e f g h i j k l=>[cP 0 900000900,cI 2 a,cI 4 b,cI 12 c,oB 1800001801 [.n d, .own 900000001, .own 900000002, .own 900000003, .own 900000004, .n e, .own 900000006, .own 900000007, .n f],oR 1800000003 51 g,oR 1800000005 9 h,oR 1800000007 9 i,oR 1800000009 26 j,oR 1800000013 75 k,oR 1800000015 72 l]
def Rr(N:aF)(K:Kt R):=sD.l1 N (J F7 (.exit 0) K)
def abe(N:aF):It R:=(lp 1 (al F7 (λK=>Rr N K N) an) ln)
theorem YE(N:aF):cg ahz (abe N (R:=R)) (bX Tryz.f238 1):=lq 1 F7 (Rr N) λK g=>sD.r1 N g (J F7 (.exit 0) K)
def N0:=dX aoS atJ sD.c sD.v
theorem T1:b9 Tryz.prog T 238 N0:=fq (E:=ahz) aX Tryz.func238 (it:=λN=>abe N) (λN=>(bw (YE N) bD)) sD.b sD.vo

def ap3:=en [(117,C0),(236,NZ),(237,ac3),(238,N0)] []
def aoe:Fn [.I, .R, .R, .R, .R, .I, .R, .R, .I, .I, .S] As:=λa b c d e f g h i j k=>[aV [.n a, .sh 51 b, .sh 9 c, .sh 9 d, .sh 26 e, .n f, .sh 75 g, .sh 72 h, .n i],aI j,aS k]
def as6:Fn [.I, .R, .R, .R, .R, .I, .R, .R, .I, .B] dB:=λa b c d e f g h i j=>⟨[aV [.n a, .ow 51 ai b, .ow 9 ai c, .ow 9 ai d, .ow 26 ai e, .n f, .ow 75 ai g, .ow 72 ai h, .n i],aB j],[]⟩
def acI:=dX aoe as6 DB.c DB.v
theorem ajX:b9 Tryz.prog T 186 acI:=fr (E:=ap3) (aG ES (aG T0 (aG akh (aG T1 aX)))) Tryz.func186 DB.b DB.vo

def E55:=en [] [(3,[0,3,5,6]),(9,[0,3,5,7])]
def A55:Fn [.R, .S, .I, .I, .S] As:=λa b c d e=>[aH 51 a,aV [.s b, .n c, .n d, .s e]]
def k55:Fn [.R] dB:=λa=>⟨[aO 51 a],[]⟩
def MD:Fn [.R, .I, .S, .I, .I, .S, .R] Tb:=λa b c d e f g=>[cH 0 51 a,cP 6 0,cA 10 (.own 1),cI 12 b,oB 1 [.s c, .n d, .n e, .s f],oR 3 51 g]
def ME:Fn [.R, .I, .S, .I, .I, .S, .R] Tb:=λa b c d e f g=>[cH 0 51 a,cP 6 0,cA 10 (.own 1),cI 14 b,oB 1 [.s c, .n d, .n e, .s f],oR 3 51 g]
def Z_(N:aF)(K:Kt R):=lL.l3 N (J MD (.exit 0) K)
def aaa(N:aF)(K:Kt R):=lL.l9 N (J ME (.exit 2) K)
def ae5(N:aF):It R:=(lp 3 (al MD (λK=>Z_ N K N) an) (lp 9 (al ME (λK=>aaa N K N) an) ln))
theorem afq(N:aF):cg E55 (ae5 N (R:=R)) (bX Tryz.f55 3):=lq 3 MD (Z_ N) λK g=>lL.r3 N g (J MD (.exit 0) K)
theorem afr(N:aF):cg E55 (ae5 N (R:=R)) (bX Tryz.f55 9):=lq 9 ME (aaa N) λK g=>lL.r9 N g (J ME (.exit 2) K)
def afX:=dX A55 k55 lL.c lL.v
theorem akK:b9 Tryz.prog T 55 afX:=fq (E:=E55) aX Tryz.func55 (it:=λN=>ae5 N) (λN=>(bw (afq N) (bw (afr N) bD))) lL.b lL.vo

def E88:=YV T md [(151,UT),(152,UU),(153,UW),(55,afX)] [] [] [(0,1,.own 51),(0,2,.own 9),(0,3,.own 9),(0,4,.own 26)]
def A88:Fn [.I, .R, .R, .R, .R, .I, .R, .R, .I, .S, .I, .I, .S] As:=λa b c d e f g h i j k l m=>[.pt [.n a, .ow 51 ai b, .ow 9 ai c, .ow 9 ai d, .ow 26 ai e, .n f, .ow 75 ai g, .ow 72 ai h, .n i],aV [.s j, .n k, .n l, .s m]]
def k88:Fn [.I, .R, .R, .R, .R, .I, .R, .R, .I] dB:=λa b c d e f g h i=>⟨[],[[.n a, .ow 51 ai b, .ow 9 ai c, .ow 9 ai d, .ow 26 ai e, .n f, .kp g, .kp h, .n i]]⟩
def af0:=dX A88 k88 Oy.c Oy.v
theorem akN:b9 Tryz.prog T 88 af0:=fr (E:=E88) (aG abB (aG abC (aG abD (aG akK aX)))) Tryz.func88 Oy.b Oy.vo

def aqp:=en [(117,C0),(236,NZ),(50,tQ),(238,N0),(88,af0)] []
def aoT:Fn [.I, .R, .R, .R, .R, .I, .R, .R, .I, .I, .I] As:=λa b c d e f g h i j k=>[aV [.n a, .sh 51 b, .sh 9 c, .sh 9 d, .sh 26 e, .n f, .sh 75 g, .sh 72 h, .n i],aI j,aI k]
def atK:Fn [.I, .R, .R, .R, .R, .I, .R, .R, .I, .B] dB:=λa b c d e f g h i j=>⟨[aV [.n a, .ow 51 ai b, .ow 9 ai c, .ow 9 ai d, .ow 26 ai e, .n f, .ow 75 ai g, .ow 72 ai h, .n i],aB j],[]⟩
def ac4:=dX aoT atK DF.c DF.v
theorem aki:b9 Tryz.prog T 239 ac4:=fr (E:=aqp) (aG ES (aG T0 (aG v8 (aG T1 (aG akN aX))))) Tryz.func239 DF.b DF.vo

def ahp:=en [] [(2,[0,3])]
def an_:Fn [.I] As:=λa=>[aI a]
def as1:Fn [.S] dB:=λa=>⟨[aS a],[]⟩
def FM:Fn [.I, .R] Tb:=λa b=>[cI 0 a,cA 6 (.own 0),oR 1 5 b]
def Q3(N:aF)(K:Kt R):=kA.l2 N (J FM (.exit 0) K)
def aa5(N:aF):It R:=(lp 2 (al FM (λK=>Q3 N K N) an) ln)
theorem Yg(N:aF):cg ahp (aa5 N (R:=R)) (bX Tryz.f181 2):=lq 2 FM (Q3 N) λK g=>kA.r2 N g (J FM (.exit 0) K)
def NR:=dX an_ as1 kA.c kA.v
theorem TS:b9 Tryz.prog T 181 NR:=fh (E:=ahp) aX Tryz.func181 (it:=λN=>aa5 N) (λN=>(bw (Yg N) bD)) kA.b λx f h=>kA.eu _ x.1 h

def apx:=en [(49,Vo),(181,NR)] []
def anq:Fn [.S, .I, .I, .S] As:=λa b c d=>[aV [.s a, .n b, .n c, .s d]]
def ash:Fn [.S, .B] dB:=λa b=>⟨[aS a,aB b],[]⟩
def NL:=dX anq ash (ct _) jI.v
theorem TK:b9 Tryz.prog T 114 NL:=fh (E:=apx) (aG Y1 (aG TS aX)) Tryz.func114 (it:=λ_=>ln) (λ_=>bD) (λ_=>jI.b) λx f h=>⟨0,jI.eu _ x.1 x.2.1 x.2.2.1 x.2.2.2.1⟩

def ap1:=en [] []
def aoa:Fn [.I] As:=λa=>[.v ak [.i .u32 a]]
def as2:Fn [.S] dB:=λa=>⟨[aS a],[]⟩
def acF:=dX aoa as2 (ct _) o7.v
theorem ajU:b9 Tryz.prog T 182 acF:=ft (E:=ap1) aX Tryz.func182 o7.b λ(a0,_)=>o7.eu _ a0

def apv:=en [(50,tQ),(181,NR),(183,U2),(182,acF)] []
def ano:Fn [.S] As:=λa=>[aS a]
def asf:Fn [.S, .B] dB:=λa b=>⟨[aS a,aB b],[]⟩
def NK:=dX ano asf fH.c fH.v
theorem TJ:b9 Tryz.prog T 112 NK:=fr (E:=apv) (aG v8 (aG TS (aG abJ (aG ajU aX)))) Tryz.func112 fH.b fH.vo

def aqq:=en [(114,NL),(112,NK)] []
def aoU:Fn [.S, .I, .I, .S] As:=λa b c d=>[aV [.s a, .n b, .n c, .s d]]
def atL:Fn [.R, .B] dB:=λa b=>⟨[aO 218 a,aB b],[]⟩
def ac5:=dX aoU atL DG.c DG.v
theorem akj:b9 Tryz.prog T 240 ac5:=fr (E:=aqq) (aG TK (aG TJ aX)) Tryz.func240 DG.b DG.vo

def apt:=en [(50,tQ)] []
def anl:Fn [.S] As:=λa=>[aS a]
def asb:Fn [.B] dB:=λa=>⟨[aB a],[]⟩
def UM:=dX anl asb (ct _) qd.v
theorem abu:b9 Tryz.prog T 109 UM:=ft (E:=apt) (aG v8 aX) Tryz.func109 qd.b λ(a0,_)=>qd.eu _ a0

def E51:=en [(109,UM),(50,tQ)] [(4,[1,2,3])]
def A51:Fn [.R] As:=λa=>[aV [.sh 94 a]]
def k51:Fn [.B] dB:=λa=>⟨[aB a],[]⟩
def Em:Fn [.B, .I, .R] Tb:=λa b c=>[cP 2 0,cA 4 (.b a),cI 6 b,oB 1 [.sh 94 c]]
def Z8(N:aF)(K:Kt R):=gK.l4 N (J Em .ret K) (J Em (.exit 0) K)
def aiZ(N:aF):It R:=(lp 4 (al Em (λK=>Z8 N K N) an) ln)
theorem afo(N:aF):cg E51 (aiZ N (R:=R)) (bX Tryz.f51 4):=lq 4 Em (Z8 N) λK g=>gK.r4 N g (J Em .ret K) (J Em (.exit 0) K)
def Vp:=dX A51 k51 gK.c gK.v
theorem Y2:b9 Tryz.prog T 51 Vp:=fq (E:=E51) (aG abu (aG v8 aX)) Tryz.func51 (it:=λN=>aiZ N) (λN=>(bw (afo N) bD)) gK.b gK.vo

def ag9:=en [] [(2,[1,2,4,5])]
def anm:Fn [.R, .S] As:=λa b=>[aV [.sh 94 a],aS b]
def asd:Fn [.I] dB:=λa=>⟨[aI a],[]⟩
def yP:Fn [.S, .I, .I, .R] Tb:=λa b c d=>[cA 2 (.s a),cP 4 0,cI 8 b,cI 10 c,oB 1 [.sh 94 d]]
def QJ(N:aF)(K:Kt R):=jw.l2 N (J yP .ret K) (J yP (.exit 0) K)
def aaO(N:aF):It R:=(lp 2 (al yP (λK=>QJ N K N) an) ln)
theorem XX(N:aF):cg ag9 (aaO N (R:=R)) (bX Tryz.f110 2):=lq 2 yP (QJ N) λK g=>jw.r2 N g (J yP .ret K) (J yP (.exit 0) K)
def UN:=dX anm asd jw.c jw.v
theorem abv:b9 Tryz.prog T 110 UN:=fq (E:=ag9) aX Tryz.func110 (it:=λN=>aaO N) (λN=>(bw (XX N) bD)) jw.b jw.vo

def QC:=en [] [(3,[2,3,4,5,6]),(9,[2,3,4,5,7])]
def apl:Fn [.R, .S, .S, .I] As:=λa b c d=>[aV [.sh 94 a],aV [.s b, .s c, .n d]]
def aug:Fn [.R] dB:=λa=>⟨[aV [.ow 94 ai a]],[]⟩
def rD:Fn [.I, .R, .S, .S, .I] Tb:=λa b c d e=>[cP 4 0,cP 6 1,cP 8 2,cP 10 3,cI 12 a,oB 1 [.sh 94 b],oB 3 [.s c, .s d, .n e],oB 5 [.nl],oB 7 [.nl]]
def oE:Fn [.I, .R, .S, .S, .I, .R] Tb:=λa b c d e f=>[cP 4 0,cP 6 1,cP 8 2,cP 10 3,cI 12 a,oB 1 [.sh 94 b],oB 3 [.s c, .s d, .n e],oB 5 [.nl],oB 7 [.own 4],oR 9 94 f]
def Gf:Fn [.I, .R, .S, .S, .I, .R] Tb:=λa b c d e f=>[cP 4 0,cP 6 1,cP 8 2,cP 10 3,cI 14 a,oB 1 [.sh 94 b],oB 3 [.s c, .s d, .n e],oB 5 [.nl],oB 7 [.own 4],oR 9 94 f]
def RF(N:aF)(K:Kt R):=eg.l3 N (J rD (.exit 0) K) (J oE (.exit 0) K)
def Ms(N:aF)(K:Kt R):=eg.sG N (J rD (.exit 0) K) (J oE (.exit 0) K)
def RG(N:aF)(K:Kt R):=eg.l9 N (J Gf (.exit 2) K)
def Jd(N:aF):It R:=(lp 3 (al rD (λK=>RF N K N) (al oE (λK=>Ms N K N) an)) (lp 9 (al Gf (λK=>RG N K N) an) ln))
theorem N_(N:aF)(K:Kt R):Wd QC (Jd N) (bX Tryz.f279 3) 3 K oE (Ms N K):=lw (λg=>eg.zG N (cmp _ rD (g∘fK)) (cmp _ oE (g∘fK)) (J rD (.exit 0) K) (J oE (.exit 0) K)) λm i=>by simp only[dN,wf i];rfl
theorem agc(N:aF)(K:Kt R):Wd QC (Jd N) (bX Tryz.f279 3) 3 K rD (RF N K):=lw (λg=>eg.r3 N (cmp _ rD (g∘fK)) (cmp _ oE (g∘fK)) (J rD (.exit 0) K) (J oE (.exit 0) K)) λm i=>by simp only[dN,wf i,wf (N_ N K m)];rfl
theorem YS(N:aF):cg QC (Jd N (R:=R)) (bX Tryz.f279 3):=lm 3 (ga rD (agc N) (ga oE (N_ N) oJ))
theorem YT(N:aF):cg QC (Jd N (R:=R)) (bX Tryz.f279 9):=lq 9 Gf (RG N) λK g=>eg.r9 N g (J Gf (.exit 2) K)
def adr:=dX apl aug eg.c eg.v
theorem akD:b9 Tryz.prog T 279 adr:=fq (E:=QC) aX Tryz.func279 (it:=λN=>Jd N) (λN=>(bw (YS N) (bw (YT N) bD))) eg.b eg.vo

def WA:=en [] [(3,[1,2,4,5,6])]
def apm:Fn [.R, .S] As:=λa b=>[aV [.sh 94 a],aS b]
def auh:Fn [.R] dB:=λa=>⟨[aV [.ow 94 ai a]],[]⟩
def rE:Fn [.S, .I, .R] Tb:=λa b c=>[cA 2 (.s a),cP 4 0,cP 8 1,cP 10 2,cI 12 b,oB 1 [.sh 94 c],oB 3 [.nl],oB 5 [.nl]]
def oF:Fn [.S, .I, .R, .R] Tb:=λa b c d=>[cA 2 (.s a),cP 4 0,cP 8 1,cP 10 2,cI 12 b,oB 1 [.sh 94 c],oB 3 [.nl],oB 5 [.own 3],oR 7 94 d]
def RH(N:aF)(K:Kt R):=eP.l3 N (J rE (.exit 0) K) (J oF (.exit 0) K)
def Mt(N:aF)(K:Kt R):=eP.sG N (J rE (.exit 0) K) (J oF (.exit 0) K)
def Nn(N:aF):It R:=(lp 3 (al rE (λK=>RH N K N) (al oF (λK=>Mt N K N) an)) ln)
theorem Oa(N:aF)(K:Kt R):Wd WA (Nn N) (bX Tryz.f280 3) 3 K oF (Mt N K):=lw (λg=>eP.zG N (cmp _ rE (g∘fK)) (cmp _ oF (g∘fK)) (J rE (.exit 0) K) (J oF (.exit 0) K)) λm i=>by simp only[dN,wf i];rfl
theorem agd(N:aF)(K:Kt R):Wd WA (Nn N) (bX Tryz.f280 3) 3 K rE (RH N K):=lw (λg=>eP.r3 N (cmp _ rE (g∘fK)) (cmp _ oF (g∘fK)) (J rE (.exit 0) K) (J oF (.exit 0) K)) λm i=>by simp only[dN,wf i,wf (Oa N K m)];rfl
theorem YU(N:aF):cg WA (Nn N (R:=R)) (bX Tryz.f280 3):=lm 3 (ga rE (agd N) (ga oF (Oa N) oJ))
def ads:=dX apm auh eP.c eP.v
theorem akE:b9 Tryz.prog T 280 ads:=fq (E:=WA) aX Tryz.func280 (it:=λN=>Nn N) (λN=>(bw (YU N) bD)) eP.b eP.vo

def aqD:=en [(51,Vp),(109,UM),(110,UN),(279,adr),(280,ads)] []
def ape:Fn [.R, .I, .S, .S, .S] As:=λa b c d e=>[aV [.sh 94 a],aV [.n b, .s c, .s d, .s e]]
def at9:Fn [.R, .B] dB:=λa b=>⟨[aV [.ow 94 ai a],aB b],[]⟩
def adl:=dX ape at9 BL.c BL.v
theorem akx:b9 Tryz.prog T 269 adl:=fr (E:=aqD) (aG Y2 (aG abu (aG abv (aG akD (aG akE aX))))) Tryz.func269 BL.b BL.vo

def ahA:=en [(269,adl)] [(3,[1,4,5,6,7])]
def aoV:Fn [.R, .R] As:=λa b=>[aV [.sh 94 a],aH 218 b]
def atM:Fn [.R, .I] dB:=λa b=>⟨[aV [.ow 94 ai a],aI b],[]⟩
def F8:Fn [.R, .I, .I, .R] Tb:=λa b c d=>[cH 2 218 a,cP 8 0,cI 10 b,cP 12 1,cI 14 c,oB 1 [.nl],oB 3 [.own 2],oR 5 94 d]
def H_:Fn [.R, .I, .I, .R] Tb:=λa b c d=>[cH 2 218 a,cP 8 0,cI 10 b,cP 12 1,cI 14 c,oB 1 [.own 2],oB 3 [.own 2],oR 5 94 d]
def Rs(N:aF)(K:Kt R):=qh.l3 N (J H_ .ret K) (J F8 (.exit 0) K)
def abf(N:aF):It R:=(lp 3 (al F8 (λK=>Rs N K N) an) ln)
theorem YF(N:aF):cg ahA (abf N (R:=R)) (bX Tryz.f241 3):=lq 3 F8 (Rs N) λK g=>qh.r3 N g (J H_ .ret K) (J F8 (.exit 0) K)
def Vh:=dX aoV atM qh.c qh.v
theorem abW:b9 Tryz.prog T 241 Vh:=fq (E:=ahA) (aG akx aX) Tryz.func241 (it:=λN=>abf N) (λN=>(bw (YF N) bD)) qh.b qh.vo

def ap7:=en [] []
def aok:Fn [.B] As:=λa=>[aB a]
def atb:Fn [.I] dB:=λa=>⟨[aI a],[]⟩
def U3:=dX aok atb (ct _) AD.v
theorem abK:b9 Tryz.prog T 192 U3:=ft (E:=ap7) aX Tryz.func192 AD.b λ(a0,_)=>AD.eu _ a0

def ap4:=YV T md [(239,ac4),(240,ac5),(241,Vh),(192,U3)] [] [] [(0,1,.own 51),(0,2,.own 9),(0,3,.own 9),(0,4,.own 26),(0,6,.own 75),(0,7,.own 72),(0,9,.own 94),(0,10,.own 3),(0,11,.own 51)]
def aof:Fn [.I, .R, .R, .R, .R, .I, .R, .R, .I, .R, .R, .R, .I, .I, .S, .I, .R] As:=λa b c d e f g h i j k l m o p q r=>[.pt [.n a, .ow 51 ai b, .ow 9 ai c, .ow 9 ai d, .ow 26 ai e, .n f, .ow 75 ai g, .ow 72 ai h, .n i, .ow 94 ai j, .ow 3 ai k, .ow 51 ai l],aV [.n m, .n o, .s p, .n q, .sh 3 r]]
def as7:Fn [.I, .I, .R, .R, .R, .R, .I, .R, .R, .I, .R, .R, .R] dB:=λa b c d e f g h i j k l m=>⟨[aI a],[[.n b, .ow 51 ai c, .ow 9 ai d, .ow 9 ai e, .ow 26 ai f, .n g, .ow 75 ai h, .ow 72 ai i, .n j, .ow 94 ai k, .ow 3 ai l, .ow 51 ai m]]⟩
def acJ:=dX aof as7 DC.c DC.v
theorem ajY:b9 Tryz.prog T 187 acJ:=fr (E:=ap4) (aG aki (aG akj (aG abW (aG abK aX)))) Tryz.func187 DC.b DC.vo

def ap5:=en [(117,C0),(236,NZ),(238,N0)] []
def aog:Fn [.I, .R, .R, .R, .R, .I, .R, .R, .I, .I] As:=λa b c d e f g h i j=>[aV [.n a, .sh 51 b, .sh 9 c, .sh 9 d, .sh 26 e, .n f, .sh 75 g, .sh 72 h, .n i],aI j]
def as8:Fn [.I, .R, .R, .R, .R, .I, .R, .R, .I, .B] dB:=λa b c d e f g h i j=>⟨[aV [.n a, .ow 51 ai b, .ow 9 ai c, .ow 9 ai d, .ow 26 ai e, .n f, .ow 75 ai g, .ow 72 ai h, .n i],aB j],[]⟩
def acK:=dX aog as8 DD.c DD.v
theorem ajZ:b9 Tryz.prog T 188 acK:=fr (E:=ap5) (aG ES (aG T0 (aG T1 aX))) Tryz.func188 DD.b DD.vo

def ap6:=en [(117,C0)] []
def aoh:Fn [.I, .R, .R, .R, .R, .I, .R, .R, .I, .I] As:=λa b c d e f g h i j=>[aV [.n a, .sh 51 b, .sh 9 c, .sh 9 d, .sh 26 e, .n f, .sh 75 g, .sh 72 h, .n i],aI j]
def as9:Fn [.I, .R, .R, .R, .R, .I, .R, .R, .I] dB:=λa b c d e f g h i=>⟨[aV [.n a, .ow 51 ai b, .ow 9 ai c, .ow 9 ai d, .ow 26 ai e, .n f, .ow 75 ai g, .ow 72 ai h, .n i]],[]⟩
def acL:=dX aoh as9 qF.c qF.v
theorem aj0:b9 Tryz.prog T 189 acL:=fr (E:=ap6) (aG ES aX) Tryz.func189 qF.b qF.vo

def ahq:=en [(117,C0)] [(4,[1,2,4,5,6])]
def aoi:Fn [.I, .R, .R, .R, .R, .I, .R, .R, .I, .I] As:=λa b c d e f g h i j=>[aV [.n a, .sh 51 b, .sh 9 c, .sh 9 d, .sh 26 e, .n f, .sh 75 g, .sh 72 h, .n i],aI j]
def as_:Fn [.I, .R, .R, .R, .R, .I, .R, .R, .I] dB:=λa b c d e f g h i=>⟨[aV [.n a, .ow 51 ai b, .ow 9 ai c, .ow 9 ai d, .ow 26 ai e, .n f, .ow 75 ai g, .ow 72 ai h, .n i]],[]⟩
def FO:Fn [.I, .I, .I, .R, .R, .R, .R, .I, .R, .R, .I, .I, .I, .I, .I, .I, .I, .R, .R, .R, .R, .R, .R] Tb:=λa b c d e f g h i j k l m o p q r s t u v w x=>[cI 2 a,cP 4 0,cP 8 1,cP 10 2,cI 12 b,oB 1 [.n c, .sh 51 d, .sh 9 e, .sh 9 f, .sh 26 g, .n h, .sh 75 i, .sh 72 j, .n k],oB 3 [.n l, .nl, .nl, .nl, .nl, .n m, .nl, .nl, .n o],oB 5 [.n p, .own 3, .own 4, .own 5, .own 6, .n q, .own 7, .own 8, .n r],oR 7 51 s,oR 9 9 t,oR 11 9 u,oR 13 26 v,oR 15 75 w,oR 17 72 x]
def Q6(N:aF)(K:Kt R):=sZ.l4 N (J FO (.exit 0) K)
def aa6(N:aF):It R:=(lp 4 (al FO (λK=>Q6 N K N) an) ln)
theorem Yj(N:aF):cg ahq (aa6 N (R:=R)) (bX Tryz.f190 4):=lq 4 FO (Q6 N) λK g=>sZ.r4 N g (J FO (.exit 0) K)
def acM:=dX aoi as_ sZ.c sZ.v
theorem aj1:b9 Tryz.prog T 190 acM:=fq (E:=ahq) (aG ES aX) Tryz.func190 (it:=λN=>aa6 N) (λN=>(bw (Yj N) bD)) sZ.b sZ.vo

def Wy:=en [(51,Vp)] [(5,[1,2,4,6,7])]
def aoW:Fn [.R, .R] As:=λa b=>[aV [.sh 94 a],aH 3 b]
def atN:Fn [.R, .B] dB:=λa b=>⟨[aV [.ow 94 ai a],aB b],[]⟩
def rB:Fn [.R, .I, .R] Tb:=λa b c=>[cH 2 3 a,cP 4 0,cP 8 1,cP 12 2,cI 14 b,oB 1 [.sh 94 c],oB 3 [.nl],oB 5 [.nl]]
def oC:Fn [.R, .I, .R, .R] Tb:=λa b c d=>[cH 2 3 a,cP 4 0,cP 8 1,cP 12 2,cI 14 b,oB 1 [.sh 94 c],oB 3 [.nl],oB 5 [.own 3],oR 7 94 d]
def Rt(N:aF)(K:Kt R):=wK.l5 N (J rB (.exit 0) K) (J oC (.exit 0) K)
def Mo(N:aF)(K:Kt R):=wK.l5a N (J rB (.exit 0) K) (J oC (.exit 0) K)
def Nl(N:aF):It R:=(lp 5 (al rB (λK=>Rt N K N) (al oC (λK=>Mo N K N) an)) ln)
theorem N8(N:aF)(K:Kt R):Wd Wy (Nl N) (bX Tryz.f242 5) 5 K oC (Mo N K):=lw (λg=>wK.r5a N (cmp _ rB (g∘fK)) (cmp _ oC (g∘fK)) (J rB (.exit 0) K) (J oC (.exit 0) K)) λm i=>by simp only[dN,wf i];rfl
theorem af_(N:aF)(K:Kt R):Wd Wy (Nl N) (bX Tryz.f242 5) 5 K rB (Rt N K):=lw (λg=>wK.r5 N (cmp _ rB (g∘fK)) (cmp _ oC (g∘fK)) (J rB (.exit 0) K) (J oC (.exit 0) K)) λm i=>by simp only[dN,wf i,wf (N8 N K m)];rfl
theorem YG(N:aF):cg Wy (Nl N (R:=R)) (bX Tryz.f242 5):=lm 5 (ga rB (af_ N) (ga oC (N8 N) oJ))
def ac6:=dX aoW atN wK.c wK.v
theorem akk:b9 Tryz.prog T 242 ac6:=fq (E:=Wy) (aG Y2 aX) Tryz.func242 (it:=λN=>Nl N) (λN=>(bw (YG N) bD)) wK.b wK.vo

def E52:=en [(110,UN)] []
def A52:Fn [.R, .S] As:=λa b=>[aV [.sh 94 a],aS b]
def k52:Fn [.S, .B] dB:=λa b=>⟨[aS a,aB b],[]⟩
def afW:=dX A52 k52 vP.c vP.v
theorem akJ:b9 Tryz.prog T 52 afW:=fr (E:=E52) (aG abv aX) Tryz.func52 vP.b vP.vo

def ag_:=en [(50,tQ),(181,NR)] [(6,[0,1,4,5,6,7,8,9])]
def ann:Fn [.S, .I] As:=λa b=>[aS a,aI b]
def ase:Fn [.I, .I, .B] dB:=λa b c=>⟨[aI a,aI b,aB c],[]⟩
def yQ:Fn [.S, .I, .I, .I, .B, .I, .I, .I] Tb:=λa b c d e f g h=>[cA 0 (.s a),cI 2 b,cI 8 c,cI 10 d,cA 12 (.b e),cI 14 f,cI 16 g,cI 18 h]
def QK(N:aF)(K:Kt R):=fM.l6 N (J yQ .ret K) (J yQ (.exit 0) K)
def aaP(N:aF):It R:=(lp 6 (al yQ (λK=>QK N K N) an) ln)
theorem XY(N:aF):cg ag_ (aaP N (R:=R)) (bX Tryz.f111 6):=lq 6 yQ (QK N) λK g=>fM.r6 N g (J yQ .ret K) (J yQ (.exit 0) K)
def NJ:=dX ann ase (ct _) fM.v
theorem TH:b9 Tryz.prog T 111 NJ:=fh (E:=ag_) (aG v8 (aG TS aX)) Tryz.func111 (it:=λN=>aaP N) (λN=>(bw (XY N) bD)) fM.b λx f h=>fM.eu _ x.1 x.2.1 f.1.1

def E53:=en [(111,NJ),(112,NK)] [(5,[0,2,3,4,5])]
def A53:Fn [.S] As:=λa=>[aS a]
def k53:Fn [.R, .I] dB:=λa b=>⟨[aO 9 a,aI b],[]⟩
def MC:Fn [.S, .I, .I, .R] Tb:=λa b c d=>[cA 0 (.s a),cA 4 .nl,cI 6 b,cA 8 (.own 0),cI 10 c,oR 1 9 d]
def MJ:Fn [.S, .I, .I, .R] Tb:=λa b c d=>[cA 0 (.s a),cA 4 (.own 0),cI 6 b,cA 8 (.own 0),cI 10 c,oR 1 9 d]
def Z9(N:aF)(K:Kt R):=HH.l5 N (J MJ .ret K) (J MC (.exit 0) K)
def ai0(N:aF):It R:=(lp 5 (al MC (λK=>Z9 N K N) an) ln)
theorem afp(N:aF):cg E53 (ai0 N (R:=R)) (bX Tryz.f53 5):=lq 5 MC (Z9 N) λK g=>HH.r5 N g (J MJ .ret K) (J MC (.exit 0) K)
def alo:=dX A53 k53 HH.c HH.v
theorem auK:b9 Tryz.prog T 53 alo:=fq (E:=E53) (aG TH (aG TJ aX)) Tryz.func53 (it:=λN=>ai0 N) (λN=>(bw (afp N) bD)) HH.b HH.vo

def apw:=en [(111,NJ)] []
def anp:Fn [.S, .I] As:=λa b=>[aS a,aI b]
def asg:Fn [.S, .I, .B] dB:=λa b c=>⟨[aS a,aI b,aB c],[]⟩
def acg:=dX anp asg (ct _) qf.v
theorem ajx:b9 Tryz.prog T 113 acg:=fh (E:=apw) (aG TH aX) Tryz.func113 (it:=λ_=>ln) (λ_=>bD) (λ_=>qf.b) λx f h=>⟨0,qf.eu _ x.1 x.2.1 f.1.1⟩

def E54:=en [(113,acg),(111,NJ),(114,NL)] []
def A54:Fn [.S] As:=λa=>[aS a]
def k54:Fn [.S, .I, .I, .S, .B] dB:=λa b c d e=>⟨[aV [.s a, .n b, .n c, .s d],aB e],[]⟩
def alp:=dX A54 k54 (ct _) rG.v
theorem auL:b9 Tryz.prog T 54 alp:=fh (E:=E54) (aG ajx (aG TH (aG TK aX))) Tryz.func54 (it:=λ_=>ln) (λ_=>bD) (λ_=>rG.b) λx f h=>⟨0,rG.eu _ x.1 f.1.1⟩

def E14:=en [(51,Vp),(52,afW),(53,alo),(54,alp),(55,afX)] [(7,[3,6,8])]
def A14:Fn [.R] As:=λa=>[aV [.sh 94 a]]
def k14:Fn [.R] dB:=λa=>⟨[aO 51 a],[]⟩
def Mx:Fn [.I, .R, .R] Tb:=λa b c=>[cA 6 (.own 0),cA 12 (.own 1),cI 16 a,oR 1 51 b,oR 3 9 c]
def ZY(N:aF)(K:Kt R):=HG.l7 N (J Mx (.exit 0) K)
def aiR(N:aF):It R:=(lp 7 (al Mx (λK=>ZY N K N) an) ln)
theorem afe(N:aF):cg E14 (aiR N (R:=R)) (bX Tryz.f14 7):=lq 7 Mx (ZY N) λK g=>HG.r7 N g (J Mx (.exit 0) K)
def alc:=dX A14 k14 HG.c HG.v
theorem auw:b9 Tryz.prog T 14 alc:=fq (E:=E14) (aG Y2 (aG akJ (aG auK (aG auL (aG akK aX))))) Tryz.func14 (it:=λN=>aiR N) (λN=>(bw (afe N) bD)) HG.b HG.vo

def ahB:=en [(51,Vp),(52,afW),(114,NL),(112,NK)] [(9,[1,4,5,6,9,10])]
def aoX:Fn [.R, .R] As:=λa b=>[aV [.sh 94 a],aH 51 b]
def atO:Fn [.R, .B] dB:=λa b=>⟨[aO 218 a,aB b],[]⟩
def F9:Fn [.R, .B, .S, .I, .R] Tb:=λa b c d e=>[cH 2 51 a,cA 8 .nl,cA 10 (.b b),cA 12 (.own 0),cA 18 (.s c),cI 20 d,oR 1 218 e]
def Ia:Fn [.R, .B, .S, .I, .R, .R] Tb:=λa b c d e f=>[cH 2 51 a,cA 8 (.own 0),cA 10 (.b b),cA 12 (.own 1),cA 18 (.s c),cI 20 d,oR 1 218 e,oR 3 218 f]
def Ru(N:aF)(K:Kt R):=jJ.l9 N (J Ia .ret K) (J F9 (.exit 0) K)
def abg(N:aF):It R:=(lp 9 (al F9 (λK=>Ru N K N) an) ln)
theorem YH(N:aF):cg ahB (abg N (R:=R)) (bX Tryz.f243 9):=lq 9 F9 (Ru N) λK g=>jJ.r9 N g (J Ia .ret K) (J F9 (.exit 0) K)
def ac7:=dX aoX atO jJ.c jJ.v
theorem akl:b9 Tryz.prog T 243 ac7:=fq (E:=ahB) (aG Y2 (aG akJ (aG TK (aG TJ aX)))) Tryz.func243 (it:=λN=>abg N) (λN=>(bw (YH N) bD)) jJ.b jJ.vo

def E33:=en [(57,afY),(49,Vo),(13,Zu),(88,af0)] [(4,[0,1,4,5,6])]
def A33:Fn [.I, .R] As:=λa b=>[aI a,aH 51 b]
def k33:Fn [.I, .R, .R, .R, .R, .I, .R, .R, .I] dB:=λa b c d e f g h i=>⟨[aV [.n a, .ow 51 ai b, .ow 9 ai c, .ow 9 ai d, .ow 26 ai e, .n f, .ow 75 ai g, .ow 72 ai h, .n i]],[]⟩
def Mz:Fn [.I, .R, .I, .I, .I, .I, .I, .I, .I, .R, .R, .R, .R, .R, .R] Tb:=λa b c d e f g h i j k l m o p=>[cI 0 a,cH 2 51 b,cP 8 0,cP 10 1,cI 12 c,oB 1 [.n d, .nl, .nl, .nl, .nl, .n e, .nl, .nl, .n f],oB 3 [.n g, .own 2, .own 3, .own 4, .own 5, .n h, .own 6, .own 7, .n i],oR 5 51 j,oR 7 9 k,oR 9 9 l,oR 11 26 m,oR 13 75 o,oR 15 72 p]
def Z0(N:aF)(K:Kt R):=zV.l4 N (J Mz (.exit 0) K)
def aiT(N:aF):It R:=(lp 4 (al Mz (λK=>Z0 N K N) an) ln)
theorem afg(N:aF):cg E33 (aiT N (R:=R)) (bX Tryz.f33 4):=lq 4 Mz (Z0 N) λK g=>zV.r4 N g (J Mz (.exit 0) K)
def alf:=dX A33 k33 zV.c zV.v
theorem auC:b9 Tryz.prog T 33 alf:=fq (E:=E33) (aG akL (aG Y1 (aG afz (aG akN aX)))) Tryz.func33 (it:=λN=>aiT N) (λN=>(bw (afg N) bD)) zV.b zV.vo

def Wv:=YV T md [(242,ac6),(14,alc),(13,Zu),(243,ac7),(241,Vh),(33,alf)] [(7,[0,6,7,8])] [] [(0,1,.own 51),(0,2,.own 9),(0,3,.own 9),(0,4,.own 26),(0,6,.own 75),(0,7,.own 72),(0,9,.own 94),(0,10,.own 3),(0,11,.own 51)]
def aoj:Fn [.I, .R, .R, .R, .R, .I, .R, .R, .I, .R, .R, .R, .I, .I, .S, .I, .R] As:=λa b c d e f g h i j k l m o p q r=>[.pt [.n a, .ow 51 ai b, .ow 9 ai c, .ow 9 ai d, .ow 26 ai e, .n f, .ow 75 ai g, .ow 72 ai h, .n i, .ow 94 ai j, .ow 3 ai k, .ow 51 ai l],aV [.n m, .n o, .s p, .n q, .sh 3 r]]
def ata:Fn [.I, .R, .R, .R, .R, .I, .R, .R, .I, .R, .R, .R] dB:=λa b c d e f g h i j k l=>⟨[],[[.n a, .ow 51 ai b, .ow 9 ai c, .ow 9 ai d, .ow 26 ai e, .n f, .ow 75 ai g, .ow 72 ai h, .n i, .ow 94 ai j, .ow 3 ai k, .ow 51 ai l]]⟩
def ry:Fn [.I, .I, .I, .I, .R, .R, .R, .R, .R, .R, .R, .R, .R, .R, .R] Tb:=λa b c d e f g h i j k l m o p=>[cP 0 900000900,cA 12 (.own 1),cA 14 (.own 2),cI 16 a,oB 1800001801 [.n b, .own 900000001, .own 900000002, .own 900000003, .own 900000004, .n c, .own 900000006, .own 900000007, .n d, .own 9, .own 900000010, .own 900000011],oR 3 51 e,oR 5 51 f,oR 1800000003 51 g,oR 1800000005 9 h,oR 1800000007 9 i,oR 1800000009 26 j,oR 1800000013 75 k,oR 1800000015 72 l,oR 19 94 m,oR 1800000021 3 o,oR 1800000023 51 p]
def oz:Fn [.I, .I, .I, .I, .R, .R, .R, .R, .R, .R, .R, .R, .R, .R, .R] Tb:=λa b c d e f g h i j k l m o p=>[cP 0 900000900,cA 12 (.own 1),cA 14 (.own 2),cI 16 a,oB 1800001801 [.n b, .own 900000001, .own 900000002, .own 900000003, .own 900000004, .n c, .own 900000006, .own 900000007, .n d, .own 900000009, .own 900000010, .own 900000011],oR 3 51 e,oR 5 51 f,oR 1800000003 51 g,oR 1800000005 9 h,oR 1800000007 9 i,oR 1800000009 26 j,oR 1800000013 75 k,oR 1800000015 72 l,oR 1800000019 94 m,oR 1800000021 3 o,oR 1800000023 51 p]
def Q7(N:aF)(K:Kt R):=wG.l7 N (J ry (.exit 0) K) (J oz (.exit 0) K)
def Mj(N:aF)(K:Kt R):=wG.l7a N (J ry (.exit 0) K) (J oz (.exit 0) K)
def Ni(N:aF):It R:=(lp 7 (al ry (λK=>Q7 N K N) (al oz (λK=>Mj N K N) an)) ln)
theorem N6(N:aF)(K:Kt R):Wd Wv (Ni N) (bX Tryz.f191 7) 7 K oz (Mj N K):=lw (λg=>wG.r7a N (cmp _ ry (g∘fK)) (cmp _ oz (g∘fK)) (J ry (.exit 0) K) (J oz (.exit 0) K)) λm i=>by simp only[dN,wf i];rfl
theorem af8(N:aF)(K:Kt R):Wd Wv (Ni N) (bX Tryz.f191 7) 7 K ry (Q7 N K):=lw (λg=>wG.r7 N (cmp _ ry (g∘fK)) (cmp _ oz (g∘fK)) (J ry (.exit 0) K) (J oz (.exit 0) K)) λm i=>by simp only[dN,wf i,wf (N6 N K m)];rfl
theorem Yk(N:aF):cg Wv (Ni N (R:=R)) (bX Tryz.f191 7):=lm 7 (ga ry (af8 N) (ga oz (N6 N) oJ))
def acN:=dX aoj ata wG.c wG.v
theorem aj2:b9 Tryz.prog T 191 acN:=fq (E:=Wv) (aG akk (aG auw (aG afz (aG akl (aG abW (aG auC aX)))))) Tryz.func191 (it:=λN=>Ni N) (λN=>(bw (Yk N) bD)) wG.b wG.vo

def apz:=YV T md [(185,acH),(186,acI),(187,acJ),(188,acK),(189,acL),(190,acM),(191,acN),(192,U3)] [] [] [(0,1,.own 51),(0,2,.own 9),(0,3,.own 9),(0,4,.own 26),(0,6,.own 75),(0,7,.own 72),(0,9,.own 94),(0,10,.own 3),(0,11,.own 51)]
def ans:Fn [.I, .R, .R, .R, .R, .I, .R, .R, .I, .R, .R, .R, .I, .I, .S, .I, .R] As:=λa b c d e f g h i j k l m o p q r=>[.pt [.n a, .ow 51 ai b, .ow 9 ai c, .ow 9 ai d, .ow 26 ai e, .n f, .ow 75 ai g, .ow 72 ai h, .n i, .ow 94 ai j, .ow 3 ai k, .ow 51 ai l],aV [.n m, .n o, .s p, .n q, .sh 3 r]]
def asj:Fn [.I, .I, .R, .R, .R, .R, .I, .R, .R, .I, .R, .R, .R] dB:=λa b c d e f g h i j k l m=>⟨[aI a],[[.n b, .ow 51 ai c, .ow 9 ai d, .ow 9 ai e, .ow 26 ai f, .n g, .ow 75 ai h, .ow 72 ai i, .n j, .ow 94 ai k, .ow 3 ai l, .ow 51 ai m]]⟩
def aci:=dX ans asj Dx.c Dx.v
theorem ajz:b9 Tryz.prog T 116 aci:=fr (E:=apz) (aG ajW (aG ajX (aG ajY (aG ajZ (aG aj0 (aG aj1 (aG aj2 (aG abK aX)))))))) Tryz.func116 Dx.b Dx.vo

def E58:=YV T md [(116,aci)] [] [] [(0,1,.own 51),(0,2,.own 9),(0,3,.own 9),(0,4,.own 26),(0,6,.own 75),(0,7,.own 72),(0,9,.own 94),(0,10,.own 3),(0,11,.own 51)]
def A58:Fn [.I, .R, .R, .R, .R, .I, .R, .R, .I, .R, .R, .R, .I, .I, .S, .I, .R] As:=λa b c d e f g h i j k l m o p q r=>[.pt [.n a, .ow 51 ai b, .ow 9 ai c, .ow 9 ai d, .ow 26 ai e, .n f, .ow 75 ai g, .ow 72 ai h, .n i, .ow 94 ai j, .ow 3 ai k, .ow 51 ai l],aV [.n m, .n o, .s p, .n q, .sh 3 r]]
def k58:Fn [.I, .R, .R, .R, .R, .I, .R, .R, .I, .R, .R, .R] dB:=λa b c d e f g h i j k l=>⟨[],[[.n a, .ow 51 ai b, .ow 9 ai c, .ow 9 ai d, .ow 26 ai e, .n f, .ow 75 ai g, .ow 72 ai h, .n i, .ow 94 ai j, .ow 3 ai k, .ow 51 ai l]]⟩
def alq:=dX A58 k58 JU.c JU.v
theorem auM:b9 Tryz.prog T 58 alq:=fr (E:=E58) (aG ajz aX) Tryz.func58 JU.b JU.vo

def E38:=en [(57,afY),(93,alA),(94,af3),(41,PU),(58,alq)] [(7,[0,5,6,7,8,1000000005009094,1000000005010003,1000000005011051])]
def A38:Fn [.R, .I, .I, .R] As:=λa b c d=>[.pt [.sh 5 a, .n b, .n c],aH 5 d]
def k38:Fn [.R, .R, .I, .I] dB:=λa b c d=>⟨[aO 29 a],[[.sh 5 b, .n c, .n d]]⟩
def MA:Fn [.I, .I, .R, .I, .I, .I, .I, .I, .R, .R, .R, .R, .R, .R, .R, .R, .R, .R] Tb:=λa b c d e f g h i j k l m o p q r s=>[cP 0 900000900,cP 10 1,cA 12 (.own 2),cI 14 a,cI 16 b,oB 1800001801 [.sh 5 c, .n d, .n e],oB 3 [.n f, .own 3, .own 4, .own 5, .own 6, .n g, .own 7, .own 8, .n h, .own 9, .own 10, .own 11],oR 5 29 i,oR 7 51 j,oR 9 9 k,oR 11 9 l,oR 13 26 m,oR 15 75 o,oR 17 72 p,oR 19 94 q,oR 21 3 r,oR 23 51 s]
def Z4(N:aF)(K:Kt R):=Qc.l7 N (J MA (.exit 0) K)
def aiX(N:aF):It R:=(lp 7 (al MA (λK=>Z4 N K N) an) ln)
theorem afk(N:aF):cg E38 (aiX N (R:=R)) (bX Tryz.f38 7):=lq 7 MA (Z4 N) λK g=>Qc.r7 N g (J MA (.exit 0) K)
def alj:=dX A38 k38 Qc.c Qc.v
theorem auG:b9 Tryz.prog T 38 alj:=fq (E:=E38) (aG akL (aG auV (aG akQ (aG T6 (aG auM aX))))) Tryz.func38 (it:=λN=>aiX N) (λN=>(bw (afk N) bD)) Qc.b Qc.vo

def E9:=en [(39,alk),(38,alj)] []
def A9:Fn [.R] As:=λa=>[aH 5 a]
def k9:Fn [.R] dB:=λa=>⟨[aO 29 a],[]⟩
def sp9:=dX A9 k9 U9.c U9.v
theorem ok9:b9 Tryz.prog T 9 sp9:=fr (E:=E9) (aG auH (aG auG aX)) Tryz.func9 U9.b U9.vo

def E82:=en [] []
def A82:Fn [.I, .I, .I] As:=λa b c=>[aI a,aI b,aI c]
def k82:Fn [.B] dB:=λa=>⟨[aB a],[]⟩
def qs:=dX A82 k82 (ct _) lz.v
theorem qN:b9 Tryz.prog T 82 qs:=ft (E:=E82) aX Tryz.func82 lz.b λ(a0,a1,a2,_)=>lz.eu _ a0 a1 a2

def E31:=en [(82,qs)] []
def A31:Fn [.I, .I, .S, .I, .R] As:=λa b c d e=>[aV [.n a, .n b, .s c, .n d, .sh 3 e]]
def k31:Fn [.B] dB:=λa=>⟨[aB a],[]⟩
def ald:=dX A31 k31 (ct _) U31.v
theorem auA:b9 Tryz.prog T 31 ald:=ft (E:=E31) (aG qN aX) Tryz.func31 U31.b λ(a0,a1,a2,a3,a4,_)=>U31.eu _ a0 a1 a2 a3 a4

def Ws:=en [] [(3,[0,1,3])]
def anQ:Fn [] As:=[]
def asH:Fn [.R, .I] dB:=λa b=>⟨[aV [.ow 26 ai a, .n b]],[]⟩
def rq:Fn [.I, .I, .I] Tb:=λa b c=>[cP 0 0,cP 2 1,cI 6 a,oB 1 [.nl, .n b],oB 3 [.nl, .n c]]
def ox:Fn [.I, .I, .I, .R] Tb:=λa b c d=>[cP 0 0,cP 2 1,cI 6 a,oB 1 [.nl, .n b],oB 3 [.own 2, .n c],oR 5 26 d]
def QT(N:aF)(K:Kt R):=Gh.l3 N (J rq (.exit 0) K) (J ox (.exit 0) K)
def Mc(N:aF)(K:Kt R):=Gh.sG N (J rq (.exit 0) K) (J ox (.exit 0) K)
def Nf(N:aF):It R:=(lp 3 (al rq (λK=>QT N K N) (al ox (λK=>Mc N K N) an)) ln)
theorem N4(N:aF)(K:Kt R):Wd Ws (Nf N) (bX Tryz.f159 3) 3 K ox (Mc N K):=lw (λg=>Gh.zG N (cmp _ rq (g∘fK)) (cmp _ ox (g∘fK)) (J rq (.exit 0) K) (J ox (.exit 0) K)) λm i=>by simp only[dN,wf i];rfl
theorem af6(N:aF)(K:Kt R):Wd Ws (Nf N) (bX Tryz.f159 3) 3 K rq (QT N K):=lw (λg=>Gh.r3 N (cmp _ rq (g∘fK)) (cmp _ ox (g∘fK)) (J rq (.exit 0) K) (J ox (.exit 0) K)) λm i=>by simp only[dN,wf i,wf (N4 N K m)];rfl
theorem X7(N:aF):cg Ws (Nf N (R:=R)) (bX Tryz.f159 3):=lm 3 (ga rq (af6 N) (ga ox (N4 N) oJ))
def acr:=dX anQ asH Gh.c Gh.v
theorem ajH:b9 Tryz.prog T 159 acr:=fq (E:=Ws) aX Tryz.func159 (it:=λN=>Nf N) (λN=>(bw (X7 N) bD)) Gh.b Gh.vo

def E95:=en [(159,acr)] []
def A95:Fn [] As:=[]
def k95:Fn [.R, .R, .R, .I] dB:=λa b c d=>⟨[aV [.ow 9 ai a, .ow 9 ai b, .ow 26 ai c, .n d]],[]⟩
def alB:=dX A95 k95 (ct _) U95.v
theorem auW:b9 Tryz.prog T 95 alB:=ft (E:=E95) (aG ajH aX) Tryz.func95 U95.b λ_=>U95.eu _

def E42:=en [(95,alB)] []
def A42:Fn [] As:=[]
def k42:Fn [.I, .R, .R, .R, .R, .I, .R, .R, .I] dB:=λa b c d e f g h i=>⟨[aV [.n a, .ow 51 ai b, .ow 9 ai c, .ow 9 ai d, .ow 26 ai e, .n f, .ow 75 ai g, .ow 72 ai h, .n i]],[]⟩
def afU:=dX A42 k42 (ct _) U42.v
theorem akH:b9 Tryz.prog T 42 afU:=ft (E:=E42) (aG auW aX) Tryz.func42 U42.b λ_=>U42.eu _

def aqe:=en [] []
def aox:Fn [.R] As:=λa=>[aH 51 a]
def ato:Fn [.R] dB:=λa=>⟨[aO 51 a],[]⟩
def Va:=dX aox ato wI.c wI.v
theorem abP:b9 Tryz.prog T 216 Va:=fr (E:=aqe) aX Tryz.func216 wI.b wI.vo

def aqu:=en [] []
def ao3:Fn [.R] As:=λa=>[aH 9 a]
def atV:Fn [.R] dB:=λa=>⟨[aO 9 a],[]⟩
def Vj:=dX ao3 atV s7.c s7.v
theorem abY:b9 Tryz.prog T 255 Vj:=fr (E:=aqu) aX Tryz.func255 s7.b s7.vo

def aqx:=en [] []
def ao7:Fn [.R] As:=λa=>[aH 3 a]
def atZ:Fn [.R] dB:=λa=>⟨[aO 3 a],[]⟩
def adb:=dX ao7 atZ vO.c vO.v
theorem akq:b9 Tryz.prog T 261 adb:=fr (E:=aqx) aX Tryz.func261 vO.b vO.vo

def Wx:=en [(261,adb)] [(3,[2,3,10,11,12])]
def aoE:Fn [.R, .I] As:=λa b=>[aV [.sh 26 a, .n b]]
def atv:Fn [.R, .I] dB:=λa b=>⟨[aV [.ow 26 ai a, .n b]],[]⟩
def rA:Fn [.R, .I, .I, .I, .I] Tb:=λa b c d e=>[cP 4 0,cP 6 1,cH 20 26 a,cI 22 b,cI 24 c,oB 1 [.nl, .n d],oB 3 [.nl, .n e]]
def oA:Fn [.R, .I, .I, .I, .I, .R] Tb:=λa b c d e f=>[cP 4 0,cP 6 1,cH 20 26 a,cI 22 b,cI 24 c,oB 1 [.nl, .n d],oB 3 [.own 2, .n e],oR 5 26 f]
def Ri(N:aF)(K:Kt R):=jk.l3 N (J rA (.exit 0) K) (J oA (.exit 0) K)
def Mn(N:aF)(K:Kt R):=jk.sG N (J rA (.exit 0) K) (J oA (.exit 0) K)
def Nk(N:aF):It R:=(lp 3 (al rA (λK=>Ri N K N) (al oA (λK=>Mn N K N) an)) ln)
theorem N7(N:aF)(K:Kt R):Wd Wx (Nk N) (bX Tryz.f224 3) 3 K oA (Mn N K):=lw (λg=>jk.zG N (cmp _ rA (g∘fK)) (cmp _ oA (g∘fK)) (J rA (.exit 0) K) (J oA (.exit 0) K)) λm i=>by simp only[dN,wf i];rfl
theorem af9(N:aF)(K:Kt R):Wd Wx (Nk N) (bX Tryz.f224 3) 3 K rA (Ri N K):=lw (λg=>jk.r3 N (cmp _ rA (g∘fK)) (cmp _ oA (g∘fK)) (J rA (.exit 0) K) (J oA (.exit 0) K)) λm i=>by simp only[dN,wf i,wf (N7 N K m)];rfl
theorem Yv(N:aF):cg Wx (Nk N (R:=R)) (bX Tryz.f224 3):=lm 3 (ga rA (af9 N) (ga oA (N7 N) oJ))
def Ve:=dX aoE atv jk.c jk.v
theorem abT:b9 Tryz.prog T 224 Ve:=fq (E:=Wx) (aG akq aX) Tryz.func224 (it:=λN=>Nk N) (λN=>(bw (Yv N) bD)) jk.b jk.vo

def aqc:=en [(255,Vj),(224,Ve)] []
def aot:Fn [.R, .R, .R, .I] As:=λa b c d=>[aV [.sh 9 a, .sh 9 b, .sh 26 c, .n d]]
def atk:Fn [.R, .R, .R, .I] dB:=λa b c d=>⟨[aV [.ow 9 ai a, .ow 9 ai b, .ow 26 ai c, .n d]],[]⟩
def NV:=dX aot atk js.c js.v
theorem TW:b9 Tryz.prog T 212 NV:=fr (E:=aqc) (aG abY (aG abT aX)) Tryz.func212 js.b js.vo

def apR:=en [(216,Va),(212,NV)] []
def anR:Fn [.I, .R, .R, .R, .R, .I, .R, .R, .I] As:=λa b c d e f g h i=>[aV [.n a, .sh 51 b, .sh 9 c, .sh 9 d, .sh 26 e, .n f, .sh 75 g, .sh 72 h, .n i]]
def asI:Fn [.I, .R, .R, .R, .R, .I, .R, .R, .I] dB:=λa b c d e f g h i=>⟨[aV [.n a, .ow 51 ai b, .ow 9 ai c, .ow 9 ai d, .ow 26 ai e, .n f, .ow 75 ai g, .ow 72 ai h, .n i]],[]⟩
def C2:=dX anR asI iL.c iL.v
theorem EU:b9 Tryz.prog T 160 C2:=fr (E:=apR) (aG abP (aG TW aX)) Tryz.func160 iL.b iL.vo

def apH:=en [(82,qs)] []
def anG:Fn [.S] As:=λa=>[aS a]
def asx:Fn [.B] dB:=λa=>⟨[aB a],[]⟩
def C1:=dX anG asx (ct _) zi.v
theorem ET:b9 Tryz.prog T 148 C1:=ft (E:=apH) (aG qN aX) Tryz.func148 zi.b λ(a0,_)=>zi.eu _ a0

def E86:=en [(82,qs)] []
def A86:Fn [.I] As:=λa=>[aI a]
def k86:Fn [.B] dB:=λa=>⟨[aB a],[]⟩
def Zw:=dX A86 k86 (ct _) RR.v
theorem afB:b9 Tryz.prog T 86 Zw:=ft (E:=E86) (aG qN aX) Tryz.func86 RR.b λ(a0,_)=>RR.eu _ a0

def apD:=en [(148,C1),(86,Zw),(82,qs)] []
def anA:Fn [.S, .I, .I, .S] As:=λa b c d=>[aV [.s a, .n b, .n c, .s d]]
def asr:Fn [.B] dB:=λa=>⟨[aB a],[]⟩
def JL:=dX anA asr (ct _) wC.v
theorem Ny:b9 Tryz.prog T 125 JL:=ft (E:=apD) (aG ET (aG afB (aG qN aX))) Tryz.func125 wC.b λ(a0,a1,a2,a3,_)=>wC.eu _ a0 a1 a2 a3

def aqt:=en [] []
def ao2:Fn [.I] As:=λa=>[.v ak [.nl],aI a]
def atU:Fn [.R] dB:=λa=>⟨[aO 9 a],[]⟩
def ac_:=dX ao2 atU DH.c DH.v
theorem ako:b9 Tryz.prog T 254 ac_:=fr (E:=aqt) aX Tryz.func254 DH.b DH.vo

def adG:=en [(254,ac_)] [(3,[0,3,9,10,11]),(11,[6,25,26,27])]
def aos:Fn [.R] As:=λa=>[aH 31 a]
def atj:Fn [.R] dB:=λa=>⟨[aO 9 a],[]⟩
def FP:Fn [.R, .I, .R, .I, .I] Tb:=λa b c d e=>[cH 0 31 a,cI 6 b,cH 18 31 c,cI 20 d,cI 22 e]
def AZ:Fn [.R, .I, .I, .R] Tb:=λa b c d=>[cA 12 (.own 0),cH 50 31 a,cI 52 b,cI 54 c,oR 1 9 d]
def Ra(N:aF)(K:Kt R):=wH.l3 N (J FP (.exit 0) K)
def Mk(N:aF)(K:Kt R):=wH.Pc N (J AZ (.exit 2) K)
def S3(N:aF):It R:=(lp 3 (al FP (λK=>Ra N K N) an) (lp 11 (al AZ (λK=>Mk N K N) an) ln))
theorem Yo(N:aF):cg adG (S3 N (R:=R)) (bX Tryz.f211 3):=lq 3 FP (Ra N) λK g=>wH.r3 N g (J FP (.exit 0) K)
theorem Tt(N:aF):cg adG (S3 N (R:=R)) (bX Tryz.f211 11):=lq 11 AZ (Mk N) λK g=>wH.Ag N g (J AZ (.exit 2) K)
def acQ:=dX aos atj wH.c wH.v
theorem aj5:b9 Tryz.prog T 211 acQ:=fq (E:=adG) (aG ako aX) Tryz.func211 (it:=λN=>S3 N) (λN=>(bw (Yo N) (bw (Tt N) bD))) wH.b wH.vo

def apG:=en [(211,acQ)] []
def anF:Fn [.R, .R, .R, .I] As:=λa b c d=>[aV [.sh 9 a, .sh 9 b, .sh 26 c, .n d]]
def asw:Fn [.R] dB:=λa=>⟨[aO 9 a],[]⟩
def NN:=dX anF asw qC.c qC.v
theorem TM:b9 Tryz.prog T 147 NN:=fr (E:=apG) (aG aj5 aX) Tryz.func147 qC.b qC.vo

def ahC:=en [] [(2,[0,1,4,7,8])]
def ao1:Fn [.R, .S] As:=λa b=>[aH 9 a,aS b]
def atT:Fn [.I] dB:=λa=>⟨[aI a],[]⟩
def ze:Fn [.R, .S, .I, .I, .I] Tb:=λa b c d e=>[cH 0 9 a,cA 2 (.s b),cI 8 c,cI 14 d,cI 16 e]
def Rw(N:aF)(K:Kt R):=AF.l2 N (J ze .ret K) (J ze (.exit 0) K)
def abh(N:aF):It R:=(lp 2 (al ze (λK=>Rw N K N) an) ln)
theorem YJ(N:aF):cg ahC (abh N (R:=R)) (bX Tryz.f253 2):=lq 2 ze (Rw N) λK g=>AF.r2 N g (J ze .ret K) (J ze (.exit 0) K)
def ac9:=dX ao1 atT AF.c AF.v
theorem akn:b9 Tryz.prog T 253 ac9:=fq (E:=ahC) aX Tryz.func253 (it:=λN=>abh N) (λN=>(bw (YJ N) bD)) AF.b AF.vo

def aqb:=en [(253,ac9)] []
def aoq:Fn [.R, .S] As:=λa b=>[aH 9 a,aS b]
def ath:Fn [.B] dB:=λa=>⟨[aB a],[]⟩
def NT:=dX aoq ath sC.c sC.v
theorem TU:b9 Tryz.prog T 209 NT:=fr (E:=aqb) (aG akn aX) Tryz.func209 sC.b sC.vo

def apF:=en [(147,NN),(209,NT)] []
def anD:Fn [.R, .R, .R, .I, .S] As:=λa b c d e=>[aV [.sh 9 a, .sh 9 b, .sh 26 c, .n d],aS e]
def asu:Fn [.B] dB:=λa=>⟨[aB a],[]⟩
def NM:=dX anD asu sB.c sB.v
theorem TL:b9 Tryz.prog T 145 NM:=fr (E:=apF) (aG TM (aG TU aX)) Tryz.func145 sB.b sB.vo

def adF:=en [(82,qs)] [(2,[1,2,8,9,10]),(5,[1,2,4,8,9,10,14,15,16])]
def aor:Fn [.R, .I] As:=λa b=>[aV [.sh 26 a, .n b]]
def ati:Fn [.B] dB:=λa=>⟨[aB a],[]⟩
def yY:Fn [.B, .R, .I, .I, .R, .I] Tb:=λa b c d e f=>[cP 2 0,cA 4 (.b a),cH 16 26 b,cI 18 c,cI 20 d,oB 1 [.sh 26 e, .n f]]
def yZ:Fn [.B, .R, .R, .I, .I, .R, .I, .I, .R, .I] Tb:=λa b c d e f g h i j=>[cP 2 0,cA 4 (.b a),cH 8 3 b,cH 16 26 c,cI 18 d,cI 20 e,cH 28 3 f,cI 30 g,cI 32 h,oB 1 [.sh 26 i, .n j]]
def Q9(N:aF)(K:Kt R):=pK.l2 N (J yY .ret K) (J yY (.exit 0) K)
def Q_(N:aF)(K:Kt R):=pK.l5 N (J yZ .ret K) (J yZ (.exit 2) K)
def S2(N:aF):It R:=(lp 2 (al yY (λK=>Q9 N K N) an) (lp 5 (al yZ (λK=>Q_ N K N) an) ln))
theorem Ym(N:aF):cg adF (S2 N (R:=R)) (bX Tryz.f210 2):=lq 2 yY (Q9 N) λK g=>pK.r2 N g (J yY .ret K) (J yY (.exit 0) K)
theorem Yn(N:aF):cg adF (S2 N (R:=R)) (bX Tryz.f210 5):=lq 5 yZ (Q_ N) λK g=>pK.r5 N g (J yZ .ret K) (J yZ (.exit 2) K)
def NU:=dX aor ati pK.c pK.v
theorem TV:b9 Tryz.prog T 210 NU:=fq (E:=adF) (aG qN aX) Tryz.func210 (it:=λN=>S2 N) (λN=>(bw (Ym N) (bw (Yn N) bD))) pK.b pK.vo

def ahe:=en [(147,NN),(148,C1),(209,NT),(210,NU)] [(3,[1,2,3,8,9,10])]
def anE:Fn [.R, .R, .R, .I] As:=λa b c d=>[aV [.sh 9 a, .sh 9 b, .sh 26 c, .n d]]
def asv:Fn [.B] dB:=λa=>⟨[aB a],[]⟩
def yT:Fn [.B, .I, .I, .R, .R, .R, .I, .R] Tb:=λa b c d e f g h=>[cP 2 0,cA 4 (.b a),cA 6 (.own 1),cA 16 (.own 1),cI 18 b,cI 20 c,oB 1 [.sh 9 d, .sh 9 e, .sh 26 f, .n g],oR 3 9 h]
def QQ(N:aF)(K:Kt R):=o6.l3 N (J yT .ret K) (J yT (.exit 0) K)
def aaU(N:aF):It R:=(lp 3 (al yT (λK=>QQ N K N) an) ln)
theorem X4(N:aF):cg ahe (aaU N (R:=R)) (bX Tryz.f146 3):=lq 3 yT (QQ N) λK g=>o6.r3 N g (J yT .ret K) (J yT (.exit 0) K)
def UR:=dX anE asv o6.c o6.v
theorem abz:b9 Tryz.prog T 146 UR:=fq (E:=ahe) (aG TM (aG ET (aG TU (aG TV aX)))) Tryz.func146 (it:=λN=>aaU N) (λN=>(bw (X4 N) bD)) o6.b o6.vo

def E83:=en [(125,JL),(145,NM),(146,UR),(147,NN)] [(2,[1,2,6,7,8])]
def A83:Fn [.I, .R, .R, .R, .R, .I, .R, .R, .I] As:=λa b c d e f g h i=>[aV [.n a, .sh 51 b, .sh 9 c, .sh 9 d, .sh 26 e, .n f, .sh 75 g, .sh 72 h, .n i]]
def k83:Fn [.B] dB:=λa=>⟨[aB a],[]⟩
def Eo:Fn [.B, .R, .I, .I, .I, .R, .R, .R, .R, .I, .R, .R, .I] Tb:=λa b c d e f g h i j k l m=>[cP 2 0,cA 4 (.b a),cH 12 51 b,cI 14 c,cI 16 d,oB 1 [.n e, .sh 51 f, .sh 9 g, .sh 9 h, .sh 26 i, .n j, .sh 75 k, .sh 72 l, .n m]]
def aac(N:aF)(K:Kt R):=Qe.l2 N (J Eo .ret K) (J Eo (.exit 0) K)
def ai2(N:aF):It R:=(lp 2 (al Eo (λK=>aac N K N) an) ln)
theorem aft(N:aF):cg E83 (ai2 N (R:=R)) (bX Tryz.f83 2):=lq 2 Eo (aac N) λK g=>Qe.r2 N g (J Eo .ret K) (J Eo (.exit 0) K)
def alv:=dX A83 k83 Qe.c Qe.v
theorem auQ:b9 Tryz.prog T 83 alv:=fq (E:=E83) (aG Ny (aG TL (aG abz (aG TM aX)))) Tryz.func83 (it:=λN=>ai2 N) (λN=>(bw (aft N) bD)) Qe.b Qe.vo

def apO:=en [] []
def anO:Fn [.S, .S, .I, .I, .I, .S] As:=λa b c d e f=>[aV [.s a, .s b, .n c, .n d, .n e], .fb [.s f]]
def asF:Fn [.B] dB:=λa=>⟨[aB a],[]⟩
def acp:=dX anO asF (ct _) H4.v
theorem ajF:b9 Tryz.prog T 157 acp:=ft (E:=apO) aX Tryz.func157 H4.b λ(a0,a1,a2,a3,a4,a5,_)=>H4.eu _ a0 a1 a2 a3 a4 a5

def ahg:=en [(157,acp)] [(2,[0,1,4,7,8])]
def anN:Fn [.R, .S] As:=λa b=>[aH 75 a, .v ak [.fn 157 [[.s b]]]]
def asE:Fn [.I] dB:=λa=>⟨[aI a],[]⟩
def yU:Fn [.R, .S, .I, .I, .I] Tb:=λa b c d e=>[cH 0 75 a,cA 2 (.fn 157 [[.s b]]),cI 8 c,cI 14 d,cI 16 e]
def QS(N:aF)(K:Kt R):=qD.l2 N (J yU .ret K) (J yU (.exit 0) K)
def aaW(N:aF):It R:=(lp 2 (al yU (λK=>QS N K N) an) ln)
theorem X6(N:aF):cg ahg (aaW N (R:=R)) (bX Tryz.f156 2):=lq 2 yU (QS N) λK g=>qD.r2 N g (J yU .ret K) (J yU (.exit 0) K)
def aco:=dX anN asE qD.c qD.v
theorem ajE:b9 Tryz.prog T 156 aco:=fq (E:=ahg) (aG ajF aX) Tryz.func156 (it:=λN=>aaW N) (λN=>(bw (X6 N) bD)) qD.b qD.vo

def E92:=en [(156,aco)] []
def A92:Fn [.I, .R, .R, .R, .R, .I, .R, .R, .I, .S] As:=λa b c d e f g h i j=>[aV [.n a, .sh 51 b, .sh 9 c, .sh 9 d, .sh 26 e, .n f, .sh 75 g, .sh 72 h, .n i],aS j]
def k92:Fn [.I] dB:=λa=>⟨[aI a],[]⟩
def af2:=dX A92 k92 Kl.c Kl.v
theorem akP:b9 Tryz.prog T 92 af2:=fr (E:=E92) (aG ajE aX) Tryz.func92 Kl.b Kl.vo

def E35:=en [(92,af2)] [(2,[1,2,6,7,8])]
def A35:Fn [.I, .R, .R, .R, .R, .I, .R, .R, .I] As:=λa b c d e f g h i=>[aV [.n a, .sh 51 b, .sh 9 c, .sh 9 d, .sh 26 e, .n f, .sh 75 g, .sh 72 h, .n i]]
def k35:Fn [.B] dB:=λa=>⟨[aB a],[]⟩
def Ei:Fn [.B, .R, .I, .I, .I, .R, .R, .R, .R, .I, .R, .R, .I] Tb:=λa b c d e f g h i j k l m=>[cP 2 0,cA 4 (.b a),cH 12 75 b,cI 14 c,cI 16 d,oB 1 [.n e, .sh 51 f, .sh 9 g, .sh 9 h, .sh 26 i, .n j, .sh 75 k, .sh 72 l, .n m]]
def Z2(N:aF)(K:Kt R):=H6.l2 N (J Ei .ret K) (J Ei (.exit 0) K)
def aiV(N:aF):It R:=(lp 2 (al Ei (λK=>Z2 N K N) an) ln)
theorem afi(N:aF):cg E35 (aiV N (R:=R)) (bX Tryz.f35 2):=lq 2 Ei (Z2 N) λK g=>H6.r2 N g (J Ei .ret K) (J Ei (.exit 0) K)
def afT:=dX A35 k35 H6.c H6.v
theorem akG:b9 Tryz.prog T 35 afT:=fq (E:=E35) (aG akP aX) Tryz.func35 (it:=λN=>aiV N) (λN=>(bw (afi N) bD)) H6.b H6.vo

def E84:=en [(148,C1),(82,qs),(35,afT)] [(2,[1,2,6,7,8])]
def A84:Fn [.I, .R, .R, .R, .R, .I, .R, .R, .I] As:=λa b c d e f g h i=>[aV [.n a, .sh 51 b, .sh 9 c, .sh 9 d, .sh 26 e, .n f, .sh 75 g, .sh 72 h, .n i]]
def k84:Fn [.B] dB:=λa=>⟨[aB a],[]⟩
def Ep:Fn [.B, .R, .I, .I, .I, .R, .R, .R, .R, .I, .R, .R, .I] Tb:=λa b c d e f g h i j k l m=>[cP 2 0,cA 4 (.b a),cH 12 75 b,cI 14 c,cI 16 d,oB 1 [.n e, .sh 51 f, .sh 9 g, .sh 9 h, .sh 26 i, .n j, .sh 75 k, .sh 72 l, .n m]]
def aad(N:aF)(K:Kt R):=Ow.l2 N (J Ep .ret K) (J Ep (.exit 0) K)
def ai3(N:aF):It R:=(lp 2 (al Ep (λK=>aad N K N) an) ln)
theorem afu(N:aF):cg E84 (ai3 N (R:=R)) (bX Tryz.f84 2):=lq 2 Ep (aad N) λK g=>Ow.r2 N g (J Ep .ret K) (J Ep (.exit 0) K)
def alw:=dX A84 k84 Ow.c Ow.v
theorem auR:b9 Tryz.prog T 84 alw:=fq (E:=E84) (aG ET (aG qN (aG akG aX))) Tryz.func84 (it:=λN=>ai3 N) (λN=>(bw (afu N) bD)) Ow.b Ow.vo

def E85:=en [(82,qs),(148,C1)] [(2,[1,2,6,7,8])]
def A85:Fn [.I, .R, .R, .R, .R, .I, .R, .R, .I] As:=λa b c d e f g h i=>[aV [.n a, .sh 51 b, .sh 9 c, .sh 9 d, .sh 26 e, .n f, .sh 75 g, .sh 72 h, .n i]]
def k85:Fn [.B] dB:=λa=>⟨[aB a],[]⟩
def Er:Fn [.B, .R, .I, .I, .I, .R, .R, .R, .R, .I, .R, .R, .I] Tb:=λa b c d e f g h i j k l m=>[cP 2 0,cA 4 (.b a),cH 12 72 b,cI 14 c,cI 16 d,oB 1 [.n e, .sh 51 f, .sh 9 g, .sh 9 h, .sh 26 i, .n j, .sh 75 k, .sh 72 l, .n m]]
def aae(N:aF)(K:Kt R):=Qf.l2 N (J Er .ret K) (J Er (.exit 0) K)
def ai4(N:aF):It R:=(lp 2 (al Er (λK=>aae N K N) an) ln)
theorem afv(N:aF):cg E85 (ai4 N (R:=R)) (bX Tryz.f85 2):=lq 2 Er (aae N) λK g=>Qf.r2 N g (J Er .ret K) (J Er (.exit 0) K)
def alx:=dX A85 k85 Qf.c Qf.v
theorem auS:b9 Tryz.prog T 85 alx:=fq (E:=E85) (aG qN (aG ET aX)) Tryz.func85 (it:=λN=>ai4 N) (λN=>(bw (afv N) bD)) Qf.b Qf.vo

def E30:=en [(82,qs),(83,alv),(84,alw),(85,alx),(86,Zw)] []
def A30:Fn [.I, .R, .R, .R, .R, .I, .R, .R, .I] As:=λa b c d e f g h i=>[aV [.n a, .sh 51 b, .sh 9 c, .sh 9 d, .sh 26 e, .n f, .sh 75 g, .sh 72 h, .n i]]
def k30:Fn [.B] dB:=λa=>⟨[aB a],[]⟩
def afS:=dX A30 k30 Ov.c Ov.v
theorem akF:b9 Tryz.prog T 30 afS:=fr (E:=E30) (aG qN (aG auQ (aG auR (aG auS (aG afB aX))))) Tryz.func30 Ov.b Ov.vo

def apZ:=en [] []
def an4:Fn [.I, .S, .I, .I, .I, .S, .I, .I] As:=λa b c d e f g h=>[aV [.n a, .s b, .n c, .n d, .n e, .s f, .n g], .fb [.n h]]
def asV:Fn [.B] dB:=λa=>⟨[aB a],[]⟩
def acB:=dX an4 asV (ct _) Kg.v
theorem ajQ:b9 Tryz.prog T 174 acB:=ft (E:=apZ) aX Tryz.func174 Kg.b λ(a0,a1,a2,a3,a4,a5,a6,a7,_)=>Kg.eu _ a0 a1 a2 a3 a4 a5 a6 a7

def ZP:=en [(174,acB)] [(2,[0,1,4,7,8])]
def ag0:Fn [.R, .I] As:=λa b=>[aH 72 a, .v ak [.fn 174 [[.n b]]]]
def ai9:Fn [.I] dB:=λa=>⟨[aI a],[]⟩
def uf:Fn [.R, .I, .I, .I, .I] Tb:=λa b c d e=>[cH 0 72 a,cA 2 (.fn 174 [[.n b]]),cI 8 c,cI 14 d,cI 16 e]
def Mf(N:aF)(K:Kt R):=qE.l2 N (J uf .ret K) (J uf (.exit 0) K)
def SZ(N:aF):It R:=(lp 2 (al uf (λK=>Mf N K N) an) ln)
theorem Tp(N:aF):cg ZP (SZ N (R:=R)) (bX Tryz.f173 2):=lq 2 uf (Mf N) λK g=>qE.r2 N g (J uf .ret K) (J uf (.exit 0) K)
def LJ:=dX ag0 ai9 qE.c qE.v
theorem TQ:b9 Tryz.prog T 173 LJ:=fq (E:=ZP) (aG ajQ aX) Tryz.func173 (it:=λN=>SZ N) (λN=>(bw (Tp N) bD)) qE.b qE.vo

def ap0:=en [] []
def an6:Fn [.I, .S, .I, .I, .I, .S, .I, .I] As:=λa b c d e f g h=>[aV [.n a, .s b, .n c, .n d, .n e, .s f, .n g], .fb [.n h]]
def asX:Fn [.B] dB:=λa=>⟨[aB a],[]⟩
def U0:=dX an6 asX (ct _) Az.v
theorem abH:b9 Tryz.prog T 176 U0:=ft (E:=ap0) aX Tryz.func176 Az.b λ(a0,a1,a2,a3,a4,a5,a6,a7,_)=>Az.eu _ a0 a1 a2 a3 a4 a5 a6 a7

def ZQ:=en [(176,U0)] [(2,[0,1,4,7,8])]
def ag1:Fn [.R, .I] As:=λa b=>[aH 72 a, .v ak [.fn 176 [[.n b]]]]
def ai_:Fn [.I] dB:=λa=>⟨[aI a],[]⟩
def ug:Fn [.R, .I, .I, .I, .I] Tb:=λa b c d e=>[cH 0 72 a,cA 2 (.fn 176 [[.n b]]),cI 8 c,cI 14 d,cI 16 e]
def Mg(N:aF)(K:Kt R):=nh.l2 N (J ug .ret K) (J ug (.exit 0) K)
def S0(N:aF):It R:=(lp 2 (al ug (λK=>Mg N K N) an) ln)
theorem Tq(N:aF):cg ZQ (S0 N (R:=R)) (bX Tryz.f173 2):=lq 2 ug (Mg N) λK g=>nh.r2 N g (J ug .ret K) (J ug (.exit 0) K)
def LK:=dX ag1 ai_ nh.c nh.v
theorem TR:b9 Tryz.prog T 173 LK:=fq (E:=ZQ) (aG abH aX) Tryz.func173 (it:=λN=>S0 N) (λN=>(bw (Tq N) bD)) nh.b nh.vo

def apo:=en [(173,LJ),(173,LK)] []
def ane:Fn [.I, .R, .R, .R, .R, .I, .R, .R, .I, .I] As:=λa b c d e f g h i j=>[aV [.n a, .sh 51 b, .sh 9 c, .sh 9 d, .sh 26 e, .n f, .sh 75 g, .sh 72 h, .n i],aI j]
def ar5:Fn [.I] dB:=λa=>⟨[aI a],[]⟩
def UL:=dX ane ar5 zh.c zh.v
theorem abt:b9 Tryz.prog T 101 UL:=fr (E:=apo) (aG TQ (aG TR aX)) Tryz.func101 zh.b zh.vo

def apS:=en [] []
def anS:Fn [.S, .I, .I, .S, .S] As:=λa b c d e=>[aV [.s a, .n b, .n c, .s d], .fb [.s e]]
def asJ:Fn [.B] dB:=λa=>⟨[aB a],[]⟩
def acs:=dX anS asJ (ct _) Kf.v
theorem ajI:b9 Tryz.prog T 161 acs:=ft (E:=apS) aX Tryz.func161 Kf.b λ(a0,a1,a2,a3,a4,_)=>Kf.eu _ a0 a1 a2 a3 a4

def ZM:=en [(161,acs)] [(2,[0,1,4,7,8])]
def agX:Fn [.R, .S] As:=λa b=>[aH 51 a, .v ak [.fn 161 [[.s b]]]]
def ai6:Fn [.I] dB:=λa=>⟨[aI a],[]⟩
def uc:Fn [.R, .S, .I, .I, .I] Tb:=λa b c d e=>[cH 0 51 a,cA 2 (.fn 161 [[.s b]]),cI 8 c,cI 14 d,cI 16 e]
def L_(N:aF)(K:Kt R):=pR.l2 N (J uc .ret K) (J uc (.exit 0) K)
def SW(N:aF):It R:=(lp 2 (al uc (λK=>L_ N K N) an) ln)
theorem Tk(N:aF):cg ZM (SW N (R:=R)) (bX Tryz.f155 2):=lq 2 uc (L_ N) λK g=>pR.r2 N g (J uc .ret K) (J uc (.exit 0) K)
def Hq:=dX agX ai6 pR.c pR.v
theorem Lh:b9 Tryz.prog T 155 Hq:=fq (E:=ZM) (aG ajI aX) Tryz.func155 (it:=λN=>SW N) (λN=>(bw (Tk N) bD)) pR.b pR.vo

def aqf:=en [] []
def aoy:Fn [.S, .I, .I, .S, .S] As:=λa b c d e=>[aV [.s a, .n b, .n c, .s d], .fb [.s e]]
def atp:Fn [.B] dB:=λa=>⟨[aB a],[]⟩
def Vb:=dX aoy atp (ct _) AE.v
theorem abQ:b9 Tryz.prog T 217 Vb:=ft (E:=aqf) aX Tryz.func217 AE.b λ(a0,a1,a2,a3,a4,_)=>AE.eu _ a0 a1 a2 a3 a4

def ZN:=en [(217,Vb)] [(2,[0,1,4,7,8])]
def agY:Fn [.R, .S] As:=λa b=>[aH 51 a, .v ak [.fn 217 [[.s b]]]]
def ai7:Fn [.I] dB:=λa=>⟨[aI a],[]⟩
def ud:Fn [.R, .S, .I, .I, .I] Tb:=λa b c d e=>[cH 0 51 a,cA 2 (.fn 217 [[.s b]]),cI 8 c,cI 14 d,cI 16 e]
def Ma(N:aF)(K:Kt R):=ng.l2 N (J ud .ret K) (J ud (.exit 0) K)
def SX(N:aF):It R:=(lp 2 (al ud (λK=>Ma N K N) an) ln)
theorem Tl(N:aF):cg ZN (SX N (R:=R)) (bX Tryz.f155 2):=lq 2 ud (Ma N) λK g=>ng.r2 N g (J ud .ret K) (J ud (.exit 0) K)
def Hr:=dX agY ai7 ng.c ng.v
theorem Li:b9 Tryz.prog T 155 Hr:=fq (E:=ZN) (aG abQ aX) Tryz.func155 (it:=λN=>SX N) (λN=>(bw (Tl N) bD)) ng.b ng.vo

def E89:=en [] []
def A89:Fn [.S, .I, .I, .S, .I, .S, .I, .I, .I, .S, .I] As:=λa b c d e f g h i j k=>[aV [.s a, .n b, .n c, .s d], .fb [.n e, .s f, .n g, .n h, .n i, .s j, .n k]]
def k89:Fn [.B] dB:=λa=>⟨[aB a],[]⟩
def af1:=dX A89 k89 (ct _) WQ.v
theorem akO:b9 Tryz.prog T 89 af1:=ft (E:=E89) aX Tryz.func89 WQ.b λ(a0,a1,a2,a3,a4,a5,a6,a7,a8,a9,a10,_)=>WQ.eu _ a0 a1 a2 a3 a4 a5 a6 a7 a8 a9 a10

def ZO:=en [(89,af1)] [(2,[0,1,4,7,8])]
def agZ:Fn [.R, .I, .S, .I, .I, .I, .S, .I] As:=λa b c d e f g h=>[aH 51 a, .v ak [.fn 89 [[.n b, .s c, .n d, .n e, .n f, .s g, .n h]]]]
def ai8:Fn [.I] dB:=λa=>⟨[aI a],[]⟩
def ue:Fn [.R, .I, .S, .I, .I, .I, .S, .I, .I, .I, .I] Tb:=λa b c d e f g h i j k=>[cH 0 51 a,cA 2 (.fn 89 [[.n b, .s c, .n d, .n e, .n f, .s g, .n h]]),cI 8 i,cI 14 j,cI 16 k]
def Mb(N:aF)(K:Kt R):=sb.l2 N (J ue .ret K) (J ue (.exit 0) K)
def SY(N:aF):It R:=(lp 2 (al ue (λK=>Mb N K N) an) ln)
theorem Tm(N:aF):cg ZO (SY N (R:=R)) (bX Tryz.f155 2):=lq 2 ue (Mb N) λK g=>sb.r2 N g (J ue .ret K) (J ue (.exit 0) K)
def Hs:=dX agZ ai8 sb.c sb.v
theorem Lj:b9 Tryz.prog T 155 Hs:=fq (E:=ZO) (aG akO aX) Tryz.func155 (it:=λN=>SY N) (λN=>(bw (Tm N) bD)) sb.b sb.vo

def E62:=en [(125,JL),(86,Zw),(82,qs)] []
def A62:Fn [.S, .I, .I, .S, .I] As:=λa b c d e=>[aV [.s a, .n b, .n c, .s d],aI e]
def k62:Fn [.B] dB:=λa=>⟨[aB a],[]⟩
def Zv:=dX A62 k62 (ct _) Gl.v
theorem afA:b9 Tryz.prog T 62 Zv:=ft (E:=E62) (aG Ny (aG afB (aG qN aX))) Tryz.func62 Gl.b λ(a0,a1,a2,a3,a4,_)=>Gl.eu _ a0 a1 a2 a3 a4

def adK:=en [] [(2,[0,1,5]),(6,[0,1,5,19])]
def apf:Fn [.I, .S] As:=λa b=>[.v ak [.i .u32 a],aS b]
def aua:Fn [.I] dB:=λa=>⟨[.v ak [.i .u32 a]],[]⟩
def Gb:Fn [.I, .S, .I] Tb:=λa b c=>[cA 0 (.i .u32 a),cA 2 (.s b),cI 10 c]
def Gc:Fn [.I, .S, .I, .I] Tb:=λa b c d=>[cA 0 (.i .u32 a),cA 2 (.s b),cI 10 c,cI 38 d]
def RA(N:aF)(K:Kt R):=wM.l2 N (J Gb (.exit 0) K)
def RB(N:aF)(K:Kt R):=wM.l6 N (J Gc (.exit 2) K)
def S9(N:aF):It R:=(lp 2 (al Gb (λK=>RA N K N) an) (lp 6 (al Gc (λK=>RB N K N) an) ln))
theorem YN(N:aF):cg adK (S9 N (R:=R)) (bX Tryz.f270 2):=lq 2 Gb (RA N) λK g=>wM.r2 N g (J Gb (.exit 0) K)
theorem YO(N:aF):cg adK (S9 N (R:=R)) (bX Tryz.f270 6):=lq 6 Gc (RB N) λK g=>wM.r6 N g (J Gc (.exit 2) K)
def adm:=dX apf aua wM.c wM.v
theorem aky:b9 Tryz.prog T 270 adm:=fq (E:=adK) aX Tryz.func270 (it:=λN=>S9 N) (λN=>(bw (YN N) (bw (YO N) bD))) wM.b wM.vo

def aqs:=en [(270,adm)] []
def ao0:Fn [.S] As:=λa=>[aS a]
def atS:Fn [.I] dB:=λa=>⟨[.v ak [.i .u32 a]],[]⟩
def Vi:=dX ao0 atS uY.c uY.v
theorem abX:b9 Tryz.prog T 247 Vi:=fr (E:=aqs) (aG aky aX) Tryz.func247 uY.b uY.vo

def aqh:=en [(247,Vi)] []
def aoF:Fn [.I, .S] As:=λa b=>[aI a,aS b]
def atw:Fn [.I] dB:=λa=>⟨[aI a],[]⟩
def Vf:=dX aoF atw qG.c qG.v
theorem abU:b9 Tryz.prog T 225 Vf:=fr (E:=aqh) (aG abX aX) Tryz.func225 qG.b qG.vo

def Wt:=en [(224,Ve),(210,NU),(225,Vf)] [(5,[1,4,5,19,20,21]),(15,[4,5,49,50,51]),(18,[4,5,10,49,50,51,56,57])]
def anV:Fn [.R, .I, .S] As:=λa b c=>[aV [.sh 26 a, .n b],aS c]
def asM:Fn [.R, .I] dB:=λa b=>⟨[aV [.ow 26 ai a, .n b]],[]⟩
def FF:Fn [.S, .I, .I, .I, .I, .R] Tb:=λa b c d e f=>[cA 2 (.s a),cP 8 0,cP 10 1,cA 38 (.own 2),cI 40 b,cI 42 c,oB 1 [.nl, .n d],oB 3 [.own 2, .n e],oR 5 26 f]
def AW:Fn [.I, .I, .I, .I, .R] Tb:=λa b c d e=>[cP 8 0,cP 10 1,cA 98 (.own 2),cI 100 a,cI 102 b,oB 1 [.nl, .n c],oB 3 [.own 2, .n d],oR 5 26 e]
def AX:Fn [.N, .I, .I, .I, .I, .I, .I, .R] Tb:=λa b c d e f g h=>[cP 8 0,cP 10 1,cA 20 (.inn 2 a 0),cA 98 (.own 2),cI 100 b,cI 102 c,cI 112 d,cI 114 e,oB 1 [.nl, .n f],oB 3 [.own 2, .n g],oR 5 26 h]
def QV(N:aF)(K:Kt R):=iI.l5 N (J FF (.exit 0) K)
def Md(N:aF)(K:Kt R):=iI.l15 N (J AW (.exit 2) K)
def Me(N:aF)(K:Kt R):=iI.l18 N (J AX (.exit 4) K)
def Ng(N:aF):It R:=(lp 5 (al FF (λK=>QV N K N) an) (lp 15 (al AW (λK=>Md N K N) an) (lp 18 (al AX (λK=>Me N K N) an) ln)))
theorem X9(N:aF):cg Wt (Ng N (R:=R)) (bX Tryz.f164 5):=lq 5 FF (QV N) λK g=>iI.r5 N g (J FF (.exit 0) K)
theorem Tn(N:aF):cg Wt (Ng N (R:=R)) (bX Tryz.f164 15):=lq 15 AW (Md N) λK g=>iI.r15 N g (J AW (.exit 2) K)
theorem To(N:aF):cg Wt (Ng N (R:=R)) (bX Tryz.f164 18):=lq 18 AX (Me N) λK g=>iI.r18 N g (J AX (.exit 4) K)
def UX:=dX anV asM iI.c iI.v
theorem abE:b9 Tryz.prog T 164 UX:=fq (E:=Wt) (aG abT (aG TV (aG abU aX))) Tryz.func164 (it:=λN=>Ng N) (λN=>(bw (X9 N) (bw (Tn N) (bw (To N) bD)))) iI.b iI.vo

def aqv:=en [] []
def ao5:Fn [.S, .S] As:=λa b=>[aS a, .fb [.s b]]
def atX:Fn [.B] dB:=λa=>⟨[aB a],[]⟩
def Vk:=dX ao5 atX (ct _) AG.v
theorem abZ:b9 Tryz.prog T 257 Vk:=ft (E:=aqv) aX Tryz.func257 AG.b λ(a0,a1,_)=>AG.eu _ a0 a1

def ahG:=en [(257,Vk)] [(2,[0,1,4,7,8])]
def apg:Fn [.R, .S] As:=λa b=>[aH 9 a, .v ak [.fn 257 [[.s b]]]]
def aub:Fn [.I] dB:=λa=>⟨[aI a],[]⟩
def zg:Fn [.R, .S, .I, .I, .I] Tb:=λa b c d e=>[cH 0 9 a,cA 2 (.fn 257 [[.s b]]),cI 8 c,cI 14 d,cI 16 e]
def RC(N:aF)(K:Kt R):=sE.l2 N (J zg .ret K) (J zg (.exit 0) K)
def abl(N:aF):It R:=(lp 2 (al zg (λK=>RC N K N) an) ln)
theorem YP(N:aF):cg ahG (abl N (R:=R)) (bX Tryz.f272 2):=lq 2 zg (RC N) λK g=>sE.r2 N g (J zg .ret K) (J zg (.exit 0) K)
def adn:=dX apg aub sE.c sE.v
theorem akz:b9 Tryz.prog T 272 adn:=fq (E:=ahG) (aG abZ aX) Tryz.func272 (it:=λN=>abl N) (λN=>(bw (YP N) bD)) sE.b sE.vo

def ahD:=en [(272,adn),(257,Vk)] [(5,[0,1,5,6])]
def ao4:Fn [.R, .S] As:=λa b=>[aO 9 a, .v ak [.fn 257 [[.s b]]]]
def atW:Fn [.R] dB:=λa=>⟨[aO 9 a],[[.nl]]⟩
def F_:Fn [.S, .I, .I, .R] Tb:=λa b c d=>[cA 0 (.own 900000000),cA 2 (.fn 257 [[.s a]]),cI 10 b,cI 12 c,oR 1800000001 9 d]
def Rx(N:aF)(K:Kt R):=wL.l5 N (J F_ (.exit 0) K)
def abi(N:aF):It R:=(lp 5 (al F_ (λK=>Rx N K N) an) ln)
theorem YK(N:aF):cg ahD (abi N (R:=R)) (bX Tryz.f256 5):=lq 5 F_ (Rx N) λK g=>wL.r5 N g (J F_ (.exit 0) K)
def ada:=dX ao4 atW wL.c wL.v
theorem akp:b9 Tryz.prog T 256 ada:=fq (E:=ahD) (aG akz (aG abZ aX)) Tryz.func256 (it:=λN=>abi N) (λN=>(bw (YK N) bD)) wL.b wL.vo

def aqd:=en [(255,Vj),(256,ada)] []
def aou:Fn [.R, .S] As:=λa b=>[aH 9 a,aS b]
def atl:Fn [.R] dB:=λa=>⟨[aO 9 a],[]⟩
def U_:=dX aou atl j6.c j6.v
theorem abO:b9 Tryz.prog T 213 U_:=fr (E:=aqd) (aG abY (aG akp aX)) Tryz.func213 j6.b j6.vo

def ahs:=en [(210,NU),(225,Vf)] [(5,[1,5,12,13,14])]
def aov:Fn [.R, .I, .S] As:=λa b c=>[aV [.sh 26 a, .n b],aS c]
def atm:Fn [.I] dB:=λa=>⟨[aI a],[]⟩
def FQ:Fn [.S, .I, .R, .I, .I] Tb:=λa b c d e=>[cA 2 (.s a),cI 10 b,cH 24 26 c,cI 26 d,cI 28 e]
def Rb(N:aF)(K:Kt R):=vN.l5 N (J FQ (.exit 0) K)
def aa8(N:aF):It R:=(lp 5 (al FQ (λK=>Rb N K N) an) ln)
theorem Yp(N:aF):cg ahs (aa8 N (R:=R)) (bX Tryz.f214 5):=lq 5 FQ (Rb N) λK g=>vN.r5 N g (J FQ (.exit 0) K)
def acR:=dX aov atm vN.c vN.v
theorem aj6:b9 Tryz.prog T 214 acR:=fq (E:=ahs) (aG TV (aG abU aX)) Tryz.func214 (it:=λN=>aa8 N) (λN=>(bw (Yp N) bD)) vN.b vN.vo

def apI:=en [(212,NV),(146,UR),(148,C1),(164,UX),(209,NT),(213,U_),(214,acR)] []
def anH:Fn [.R, .R, .R, .I, .S] As:=λa b c d e=>[aV [.sh 9 a, .sh 9 b, .sh 26 c, .n d],aS e]
def asy:Fn [.R, .R, .R, .I, .S] dB:=λa b c d e=>⟨[aV [.ow 9 ai a, .ow 9 ai b, .ow 26 ai c, .n d],aS e],[]⟩
def US:=dX anH asy zj.c zj.v
theorem abA:b9 Tryz.prog T 149 US:=fr (E:=apI) (aG TW (aG abz (aG ET (aG abE (aG TU (aG abO (aG aj6 aX))))))) Tryz.func149 zj.b zj.vo

def afO:P4:=⟨λn=>bif bC n 22 then 223 else bif bC n 29 then 259 else 260,λn=>bif bC n 24 then 38 else bif bC n 9 then 72 else bif bC n 3 then 3 else bif bC n 4 then 4 else n,λn=>n⟩
def acV:aA fj->az (aW×dB):=Ins.xD 72 72
theorem ae0:Ins.L Tryz.prog afO "slices.Insert[[]loop.example/g00245/impl.Client,loop.example/g00245/impl.Client]" 7 where
 mixed:=hM
 f22:=Tryz.func223.trans (by kernel_rfl)
 t3:=by kernel_rfl
 a3:=Ins.lh (P:=Tryz.prog) (t:=3) (d:= .int .i64) (by kernel_rfl) rfl
 t4:=by kernel_rfl
 a4:=Ins.lh (P:=Tryz.prog) (t:=4) (d:= .bool) (by kernel_rfl) rfl
 t24:=by kernel_rfl
 a24:=Ins.lh (P:=Tryz.prog) (t:=38) (d:= .slice 72) (by kernel_rfl) rfl
 z9:=Ins.Hm hE (t:=72) (ti:=⟨ai,[.i .i64, .s, .i .i64, .i .i64, .i .i64, .s, .i .i64],72⟩) (by kernel_rfl)
theorem aj_:b9 Tryz.prog T 223 acV:=
 Ins.zt (e:=72) (te:=⟨ai,[.i .i64, .s, .i .i64, .i .i64, .i .i64, .s, .i .i64],72⟩) (by kernel_rfl) rfl (by kernel_rfl) hE ae0
  (λargs w=>run_callFunc_extern (e:=fG #[38,38] #[4]) Tryz.func259 (by kernel_rfl) (by kernel_rfl) (by kernel_rfl) (by kernel_rfl) args w)
  ⟨_,Tryz.func223,by kernel_rfl,by kernel_rfl⟩

def ahh:=en [(223,acV)] [(2,[0,3,4])]
def anT:Fn [.I, .R, .R, .R, .R, .I, .R, .R, .I, .I, .S, .I, .I, .I, .S, .I] As:=λa b c d e f g h i j k l m o p q=>[.pt [.n a, .ow 51 ai b, .ow 9 ai c, .ow 9 ai d, .ow 26 ai e, .n f, .ow 75 ai g, .ow 72 ai h, .n i],aV [.n j, .s k, .n l, .n m, .n o, .s p, .n q]]
def asK:Fn [.I, .R, .R, .R, .R, .I, .R, .R, .I] dB:=λa b c d e f g h i=>⟨[],[[.n a, .kp b, .kp c, .kp d, .kp e, .n f, .kp g, .ow 72 ai h, .n i]]⟩
def FE:Fn [.I, .I, .I, .I, .I, .S, .I, .I, .I, .S, .I, .R, .R, .R, .R, .R, .R] Tb:=λa b c d e f g h i j k l m o p q r=>[cP 0 900000900,cP 6 1,cI 8 a,oB 1800001801 [.n b, .own 900000001, .own 900000002, .own 900000003, .own 900000004, .n c, .own 900000006, .own 900000007, .n d],oB 3 [.n e, .s f, .n g, .n h, .n i, .s j, .n k],oR 1800000003 51 l,oR 1800000005 9 m,oR 1800000007 9 o,oR 1800000009 26 p,oR 1800000013 75 q,oR 1800000015 72 r]
def QU(N:aF)(K:Kt R):=jj.l2 N (J FE (.exit 0) K)
def aaX(N:aF):It R:=(lp 2 (al FE (λK=>QU N K N) an) ln)
theorem X8(N:aF):cg ahh (aaX N (R:=R)) (bX Tryz.f162 2):=lq 2 FE (QU N) λK g=>jj.r2 N g (J FE (.exit 0) K)
def acu:=dX anT asK jj.c jj.v
theorem ajJ:b9 Tryz.prog T 162 acu:=fq (E:=ahh) (aG aj_ aX) Tryz.func162 (it:=λN=>aaX N) (λN=>(bw (X8 N) bD)) jj.b jj.vo

def aht:=en [(155,Hq),(155,Hr),(155,Hs),(217,Vb)] [(5,[0,1,5,6])]
def aow:Fn [.R, .S] As:=λa b=>[aO 51 a, .v ak [.fn 217 [[.s b]]]]
def atn:Fn [.R] dB:=λa=>⟨[aO 51 a],[[.nl]]⟩
def FR:Fn [.S, .I, .I, .R] Tb:=λa b c d=>[cA 0 (.own 900000000),cA 2 (.fn 217 [[.s a]]),cI 10 b,cI 12 c,oR 1800000001 51 d]
def Rc(N:aF)(K:Kt R):=o8.l5 N (J FR (.exit 0) K)
def aa9(N:aF):It R:=(lp 5 (al FR (λK=>Rc N K N) an) ln)
theorem Yq(N:aF):cg aht (aa9 N (R:=R)) (bX Tryz.f215 5):=lq 5 FR (Rc N) λK g=>o8.r5 N g (J FR (.exit 0) K)
def acS:=dX aow atn o8.c o8.v
theorem aj7:b9 Tryz.prog T 215 acS:=fq (E:=aht) (aG Lh (aG Li (aG Lj (aG abQ aX)))) Tryz.func215 (it:=λN=>aa9 N) (λN=>(bw (Yq N) bD)) o8.b o8.vo

def apJ:=en [(216,Va),(215,acS)] []
def anI:Fn [.R, .S] As:=λa b=>[aH 51 a,aS b]
def asz:Fn [.R] dB:=λa=>⟨[aO 51 a],[]⟩
def NP:=dX anI asz pJ.c pJ.v
theorem TN:b9 Tryz.prog T 150 NP:=fr (E:=apJ) (aG abP (aG aj7 aX)) Tryz.func150 pJ.b pJ.vo

def apT:=en [(212,NV),(213,U_)] []
def anU:Fn [.R, .R, .R, .I, .S] As:=λa b c d e=>[aV [.sh 9 a, .sh 9 b, .sh 26 c, .n d],aS e]
def asL:Fn [.R, .R, .R, .I] dB:=λa b c d=>⟨[aV [.ow 9 ai a, .ow 9 ai b, .ow 26 ai c, .n d]],[]⟩
def acv:=dX anU asL uS.c uS.v
theorem ajK:b9 Tryz.prog T 163 acv:=fr (E:=apT) (aG TW (aG abO aX)) Tryz.func163 uS.b uS.vo

def E96:=en [(160,C2),(30,afS),(82,qs),(148,C1),(101,UL),(155,Hq),(155,Hr),(155,Hs),(62,Zv),(149,US),(162,acu),(92,af2),(150,NP),(163,acv),(164,UX)] []
def A96:Fn [.I, .R, .R, .R, .R, .I, .R, .R, .I, .I, .S] As:=λa b c d e f g h i j k=>[aV [.n a, .sh 51 b, .sh 9 c, .sh 9 d, .sh 26 e, .n f, .sh 75 g, .sh 72 h, .n i],aI j,aS k]
def k96:Fn [.I, .R, .R, .R, .R, .I, .R, .R, .I, .I] dB:=λa b c d e f g h i j=>⟨[aV [.n a, .ow 51 ai b, .ow 9 ai c, .ow 9 ai d, .ow 26 ai e, .n f, .ow 75 ai g, .ow 72 ai h, .n i],aI j],[]⟩
def alC:=dX A96 k96 RS.c RS.v
theorem auX:b9 Tryz.prog T 96 alC:=fr (E:=E96) (aG EU (aG akF (aG qN (aG ET (aG abt (aG Lh (aG Li (aG Lj (aG afA (aG abA (aG ajJ (aG akP (aG TN (aG ajK (aG abE aX))))))))))))))) Tryz.func96 RS.b RS.vo

def apU:=en [(30,afS),(82,qs)] []
def anW:Fn [.I, .R, .R, .R, .R, .I, .R, .R, .I, .I] As:=λa b c d e f g h i j=>[aV [.n a, .sh 51 b, .sh 9 c, .sh 9 d, .sh 26 e, .n f, .sh 75 g, .sh 72 h, .n i],aI j]
def asN:Fn [.B] dB:=λa=>⟨[aB a],[]⟩
def NQ:=dX anW asN uT.c uT.v
theorem TP:b9 Tryz.prog T 165 NQ:=fr (E:=apU) (aG akF (aG qN aX)) Tryz.func165 uT.b uT.vo

def aqi:=en [] []
def aoG:Fn [.I, .S, .R] As:=λa b c=>[aV [.n a, .s b, .sh 237 c]]
def atx:Fn [.I, .S, .R] dB:=λa b c=>⟨[aV [.n a, .s b, .ow 237 ai c]],[]⟩
def acW:=dX aoG atx Kh.c Kh.v
theorem aka:b9 Tryz.prog T 226 acW:=fh (E:=aqi) aX Tryz.func226 (it:=λ_=>ln) (λ_=>bD) (λ_=>Kh.b) λx f h=>⟨0,Kh.eu _ x.1 x.2.1 x.2.2.1 h⟩

def ahx:=en [(82,qs)] [(2,[1,2,6,7,8])]
def aoH:Fn [.I, .S, .R] As:=λa b c=>[aV [.n a, .s b, .sh 237 c]]
def aty:Fn [.B] dB:=λa=>⟨[aB a],[]⟩
def za:Fn [.B, .R, .I, .I, .I, .S, .R] Tb:=λa b c d e f g=>[cP 2 0,cA 4 (.b a),cH 12 237 b,cI 14 c,cI 16 d,oB 1 [.n e, .s f, .sh 237 g]]
def Rj(N:aF)(K:Kt R):=H5.l2 N (J za .ret K) (J za (.exit 0) K)
def abc(N:aF):It R:=(lp 2 (al za (λK=>Rj N K N) an) ln)
theorem Yw(N:aF):cg ahx (abc N (R:=R)) (bX Tryz.f227 2):=lq 2 za (Rj N) λK g=>H5.r2 N g (J za .ret K) (J za (.exit 0) K)
def acX:=dX aoH aty (ct _) H5.v
theorem akb:b9 Tryz.prog T 227 acX:=fh (E:=ahx) (aG qN aX) Tryz.func227 (it:=λN=>abc N) (λN=>(bw (Yw N) bD)) H5.b λx f h=>H5.eu _ x.1 x.2.1 x.2.2.1 f.1.2.1 f.1.2.2.1

def apV:=en [(226,acW),(227,acX),(82,qs)] []
def anX:Fn [.I, .S, .R, .S] As:=λa b c d=>[aV [.n a, .s b, .sh 237 c],aS d]
def asO:Fn [.I, .S, .R, .B] dB:=λa b c d=>⟨[aV [.n a, .s b, .ow 237 ai c],aB d],[]⟩
def acw:=dX anX asO Dz.c Dz.v
theorem ajL:b9 Tryz.prog T 166 acw:=fh (E:=apV) (aG aka (aG akb (aG qN aX))) Tryz.func166 (it:=λ_=>ln) (λ_=>bD) (λ_=>Dz.b) λx f h=>⟨0,Dz.eu _ x.1 x.2.1 x.2.2.1 x.2.2.2.1 h f.1.2.1 f.1.2.2.1 f.2.1.1⟩

def ahi:=en [] [(1,[0,1,9,10,11])]
def anY:Fn [.I, .R, .R, .R, .R, .I, .R, .R, .I, .I] As:=λa b c d e f g h i j=>[.pt [.n a, .ow 51 ai b, .ow 9 ai c, .ow 9 ai d, .ow 26 ai e, .n f, .ow 75 ai g, .ow 72 ai h, .n i],aI j]
def asP:Fn [.I, .R, .R, .R, .R, .I, .R, .R, .I] dB:=λa b c d e f g h i=>⟨[],[[.n a, .kp b, .kp c, .kp d, .kp e, .n f, .kp g, .kp h, .n i]]⟩
def FH:Fn [.I, .I, .I, .I, .I, .I, .R, .R, .R, .R, .R, .R] Tb:=λa b c d e f g h i j k l=>[cP 0 900000900,cI 2 a,cA 18 (.own 900000007),cI 20 b,cI 22 c,oB 1800001801 [.n d, .own 900000001, .own 900000002, .own 900000003, .own 900000004, .n e, .own 900000006, .own 900000007, .n f],oR 1800000015 72 g,oR 1800000003 51 h,oR 1800000005 9 i,oR 1800000007 9 j,oR 1800000009 26 k,oR 1800000013 75 l]
def QW(N:aF)(K:Kt R):=Ax.l1 N (J FH (.exit 0) K)
def aaY(N:aF):It R:=(lp 1 (al FH (λK=>QW N K N) an) ln)
theorem X_(N:aF):cg ahi (aaY N (R:=R)) (bX Tryz.f167 1):=lq 1 FH (QW N) λK g=>Ax.r1 N g (J FH (.exit 0) K)
def acx:=dX anY asP Ax.c Ax.v
theorem ajM:b9 Tryz.prog T 167 acx:=fq (E:=ahi) aX Tryz.func167 (it:=λN=>aaY N) (λN=>(bw (X_ N) bD)) Ax.b Ax.vo

def E97:=en [(160,C2),(165,NQ),(166,acw),(167,acx)] []
def A97:Fn [.I, .R, .R, .R, .R, .I, .R, .R, .I, .I, .S] As:=λa b c d e f g h i j k=>[aV [.n a, .sh 51 b, .sh 9 c, .sh 9 d, .sh 26 e, .n f, .sh 75 g, .sh 72 h, .n i],aI j,aS k]
def k97:Fn [.I, .R, .R, .R, .R, .I, .R, .R, .I, .B] dB:=λa b c d e f g h i j=>⟨[aV [.n a, .ow 51 ai b, .ow 9 ai c, .ow 9 ai d, .ow 26 ai e, .n f, .ow 75 ai g, .ow 72 ai h, .n i],aB j],[]⟩
def alD:=dX A97 k97 V3.c V3.v
theorem auY:b9 Tryz.prog T 97 alD:=fr (E:=E97) (aG EU (aG TP (aG ajL (aG ajM aX)))) Tryz.func97 V3.b V3.vo

def ahk:=en [] [(1,[0,1,2,11,12,13])]
def an2:Fn [.I, .R, .R, .R, .R, .I, .R, .R, .I, .I, .I] As:=λa b c d e f g h i j k=>[.pt [.n a, .ow 51 ai b, .ow 9 ai c, .ow 9 ai d, .ow 26 ai e, .n f, .ow 75 ai g, .ow 72 ai h, .n i],aI j,aI k]
def asT:Fn [.I, .R, .R, .R, .R, .I, .R, .R, .I] dB:=λa b c d e f g h i=>⟨[],[[.n a, .kp b, .kp c, .kp d, .kp e, .n f, .kp g, .kp h, .n i]]⟩
def FJ:Fn [.I, .I, .I, .I, .I, .I, .I, .R, .R, .R, .R, .R, .R] Tb:=λa b c d e f g h i j k l m=>[cP 0 900000900,cI 2 a,cI 4 b,cA 22 (.own 900000007),cI 24 c,cI 26 d,oB 1800001801 [.n e, .own 900000001, .own 900000002, .own 900000003, .own 900000004, .n f, .own 900000006, .own 900000007, .n g],oR 1800000015 72 h,oR 1800000003 51 i,oR 1800000005 9 j,oR 1800000007 9 k,oR 1800000009 26 l,oR 1800000013 75 m]
def QY(N:aF)(K:Kt R):=vL.l1 N (J FJ (.exit 0) K)
def aa0(N:aF):It R:=(lp 1 (al FJ (λK=>QY N K N) an) ln)
theorem Yb(N:aF):cg ahk (aa0 N (R:=R)) (bX Tryz.f171 1):=lq 1 FJ (QY N) λK g=>vL.r1 N g (J FJ (.exit 0) K)
def UZ:=dX an2 asT vL.c vL.v
theorem abG:b9 Tryz.prog T 171 UZ:=fq (E:=ahk) aX Tryz.func171 (it:=λN=>aa0 N) (λN=>(bw (Yb N) bD)) vL.b vL.vo

def afN:P4:=⟨λn=>bif bC n 22 then 198 else bif bC n 29 then 248 else 249,λn=>bif bC n 24 then 30 else bif bC n 9 then 51 else bif bC n 3 then 3 else bif bC n 4 then 4 else n,λn=>n⟩
def acP:aA fj->az (aW×dB):=Ins.xD 51 48
theorem aeZ:Ins.L Tryz.prog afN "slices.Insert[[]loop.example/g00245/impl.Entry,loop.example/g00245/impl.Entry]" 4 where
 mixed:=hM
 f22:=Tryz.func198.trans (by kernel_rfl)
 t3:=by kernel_rfl
 a3:=Ins.lh (P:=Tryz.prog) (t:=3) (d:= .int .i64) (by kernel_rfl) rfl
 t4:=by kernel_rfl
 a4:=Ins.lh (P:=Tryz.prog) (t:=4) (d:= .bool) (by kernel_rfl) rfl
 t24:=by kernel_rfl
 a24:=Ins.lh (P:=Tryz.prog) (t:=30) (d:= .slice 51) (by kernel_rfl) rfl
 z9:=Ins.Hm hE (t:=51) (ti:=⟨ai,[.s, .i .i64, .i .i64, .s],48⟩) (by kernel_rfl)
theorem aj4:b9 Tryz.prog T 198 acP:=
 Ins.zt (e:=51) (te:=⟨ai,[.s, .i .i64, .i .i64, .s],48⟩) (by kernel_rfl) rfl (by kernel_rfl) hE aeZ
  (λargs w=>run_callFunc_extern (e:=fG #[30,30] #[4]) Tryz.func248 (by kernel_rfl) (by kernel_rfl) (by kernel_rfl) (by kernel_rfl) args w)
  ⟨_,Tryz.func198,by kernel_rfl,by kernel_rfl⟩

def ahc:=en [(150,NP),(198,acP)] [(3,[3,5,6])]
def anz:Fn [.R, .S, .I, .I, .S] As:=λa b c d e=>[aH 51 a,aV [.s b, .n c, .n d, .s e]]
def asq:Fn [.R] dB:=λa=>⟨[aO 51 a],[]⟩
def FC:Fn [.I, .S, .I, .I, .S, .R] Tb:=λa b c d e f=>[cP 6 0,cA 10 (.own 1),cI 12 a,oB 1 [.s b, .n c, .n d, .s e],oR 3 51 f]
def QO(N:aF)(K:Kt R):=uQ.l3 N (J FC (.exit 0) K)
def aaS(N:aF):It R:=(lp 3 (al FC (λK=>QO N K N) an) ln)
theorem X2(N:aF):cg ahc (aaS N (R:=R)) (bX Tryz.f124 3):=lq 3 FC (QO N) λK g=>uQ.r3 N g (J FC (.exit 0) K)
def UP:=dX anz asq uQ.c uQ.v
theorem abx:b9 Tryz.prog T 124 UP:=fq (E:=ahc) (aG TN (aG aj4 aX)) Tryz.func124 (it:=λN=>aaS N) (λN=>(bw (X2 N) bD)) uQ.b uQ.vo

def E87:=en [(149,US),(150,NP),(145,NM),(124,UP)] []
def A87:Fn [.I, .R, .R, .R, .R, .I, .R, .R, .I, .S, .I, .I, .S] As:=λa b c d e f g h i j k l m=>[.pt [.n a, .ow 51 ai b, .ow 9 ai c, .ow 9 ai d, .ow 26 ai e, .n f, .ow 75 ai g, .ow 72 ai h, .n i],aV [.s j, .n k, .n l, .s m]]
def k87:Fn [.I, .R, .R, .R, .R, .I, .R, .R, .I] dB:=λa b c d e f g h i=>⟨[],[[.n a, .ow 51 ai b, .ow 9 ai c, .ow 9 ai d, .ow 26 ai e, .n f, .kp g, .kp h, .n i]]⟩
def afZ:=dX A87 k87 Ox.c Ox.v
theorem akM:b9 Tryz.prog T 87 afZ:=fr (E:=E87) (aG abA (aG TN (aG TL (aG abx aX)))) Tryz.func87 Ox.b Ox.vo

def apW:=en [(160,C2),(165,NQ),(82,qs),(171,UZ),(87,afZ)] []
def anZ:Fn [.I, .R, .R, .R, .R, .I, .R, .R, .I, .I, .I] As:=λa b c d e f g h i j k=>[aV [.n a, .sh 51 b, .sh 9 c, .sh 9 d, .sh 26 e, .n f, .sh 75 g, .sh 72 h, .n i],aI j,aI k]
def asQ:Fn [.I, .R, .R, .R, .R, .I, .R, .R, .I, .B] dB:=λa b c d e f g h i j=>⟨[aV [.n a, .ow 51 ai b, .ow 9 ai c, .ow 9 ai d, .ow 26 ai e, .n f, .ow 75 ai g, .ow 72 ai h, .n i],aB j],[]⟩
def acy:=dX anZ asQ DA.c DA.v
theorem ajN:b9 Tryz.prog T 168 acy:=fr (E:=apW) (aG EU (aG TP (aG qN (aG abG (aG akM aX))))) Tryz.func168 DA.b DA.vo

def ahH:=en [(82,qs)] [(4,[0,4])]
def api:Fn [.I] As:=λa=>[aI a]
def aud:Fn [.S, .B] dB:=λa b=>⟨[aS a,aB b],[]⟩
def Gd:Fn [.I, .R] Tb:=λa b=>[cI 0 a,cA 8 (.own 0),oR 1 5 b]
def RD(N:aF)(K:Kt R):=nO.l4 N (J Gd (.exit 0) K)
def abm(N:aF):It R:=(lp 4 (al Gd (λK=>RD N K N) an) ln)
theorem YQ(N:aF):cg ahH (abm N (R:=R)) (bX Tryz.f275 4):=lq 4 Gd (RD N) λK g=>nO.r4 N g (J Gd (.exit 0) K)
def N2:=dX api aud (ct _) nO.v
theorem T5:b9 Tryz.prog T 275 N2:=fh (E:=ahH) (aG qN aX) Tryz.func275 (it:=λN=>abm N) (λN=>(bw (YQ N) bD)) nO.b λx f h=>nO.eu _ x.1

def aqE:=en [(275,N2)] []
def aph:Fn [.S] As:=λa=>[aS a]
def auc:Fn [.S, .B] dB:=λa b=>⟨[aS a,aB b],[]⟩
def ado:=dX aph auc (ct _) DJ.v
theorem akA:b9 Tryz.prog T 274 ado:=fh (E:=aqE) (aG T5 aX) Tryz.func274 (it:=λ_=>ln) (λ_=>bD) (λ_=>DJ.b) λx f h=>⟨0,DJ.eu _ x.1⟩

def aqy:=en [(125,JL),(274,ado),(275,N2)] []
def ao8:Fn [.S, .I, .I, .S] As:=λa b c d=>[aV [.s a, .n b, .n c, .s d]]
def at0:Fn [.S, .B] dB:=λa b=>⟨[aS a,aB b],[]⟩
def ade:=dX ao8 at0 (ct _) DI.v
theorem akr:b9 Tryz.prog T 262 ade:=fh (E:=aqy) (aG Ny (aG akA (aG T5 aX))) Tryz.func262 (it:=λ_=>ln) (λ_=>bD) (λ_=>DI.b) λx f h=>⟨0,DI.eu _ x.1 x.2.1 x.2.2.1 x.2.2.2.1⟩

def ap_:=en [(247,Vi)] []
def aoo:Fn [.S] As:=λa=>[aS a]
def atf:Fn [.S] dB:=λa=>⟨[aS a],[]⟩
def U6:=dX aoo atf uV.c uV.v
theorem abN:b9 Tryz.prog T 196 U6:=fr (E:=ap_) (aG abX aX) Tryz.func196 uV.b uV.vo

def aqz:=en [(82,qs),(275,N2),(196,U6)] []
def ao9:Fn [.S] As:=λa=>[aS a]
def at2:Fn [.S, .B] dB:=λa b=>⟨[aS a,aB b],[]⟩
def adf:=dX ao9 at2 BK.c BK.v
theorem aks:b9 Tryz.prog T 263 adf:=fr (E:=aqz) (aG qN (aG T5 (aG abN aX))) Tryz.func263 BK.b BK.vo

def aqj:=en [(262,ade),(263,adf)] []
def aoI:Fn [.S, .I, .I, .S] As:=λa b c d=>[aV [.s a, .n b, .n c, .s d]]
def atz:Fn [.S, .B] dB:=λa b=>⟨[aS a,aB b],[]⟩
def Vg:=dX aoI atz mR.c mR.v
theorem abV:b9 Tryz.prog T 228 Vg:=fr (E:=aqj) (aG akr (aG aks aX)) Tryz.func228 mR.b mR.vo

def apX:=en [(228,Vg)] []
def an0:Fn [.S, .I, .I, .S] As:=λa b c d=>[aV [.s a, .n b, .n c, .s d]]
def asR:Fn [.R, .B] dB:=λa b=>⟨[aO 218 a,aB b],[]⟩
def acz:=dX an0 asR uU.c uU.v
theorem ajO:b9 Tryz.prog T 169 acz:=fr (E:=apX) (aG abV aX) Tryz.func169 uU.b uU.vo

def aqk:=en [] []
def aoJ:Fn [.R] As:=λa=>[aV [.sh 94 a]]
def atA:Fn [.R] dB:=λa=>⟨[aV [.ow 94 ai a]],[]⟩
def NX:=dX aoJ atA s6.c s6.v
theorem TY:b9 Tryz.prog T 229 NX:=fr (E:=aqk) aX Tryz.func229 s6.b s6.vo

def aqr:=en [] []
def aoZ:Fn [.S, .S, .I, .S] As:=λa b c d=>[aV [.s a, .s b, .n c], .fb [.s d]]
def atQ:Fn [.B] dB:=λa=>⟨[aB a],[]⟩
def ac8:=dX aoZ atQ (ct _) Ki.v
theorem akm:b9 Tryz.prog T 246 ac8:=ft (E:=aqr) aX Tryz.func246 Ki.b λ(a0,a1,a2,a3,_)=>Ki.eu _ a0 a1 a2 a3

def ZR:=en [(246,ac8)] [(2,[0,1,4,7,8])]
def ag2:Fn [.R, .S] As:=λa b=>[aH 94 a, .v ak [.fn 246 [[.s b]]]]
def aja:Fn [.I] dB:=λa=>⟨[aI a],[]⟩
def uh:Fn [.R, .S, .I, .I, .I] Tb:=λa b c d e=>[cH 0 94 a,cA 2 (.fn 246 [[.s b]]),cI 8 c,cI 14 d,cI 16 e]
def Mq(N:aF)(K:Kt R):=sd.l2 N (J uh .ret K) (J uh (.exit 0) K)
def S7(N:aF):It R:=(lp 2 (al uh (λK=>Mq N K N) an) ln)
theorem Tx(N:aF):cg ZR (S7 N (R:=R)) (bX Tryz.f245 2):=lq 2 uh (Mq N) λK g=>sd.r2 N g (J uh .ret K) (J uh (.exit 0) K)
def LL:=dX ag2 aja sd.c sd.v
theorem T3:b9 Tryz.prog T 245 LL:=fq (E:=ZR) (aG akm aX) Tryz.func245 (it:=λN=>S7 N) (λN=>(bw (Tx N) bD)) sd.b sd.vo

def aqF:=en [] []
def apk:Fn [.S, .S, .I, .S] As:=λa b c d=>[aV [.s a, .s b, .n c], .fb [.s d]]
def auf:Fn [.B] dB:=λa=>⟨[aB a],[]⟩
def Vn:=dX apk auf (ct _) AH.v
theorem ab2:b9 Tryz.prog T 278 Vn:=ft (E:=aqF) aX Tryz.func278 AH.b λ(a0,a1,a2,a3,_)=>AH.eu _ a0 a1 a2 a3

def ZS:=en [(278,Vn)] [(2,[0,1,4,7,8])]
def ag3:Fn [.R, .S] As:=λa b=>[aH 94 a, .v ak [.fn 278 [[.s b]]]]
def ajb:Fn [.I] dB:=λa=>⟨[aI a],[]⟩
def ui:Fn [.R, .S, .I, .I, .I] Tb:=λa b c d e=>[cH 0 94 a,cA 2 (.fn 278 [[.s b]]),cI 8 c,cI 14 d,cI 16 e]
def Mr(N:aF)(K:Kt R):=ni.l2 N (J ui .ret K) (J ui (.exit 0) K)
def S8(N:aF):It R:=(lp 2 (al ui (λK=>Mr N K N) an) ln)
theorem Ty(N:aF):cg ZS (S8 N (R:=R)) (bX Tryz.f245 2):=lq 2 ui (Mr N) λK g=>ni.r2 N g (J ui .ret K) (J ui (.exit 0) K)
def LM:=dX ag3 ajb ni.c ni.v
theorem T4:b9 Tryz.prog T 245 LM:=fq (E:=ZS) (aG ab2 aX) Tryz.func245 (it:=λN=>S8 N) (λN=>(bw (Ty N) bD)) ni.b ni.vo

def ap9:=en [(245,LL),(245,LM)] []
def aom:Fn [.R, .S] As:=λa b=>[aV [.sh 94 a],aS b]
def atd:Fn [.I] dB:=λa=>⟨[aI a],[]⟩
def U5:=dX aom atd eh.c eh.v
theorem abM:b9 Tryz.prog T 194 U5:=fr (E:=ap9) (aG T3 (aG T4 aX)) Tryz.func194 eh.b eh.vo

def aha:=en [(82,qs)] [(2,[1,2,6,7,8])]
def anu:Fn [.R] As:=λa=>[aV [.sh 94 a]]
def asm:Fn [.B] dB:=λa=>⟨[aB a],[]⟩
def yR:Fn [.B, .R, .I, .I, .R] Tb:=λa b c d e=>[cP 2 0,cA 4 (.b a),cH 12 94 b,cI 14 c,cI 16 d,oB 1 [.sh 94 e]]
def QM(N:aF)(K:Kt R):=ia.l2 N (J yR .ret K) (J yR (.exit 0) K)
def aaQ(N:aF):It R:=(lp 2 (al yR (λK=>QM N K N) an) ln)
theorem X0(N:aF):cg aha (aaQ N (R:=R)) (bX Tryz.f120 2):=lq 2 yR (QM N) λK g=>ia.r2 N g (J yR .ret K) (J yR (.exit 0) K)
def JK:=dX anu asm ia.c ia.v
theorem Nx:b9 Tryz.prog T 120 JK:=fq (E:=aha) (aG qN aX) Tryz.func120 (it:=λN=>aaQ N) (λN=>(bw (X0 N) bD)) ia.b ia.vo

def aqA:=en [(82,qs)] []
def ao_:Fn [.I, .S, .S, .S] As:=λa b c d=>[aV [.n a, .s b, .s c, .s d]]
def at4:Fn [.B] dB:=λa=>⟨[aB a],[]⟩
def adg:=dX ao_ at4 (ct _) Kj.v
theorem akt:b9 Tryz.prog T 264 adg:=ft (E:=aqA) (aG qN aX) Tryz.func264 Kj.b λ(a0,a1,a2,a3,_)=>Kj.eu _ a0 a1 a2 a3

def ahI:=en [(245,LL),(245,LM),(278,Vn)] [(5,[0,1,5,6])]
def apj:Fn [.R, .S] As:=λa b=>[aO 94 a, .v ak [.fn 278 [[.s b]]]]
def aue:Fn [.R] dB:=λa=>⟨[aO 94 a],[[.nl]]⟩
def Ge:Fn [.S, .I, .I, .R] Tb:=λa b c d=>[cA 0 (.own 900000000),cA 2 (.fn 278 [[.s a]]),cI 10 b,cI 12 c,oR 1800000001 94 d]
def RE(N:aF)(K:Kt R):=wN.l5 N (J Ge (.exit 0) K)
def abn(N:aF):It R:=(lp 5 (al Ge (λK=>RE N K N) an) ln)
theorem YR(N:aF):cg ahI (abn N (R:=R)) (bX Tryz.f277 5):=lq 5 Ge (RE N) λK g=>wN.r5 N g (J Ge (.exit 0) K)
def adq:=dX apj aue wN.c wN.v
theorem akC:b9 Tryz.prog T 277 adq:=fq (E:=ahI) (aG T3 (aG T4 (aG ab2 aX))) Tryz.func277 (it:=λN=>abn N) (λN=>(bw (YR N) bD)) wN.b wN.vo

def aqB:=en [(229,NX),(277,adq)] []
def apb:Fn [.R, .S] As:=λa b=>[aV [.sh 94 a],aS b]
def at6:Fn [.R] dB:=λa=>⟨[aV [.ow 94 ai a]],[]⟩
def Vm:=dX apb at6 iU.c iU.v
theorem ab1:b9 Tryz.prog T 266 Vm:=fr (E:=aqB) (aG TY (aG akC aX)) Tryz.func266 iU.b iU.vo

def afP:P4:=⟨λn=>bif bC n 22 then 276 else bif bC n 29 then 283 else 284,λn=>bif bC n 24 then 41 else bif bC n 9 then 94 else bif bC n 3 then 3 else bif bC n 4 then 4 else n,λn=>n⟩
def adp:aA fj->az (aW×dB):=Ins.xD 94 40
theorem ae1:Ins.L Tryz.prog afP "slices.Insert[[]loop.example/g00245/impl.File,loop.example/g00245/impl.File]" 3 where
 mixed:=hM
 f22:=Tryz.func276.trans (by kernel_rfl)
 t3:=by kernel_rfl
 a3:=Ins.lh (P:=Tryz.prog) (t:=3) (d:= .int .i64) (by kernel_rfl) rfl
 t4:=by kernel_rfl
 a4:=Ins.lh (P:=Tryz.prog) (t:=4) (d:= .bool) (by kernel_rfl) rfl
 t24:=by kernel_rfl
 a24:=Ins.lh (P:=Tryz.prog) (t:=41) (d:= .slice 94) (by kernel_rfl) rfl
 z9:=Ins.Hm hE (t:=94) (ti:=⟨ai,[.s, .s, .i .i64],40⟩) (by kernel_rfl)
theorem akB:b9 Tryz.prog T 276 adp:=
 Ins.zt (e:=94) (te:=⟨ai,[.s, .s, .i .i64],40⟩) (by kernel_rfl) rfl (by kernel_rfl) hE ae1
  (λargs w=>run_callFunc_extern (e:=fG #[41,41] #[4]) Tryz.func283 (by kernel_rfl) (by kernel_rfl) (by kernel_rfl) (by kernel_rfl) args w)
  ⟨_,Tryz.func276,by kernel_rfl,by kernel_rfl⟩

def ahE:=en [(266,Vm),(276,adp)] [(3,[3,4,5,6])]
def apa:Fn [.R, .S, .S, .I] As:=λa b c d=>[aV [.sh 94 a],aV [.s b, .s c, .n d]]
def at5:Fn [.R] dB:=λa=>⟨[aV [.ow 94 ai a]],[]⟩
def Ga:Fn [.I, .S, .S, .I, .R] Tb:=λa b c d e=>[cP 6 0,cP 8 1,cP 10 2,cI 12 a,oB 1 [.s b, .s c, .n d],oB 3 [.nl],oB 5 [.own 3],oR 7 94 e]
def Ry(N:aF)(K:Kt R):=gH.l3 N (J Ga (.exit 0) K)
def abj(N:aF):It R:=(lp 3 (al Ga (λK=>Ry N K N) an) ln)
theorem YL(N:aF):cg ahE (abj N (R:=R)) (bX Tryz.f265 3):=lq 3 Ga (Ry N) λK g=>gH.r3 N g (J Ga (.exit 0) K)
def adh:=dX apa at5 gH.c gH.v
theorem aku:b9 Tryz.prog T 265 adh:=fq (E:=ahE) (aG ab1 (aG akB aX)) Tryz.func265 (it:=λN=>abj N) (λN=>(bw (YL N) bD)) gH.b gH.vo

def aql:=en [(194,U5),(120,JK),(264,adg),(265,adh),(266,Vm)] []
def aoK:Fn [.R, .I, .S, .S, .S] As:=λa b c d e=>[aV [.sh 94 a],aV [.n b, .s c, .s d, .s e]]
def atB:Fn [.R, .B] dB:=λa b=>⟨[aV [.ow 94 ai a],aB b],[]⟩
def acY:=dX aoK atB rF.c rF.v
theorem akc:b9 Tryz.prog T 230 acY:=fr (E:=aql) (aG abM (aG Nx (aG akt (aG aku (aG ab1 aX))))) Tryz.func230 rF.b rF.vo

def ahj:=en [(229,NX),(230,acY)] [(3,[1,4,5,6,13,14,15])]
def an1:Fn [.R, .R] As:=λa b=>[aV [.sh 94 a],aH 218 b]
def asS:Fn [.R, .I] dB:=λa b=>⟨[aV [.ow 94 ai a],aI b],[]⟩
def FI:Fn [.R, .I, .R, .I, .I, .R] Tb:=λa b c d e f=>[cH 2 218 a,cP 8 0,cI 10 b,cP 12 1,cH 26 218 c,cI 28 d,cI 30 e,oB 1 [.nl],oB 3 [.own 2],oR 5 94 f]
def H8:Fn [.R, .I, .R, .I, .I, .R] Tb:=λa b c d e f=>[cH 2 218 a,cP 8 0,cI 10 b,cP 12 1,cH 26 218 c,cI 28 d,cI 30 e,oB 1 [.own 2],oB 3 [.own 2],oR 5 94 f]
def QX(N:aF)(K:Kt R):=vK.l3 N (J H8 .ret K) (J FI (.exit 0) K)
def aaZ(N:aF):It R:=(lp 3 (al FI (λK=>QX N K N) an) ln)
theorem Ya(N:aF):cg ahj (aaZ N (R:=R)) (bX Tryz.f170 3):=lq 3 FI (QX N) λK g=>vK.r3 N g (J H8 .ret K) (J FI (.exit 0) K)
def UY:=dX an1 asS vK.c vK.v
theorem abF:b9 Tryz.prog T 170 UY:=fq (E:=ahj) (aG TY (aG akc aX)) Tryz.func170 (it:=λN=>aaZ N) (λN=>(bw (Ya N) bD)) vK.b vK.vo

def E98:=YV T md [(168,acy),(145,NM),(169,acz),(170,UY)] [] [] [(0,1,.own 51),(0,2,.own 9),(0,3,.own 9),(0,4,.own 26),(0,6,.own 75),(0,7,.own 72),(0,9,.own 94),(0,10,.own 3),(0,11,.own 51)]
def A98:Fn [.I, .R, .R, .R, .R, .I, .R, .R, .I, .R, .R, .R, .I, .I] As:=λa b c d e f g h i j k l m o=>[.pt [.n a, .ow 51 ai b, .ow 9 ai c, .ow 9 ai d, .ow 26 ai e, .n f, .ow 75 ai g, .ow 72 ai h, .n i, .ow 94 ai j, .ow 3 ai k, .ow 51 ai l],aI m,aI o]
def k98:Fn [.B, .I, .R, .R, .R, .R, .I, .R, .R, .I, .R, .R, .R] dB:=λa b c d e f g h i j k l m=>⟨[aB a],[[.n b, .ow 51 ai c, .ow 9 ai d, .ow 9 ai e, .ow 26 ai f, .n g, .ow 75 ai h, .ow 72 ai i, .n j, .ow 94 ai k, .ow 3 ai l, .ow 51 ai m]]⟩
def alE:=dX A98 k98 V4.c V4.v
theorem auZ:b9 Tryz.prog T 98 alE:=fr (E:=E98) (aG ajN (aG TL (aG ajO (aG abF aX)))) Tryz.func98 V4.b V4.vo

def E99:=en [(160,C2),(165,NQ),(171,UZ)] []
def A99:Fn [.I, .R, .R, .R, .R, .I, .R, .R, .I, .I] As:=λa b c d e f g h i j=>[aV [.n a, .sh 51 b, .sh 9 c, .sh 9 d, .sh 26 e, .n f, .sh 75 g, .sh 72 h, .n i],aI j]
def k99:Fn [.I, .R, .R, .R, .R, .I, .R, .R, .I, .B] dB:=λa b c d e f g h i j=>⟨[aV [.n a, .ow 51 ai b, .ow 9 ai c, .ow 9 ai d, .ow 26 ai e, .n f, .ow 75 ai g, .ow 72 ai h, .n i],aB j],[]⟩
def alF:=dX A99 k99 V5.c V5.v
theorem au0:b9 Tryz.prog T 99 alF:=fr (E:=E99) (aG EU (aG TP (aG abG aX))) Tryz.func99 V5.b V5.vo

def apY:=en [] []
def an3:Fn [.I, .I] As:=λa b=>[aI a,aI b]
def asU:Fn [.I] dB:=λa=>⟨[aI a],[]⟩
def acA:=dX an3 asU Ay.c Ay.v
theorem ajP:b9 Tryz.prog T 172 acA:=fr (E:=apY) aX Tryz.func172 Ay.b Ay.vo

def apn:=en [(160,C2),(172,acA)] []
def anc:Fn [.I, .R, .R, .R, .R, .I, .R, .R, .I, .I] As:=λa b c d e f g h i j=>[aV [.n a, .sh 51 b, .sh 9 c, .sh 9 d, .sh 26 e, .n f, .sh 75 g, .sh 72 h, .n i],aI j]
def ar4:Fn [.I, .R, .R, .R, .R, .I, .R, .R, .I] dB:=λa b c d e f g h i=>⟨[aV [.n a, .ow 51 ai b, .ow 9 ai c, .ow 9 ai d, .ow 26 ai e, .n f, .ow 75 ai g, .ow 72 ai h, .n i]],[]⟩
def ab_:=dX anc ar4 Dv.c Dv.v
theorem ajr:b9 Tryz.prog T 100 ab_:=fr (E:=apn) (aG EU (aG ajP aX)) Tryz.func100 Dv.b Dv.vo

def ahl:=en [(173,LJ),(173,LK),(176,U0)] [(5,[0,1,5,6])]
def an5:Fn [.R, .I] As:=λa b=>[aO 72 a, .v ak [.fn 176 [[.n b]]]]
def asW:Fn [.R] dB:=λa=>⟨[aO 72 a],[[.nl]]⟩
def FK:Fn [.I, .I, .I, .R] Tb:=λa b c d=>[cA 0 (.own 900000000),cA 2 (.fn 176 [[.n a]]),cI 10 b,cI 12 c,oR 1800000001 72 d]
def QZ(N:aF)(K:Kt R):=wD.l5 N (J FK (.exit 0) K)
def aa1(N:aF):It R:=(lp 5 (al FK (λK=>QZ N K N) an) ln)
theorem Yc(N:aF):cg ahl (aa1 N (R:=R)) (bX Tryz.f175 5):=lq 5 FK (QZ N) λK g=>wD.r5 N g (J FK (.exit 0) K)
def acC:=dX an5 asW wD.c wD.v
theorem ajR:b9 Tryz.prog T 175 acC:=fq (E:=ahl) (aG TQ (aG TR (aG abH aX))) Tryz.func175 (it:=λN=>aa1 N) (λN=>(bw (Yc N) bD)) wD.b wD.vo

def apq:=en [(160,C2),(175,acC)] []
def anf:Fn [.I, .R, .R, .R, .R, .I, .R, .R, .I, .I] As:=λa b c d e f g h i j=>[aV [.n a, .sh 51 b, .sh 9 c, .sh 9 d, .sh 26 e, .n f, .sh 75 g, .sh 72 h, .n i],aI j]
def ar6:Fn [.I, .R, .R, .R, .R, .I, .R, .R, .I] dB:=λa b c d e f g h i=>⟨[aV [.n a, .ow 51 ai b, .ow 9 ai c, .ow 9 ai d, .ow 26 ai e, .n f, .ow 75 ai g, .ow 72 ai h, .n i]],[]⟩
def aca:=dX anf ar6 Dw.c Dw.v
theorem ajs:b9 Tryz.prog T 102 aca:=fr (E:=apq) (aG EU (aG ajR aX)) Tryz.func102 Dw.b Dw.vo

def ahm:=en [(120,JK),(229,NX)] [(5,[1,4,6,17,18,19])]
def an7:Fn [.R, .R] As:=λa b=>[aV [.sh 94 a],aH 3 b]
def asY:Fn [.R, .B] dB:=λa b=>⟨[aV [.ow 94 ai a],aB b],[]⟩
def FL:Fn [.R, .R, .I, .I, .R] Tb:=λa b c d e=>[cH 2 3 a,cP 8 0,cP 12 1,cH 34 94 b,cI 36 c,cI 38 d,oB 1 [.nl],oB 3 [.own 2],oR 5 94 e]
def Q0(N:aF)(K:Kt R):=wE.l5 N (J FL (.exit 0) K)
def aa2(N:aF):It R:=(lp 5 (al FL (λK=>Q0 N K N) an) ln)
theorem Yd(N:aF):cg ahm (aa2 N (R:=R)) (bX Tryz.f177 5):=lq 5 FL (Q0 N) λK g=>wE.r5 N g (J FL (.exit 0) K)
def acD:=dX an7 asY wE.c wE.v
theorem ajS:b9 Tryz.prog T 177 acD:=fq (E:=ahm) (aG Nx (aG TY aX)) Tryz.func177 (it:=λN=>aa2 N) (λN=>(bw (Yd N) bD)) wE.b wE.vo

def apB:=en [(194,U5)] []
def anv:Fn [.R, .S] As:=λa b=>[aV [.sh 94 a],aS b]
def asn:Fn [.S, .B] dB:=λa b=>⟨[aS a,aB b],[]⟩
def UO:=dX anv asn uP.c uP.v
theorem abw:b9 Tryz.prog T 121 UO:=fr (E:=apB) (aG abM aX) Tryz.func121 uP.b uP.vo

def ahr:=en [(82,qs)] [(5,[0,1,4,5,6,7,8])]
def aon:Fn [.S, .I] As:=λa b=>[aS a,aI b]
def ate:Fn [.I, .I, .B] dB:=λa b c=>⟨[aI a,aI b,aB c],[]⟩
def yX:Fn [.S, .I, .I, .I, .B, .I, .I] Tb:=λa b c d e f g=>[cA 0 (.s a),cI 2 b,cI 8 c,cI 10 d,cA 12 (.b e),cI 14 f,cI 16 g]
def Q8(N:aF)(K:Kt R):=gi.l5 N (J yX .ret K) (J yX (.exit 0) K)
def aa7(N:aF):It R:=(lp 5 (al yX (λK=>Q8 N K N) an) ln)
theorem Yl(N:aF):cg ahr (aa7 N (R:=R)) (bX Tryz.f195 5):=lq 5 yX (Q8 N) λK g=>gi.r5 N g (J yX .ret K) (J yX (.exit 0) K)
def NS:=dX aon ate (ct _) gi.v
theorem TT:b9 Tryz.prog T 195 NS:=fh (E:=ahr) (aG qN aX) Tryz.func195 (it:=λN=>aa7 N) (λN=>(bw (Yl N) bD)) gi.b λx f h=>gi.eu _ x.1 x.2.1 f.1.1

def ahb:=en [(195,NS),(82,qs),(196,U6)] [(3,[0,4,5])]
def anw:Fn [.S] As:=λa=>[aS a]
def aso:Fn [.R, .I] dB:=λa b=>⟨[aO 9 a,aI b],[]⟩
def FA:Fn [.S, .I, .R] Tb:=λa b c=>[cA 0 (.s a),cA 8 (.own 0),cI 10 b,oR 1 9 c]
def QN(N:aF)(K:Kt R):=U122.l3 N (J FA (.exit 0) K)
def aaR(N:aF):It R:=(lp 3 (al FA (λK=>QN N K N) an) ln)
theorem X1(N:aF):cg ahb (aaR N (R:=R)) (bX Tryz.f122 3):=lq 3 FA (QN N) λK g=>U122.r3 N g (J FA (.exit 0) K)
def acj:=dX anw aso U122.c U122.v
theorem ajA:b9 Tryz.prog T 122 acj:=fq (E:=ahb) (aG TT (aG qN (aG abN aX))) Tryz.func122 (it:=λN=>aaR N) (λN=>(bw (X1 N) bD)) U122.b U122.vo

def aqa:=en [(195,NS)] []
def aop:Fn [.S, .I] As:=λa b=>[aS a,aI b]
def atg:Fn [.S, .I, .B] dB:=λa b c=>⟨[aS a,aI b,aB c],[]⟩
def acO:=dX aop atg (ct _) s5.v
theorem aj3:b9 Tryz.prog T 197 acO:=fh (E:=aqa) (aG TT aX) Tryz.func197 (it:=λ_=>ln) (λ_=>bD) (λ_=>s5.b) λx f h=>⟨0,s5.eu _ x.1 x.2.1 f.1.1⟩

def apC:=en [(197,acO),(195,NS),(125,JL)] []
def anx:Fn [.S] As:=λa=>[aS a]
def asp:Fn [.S, .I, .I, .S, .B] dB:=λa b c d e=>⟨[aV [.s a, .n b, .n c, .s d],aB e],[]⟩
def ack:=dX anx asp (ct _) vJ.v
theorem ajB:b9 Tryz.prog T 123 ack:=fh (E:=apC) (aG aj3 (aG TT (aG Ny aX))) Tryz.func123 (it:=λ_=>ln) (λ_=>bD) (λ_=>vJ.b) λx f h=>⟨0,vJ.eu _ x.1 f.1.1⟩

def E61:=en [(120,JK),(121,UO),(122,acj),(123,ack),(124,UP)] [(7,[3,27,28,29])]
def A61:Fn [.R] As:=λa=>[aV [.sh 94 a]]
def k61:Fn [.R] dB:=λa=>⟨[aO 51 a],[]⟩
def MF:Fn [.I, .I, .R, .R] Tb:=λa b c d=>[cA 6 (.own 0),cA 54 (.own 1),cI 56 a,cI 58 b,oR 1 51 c,oR 3 9 d]
def aab(N:aF)(K:Kt R):=U61.l7 N (J MF (.exit 0) K)
def ai1(N:aF):It R:=(lp 7 (al MF (λK=>aab N K N) an) ln)
theorem afs(N:aF):cg E61 (ai1 N (R:=R)) (bX Tryz.f61 7):=lq 7 MF (aab N) λK g=>U61.r7 N g (J MF (.exit 0) K)
def alr:=dX A61 k61 U61.c U61.v
theorem auN:b9 Tryz.prog T 61 alr:=fq (E:=E61) (aG Nx (aG abw (aG ajA (aG ajB (aG abx aX))))) Tryz.func61 (it:=λN=>ai1 N) (λN=>(bw (afs N) bD)) U61.b U61.vo

def ahn:=en [(120,JK),(228,Vg),(121,UO)] [(5,[2,4,5,6,17,18,19])]
def an8:Fn [.R, .R] As:=λa b=>[aV [.sh 94 a],aH 51 b]
def asZ:Fn [.R, .B] dB:=λa b=>⟨[aO 218 a,aB b],[]⟩
def yV:Fn [.B, .S, .R, .I, .I, .R] Tb:=λa b c d e f=>[cP 4 0,cA 8 .nl,cA 10 (.b a),cA 12 (.s b),cH 34 51 c,cI 36 d,cI 38 e,oB 1 [.sh 94 f]]
def Q1(N:aF)(K:Kt R):=AB.l5 N (J yV .ret K) (J yV (.exit 0) K)
def aa3(N:aF):It R:=(lp 5 (al yV (λK=>Q1 N K N) an) ln)
theorem Ye(N:aF):cg ahn (aa3 N (R:=R)) (bX Tryz.f178 5):=lq 5 yV (Q1 N) λK g=>AB.r5 N g (J yV .ret K) (J yV (.exit 0) K)
def acE:=dX an8 asZ AB.c AB.v
theorem ajT:b9 Tryz.prog T 178 acE:=fq (E:=ahn) (aG Nx (aG abV (aG abw aX))) Tryz.func178 (it:=λN=>aa3 N) (λN=>(bw (Ye N) bD)) AB.b AB.vo

def E32:=en [(42,afU),(62,Zv),(87,afZ)] [(4,[0,4,5,11,12,13])]
def A32:Fn [.I, .R] As:=λa b=>[aI a,aH 51 b]
def k32:Fn [.I, .R, .R, .R, .R, .I, .R, .R, .I] dB:=λa b c d e f g h i=>⟨[aV [.n a, .ow 51 ai b, .ow 9 ai c, .ow 9 ai d, .ow 26 ai e, .n f, .ow 75 ai g, .ow 72 ai h, .n i]],[]⟩
def My:Fn [.I, .R, .I, .I, .I, .I, .I, .I, .I, .I, .R, .R, .R, .R, .R, .R] Tb:=λa b c d e f g h i j k l m o p q=>[cI 0 a,cP 8 0,cP 10 1,cH 22 51 b,cI 24 c,cI 26 d,oB 1 [.n e, .nl, .nl, .nl, .nl, .n f, .nl, .nl, .n g],oB 3 [.n h, .own 2, .own 3, .own 4, .own 5, .n i, .own 6, .own 7, .n j],oR 5 51 k,oR 7 9 l,oR 9 9 m,oR 11 26 o,oR 13 75 p,oR 15 72 q]
def ZZ(N:aF)(K:Kt R):=P_.l4 N (J My (.exit 0) K)
def aiS(N:aF):It R:=(lp 4 (al My (λK=>ZZ N K N) an) ln)
theorem aff(N:aF):cg E32 (aiS N (R:=R)) (bX Tryz.f32 4):=lq 4 My (ZZ N) λK g=>P_.r4 N g (J My (.exit 0) K)
def ale:=dX A32 k32 P_.c P_.v
theorem auB:b9 Tryz.prog T 32 ale:=fq (E:=E32) (aG akH (aG afA (aG akM aX))) Tryz.func32 (it:=λN=>aiS N) (λN=>(bw (aff N) bD)) P_.b P_.vo

def ag6:=YV T md [(177,acD),(61,alr),(62,Zv),(178,acE),(170,UY),(32,ale)] [(3,[0,4,26,27,28])] [] [(0,1,.own 51),(0,2,.own 9),(0,3,.own 9),(0,4,.own 26),(0,6,.own 75),(0,7,.own 72),(0,9,.own 94),(0,10,.own 3),(0,11,.own 51)]
def ang:Fn [.I, .R, .R, .R, .R, .I, .R, .R, .I, .R, .R, .R, .R] As:=λa b c d e f g h i j k l m=>[.pt [.n a, .ow 51 ai b, .ow 9 ai c, .ow 9 ai d, .ow 26 ai e, .n f, .ow 75 ai g, .ow 72 ai h, .n i, .ow 94 ai j, .ow 3 ai k, .ow 51 ai l],aH 3 m]
def ar7:Fn [.I, .R, .R, .R, .R, .I, .R, .R, .I, .R, .R, .R] dB:=λa b c d e f g h i j k l=>⟨[],[[.n a, .ow 51 ai b, .ow 9 ai c, .ow 9 ai d, .ow 26 ai e, .n f, .ow 75 ai g, .ow 72 ai h, .n i, .ow 94 ai j, .ow 3 ai k, .ow 51 ai l]]⟩
def Fx:Fn [.I, .I, .I, .I, .I, .R, .R, .R, .R, .R, .R, .R, .R, .R, .R, .R] Tb:=λa b c d e f g h i j k l m o p q=>[cP 0 900000900,cA 8 (.own 1),cA 52 (.own 2),cI 54 a,cI 56 b,oB 1800001801 [.n c, .own 900000001, .own 900000002, .own 900000003, .own 900000004, .n d, .own 900000006, .own 900000007, .n e, .own 9, .own 900000010, .own 900000011],oR 3 51 f,oR 5 51 g,oR 1800000003 51 h,oR 1800000005 9 i,oR 1800000007 9 j,oR 1800000009 26 k,oR 1800000013 75 l,oR 1800000015 72 m,oR 19 94 o,oR 1800000021 3 p,oR 1800000023 51 q]
def QG(N:aF)(K:Kt R):=Av.l3 N (J Fx (.exit 0) K)
def aaL(N:aF):It R:=(lp 3 (al Fx (λK=>QG N K N) an) ln)
theorem XU(N:aF):cg ag6 (aaL N (R:=R)) (bX Tryz.f103 3):=lq 3 Fx (QG N) λK g=>Av.r3 N g (J Fx (.exit 0) K)
def acb:=dX ang ar7 Av.c Av.v
theorem ajt:b9 Tryz.prog T 103 acb:=fq (E:=ag6) (aG ajS (aG auN (aG afA (aG ajT (aG abF (aG auB aX)))))) Tryz.func103 (it:=λN=>aaL N) (λN=>(bw (XU N) bD)) Av.b Av.vo

def apr:=en [] []
def anh:Fn [.B] As:=λa=>[aB a]
def ar8:Fn [.I] dB:=λa=>⟨[aI a],[]⟩
def acd:=dX anh ar8 (ct _) Gg.v
theorem aju:b9 Tryz.prog T 104 acd:=ft (E:=apr) aX Tryz.func104 Gg.b λ(a0,_)=>Gg.eu _ a0

def E43:=YV T md [(96,alC),(97,alD),(98,alE),(99,alF),(100,ab_),(101,UL),(102,aca),(103,acb),(104,acd)] [] [] [(0,1,.own 51),(0,2,.own 9),(0,3,.own 9),(0,4,.own 26),(0,6,.own 75),(0,7,.own 72),(0,9,.own 94),(0,10,.own 3),(0,11,.own 51)]
def A43:Fn [.I, .R, .R, .R, .R, .I, .R, .R, .I, .R, .R, .R, .I, .I, .S, .I, .R] As:=λa b c d e f g h i j k l m o p q r=>[.pt [.n a, .ow 51 ai b, .ow 9 ai c, .ow 9 ai d, .ow 26 ai e, .n f, .ow 75 ai g, .ow 72 ai h, .n i, .ow 94 ai j, .ow 3 ai k, .ow 51 ai l],aV [.n m, .n o, .s p, .n q, .sh 3 r]]
def k43:Fn [.I, .I, .R, .R, .R, .R, .I, .R, .R, .I, .R, .R, .R] dB:=λa b c d e f g h i j k l m=>⟨[aI a],[[.n b, .ow 51 ai c, .ow 9 ai d, .ow 9 ai e, .ow 26 ai f, .n g, .ow 75 ai h, .ow 72 ai i, .n j, .ow 94 ai k, .ow 3 ai l, .ow 51 ai m]]⟩
def aln:=dX A43 k43 VZ.c VZ.v
theorem auJ:b9 Tryz.prog T 43 aln:=fr (E:=E43) (aG auX (aG auY (aG auZ (aG au0 (aG ajr (aG abt (aG ajs (aG ajt (aG aju aX))))))))) Tryz.func43 VZ.b VZ.vo

def E11:=en [(31,ald),(42,afU),(43,aln)] [(4,[0,2,3,14,15,16]),(11,[2,6,27,28,29,1000000006009094,1000000006010003,1000000006011051])]
def A11:Fn [.R] As:=λa=>[aH 29 a]
def k11:Fn [.I, .R, .R, .R, .R, .I, .R, .R, .I, .R, .R, .R, .B] dB:=λa b c d e f g h i j k l m=>⟨[aV [.n a, .ow 51 ai b, .ow 9 ai c, .ow 9 ai d, .ow 26 ai e, .n f, .ow 75 ai g, .ow 72 ai h, .n i, .ow 94 ai j, .ow 3 ai k, .ow 51 ai l],aB m],[]⟩
def Eg:Fn [.R, .B, .R, .I, .I, .I, .I, .I] Tb:=λa b c d e f g h=>[cH 0 29 a,cP 4 0,cA 6 (.b b),cH 28 29 c,cI 30 d,cI 32 e,oB 1 [.n f, .nl, .nl, .nl, .nl, .n g, .nl, .nl, .n h, .nl, .nl, .nl]]
def Fy:Fn [.R, .I, .I, .I, .I, .I, .I, .I, .I, .R, .R, .R, .R, .R, .R, .R, .R, .R] Tb:=λa b c d e f g h i j k l m o p q r s=>[cP 4 0,cP 12 1,cH 54 29 a,cI 56 b,cI 58 c,oB 1 [.n d, .nl, .nl, .nl, .nl, .n e, .nl, .nl, .n f, .nl, .nl, .nl],oB 3 [.n g, .own 2, .own 3, .own 4, .own 5, .n h, .own 6, .own 7, .n i, .own 8, .own 9, .own 10],oR 5 51 j,oR 7 9 k,oR 9 9 l,oR 11 26 m,oR 13 75 o,oR 15 72 p,oR 17 94 q,oR 19 3 r,oR 21 51 s]
def ZX(N:aF)(K:Kt R):=MH.l4 N (J Eg .ret K) (J Eg (.exit 0) K)
def QL(N:aF)(K:Kt R):=MH.Pc N (J Fy (.exit 2) K)
def ae3(N:aF):It R:=(lp 4 (al Eg (λK=>ZX N K N) an) (lp 11 (al Fy (λK=>QL N K N) an) ln))
theorem afd(N:aF):cg E11 (ae3 N (R:=R)) (bX Tryz.f11 4):=lq 4 Eg (ZX N) λK g=>MH.r4 N g (J Eg .ret K) (J Eg (.exit 0) K)
theorem XZ(N:aF):cg E11 (ae3 N (R:=R)) (bX Tryz.f11 11):=lq 11 Fy (QL N) λK g=>MH.Ag N g (J Fy (.exit 2) K)
def alb:=dX A11 k11 MH.c MH.v
theorem auv:b9 Tryz.prog T 11 alb:=fq (E:=E11) (aG auA (aG akH (aG auJ aX))) Tryz.func11 (it:=λN=>ae3 N) (λN=>(bw (afd N) (bw (XZ N) bD))) MH.b MH.vo

def aqg:=en [] []
def aoD:Fn [.S, .S] As:=λa b=>[aS a,aS b]
def atu:Fn [.B] dB:=λa=>⟨[aB a],[]⟩
def acU:=dX aoD atu DE.c DE.v
theorem aj9:b9 Tryz.prog T 222 acU:=fr (E:=aqg) aX Tryz.func222 DE.b DE.vo

def apN:=en [(222,acU)] []
def anM:Fn [.S, .S] As:=λa b=>[aS a,aS b]
def asD:Fn [.B] dB:=λa=>⟨[aB a],[]⟩
def acn:=dX anM asD Dy.c Dy.v
theorem ajD:b9 Tryz.prog T 154 acn:=fr (E:=apN) (aG aj9 aX) Tryz.func154 Dy.b Dy.vo

def E90:=en [(154,acn)] []
def A90:Fn [.I, .R, .R, .R, .R, .I, .R, .R, .I, .I, .S, .I, .I, .I, .S, .I] As:=λa b c d e f g h i j k l m o p q=>[aV [.n a, .sh 51 b, .sh 9 c, .sh 9 d, .sh 26 e, .n f, .sh 75 g, .sh 72 h, .n i],aV [.n j, .s k, .n l, .n m, .n o, .s p, .n q]]
def k90:Fn [.B] dB:=λa=>⟨[aB a],[]⟩
def aly:=dX A90 k90 V1.c V1.v
theorem auT:b9 Tryz.prog T 90 aly:=fr (E:=E90) (aG ajD aX) Tryz.func90 V1.b V1.vo

def E91:=en [(155,Hq),(155,Hr),(155,Hs),(89,af1)] []
def A91:Fn [.R, .I, .S, .I, .I, .I, .S, .I] As:=λa b c d e f g h=>[aH 51 a, .v ak [.fn 89 [[.n b, .s c, .n d, .n e, .n f, .s g, .n h]]]]
def k91:Fn [.B] dB:=λa=>⟨[aB a],[]⟩
def alz:=dX A91 k91 V2.c V2.v
theorem auU:b9 Tryz.prog T 91 alz:=fr (E:=E91) (aG Lh (aG Li (aG Lj (aG akO aX)))) Tryz.func91 V2.b V2.vo

def E34:=en [(90,aly),(91,alz)] [(2,[1,2,9,10,11])]
def A34:Fn [.I, .R, .R, .R, .R, .I, .R, .R, .I, .R, .R, .R] As:=λa b c d e f g h i j k l=>[aV [.n a, .sh 51 b, .sh 9 c, .sh 9 d, .sh 26 e, .n f, .sh 75 g, .sh 72 h, .n i, .sh 94 j, .sh 3 k, .sh 51 l]]
def k34:Fn [.B] dB:=λa=>⟨[aB a],[]⟩
def Eh:Fn [.B, .R, .I, .I, .I, .R, .R, .R, .R, .I, .R, .R, .I, .R, .R, .R] Tb:=λa b c d e f g h i j k l m o p q=>[cP 2 0,cA 4 (.b a),cH 18 72 b,cI 20 c,cI 22 d,oB 1 [.n e, .sh 51 f, .sh 9 g, .sh 9 h, .sh 26 i, .n j, .sh 75 k, .sh 72 l, .n m, .sh 94 o, .sh 3 p, .sh 51 q]]
def Z1(N:aF)(K:Kt R):=Qa.l2 N (J Eh .ret K) (J Eh (.exit 0) K)
def aiU(N:aF):It R:=(lp 2 (al Eh (λK=>Z1 N K N) an) ln)
theorem afh(N:aF):cg E34 (aiU N (R:=R)) (bX Tryz.f34 2):=lq 2 Eh (Z1 N) λK g=>Qa.r2 N g (J Eh .ret K) (J Eh (.exit 0) K)
def alg:=dX A34 k34 Qa.c Qa.v
theorem auD:b9 Tryz.prog T 34 alg:=fq (E:=E34) (aG auT (aG auU aX)) Tryz.func34 (it:=λN=>aiU N) (λN=>(bw (afh N) bD)) Qa.b Qa.vo

def ahd:=en [] [(2,[0,3,4,7,8])]
def anB:Fn [.R, .S, .I, .I, .S] As:=λa b c d e=>[aH 51 a,aV [.s b, .n c, .n d, .s e]]
def ass:Fn [.I] dB:=λa=>⟨[aI a],[]⟩
def yS:Fn [.R, .I, .I, .I, .S, .I, .I, .S] Tb:=λa b c d e f g h=>[cH 0 51 a,cP 6 0,cI 8 b,cI 14 c,cI 16 d,oB 1 [.s e, .n f, .n g, .s h]]
def QP(N:aF)(K:Kt R):=Aw.l2 N (J yS .ret K) (J yS (.exit 0) K)
def aaT(N:aF):It R:=(lp 2 (al yS (λK=>QP N K N) an) ln)
theorem X3(N:aF):cg ahd (aaT N (R:=R)) (bX Tryz.f126 2):=lq 2 yS (QP N) λK g=>Aw.r2 N g (J yS .ret K) (J yS (.exit 0) K)
def acm:=dX anB ass Aw.c Aw.v
theorem ajC:b9 Tryz.prog T 126 acm:=fq (E:=ahd) aX Tryz.func126 (it:=λN=>aaT N) (λN=>(bw (X3 N) bD)) Aw.b Aw.vo

def E63:=en [(126,acm)] []
def A63:Fn [.R, .S, .I, .I, .S] As:=λa b c d e=>[aH 51 a,aV [.s b, .n c, .n d, .s e]]
def k63:Fn [.B] dB:=λa=>⟨[aB a],[]⟩
def als:=dX A63 k63 V0.c V0.v
theorem auO:b9 Tryz.prog T 63 als:=fr (E:=E63) (aG ajC aX) Tryz.func63 V0.b V0.vo

def E36:=en [(63,als)] [(2,[1,2,7,8,9])]
def A36:Fn [.I, .R, .R, .R, .R, .I, .R, .R, .I, .R, .R, .R] As:=λa b c d e f g h i j k l=>[aV [.n a, .sh 51 b, .sh 9 c, .sh 9 d, .sh 26 e, .n f, .sh 75 g, .sh 72 h, .n i, .sh 94 j, .sh 3 k, .sh 51 l]]
def k36:Fn [.B] dB:=λa=>⟨[aB a],[]⟩
def Ej:Fn [.B, .R, .I, .I, .I, .R, .R, .R, .R, .I, .R, .R, .I, .R, .R, .R] Tb:=λa b c d e f g h i j k l m o p q=>[cP 2 0,cA 4 (.b a),cH 14 51 b,cI 16 c,cI 18 d,oB 1 [.n e, .sh 51 f, .sh 9 g, .sh 9 h, .sh 26 i, .n j, .sh 75 k, .sh 72 l, .n m, .sh 94 o, .sh 3 p, .sh 51 q]]
def Z3(N:aF)(K:Kt R):=Qb.l2 N (J Ej .ret K) (J Ej (.exit 0) K)
def aiW(N:aF):It R:=(lp 2 (al Ej (λK=>Z3 N K N) an) ln)
theorem afj(N:aF):cg E36 (aiW N (R:=R)) (bX Tryz.f36 2):=lq 2 Ej (Z3 N) λK g=>Qb.r2 N g (J Ej .ret K) (J Ej (.exit 0) K)
def alh:=dX A36 k36 Qb.c Qb.v
theorem auE:b9 Tryz.prog T 36 alh:=fq (E:=E36) (aG auO aX) Tryz.func36 (it:=λN=>aiW N) (λN=>(bw (afj N) bD)) Qb.b Qb.vo

def E37:=en [] []
def A37:Fn [.S, .S] As:=λa b=>[aS a,aS b]
def k37:Fn [.B] dB:=λa=>⟨[aB a],[]⟩
def ali:=dX A37 k37 VY.c VY.v
theorem auF:b9 Tryz.prog T 37 ali:=fr (E:=E37) aX Tryz.func37 VY.b VY.vo

def E7:=en [(8,sp8),(9,sp9),(11,alb),(34,alg),(35,afT),(36,alh),(37,ali)] [(8,[2,4,6])]
def A7:Fn [.R] As:=λa=>[aH 5 a]
def k7:Fn [.B] dB:=λa=>⟨[aB a],[]⟩
def Ou:Fn [.B, .I, .I, .I, .I, .R, .R, .R, .R, .R, .R, .R, .R, .R] Tb:=λa b c d e f g h i j k l m o=>[cA 4 (.b a),cP 8 0,cI 12 b,oB 1 [.n c, .own 1, .own 2, .own 3, .own 4, .n d, .own 5, .own 6, .n e, .own 7, .own 8, .own 9],oR 3 51 f,oR 5 9 g,oR 7 9 h,oR 9 26 i,oR 11 75 j,oR 13 72 k,oR 15 94 l,oR 17 3 m,oR 19 51 o]
def ahT(N:aF)(K:Kt R):=U7.l8 N (J Ou .ret K) (J Ou (.exit 0) K)
def it7(N:aF):It R:=(lp 8 (al Ou (λK=>ahT N K N) an) ln)
theorem ajh(N:aF):cg E7 (it7 N (R:=R)) (bX Tryz.f7 8):=lq 8 Ou (ahT N) λK g=>U7.r8 N g (J Ou .ret K) (J Ou (.exit 0) K)
def sp7:=dX A7 k7 U7.c U7.v
theorem ok7:b9 Tryz.prog T 7 sp7:=fq (E:=E7) (aG ok8 (aG ok9 (aG auv (aG auD (aG akG (aG auE (aG auF aX))))))) Tryz.func7 (it:=λN=>it7 N) (λN=>(bw (ajh N) bD)) U7.b U7.vo

def E56:=en [(50,tQ)] []
def A56:Fn [.I, .I, .S, .I, .R] As:=λa b c d e=>[aV [.n a, .n b, .s c, .n d, .sh 3 e]]
def k56:Fn [.B] dB:=λa=>⟨[aB a],[]⟩
def aAw:=dX A56 k56 (ct _) U56.v

def E44:=en [] [(2,[0,3,4,5])]
def A44:Fn [.R, .S, .I, .I, .S] As:=λa b c d e=>[aH 51 a,aV [.s b, .n c, .n d, .s e]]
def k44:Fn [.B] dB:=λa=>⟨[aB a],[]⟩
def RP:Fn [.R, .B, .I, .S, .I, .I, .S] Tb:=λa b c d e f g=>[cH 0 51 a,cP 6 0,cA 8 (.b b),cI 10 c,oB 1 [.s d, .n e, .n f, .s g]]
def ahR(N:aF)(K:Kt R):=Gk.l2 N (J RP .ret K) (J RP (.exit 0) K)
def azl(N:aF):It R:=(lp 2 (al RP (λK=>ahR N K N) an) ln)
def au8:=dX A44 k44 Gk.c Gk.v

def E48:=en [(44,au8)] [(2,[1,2,3])]
def A48:Fn [.I, .R, .R, .R, .R, .I, .R, .R, .I, .R, .R, .R] As:=λa b c d e f g h i j k l=>[aV [.n a, .sh 51 b, .sh 9 c, .sh 9 d, .sh 26 e, .n f, .sh 75 g, .sh 72 h, .n i, .sh 94 j, .sh 3 k, .sh 51 l]]
def k48:Fn [.B] dB:=λa=>⟨[aB a],[]⟩
def RQ:Fn [.B, .I, .I, .R, .R, .R, .R, .I, .R, .R, .I, .R, .R, .R] Tb:=λa b c d e f g h i j k l m o=>[cP 2 0,cA 4 (.b a),cI 6 b,oB 1 [.n c, .sh 51 d, .sh 9 e, .sh 9 f, .sh 26 g, .n h, .sh 75 i, .sh 72 j, .n k, .sh 94 l, .sh 3 m, .sh 51 o]]
def ahS(N:aF)(K:Kt R):=H7.l2 N (J RQ .ret K) (J RQ (.exit 0) K)
def azm(N:aF):It R:=(lp 2 (al RQ (λK=>ahS N K N) an) ln)
def aAv:=dX A48 k48 H7.c H7.v

end Go.FG.Se
