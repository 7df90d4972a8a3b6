/- Functions of the program: the evaluation of each, and that a call of it does what is told. No condition. -/
import Derived.Test.YtilcgpcemjeaeaaGreatTab
import Derived.Test.YtilcgpcemjeaeaaGreatPLivesb
import Derived.Test.YtilcgpcemjeaeaaGreatIns
set_option linter.unusedVariables false
set_option linter.unusedSimpArgs false
set_option maxRecDepth 100000
open Bool renaming true->ai,false->ak
open Function renaming comp_def->dN
open Go.Extern.SlicesOverlaps renaming overlaps->fG
open Go.Shelf renaming Ren->PO
open Nat renaming beq->bD
open _root_ renaming Nat->aE,List->aC,Option->az,Bool->aW
namespace Go.FG.Se
open Go.Proofs
variable {R:Type}
def E8:=en [] []
def A8:Fn [.R] As:=λa=>[aH 5 a]
def k8:Fn [.B] dz:=λa=>⟨[aB a],[]⟩
def sp8:=dY A8 k8 (ct _) U8.v
theorem ok8:b7 Tryz.prog T 8 sp8:=ft (E:=E8) aX Tryz.func8 U8.b λ(a0,_)=>U8.eh _ a0

def E39:=en [] [(3,[0,3,4])]
def A39:Fn [.R] As:=λa=>[aH 5 a]
def k39:Fn [.R, .I, .I] dz:=λa b c=>⟨[.pt [.sh 5 a, .n b, .n c]],[]⟩
def Mu:Fn [.R, .I, .I] Tb:=λa b c=>[cH 0 5 a,cI 6 b,cI 8 c]
def ZP(N:aE)(K:Kt R):=Kc.l3 N (J Mu (.exit 0) K)
def ai7(N:aE):It R:=(lp 3 (al Mu (λK=>ZP N K N) an) ln)
theorem afh(N:aE):b8 E39 (ai7 N (R:=R)) (bU Tryz.f39 3):=lq 3 Mu (ZP N) λK g=>Kc.r3 N g (J Mu (.exit 0) K)
def afV:=dY A39 k39 Kc.c Kc.v
theorem akS:b7 Tryz.prog T 39 afV:=fq (E:=E39) aX Tryz.func39 (it:=λN=>ai7 N) (λN=>(bk (afh N) bC)) Kc.b Kc.vo

def V7:=en [] [(3,[0,1,2])]
def aoo:Fn [] As:=[]
def atj:Fn [.R, .I] dz:=λa b=>⟨[aV [.ow 26 ai a, .n b]],[]⟩
def qW:Fn [.I, .I, .I] Tb:=λa b c=>[cP 0 0,cP 2 1,cI 4 a,oB 1 [.nl, .n b],oB 3 [.nl, .n c]]
def oq:Fn [.I, .I, .I, .R] Tb:=λa b c d=>[cP 0 0,cP 2 1,cI 4 a,oB 1 [.nl, .n b],oB 3 [.own 2, .n c],oR 5 26 d]
def QR(N:aE)(K:Kt R):=Gb.l3 N (J qW (.exit 0) K) (J oq (.exit 0) K)
def L9(N:aE)(K:Kt R):=Gb.sE N (J qW (.exit 0) K) (J oq (.exit 0) K)
def Nc(N:aE):It R:=(lp 3 (al qW (λK=>QR N K N) (al oq (λK=>L9 N K N) an)) ln)
theorem NY(N:aE)(K:Kt R):Wd V7 (Nc N) (bU Tryz.f184 3) 3 K oq (L9 N K):=lw (λg=>Gb.zw N (cmp _ qW (g∘fO)) (cmp _ oq (g∘fO)) (J qW (.exit 0) K) (J oq (.exit 0) K)) λm i=>by simp only[dN,wf i];rfl
theorem af9(N:aE)(K:Kt R):Wd V7 (Nc N) (bU Tryz.f184 3) 3 K qW (QR N K):=lw (λg=>Gb.r3 N (cmp _ qW (g∘fO)) (cmp _ oq (g∘fO)) (J qW (.exit 0) K) (J oq (.exit 0) K)) λm i=>by simp only[dN,wf i,wf (NY N K m)];rfl
theorem XY(N:aE):b8 V7 (Nc N (R:=R)) (bU Tryz.f184 3):=lm 3 (ga qW (af9 N) (ga oq (NY N) oE))
def acr:=dY aoo atj Gb.c Gb.v
theorem aj4:b7 Tryz.prog T 184 acr:=fq (E:=V7) aX Tryz.func184 (it:=λN=>Nc N) (λN=>(bk (XY N) bC)) Gb.b Gb.vo

def apK:=en [(184,acr)] []
def anC:Fn [] As:=[]
def asx:Fn [.R, .R, .R, .I] dz:=λa b c d=>⟨[aV [.ow 9 ai a, .ow 9 ai b, .ow 26 ai c, .n d]],[]⟩
def ab2:=dY anC asx (ct _) Wu.v
theorem ajF:b7 Tryz.prog T 115 ab2:=ft (E:=apK) (aD aj4 aX) Tryz.func115 Wu.b λ_=>Wu.eh _

def E57:=en [(115,ab2)] []
def A57:Fn [] As:=[]
def k57:Fn [.I, .R, .R, .R, .R, .I, .R, .R, .I] dz:=λa b c d e f g h i=>⟨[aV [.n a, .ow 51 ai b, .ow 9 ai c, .ow 9 ai d, .ow 26 ai e, .n f, .ow 75 ai g, .ow 72 ai h, .n i]],[]⟩
def Za:=dY A57 k57 (ct _) U57.v
theorem afx:b7 Tryz.prog T 57 Za:=ft (E:=E57) (aD ajF aX) Tryz.func57 U57.b λ_=>U57.eh _

def E40:=en [] []
def A40:Fn [.R, .I, .I] As:=λa b c=>[.pt [.sh 5 a, .n b, .n c]]
def k40:Fn [.I, .R, .I, .I] dz:=λa b c d=>⟨[aI a],[[.sh 5 b, .n c, .n d]]⟩
def afW:=dY A40 k40 dm.c dm.v
theorem akT:b7 Tryz.prog T 40 afW:=fr (E:=E40) aX Tryz.func40 dm.b dm.vo

def E41:=en [(40,afW)] []
def A41:Fn [.R, .I, .I, .I] As:=λa b c d=>[.pt [.sh 5 a, .n b, .n c],aI d]
def k41:Fn [.I, .R, .I, .I] dz:=λa b c d=>⟨[aI a],[[.sh 5 b, .n c, .n d]]⟩
def Hb:=dY A41 k41 kP.c kP.v
theorem Jb:b7 Tryz.prog T 41 Hb:=fr (E:=E41) (aD akT aX) Tryz.func41 kP.b kP.vo

def E80:=en [(41,Hb)] []
def A80:Fn [.R, .I, .I, .R] As:=λa b c d=>[.pt [.sh 5 a, .n b, .n c],aO 3 d]
def k80:Fn [.I, .R, .I, .I, .R] dz:=λa b c d e=>⟨[aI a],[[.sh 5 b, .n c, .n d],[.kp e]]⟩
def Vb:=dY A80 k80 sC.c sC.v
theorem YJ:b7 Tryz.prog T 80 Vb:=fr (E:=E80) (aD Jb aX) Tryz.func80 sC.b sC.vo

def apT:=en [(41,Hb)] []
def anO:Fn [.R, .I, .I, .R] As:=λa b c d=>[.pt [.sh 5 a, .n b, .n c],aO 9 d]
def asJ:Fn [.S, .R, .I, .I, .R] dz:=λa b c d e=>⟨[aS a],[[.sh 5 b, .n c, .n d],[.kp e]]⟩
def ND:=dY anO asJ nT.c nT.v
theorem Ts:b7 Tryz.prog T 143 ND:=fr (E:=apT) (aD Jb aX) Tryz.func143 nT.b nT.vo

def ap2:=en [(143,ND)] []
def an1:Fn [.R, .I, .I] As:=λa b c=>[.pt [.sh 5 a, .n b, .n c]]
def asW:Fn [.S, .R, .I, .I] dz:=λa b c d=>⟨[aS a],[[.sh 5 b, .n c, .n d]]⟩
def UG:=dY an1 asW rk.c rk.v
theorem abo:b7 Tryz.prog T 158 UG:=fr (E:=ap2) (aD Ts aX) Tryz.func158 rk.b rk.vo

def E94:=en [(41,Hb)] []
def A94:Fn [.R, .I, .I, .I] As:=λa b c d=>[.pt [.sh 5 a, .n b, .n c],aI d]
def k94:Fn [.B, .R, .I, .I] dz:=λa b c d=>⟨[aB a],[[.sh 5 b, .n c, .n d]]⟩
def af5:=dY A94 k94 Ht.c Ht.v
theorem ak2:b7 Tryz.prog T 94 af5:=fr (E:=E94) (aD Jb aX) Tryz.func94 Ht.b Ht.vo

def E93:=en [(80,Vb),(41,Hb),(158,UG),(94,af5),(143,ND)] [(4,[0,1,3,4,5,6,7])]
def A93:Fn [.R, .I, .I, .I, .R, .R, .R, .R, .I, .R, .R, .I, .R, .R, .R] As:=λa b c d e f g h i j k l m o p=>[.pt [.sh 5 a, .n b, .n c],aV [.n d, .ow 51 ai e, .ow 9 ai f, .ow 9 ai g, .ow 26 ai h, .n i, .ow 75 ai j, .ow 72 ai k, .n l, .ow 94 ai m, .ow 3 ai o, .ow 51 ai p]]
def k93:Fn [.I, .I, .S, .I, .R, .R, .I, .I, .R, .R, .R, .R, .R, .R, .R, .R, .R] dz:=λa b c d e f g h i j k l m o p q r=>⟨[aV [.n a, .n b, .s c, .n d, .ow 3 ai e]],[[.sh 5 f, .n g, .n h],[.nl, .kp i, .kp j, .kp k, .kp l, .nl, .kp m, .kp o, .nl, .kp p, .kp q, .kp r]]⟩
def Mz:Fn [.I, .I, .I, .I, .R, .I, .I, .R, .R, .R, .R, .R, .R, .R, .R, .R, .I, .I, .I, .I, .I, .S, .I, .I, .I, .S, .I, .R] Tb:=λa b c d e f g h i j k l m o p q r s t u v w x y z aa ab ac=>[cP 0 900000900,cV 2 [.n a, .own 900001001, .own 900001002, .own 900001003, .own 900001004, .n b, .own 900001006, .own 900001007, .n c, .own 900001009, .own 900001010, .own 900001011],cP 6 10,cP 8 11,cP 10 12,cA 12 (.own 13),cI 14 d,oB 1800001801 [.sh 5 e, .n f, .n g],oR 1800002003 51 h,oR 1800002005 9 i,oR 1800002007 9 j,oR 1800002009 26 k,oR 1800002013 75 l,oR 1800002015 72 m,oR 1800002019 94 o,oR 1800002021 3 p,oR 1800002023 51 q,oB 21 [.n r, .own 900001001, .own 900001002, .own 900001003, .own 900001004, .n s, .own 900001006, .own 900001007, .n t, .own 900001009, .own 900001010, .own 900001011],oB 23 [.n u, .n v, .s w, .n x, .nl],oB 25 [.n y, .n z, .s aa, .n ab, .nl],oR 27 3 ac]
def Z0(N:aE)(K:Kt R):=Ke.l4 N (J Mz (.exit 0) K)
def ajd(N:aE):It R:=(lp 4 (al Mz (λK=>Z0 N K N) an) ln)
theorem afs(N:aE):b8 E93 (ajd N (R:=R)) (bU Tryz.f93 4):=lq 4 Mz (Z0 N) λK g=>Ke.r4 N g (J Mz (.exit 0) K)
def alI:=dY A93 k93 Ke.c Ke.v
theorem au7:b7 Tryz.prog T 93 alI:=fq (E:=E93) (aD YJ (aD Jb (aD abo (aD ak2 (aD Ts aX))))) Tryz.func93 (it:=λN=>ajd N) (λN=>(bk (afs N) bC)) Ke.b Ke.vo

def Wb:=en [] [(3,[1,2,3,4])]
def ao_:Fn [.R, .I] As:=λa b=>[aV [.sh 26 a, .n b]]
def at8:Fn [.R, .I] dz:=λa b=>⟨[aV [.ow 26 ai a, .n b]],[]⟩
def q_:Fn [.I, .R, .I, .I, .I] Tb:=λa b c d e=>[cP 2 0,cP 4 1,cP 6 2,cI 8 a,oB 1 [.sh 26 b, .n c],oB 3 [.nl, .n d],oB 5 [.nl, .n e]]
def ox:Fn [.I, .R, .I, .I, .I, .R] Tb:=λa b c d e f=>[cP 2 0,cP 4 1,cP 6 2,cI 8 a,oB 1 [.sh 26 b, .n c],oB 3 [.nl, .n d],oB 5 [.own 3, .n e],oR 7 26 f]
def Rj(N:aE)(K:Kt R):=nU.l3 N (J q_ (.exit 0) K) (J ox (.exit 0) K)
def Mg(N:aE)(K:Kt R):=nU.sE N (J q_ (.exit 0) K) (J ox (.exit 0) K)
def Ni(N:aE):It R:=(lp 3 (al q_ (λK=>Rj N K N) (al ox (λK=>Mg N K N) an)) ln)
theorem N2(N:aE)(K:Kt R):Wd Wb (Ni N) (bU Tryz.f244 3) 3 K ox (Mg N K):=lw (λg=>nU.zw N (cmp _ q_ (g∘fO)) (cmp _ ox (g∘fO)) (J q_ (.exit 0) K) (J ox (.exit 0) K)) λm i=>by simp only[dN,wf i];rfl
theorem agd(N:aE)(K:Kt R):Wd Wb (Ni N) (bU Tryz.f244 3) 3 K q_ (Rj N K):=lw (λg=>nU.r3 N (cmp _ q_ (g∘fO)) (cmp _ ox (g∘fO)) (J q_ (.exit 0) K) (J ox (.exit 0) K)) λm i=>by simp only[dN,wf i,wf (N2 N K m)];rfl
theorem Yp(N:aE):b8 Wb (Ni N (R:=R)) (bU Tryz.f244 3):=lm 3 (ga q_ (agd N) (ga ox (N2 N) oE))
def NU:=dY ao_ at8 nU.c nU.v
theorem TP:b7 Tryz.prog T 244 NU:=fq (E:=Wb) aX Tryz.func244 (it:=λN=>Ni N) (λN=>(bk (Yp N) bC)) nU.b nU.vo

def aql:=en [(244,NU)] []
def aox:Fn [.R, .R, .R, .I] As:=λa b c d=>[aV [.sh 9 a, .sh 9 b, .sh 26 c, .n d]]
def ats:Fn [.R, .R, .R, .I] dz:=λa b c d=>⟨[aV [.ow 9 ai a, .ow 9 ai b, .ow 26 ai c, .n d]],[]⟩
def UO:=dY aox ats gd.c gd.v
theorem abx:b7 Tryz.prog T 193 UO:=fr (E:=aql) (aD TP aX) Tryz.func193 gd.b gd.vo

def apN:=en [(193,UO)] []
def anE:Fn [.I, .R, .R, .R, .R, .I, .R, .R, .I] As:=λa b c d e f g h i=>[aV [.n a, .sh 51 b, .sh 9 c, .sh 9 d, .sh 26 e, .n f, .sh 75 g, .sh 72 h, .n i]]
def asz:Fn [.I, .R, .R, .R, .R, .I, .R, .R, .I] dz:=λa b c d e f g h i=>⟨[aV [.n a, .ow 51 ai b, .ow 9 ai c, .ow 9 ai d, .ow 26 ai e, .n f, .ow 75 ai g, .ow 72 ai h, .n i]],[]⟩
def Aa:=dY anE asz fI.c fI.v
theorem Cr:b7 Tryz.prog T 117 Aa:=fr (E:=apN) (aD abx aX) Tryz.func117 fI.b fI.vo

def E50:=en [] []
def A50:Fn [.I, .I, .I] As:=λa b c=>[aI a,aI b,aI c]
def k50:Fn [.B] dz:=λa=>⟨[aB a],[]⟩
def tK:=dY A50 k50 (ct _) kj.v
theorem uZ:b7 Tryz.prog T 50 tK:=ft (E:=E50) aX Tryz.func50 kj.b λ(a0,a1,a2,_)=>kj.eh _ a0 a1 a2

def apE:=en [(50,tK)] []
def anu:Fn [.S] As:=λa=>[aS a]
def asp:Fn [.B] dz:=λa=>⟨[aB a],[]⟩
def CP:=dY anu asp (ct _) sQ.v
theorem EH:b7 Tryz.prog T 107 CP:=ft (E:=apE) (aD uZ aX) Tryz.func107 sQ.b λ(a0,_)=>sQ.eh _ a0

def E49:=en [(107,CP),(50,tK)] []
def A49:Fn [.S, .I, .I, .S] As:=λa b c d=>[aV [.s a, .n b, .n c, .s d]]
def k49:Fn [.B] dz:=λa=>⟨[aB a],[]⟩
def U_:=dY A49 k49 (ct _) nk.v
theorem YH:b7 Tryz.prog T 49 U_:=ft (E:=E49) (aD EH (aD uZ aX)) Tryz.func49 nk.b λ(a0,a1,a2,a3,_)=>nk.eh _ a0 a1 a2 a3

def ahI:=en [] [(2,[0,1,4,5])]
def aoN:Fn [.R, .S] As:=λa b=>[aH 9 a,aS b]
def atI:Fn [.B] dz:=λa=>⟨[aB a],[]⟩
def yX:Fn [.R, .S, .B, .I] Tb:=λa b c d=>[cH 0 9 a,cA 2 (.s b),cA 8 (.b c),cI 10 d]
def Q3(N:aE)(K:Kt R):=fg.l2 N (J yX .ret K) (J yX (.exit 0) K)
def aaW(N:aE):It R:=(lp 2 (al yX (λK=>Q3 N K N) an) ln)
theorem X_(N:aE):b8 ahI (aaW N (R:=R)) (bU Tryz.f219 2):=lq 2 yX (Q3 N) λK g=>fg.r2 N g (J yX .ret K) (J yX (.exit 0) K)
def NP:=dY aoN atI fg.c fg.v
theorem TJ:b7 Tryz.prog T 219 NP:=fq (E:=ahI) aX Tryz.func219 (it:=λN=>aaW N) (λN=>(bk (X_ N) bC)) fg.b fg.vo

def ap0:=en [(219,NP)] []
def anY:Fn [.R, .R, .R, .I, .S] As:=λa b c d e=>[aV [.sh 9 a, .sh 9 b, .sh 26 c, .n d],aS e]
def asT:Fn [.B] dz:=λa=>⟨[aB a],[]⟩
def UF:=dY anY asT sR.c sR.v
theorem abn:b7 Tryz.prog T 153 UF:=fr (E:=ap0) (aD TJ aX) Tryz.func153 sR.b sR.vo

def adz:=en [(50,tK)] [(4,[1,2,3]),(9,[1,2,3,4])]
def aoX:Fn [.R, .I] As:=λa b=>[aV [.sh 26 a, .n b]]
def atT:Fn [.B] dz:=λa=>⟨[aB a],[]⟩
def yZ:Fn [.B, .I, .R, .I] Tb:=λa b c d=>[cP 2 0,cA 4 (.b a),cI 6 b,oB 1 [.sh 26 c, .n d]]
def y_:Fn [.B, .I, .I, .R, .I] Tb:=λa b c d e=>[cP 2 0,cA 4 (.b a),cI 6 b,cI 8 c,oB 1 [.sh 26 d, .n e]]
def Q8(N:aE)(K:Kt R):=fJ.l4 N (J yZ .ret K) (J yZ (.exit 0) K)
def Q9(N:aE)(K:Kt R):=fJ.l9 N (J y_ .ret K) (J y_ (.exit 2) K)
def SK(N:aE):It R:=(lp 4 (al yZ (λK=>Q8 N K N) an) (lp 9 (al y_ (λK=>Q9 N K N) an) ln))
theorem Ye(N:aE):b8 adz (SK N (R:=R)) (bU Tryz.f231 4):=lq 4 yZ (Q8 N) λK g=>fJ.r4 N g (J yZ .ret K) (J yZ (.exit 0) K)
theorem Yf(N:aE):b8 adz (SK N (R:=R)) (bU Tryz.f231 9):=lq 9 y_ (Q9 N) λK g=>fJ.r9 N g (J y_ .ret K) (J y_ (.exit 2) K)
def NR:=dY aoX atT fJ.c fJ.v
theorem TL:b7 Tryz.prog T 231 NR:=fq (E:=adz) (aD uZ aX) Tryz.func231 (it:=λN=>SK N) (λN=>(bk (Ye N) (bk (Yf N) bC))) fJ.b fJ.vo

def ahB:=en [(107,CP),(219,NP),(231,NR)] [(3,[1,2,3,4])]
def aok:Fn [.R, .R, .R, .I] As:=λa b c d=>[aV [.sh 9 a, .sh 9 b, .sh 26 c, .n d]]
def atf:Fn [.B] dz:=λa=>⟨[aB a],[]⟩
def yT:Fn [.B, .I, .R, .R, .R, .I, .R] Tb:=λa b c d e f g=>[cP 2 0,cA 4 (.b a),cA 6 (.own 1),cI 8 b,oB 1 [.sh 9 c, .sh 9 d, .sh 26 e, .n f],oR 3 9 g]
def QP(N:aE)(K:Kt R):=jP.l3 N (J yT .ret K) (J yT (.exit 0) K)
def aaP(N:aE):It R:=(lp 3 (al yT (λK=>QP N K N) an) ln)
theorem XW(N:aE):b8 ahB (aaP N (R:=R)) (bU Tryz.f179 3):=lq 3 yT (QP N) λK g=>jP.r3 N g (J yT .ret K) (J yT (.exit 0) K)
def UL:=dY aok atf jP.c jP.v
theorem abu:b7 Tryz.prog T 179 UL:=fq (E:=ahB) (aD EH (aD TJ (aD TL aX))) Tryz.func179 (it:=λN=>aaP N) (λN=>(bk (XW N) bC)) jP.b jP.vo

def ahh:=en [(49,U_),(153,UF),(179,UL)] [(2,[1,2,3])]
def ans:Fn [.I, .R, .R, .R, .R, .I, .R, .R, .I] As:=λa b c d e f g h i=>[aV [.n a, .sh 51 b, .sh 9 c, .sh 9 d, .sh 26 e, .n f, .sh 75 g, .sh 72 h, .n i]]
def asn:Fn [.B] dz:=λa=>⟨[aB a],[]⟩
def yJ:Fn [.B, .I, .I, .R, .R, .R, .R, .I, .R, .R, .I] Tb:=λa b c d e f g h i j k=>[cP 2 0,cA 4 (.b a),cI 6 b,oB 1 [.n c, .sh 51 d, .sh 9 e, .sh 9 f, .sh 26 g, .n h, .sh 75 i, .sh 72 j, .n k]]
def Qr(N:aE)(K:Kt R):=nH.l2 N (J yJ .ret K) (J yJ (.exit 0) K)
def aav(N:aE):It R:=(lp 2 (al yJ (λK=>Qr N K N) an) ln)
theorem Xx(N:aE):b8 ahh (aav N (R:=R)) (bU Tryz.f105 2):=lq 2 yJ (Qr N) λK g=>nH.r2 N g (J yJ .ret K) (J yJ (.exit 0) K)
def abZ:=dY ans asn nH.c nH.v
theorem ajC:b7 Tryz.prog T 105 abZ:=fq (E:=ahh) (aD YH (aD abn (aD abu aX))) Tryz.func105 (it:=λN=>aav N) (λN=>(bk (Xx N) bC)) nH.b nH.vo

def ahi:=en [(107,CP),(50,tK)] [(5,[1,2,4,5,6])]
def ant:Fn [.I, .R, .R, .R, .R, .I, .R, .R, .I, .I] As:=λa b c d e f g h i j=>[aV [.n a, .sh 51 b, .sh 9 c, .sh 9 d, .sh 26 e, .n f, .sh 75 g, .sh 72 h, .n i],aI j]
def aso:Fn [.B] dz:=λa=>⟨[aB a],[]⟩
def yK:Fn [.I, .B, .I, .I, .R, .R, .R, .R, .I, .R, .R, .I, .S, .S, .I, .I, .I] Tb:=λa b c d e f g h i j k l m o p q r=>[cI 2 a,cP 4 0,cA 8 (.b b),cP 10 1,cI 12 c,oB 1 [.n d, .sh 51 e, .sh 9 f, .sh 9 g, .sh 26 h, .n i, .sh 75 j, .sh 72 k, .n l],oB 3 [.s m, .s o, .n p, .n q, .n r]]
def Qs(N:aE)(K:Kt R):=nI.l5 N (J yK .ret K) (J yK (.exit 0) K)
def aaw(N:aE):It R:=(lp 5 (al yK (λK=>Qs N K N) an) ln)
theorem Xy(N:aE):b8 ahi (aaw N (R:=R)) (bU Tryz.f106 5):=lq 5 yK (Qs N) λK g=>nI.r5 N g (J yK .ret K) (J yK (.exit 0) K)
def ab0:=dY ant aso nI.c nI.v
theorem ajD:b7 Tryz.prog T 106 ab0:=fq (E:=ahi) (aD EH (aD uZ aX)) Tryz.func106 (it:=λN=>aaw N) (λN=>(bk (Xy N) bC)) nI.b nI.vo

def E45:=en [(50,tK),(105,abZ),(106,ab0),(107,CP)] [(4,[1,2,3]),(9,[1,2,4])]
def A45:Fn [.I, .R, .R, .R, .R, .I, .R, .R, .I] As:=λa b c d e f g h i=>[aV [.n a, .sh 51 b, .sh 9 c, .sh 9 d, .sh 26 e, .n f, .sh 75 g, .sh 72 h, .n i]]
def k45:Fn [.B] dz:=λa=>⟨[aB a],[]⟩
def D_:Fn [.B, .I, .I, .R, .R, .R, .R, .I, .R, .R, .I] Tb:=λa b c d e f g h i j k=>[cP 2 0,cA 4 (.b a),cI 6 b,oB 1 [.n c, .sh 51 d, .sh 9 e, .sh 9 f, .sh 26 g, .n h, .sh 75 i, .sh 72 j, .n k]]
def Ea:Fn [.B, .I, .I, .R, .R, .R, .R, .I, .R, .R, .I] Tb:=λa b c d e f g h i j k=>[cP 2 0,cA 4 (.b a),cI 8 b,oB 1 [.n c, .sh 51 d, .sh 9 e, .sh 9 f, .sh 26 g, .n h, .sh 75 i, .sh 72 j, .n k]]
def ZQ(N:aE)(K:Kt R):=qK.l4 N (J D_ .ret K) (J D_ (.exit 0) K)
def ZR(N:aE)(K:Kt R):=qK.l9 N (J Ea .ret K) (J Ea (.exit 2) K)
def aeV(N:aE):It R:=(lp 4 (al D_ (λK=>ZQ N K N) an) (lp 9 (al Ea (λK=>ZR N K N) an) ln))
theorem afi(N:aE):b8 E45 (aeV N (R:=R)) (bU Tryz.f45 4):=lq 4 D_ (ZQ N) λK g=>qK.r4 N g (J D_ .ret K) (J D_ (.exit 0) K)
theorem afj(N:aE):b8 E45 (aeV N (R:=R)) (bU Tryz.f45 9):=lq 9 Ea (ZR N) λK g=>qK.r9 N g (J Ea .ret K) (J Ea (.exit 2) K)
def afY:=dY A45 k45 qK.c qK.v
theorem akV:b7 Tryz.prog T 45 afY:=fq (E:=E45) (aD uZ (aD ajC (aD ajD (aD EH aX)))) Tryz.func45 (it:=λN=>aeV N) (λN=>(bk (afi N) (bk (afj N) bC))) qK.b qK.vo

def ahM:=en [] [(2,[1,2,4,5,6])]
def aoZ:Fn [.I, .R, .R, .R, .R, .I, .R, .R, .I, .S] As:=λa b c d e f g h i j=>[aV [.n a, .sh 51 b, .sh 9 c, .sh 9 d, .sh 26 e, .n f, .sh 75 g, .sh 72 h, .n i],aS j]
def atV:Fn [.S, .I, .I, .S, .B] dz:=λa b c d e=>⟨[aV [.s a, .n b, .n c, .s d],aB e],[]⟩
def za:Fn [.S, .B, .I, .I, .R, .R, .R, .R, .I, .R, .R, .I, .S, .I, .I, .S] Tb:=λa b c d e f g h i j k l m o p q=>[cA 2 (.s a),cP 4 0,cP 8 1,cA 10 (.b b),cI 12 c,oB 1 [.n d, .sh 51 e, .sh 9 f, .sh 9 g, .sh 26 h, .n i, .sh 75 j, .sh 72 k, .n l],oB 3 [.s m, .n o, .n p, .s q]]
def Rb(N:aE)(K:Kt R):=wG.l2 N (J za .ret K) (J za (.exit 0) K)
def aa0(N:aE):It R:=(lp 2 (al za (λK=>Rb N K N) an) ln)
theorem Yi(N:aE):b8 ahM (aa0 N (R:=R)) (bU Tryz.f233 2):=lq 2 za (Rb N) λK g=>wG.r2 N g (J za .ret K) (J za (.exit 0) K)
def acM:=dY aoZ atV wG.c wG.v
theorem akn:b7 Tryz.prog T 233 acM:=fq (E:=ahM) aX Tryz.func233 (it:=λN=>aa0 N) (λN=>(bk (Yi N) bC)) wG.b wG.vo

def E13:=en [(49,U_),(50,tK)] []
def A13:Fn [.S, .I, .I, .S, .I] As:=λa b c d e=>[aV [.s a, .n b, .n c, .s d],aI e]
def k13:Fn [.B] dz:=λa=>⟨[aB a],[]⟩
def Y9:=dY A13 k13 (ct _) F_.v
theorem afv:b7 Tryz.prog T 13 Y9:=ft (E:=E13) (aD YH (aD uZ aX)) Tryz.func13 F_.b λ(a0,a1,a2,a3,a4,_)=>F_.eh _ a0 a1 a2 a3 a4

def adA:=en [] [(2,[0,1,5]),(6,[0,1,5,6])]
def aoY:Fn [.I, .S] As:=λa b=>[.v ak [.i .u32 a],aS b]
def atU:Fn [.I] dz:=λa=>⟨[.v ak [.i .u32 a]],[]⟩
def FN:Fn [.I, .S, .I] Tb:=λa b c=>[cA 0 (.i .u32 a),cA 2 (.s b),cI 10 c]
def FO:Fn [.I, .S, .I, .I] Tb:=λa b c d=>[cA 0 (.i .u32 a),cA 2 (.s b),cI 10 c,cI 12 d]
def Q_(N:aE)(K:Kt R):=jN.l2 N (J FN (.exit 0) K)
def Ra(N:aE)(K:Kt R):=jN.l6 N (J FO (.exit 2) K)
def SL(N:aE):It R:=(lp 2 (al FN (λK=>Q_ N K N) an) (lp 6 (al FO (λK=>Ra N K N) an) ln))
theorem Yg(N:aE):b8 adA (SL N (R:=R)) (bU Tryz.f232 2):=lq 2 FN (Q_ N) λK g=>jN.r2 N g (J FN (.exit 0) K)
theorem Yh(N:aE):b8 adA (SL N (R:=R)) (bU Tryz.f232 6):=lq 6 FO (Ra N) λK g=>jN.r6 N g (J FO (.exit 2) K)
def acL:=dY aoY atU jN.c jN.v
theorem akm:b7 Tryz.prog T 232 acL:=fq (E:=adA) aX Tryz.func232 (it:=λN=>SL N) (λN=>(bk (Yg N) (bk (Yh N) bC))) jN.b jN.vo

def aqf:=en [(232,acL)] []
def aon:Fn [.S] As:=λa=>[aS a]
def ati:Fn [.I] dz:=λa=>⟨[.v ak [.i .u32 a]],[]⟩
def UM:=dY aon ati vK.c vK.v
theorem abv:b7 Tryz.prog T 183 UM:=fr (E:=aqf) (aD akm aX) Tryz.func183 vK.b vK.vo

def aqJ:=en [(183,UM)] []
def aph:Fn [.I, .S] As:=λa b=>[aI a,aS b]
def aug:Fn [.I] dz:=λa=>⟨[aI a],[]⟩
def U4:=dY aph aug gp.c gp.v
theorem abM:b7 Tryz.prog T 258 U4:=fr (E:=aqJ) (aD abv aX) Tryz.func258 gp.b gp.vo

def V9:=en [(244,NU),(231,NR),(258,U4)] [(5,[1,4,5,6]),(14,[4,5,8]),(17,[4,5,8,9])]
def aoM:Fn [.R, .I, .S] As:=λa b c=>[aV [.sh 26 a, .n b],aS c]
def atH:Fn [.R, .I] dz:=λa b=>⟨[aV [.ow 26 ai a, .n b]],[]⟩
def FK:Fn [.S, .I, .I, .I, .R] Tb:=λa b c d e=>[cA 2 (.s a),cP 8 0,cP 10 1,cI 12 b,oB 1 [.nl, .n c],oB 3 [.own 2, .n d],oR 5 26 e]
def AW:Fn [.I, .I, .I, .R] Tb:=λa b c d=>[cP 8 0,cP 10 1,cI 16 a,oB 1 [.nl, .n b],oB 3 [.own 2, .n c],oR 5 26 d]
def AX:Fn [.I, .I, .I, .I, .R] Tb:=λa b c d e=>[cP 8 0,cP 10 1,cI 16 a,cI 18 b,oB 1 [.nl, .n c],oB 3 [.own 2, .n d],oR 5 26 e]
def Q2(N:aE)(K:Kt R):=dt.l5 N (J FK (.exit 0) K)
def Mc(N:aE)(K:Kt R):=dt.l14 N (J AW (.exit 2) K)
def Md(N:aE)(K:Kt R):=dt.l17 N (J AX (.exit 4) K)
def Nf(N:aE):It R:=(lp 5 (al FK (λK=>Q2 N K N) an) (lp 14 (al AW (λK=>Mc N K N) an) (lp 17 (al AX (λK=>Md N K N) an) ln)))
theorem X9(N:aE):b8 V9 (Nf N (R:=R)) (bU Tryz.f218 5):=lq 5 FK (Q2 N) λK g=>dt.r5 N g (J FK (.exit 0) K)
theorem Ta(N:aE):b8 V9 (Nf N (R:=R)) (bU Tryz.f218 14):=lq 14 AW (Mc N) λK g=>dt.r14 N g (J AW (.exit 2) K)
theorem Tc(N:aE):b8 V9 (Nf N (R:=R)) (bU Tryz.f218 17):=lq 17 AX (Md N) λK g=>dt.r17 N g (J AX (.exit 4) K)
def UU:=dY aoM atH dt.c dt.v
theorem abD:b7 Tryz.prog T 218 UU:=fq (E:=V9) (aD TP (aD TL (aD abM aX))) Tryz.func218 (it:=λN=>Nf N) (λN=>(bk (X9 N) (bk (Ta N) (bk (Tc N) bC)))) dt.b dt.vo

def ahJ:=en [] [(3,[0,1,5,6])]
def aoO:Fn [.R, .S] As:=λa b=>[aH 9 a,aS b]
def atJ:Fn [.R] dz:=λa=>⟨[aO 9 a],[]⟩
def FL:Fn [.R, .S, .I, .R] Tb:=λa b c d=>[cH 0 9 a,cA 2 (.s b),cA 10 (.own 0),cI 12 c,oR 1 9 d]
def Q4(N:aE)(K:Kt R):=oZ.l3 N (J FL (.exit 0) K)
def aaX(N:aE):It R:=(lp 3 (al FL (λK=>Q4 N K N) an) ln)
theorem Ya(N:aE):b8 ahJ (aaX N (R:=R)) (bU Tryz.f220 3):=lq 3 FL (Q4 N) λK g=>oZ.r3 N g (J FL (.exit 0) K)
def UW:=dY aoO atJ oZ.c oZ.v
theorem abE:b7 Tryz.prog T 220 UW:=fq (E:=ahJ) aX Tryz.func220 (it:=λN=>aaX N) (λN=>(bk (Ya N) bC)) oZ.b oZ.vo

def ahK:=en [(231,NR),(258,U4)] [(5,[1,2,5,6])]
def aoP:Fn [.R, .I, .S] As:=λa b c=>[aV [.sh 26 a, .n b],aS c]
def atK:Fn [.I] dz:=λa=>⟨[aI a],[]⟩
def FM:Fn [.S, .I, .I, .R, .I] Tb:=λa b c d e=>[cA 2 (.s a),cP 4 0,cI 10 b,cI 12 c,oB 1 [.sh 26 d, .n e]]
def Q5(N:aE)(K:Kt R):=mC.l5 N (J FM (.exit 0) K)
def aaY(N:aE):It R:=(lp 5 (al FM (λK=>Q5 N K N) an) ln)
theorem Yb(N:aE):b8 ahK (aaY N (R:=R)) (bU Tryz.f221 5):=lq 5 FM (Q5 N) λK g=>mC.r5 N g (J FM (.exit 0) K)
def acG:=dY aoP atK mC.c mC.v
theorem akh:b7 Tryz.prog T 221 acG:=fq (E:=ahK) (aD TL (aD abM aX)) Tryz.func221 (it:=λN=>aaY N) (λN=>(bk (Yb N) bC)) mC.b mC.vo

def apZ:=en [(193,UO),(179,UL),(107,CP),(218,UU),(219,NP),(220,UW),(221,acG)] []
def anW:Fn [.R, .R, .R, .I, .S] As:=λa b c d e=>[aV [.sh 9 a, .sh 9 b, .sh 26 c, .n d],aS e]
def asR:Fn [.R, .R, .R, .I, .S] dz:=λa b c d e=>⟨[aV [.ow 9 ai a, .ow 9 ai b, .ow 26 ai c, .n d],aS e],[]⟩
def UD:=dY anW asR eV.c eV.v
theorem abl:b7 Tryz.prog T 151 UD:=fr (E:=apZ) (aD abx (aD abu (aD EH (aD abD (aD TJ (aD abE (aD akh aX))))))) Tryz.func151 eV.b eV.vo

def adB:=en [] [(3,[0,3,5,6]),(9,[0,3,5,7])]
def ao0:Fn [.R, .I, .S, .I, .I, .I, .S, .I] As:=λa b c d e f g h=>[aH 72 a,aV [.n b, .s c, .n d, .n e, .n f, .s g, .n h]]
def atW:Fn [.R] dz:=λa=>⟨[aO 72 a],[]⟩
def FP:Fn [.R, .I, .I, .S, .I, .I, .I, .S, .I, .R] Tb:=λa b c d e f g h i j=>[cH 0 72 a,cP 6 0,cA 10 (.own 1),cI 12 b,oB 1 [.n c, .s d, .n e, .n f, .n g, .s h, .n i],oR 3 72 j]
def FQ:Fn [.R, .I, .I, .S, .I, .I, .I, .S, .I, .R] Tb:=λa b c d e f g h i j=>[cH 0 72 a,cP 6 0,cA 10 (.own 1),cI 14 b,oB 1 [.n c, .s d, .n e, .n f, .n g, .s h, .n i],oR 3 72 j]
def Rc(N:aE)(K:Kt R):=lM.l3 N (J FP (.exit 0) K)
def Re(N:aE)(K:Kt R):=lM.l9 N (J FQ (.exit 2) K)
def SM(N:aE):It R:=(lp 3 (al FP (λK=>Rc N K N) an) (lp 9 (al FQ (λK=>Re N K N) an) ln))
theorem Yj(N:aE):b8 adB (SM N (R:=R)) (bU Tryz.f234 3):=lq 3 FP (Rc N) λK g=>lM.r3 N g (J FP (.exit 0) K)
theorem Yk(N:aE):b8 adB (SM N (R:=R)) (bU Tryz.f234 9):=lq 9 FQ (Re N) λK g=>lM.r9 N g (J FQ (.exit 2) K)
def acN:=dY ao0 atW lM.c lM.v
theorem ako:b7 Tryz.prog T 234 acN:=fq (E:=adB) aX Tryz.func234 (it:=λN=>SM N) (λN=>(bk (Yj N) (bk (Yk N) bC))) lM.b lM.vo

def ahs:=en [] [(3,[0,1,5,6])]
def anX:Fn [.R, .S] As:=λa b=>[aH 51 a,aS b]
def asS:Fn [.R] dz:=λa=>⟨[aO 51 a],[]⟩
def Fq:Fn [.R, .S, .I, .R] Tb:=λa b c d=>[cH 0 51 a,cA 2 (.s b),cA 10 (.own 0),cI 12 c,oR 1 51 d]
def QD(N:aE)(K:Kt R):=p9.l3 N (J Fq (.exit 0) K)
def aaG(N:aE):It R:=(lp 3 (al Fq (λK=>QD N K N) an) ln)
theorem XK(N:aE):b8 ahs (aaG N (R:=R)) (bU Tryz.f152 3):=lq 3 Fq (QD N) λK g=>p9.r3 N g (J Fq (.exit 0) K)
def UE:=dY anX asS p9.c p9.v
theorem abm:b7 Tryz.prog T 152 UE:=fq (E:=ahs) aX Tryz.func152 (it:=λN=>aaG N) (λN=>(bk (XK N) bC)) p9.b p9.vo

def aqz:=en [(220,UW),(244,NU)] []
def ao1:Fn [.R, .R, .R, .I, .S] As:=λa b c d e=>[aV [.sh 9 a, .sh 9 b, .sh 26 c, .n d],aS e]
def atX:Fn [.R, .R, .R, .I] dz:=λa b c d=>⟨[aV [.ow 9 ai a, .ow 9 ai b, .ow 26 ai c, .n d]],[]⟩
def acO:=dY ao1 atX uS.c uS.v
theorem akp:b7 Tryz.prog T 235 acO:=fr (E:=aqz) (aD abE (aD TP aX)) Tryz.func235 uS.b uS.vo

def adw:=en [(117,Aa),(45,afY),(50,tK),(107,CP),(233,acM),(13,Y9),(151,UD),(234,acN),(152,UE),(235,acO),(218,UU)] [(5,[1,2,3,6,7,8,9]),(22,[2,3,6,8,10,12,13])]
def aop:Fn [.I, .R, .R, .R, .R, .I, .R, .R, .I, .I, .S] As:=λa b c d e f g h i j k=>[aV [.n a, .sh 51 b, .sh 9 c, .sh 9 d, .sh 26 e, .n f, .sh 75 g, .sh 72 h, .n i],aI j,aS k]
def atk:Fn [.I, .R, .R, .R, .R, .I, .R, .R, .I, .I] dz:=λa b c d e f g h i j=>⟨[aV [.n a, .ow 51 ai b, .ow 9 ai c, .ow 9 ai d, .ow 26 ai e, .n f, .ow 75 ai g, .ow 72 ai h, .n i],aI j],[]⟩
def FD:Fn [.I, .S, .I, .I, .I, .R, .R, .R, .R, .I, .R, .R, .I, .I, .I, .I, .I, .I, .I, .R, .R, .R, .R, .R, .R] Tb:=λa b c d e f g h i j k l m o p q r s t u v w x y z=>[cI 2 a,cA 4 (.s b),cP 6 0,cP 12 1,cI 14 c,cP 16 2,cI 18 d,oB 1 [.n e, .sh 51 f, .sh 9 g, .sh 9 h, .sh 26 i, .n j, .sh 75 k, .sh 72 l, .n m],oB 3 [.n o, .nl, .nl, .nl, .nl, .n p, .nl, .nl, .n q],oB 5 [.n r, .own 3, .own 4, .own 5, .own 6, .n s, .own 7, .own 8, .n t],oR 7 51 u,oR 9 9 v,oR 11 9 w,oR 13 26 x,oR 15 75 y,oR 17 72 z]
def HR:Fn [.I, .S, .I, .I, .I, .R, .R, .R, .R, .I, .R, .R, .I, .I, .I, .I, .I, .I, .I, .R, .R, .R, .R, .R, .R] Tb:=λa b c d e f g h i j k l m o p q r s t u v w x y z=>[cI 2 a,cA 4 (.s b),cP 6 0,cP 12 1,cI 14 c,cP 16 2,cI 18 d,oB 1 [.n e, .sh 51 f, .sh 9 g, .sh 9 h, .sh 26 i, .n j, .sh 75 k, .sh 72 l, .n m],oB 3 [.n o, .own 3, .own 4, .own 5, .own 6, .n p, .own 7, .own 8, .n q],oB 5 [.n r, .own 3, .own 4, .own 5, .own 6, .n s, .own 7, .own 8, .n t],oR 7 51 u,oR 9 9 v,oR 11 9 w,oR 13 26 x,oR 15 75 y,oR 17 72 z]
def AR:Fn [.S, .B, .I, .I, .R, .R, .R, .R, .I, .R, .R, .I, .I, .I, .I, .I, .I, .I, .I, .S, .I, .I, .I, .S, .I, .R, .R, .R, .R, .R, .R] Tb:=λa b c d e f g h i j k l m o p q r s t u v w x y z aa ab ac ad ae af=>[cA 4 (.s a),cP 6 0,cP 12 1,cP 16 2,cP 20 3,cA 24 (.b b),cI 26 c,oB 1 [.n d, .sh 51 e, .sh 9 f, .sh 9 g, .sh 26 h, .n i, .sh 75 j, .sh 72 k, .n l],oB 3 [.n m, .nl, .nl, .nl, .nl, .n o, .nl, .nl, .n p],oB 5 [.n q, .own 4, .own 5, .own 6, .own 7, .n r, .own 8, .own 9, .n s],oB 7 [.n t, .s u, .n v, .n w, .n x, .s y, .n z],oR 9 51 aa,oR 11 9 ab,oR 13 9 ac,oR 15 26 ad,oR 17 75 ae,oR 19 72 af]
def QS(N:aE)(K:Kt R):=wC.l5 N (J HR .ret K) (J FD (.exit 0) K)
def L_(N:aE)(K:Kt R):=wC.Xu N (J AR (.exit 2) K)
def SG(N:aE):It R:=(lp 5 (al FD (λK=>QS N K N) an) (lp 22 (al AR (λK=>L_ N K N) an) ln))
theorem XZ(N:aE):b8 adw (SG N (R:=R)) (bU Tryz.f185 5):=lq 5 FD (QS N) λK g=>wC.r5 N g (J HR .ret K) (J FD (.exit 0) K)
theorem S9(N:aE):b8 adw (SG N (R:=R)) (bU Tryz.f185 22):=lq 22 AR (L_ N) λK g=>wC.r22 N g (J AR (.exit 2) K)
def acs:=dY aop atk wC.c wC.v
theorem aj5:b7 Tryz.prog T 185 acs:=fq (E:=adw) (aD Cr (aD akV (aD uZ (aD EH (aD akn (aD afv (aD abl (aD ako (aD abm (aD akp (aD abD aX))))))))))) Tryz.func185 (it:=λN=>SG N) (λN=>(bk (XZ N) (bk (S9 N) bC))) wC.b wC.vo

def aqA:=en [(45,afY),(50,tK)] []
def ao2:Fn [.I, .R, .R, .R, .R, .I, .R, .R, .I, .I] As:=λa b c d e f g h i j=>[aV [.n a, .sh 51 b, .sh 9 c, .sh 9 d, .sh 26 e, .n f, .sh 75 g, .sh 72 h, .n i],aI j]
def atY:Fn [.B] dz:=λa=>⟨[aB a],[]⟩
def NS:=dY ao2 atY uT.c uT.v
theorem TM:b7 Tryz.prog T 236 NS:=fr (E:=aqA) (aD akV (aD uZ aX)) Tryz.func236 uT.b uT.vo

def aqP:=en [] []
def apo:Fn [.I, .S, .R] As:=λa b c=>[aV [.n a, .s b, .sh 237 c]]
def aun:Fn [.I, .S, .R] dz:=λa b c=>⟨[aV [.n a, .s b, .ow 237 ai c]],[]⟩
def ac3:=dY apo aun J_.c J_.v
theorem akE:b7 Tryz.prog T 267 ac3:=fh (E:=aqP) aX Tryz.func267 (it:=λ_=>ln) (λ_=>bC) (λ_=>J_.b) λx f h=>⟨0,J_.eh _ x.1 x.2.1 x.2.2.1 h⟩

def ahT:=en [(50,tK)] [(2,[1,2,3])]
def apq:Fn [.I, .S, .R] As:=λa b c=>[aV [.n a, .s b, .sh 237 c]]
def auo:Fn [.B] dz:=λa=>⟨[aB a],[]⟩
def zc:Fn [.B, .I, .I, .S, .R] Tb:=λa b c d e=>[cP 2 0,cA 4 (.b a),cI 6 b,oB 1 [.n c, .s d, .sh 237 e]]
def Rn(N:aE)(K:Kt R):=lE.l2 N (J zc .ret K) (J zc (.exit 0) K)
def aa7(N:aE):It R:=(lp 2 (al zc (λK=>Rn N K N) an) ln)
theorem Yt(N:aE):b8 ahT (aa7 N (R:=R)) (bU Tryz.f268 2):=lq 2 zc (Rn N) λK g=>lE.r2 N g (J zc .ret K) (J zc (.exit 0) K)
def ac4:=dY apq auo (ct _) lE.v
theorem akF:b7 Tryz.prog T 268 ac4:=fh (E:=ahT) (aD uZ aX) Tryz.func268 (it:=λN=>aa7 N) (λN=>(bk (Yt N) bC)) lE.b λx f h=>lE.eh _ x.1 x.2.1 x.2.2.1 f.1.2.1 f.1.2.2.1

def aqB:=en [(267,ac3),(268,ac4),(50,tK)] []
def ao3:Fn [.I, .S, .R, .S] As:=λa b c d=>[aV [.n a, .s b, .sh 237 c],aS d]
def atZ:Fn [.I, .S, .R, .B] dz:=λa b c d=>⟨[aV [.n a, .s b, .ow 237 ai c],aB d],[]⟩
def acP:=dY ao3 atZ Gc.c Gc.v
theorem akq:b7 Tryz.prog T 237 acP:=fh (E:=aqB) (aD akE (aD akF (aD uZ aX))) Tryz.func237 (it:=λ_=>ln) (λ_=>bC) (λ_=>Gc.b) λx f h=>⟨0,Gc.eh _ x.1 x.2.1 x.2.2.1 x.2.2.2.1 h f.1.2.1 f.1.2.2.1 f.2.1.1⟩

def ahN:=en [] [(1,[0,1,2,6])]
def ao4:Fn [.I, .R, .R, .R, .R, .I, .R, .R, .I, .I, .I] As:=λa b c d e f g h i j k=>[.pt [.n a, .ow 51 ai b, .ow 9 ai c, .ow 9 ai d, .ow 26 ai e, .n f, .ow 75 ai g, .ow 72 ai h, .n i],aI j,aI k]
def at0:Fn [.I, .R, .R, .R, .R, .I, .R, .R, .I] dz:=λa b c d e f g h i=>⟨[],[[.n a, .kp b, .kp c, .kp d, .kp e, .n f, .kp g, .kp h, .n i]]⟩
def FR:Fn [.I, .I, .I, .I, .I, .I, .R, .R, .R, .R, .R, .R] Tb:=λa b c d e f g h i j k l=>[cP 0 900000900,cI 2 a,cI 4 b,cI 12 c,oB 1800001801 [.n d, .own 900000001, .own 900000002, .own 900000003, .own 900000004, .n e, .own 900000006, .own 900000007, .n f],oR 1800000003 51 g,oR 1800000005 9 h,oR 1800000007 9 i,oR 1800000009 26 j,oR 1800000013 75 k,oR 1800000015 72 l]
def Rf(N:aE)(K:Kt R):=sA.l1 N (J FR (.exit 0) K)
def aa1(N:aE):It R:=(lp 1 (al FR (λK=>Rf N K N) an) ln)
theorem Yl(N:aE):b8 ahN (aa1 N (R:=R)) (bU Tryz.f238 1):=lq 1 FR (Rf N) λK g=>sA.r1 N g (J FR (.exit 0) K)
def NT:=dY ao4 at0 sA.c sA.v
theorem TN:b7 Tryz.prog T 238 NT:=fq (E:=ahN) aX Tryz.func238 (it:=λN=>aa1 N) (λN=>(bk (Yl N) bC)) sA.b sA.vo

def aqg:=en [(117,Aa),(236,NS),(237,acP),(238,NT)] []
def aoq:Fn [.I, .R, .R, .R, .R, .I, .R, .R, .I, .I, .S] As:=λa b c d e f g h i j k=>[aV [.n a, .sh 51 b, .sh 9 c, .sh 9 d, .sh 26 e, .n f, .sh 75 g, .sh 72 h, .n i],aI j,aS k]
def atl:Fn [.I, .R, .R, .R, .R, .I, .R, .R, .I, .B] dz:=λa b c d e f g h i j=>⟨[aV [.n a, .ow 51 ai b, .ow 9 ai c, .ow 9 ai d, .ow 26 ai e, .n f, .ow 75 ai g, .ow 72 ai h, .n i],aB j],[]⟩
def acu:=dY aoq atl Dn.c Dn.v
theorem aj6:b7 Tryz.prog T 186 acu:=fr (E:=aqg) (aD Cr (aD TM (aD akq (aD TN aX)))) Tryz.func186 Dn.b Dn.vo

def E55:=en [] [(3,[0,3,5,6]),(9,[0,3,5,7])]
def A55:Fn [.R, .S, .I, .I, .S] As:=λa b c d e=>[aH 51 a,aV [.s b, .n c, .n d, .s e]]
def k55:Fn [.R] dz:=λa=>⟨[aO 51 a],[]⟩
def Mw:Fn [.R, .I, .S, .I, .I, .S, .R] Tb:=λa b c d e f g=>[cH 0 51 a,cP 6 0,cA 10 (.own 1),cI 12 b,oB 1 [.s c, .n d, .n e, .s f],oR 3 51 g]
def Mx:Fn [.R, .I, .S, .I, .I, .S, .R] Tb:=λa b c d e f g=>[cH 0 51 a,cP 6 0,cA 10 (.own 1),cI 14 b,oB 1 [.s c, .n d, .n e, .s f],oR 3 51 g]
def ZU(N:aE)(K:Kt R):=lH.l3 N (J Mw (.exit 0) K)
def ZV(N:aE)(K:Kt R):=lH.l9 N (J Mx (.exit 2) K)
def aeW(N:aE):It R:=(lp 3 (al Mw (λK=>ZU N K N) an) (lp 9 (al Mx (λK=>ZV N K N) an) ln))
theorem afm(N:aE):b8 E55 (aeW N (R:=R)) (bU Tryz.f55 3):=lq 3 Mw (ZU N) λK g=>lH.r3 N g (J Mw (.exit 0) K)
theorem afn(N:aE):b8 E55 (aeW N (R:=R)) (bU Tryz.f55 9):=lq 9 Mx (ZV N) λK g=>lH.r9 N g (J Mx (.exit 2) K)
def af0:=dY A55 k55 lH.c lH.v
theorem akX:b7 Tryz.prog T 55 af0:=fq (E:=E55) aX Tryz.func55 (it:=λN=>aeW N) (λN=>(bk (afm N) (bk (afn N) bC))) lH.b lH.vo

def E88:=Th T md [(151,UD),(152,UE),(153,UF),(55,af0)] [] [] [(0,1,.own 51),(0,2,.own 9),(0,3,.own 9),(0,4,.own 26)]
def A88:Fn [.I, .R, .R, .R, .R, .I, .R, .R, .I, .S, .I, .I, .S] As:=λa b c d e f g h i j k l m=>[.pt [.n a, .ow 51 ai b, .ow 9 ai c, .ow 9 ai d, .ow 26 ai e, .n f, .ow 75 ai g, .ow 72 ai h, .n i],aV [.s j, .n k, .n l, .s m]]
def k88:Fn [.I, .R, .R, .R, .R, .I, .R, .R, .I] dz:=λa b c d e f g h i=>⟨[],[[.n a, .ow 51 ai b, .ow 9 ai c, .ow 9 ai d, .ow 26 ai e, .n f, .kp g, .kp h, .n i]]⟩
def af3:=dY A88 k88 Oi.c Oi.v
theorem ak0:b7 Tryz.prog T 88 af3:=fr (E:=E88) (aD abl (aD abm (aD abn (aD akX aX)))) Tryz.func88 Oi.b Oi.vo

def aqC:=en [(117,Aa),(236,NS),(50,tK),(238,NT),(88,af3)] []
def ao5:Fn [.I, .R, .R, .R, .R, .I, .R, .R, .I, .I, .I] As:=λa b c d e f g h i j k=>[aV [.n a, .sh 51 b, .sh 9 c, .sh 9 d, .sh 26 e, .n f, .sh 75 g, .sh 72 h, .n i],aI j,aI k]
def at2:Fn [.I, .R, .R, .R, .R, .I, .R, .R, .I, .B] dz:=λa b c d e f g h i j=>⟨[aV [.n a, .ow 51 ai b, .ow 9 ai c, .ow 9 ai d, .ow 26 ai e, .n f, .ow 75 ai g, .ow 72 ai h, .n i],aB j],[]⟩
def acQ:=dY ao5 at2 Ds.c Ds.v
theorem akr:b7 Tryz.prog T 239 acQ:=fr (E:=aqC) (aD Cr (aD TM (aD uZ (aD TN (aD ak0 aX))))) Tryz.func239 Ds.b Ds.vo

def ahC:=en [] [(2,[0,3])]
def aol:Fn [.I] As:=λa=>[aI a]
def atg:Fn [.S] dz:=λa=>⟨[aS a],[]⟩
def FC:Fn [.I, .R] Tb:=λa b=>[cI 0 a,cA 6 (.own 0),oR 1 5 b]
def QQ(N:aE)(K:Kt R):=ki.l2 N (J FC (.exit 0) K)
def aaQ(N:aE):It R:=(lp 2 (al FC (λK=>QQ N K N) an) ln)
theorem XX(N:aE):b8 ahC (aaQ N (R:=R)) (bU Tryz.f181 2):=lq 2 FC (QQ N) λK g=>ki.r2 N g (J FC (.exit 0) K)
def NJ:=dY aol atg ki.c ki.v
theorem TD:b7 Tryz.prog T 181 NJ:=fh (E:=ahC) aX Tryz.func181 (it:=λN=>aaQ N) (λN=>(bk (XX N) bC)) ki.b λx f h=>ki.eh _ x.1 h

def apJ:=en [(49,U_),(181,NJ)] []
def anB:Fn [.S, .I, .I, .S] As:=λa b c d=>[aV [.s a, .n b, .n c, .s d]]
def asw:Fn [.S, .B] dz:=λa b=>⟨[aS a,aB b],[]⟩
def NC:=dY anB asw (ct _) jE.v
theorem Tq:b7 Tryz.prog T 114 NC:=fh (E:=apJ) (aD YH (aD TD aX)) Tryz.func114 (it:=λ_=>ln) (λ_=>bC) (λ_=>jE.b) λx f h=>⟨0,jE.eh _ x.1 x.2.1 x.2.2.1 x.2.2.2.1⟩

def aqe:=en [] []
def aom:Fn [.I] As:=λa=>[.v ak [.i .u32 a]]
def ath:Fn [.S] dz:=λa=>⟨[aS a],[]⟩
def acq:=dY aom ath (ct _) oX.v
theorem aj3:b7 Tryz.prog T 182 acq:=ft (E:=aqe) aX Tryz.func182 oX.b λ(a0,_)=>oX.eh _ a0

def apH:=en [(50,tK),(181,NJ),(183,UM),(182,acq)] []
def anz:Fn [.S] As:=λa=>[aS a]
def asu:Fn [.S, .B] dz:=λa b=>⟨[aS a,aB b],[]⟩
def NB:=dY anz asu fH.c fH.v
theorem Tp:b7 Tryz.prog T 112 NB:=fr (E:=apH) (aD uZ (aD TD (aD abv (aD aj3 aX)))) Tryz.func112 fH.b fH.vo

def aqD:=en [(114,NC),(112,NB)] []
def ao6:Fn [.S, .I, .I, .S] As:=λa b c d=>[aV [.s a, .n b, .n c, .s d]]
def at4:Fn [.R, .B] dz:=λa b=>⟨[aO 218 a,aB b],[]⟩
def acR:=dY ao6 at4 Dt.c Dt.v
theorem aks:b7 Tryz.prog T 240 acR:=fr (E:=aqD) (aD Tq (aD Tp aX)) Tryz.func240 Dt.b Dt.vo

def apF:=en [(50,tK)] []
def anv:Fn [.S] As:=λa=>[aS a]
def asq:Fn [.B] dz:=λa=>⟨[aB a],[]⟩
def Ux:=dY anv asq (ct _) pZ.v
theorem abf:b7 Tryz.prog T 109 Ux:=ft (E:=apF) (aD uZ aX) Tryz.func109 pZ.b λ(a0,_)=>pZ.eh _ a0

def E51:=en [(109,Ux),(50,tK)] [(4,[1,2,3])]
def A51:Fn [.R] As:=λa=>[aV [.sh 94 a]]
def k51:Fn [.B] dz:=λa=>⟨[aB a],[]⟩
def Eb:Fn [.B, .I, .R] Tb:=λa b c=>[cP 2 0,cA 4 (.b a),cI 6 b,oB 1 [.sh 94 c]]
def ZS(N:aE)(K:Kt R):=gO.l4 N (J Eb .ret K) (J Eb (.exit 0) K)
def ai8(N:aE):It R:=(lp 4 (al Eb (λK=>ZS N K N) an) ln)
theorem afk(N:aE):b8 E51 (ai8 N (R:=R)) (bU Tryz.f51 4):=lq 4 Eb (ZS N) λK g=>gO.r4 N g (J Eb .ret K) (J Eb (.exit 0) K)
def Va:=dY A51 k51 gO.c gO.v
theorem YI:b7 Tryz.prog T 51 Va:=fq (E:=E51) (aD abf (aD uZ aX)) Tryz.func51 (it:=λN=>ai8 N) (λN=>(bk (afk N) bC)) gO.b gO.vo

def ahj:=en [] [(2,[1,2,4,5])]
def anw:Fn [.R, .S] As:=λa b=>[aV [.sh 94 a],aS b]
def ass:Fn [.I] dz:=λa=>⟨[aI a],[]⟩
def yL:Fn [.S, .I, .I, .R] Tb:=λa b c d=>[cA 2 (.s a),cP 4 0,cI 8 b,cI 10 c,oB 1 [.sh 94 d]]
def Qt(N:aE)(K:Kt R):=ju.l2 N (J yL .ret K) (J yL (.exit 0) K)
def aax(N:aE):It R:=(lp 2 (al yL (λK=>Qt N K N) an) ln)
theorem Xz(N:aE):b8 ahj (aax N (R:=R)) (bU Tryz.f110 2):=lq 2 yL (Qt N) λK g=>ju.r2 N g (J yL .ret K) (J yL (.exit 0) K)
def Uy:=dY anw ass ju.c ju.v
theorem abg:b7 Tryz.prog T 110 Uy:=fq (E:=ahj) aX Tryz.func110 (it:=λN=>aax N) (λN=>(bk (Xz N) bC)) ju.b ju.vo

def Ql:=en [] [(3,[2,3,4,5,6]),(9,[2,3,4,5,7])]
def apy:Fn [.R, .S, .S, .I] As:=λa b c d=>[aV [.sh 94 a],aV [.s b, .s c, .n d]]
def auw:Fn [.R] dz:=λa=>⟨[aV [.ow 94 ai a]],[]⟩
def rh:Fn [.I, .R, .S, .S, .I] Tb:=λa b c d e=>[cP 4 0,cP 6 1,cP 8 2,cP 10 3,cI 12 a,oB 1 [.sh 94 b],oB 3 [.s c, .s d, .n e],oB 5 [.nl],oB 7 [.nl]]
def oy:Fn [.I, .R, .S, .S, .I, .R] Tb:=λa b c d e f=>[cP 4 0,cP 6 1,cP 8 2,cP 10 3,cI 12 a,oB 1 [.sh 94 b],oB 3 [.s c, .s d, .n e],oB 5 [.nl],oB 7 [.own 4],oR 9 94 f]
def F8:Fn [.I, .R, .S, .S, .I, .R] Tb:=λa b c d e f=>[cP 4 0,cP 6 1,cP 8 2,cP 10 3,cI 14 a,oB 1 [.sh 94 b],oB 3 [.s c, .s d, .n e],oB 5 [.nl],oB 7 [.own 4],oR 9 94 f]
def Rt(N:aE)(K:Kt R):=eg.l3 N (J rh (.exit 0) K) (J oy (.exit 0) K)
def Mj(N:aE)(K:Kt R):=eg.sE N (J rh (.exit 0) K) (J oy (.exit 0) K)
def Ru(N:aE)(K:Kt R):=eg.l9 N (J F8 (.exit 2) K)
def IW(N:aE):It R:=(lp 3 (al rh (λK=>Rt N K N) (al oy (λK=>Mj N K N) an)) (lp 9 (al F8 (λK=>Ru N K N) an) ln))
theorem N3(N:aE)(K:Kt R):Wd Ql (IW N) (bU Tryz.f279 3) 3 K oy (Mj N K):=lw (λg=>eg.zw N (cmp _ rh (g∘fO)) (cmp _ oy (g∘fO)) (J rh (.exit 0) K) (J oy (.exit 0) K)) λm i=>by simp only[dN,wf i];rfl
theorem agf(N:aE)(K:Kt R):Wd Ql (IW N) (bU Tryz.f279 3) 3 K rh (Rt N K):=lw (λg=>eg.r3 N (cmp _ rh (g∘fO)) (cmp _ oy (g∘fO)) (J rh (.exit 0) K) (J oy (.exit 0) K)) λm i=>by simp only[dN,wf i,wf (N3 N K m)];rfl
theorem Yz(N:aE):b8 Ql (IW N (R:=R)) (bU Tryz.f279 3):=lm 3 (ga rh (agf N) (ga oy (N3 N) oE))
theorem YA(N:aE):b8 Ql (IW N (R:=R)) (bU Tryz.f279 9):=lq 9 F8 (Ru N) λK g=>eg.r9 N g (J F8 (.exit 2) K)
def ada:=dY apy auw eg.c eg.v
theorem akM:b7 Tryz.prog T 279 ada:=fq (E:=Ql) aX Tryz.func279 (it:=λN=>IW N) (λN=>(bk (Yz N) (bk (YA N) bC))) eg.b eg.vo

def Wc:=en [] [(3,[1,2,4,5,6])]
def apz:Fn [.R, .S] As:=λa b=>[aV [.sh 94 a],aS b]
def auy:Fn [.R] dz:=λa=>⟨[aV [.ow 94 ai a]],[]⟩
def rj:Fn [.S, .I, .R] Tb:=λa b c=>[cA 2 (.s a),cP 4 0,cP 8 1,cP 10 2,cI 12 b,oB 1 [.sh 94 c],oB 3 [.nl],oB 5 [.nl]]
def oz:Fn [.S, .I, .R, .R] Tb:=λa b c d=>[cA 2 (.s a),cP 4 0,cP 8 1,cP 10 2,cI 12 b,oB 1 [.sh 94 c],oB 3 [.nl],oB 5 [.own 3],oR 7 94 d]
def Rv(N:aE)(K:Kt R):=eN.l3 N (J rj (.exit 0) K) (J oz (.exit 0) K)
def Mk(N:aE)(K:Kt R):=eN.sE N (J rj (.exit 0) K) (J oz (.exit 0) K)
def Nj(N:aE):It R:=(lp 3 (al rj (λK=>Rv N K N) (al oz (λK=>Mk N K N) an)) ln)
theorem N4(N:aE)(K:Kt R):Wd Wc (Nj N) (bU Tryz.f280 3) 3 K oz (Mk N K):=lw (λg=>eN.zw N (cmp _ rj (g∘fO)) (cmp _ oz (g∘fO)) (J rj (.exit 0) K) (J oz (.exit 0) K)) λm i=>by simp only[dN,wf i];rfl
theorem agh(N:aE)(K:Kt R):Wd Wc (Nj N) (bU Tryz.f280 3) 3 K rj (Rv N K):=lw (λg=>eN.r3 N (cmp _ rj (g∘fO)) (cmp _ oz (g∘fO)) (J rj (.exit 0) K) (J oz (.exit 0) K)) λm i=>by simp only[dN,wf i,wf (N4 N K m)];rfl
theorem YB(N:aE):b8 Wc (Nj N (R:=R)) (bU Tryz.f280 3):=lm 3 (ga rj (agh N) (ga oz (N4 N) oE))
def adb:=dY apz auy eN.c eN.v
theorem akN:b7 Tryz.prog T 280 adb:=fq (E:=Wc) aX Tryz.func280 (it:=λN=>Nj N) (λN=>(bk (YB N) bC)) eN.b eN.vo

def aqQ:=en [(51,Va),(109,Ux),(110,Uy),(279,ada),(280,adb)] []
def apr:Fn [.R, .I, .S, .S, .S] As:=λa b c d e=>[aV [.sh 94 a],aV [.n b, .s c, .s d, .s e]]
def aup:Fn [.R, .B] dz:=λa b=>⟨[aV [.ow 94 ai a],aB b],[]⟩
def ac5:=dY apr aup BI.c BI.v
theorem akG:b7 Tryz.prog T 269 ac5:=fr (E:=aqQ) (aD YI (aD abf (aD abg (aD akM (aD akN aX))))) Tryz.func269 BI.b BI.vo

def ahO:=en [(269,ac5)] [(3,[1,4,5,6,7])]
def ao7:Fn [.R, .R] As:=λa b=>[aV [.sh 94 a],aH 218 b]
def at5:Fn [.R, .I] dz:=λa b=>⟨[aV [.ow 94 ai a],aI b],[]⟩
def FT:Fn [.R, .I, .I, .R] Tb:=λa b c d=>[cH 2 218 a,cP 8 0,cI 10 b,cP 12 1,cI 14 c,oB 1 [.nl],oB 3 [.own 2],oR 5 94 d]
def HS:Fn [.R, .I, .I, .R] Tb:=λa b c d=>[cH 2 218 a,cP 8 0,cI 10 b,cP 12 1,cI 14 c,oB 1 [.own 2],oB 3 [.own 2],oR 5 94 d]
def Rg(N:aE)(K:Kt R):=p_.l3 N (J HS .ret K) (J FT (.exit 0) K)
def aa2(N:aE):It R:=(lp 3 (al FT (λK=>Rg N K N) an) ln)
theorem Ym(N:aE):b8 ahO (aa2 N (R:=R)) (bU Tryz.f241 3):=lq 3 FT (Rg N) λK g=>p_.r3 N g (J HS .ret K) (J FT (.exit 0) K)
def U0:=dY ao7 at5 p_.c p_.v
theorem abI:b7 Tryz.prog T 241 U0:=fq (E:=ahO) (aD akG aX) Tryz.func241 (it:=λN=>aa2 N) (λN=>(bk (Ym N) bC)) p_.b p_.vo

def aqk:=en [] []
def aow:Fn [.B] As:=λa=>[aB a]
def atr:Fn [.I] dz:=λa=>⟨[aI a],[]⟩
def UN:=dY aow atr (ct _) Aw.v
theorem abw:b7 Tryz.prog T 192 UN:=ft (E:=aqk) aX Tryz.func192 Aw.b λ(a0,_)=>Aw.eh _ a0

def aqh:=Th T md [(239,acQ),(240,acR),(241,U0),(192,UN)] [] [] [(0,1,.own 51),(0,2,.own 9),(0,3,.own 9),(0,4,.own 26),(0,6,.own 75),(0,7,.own 72),(0,9,.own 94),(0,10,.own 3),(0,11,.own 51)]
def aor:Fn [.I, .R, .R, .R, .R, .I, .R, .R, .I, .R, .R, .R, .I, .I, .S, .I, .R] As:=λa b c d e f g h i j k l m o p q r=>[.pt [.n a, .ow 51 ai b, .ow 9 ai c, .ow 9 ai d, .ow 26 ai e, .n f, .ow 75 ai g, .ow 72 ai h, .n i, .ow 94 ai j, .ow 3 ai k, .ow 51 ai l],aV [.n m, .n o, .s p, .n q, .sh 3 r]]
def atm:Fn [.I, .I, .R, .R, .R, .R, .I, .R, .R, .I, .R, .R, .R] dz:=λa b c d e f g h i j k l m=>⟨[aI a],[[.n b, .ow 51 ai c, .ow 9 ai d, .ow 9 ai e, .ow 26 ai f, .n g, .ow 75 ai h, .ow 72 ai i, .n j, .ow 94 ai k, .ow 3 ai l, .ow 51 ai m]]⟩
def acv:=dY aor atm Dp.c Dp.v
theorem aj7:b7 Tryz.prog T 187 acv:=fr (E:=aqh) (aD akr (aD aks (aD abI (aD abw aX)))) Tryz.func187 Dp.b Dp.vo

def aqi:=en [(117,Aa),(236,NS),(238,NT)] []
def aos:Fn [.I, .R, .R, .R, .R, .I, .R, .R, .I, .I] As:=λa b c d e f g h i j=>[aV [.n a, .sh 51 b, .sh 9 c, .sh 9 d, .sh 26 e, .n f, .sh 75 g, .sh 72 h, .n i],aI j]
def atn:Fn [.I, .R, .R, .R, .R, .I, .R, .R, .I, .B] dz:=λa b c d e f g h i j=>⟨[aV [.n a, .ow 51 ai b, .ow 9 ai c, .ow 9 ai d, .ow 26 ai e, .n f, .ow 75 ai g, .ow 72 ai h, .n i],aB j],[]⟩
def acw:=dY aos atn Dq.c Dq.v
theorem aj8:b7 Tryz.prog T 188 acw:=fr (E:=aqi) (aD Cr (aD TM (aD TN aX))) Tryz.func188 Dq.b Dq.vo

def aqj:=en [(117,Aa)] []
def aot:Fn [.I, .R, .R, .R, .R, .I, .R, .R, .I, .I] As:=λa b c d e f g h i j=>[aV [.n a, .sh 51 b, .sh 9 c, .sh 9 d, .sh 26 e, .n f, .sh 75 g, .sh 72 h, .n i],aI j]
def ato:Fn [.I, .R, .R, .R, .R, .I, .R, .R, .I] dz:=λa b c d e f g h i=>⟨[aV [.n a, .ow 51 ai b, .ow 9 ai c, .ow 9 ai d, .ow 26 ai e, .n f, .ow 75 ai g, .ow 72 ai h, .n i]],[]⟩
def acx:=dY aot ato sr.c sr.v
theorem aj9:b7 Tryz.prog T 189 acx:=fr (E:=aqj) (aD Cr aX) Tryz.func189 sr.b sr.vo

def ahD:=en [(117,Aa)] [(4,[1,2,4,5,6])]
def aou:Fn [.I, .R, .R, .R, .R, .I, .R, .R, .I, .I] As:=λa b c d e f g h i j=>[aV [.n a, .sh 51 b, .sh 9 c, .sh 9 d, .sh 26 e, .n f, .sh 75 g, .sh 72 h, .n i],aI j]
def atp:Fn [.I, .R, .R, .R, .R, .I, .R, .R, .I] dz:=λa b c d e f g h i=>⟨[aV [.n a, .ow 51 ai b, .ow 9 ai c, .ow 9 ai d, .ow 26 ai e, .n f, .ow 75 ai g, .ow 72 ai h, .n i]],[]⟩
def FE:Fn [.I, .I, .I, .R, .R, .R, .R, .I, .R, .R, .I, .I, .I, .I, .I, .I, .I, .R, .R, .R, .R, .R, .R] Tb:=λa b c d e f g h i j k l m o p q r s t u v w x=>[cI 2 a,cP 4 0,cP 8 1,cP 10 2,cI 12 b,oB 1 [.n c, .sh 51 d, .sh 9 e, .sh 9 f, .sh 26 g, .n h, .sh 75 i, .sh 72 j, .n k],oB 3 [.n l, .nl, .nl, .nl, .nl, .n m, .nl, .nl, .n o],oB 5 [.n p, .own 3, .own 4, .own 5, .own 6, .n q, .own 7, .own 8, .n r],oR 7 51 s,oR 9 9 t,oR 11 9 u,oR 13 26 v,oR 15 75 w,oR 17 72 x]
def QT(N:aE)(K:Kt R):=uQ.l4 N (J FE (.exit 0) K)
def aaR(N:aE):It R:=(lp 4 (al FE (λK=>QT N K N) an) ln)
theorem X0(N:aE):b8 ahD (aaR N (R:=R)) (bU Tryz.f190 4):=lq 4 FE (QT N) λK g=>uQ.r4 N g (J FE (.exit 0) K)
def acy:=dY aou atp uQ.c uQ.v
theorem aj_:b7 Tryz.prog T 190 acy:=fq (E:=ahD) (aD Cr aX) Tryz.func190 (it:=λN=>aaR N) (λN=>(bk (X0 N) bC)) uQ.b uQ.vo

def Wa:=en [(51,Va)] [(5,[1,2,4,6,7])]
def ao8:Fn [.R, .R] As:=λa b=>[aV [.sh 94 a],aH 3 b]
def at6:Fn [.R, .B] dz:=λa b=>⟨[aV [.ow 94 ai a],aB b],[]⟩
def qZ:Fn [.R, .I, .R] Tb:=λa b c=>[cH 2 3 a,cP 4 0,cP 8 1,cP 12 2,cI 14 b,oB 1 [.sh 94 c],oB 3 [.nl],oB 5 [.nl]]
def ov:Fn [.R, .I, .R, .R] Tb:=λa b c d=>[cH 2 3 a,cP 4 0,cP 8 1,cP 12 2,cI 14 b,oB 1 [.sh 94 c],oB 3 [.nl],oB 5 [.own 3],oR 7 94 d]
def Rh(N:aE)(K:Kt R):=wH.l5 N (J qZ (.exit 0) K) (J ov (.exit 0) K)
def Mf(N:aE)(K:Kt R):=wH.l5a N (J qZ (.exit 0) K) (J ov (.exit 0) K)
def Nh(N:aE):It R:=(lp 5 (al qZ (λK=>Rh N K N) (al ov (λK=>Mf N K N) an)) ln)
theorem N1(N:aE)(K:Kt R):Wd Wa (Nh N) (bU Tryz.f242 5) 5 K ov (Mf N K):=lw (λg=>wH.r5a N (cmp _ qZ (g∘fO)) (cmp _ ov (g∘fO)) (J qZ (.exit 0) K) (J ov (.exit 0) K)) λm i=>by simp only[dN,wf i];rfl
theorem agc(N:aE)(K:Kt R):Wd Wa (Nh N) (bU Tryz.f242 5) 5 K qZ (Rh N K):=lw (λg=>wH.r5 N (cmp _ qZ (g∘fO)) (cmp _ ov (g∘fO)) (J qZ (.exit 0) K) (J ov (.exit 0) K)) λm i=>by simp only[dN,wf i,wf (N1 N K m)];rfl
theorem Yn(N:aE):b8 Wa (Nh N (R:=R)) (bU Tryz.f242 5):=lm 5 (ga qZ (agc N) (ga ov (N1 N) oE))
def acS:=dY ao8 at6 wH.c wH.v
theorem akt:b7 Tryz.prog T 242 acS:=fq (E:=Wa) (aD YI aX) Tryz.func242 (it:=λN=>Nh N) (λN=>(bk (Yn N) bC)) wH.b wH.vo

def E52:=en [(110,Uy)] []
def A52:Fn [.R, .S] As:=λa b=>[aV [.sh 94 a],aS b]
def k52:Fn [.S, .B] dz:=λa b=>⟨[aS a,aB b],[]⟩
def afZ:=dY A52 k52 vO.c vO.v
theorem akW:b7 Tryz.prog T 52 afZ:=fr (E:=E52) (aD abg aX) Tryz.func52 vO.b vO.vo

def ahk:=en [(50,tK),(181,NJ)] [(6,[0,1,4,5,6,7,8,9])]
def anx:Fn [.S, .I] As:=λa b=>[aS a,aI b]
def ast:Fn [.I, .I, .B] dz:=λa b c=>⟨[aI a,aI b,aB c],[]⟩
def yM:Fn [.S, .I, .I, .I, .B, .I, .I, .I] Tb:=λa b c d e f g h=>[cA 0 (.s a),cI 2 b,cI 8 c,cI 10 d,cA 12 (.b e),cI 14 f,cI 16 g,cI 18 h]
def Qu(N:aE)(K:Kt R):=fS.l6 N (J yM .ret K) (J yM (.exit 0) K)
def aay(N:aE):It R:=(lp 6 (al yM (λK=>Qu N K N) an) ln)
theorem XA(N:aE):b8 ahk (aay N (R:=R)) (bU Tryz.f111 6):=lq 6 yM (Qu N) λK g=>fS.r6 N g (J yM .ret K) (J yM (.exit 0) K)
def NA:=dY anx ast (ct _) fS.v
theorem To:b7 Tryz.prog T 111 NA:=fh (E:=ahk) (aD uZ (aD TD aX)) Tryz.func111 (it:=λN=>aay N) (λN=>(bk (XA N) bC)) fS.b λx f h=>fS.eh _ x.1 x.2.1 f.1.1

def E53:=en [(111,NA),(112,NB)] [(5,[0,2,3,4,5])]
def A53:Fn [.S] As:=λa=>[aS a]
def k53:Fn [.R, .I] dz:=λa b=>⟨[aO 9 a,aI b],[]⟩
def Mv:Fn [.S, .I, .I, .R] Tb:=λa b c d=>[cA 0 (.s a),cA 4 .nl,cI 6 b,cA 8 (.own 0),cI 10 c,oR 1 9 d]
def ME:Fn [.S, .I, .I, .R] Tb:=λa b c d=>[cA 0 (.s a),cA 4 (.own 0),cI 6 b,cA 8 (.own 0),cI 10 c,oR 1 9 d]
def ZT(N:aE)(K:Kt R):=Hs.l5 N (J ME .ret K) (J Mv (.exit 0) K)
def ai9(N:aE):It R:=(lp 5 (al Mv (λK=>ZT N K N) an) ln)
theorem afl(N:aE):b8 E53 (ai9 N (R:=R)) (bU Tryz.f53 5):=lq 5 Mv (ZT N) λK g=>Hs.r5 N g (J ME .ret K) (J Mv (.exit 0) K)
def alx:=dY A53 k53 Hs.c Hs.v
theorem auW:b7 Tryz.prog T 53 alx:=fq (E:=E53) (aD To (aD Tp aX)) Tryz.func53 (it:=λN=>ai9 N) (λN=>(bk (afl N) bC)) Hs.b Hs.vo

def apI:=en [(111,NA)] []
def anA:Fn [.S, .I] As:=λa b=>[aS a,aI b]
def asv:Fn [.S, .I, .B] dz:=λa b c=>⟨[aS a,aI b,aB c],[]⟩
def ab1:=dY anA asv (ct _) p8.v
theorem ajE:b7 Tryz.prog T 113 ab1:=fh (E:=apI) (aD To aX) Tryz.func113 (it:=λ_=>ln) (λ_=>bC) (λ_=>p8.b) λx f h=>⟨0,p8.eh _ x.1 x.2.1 f.1.1⟩

def E54:=en [(113,ab1),(111,NA),(114,NC)] []
def A54:Fn [.S] As:=λa=>[aS a]
def k54:Fn [.S, .I, .I, .S, .B] dz:=λa b c d e=>⟨[aV [.s a, .n b, .n c, .s d],aB e],[]⟩
def aly:=dY A54 k54 (ct _) ru.v
theorem auX:b7 Tryz.prog T 54 aly:=fh (E:=E54) (aD ajE (aD To (aD Tq aX))) Tryz.func54 (it:=λ_=>ln) (λ_=>bC) (λ_=>ru.b) λx f h=>⟨0,ru.eh _ x.1 f.1.1⟩

def E14:=en [(51,Va),(52,afZ),(53,alx),(54,aly),(55,af0)] [(7,[3,6,8])]
def A14:Fn [.R] As:=λa=>[aV [.sh 94 a]]
def k14:Fn [.R] dz:=λa=>⟨[aO 51 a],[]⟩
def Mo:Fn [.I, .R, .R] Tb:=λa b c=>[cA 6 (.own 0),cA 12 (.own 1),cI 16 a,oR 1 51 b,oR 3 9 c]
def ZE(N:aE)(K:Kt R):=Hr.l7 N (J Mo (.exit 0) K)
def aiZ(N:aE):It R:=(lp 7 (al Mo (λK=>ZE N K N) an) ln)
theorem ae7(N:aE):b8 E14 (aiZ N (R:=R)) (bU Tryz.f14 7):=lq 7 Mo (ZE N) λK g=>Hr.r7 N g (J Mo (.exit 0) K)
def alp:=dY A14 k14 Hr.c Hr.v
theorem auN:b7 Tryz.prog T 14 alp:=fq (E:=E14) (aD YI (aD akW (aD auW (aD auX (aD akX aX))))) Tryz.func14 (it:=λN=>aiZ N) (λN=>(bk (ae7 N) bC)) Hr.b Hr.vo

def ahP:=en [(51,Va),(52,afZ),(114,NC),(112,NB)] [(9,[1,4,5,6,9,10])]
def ao9:Fn [.R, .R] As:=λa b=>[aV [.sh 94 a],aH 51 b]
def at7:Fn [.R, .B] dz:=λa b=>⟨[aO 218 a,aB b],[]⟩
def FU:Fn [.R, .B, .S, .I, .R] Tb:=λa b c d e=>[cH 2 51 a,cA 8 .nl,cA 10 (.b b),cA 12 (.own 0),cA 18 (.s c),cI 20 d,oR 1 218 e]
def HU:Fn [.R, .B, .S, .I, .R, .R] Tb:=λa b c d e f=>[cH 2 51 a,cA 8 (.own 0),cA 10 (.b b),cA 12 (.own 1),cA 18 (.s c),cI 20 d,oR 1 218 e,oR 3 218 f]
def Ri(N:aE)(K:Kt R):=jF.l9 N (J HU .ret K) (J FU (.exit 0) K)
def aa3(N:aE):It R:=(lp 9 (al FU (λK=>Ri N K N) an) ln)
theorem Yo(N:aE):b8 ahP (aa3 N (R:=R)) (bU Tryz.f243 9):=lq 9 FU (Ri N) λK g=>jF.r9 N g (J HU .ret K) (J FU (.exit 0) K)
def acT:=dY ao9 at7 jF.c jF.v
theorem aku:b7 Tryz.prog T 243 acT:=fq (E:=ahP) (aD YI (aD akW (aD Tq (aD Tp aX)))) Tryz.func243 (it:=λN=>aa3 N) (λN=>(bk (Yo N) bC)) jF.b jF.vo

def E33:=en [(57,Za),(49,U_),(13,Y9),(88,af3)] [(4,[0,1,4,5,6])]
def A33:Fn [.I, .R] As:=λa b=>[aI a,aH 51 b]
def k33:Fn [.I, .R, .R, .R, .R, .I, .R, .R, .I] dz:=λa b c d e f g h i=>⟨[aV [.n a, .ow 51 ai b, .ow 9 ai c, .ow 9 ai d, .ow 26 ai e, .n f, .ow 75 ai g, .ow 72 ai h, .n i]],[]⟩
def Ms:Fn [.I, .R, .I, .I, .I, .I, .I, .I, .I, .R, .R, .R, .R, .R, .R] Tb:=λa b c d e f g h i j k l m o p=>[cI 0 a,cH 2 51 b,cP 8 0,cP 10 1,cI 12 c,oB 1 [.n d, .nl, .nl, .nl, .nl, .n e, .nl, .nl, .n f],oB 3 [.n g, .own 2, .own 3, .own 4, .own 5, .n h, .own 6, .own 7, .n i],oR 5 51 j,oR 7 9 k,oR 9 9 l,oR 11 26 m,oR 13 75 o,oR 15 72 p]
def ZM(N:aE)(K:Kt R):=wL.l4 N (J Ms (.exit 0) K)
def ai4(N:aE):It R:=(lp 4 (al Ms (λK=>ZM N K N) an) ln)
theorem afe(N:aE):b8 E33 (ai4 N (R:=R)) (bU Tryz.f33 4):=lq 4 Ms (ZM N) λK g=>wL.r4 N g (J Ms (.exit 0) K)
def afU:=dY A33 k33 wL.c wL.v
theorem akR:b7 Tryz.prog T 33 afU:=fq (E:=E33) (aD afx (aD YH (aD afv (aD ak0 aX)))) Tryz.func33 (it:=λN=>ai4 N) (λN=>(bk (afe N) bC)) wL.b wL.vo

def V8:=Th T md [(242,acS),(14,alp),(13,Y9),(243,acT),(241,U0),(33,afU)] [(7,[0,6,7,8])] [] [(0,1,.own 51),(0,2,.own 9),(0,3,.own 9),(0,4,.own 26),(0,6,.own 75),(0,7,.own 72),(0,9,.own 94),(0,10,.own 3),(0,11,.own 51)]
def aov:Fn [.I, .R, .R, .R, .R, .I, .R, .R, .I, .R, .R, .R, .I, .I, .S, .I, .R] As:=λa b c d e f g h i j k l m o p q r=>[.pt [.n a, .ow 51 ai b, .ow 9 ai c, .ow 9 ai d, .ow 26 ai e, .n f, .ow 75 ai g, .ow 72 ai h, .n i, .ow 94 ai j, .ow 3 ai k, .ow 51 ai l],aV [.n m, .n o, .s p, .n q, .sh 3 r]]
def atq:Fn [.I, .R, .R, .R, .R, .I, .R, .R, .I, .R, .R, .R] dz:=λa b c d e f g h i j k l=>⟨[],[[.n a, .ow 51 ai b, .ow 9 ai c, .ow 9 ai d, .ow 26 ai e, .n f, .ow 75 ai g, .ow 72 ai h, .n i, .ow 94 ai j, .ow 3 ai k, .ow 51 ai l]]⟩
def qX:Fn [.I, .I, .I, .I, .R, .R, .R, .R, .R, .R, .R, .R, .R, .R, .R] Tb:=λa b c d e f g h i j k l m o p=>[cP 0 900000900,cA 12 (.own 1),cA 14 (.own 2),cI 16 a,oB 1800001801 [.n b, .own 900000001, .own 900000002, .own 900000003, .own 900000004, .n c, .own 900000006, .own 900000007, .n d, .own 9, .own 900000010, .own 900000011],oR 3 51 e,oR 5 51 f,oR 1800000003 51 g,oR 1800000005 9 h,oR 1800000007 9 i,oR 1800000009 26 j,oR 1800000013 75 k,oR 1800000015 72 l,oR 19 94 m,oR 1800000021 3 o,oR 1800000023 51 p]
def ot:Fn [.I, .I, .I, .I, .R, .R, .R, .R, .R, .R, .R, .R, .R, .R, .R] Tb:=λa b c d e f g h i j k l m o p=>[cP 0 900000900,cA 12 (.own 1),cA 14 (.own 2),cI 16 a,oB 1800001801 [.n b, .own 900000001, .own 900000002, .own 900000003, .own 900000004, .n c, .own 900000006, .own 900000007, .n d, .own 900000009, .own 900000010, .own 900000011],oR 3 51 e,oR 5 51 f,oR 1800000003 51 g,oR 1800000005 9 h,oR 1800000007 9 i,oR 1800000009 26 j,oR 1800000013 75 k,oR 1800000015 72 l,oR 1800000019 94 m,oR 1800000021 3 o,oR 1800000023 51 p]
def QU(N:aE)(K:Kt R):=wD.l7 N (J qX (.exit 0) K) (J ot (.exit 0) K)
def Ma(N:aE)(K:Kt R):=wD.l7a N (J qX (.exit 0) K) (J ot (.exit 0) K)
def Nd(N:aE):It R:=(lp 7 (al qX (λK=>QU N K N) (al ot (λK=>Ma N K N) an)) ln)
theorem NZ(N:aE)(K:Kt R):Wd V8 (Nd N) (bU Tryz.f191 7) 7 K ot (Ma N K):=lw (λg=>wD.r7a N (cmp _ qX (g∘fO)) (cmp _ ot (g∘fO)) (J qX (.exit 0) K) (J ot (.exit 0) K)) λm i=>by simp only[dN,wf i];rfl
theorem af_(N:aE)(K:Kt R):Wd V8 (Nd N) (bU Tryz.f191 7) 7 K qX (QU N K):=lw (λg=>wD.r7 N (cmp _ qX (g∘fO)) (cmp _ ot (g∘fO)) (J qX (.exit 0) K) (J ot (.exit 0) K)) λm i=>by simp only[dN,wf i,wf (NZ N K m)];rfl
theorem X1(N:aE):b8 V8 (Nd N (R:=R)) (bU Tryz.f191 7):=lm 7 (ga qX (af_ N) (ga ot (NZ N) oE))
def acz:=dY aov atq wD.c wD.v
theorem aka:b7 Tryz.prog T 191 acz:=fq (E:=V8) (aD akt (aD auN (aD afv (aD aku (aD abI (aD akR aX)))))) Tryz.func191 (it:=λN=>Nd N) (λN=>(bk (X1 N) bC)) wD.b wD.vo

def apM:=Th T md [(185,acs),(186,acu),(187,acv),(188,acw),(189,acx),(190,acy),(191,acz),(192,UN)] [] [] [(0,1,.own 51),(0,2,.own 9),(0,3,.own 9),(0,4,.own 26),(0,6,.own 75),(0,7,.own 72),(0,9,.own 94),(0,10,.own 3),(0,11,.own 51)]
def anD:Fn [.I, .R, .R, .R, .R, .I, .R, .R, .I, .R, .R, .R, .I, .I, .S, .I, .R] As:=λa b c d e f g h i j k l m o p q r=>[.pt [.n a, .ow 51 ai b, .ow 9 ai c, .ow 9 ai d, .ow 26 ai e, .n f, .ow 75 ai g, .ow 72 ai h, .n i, .ow 94 ai j, .ow 3 ai k, .ow 51 ai l],aV [.n m, .n o, .s p, .n q, .sh 3 r]]
def asy:Fn [.I, .I, .R, .R, .R, .R, .I, .R, .R, .I, .R, .R, .R] dz:=λa b c d e f g h i j k l m=>⟨[aI a],[[.n b, .ow 51 ai c, .ow 9 ai d, .ow 9 ai e, .ow 26 ai f, .n g, .ow 75 ai h, .ow 72 ai i, .n j, .ow 94 ai k, .ow 3 ai l, .ow 51 ai m]]⟩
def ab3:=dY anD asy Dj.c Dj.v
theorem ajG:b7 Tryz.prog T 116 ab3:=fr (E:=apM) (aD aj5 (aD aj6 (aD aj7 (aD aj8 (aD aj9 (aD aj_ (aD aka (aD abw aX)))))))) Tryz.func116 Dj.b Dj.vo

def E58:=Th T md [(116,ab3)] [] [] [(0,1,.own 51),(0,2,.own 9),(0,3,.own 9),(0,4,.own 26),(0,6,.own 75),(0,7,.own 72),(0,9,.own 94),(0,10,.own 3),(0,11,.own 51)]
def A58:Fn [.I, .R, .R, .R, .R, .I, .R, .R, .I, .R, .R, .R, .I, .I, .S, .I, .R] As:=λa b c d e f g h i j k l m o p q r=>[.pt [.n a, .ow 51 ai b, .ow 9 ai c, .ow 9 ai d, .ow 26 ai e, .n f, .ow 75 ai g, .ow 72 ai h, .n i, .ow 94 ai j, .ow 3 ai k, .ow 51 ai l],aV [.n m, .n o, .s p, .n q, .sh 3 r]]
def k58:Fn [.I, .R, .R, .R, .R, .I, .R, .R, .I, .R, .R, .R] dz:=λa b c d e f g h i j k l=>⟨[],[[.n a, .ow 51 ai b, .ow 9 ai c, .ow 9 ai d, .ow 26 ai e, .n f, .ow 75 ai g, .ow 72 ai h, .n i, .ow 94 ai j, .ow 3 ai k, .ow 51 ai l]]⟩
def af1:=dY A58 k58 Gd.c Gd.v
theorem akY:b7 Tryz.prog T 58 af1:=fr (E:=E58) (aD ajG aX) Tryz.func58 Gd.b Gd.vo

def E38:=en [(57,Za),(93,alI),(94,af5),(41,Hb),(58,af1)] [(7,[0,5,6,7,8,1000000005009094,1000000005010003,1000000005011051])]
def A38:Fn [.R, .I, .I, .R] As:=λa b c d=>[.pt [.sh 5 a, .n b, .n c],aH 5 d]
def k38:Fn [.R, .R, .I, .I] dz:=λa b c d=>⟨[aO 29 a],[[.sh 5 b, .n c, .n d]]⟩
def Mt:Fn [.I, .I, .R, .I, .I, .I, .I, .I, .R, .R, .R, .R, .R, .R, .R, .R, .R, .R] Tb:=λa b c d e f g h i j k l m o p q r s=>[cP 0 900000900,cP 10 1,cA 12 (.own 2),cI 14 a,cI 16 b,oB 1800001801 [.sh 5 c, .n d, .n e],oB 3 [.n f, .own 3, .own 4, .own 5, .own 6, .n g, .own 7, .own 8, .n h, .own 9, .own 10, .own 11],oR 5 29 i,oR 7 51 j,oR 9 9 k,oR 11 9 l,oR 13 26 m,oR 15 75 o,oR 17 72 p,oR 19 94 q,oR 21 3 r,oR 23 51 s]
def ZO(N:aE)(K:Kt R):=PX.l7 N (J Mt (.exit 0) K)
def ai6(N:aE):It R:=(lp 7 (al Mt (λK=>ZO N K N) an) ln)
theorem afg(N:aE):b8 E38 (ai6 N (R:=R)) (bU Tryz.f38 7):=lq 7 Mt (ZO N) λK g=>PX.r7 N g (J Mt (.exit 0) K)
def alv:=dY A38 k38 PX.c PX.v
theorem auU:b7 Tryz.prog T 38 alv:=fq (E:=E38) (aD afx (aD au7 (aD ak2 (aD Jb (aD akY aX))))) Tryz.func38 (it:=λN=>ai6 N) (λN=>(bk (afg N) bC)) PX.b PX.vo

def E9:=en [(39,afV),(38,alv)] []
def A9:Fn [.R] As:=λa=>[aH 5 a]
def k9:Fn [.R] dz:=λa=>⟨[aO 29 a],[]⟩
def sp9:=dY A9 k9 U9.c U9.v
theorem ok9:b7 Tryz.prog T 9 sp9:=fr (E:=E9) (aD akS (aD auU aX)) Tryz.func9 U9.b U9.vo

def E82:=en [] []
def A82:Fn [.I, .I, .I] As:=λa b c=>[aI a,aI b,aI c]
def k82:Fn [.B] dz:=λa=>⟨[aB a],[]⟩
def qh:=dY A82 k82 (ct _) lr.v
theorem qC:b7 Tryz.prog T 82 qh:=ft (E:=E82) aX Tryz.func82 lr.b λ(a0,a1,a2,_)=>lr.eh _ a0 a1 a2

def E31:=en [(82,qh)] []
def A31:Fn [.I, .I, .S, .I, .R] As:=λa b c d e=>[aV [.n a, .n b, .s c, .n d, .sh 3 e]]
def k31:Fn [.B] dz:=λa=>⟨[aB a],[]⟩
def afS:=dY A31 k31 (ct _) U31.v
theorem akP:b7 Tryz.prog T 31 afS:=ft (E:=E31) (aD qC aX) Tryz.func31 U31.b λ(a0,a1,a2,a3,a4,_)=>U31.eh _ a0 a1 a2 a3 a4

def V5:=en [] [(3,[0,1,3])]
def an2:Fn [] As:=[]
def asX:Fn [.R, .I] dz:=λa b=>⟨[aV [.ow 26 ai a, .n b]],[]⟩
def qV:Fn [.I, .I, .I] Tb:=λa b c=>[cP 0 0,cP 2 1,cI 6 a,oB 1 [.nl, .n b],oB 3 [.nl, .n c]]
def oj:Fn [.I, .I, .I, .R] Tb:=λa b c d=>[cP 0 0,cP 2 1,cI 6 a,oB 1 [.nl, .n b],oB 3 [.own 2, .n c],oR 5 26 d]
def QF(N:aE)(K:Kt R):=Ga.l3 N (J qV (.exit 0) K) (J oj (.exit 0) K)
def L4(N:aE)(K:Kt R):=Ga.sE N (J qV (.exit 0) K) (J oj (.exit 0) K)
def Na(N:aE):It R:=(lp 3 (al qV (λK=>QF N K N) (al oj (λK=>L4 N K N) an)) ln)
theorem NX(N:aE)(K:Kt R):Wd V5 (Na N) (bU Tryz.f159 3) 3 K oj (L4 N K):=lw (λg=>Ga.zw N (cmp _ qV (g∘fO)) (cmp _ oj (g∘fO)) (J qV (.exit 0) K) (J oj (.exit 0) K)) λm i=>by simp only[dN,wf i];rfl
theorem af8(N:aE)(K:Kt R):Wd V5 (Na N) (bU Tryz.f159 3) 3 K qV (QF N K):=lw (λg=>Ga.r3 N (cmp _ qV (g∘fO)) (cmp _ oj (g∘fO)) (J qV (.exit 0) K) (J oj (.exit 0) K)) λm i=>by simp only[dN,wf i,wf (NX N K m)];rfl
theorem XM(N:aE):b8 V5 (Na N (R:=R)) (bU Tryz.f159 3):=lm 3 (ga qV (af8 N) (ga oj (NX N) oE))
def acb:=dY an2 asX Ga.c Ga.v
theorem ajP:b7 Tryz.prog T 159 acb:=fq (E:=V5) aX Tryz.func159 (it:=λN=>Na N) (λN=>(bk (XM N) bC)) Ga.b Ga.vo

def E95:=en [(159,acb)] []
def A95:Fn [] As:=[]
def k95:Fn [.R, .R, .R, .I] dz:=λa b c d=>⟨[aV [.ow 9 ai a, .ow 9 ai b, .ow 26 ai c, .n d]],[]⟩
def alJ:=dY A95 k95 (ct _) U95.v
theorem au8:b7 Tryz.prog T 95 alJ:=ft (E:=E95) (aD ajP aX) Tryz.func95 U95.b λ_=>U95.eh _

def E42:=en [(95,alJ)] []
def A42:Fn [] As:=[]
def k42:Fn [.I, .R, .R, .R, .R, .I, .R, .R, .I] dz:=λa b c d e f g h i=>⟨[aV [.n a, .ow 51 ai b, .ow 9 ai c, .ow 9 ai d, .ow 26 ai e, .n f, .ow 75 ai g, .ow 72 ai h, .n i]],[]⟩
def afX:=dY A42 k42 (ct _) U42.v
theorem akU:b7 Tryz.prog T 42 afX:=ft (E:=E42) (aD au8 aX) Tryz.func42 U42.b λ_=>U42.eh _

def aqs:=en [] []
def aoK:Fn [.R] As:=λa=>[aH 51 a]
def atF:Fn [.R] dz:=λa=>⟨[aO 51 a],[]⟩
def US:=dY aoK atF wF.c wF.v
theorem abB:b7 Tryz.prog T 216 US:=fr (E:=aqs) aX Tryz.func216 wF.b wF.vo

def aqH:=en [] []
def ape:Fn [.R] As:=λa=>[aH 9 a]
def aud:Fn [.R] dz:=λa=>⟨[aO 9 a],[]⟩
def U2:=dY ape aud sV.c sV.v
theorem abK:b7 Tryz.prog T 255 U2:=fr (E:=aqH) aX Tryz.func255 sV.b sV.vo

def aqK:=en [] []
def api:Fn [.R] As:=λa=>[aH 3 a]
def auh:Fn [.R] dz:=λa=>⟨[aO 3 a],[]⟩
def acY:=dY api auh vN.c vN.v
theorem akz:b7 Tryz.prog T 261 acY:=fr (E:=aqK) aX Tryz.func261 vN.b vN.vo

def V_:=en [(261,acY)] [(3,[2,3,10,11,12])]
def aoQ:Fn [.R, .I] As:=λa b=>[aV [.sh 26 a, .n b]]
def atL:Fn [.R, .I] dz:=λa b=>⟨[aV [.ow 26 ai a, .n b]],[]⟩
def qY:Fn [.R, .I, .I, .I, .I] Tb:=λa b c d e=>[cP 4 0,cP 6 1,cH 20 26 a,cI 22 b,cI 24 c,oB 1 [.nl, .n d],oB 3 [.nl, .n e]]
def ou:Fn [.R, .I, .I, .I, .I, .R] Tb:=λa b c d e f=>[cP 4 0,cP 6 1,cH 20 26 a,cI 22 b,cI 24 c,oB 1 [.nl, .n d],oB 3 [.own 2, .n e],oR 5 26 f]
def Q6(N:aE)(K:Kt R):=jj.l3 N (J qY (.exit 0) K) (J ou (.exit 0) K)
def Me(N:aE)(K:Kt R):=jj.sE N (J qY (.exit 0) K) (J ou (.exit 0) K)
def Ng(N:aE):It R:=(lp 3 (al qY (λK=>Q6 N K N) (al ou (λK=>Me N K N) an)) ln)
theorem N0(N:aE)(K:Kt R):Wd V_ (Ng N) (bU Tryz.f224 3) 3 K ou (Me N K):=lw (λg=>jj.zw N (cmp _ qY (g∘fO)) (cmp _ ou (g∘fO)) (J qY (.exit 0) K) (J ou (.exit 0) K)) λm i=>by simp only[dN,wf i];rfl
theorem agb(N:aE)(K:Kt R):Wd V_ (Ng N) (bU Tryz.f224 3) 3 K qY (Q6 N K):=lw (λg=>jj.r3 N (cmp _ qY (g∘fO)) (cmp _ ou (g∘fO)) (J qY (.exit 0) K) (J ou (.exit 0) K)) λm i=>by simp only[dN,wf i,wf (N0 N K m)];rfl
theorem Yc(N:aE):b8 V_ (Ng N (R:=R)) (bU Tryz.f224 3):=lm 3 (ga qY (agb N) (ga ou (N0 N) oE))
def UX:=dY aoQ atL jj.c jj.v
theorem abF:b7 Tryz.prog T 224 UX:=fq (E:=V_) (aD akz aX) Tryz.func224 (it:=λN=>Ng N) (λN=>(bk (Yc N) bC)) jj.b jj.vo

def aqq:=en [(255,U2),(224,UX)] []
def aoG:Fn [.R, .R, .R, .I] As:=λa b c d=>[aV [.sh 9 a, .sh 9 b, .sh 26 c, .n d]]
def atB:Fn [.R, .R, .R, .I] dz:=λa b c d=>⟨[aV [.ow 9 ai a, .ow 9 ai b, .ow 26 ai c, .n d]],[]⟩
def NN:=dY aoG atB jr.c jr.v
theorem TH:b7 Tryz.prog T 212 NN:=fr (E:=aqq) (aD abK (aD abF aX)) Tryz.func212 jr.b jr.vo

def ap4:=en [(216,US),(212,NN)] []
def an3:Fn [.I, .R, .R, .R, .R, .I, .R, .R, .I] As:=λa b c d e f g h i=>[aV [.n a, .sh 51 b, .sh 9 c, .sh 9 d, .sh 26 e, .n f, .sh 75 g, .sh 72 h, .n i]]
def asY:Fn [.I, .R, .R, .R, .R, .I, .R, .R, .I] dz:=λa b c d e f g h i=>⟨[aV [.n a, .ow 51 ai b, .ow 9 ai c, .ow 9 ai d, .ow 26 ai e, .n f, .ow 75 ai g, .ow 72 ai h, .n i]],[]⟩
def CR:=dY an3 asY iL.c iL.v
theorem EJ:b7 Tryz.prog T 160 CR:=fr (E:=ap4) (aD abB (aD TH aX)) Tryz.func160 iL.b iL.vo

def apW:=en [(82,qh)] []
def anT:Fn [.S] As:=λa=>[aS a]
def asO:Fn [.B] dz:=λa=>⟨[aB a],[]⟩
def CQ:=dY anT asO (ct _) zf.v
theorem EI:b7 Tryz.prog T 148 CQ:=ft (E:=apW) (aD qC aX) Tryz.func148 zf.b λ(a0,_)=>zf.eh _ a0

def E86:=en [(82,qh)] []
def A86:Fn [.I] As:=λa=>[aI a]
def k86:Fn [.B] dz:=λa=>⟨[aB a],[]⟩
def Zc:=dY A86 k86 (ct _) RA.v
theorem afz:b7 Tryz.prog T 86 Zc:=ft (E:=E86) (aD qC aX) Tryz.func86 RA.b λ(a0,_)=>RA.eh _ a0

def apR:=en [(148,CQ),(86,Zc),(82,qh)] []
def anM:Fn [.S, .I, .I, .S] As:=λa b c d=>[aV [.s a, .n b, .n c, .s d]]
def asH:Fn [.B] dz:=λa=>⟨[aB a],[]⟩
def Jz:=dY anM asH (ct _) wz.v
theorem Nu:b7 Tryz.prog T 125 Jz:=ft (E:=apR) (aD EI (aD afz (aD qC aX))) Tryz.func125 wz.b λ(a0,a1,a2,a3,_)=>wz.eh _ a0 a1 a2 a3

def aqG:=en [] []
def apd:Fn [.I] As:=λa=>[.v ak [.nl],aI a]
def auc:Fn [.R] dz:=λa=>⟨[aO 9 a],[]⟩
def acW:=dY apd auc Du.c Du.v
theorem akx:b7 Tryz.prog T 254 acW:=fr (E:=aqG) aX Tryz.func254 Du.b Du.vo

def ady:=en [(254,acW)] [(3,[0,3,9,10,11]),(11,[6,25,26,27])]
def aoF:Fn [.R] As:=λa=>[aH 31 a]
def atA:Fn [.R] dz:=λa=>⟨[aO 9 a],[]⟩
def FH:Fn [.R, .I, .R, .I, .I] Tb:=λa b c d e=>[cH 0 31 a,cI 6 b,cH 18 31 c,cI 20 d,cI 22 e]
def AU:Fn [.R, .I, .I, .R] Tb:=λa b c d=>[cA 12 (.own 0),cH 50 31 a,cI 52 b,cI 54 c,oR 1 9 d]
def QZ(N:aE)(K:Kt R):=wE.l3 N (J FH (.exit 0) K)
def Mb(N:aE)(K:Kt R):=wE.O3 N (J AU (.exit 2) K)
def SJ(N:aE):It R:=(lp 3 (al FH (λK=>QZ N K N) an) (lp 11 (al AU (λK=>Mb N K N) an) ln))
theorem X6(N:aE):b8 ady (SJ N (R:=R)) (bU Tryz.f211 3):=lq 3 FH (QZ N) λK g=>wE.r3 N g (J FH (.exit 0) K)
theorem S_(N:aE):b8 ady (SJ N (R:=R)) (bU Tryz.f211 11):=lq 11 AU (Mb N) λK g=>wE.wg N g (J AU (.exit 2) K)
def acD:=dY aoF atA wE.c wE.v
theorem ake:b7 Tryz.prog T 211 acD:=fq (E:=ady) (aD akx aX) Tryz.func211 (it:=λN=>SJ N) (λN=>(bk (X6 N) (bk (S_ N) bC))) wE.b wE.vo

def apV:=en [(211,acD)] []
def anS:Fn [.R, .R, .R, .I] As:=λa b c d=>[aV [.sh 9 a, .sh 9 b, .sh 26 c, .n d]]
def asN:Fn [.R] dz:=λa=>⟨[aO 9 a],[]⟩
def NG:=dY anS asN qo.c qo.v
theorem Tv:b7 Tryz.prog T 147 NG:=fr (E:=apV) (aD ake aX) Tryz.func147 qo.b qo.vo

def ahQ:=en [] [(2,[0,1,4,7,8])]
def apc:Fn [.R, .S] As:=λa b=>[aH 9 a,aS b]
def aub:Fn [.I] dz:=λa=>⟨[aI a],[]⟩
def zb:Fn [.R, .S, .I, .I, .I] Tb:=λa b c d e=>[cH 0 9 a,cA 2 (.s b),cI 8 c,cI 14 d,cI 16 e]
def Rk(N:aE)(K:Kt R):=Ay.l2 N (J zb .ret K) (J zb (.exit 0) K)
def aa4(N:aE):It R:=(lp 2 (al zb (λK=>Rk N K N) an) ln)
theorem Yq(N:aE):b8 ahQ (aa4 N (R:=R)) (bU Tryz.f253 2):=lq 2 zb (Rk N) λK g=>Ay.r2 N g (J zb .ret K) (J zb (.exit 0) K)
def acV:=dY apc aub Ay.c Ay.v
theorem akw:b7 Tryz.prog T 253 acV:=fq (E:=ahQ) aX Tryz.func253 (it:=λN=>aa4 N) (λN=>(bk (Yq N) bC)) Ay.b Ay.vo

def aqp:=en [(253,acV)] []
def aoD:Fn [.R, .S] As:=λa b=>[aH 9 a,aS b]
def aty:Fn [.B] dz:=λa=>⟨[aB a],[]⟩
def NL:=dY aoD aty sw.c sw.v
theorem TF:b7 Tryz.prog T 209 NL:=fr (E:=aqp) (aD akw aX) Tryz.func209 sw.b sw.vo

def apU:=en [(147,NG),(209,NL)] []
def anQ:Fn [.R, .R, .R, .I, .S] As:=λa b c d e=>[aV [.sh 9 a, .sh 9 b, .sh 26 c, .n d],aS e]
def asL:Fn [.B] dz:=λa=>⟨[aB a],[]⟩
def NF:=dY anQ asL sq.c sq.v
theorem Tt:b7 Tryz.prog T 145 NF:=fr (E:=apU) (aD Tv (aD TF aX)) Tryz.func145 sq.b sq.vo

def adx:=en [(82,qh)] [(2,[1,2,8,9,10]),(5,[1,2,4,8,9,10,14,15,16])]
def aoE:Fn [.R, .I] As:=λa b=>[aV [.sh 26 a, .n b]]
def atz:Fn [.B] dz:=λa=>⟨[aB a],[]⟩
def yV:Fn [.B, .R, .I, .I, .R, .I] Tb:=λa b c d e f=>[cP 2 0,cA 4 (.b a),cH 16 26 b,cI 18 c,cI 20 d,oB 1 [.sh 26 e, .n f]]
def yW:Fn [.B, .R, .R, .I, .I, .R, .I, .I, .R, .I] Tb:=λa b c d e f g h i j=>[cP 2 0,cA 4 (.b a),cH 8 3 b,cH 16 26 c,cI 18 d,cI 20 e,cH 28 3 f,cI 30 g,cI 32 h,oB 1 [.sh 26 i, .n j]]
def QX(N:aE)(K:Kt R):=pE.l2 N (J yV .ret K) (J yV (.exit 0) K)
def QY(N:aE)(K:Kt R):=pE.l5 N (J yW .ret K) (J yW (.exit 2) K)
def SI(N:aE):It R:=(lp 2 (al yV (λK=>QX N K N) an) (lp 5 (al yW (λK=>QY N K N) an) ln))
theorem X4(N:aE):b8 adx (SI N (R:=R)) (bU Tryz.f210 2):=lq 2 yV (QX N) λK g=>pE.r2 N g (J yV .ret K) (J yV (.exit 0) K)
theorem X5(N:aE):b8 adx (SI N (R:=R)) (bU Tryz.f210 5):=lq 5 yW (QY N) λK g=>pE.r5 N g (J yW .ret K) (J yW (.exit 2) K)
def NM:=dY aoE atz pE.c pE.v
theorem TG:b7 Tryz.prog T 210 NM:=fq (E:=adx) (aD qC aX) Tryz.func210 (it:=λN=>SI N) (λN=>(bk (X4 N) (bk (X5 N) bC))) pE.b pE.vo

def ahr:=en [(147,NG),(148,CQ),(209,NL),(210,NM)] [(3,[1,2,3,8,9,10])]
def anR:Fn [.R, .R, .R, .I] As:=λa b c d=>[aV [.sh 9 a, .sh 9 b, .sh 26 c, .n d]]
def asM:Fn [.B] dz:=λa=>⟨[aB a],[]⟩
def yQ:Fn [.B, .I, .I, .R, .R, .R, .I, .R] Tb:=λa b c d e f g h=>[cP 2 0,cA 4 (.b a),cA 6 (.own 1),cA 16 (.own 1),cI 18 b,cI 20 c,oB 1 [.sh 9 d, .sh 9 e, .sh 26 f, .n g],oR 3 9 h]
def QC(N:aE)(K:Kt R):=oW.l3 N (J yQ .ret K) (J yQ (.exit 0) K)
def aaF(N:aE):It R:=(lp 3 (al yQ (λK=>QC N K N) an) ln)
theorem XJ(N:aE):b8 ahr (aaF N (R:=R)) (bU Tryz.f146 3):=lq 3 yQ (QC N) λK g=>oW.r3 N g (J yQ .ret K) (J yQ (.exit 0) K)
def UB:=dY anR asM oW.c oW.v
theorem abj:b7 Tryz.prog T 146 UB:=fq (E:=ahr) (aD Tv (aD EI (aD TF (aD TG aX)))) Tryz.func146 (it:=λN=>aaF N) (λN=>(bk (XJ N) bC)) oW.b oW.vo

def E83:=en [(125,Jz),(145,NF),(146,UB),(147,NG)] [(2,[1,2,6,7,8])]
def A83:Fn [.I, .R, .R, .R, .R, .I, .R, .R, .I] As:=λa b c d e f g h i=>[aV [.n a, .sh 51 b, .sh 9 c, .sh 9 d, .sh 26 e, .n f, .sh 75 g, .sh 72 h, .n i]]
def k83:Fn [.B] dz:=λa=>⟨[aB a],[]⟩
def Ec:Fn [.B, .R, .I, .I, .I, .R, .R, .R, .R, .I, .R, .R, .I] Tb:=λa b c d e f g h i j k l m=>[cP 2 0,cA 4 (.b a),cH 12 51 b,cI 14 c,cI 16 d,oB 1 [.n e, .sh 51 f, .sh 9 g, .sh 9 h, .sh 26 i, .n j, .sh 75 k, .sh 72 l, .n m]]
def ZX(N:aE)(K:Kt R):=PY.l2 N (J Ec .ret K) (J Ec (.exit 0) K)
def aja(N:aE):It R:=(lp 2 (al Ec (λK=>ZX N K N) an) ln)
theorem afp(N:aE):b8 E83 (aja N (R:=R)) (bU Tryz.f83 2):=lq 2 Ec (ZX N) λK g=>PY.r2 N g (J Ec .ret K) (J Ec (.exit 0) K)
def alE:=dY A83 k83 PY.c PY.v
theorem au3:b7 Tryz.prog T 83 alE:=fq (E:=E83) (aD Nu (aD Tt (aD abj (aD Tv aX)))) Tryz.func83 (it:=λN=>aja N) (λN=>(bk (afp N) bC)) PY.b PY.vo

def ap1:=en [] []
def an0:Fn [.S, .S, .I, .I, .I, .S] As:=λa b c d e f=>[aV [.s a, .s b, .n c, .n d, .n e], .fb [.s f]]
def asV:Fn [.B] dz:=λa=>⟨[aB a],[]⟩
def aca:=dY an0 asV (ct _) HN.v
theorem ajO:b7 Tryz.prog T 157 aca:=ft (E:=ap1) aX Tryz.func157 HN.b λ(a0,a1,a2,a3,a4,a5,_)=>HN.eh _ a0 a1 a2 a3 a4 a5

def aht:=en [(157,aca)] [(2,[0,1,4,7,8])]
def anZ:Fn [.R, .S] As:=λa b=>[aH 75 a, .v ak [.fn 157 [[.s b]]]]
def asU:Fn [.I] dz:=λa=>⟨[aI a],[]⟩
def yR:Fn [.R, .S, .I, .I, .I] Tb:=λa b c d e=>[cH 0 75 a,cA 2 (.fn 157 [[.s b]]),cI 8 c,cI 14 d,cI 16 e]
def QE(N:aE)(K:Kt R):=qp.l2 N (J yR .ret K) (J yR (.exit 0) K)
def aaH(N:aE):It R:=(lp 2 (al yR (λK=>QE N K N) an) ln)
theorem XL(N:aE):b8 aht (aaH N (R:=R)) (bU Tryz.f156 2):=lq 2 yR (QE N) λK g=>qp.r2 N g (J yR .ret K) (J yR (.exit 0) K)
def ab_:=dY anZ asU qp.c qp.v
theorem ajN:b7 Tryz.prog T 156 ab_:=fq (E:=aht) (aD ajO aX) Tryz.func156 (it:=λN=>aaH N) (λN=>(bk (XL N) bC)) qp.b qp.vo

def E92:=en [(156,ab_)] []
def A92:Fn [.I, .R, .R, .R, .R, .I, .R, .R, .I, .S] As:=λa b c d e f g h i j=>[aV [.n a, .sh 51 b, .sh 9 c, .sh 9 d, .sh 26 e, .n f, .sh 75 g, .sh 72 h, .n i],aS j]
def k92:Fn [.I] dz:=λa=>⟨[aI a],[]⟩
def af4:=dY A92 k92 Kd.c Kd.v
theorem ak1:b7 Tryz.prog T 92 af4:=fr (E:=E92) (aD ajN aX) Tryz.func92 Kd.b Kd.vo

def E35:=en [(92,af4)] [(2,[1,2,6,7,8])]
def A35:Fn [.I, .R, .R, .R, .R, .I, .R, .R, .I] As:=λa b c d e f g h i=>[aV [.n a, .sh 51 b, .sh 9 c, .sh 9 d, .sh 26 e, .n f, .sh 75 g, .sh 72 h, .n i]]
def k35:Fn [.B] dz:=λa=>⟨[aB a],[]⟩
def D9:Fn [.B, .R, .I, .I, .I, .R, .R, .R, .R, .I, .R, .R, .I] Tb:=λa b c d e f g h i j k l m=>[cP 2 0,cA 4 (.b a),cH 12 75 b,cI 14 c,cI 16 d,oB 1 [.n e, .sh 51 f, .sh 9 g, .sh 9 h, .sh 26 i, .n j, .sh 75 k, .sh 72 l, .n m]]
def ZN(N:aE)(K:Kt R):=MC.l2 N (J D9 .ret K) (J D9 (.exit 0) K)
def ai5(N:aE):It R:=(lp 2 (al D9 (λK=>ZN N K N) an) ln)
theorem aff(N:aE):b8 E35 (ai5 N (R:=R)) (bU Tryz.f35 2):=lq 2 D9 (ZN N) λK g=>MC.r2 N g (J D9 .ret K) (J D9 (.exit 0) K)
def alu:=dY A35 k35 MC.c MC.v
theorem auT:b7 Tryz.prog T 35 alu:=fq (E:=E35) (aD ak1 aX) Tryz.func35 (it:=λN=>ai5 N) (λN=>(bk (aff N) bC)) MC.b MC.vo

def E84:=en [(148,CQ),(82,qh),(35,alu)] [(2,[1,2,6,7,8])]
def A84:Fn [.I, .R, .R, .R, .R, .I, .R, .R, .I] As:=λa b c d e f g h i=>[aV [.n a, .sh 51 b, .sh 9 c, .sh 9 d, .sh 26 e, .n f, .sh 75 g, .sh 72 h, .n i]]
def k84:Fn [.B] dz:=λa=>⟨[aB a],[]⟩
def Ed:Fn [.B, .R, .I, .I, .I, .R, .R, .R, .R, .I, .R, .R, .I] Tb:=λa b c d e f g h i j k l m=>[cP 2 0,cA 4 (.b a),cH 12 75 b,cI 14 c,cI 16 d,oB 1 [.n e, .sh 51 f, .sh 9 g, .sh 9 h, .sh 26 i, .n j, .sh 75 k, .sh 72 l, .n m]]
def ZY(N:aE)(K:Kt R):=Og.l2 N (J Ed .ret K) (J Ed (.exit 0) K)
def ajb(N:aE):It R:=(lp 2 (al Ed (λK=>ZY N K N) an) ln)
theorem afq(N:aE):b8 E84 (ajb N (R:=R)) (bU Tryz.f84 2):=lq 2 Ed (ZY N) λK g=>Og.r2 N g (J Ed .ret K) (J Ed (.exit 0) K)
def alF:=dY A84 k84 Og.c Og.v
theorem au4:b7 Tryz.prog T 84 alF:=fq (E:=E84) (aD EI (aD qC (aD auT aX))) Tryz.func84 (it:=λN=>ajb N) (λN=>(bk (afq N) bC)) Og.b Og.vo

def E85:=en [(82,qh),(148,CQ)] [(2,[1,2,6,7,8])]
def A85:Fn [.I, .R, .R, .R, .R, .I, .R, .R, .I] As:=λa b c d e f g h i=>[aV [.n a, .sh 51 b, .sh 9 c, .sh 9 d, .sh 26 e, .n f, .sh 75 g, .sh 72 h, .n i]]
def k85:Fn [.B] dz:=λa=>⟨[aB a],[]⟩
def Ee:Fn [.B, .R, .I, .I, .I, .R, .R, .R, .R, .I, .R, .R, .I] Tb:=λa b c d e f g h i j k l m=>[cP 2 0,cA 4 (.b a),cH 12 72 b,cI 14 c,cI 16 d,oB 1 [.n e, .sh 51 f, .sh 9 g, .sh 9 h, .sh 26 i, .n j, .sh 75 k, .sh 72 l, .n m]]
def ZZ(N:aE)(K:Kt R):=PZ.l2 N (J Ee .ret K) (J Ee (.exit 0) K)
def ajc(N:aE):It R:=(lp 2 (al Ee (λK=>ZZ N K N) an) ln)
theorem afr(N:aE):b8 E85 (ajc N (R:=R)) (bU Tryz.f85 2):=lq 2 Ee (ZZ N) λK g=>PZ.r2 N g (J Ee .ret K) (J Ee (.exit 0) K)
def alG:=dY A85 k85 PZ.c PZ.v
theorem au5:b7 Tryz.prog T 85 alG:=fq (E:=E85) (aD qC (aD EI aX)) Tryz.func85 (it:=λN=>ajc N) (λN=>(bk (afr N) bC)) PZ.b PZ.vo

def E30:=en [(82,qh),(83,alE),(84,alF),(85,alG),(86,Zc)] []
def A30:Fn [.I, .R, .R, .R, .R, .I, .R, .R, .I] As:=λa b c d e f g h i=>[aV [.n a, .sh 51 b, .sh 9 c, .sh 9 d, .sh 26 e, .n f, .sh 75 g, .sh 72 h, .n i]]
def k30:Fn [.B] dz:=λa=>⟨[aB a],[]⟩
def Y_:=dY A30 k30 JH.c JH.v
theorem afw:b7 Tryz.prog T 30 Y_:=fr (E:=E30) (aD qC (aD au3 (aD au4 (aD au5 (aD afz aX))))) Tryz.func30 JH.b JH.vo

def aqb:=en [] []
def aof:Fn [.I, .S, .I, .I, .I, .S, .I, .I] As:=λa b c d e f g h=>[aV [.n a, .s b, .n c, .n d, .n e, .s f, .n g], .fb [.n h]]
def ata:Fn [.B] dz:=λa=>⟨[aB a],[]⟩
def acm:=dY aof ata (ct _) J6.v
theorem ajZ:b7 Tryz.prog T 174 acm:=ft (E:=aqb) aX Tryz.func174 J6.b λ(a0,a1,a2,a3,a4,a5,a6,a7,_)=>J6.eh _ a0 a1 a2 a3 a4 a5 a6 a7

def Zv:=en [(174,acm)] [(2,[0,1,4,7,8])]
def ahb:Fn [.R, .I] As:=λa b=>[aH 72 a, .v ak [.fn 174 [[.n b]]]]
def ajh:Fn [.I] dz:=λa=>⟨[aI a],[]⟩
def t_:Fn [.R, .I, .I, .I, .I] Tb:=λa b c d e=>[cH 0 72 a,cA 2 (.fn 174 [[.n b]]),cI 8 c,cI 14 d,cI 16 e]
def L7(N:aE)(K:Kt R):=qq.l2 N (J t_ .ret K) (J t_ (.exit 0) K)
def SE(N:aE):It R:=(lp 2 (al t_ (λK=>L7 N K N) an) ln)
theorem S7(N:aE):b8 Zv (SE N (R:=R)) (bU Tryz.f173 2):=lq 2 t_ (L7 N) λK g=>qq.r2 N g (J t_ .ret K) (J t_ (.exit 0) K)
def Ly:=dY ahb ajh qq.c qq.v
theorem TB:b7 Tryz.prog T 173 Ly:=fq (E:=Zv) (aD ajZ aX) Tryz.func173 (it:=λN=>SE N) (λN=>(bk (S7 N) bC)) qq.b qq.vo

def aqc:=en [] []
def aoh:Fn [.I, .S, .I, .I, .I, .S, .I, .I] As:=λa b c d e f g h=>[aV [.n a, .s b, .n c, .n d, .n e, .s f, .n g], .fb [.n h]]
def atc:Fn [.B] dz:=λa=>⟨[aB a],[]⟩
def UK:=dY aoh atc (ct _) Au.v
theorem abt:b7 Tryz.prog T 176 UK:=ft (E:=aqc) aX Tryz.func176 Au.b λ(a0,a1,a2,a3,a4,a5,a6,a7,_)=>Au.eh _ a0 a1 a2 a3 a4 a5 a6 a7

def Zw:=en [(176,UK)] [(2,[0,1,4,7,8])]
def ahc:Fn [.R, .I] As:=λa b=>[aH 72 a, .v ak [.fn 176 [[.n b]]]]
def aji:Fn [.I] dz:=λa=>⟨[aI a],[]⟩
def ua:Fn [.R, .I, .I, .I, .I] Tb:=λa b c d e=>[cH 0 72 a,cA 2 (.fn 176 [[.n b]]),cI 8 c,cI 14 d,cI 16 e]
def L8(N:aE)(K:Kt R):=na.l2 N (J ua .ret K) (J ua (.exit 0) K)
def SF(N:aE):It R:=(lp 2 (al ua (λK=>L8 N K N) an) ln)
theorem S8(N:aE):b8 Zw (SF N (R:=R)) (bU Tryz.f173 2):=lq 2 ua (L8 N) λK g=>na.r2 N g (J ua .ret K) (J ua (.exit 0) K)
def LA:=dY ahc aji na.c na.v
theorem TC:b7 Tryz.prog T 173 LA:=fq (E:=Zw) (aD abt aX) Tryz.func173 (it:=λN=>SF N) (λN=>(bk (S8 N) bC)) na.b na.vo

def apB:=en [(173,Ly),(173,LA)] []
def ano:Fn [.I, .R, .R, .R, .R, .I, .R, .R, .I, .I] As:=λa b c d e f g h i j=>[aV [.n a, .sh 51 b, .sh 9 c, .sh 9 d, .sh 26 e, .n f, .sh 75 g, .sh 72 h, .n i],aI j]
def asi:Fn [.I] dz:=λa=>⟨[aI a],[]⟩
def Uw:=dY ano asi ze.c ze.v
theorem abe:b7 Tryz.prog T 101 Uw:=fr (E:=apB) (aD TB (aD TC aX)) Tryz.func101 ze.b ze.vo

def ap5:=en [] []
def an4:Fn [.S, .I, .I, .S, .S] As:=λa b c d e=>[aV [.s a, .n b, .n c, .s d], .fb [.s e]]
def asZ:Fn [.B] dz:=λa=>⟨[aB a],[]⟩
def acd:=dY an4 asZ (ct _) J4.v
theorem ajQ:b7 Tryz.prog T 161 acd:=ft (E:=ap5) aX Tryz.func161 J4.b λ(a0,a1,a2,a3,a4,_)=>J4.eh _ a0 a1 a2 a3 a4

def Zs:=en [(161,acd)] [(2,[0,1,4,7,8])]
def ag9:Fn [.R, .S] As:=λa b=>[aH 51 a, .v ak [.fn 161 [[.s b]]]]
def aje:Fn [.I] dz:=λa=>⟨[aI a],[]⟩
def tX:Fn [.R, .S, .I, .I, .I] Tb:=λa b c d e=>[cH 0 51 a,cA 2 (.fn 161 [[.s b]]),cI 8 c,cI 14 d,cI 16 e]
def LZ(N:aE)(K:Kt R):=pL.l2 N (J tX .ret K) (J tX (.exit 0) K)
def SB(N:aE):It R:=(lp 2 (al tX (λK=>LZ N K N) an) ln)
theorem S2(N:aE):b8 Zs (SB N (R:=R)) (bU Tryz.f155 2):=lq 2 tX (LZ N) λK g=>pL.r2 N g (J tX .ret K) (J tX (.exit 0) K)
def Lv:=dY ag9 aje pL.c pL.v
theorem Tx:b7 Tryz.prog T 155 Lv:=fq (E:=Zs) (aD ajQ aX) Tryz.func155 (it:=λN=>SB N) (λN=>(bk (S2 N) bC)) pL.b pL.vo

def aqt:=en [] []
def aoL:Fn [.S, .I, .I, .S, .S] As:=λa b c d e=>[aV [.s a, .n b, .n c, .s d], .fb [.s e]]
def atG:Fn [.B] dz:=λa=>⟨[aB a],[]⟩
def UT:=dY aoL atG (ct _) Ax.v
theorem abC:b7 Tryz.prog T 217 UT:=ft (E:=aqt) aX Tryz.func217 Ax.b λ(a0,a1,a2,a3,a4,_)=>Ax.eh _ a0 a1 a2 a3 a4

def Zt:=en [(217,UT)] [(2,[0,1,4,7,8])]
def ag_:Fn [.R, .S] As:=λa b=>[aH 51 a, .v ak [.fn 217 [[.s b]]]]
def ajf:Fn [.I] dz:=λa=>⟨[aI a],[]⟩
def tY:Fn [.R, .S, .I, .I, .I] Tb:=λa b c d e=>[cH 0 51 a,cA 2 (.fn 217 [[.s b]]),cI 8 c,cI 14 d,cI 16 e]
def L0(N:aE)(K:Kt R):=m_.l2 N (J tY .ret K) (J tY (.exit 0) K)
def SC(N:aE):It R:=(lp 2 (al tY (λK=>L0 N K N) an) ln)
theorem S3(N:aE):b8 Zt (SC N (R:=R)) (bU Tryz.f155 2):=lq 2 tY (L0 N) λK g=>m_.r2 N g (J tY .ret K) (J tY (.exit 0) K)
def Lw:=dY ag_ ajf m_.c m_.v
theorem Ty:b7 Tryz.prog T 155 Lw:=fq (E:=Zt) (aD abC aX) Tryz.func155 (it:=λN=>SC N) (λN=>(bk (S3 N) bC)) m_.b m_.vo

def E89:=en [] []
def A89:Fn [.S, .I, .I, .S, .I, .S, .I, .I, .I, .S, .I] As:=λa b c d e f g h i j k=>[aV [.s a, .n b, .n c, .s d], .fb [.n e, .s f, .n g, .n h, .n i, .s j, .n k]]
def k89:Fn [.B] dz:=λa=>⟨[aB a],[]⟩
def alH:=dY A89 k89 (ct _) U89.v
theorem au6:b7 Tryz.prog T 89 alH:=ft (E:=E89) aX Tryz.func89 U89.b λ(a0,a1,a2,a3,a4,a5,a6,a7,a8,a9,a10,_)=>U89.eh _ a0 a1 a2 a3 a4 a5 a6 a7 a8 a9 a10

def Zu:=en [(89,alH)] [(2,[0,1,4,7,8])]
def aha:Fn [.R, .I, .S, .I, .I, .I, .S, .I] As:=λa b c d e f g h=>[aH 51 a, .v ak [.fn 89 [[.n b, .s c, .n d, .n e, .n f, .s g, .n h]]]]
def ajg:Fn [.I] dz:=λa=>⟨[aI a],[]⟩
def tZ:Fn [.R, .I, .S, .I, .I, .I, .S, .I, .I, .I, .I] Tb:=λa b c d e f g h i j k=>[cH 0 51 a,cA 2 (.fn 89 [[.n b, .s c, .n d, .n e, .n f, .s g, .n h]]),cI 8 i,cI 14 j,cI 16 k]
def L3(N:aE)(K:Kt R):=BG.l2 N (J tZ .ret K) (J tZ (.exit 0) K)
def SD(N:aE):It R:=(lp 2 (al tZ (λK=>L3 N K N) an) ln)
theorem S4(N:aE):b8 Zu (SD N (R:=R)) (bU Tryz.f155 2):=lq 2 tZ (L3 N) λK g=>BG.r2 N g (J tZ .ret K) (J tZ (.exit 0) K)
def Lx:=dY aha ajg BG.c BG.v
theorem Tz:b7 Tryz.prog T 155 Lx:=fq (E:=Zu) (aD au6 aX) Tryz.func155 (it:=λN=>SD N) (λN=>(bk (S4 N) bC)) BG.b BG.vo

def E62:=en [(125,Jz),(86,Zc),(82,qh)] []
def A62:Fn [.S, .I, .I, .S, .I] As:=λa b c d e=>[aV [.s a, .n b, .n c, .s d],aI e]
def k62:Fn [.B] dz:=λa=>⟨[aB a],[]⟩
def Zb:=dY A62 k62 (ct _) Ge.v
theorem afy:b7 Tryz.prog T 62 Zb:=ft (E:=E62) (aD Nu (aD afz (aD qC aX))) Tryz.func62 Ge.b λ(a0,a1,a2,a3,a4,_)=>Ge.eh _ a0 a1 a2 a3 a4

def adC:=en [] [(2,[0,1,5]),(6,[0,1,5,19])]
def aps:Fn [.I, .S] As:=λa b=>[.v ak [.i .u32 a],aS b]
def auq:Fn [.I] dz:=λa=>⟨[.v ak [.i .u32 a]],[]⟩
def FX:Fn [.I, .S, .I] Tb:=λa b c=>[cA 0 (.i .u32 a),cA 2 (.s b),cI 10 c]
def FY:Fn [.I, .S, .I, .I] Tb:=λa b c d=>[cA 0 (.i .u32 a),cA 2 (.s b),cI 10 c,cI 38 d]
def Ro(N:aE)(K:Kt R):=wJ.l2 N (J FX (.exit 0) K)
def Rp(N:aE)(K:Kt R):=wJ.l6 N (J FY (.exit 2) K)
def SQ(N:aE):It R:=(lp 2 (al FX (λK=>Ro N K N) an) (lp 6 (al FY (λK=>Rp N K N) an) ln))
theorem Yu(N:aE):b8 adC (SQ N (R:=R)) (bU Tryz.f270 2):=lq 2 FX (Ro N) λK g=>wJ.r2 N g (J FX (.exit 0) K)
theorem Yv(N:aE):b8 adC (SQ N (R:=R)) (bU Tryz.f270 6):=lq 6 FY (Rp N) λK g=>wJ.r6 N g (J FY (.exit 2) K)
def ac6:=dY aps auq wJ.c wJ.v
theorem akH:b7 Tryz.prog T 270 ac6:=fq (E:=adC) aX Tryz.func270 (it:=λN=>SQ N) (λN=>(bk (Yu N) (bk (Yv N) bC))) wJ.b wJ.vo

def aqF:=en [(270,ac6)] []
def apb:Fn [.S] As:=λa=>[aS a]
def aua:Fn [.I] dz:=λa=>⟨[.v ak [.i .u32 a]],[]⟩
def U1:=dY apb aua uU.c uU.v
theorem abJ:b7 Tryz.prog T 247 U1:=fr (E:=aqF) (aD akH aX) Tryz.func247 uU.b uU.vo

def aqu:=en [(247,U1)] []
def aoR:Fn [.I, .S] As:=λa b=>[aI a,aS b]
def atM:Fn [.I] dz:=λa=>⟨[aI a],[]⟩
def UY:=dY aoR atM qs.c qs.v
theorem abG:b7 Tryz.prog T 225 UY:=fr (E:=aqu) (aD abJ aX) Tryz.func225 qs.b qs.vo

def V6:=en [(224,UX),(210,NM),(225,UY)] [(5,[1,4,5,19,20,21]),(15,[4,5,49,50,51]),(18,[4,5,10,49,50,51,56,57])]
def an7:Fn [.R, .I, .S] As:=λa b c=>[aV [.sh 26 a, .n b],aS c]
def as2:Fn [.R, .I] dz:=λa b=>⟨[aV [.ow 26 ai a, .n b]],[]⟩
def Ft:Fn [.S, .I, .I, .I, .I, .R] Tb:=λa b c d e f=>[cA 2 (.s a),cP 8 0,cP 10 1,cA 38 (.own 2),cI 40 b,cI 42 c,oB 1 [.nl, .n d],oB 3 [.own 2, .n e],oR 5 26 f]
def AP:Fn [.I, .I, .I, .I, .R] Tb:=λa b c d e=>[cP 8 0,cP 10 1,cA 98 (.own 2),cI 100 a,cI 102 b,oB 1 [.nl, .n c],oB 3 [.own 2, .n d],oR 5 26 e]
def AQ:Fn [.N, .I, .I, .I, .I, .I, .I, .R] Tb:=λa b c d e f g h=>[cP 8 0,cP 10 1,cA 20 (.inn 2 a 0),cA 98 (.own 2),cI 100 b,cI 102 c,cI 112 d,cI 114 e,oB 1 [.nl, .n f],oB 3 [.own 2, .n g],oR 5 26 h]
def QH(N:aE)(K:Kt R):=iH.l5 N (J Ft (.exit 0) K)
def L5(N:aE)(K:Kt R):=iH.l15 N (J AP (.exit 2) K)
def L6(N:aE)(K:Kt R):=iH.l18 N (J AQ (.exit 4) K)
def Nb(N:aE):It R:=(lp 5 (al Ft (λK=>QH N K N) an) (lp 15 (al AP (λK=>L5 N K N) an) (lp 18 (al AQ (λK=>L6 N K N) an) ln)))
theorem XO(N:aE):b8 V6 (Nb N (R:=R)) (bU Tryz.f164 5):=lq 5 Ft (QH N) λK g=>iH.r5 N g (J Ft (.exit 0) K)
theorem S5(N:aE):b8 V6 (Nb N (R:=R)) (bU Tryz.f164 15):=lq 15 AP (L5 N) λK g=>iH.r15 N g (J AP (.exit 2) K)
theorem S6(N:aE):b8 V6 (Nb N (R:=R)) (bU Tryz.f164 18):=lq 18 AQ (L6 N) λK g=>iH.r18 N g (J AQ (.exit 4) K)
def UH:=dY an7 as2 iH.c iH.v
theorem abp:b7 Tryz.prog T 164 UH:=fq (E:=V6) (aD abF (aD TG (aD abG aX))) Tryz.func164 (it:=λN=>Nb N) (λN=>(bk (XO N) (bk (S5 N) (bk (S6 N) bC)))) iH.b iH.vo

def aqI:=en [] []
def apg:Fn [.S, .S] As:=λa b=>[aS a, .fb [.s b]]
def auf:Fn [.B] dz:=λa=>⟨[aB a],[]⟩
def U3:=dY apg auf (ct _) Az.v
theorem abL:b7 Tryz.prog T 257 U3:=ft (E:=aqI) aX Tryz.func257 Az.b λ(a0,a1,_)=>Az.eh _ a0 a1

def ahU:=en [(257,U3)] [(2,[0,1,4,7,8])]
def apt:Fn [.R, .S] As:=λa b=>[aH 9 a, .v ak [.fn 257 [[.s b]]]]
def aur:Fn [.I] dz:=λa=>⟨[aI a],[]⟩
def zd:Fn [.R, .S, .I, .I, .I] Tb:=λa b c d e=>[cH 0 9 a,cA 2 (.fn 257 [[.s b]]),cI 8 c,cI 14 d,cI 16 e]
def Rq(N:aE)(K:Kt R):=sB.l2 N (J zd .ret K) (J zd (.exit 0) K)
def aa8(N:aE):It R:=(lp 2 (al zd (λK=>Rq N K N) an) ln)
theorem Yw(N:aE):b8 ahU (aa8 N (R:=R)) (bU Tryz.f272 2):=lq 2 zd (Rq N) λK g=>sB.r2 N g (J zd .ret K) (J zd (.exit 0) K)
def ac7:=dY apt aur sB.c sB.v
theorem akI:b7 Tryz.prog T 272 ac7:=fq (E:=ahU) (aD abL aX) Tryz.func272 (it:=λN=>aa8 N) (λN=>(bk (Yw N) bC)) sB.b sB.vo

def ahR:=en [(272,ac7),(257,U3)] [(5,[0,1,5,6])]
def apf:Fn [.R, .S] As:=λa b=>[aO 9 a, .v ak [.fn 257 [[.s b]]]]
def aue:Fn [.R] dz:=λa=>⟨[aO 9 a],[[.nl]]⟩
def FV:Fn [.S, .I, .I, .R] Tb:=λa b c d=>[cA 0 (.own 900000000),cA 2 (.fn 257 [[.s a]]),cI 10 b,cI 12 c,oR 1800000001 9 d]
def Rl(N:aE)(K:Kt R):=wI.l5 N (J FV (.exit 0) K)
def aa5(N:aE):It R:=(lp 5 (al FV (λK=>Rl N K N) an) ln)
theorem Yr(N:aE):b8 ahR (aa5 N (R:=R)) (bU Tryz.f256 5):=lq 5 FV (Rl N) λK g=>wI.r5 N g (J FV (.exit 0) K)
def acX:=dY apf aue wI.c wI.v
theorem aky:b7 Tryz.prog T 256 acX:=fq (E:=ahR) (aD akI (aD abL aX)) Tryz.func256 (it:=λN=>aa5 N) (λN=>(bk (Yr N) bC)) wI.b wI.vo

def aqr:=en [(255,U2),(256,acX)] []
def aoH:Fn [.R, .S] As:=λa b=>[aH 9 a,aS b]
def atC:Fn [.R] dz:=λa=>⟨[aO 9 a],[]⟩
def UR:=dY aoH atC j4.c j4.v
theorem abA:b7 Tryz.prog T 213 UR:=fr (E:=aqr) (aD abK (aD aky aX)) Tryz.func213 j4.b j4.vo

def ahG:=en [(210,NM),(225,UY)] [(5,[1,5,12,13,14])]
def aoI:Fn [.R, .I, .S] As:=λa b c=>[aV [.sh 26 a, .n b],aS c]
def atD:Fn [.I] dz:=λa=>⟨[aI a],[]⟩
def FI:Fn [.S, .I, .R, .I, .I] Tb:=λa b c d e=>[cA 2 (.s a),cI 10 b,cH 24 26 c,cI 26 d,cI 28 e]
def Q0(N:aE)(K:Kt R):=vM.l5 N (J FI (.exit 0) K)
def aaU(N:aE):It R:=(lp 5 (al FI (λK=>Q0 N K N) an) ln)
theorem X7(N:aE):b8 ahG (aaU N (R:=R)) (bU Tryz.f214 5):=lq 5 FI (Q0 N) λK g=>vM.r5 N g (J FI (.exit 0) K)
def acE:=dY aoI atD vM.c vM.v
theorem akf:b7 Tryz.prog T 214 acE:=fq (E:=ahG) (aD TG (aD abG aX)) Tryz.func214 (it:=λN=>aaU N) (λN=>(bk (X7 N) bC)) vM.b vM.vo

def apX:=en [(212,NN),(146,UB),(148,CQ),(164,UH),(209,NL),(213,UR),(214,acE)] []
def anU:Fn [.R, .R, .R, .I, .S] As:=λa b c d e=>[aV [.sh 9 a, .sh 9 b, .sh 26 c, .n d],aS e]
def asP:Fn [.R, .R, .R, .I, .S] dz:=λa b c d e=>⟨[aV [.ow 9 ai a, .ow 9 ai b, .ow 26 ai c, .n d],aS e],[]⟩
def UC:=dY anU asP zg.c zg.v
theorem abk:b7 Tryz.prog T 149 UC:=fr (E:=apX) (aD TH (aD abj (aD EI (aD abp (aD TF (aD abA (aD akf aX))))))) Tryz.func149 zg.b zg.vo

def afM:PO:=⟨λn=>bif bD n 22 then 223 else bif bD n 29 then 259 else 260,λn=>bif bD n 24 then 38 else bif bD n 9 then 72 else bif bD n 3 then 3 else bif bD n 4 then 4 else n,λn=>n⟩
def acH:aC fa->az (aW×dz):=Ins.xD 72 72
theorem aeP:Ins.L Tryz.prog afM "slices.Insert[[]loop.example/g00245/impl.Client,loop.example/g00245/impl.Client]" 7 where
 mixed:=hM
 f22:=Tryz.func223.trans (by kernel_rfl)
 t3:=by kernel_rfl
 a3:=Ins.kY (P:=Tryz.prog) (t:=3) (d:= .int .i64) (by kernel_rfl) rfl
 t4:=by kernel_rfl
 a4:=Ins.kY (P:=Tryz.prog) (t:=4) (d:= .bool) (by kernel_rfl) rfl
 t24:=by kernel_rfl
 a24:=Ins.kY (P:=Tryz.prog) (t:=38) (d:= .slice 72) (by kernel_rfl) rfl
 z9:=Ins.G9 hE (t:=72) (ti:=⟨ai,[.i .i64, .s, .i .i64, .i .i64, .i .i64, .s, .i .i64],72⟩) (by kernel_rfl)
theorem aki:b7 Tryz.prog T 223 acH:=
 Ins.zn (e:=72) (te:=⟨ai,[.i .i64, .s, .i .i64, .i .i64, .i .i64, .s, .i .i64],72⟩) (by kernel_rfl) rfl (by kernel_rfl) hE aeP
  (λargs w=>run_callFunc_extern (e:=fG #[38,38] #[4]) Tryz.func259 (by kernel_rfl) (by kernel_rfl) (by kernel_rfl) (by kernel_rfl) args w)
  ⟨_,Tryz.func223,by kernel_rfl,by kernel_rfl⟩

def ahu:=en [(223,acH)] [(2,[0,3,4])]
def an5:Fn [.I, .R, .R, .R, .R, .I, .R, .R, .I, .I, .S, .I, .I, .I, .S, .I] As:=λa b c d e f g h i j k l m o p q=>[.pt [.n a, .ow 51 ai b, .ow 9 ai c, .ow 9 ai d, .ow 26 ai e, .n f, .ow 75 ai g, .ow 72 ai h, .n i],aV [.n j, .s k, .n l, .n m, .n o, .s p, .n q]]
def as0:Fn [.I, .R, .R, .R, .R, .I, .R, .R, .I] dz:=λa b c d e f g h i=>⟨[],[[.n a, .kp b, .kp c, .kp d, .kp e, .n f, .kp g, .ow 72 ai h, .n i]]⟩
def Fs:Fn [.I, .I, .I, .I, .I, .S, .I, .I, .I, .S, .I, .R, .R, .R, .R, .R, .R] Tb:=λa b c d e f g h i j k l m o p q r=>[cP 0 900000900,cP 6 1,cI 8 a,oB 1800001801 [.n b, .own 900000001, .own 900000002, .own 900000003, .own 900000004, .n c, .own 900000006, .own 900000007, .n d],oB 3 [.n e, .s f, .n g, .n h, .n i, .s j, .n k],oR 1800000003 51 l,oR 1800000005 9 m,oR 1800000007 9 o,oR 1800000009 26 p,oR 1800000013 75 q,oR 1800000015 72 r]
def QG(N:aE)(K:Kt R):=ji.l2 N (J Fs (.exit 0) K)
def aaI(N:aE):It R:=(lp 2 (al Fs (λK=>QG N K N) an) ln)
theorem XN(N:aE):b8 ahu (aaI N (R:=R)) (bU Tryz.f162 2):=lq 2 Fs (QG N) λK g=>ji.r2 N g (J Fs (.exit 0) K)
def ace:=dY an5 as0 ji.c ji.v
theorem ajR:b7 Tryz.prog T 162 ace:=fq (E:=ahu) (aD aki aX) Tryz.func162 (it:=λN=>aaI N) (λN=>(bk (XN N) bC)) ji.b ji.vo

def ahH:=en [(155,Lv),(155,Lw),(155,Lx),(217,UT)] [(5,[0,1,5,6])]
def aoJ:Fn [.R, .S] As:=λa b=>[aO 51 a, .v ak [.fn 217 [[.s b]]]]
def atE:Fn [.R] dz:=λa=>⟨[aO 51 a],[[.nl]]⟩
def FJ:Fn [.S, .I, .I, .R] Tb:=λa b c d=>[cA 0 (.own 900000000),cA 2 (.fn 217 [[.s a]]),cI 10 b,cI 12 c,oR 1800000001 51 d]
def Q1(N:aE)(K:Kt R):=oY.l5 N (J FJ (.exit 0) K)
def aaV(N:aE):It R:=(lp 5 (al FJ (λK=>Q1 N K N) an) ln)
theorem X8(N:aE):b8 ahH (aaV N (R:=R)) (bU Tryz.f215 5):=lq 5 FJ (Q1 N) λK g=>oY.r5 N g (J FJ (.exit 0) K)
def acF:=dY aoJ atE oY.c oY.v
theorem akg:b7 Tryz.prog T 215 acF:=fq (E:=ahH) (aD Tx (aD Ty (aD Tz (aD abC aX)))) Tryz.func215 (it:=λN=>aaV N) (λN=>(bk (X8 N) bC)) oY.b oY.vo

def apY:=en [(216,US),(215,acF)] []
def anV:Fn [.R, .S] As:=λa b=>[aH 51 a,aS b]
def asQ:Fn [.R] dz:=λa=>⟨[aO 51 a],[]⟩
def NH:=dY anV asQ pD.c pD.v
theorem Tw:b7 Tryz.prog T 150 NH:=fr (E:=apY) (aD abB (aD akg aX)) Tryz.func150 pD.b pD.vo

def ap6:=en [(212,NN),(213,UR)] []
def an6:Fn [.R, .R, .R, .I, .S] As:=λa b c d e=>[aV [.sh 9 a, .sh 9 b, .sh 26 c, .n d],aS e]
def as1:Fn [.R, .R, .R, .I] dz:=λa b c d=>⟨[aV [.ow 9 ai a, .ow 9 ai b, .ow 26 ai c, .n d]],[]⟩
def acf:=dY an6 as1 uN.c uN.v
theorem ajS:b7 Tryz.prog T 163 acf:=fr (E:=ap6) (aD TH (aD abA aX)) Tryz.func163 uN.b uN.vo

def E96:=en [(160,CR),(30,Y_),(82,qh),(148,CQ),(101,Uw),(155,Lv),(155,Lw),(155,Lx),(62,Zb),(149,UC),(162,ace),(92,af4),(150,NH),(163,acf),(164,UH)] []
def A96:Fn [.I, .R, .R, .R, .R, .I, .R, .R, .I, .I, .S] As:=λa b c d e f g h i j k=>[aV [.n a, .sh 51 b, .sh 9 c, .sh 9 d, .sh 26 e, .n f, .sh 75 g, .sh 72 h, .n i],aI j,aS k]
def k96:Fn [.I, .R, .R, .R, .R, .I, .R, .R, .I, .I] dz:=λa b c d e f g h i j=>⟨[aV [.n a, .ow 51 ai b, .ow 9 ai c, .ow 9 ai d, .ow 26 ai e, .n f, .ow 75 ai g, .ow 72 ai h, .n i],aI j],[]⟩
def alK:=dY A96 k96 RB.c RB.v
theorem au9:b7 Tryz.prog T 96 alK:=fr (E:=E96) (aD EJ (aD afw (aD qC (aD EI (aD abe (aD Tx (aD Ty (aD Tz (aD afy (aD abk (aD ajR (aD ak1 (aD Tw (aD ajS (aD abp aX))))))))))))))) Tryz.func96 RB.b RB.vo

def ap7:=en [(30,Y_),(82,qh)] []
def an8:Fn [.I, .R, .R, .R, .R, .I, .R, .R, .I, .I] As:=λa b c d e f g h i j=>[aV [.n a, .sh 51 b, .sh 9 c, .sh 9 d, .sh 26 e, .n f, .sh 75 g, .sh 72 h, .n i],aI j]
def as3:Fn [.B] dz:=λa=>⟨[aB a],[]⟩
def NI:=dY an8 as3 uO.c uO.v
theorem TA:b7 Tryz.prog T 165 NI:=fr (E:=ap7) (aD afw (aD qC aX)) Tryz.func165 uO.b uO.vo

def aqv:=en [] []
def aoS:Fn [.I, .S, .R] As:=λa b c=>[aV [.n a, .s b, .sh 237 c]]
def atN:Fn [.I, .S, .R] dz:=λa b c=>⟨[aV [.n a, .s b, .ow 237 ai c]],[]⟩
def acI:=dY aoS atN J7.c J7.v
theorem akj:b7 Tryz.prog T 226 acI:=fh (E:=aqv) aX Tryz.func226 (it:=λ_=>ln) (λ_=>bC) (λ_=>J7.b) λx f h=>⟨0,J7.eh _ x.1 x.2.1 x.2.2.1 h⟩

def ahL:=en [(82,qh)] [(2,[1,2,6,7,8])]
def aoT:Fn [.I, .S, .R] As:=λa b c=>[aV [.n a, .s b, .sh 237 c]]
def atO:Fn [.B] dz:=λa=>⟨[aB a],[]⟩
def yY:Fn [.B, .R, .I, .I, .I, .S, .R] Tb:=λa b c d e f g=>[cP 2 0,cA 4 (.b a),cH 12 237 b,cI 14 c,cI 16 d,oB 1 [.n e, .s f, .sh 237 g]]
def Q7(N:aE)(K:Kt R):=HO.l2 N (J yY .ret K) (J yY (.exit 0) K)
def aaZ(N:aE):It R:=(lp 2 (al yY (λK=>Q7 N K N) an) ln)
theorem Yd(N:aE):b8 ahL (aaZ N (R:=R)) (bU Tryz.f227 2):=lq 2 yY (Q7 N) λK g=>HO.r2 N g (J yY .ret K) (J yY (.exit 0) K)
def acJ:=dY aoT atO (ct _) HO.v
theorem akk:b7 Tryz.prog T 227 acJ:=fh (E:=ahL) (aD qC aX) Tryz.func227 (it:=λN=>aaZ N) (λN=>(bk (Yd N) bC)) HO.b λx f h=>HO.eh _ x.1 x.2.1 x.2.2.1 f.1.2.1 f.1.2.2.1

def ap8:=en [(226,acI),(227,acJ),(82,qh)] []
def an9:Fn [.I, .S, .R, .S] As:=λa b c d=>[aV [.n a, .s b, .sh 237 c],aS d]
def as4:Fn [.I, .S, .R, .B] dz:=λa b c d=>⟨[aV [.n a, .s b, .ow 237 ai c],aB d],[]⟩
def acg:=dY an9 as4 Dl.c Dl.v
theorem ajT:b7 Tryz.prog T 166 acg:=fh (E:=ap8) (aD akj (aD akk (aD qC aX))) Tryz.func166 (it:=λ_=>ln) (λ_=>bC) (λ_=>Dl.b) λx f h=>⟨0,Dl.eh _ x.1 x.2.1 x.2.2.1 x.2.2.2.1 h f.1.2.1 f.1.2.2.1 f.2.1.1⟩

def ahv:=en [] [(1,[0,1,9,10,11])]
def an_:Fn [.I, .R, .R, .R, .R, .I, .R, .R, .I, .I] As:=λa b c d e f g h i j=>[.pt [.n a, .ow 51 ai b, .ow 9 ai c, .ow 9 ai d, .ow 26 ai e, .n f, .ow 75 ai g, .ow 72 ai h, .n i],aI j]
def as5:Fn [.I, .R, .R, .R, .R, .I, .R, .R, .I] dz:=λa b c d e f g h i=>⟨[],[[.n a, .kp b, .kp c, .kp d, .kp e, .n f, .kp g, .kp h, .n i]]⟩
def Fu:Fn [.I, .I, .I, .I, .I, .I, .R, .R, .R, .R, .R, .R] Tb:=λa b c d e f g h i j k l=>[cP 0 900000900,cI 2 a,cA 18 (.own 900000007),cI 20 b,cI 22 c,oB 1800001801 [.n d, .own 900000001, .own 900000002, .own 900000003, .own 900000004, .n e, .own 900000006, .own 900000007, .n f],oR 1800000015 72 g,oR 1800000003 51 h,oR 1800000005 9 i,oR 1800000007 9 j,oR 1800000009 26 k,oR 1800000013 75 l]
def QI(N:aE)(K:Kt R):=Aq.l1 N (J Fu (.exit 0) K)
def aaJ(N:aE):It R:=(lp 1 (al Fu (λK=>QI N K N) an) ln)
theorem XP(N:aE):b8 ahv (aaJ N (R:=R)) (bU Tryz.f167 1):=lq 1 Fu (QI N) λK g=>Aq.r1 N g (J Fu (.exit 0) K)
def ach:=dY an_ as5 Aq.c Aq.v
theorem ajU:b7 Tryz.prog T 167 ach:=fq (E:=ahv) aX Tryz.func167 (it:=λN=>aaJ N) (λN=>(bk (XP N) bC)) Aq.b Aq.vo

def E97:=en [(160,CR),(165,NI),(166,acg),(167,ach)] []
def A97:Fn [.I, .R, .R, .R, .R, .I, .R, .R, .I, .I, .S] As:=λa b c d e f g h i j k=>[aV [.n a, .sh 51 b, .sh 9 c, .sh 9 d, .sh 26 e, .n f, .sh 75 g, .sh 72 h, .n i],aI j,aS k]
def k97:Fn [.I, .R, .R, .R, .R, .I, .R, .R, .I, .B] dz:=λa b c d e f g h i j=>⟨[aV [.n a, .ow 51 ai b, .ow 9 ai c, .ow 9 ai d, .ow 26 ai e, .n f, .ow 75 ai g, .ow 72 ai h, .n i],aB j],[]⟩
def alL:=dY A97 k97 VK.c VK.v
theorem au_:b7 Tryz.prog T 97 alL:=fr (E:=E97) (aD EJ (aD TA (aD ajT (aD ajU aX)))) Tryz.func97 VK.b VK.vo

def ahx:=en [] [(1,[0,1,2,11,12,13])]
def aod:Fn [.I, .R, .R, .R, .R, .I, .R, .R, .I, .I, .I] As:=λa b c d e f g h i j k=>[.pt [.n a, .ow 51 ai b, .ow 9 ai c, .ow 9 ai d, .ow 26 ai e, .n f, .ow 75 ai g, .ow 72 ai h, .n i],aI j,aI k]
def as9:Fn [.I, .R, .R, .R, .R, .I, .R, .R, .I] dz:=λa b c d e f g h i=>⟨[],[[.n a, .kp b, .kp c, .kp d, .kp e, .n f, .kp g, .kp h, .n i]]⟩
def Fx:Fn [.I, .I, .I, .I, .I, .I, .I, .R, .R, .R, .R, .R, .R] Tb:=λa b c d e f g h i j k l m=>[cP 0 900000900,cI 2 a,cI 4 b,cA 22 (.own 900000007),cI 24 c,cI 26 d,oB 1800001801 [.n e, .own 900000001, .own 900000002, .own 900000003, .own 900000004, .n f, .own 900000006, .own 900000007, .n g],oR 1800000015 72 h,oR 1800000003 51 i,oR 1800000005 9 j,oR 1800000007 9 k,oR 1800000009 26 l,oR 1800000013 75 m]
def QL(N:aE)(K:Kt R):=vJ.l1 N (J Fx (.exit 0) K)
def aaL(N:aE):It R:=(lp 1 (al Fx (λK=>QL N K N) an) ln)
theorem XS(N:aE):b8 ahx (aaL N (R:=R)) (bU Tryz.f171 1):=lq 1 Fx (QL N) λK g=>vJ.r1 N g (J Fx (.exit 0) K)
def UJ:=dY aod as9 vJ.c vJ.v
theorem abr:b7 Tryz.prog T 171 UJ:=fq (E:=ahx) aX Tryz.func171 (it:=λN=>aaL N) (λN=>(bk (XS N) bC)) vJ.b vJ.vo

def afL:PO:=⟨λn=>bif bD n 22 then 198 else bif bD n 29 then 248 else 249,λn=>bif bD n 24 then 30 else bif bD n 9 then 51 else bif bD n 3 then 3 else bif bD n 4 then 4 else n,λn=>n⟩
def acB:aC fa->az (aW×dz):=Ins.xD 51 48
theorem aeO:Ins.L Tryz.prog afL "slices.Insert[[]loop.example/g00245/impl.Entry,loop.example/g00245/impl.Entry]" 4 where
 mixed:=hM
 f22:=Tryz.func198.trans (by kernel_rfl)
 t3:=by kernel_rfl
 a3:=Ins.kY (P:=Tryz.prog) (t:=3) (d:= .int .i64) (by kernel_rfl) rfl
 t4:=by kernel_rfl
 a4:=Ins.kY (P:=Tryz.prog) (t:=4) (d:= .bool) (by kernel_rfl) rfl
 t24:=by kernel_rfl
 a24:=Ins.kY (P:=Tryz.prog) (t:=30) (d:= .slice 51) (by kernel_rfl) rfl
 z9:=Ins.G9 hE (t:=51) (ti:=⟨ai,[.s, .i .i64, .i .i64, .s],48⟩) (by kernel_rfl)
theorem akc:b7 Tryz.prog T 198 acB:=
 Ins.zn (e:=51) (te:=⟨ai,[.s, .i .i64, .i .i64, .s],48⟩) (by kernel_rfl) rfl (by kernel_rfl) hE aeO
  (λargs w=>run_callFunc_extern (e:=fG #[30,30] #[4]) Tryz.func248 (by kernel_rfl) (by kernel_rfl) (by kernel_rfl) (by kernel_rfl) args w)
  ⟨_,Tryz.func198,by kernel_rfl,by kernel_rfl⟩

def ahp:=en [(150,NH),(198,acB)] [(3,[3,5,6])]
def anL:Fn [.R, .S, .I, .I, .S] As:=λa b c d e=>[aH 51 a,aV [.s b, .n c, .n d, .s e]]
def asG:Fn [.R] dz:=λa=>⟨[aO 51 a],[]⟩
def Fo:Fn [.I, .S, .I, .I, .S, .R] Tb:=λa b c d e f=>[cP 6 0,cA 10 (.own 1),cI 12 a,oB 1 [.s b, .n c, .n d, .s e],oR 3 51 f]
def QA(N:aE)(K:Kt R):=uM.l3 N (J Fo (.exit 0) K)
def aaD(N:aE):It R:=(lp 3 (al Fo (λK=>QA N K N) an) ln)
theorem XH(N:aE):b8 ahp (aaD N (R:=R)) (bU Tryz.f124 3):=lq 3 Fo (QA N) λK g=>uM.r3 N g (J Fo (.exit 0) K)
def UA:=dY anL asG uM.c uM.v
theorem abi:b7 Tryz.prog T 124 UA:=fq (E:=ahp) (aD Tw (aD akc aX)) Tryz.func124 (it:=λN=>aaD N) (λN=>(bk (XH N) bC)) uM.b uM.vo

def E87:=en [(149,UC),(150,NH),(145,NF),(124,UA)] []
def A87:Fn [.I, .R, .R, .R, .R, .I, .R, .R, .I, .S, .I, .I, .S] As:=λa b c d e f g h i j k l m=>[.pt [.n a, .ow 51 ai b, .ow 9 ai c, .ow 9 ai d, .ow 26 ai e, .n f, .ow 75 ai g, .ow 72 ai h, .n i],aV [.s j, .n k, .n l, .s m]]
def k87:Fn [.I, .R, .R, .R, .R, .I, .R, .R, .I] dz:=λa b c d e f g h i=>⟨[],[[.n a, .ow 51 ai b, .ow 9 ai c, .ow 9 ai d, .ow 26 ai e, .n f, .kp g, .kp h, .n i]]⟩
def af2:=dY A87 k87 Oh.c Oh.v
theorem akZ:b7 Tryz.prog T 87 af2:=fr (E:=E87) (aD abk (aD Tw (aD Tt (aD abi aX)))) Tryz.func87 Oh.b Oh.vo

def ap9:=en [(160,CR),(165,NI),(82,qh),(171,UJ),(87,af2)] []
def aoa:Fn [.I, .R, .R, .R, .R, .I, .R, .R, .I, .I, .I] As:=λa b c d e f g h i j k=>[aV [.n a, .sh 51 b, .sh 9 c, .sh 9 d, .sh 26 e, .n f, .sh 75 g, .sh 72 h, .n i],aI j,aI k]
def as6:Fn [.I, .R, .R, .R, .R, .I, .R, .R, .I, .B] dz:=λa b c d e f g h i j=>⟨[aV [.n a, .ow 51 ai b, .ow 9 ai c, .ow 9 ai d, .ow 26 ai e, .n f, .ow 75 ai g, .ow 72 ai h, .n i],aB j],[]⟩
def aci:=dY aoa as6 Dm.c Dm.v
theorem ajV:b7 Tryz.prog T 168 aci:=fr (E:=ap9) (aD EJ (aD TA (aD qC (aD abr (aD akZ aX))))) Tryz.func168 Dm.b Dm.vo

def ahV:=en [(82,qh)] [(4,[0,4])]
def apv:Fn [.I] As:=λa=>[aI a]
def aut:Fn [.S, .B] dz:=λa b=>⟨[aS a,aB b],[]⟩
def F2:Fn [.I, .R] Tb:=λa b=>[cI 0 a,cA 8 (.own 0),oR 1 5 b]
def Rr(N:aE)(K:Kt R):=nJ.l4 N (J F2 (.exit 0) K)
def aa9(N:aE):It R:=(lp 4 (al F2 (λK=>Rr N K N) an) ln)
theorem Yx(N:aE):b8 ahV (aa9 N (R:=R)) (bU Tryz.f275 4):=lq 4 F2 (Rr N) λK g=>nJ.r4 N g (J F2 (.exit 0) K)
def NV:=dY apv aut (ct _) nJ.v
theorem TS:b7 Tryz.prog T 275 NV:=fh (E:=ahV) (aD qC aX) Tryz.func275 (it:=λN=>aa9 N) (λN=>(bk (Yx N) bC)) nJ.b λx f h=>nJ.eh _ x.1

def aqR:=en [(275,NV)] []
def apu:Fn [.S] As:=λa=>[aS a]
def aus:Fn [.S, .B] dz:=λa b=>⟨[aS a,aB b],[]⟩
def ac8:=dY apu aus (ct _) Dw.v
theorem akJ:b7 Tryz.prog T 274 ac8:=fh (E:=aqR) (aD TS aX) Tryz.func274 (it:=λ_=>ln) (λ_=>bC) (λ_=>Dw.b) λx f h=>⟨0,Dw.eh _ x.1⟩

def aqL:=en [(125,Jz),(274,ac8),(275,NV)] []
def apj:Fn [.S, .I, .I, .S] As:=λa b c d=>[aV [.s a, .n b, .n c, .s d]]
def aui:Fn [.S, .B] dz:=λa b=>⟨[aS a,aB b],[]⟩
def acZ:=dY apj aui (ct _) Dv.v
theorem akA:b7 Tryz.prog T 262 acZ:=fh (E:=aqL) (aD Nu (aD akJ (aD TS aX))) Tryz.func262 (it:=λ_=>ln) (λ_=>bC) (λ_=>Dv.b) λx f h=>⟨0,Dv.eh _ x.1 x.2.1 x.2.2.1 x.2.2.2.1⟩

def aqn:=en [(247,U1)] []
def aoA:Fn [.S] As:=λa=>[aS a]
def atv:Fn [.S] dz:=λa=>⟨[aS a],[]⟩
def UQ:=dY aoA atv uR.c uR.v
theorem abz:b7 Tryz.prog T 196 UQ:=fr (E:=aqn) (aD abJ aX) Tryz.func196 uR.b uR.vo

def aqM:=en [(82,qh),(275,NV),(196,UQ)] []
def apk:Fn [.S] As:=λa=>[aS a]
def auj:Fn [.S, .B] dz:=λa b=>⟨[aS a,aB b],[]⟩
def ac0:=dY apk auj BH.c BH.v
theorem akB:b7 Tryz.prog T 263 ac0:=fr (E:=aqM) (aD qC (aD TS (aD abz aX))) Tryz.func263 BH.b BH.vo

def aqw:=en [(262,acZ),(263,ac0)] []
def aoU:Fn [.S, .I, .I, .S] As:=λa b c d=>[aV [.s a, .n b, .n c, .s d]]
def atP:Fn [.S, .B] dz:=λa b=>⟨[aS a,aB b],[]⟩
def UZ:=dY aoU atP mN.c mN.v
theorem abH:b7 Tryz.prog T 228 UZ:=fr (E:=aqw) (aD akA (aD akB aX)) Tryz.func228 mN.b mN.vo

def ap_:=en [(228,UZ)] []
def aob:Fn [.S, .I, .I, .S] As:=λa b c d=>[aV [.s a, .n b, .n c, .s d]]
def as7:Fn [.R, .B] dz:=λa b=>⟨[aO 218 a,aB b],[]⟩
def acj:=dY aob as7 uP.c uP.v
theorem ajW:b7 Tryz.prog T 169 acj:=fr (E:=ap_) (aD abH aX) Tryz.func169 uP.b uP.vo

def aqx:=en [] []
def aoV:Fn [.R] As:=λa=>[aV [.sh 94 a]]
def atQ:Fn [.R] dz:=λa=>⟨[aV [.ow 94 ai a]],[]⟩
def NQ:=dY aoV atQ sU.c sU.v
theorem TK:b7 Tryz.prog T 229 NQ:=fr (E:=aqx) aX Tryz.func229 sU.b sU.vo

def aqE:=en [] []
def apa:Fn [.S, .S, .I, .S] As:=λa b c d=>[aV [.s a, .s b, .n c], .fb [.s d]]
def at9:Fn [.B] dz:=λa=>⟨[aB a],[]⟩
def acU:=dY apa at9 (ct _) J8.v
theorem akv:b7 Tryz.prog T 246 acU:=ft (E:=aqE) aX Tryz.func246 J8.b λ(a0,a1,a2,a3,_)=>J8.eh _ a0 a1 a2 a3

def Zx:=en [(246,acU)] [(2,[0,1,4,7,8])]
def ahd:Fn [.R, .S] As:=λa b=>[aH 94 a, .v ak [.fn 246 [[.s b]]]]
def ajj:Fn [.I] dz:=λa=>⟨[aI a],[]⟩
def ub:Fn [.R, .S, .I, .I, .I] Tb:=λa b c d e=>[cH 0 94 a,cA 2 (.fn 246 [[.s b]]),cI 8 c,cI 14 d,cI 16 e]
def Mh(N:aE)(K:Kt R):=rY.l2 N (J ub .ret K) (J ub (.exit 0) K)
def SN(N:aE):It R:=(lp 2 (al ub (λK=>Mh N K N) an) ln)
theorem Td(N:aE):b8 Zx (SN N (R:=R)) (bU Tryz.f245 2):=lq 2 ub (Mh N) λK g=>rY.r2 N g (J ub .ret K) (J ub (.exit 0) K)
def LB:=dY ahd ajj rY.c rY.v
theorem TQ:b7 Tryz.prog T 245 LB:=fq (E:=Zx) (aD akv aX) Tryz.func245 (it:=λN=>SN N) (λN=>(bk (Td N) bC)) rY.b rY.vo

def aqS:=en [] []
def apx:Fn [.S, .S, .I, .S] As:=λa b c d=>[aV [.s a, .s b, .n c], .fb [.s d]]
def auv:Fn [.B] dz:=λa=>⟨[aB a],[]⟩
def U7:=dY apx auv (ct _) AB.v
theorem abO:b7 Tryz.prog T 278 U7:=ft (E:=aqS) aX Tryz.func278 AB.b λ(a0,a1,a2,a3,_)=>AB.eh _ a0 a1 a2 a3

def Zy:=en [(278,U7)] [(2,[0,1,4,7,8])]
def ahe:Fn [.R, .S] As:=λa b=>[aH 94 a, .v ak [.fn 278 [[.s b]]]]
def ajk:Fn [.I] dz:=λa=>⟨[aI a],[]⟩
def uc:Fn [.R, .S, .I, .I, .I] Tb:=λa b c d e=>[cH 0 94 a,cA 2 (.fn 278 [[.s b]]),cI 8 c,cI 14 d,cI 16 e]
def Mi(N:aE)(K:Kt R):=nb.l2 N (J uc .ret K) (J uc (.exit 0) K)
def SP(N:aE):It R:=(lp 2 (al uc (λK=>Mi N K N) an) ln)
theorem Te(N:aE):b8 Zy (SP N (R:=R)) (bU Tryz.f245 2):=lq 2 uc (Mi N) λK g=>nb.r2 N g (J uc .ret K) (J uc (.exit 0) K)
def LC:=dY ahe ajk nb.c nb.v
theorem TR:b7 Tryz.prog T 245 LC:=fq (E:=Zy) (aD abO aX) Tryz.func245 (it:=λN=>SP N) (λN=>(bk (Te N) bC)) nb.b nb.vo

def aqm:=en [(245,LB),(245,LC)] []
def aoy:Fn [.R, .S] As:=λa b=>[aV [.sh 94 a],aS b]
def att:Fn [.I] dz:=λa=>⟨[aI a],[]⟩
def UP:=dY aoy att eu.c eu.v
theorem aby:b7 Tryz.prog T 194 UP:=fr (E:=aqm) (aD TQ (aD TR aX)) Tryz.func194 eu.b eu.vo

def ahn:=en [(82,qh)] [(2,[1,2,6,7,8])]
def anH:Fn [.R] As:=λa=>[aV [.sh 94 a]]
def asC:Fn [.B] dz:=λa=>⟨[aB a],[]⟩
def yP:Fn [.B, .R, .I, .I, .R] Tb:=λa b c d e=>[cP 2 0,cA 4 (.b a),cH 12 94 b,cI 14 c,cI 16 d,oB 1 [.sh 94 e]]
def Qy(N:aE)(K:Kt R):=ia.l2 N (J yP .ret K) (J yP (.exit 0) K)
def aaB(N:aE):It R:=(lp 2 (al yP (λK=>Qy N K N) an) ln)
theorem XF(N:aE):b8 ahn (aaB N (R:=R)) (bU Tryz.f120 2):=lq 2 yP (Qy N) λK g=>ia.r2 N g (J yP .ret K) (J yP (.exit 0) K)
def Jy:=dY anH asC ia.c ia.v
theorem Nt:b7 Tryz.prog T 120 Jy:=fq (E:=ahn) (aD qC aX) Tryz.func120 (it:=λN=>aaB N) (λN=>(bk (XF N) bC)) ia.b ia.vo

def aqN:=en [(82,qh)] []
def apl:Fn [.I, .S, .S, .S] As:=λa b c d=>[aV [.n a, .s b, .s c, .s d]]
def auk:Fn [.B] dz:=λa=>⟨[aB a],[]⟩
def ac1:=dY apl auk (ct _) J9.v
theorem akC:b7 Tryz.prog T 264 ac1:=ft (E:=aqN) (aD qC aX) Tryz.func264 J9.b λ(a0,a1,a2,a3,_)=>J9.eh _ a0 a1 a2 a3

def ahW:=en [(245,LB),(245,LC),(278,U7)] [(5,[0,1,5,6])]
def apw:Fn [.R, .S] As:=λa b=>[aO 94 a, .v ak [.fn 278 [[.s b]]]]
def auu:Fn [.R] dz:=λa=>⟨[aO 94 a],[[.nl]]⟩
def F7:Fn [.S, .I, .I, .R] Tb:=λa b c d=>[cA 0 (.own 900000000),cA 2 (.fn 278 [[.s a]]),cI 10 b,cI 12 c,oR 1800000001 94 d]
def Rs(N:aE)(K:Kt R):=wK.l5 N (J F7 (.exit 0) K)
def aa_(N:aE):It R:=(lp 5 (al F7 (λK=>Rs N K N) an) ln)
theorem Yy(N:aE):b8 ahW (aa_ N (R:=R)) (bU Tryz.f277 5):=lq 5 F7 (Rs N) λK g=>wK.r5 N g (J F7 (.exit 0) K)
def ac_:=dY apw auu wK.c wK.v
theorem akL:b7 Tryz.prog T 277 ac_:=fq (E:=ahW) (aD TQ (aD TR (aD abO aX))) Tryz.func277 (it:=λN=>aa_ N) (λN=>(bk (Yy N) bC)) wK.b wK.vo

def aqO:=en [(229,NQ),(277,ac_)] []
def apn:Fn [.R, .S] As:=λa b=>[aV [.sh 94 a],aS b]
def aum:Fn [.R] dz:=λa=>⟨[aV [.ow 94 ai a]],[]⟩
def U5:=dY apn aum iU.c iU.v
theorem abN:b7 Tryz.prog T 266 U5:=fr (E:=aqO) (aD TK (aD akL aX)) Tryz.func266 iU.b iU.vo

def afN:PO:=⟨λn=>bif bD n 22 then 276 else bif bD n 29 then 283 else 284,λn=>bif bD n 24 then 41 else bif bD n 9 then 94 else bif bD n 3 then 3 else bif bD n 4 then 4 else n,λn=>n⟩
def ac9:aC fa->az (aW×dz):=Ins.xD 94 40
theorem aeQ:Ins.L Tryz.prog afN "slices.Insert[[]loop.example/g00245/impl.File,loop.example/g00245/impl.File]" 3 where
 mixed:=hM
 f22:=Tryz.func276.trans (by kernel_rfl)
 t3:=by kernel_rfl
 a3:=Ins.kY (P:=Tryz.prog) (t:=3) (d:= .int .i64) (by kernel_rfl) rfl
 t4:=by kernel_rfl
 a4:=Ins.kY (P:=Tryz.prog) (t:=4) (d:= .bool) (by kernel_rfl) rfl
 t24:=by kernel_rfl
 a24:=Ins.kY (P:=Tryz.prog) (t:=41) (d:= .slice 94) (by kernel_rfl) rfl
 z9:=Ins.G9 hE (t:=94) (ti:=⟨ai,[.s, .s, .i .i64],40⟩) (by kernel_rfl)
theorem akK:b7 Tryz.prog T 276 ac9:=
 Ins.zn (e:=94) (te:=⟨ai,[.s, .s, .i .i64],40⟩) (by kernel_rfl) rfl (by kernel_rfl) hE aeQ
  (λargs w=>run_callFunc_extern (e:=fG #[41,41] #[4]) Tryz.func283 (by kernel_rfl) (by kernel_rfl) (by kernel_rfl) (by kernel_rfl) args w)
  ⟨_,Tryz.func276,by kernel_rfl,by kernel_rfl⟩

def ahS:=en [(266,U5),(276,ac9)] [(3,[3,4,5,6])]
def apm:Fn [.R, .S, .S, .I] As:=λa b c d=>[aV [.sh 94 a],aV [.s b, .s c, .n d]]
def aul:Fn [.R] dz:=λa=>⟨[aV [.ow 94 ai a]],[]⟩
def FW:Fn [.I, .S, .S, .I, .R] Tb:=λa b c d e=>[cP 6 0,cP 8 1,cP 10 2,cI 12 a,oB 1 [.s b, .s c, .n d],oB 3 [.nl],oB 5 [.own 3],oR 7 94 e]
def Rm(N:aE)(K:Kt R):=gL.l3 N (J FW (.exit 0) K)
def aa6(N:aE):It R:=(lp 3 (al FW (λK=>Rm N K N) an) ln)
theorem Ys(N:aE):b8 ahS (aa6 N (R:=R)) (bU Tryz.f265 3):=lq 3 FW (Rm N) λK g=>gL.r3 N g (J FW (.exit 0) K)
def ac2:=dY apm aul gL.c gL.v
theorem akD:b7 Tryz.prog T 265 ac2:=fq (E:=ahS) (aD abN (aD akK aX)) Tryz.func265 (it:=λN=>aa6 N) (λN=>(bk (Ys N) bC)) gL.b gL.vo

def aqy:=en [(194,UP),(120,Jy),(264,ac1),(265,ac2),(266,U5)] []
def aoW:Fn [.R, .I, .S, .S, .S] As:=λa b c d e=>[aV [.sh 94 a],aV [.n b, .s c, .s d, .s e]]
def atS:Fn [.R, .B] dz:=λa b=>⟨[aV [.ow 94 ai a],aB b],[]⟩
def acK:=dY aoW atS rq.c rq.v
theorem akl:b7 Tryz.prog T 230 acK:=fr (E:=aqy) (aD aby (aD Nt (aD akC (aD akD (aD abN aX))))) Tryz.func230 rq.b rq.vo

def ahw:=en [(229,NQ),(230,acK)] [(3,[1,4,5,6,13,14,15])]
def aoc:Fn [.R, .R] As:=λa b=>[aV [.sh 94 a],aH 218 b]
def as8:Fn [.R, .I] dz:=λa b=>⟨[aV [.ow 94 ai a],aI b],[]⟩
def Fw:Fn [.R, .I, .R, .I, .I, .R] Tb:=λa b c d e f=>[cH 2 218 a,cP 8 0,cI 10 b,cP 12 1,cH 26 218 c,cI 28 d,cI 30 e,oB 1 [.nl],oB 3 [.own 2],oR 5 94 f]
def HQ:Fn [.R, .I, .R, .I, .I, .R] Tb:=λa b c d e f=>[cH 2 218 a,cP 8 0,cI 10 b,cP 12 1,cH 26 218 c,cI 28 d,cI 30 e,oB 1 [.own 2],oB 3 [.own 2],oR 5 94 f]
def QK(N:aE)(K:Kt R):=vI.l3 N (J HQ .ret K) (J Fw (.exit 0) K)
def aaK(N:aE):It R:=(lp 3 (al Fw (λK=>QK N K N) an) ln)
theorem XR(N:aE):b8 ahw (aaK N (R:=R)) (bU Tryz.f170 3):=lq 3 Fw (QK N) λK g=>vI.r3 N g (J HQ .ret K) (J Fw (.exit 0) K)
def UI:=dY aoc as8 vI.c vI.v
theorem abq:b7 Tryz.prog T 170 UI:=fq (E:=ahw) (aD TK (aD akl aX)) Tryz.func170 (it:=λN=>aaK N) (λN=>(bk (XR N) bC)) vI.b vI.vo

def E98:=Th T md [(168,aci),(145,NF),(169,acj),(170,UI)] [] [] [(0,1,.own 51),(0,2,.own 9),(0,3,.own 9),(0,4,.own 26),(0,6,.own 75),(0,7,.own 72),(0,9,.own 94),(0,10,.own 3),(0,11,.own 51)]
def A98:Fn [.I, .R, .R, .R, .R, .I, .R, .R, .I, .R, .R, .R, .I, .I] As:=λa b c d e f g h i j k l m o=>[.pt [.n a, .ow 51 ai b, .ow 9 ai c, .ow 9 ai d, .ow 26 ai e, .n f, .ow 75 ai g, .ow 72 ai h, .n i, .ow 94 ai j, .ow 3 ai k, .ow 51 ai l],aI m,aI o]
def k98:Fn [.B, .I, .R, .R, .R, .R, .I, .R, .R, .I, .R, .R, .R] dz:=λa b c d e f g h i j k l m=>⟨[aB a],[[.n b, .ow 51 ai c, .ow 9 ai d, .ow 9 ai e, .ow 26 ai f, .n g, .ow 75 ai h, .ow 72 ai i, .n j, .ow 94 ai k, .ow 3 ai l, .ow 51 ai m]]⟩
def alM:=dY A98 k98 VL.c VL.v
theorem ava:b7 Tryz.prog T 98 alM:=fr (E:=E98) (aD ajV (aD Tt (aD ajW (aD abq aX)))) Tryz.func98 VL.b VL.vo

def E99:=en [(160,CR),(165,NI),(171,UJ)] []
def A99:Fn [.I, .R, .R, .R, .R, .I, .R, .R, .I, .I] As:=λa b c d e f g h i j=>[aV [.n a, .sh 51 b, .sh 9 c, .sh 9 d, .sh 26 e, .n f, .sh 75 g, .sh 72 h, .n i],aI j]
def k99:Fn [.I, .R, .R, .R, .R, .I, .R, .R, .I, .B] dz:=λa b c d e f g h i j=>⟨[aV [.n a, .ow 51 ai b, .ow 9 ai c, .ow 9 ai d, .ow 26 ai e, .n f, .ow 75 ai g, .ow 72 ai h, .n i],aB j],[]⟩
def alN:=dY A99 k99 VM.c VM.v
theorem avb:b7 Tryz.prog T 99 alN:=fr (E:=E99) (aD EJ (aD TA (aD abr aX))) Tryz.func99 VM.b VM.vo

def aqa:=en [] []
def aoe:Fn [.I, .I] As:=λa b=>[aI a,aI b]
def as_:Fn [.I] dz:=λa=>⟨[aI a],[]⟩
def ack:=dY aoe as_ Ar.c Ar.v
theorem ajY:b7 Tryz.prog T 172 ack:=fr (E:=aqa) aX Tryz.func172 Ar.b Ar.vo

def apA:=en [(160,CR),(172,ack)] []
def ann:Fn [.I, .R, .R, .R, .R, .I, .R, .R, .I, .I] As:=λa b c d e f g h i j=>[aV [.n a, .sh 51 b, .sh 9 c, .sh 9 d, .sh 26 e, .n f, .sh 75 g, .sh 72 h, .n i],aI j]
def ash:Fn [.I, .R, .R, .R, .R, .I, .R, .R, .I] dz:=λa b c d e f g h i=>⟨[aV [.n a, .ow 51 ai b, .ow 9 ai c, .ow 9 ai d, .ow 26 ai e, .n f, .ow 75 ai g, .ow 72 ai h, .n i]],[]⟩
def abV:=dY ann ash Dh.c Dh.v
theorem ajy:b7 Tryz.prog T 100 abV:=fr (E:=apA) (aD EJ (aD ajY aX)) Tryz.func100 Dh.b Dh.vo

def ahy:=en [(173,Ly),(173,LA),(176,UK)] [(5,[0,1,5,6])]
def aog:Fn [.R, .I] As:=λa b=>[aO 72 a, .v ak [.fn 176 [[.n b]]]]
def atb:Fn [.R] dz:=λa=>⟨[aO 72 a],[[.nl]]⟩
def Fy:Fn [.I, .I, .I, .R] Tb:=λa b c d=>[cA 0 (.own 900000000),cA 2 (.fn 176 [[.n a]]),cI 10 b,cI 12 c,oR 1800000001 72 d]
def QM(N:aE)(K:Kt R):=wA.l5 N (J Fy (.exit 0) K)
def aaM(N:aE):It R:=(lp 5 (al Fy (λK=>QM N K N) an) ln)
theorem XT(N:aE):b8 ahy (aaM N (R:=R)) (bU Tryz.f175 5):=lq 5 Fy (QM N) λK g=>wA.r5 N g (J Fy (.exit 0) K)
def acn:=dY aog atb wA.c wA.v
theorem aj0:b7 Tryz.prog T 175 acn:=fq (E:=ahy) (aD TB (aD TC (aD abt aX))) Tryz.func175 (it:=λN=>aaM N) (λN=>(bk (XT N) bC)) wA.b wA.vo

def apC:=en [(160,CR),(175,acn)] []
def anp:Fn [.I, .R, .R, .R, .R, .I, .R, .R, .I, .I] As:=λa b c d e f g h i j=>[aV [.n a, .sh 51 b, .sh 9 c, .sh 9 d, .sh 26 e, .n f, .sh 75 g, .sh 72 h, .n i],aI j]
def asj:Fn [.I, .R, .R, .R, .R, .I, .R, .R, .I] dz:=λa b c d e f g h i=>⟨[aV [.n a, .ow 51 ai b, .ow 9 ai c, .ow 9 ai d, .ow 26 ai e, .n f, .ow 75 ai g, .ow 72 ai h, .n i]],[]⟩
def abW:=dY anp asj Di.c Di.v
theorem ajz:b7 Tryz.prog T 102 abW:=fr (E:=apC) (aD EJ (aD aj0 aX)) Tryz.func102 Di.b Di.vo

def ahz:=en [(120,Jy),(229,NQ)] [(5,[1,4,6,17,18,19])]
def aoi:Fn [.R, .R] As:=λa b=>[aV [.sh 94 a],aH 3 b]
def atd:Fn [.R, .B] dz:=λa b=>⟨[aV [.ow 94 ai a],aB b],[]⟩
def FA:Fn [.R, .R, .I, .I, .R] Tb:=λa b c d e=>[cH 2 3 a,cP 8 0,cP 12 1,cH 34 94 b,cI 36 c,cI 38 d,oB 1 [.nl],oB 3 [.own 2],oR 5 94 e]
def QN(N:aE)(K:Kt R):=wB.l5 N (J FA (.exit 0) K)
def aaN(N:aE):It R:=(lp 5 (al FA (λK=>QN N K N) an) ln)
theorem XU(N:aE):b8 ahz (aaN N (R:=R)) (bU Tryz.f177 5):=lq 5 FA (QN N) λK g=>wB.r5 N g (J FA (.exit 0) K)
def aco:=dY aoi atd wB.c wB.v
theorem aj1:b7 Tryz.prog T 177 aco:=fq (E:=ahz) (aD Nt (aD TK aX)) Tryz.func177 (it:=λN=>aaN N) (λN=>(bk (XU N) bC)) wB.b wB.vo

def apO:=en [(194,UP)] []
def anI:Fn [.R, .S] As:=λa b=>[aV [.sh 94 a],aS b]
def asD:Fn [.S, .B] dz:=λa b=>⟨[aS a,aB b],[]⟩
def Uz:=dY anI asD uL.c uL.v
theorem abh:b7 Tryz.prog T 121 Uz:=fr (E:=apO) (aD aby aX) Tryz.func121 uL.b uL.vo

def ahE:=en [(82,qh)] [(5,[0,1,4,5,6,7,8])]
def aoz:Fn [.S, .I] As:=λa b=>[aS a,aI b]
def atu:Fn [.I, .I, .B] dz:=λa b c=>⟨[aI a,aI b,aB c],[]⟩
def yU:Fn [.S, .I, .I, .I, .B, .I, .I] Tb:=λa b c d e f g=>[cA 0 (.s a),cI 2 b,cI 8 c,cI 10 d,cA 12 (.b e),cI 14 f,cI 16 g]
def QV(N:aE)(K:Kt R):=gn.l5 N (J yU .ret K) (J yU (.exit 0) K)
def aaS(N:aE):It R:=(lp 5 (al yU (λK=>QV N K N) an) ln)
theorem X2(N:aE):b8 ahE (aaS N (R:=R)) (bU Tryz.f195 5):=lq 5 yU (QV N) λK g=>gn.r5 N g (J yU .ret K) (J yU (.exit 0) K)
def NK:=dY aoz atu (ct _) gn.v
theorem TE:b7 Tryz.prog T 195 NK:=fh (E:=ahE) (aD qC aX) Tryz.func195 (it:=λN=>aaS N) (λN=>(bk (X2 N) bC)) gn.b λx f h=>gn.eh _ x.1 x.2.1 f.1.1

def aho:=en [(195,NK),(82,qh),(196,UQ)] [(3,[0,4,5])]
def anJ:Fn [.S] As:=λa=>[aS a]
def asE:Fn [.R, .I] dz:=λa b=>⟨[aO 9 a,aI b],[]⟩
def Fm:Fn [.S, .I, .R] Tb:=λa b c=>[cA 0 (.s a),cA 8 (.own 0),cI 10 b,oR 1 9 c]
def Qz(N:aE)(K:Kt R):=U122.l3 N (J Fm (.exit 0) K)
def aaC(N:aE):It R:=(lp 3 (al Fm (λK=>Qz N K N) an) ln)
theorem XG(N:aE):b8 aho (aaC N (R:=R)) (bU Tryz.f122 3):=lq 3 Fm (Qz N) λK g=>U122.r3 N g (J Fm (.exit 0) K)
def ab6:=dY anJ asE U122.c U122.v
theorem ajJ:b7 Tryz.prog T 122 ab6:=fq (E:=aho) (aD TE (aD qC (aD abz aX))) Tryz.func122 (it:=λN=>aaC N) (λN=>(bk (XG N) bC)) U122.b U122.vo

def aqo:=en [(195,NK)] []
def aoB:Fn [.S, .I] As:=λa b=>[aS a,aI b]
def atw:Fn [.S, .I, .B] dz:=λa b c=>⟨[aS a,aI b,aB c],[]⟩
def acA:=dY aoB atw (ct _) sS.v
theorem akb:b7 Tryz.prog T 197 acA:=fh (E:=aqo) (aD TE aX) Tryz.func197 (it:=λ_=>ln) (λ_=>bC) (λ_=>sS.b) λx f h=>⟨0,sS.eh _ x.1 x.2.1 f.1.1⟩

def apQ:=en [(197,acA),(195,NK),(125,Jz)] []
def anK:Fn [.S] As:=λa=>[aS a]
def asF:Fn [.S, .I, .I, .S, .B] dz:=λa b c d e=>⟨[aV [.s a, .n b, .n c, .s d],aB e],[]⟩
def ab7:=dY anK asF (ct _) vH.v
theorem ajK:b7 Tryz.prog T 123 ab7:=fh (E:=apQ) (aD akb (aD TE (aD Nu aX))) Tryz.func123 (it:=λ_=>ln) (λ_=>bC) (λ_=>vH.b) λx f h=>⟨0,vH.eh _ x.1 f.1.1⟩

def E61:=en [(120,Jy),(121,Uz),(122,ab6),(123,ab7),(124,UA)] [(7,[3,27,28,29])]
def A61:Fn [.R] As:=λa=>[aV [.sh 94 a]]
def k61:Fn [.R] dz:=λa=>⟨[aO 51 a],[]⟩
def My:Fn [.I, .I, .R, .R] Tb:=λa b c d=>[cA 6 (.own 0),cA 54 (.own 1),cI 56 a,cI 58 b,oR 1 51 c,oR 3 9 d]
def ZW(N:aE)(K:Kt R):=U61.l7 N (J My (.exit 0) K)
def ai_(N:aE):It R:=(lp 7 (al My (λK=>ZW N K N) an) ln)
theorem afo(N:aE):b8 E61 (ai_ N (R:=R)) (bU Tryz.f61 7):=lq 7 My (ZW N) λK g=>U61.r7 N g (J My (.exit 0) K)
def alC:=dY A61 k61 U61.c U61.v
theorem au1:b7 Tryz.prog T 61 alC:=fq (E:=E61) (aD Nt (aD abh (aD ajJ (aD ajK (aD abi aX))))) Tryz.func61 (it:=λN=>ai_ N) (λN=>(bk (afo N) bC)) U61.b U61.vo

def ahA:=en [(120,Jy),(228,UZ),(121,Uz)] [(5,[2,4,5,6,17,18,19])]
def aoj:Fn [.R, .R] As:=λa b=>[aV [.sh 94 a],aH 51 b]
def ate:Fn [.R, .B] dz:=λa b=>⟨[aO 218 a,aB b],[]⟩
def yS:Fn [.B, .S, .R, .I, .I, .R] Tb:=λa b c d e f=>[cP 4 0,cA 8 .nl,cA 10 (.b a),cA 12 (.s b),cH 34 51 c,cI 36 d,cI 38 e,oB 1 [.sh 94 f]]
def QO(N:aE)(K:Kt R):=Av.l5 N (J yS .ret K) (J yS (.exit 0) K)
def aaO(N:aE):It R:=(lp 5 (al yS (λK=>QO N K N) an) ln)
theorem XV(N:aE):b8 ahA (aaO N (R:=R)) (bU Tryz.f178 5):=lq 5 yS (QO N) λK g=>Av.r5 N g (J yS .ret K) (J yS (.exit 0) K)
def acp:=dY aoj ate Av.c Av.v
theorem aj2:b7 Tryz.prog T 178 acp:=fq (E:=ahA) (aD Nt (aD abH (aD abh aX))) Tryz.func178 (it:=λN=>aaO N) (λN=>(bk (XV N) bC)) Av.b Av.vo

def E32:=en [(42,afX),(62,Zb),(87,af2)] [(4,[0,4,5,11,12,13])]
def A32:Fn [.I, .R] As:=λa b=>[aI a,aH 51 b]
def k32:Fn [.I, .R, .R, .R, .R, .I, .R, .R, .I] dz:=λa b c d e f g h i=>⟨[aV [.n a, .ow 51 ai b, .ow 9 ai c, .ow 9 ai d, .ow 26 ai e, .n f, .ow 75 ai g, .ow 72 ai h, .n i]],[]⟩
def Mr:Fn [.I, .R, .I, .I, .I, .I, .I, .I, .I, .I, .R, .R, .R, .R, .R, .R] Tb:=λa b c d e f g h i j k l m o p q=>[cI 0 a,cP 8 0,cP 10 1,cH 22 51 b,cI 24 c,cI 26 d,oB 1 [.n e, .nl, .nl, .nl, .nl, .n f, .nl, .nl, .n g],oB 3 [.n h, .own 2, .own 3, .own 4, .own 5, .n i, .own 6, .own 7, .n j],oR 5 51 k,oR 7 9 l,oR 9 9 m,oR 11 26 o,oR 13 75 p,oR 15 72 q]
def ZL(N:aE)(K:Kt R):=Kb.l4 N (J Mr (.exit 0) K)
def ai3(N:aE):It R:=(lp 4 (al Mr (λK=>ZL N K N) an) ln)
theorem afd(N:aE):b8 E32 (ai3 N (R:=R)) (bU Tryz.f32 4):=lq 4 Mr (ZL N) λK g=>Kb.r4 N g (J Mr (.exit 0) K)
def afT:=dY A32 k32 Kb.c Kb.v
theorem akQ:b7 Tryz.prog T 32 afT:=fq (E:=E32) (aD akU (aD afy (aD akZ aX))) Tryz.func32 (it:=λN=>ai3 N) (λN=>(bk (afd N) bC)) Kb.b Kb.vo

def ahg:=Th T md [(177,aco),(61,alC),(62,Zb),(178,acp),(170,UI),(32,afT)] [(3,[0,4,26,27,28])] [] [(0,1,.own 51),(0,2,.own 9),(0,3,.own 9),(0,4,.own 26),(0,6,.own 75),(0,7,.own 72),(0,9,.own 94),(0,10,.own 3),(0,11,.own 51)]
def anq:Fn [.I, .R, .R, .R, .R, .I, .R, .R, .I, .R, .R, .R, .R] As:=λa b c d e f g h i j k l m=>[.pt [.n a, .ow 51 ai b, .ow 9 ai c, .ow 9 ai d, .ow 26 ai e, .n f, .ow 75 ai g, .ow 72 ai h, .n i, .ow 94 ai j, .ow 3 ai k, .ow 51 ai l],aH 3 m]
def asl:Fn [.I, .R, .R, .R, .R, .I, .R, .R, .I, .R, .R, .R] dz:=λa b c d e f g h i j k l=>⟨[],[[.n a, .ow 51 ai b, .ow 9 ai c, .ow 9 ai d, .ow 26 ai e, .n f, .ow 75 ai g, .ow 72 ai h, .n i, .ow 94 ai j, .ow 3 ai k, .ow 51 ai l]]⟩
def Fk:Fn [.I, .I, .I, .I, .I, .R, .R, .R, .R, .R, .R, .R, .R, .R, .R, .R] Tb:=λa b c d e f g h i j k l m o p q=>[cP 0 900000900,cA 8 (.own 1),cA 52 (.own 2),cI 54 a,cI 56 b,oB 1800001801 [.n c, .own 900000001, .own 900000002, .own 900000003, .own 900000004, .n d, .own 900000006, .own 900000007, .n e, .own 9, .own 900000010, .own 900000011],oR 3 51 f,oR 5 51 g,oR 1800000003 51 h,oR 1800000005 9 i,oR 1800000007 9 j,oR 1800000009 26 k,oR 1800000013 75 l,oR 1800000015 72 m,oR 19 94 o,oR 1800000021 3 p,oR 1800000023 51 q]
def Qq(N:aE)(K:Kt R):=Am.l3 N (J Fk (.exit 0) K)
def aau(N:aE):It R:=(lp 3 (al Fk (λK=>Qq N K N) an) ln)
theorem Xw(N:aE):b8 ahg (aau N (R:=R)) (bU Tryz.f103 3):=lq 3 Fk (Qq N) λK g=>Am.r3 N g (J Fk (.exit 0) K)
def abX:=dY anq asl Am.c Am.v
theorem ajA:b7 Tryz.prog T 103 abX:=fq (E:=ahg) (aD aj1 (aD au1 (aD afy (aD aj2 (aD abq (aD akQ aX)))))) Tryz.func103 (it:=λN=>aau N) (λN=>(bk (Xw N) bC)) Am.b Am.vo

def apD:=en [] []
def anr:Fn [.B] As:=λa=>[aB a]
def asm:Fn [.I] dz:=λa=>⟨[aI a],[]⟩
def abY:=dY anr asm (ct _) F9.v
theorem ajB:b7 Tryz.prog T 104 abY:=ft (E:=apD) aX Tryz.func104 F9.b λ(a0,_)=>F9.eh _ a0

def E43:=Th T md [(96,alK),(97,alL),(98,alM),(99,alN),(100,abV),(101,Uw),(102,abW),(103,abX),(104,abY)] [] [] [(0,1,.own 51),(0,2,.own 9),(0,3,.own 9),(0,4,.own 26),(0,6,.own 75),(0,7,.own 72),(0,9,.own 94),(0,10,.own 3),(0,11,.own 51)]
def A43:Fn [.I, .R, .R, .R, .R, .I, .R, .R, .I, .R, .R, .R, .I, .I, .S, .I, .R] As:=λa b c d e f g h i j k l m o p q r=>[.pt [.n a, .ow 51 ai b, .ow 9 ai c, .ow 9 ai d, .ow 26 ai e, .n f, .ow 75 ai g, .ow 72 ai h, .n i, .ow 94 ai j, .ow 3 ai k, .ow 51 ai l],aV [.n m, .n o, .s p, .n q, .sh 3 r]]
def k43:Fn [.I, .I, .R, .R, .R, .R, .I, .R, .R, .I, .R, .R, .R] dz:=λa b c d e f g h i j k l m=>⟨[aI a],[[.n b, .ow 51 ai c, .ow 9 ai d, .ow 9 ai e, .ow 26 ai f, .n g, .ow 75 ai h, .ow 72 ai i, .n j, .ow 94 ai k, .ow 3 ai l, .ow 51 ai m]]⟩
def alw:=dY A43 k43 VG.c VG.v
theorem auV:b7 Tryz.prog T 43 alw:=fr (E:=E43) (aD au9 (aD au_ (aD ava (aD avb (aD ajy (aD abe (aD ajz (aD ajA (aD ajB aX))))))))) Tryz.func43 VG.b VG.vo

def E11:=en [(31,afS),(42,afX),(43,alw)] [(4,[0,2,3,14,15,16]),(11,[2,6,27,28,29,1000000006009094,1000000006010003,1000000006011051])]
def A11:Fn [.R] As:=λa=>[aH 29 a]
def k11:Fn [.I, .R, .R, .R, .R, .I, .R, .R, .I, .R, .R, .R, .B] dz:=λa b c d e f g h i j k l m=>⟨[aV [.n a, .ow 51 ai b, .ow 9 ai c, .ow 9 ai d, .ow 26 ai e, .n f, .ow 75 ai g, .ow 72 ai h, .n i, .ow 94 ai j, .ow 3 ai k, .ow 51 ai l],aB m],[]⟩
def D4:Fn [.R, .B, .R, .I, .I, .I, .I, .I] Tb:=λa b c d e f g h=>[cH 0 29 a,cP 4 0,cA 6 (.b b),cH 28 29 c,cI 30 d,cI 32 e,oB 1 [.n f, .nl, .nl, .nl, .nl, .n g, .nl, .nl, .n h, .nl, .nl, .nl]]
def Fl:Fn [.R, .I, .I, .I, .I, .I, .I, .I, .I, .R, .R, .R, .R, .R, .R, .R, .R, .R] Tb:=λa b c d e f g h i j k l m o p q r s=>[cP 4 0,cP 12 1,cH 54 29 a,cI 56 b,cI 58 c,oB 1 [.n d, .nl, .nl, .nl, .nl, .n e, .nl, .nl, .n f, .nl, .nl, .nl],oB 3 [.n g, .own 2, .own 3, .own 4, .own 5, .n h, .own 6, .own 7, .n i, .own 8, .own 9, .own 10],oR 5 51 j,oR 7 9 k,oR 9 9 l,oR 11 26 m,oR 13 75 o,oR 15 72 p,oR 17 94 q,oR 19 3 r,oR 21 51 s]
def ZD(N:aE)(K:Kt R):=HM.l4 N (J D4 .ret K) (J D4 (.exit 0) K)
def Qx(N:aE)(K:Kt R):=HM.O3 N (J Fl (.exit 2) K)
def aeS(N:aE):It R:=(lp 4 (al D4 (λK=>ZD N K N) an) (lp 11 (al Fl (λK=>Qx N K N) an) ln))
theorem ae6(N:aE):b8 E11 (aeS N (R:=R)) (bU Tryz.f11 4):=lq 4 D4 (ZD N) λK g=>HM.r4 N g (J D4 .ret K) (J D4 (.exit 0) K)
theorem XE(N:aE):b8 E11 (aeS N (R:=R)) (bU Tryz.f11 11):=lq 11 Fl (Qx N) λK g=>HM.wg N g (J Fl (.exit 2) K)
def alo:=dY A11 k11 HM.c HM.v
theorem auM:b7 Tryz.prog T 11 alo:=fq (E:=E11) (aD akP (aD akU (aD auV aX))) Tryz.func11 (it:=λN=>aeS N) (λN=>(bk (ae6 N) (bk (XE N) bC))) HM.b HM.vo

def E56:=en [(50,tK)] []
def A56:Fn [.I, .I, .S, .I, .R] As:=λa b c d e=>[aV [.n a, .n b, .s c, .n d, .sh 3 e]]
def k56:Fn [.B] dz:=λa=>⟨[aB a],[]⟩
def alz:=dY A56 k56 (ct _) U56.v
theorem auY:b7 Tryz.prog T 56 alz:=ft (E:=E56) (aD uZ aX) Tryz.func56 U56.b λ(a0,a1,a2,a3,a4,_)=>U56.eh _ a0 a1 a2 a3 a4

def E59:=Th T md [(117,Aa)] [] [] [(0,1,.own 51),(0,2,.own 9),(0,3,.own 9),(0,4,.own 26),(0,6,.own 75),(0,7,.own 72),(0,9,.own 94),(0,10,.own 3),(0,11,.own 51)]
def A59:Fn [.I, .R, .R, .R, .R, .I, .R, .R, .I, .R, .R, .R] As:=λa b c d e f g h i j k l=>[aV [.n a, .sh 51 b, .sh 9 c, .sh 9 d, .sh 26 e, .n f, .sh 75 g, .sh 72 h, .n i, .sh 94 j, .sh 3 k, .sh 51 l]]
def k59:Fn [.I, .R, .R, .R, .R, .I, .R, .R, .I, .R, .R, .R] dz:=λa b c d e f g h i j k l=>⟨[aV [.n a, .ow 51 ai b, .ow 9 ai c, .ow 9 ai d, .ow 26 ai e, .n f, .ow 75 ai g, .ow 72 ai h, .n i, .ow 94 ai j, .ow 3 ai k, .ow 51 ai l]],[]⟩
def alA:=dY A59 k59 VH.c VH.v
theorem auZ:b7 Tryz.prog T 59 alA:=fr (E:=E59) (aD Cr aX) Tryz.func59 VH.b VH.vo

def E16:=en [(56,alz),(57,Za),(58,af1),(59,alA)] [(3,[0,2,4,5]),(10,[0,2,6,7,1000000006009094,1000000006010003,1000000006011051])]
def A16:Fn [.R] As:=λa=>[aH 29 a]
def k16:Fn [.I, .R, .R, .R, .R, .I, .R, .R, .I, .R, .R, .R, .B] dz:=λa b c d e f g h i j k l m=>⟨[aV [.n a, .ow 51 ai b, .ow 9 ai c, .ow 9 ai d, .ow 26 ai e, .n f, .ow 75 ai g, .ow 72 ai h, .n i, .ow 94 ai j, .ow 3 ai k, .ow 51 ai l],aB m],[]⟩
def Mp:Fn [.R, .B, .I, .I, .I, .I] Tb:=λa b c d e f=>[cH 0 29 a,cP 4 0,cA 8 (.b b),cI 10 c,oB 1 [.n d, .nl, .nl, .nl, .nl, .n e, .nl, .nl, .n f, .nl, .nl, .nl]]
def Fv:Fn [.R, .I, .I, .I, .I, .I, .I, .I, .R, .R, .R, .R, .R, .R, .R, .R, .R] Tb:=λa b c d e f g h i j k l m o p q r=>[cH 0 29 a,cP 4 0,cP 12 1,cI 14 b,oB 1 [.n c, .nl, .nl, .nl, .nl, .n d, .nl, .nl, .n e, .nl, .nl, .nl],oB 3 [.n f, .own 2, .own 3, .own 4, .own 5, .n g, .own 6, .own 7, .n h, .own 8, .own 9, .own 10],oR 5 51 i,oR 7 9 j,oR 9 9 k,oR 11 26 l,oR 13 75 m,oR 15 72 o,oR 17 94 p,oR 19 3 q,oR 21 51 r]
def ZF(N:aE)(K:Kt R):=MA.l3 N (J Mp (.exit 0) K)
def QJ(N:aE)(K:Kt R):=MA.l10 N (J Fv (.exit 2) K)
def aeT(N:aE):It R:=(lp 3 (al Mp (λK=>ZF N K N) an) (lp 10 (al Fv (λK=>QJ N K N) an) ln))
theorem ae8(N:aE):b8 E16 (aeT N (R:=R)) (bU Tryz.f16 3):=lq 3 Mp (ZF N) λK g=>MA.r3 N g (J Mp (.exit 0) K)
theorem XQ(N:aE):b8 E16 (aeT N (R:=R)) (bU Tryz.f16 10):=lq 10 Fv (QJ N) λK g=>MA.z7 N g (J Fv (.exit 2) K)
def alq:=dY A16 k16 MA.c MA.v
theorem auO:b7 Tryz.prog T 16 alq:=fq (E:=E16) (aD auY (aD afx (aD akY (aD auZ aX)))) Tryz.func16 (it:=λN=>aeT N) (λN=>(bk (ae8 N) (bk (XQ N) bC))) MA.b MA.vo

def ahF:=en [(40,afW)] [(5,[0,1,5,6])]
def aoC:Fn [.R, .I, .I, .I] As:=λa b c d=>[.pt [.sh 5 a, .n b, .n c],aI d]
def atx:Fn [.S, .R, .I, .I] dz:=λa b c d=>⟨[aS a],[[.sh 5 b, .n c, .n d]]⟩
def FF:Fn [.I, .I, .R, .I, .I, .R] Tb:=λa b c d e f=>[cP 0 900000900,cI 2 a,cA 10 (.own 1),cI 12 b,oB 1800001801 [.sh 5 c, .n d, .n e],oR 3 5 f]
def QW(N:aE)(K:Kt R):=vL.l5 N (J FF (.exit 0) K)
def aaT(N:aE):It R:=(lp 5 (al FF (λK=>QW N K N) an) ln)
theorem X3(N:aE):b8 ahF (aaT N (R:=R)) (bU Tryz.f208 5):=lq 5 FF (QW N) λK g=>vL.r5 N g (J FF (.exit 0) K)
def acC:=dY aoC atx vL.c vL.v
theorem akd:b7 Tryz.prog T 208 acC:=fq (E:=ahF) (aD akT aX) Tryz.func208 (it:=λN=>aaT N) (λN=>(bk (X3 N) bC)) vL.b vL.vo

def apS:=en [(158,UG),(41,Hb),(80,Vb),(208,acC)] []
def anN:Fn [.R, .I, .I] As:=λa b c=>[.pt [.sh 5 a, .n b, .n c]]
def asI:Fn [.S, .I, .I, .S, .R, .I, .I] dz:=λa b c d e f g=>⟨[aV [.s a, .n b, .n c, .s d]],[[.sh 5 e, .n f, .n g]]⟩
def ab8:=dY anN asI Dk.c Dk.v
theorem ajL:b7 Tryz.prog T 142 ab8:=fr (E:=apS) (aD abo (aD Jb (aD YJ (aD akd aX)))) Tryz.func142 Dk.b Dk.vo

def ahq:=en [] [(3,[0,1,5,6])]
def anP:Fn [.I, .I] As:=λa b=>[aI a, .v ak [.i .u8 b]]
def asK:Fn [.S] dz:=λa=>⟨[aS a],[]⟩
def Fp:Fn [.I, .I, .I, .R] Tb:=λa b c d=>[cI 0 a,cA 2 (.i .u8 b),cA 10 (.own 0),cI 12 c,oR 1 5 d]
def QB(N:aE)(K:Kt R):=Ap.l3 N (J Fp (.exit 0) K)
def aaE(N:aE):It R:=(lp 3 (al Fp (λK=>QB N K N) an) ln)
theorem XI(N:aE):b8 ahq (aaE N (R:=R)) (bU Tryz.f144 3):=lq 3 Fp (QB N) λK g=>Ap.r3 N g (J Fp (.exit 0) K)
def ab9:=dY anP asK Ap.c Ap.v
theorem ajM:b7 Tryz.prog T 144 ab9:=fq (E:=ahq) aX Tryz.func144 (it:=λN=>aaE N) (λN=>(bk (XI N) bC)) Ap.b Ap.vo

def E81:=en [(142,ab8),(41,Hb),(143,ND),(80,Vb),(144,ab9)] []
def A81:Fn [.R, .I, .I] As:=λa b c=>[.pt [.sh 5 a, .n b, .n c]]
def k81:Fn [.S, .I, .I, .S, .R, .I, .I] dz:=λa b c d e f g=>⟨[aV [.s a, .n b, .n c, .s d]],[[.sh 5 e, .n f, .n g]]⟩
def alD:=dY A81 k81 VJ.c VJ.v
theorem au2:b7 Tryz.prog T 81 alD:=fr (E:=E81) (aD ajL (aD Jb (aD Ts (aD YJ (aD ajM aX))))) Tryz.func81 VJ.b VJ.vo

def E28:=en [(39,afV),(80,Vb),(41,Hb),(81,alD)] [(5,[4,5,6,7])]
def A28:Fn [.R] As:=λa=>[aH 5 a]
def k28:Fn [.I, .R] dz:=λa b=>⟨[aI a,aO 51 b],[]⟩
def Mq:Fn [.I, .I, .R, .I, .I, .R] Tb:=λa b c d e f=>[cP 8 0,cI 10 a,cA 12 (.own 1),cI 14 b,oB 1 [.sh 5 c, .n d, .n e],oR 3 51 f]
def ZJ(N:aE)(K:Kt R):=PW.l5 N (J Mq (.exit 0) K)
def ai1(N:aE):It R:=(lp 5 (al Mq (λK=>ZJ N K N) an) ln)
theorem afb(N:aE):b8 E28 (ai1 N (R:=R)) (bU Tryz.f28 5):=lq 5 Mq (ZJ N) λK g=>PW.r5 N g (J Mq (.exit 0) K)
def als:=dY A28 k28 PW.c PW.v
theorem auR:b7 Tryz.prog T 28 als:=fq (E:=E28) (aD akS (aD YJ (aD Jb (aD au2 aX)))) Tryz.func28 (it:=λN=>ai1 N) (λN=>(bk (afb N) bC)) PW.b PW.vo

def E17:=en [] [(4,[0,1,4,5])]
def A17:Fn [.R, .R] As:=λa b=>[aH 3 a,aH 3 b]
def k17:Fn [.B] dz:=λa=>⟨[aB a],[]⟩
def D5:Fn [.R, .R, .B, .I] Tb:=λa b c d=>[cH 0 3 a,cH 2 3 b,cA 8 (.b c),cI 10 d]
def ZG(N:aE)(K:Kt R):=J5.l4 N (J D5 .ret K) (J D5 (.exit 0) K)
def ai0(N:aE):It R:=(lp 4 (al D5 (λK=>ZG N K N) an) ln)
theorem ae9(N:aE):b8 E17 (ai0 N (R:=R)) (bU Tryz.f17 4):=lq 4 D5 (ZG N) λK g=>J5.r4 N g (J D5 .ret K) (J D5 (.exit 0) K)
def afQ:=dY A17 k17 J5.c J5.v
theorem ajX:b7 Tryz.prog T 17 afQ:=fq (E:=E17) aX Tryz.func17 (it:=λN=>ai0 N) (λN=>(bk (ae9 N) bC)) J5.b J5.vo

def E29:=en [] [(4,[0,1,4,5])]
def A29:Fn [.R, .R] As:=λa b=>[aH 51 a,aH 51 b]
def k29:Fn [.B] dz:=λa=>⟨[aB a],[]⟩
def D8:Fn [.R, .R, .B, .I] Tb:=λa b c d=>[cH 0 51 a,cH 2 51 b,cA 8 (.b c),cI 10 d]
def ZK(N:aE)(K:Kt R):=Ka.l4 N (J D8 .ret K) (J D8 (.exit 0) K)
def ai2(N:aE):It R:=(lp 4 (al D8 (λK=>ZK N K N) an) ln)
theorem afc(N:aE):b8 E29 (ai2 N (R:=R)) (bU Tryz.f29 4):=lq 4 D8 (ZK N) λK g=>Ka.r4 N g (J D8 .ret K) (J D8 (.exit 0) K)
def afR:=dY A29 k29 Ka.c Ka.v
theorem akO:b7 Tryz.prog T 29 afR:=fq (E:=E29) aX Tryz.func29 (it:=λN=>ai2 N) (λN=>(bk (afc N) bC)) Ka.b Ka.vo

def ahl:=en [] [(4,[0,1,4,5])]
def anF:Fn [.R, .R] As:=λa b=>[aH 9 a,aH 9 b]
def asA:Fn [.B] dz:=λa=>⟨[aB a],[]⟩
def yN:Fn [.R, .R, .B, .I] Tb:=λa b c d=>[cH 0 9 a,cH 2 9 b,cA 8 (.b c),cI 10 d]
def Qv(N:aE)(K:Kt R):=vG.l4 N (J yN .ret K) (J yN (.exit 0) K)
def aaz(N:aE):It R:=(lp 4 (al yN (λK=>Qv N K N) an) ln)
theorem XB(N:aE):b8 ahl (aaz N (R:=R)) (bU Tryz.f118 4):=lq 4 yN (Qv N) λK g=>vG.r4 N g (J yN .ret K) (J yN (.exit 0) K)
def ab4:=dY anF asA vG.c vG.v
theorem ajH:b7 Tryz.prog T 118 ab4:=fq (E:=ahl) aX Tryz.func118 (it:=λN=>aaz N) (λN=>(bk (XB N) bC)) vG.b vG.vo

def ahm:=en [(17,afQ)] [(4,[2,3,4,5])]
def anG:Fn [.R, .I, .R, .I] As:=λa b c d=>[aV [.sh 26 a, .n b],aV [.sh 26 c, .n d]]
def asB:Fn [.B] dz:=λa=>⟨[aB a],[]⟩
def yO:Fn [.B, .I, .R, .I, .R, .I] Tb:=λa b c d e f=>[cP 4 0,cP 6 1,cA 8 (.b a),cI 10 b,oB 1 [.sh 26 c, .n d],oB 3 [.sh 26 e, .n f]]
def Qw(N:aE)(K:Kt R):=Ao.l4 N (J yO .ret K) (J yO (.exit 0) K)
def aaA(N:aE):It R:=(lp 4 (al yO (λK=>Qw N K N) an) ln)
theorem XD(N:aE):b8 ahm (aaA N (R:=R)) (bU Tryz.f119 4):=lq 4 yO (Qw N) λK g=>Ao.r4 N g (J yO .ret K) (J yO (.exit 0) K)
def ab5:=dY anG asB Ao.c Ao.v
theorem ajI:b7 Tryz.prog T 119 ab5:=fq (E:=ahm) (aD ajX aX) Tryz.func119 (it:=λN=>aaA N) (λN=>(bk (XD N) bC)) Ao.b Ao.vo

def E60:=en [(118,ab4),(119,ab5)] []
def A60:Fn [.R, .R, .R, .I, .R, .R, .R, .I] As:=λa b c d e f g h=>[aV [.sh 9 a, .sh 9 b, .sh 26 c, .n d],aV [.sh 9 e, .sh 9 f, .sh 26 g, .n h]]
def k60:Fn [.B] dz:=λa=>⟨[aB a],[]⟩
def alB:=dY A60 k60 VI.c VI.v
theorem au0:b7 Tryz.prog T 60 alB:=fr (E:=E60) (aD ajH (aD ajI aX)) Tryz.func60 VI.b VI.vo

def E18:=en [(29,afR),(60,alB)] [(4,[2,3,4,5]),(9,[2,3,4,6])]
def A18:Fn [.I, .R, .R, .R, .R, .I, .R, .R, .I, .I, .R, .R, .R, .R, .I, .R, .R, .I] As:=λa b c d e f g h i j k l m o p q r s=>[aV [.n a, .sh 51 b, .sh 9 c, .sh 9 d, .sh 26 e, .n f, .sh 75 g, .sh 72 h, .n i],aV [.n j, .sh 51 k, .sh 9 l, .sh 9 m, .sh 26 o, .n p, .sh 75 q, .sh 72 r, .n s]]
def k18:Fn [.B] dz:=λa=>⟨[aB a],[]⟩
def D6:Fn [.B, .I, .I, .R, .R, .R, .R, .I, .R, .R, .I, .I, .R, .R, .R, .R, .I, .R, .R, .I] Tb:=λa b c d e f g h i j k l m o p q r s t u=>[cP 4 0,cP 6 1,cA 8 (.b a),cI 10 b,oB 1 [.n c, .sh 51 d, .sh 9 e, .sh 9 f, .sh 26 g, .n h, .sh 75 i, .sh 72 j, .n k],oB 3 [.n l, .sh 51 m, .sh 9 o, .sh 9 p, .sh 26 q, .n r, .sh 75 s, .sh 72 t, .n u]]
def D7:Fn [.B, .I, .I, .R, .R, .R, .R, .I, .R, .R, .I, .I, .R, .R, .R, .R, .I, .R, .R, .I] Tb:=λa b c d e f g h i j k l m o p q r s t u=>[cP 4 0,cP 6 1,cA 8 (.b a),cI 12 b,oB 1 [.n c, .sh 51 d, .sh 9 e, .sh 9 f, .sh 26 g, .n h, .sh 75 i, .sh 72 j, .n k],oB 3 [.n l, .sh 51 m, .sh 9 o, .sh 9 p, .sh 26 q, .n r, .sh 75 s, .sh 72 t, .n u]]
def ZH(N:aE)(K:Kt R):=MB.l4 N (J D6 .ret K) (J D6 (.exit 0) K)
def ZI(N:aE)(K:Kt R):=MB.l9 N (J D7 .ret K) (J D7 (.exit 2) K)
def aeU(N:aE):It R:=(lp 4 (al D6 (λK=>ZH N K N) an) (lp 9 (al D7 (λK=>ZI N K N) an) ln))
theorem ae_(N:aE):b8 E18 (aeU N (R:=R)) (bU Tryz.f18 4):=lq 4 D6 (ZH N) λK g=>MB.r4 N g (J D6 .ret K) (J D6 (.exit 0) K)
theorem afa(N:aE):b8 E18 (aeU N (R:=R)) (bU Tryz.f18 9):=lq 9 D7 (ZI N) λK g=>MB.r9 N g (J D7 .ret K) (J D7 (.exit 2) K)
def alr:=dY A18 k18 MB.c MB.v
theorem auP:b7 Tryz.prog T 18 alr:=fq (E:=E18) (aD akO (aD au0 aX)) Tryz.func18 (it:=λN=>aeU N) (λN=>(bk (ae_ N) (bk (afa N) bC))) MB.b MB.vo

def E6:=Th T md [(8,sp8),(9,sp9),(11,alo),(16,alq),(28,als),(17,afQ),(29,afR),(30,Y_),(31,afS),(32,afT),(33,afU),(18,alr)] [] [7002000] []
def A6:Fn [.R] As:=λa=>[aH 5 a]
def k6:Fn [.B] dz:=λa=>⟨[aB a],[]⟩
def sp6:=dY A6 k6 U6.c U6.v
theorem ok6:b7 Tryz.prog T 6 sp6:=fr (E:=E6) (aD ok8 (aD ok9 (aD auM (aD auO (aD auR (aD ajX (aD akO (aD afw (aD akP (aD akQ (aD akR (aD auP aX)))))))))))) Tryz.func6 U6.b U6.vo

end Go.FG.Se
