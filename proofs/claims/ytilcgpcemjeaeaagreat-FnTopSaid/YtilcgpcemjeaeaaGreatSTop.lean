/- Functions of the program: the evaluation of each, and that a call of it does what is told. No condition. -/
import Derived.Test.YtilcgpcemjeaeaaGreatTab
import Derived.Test.YtilcgpcemjeaeaaGreatPTopb
import Derived.Test.YtilcgpcemjeaeaaGreatIns
set_option linter.unusedVariables false
set_option linter.unusedSimpArgs false
set_option maxRecDepth 100000
open Bool renaming true->ai,false->ak
open Function renaming comp_def->dL
open Go.Extern.SlicesOverlaps renaming overlaps->fG
open Go.Shelf renaming Ren->QP
open Nat renaming beq->bF
open _root_ renaming Nat->aE,List->az,Option->aA,Bool->aU
namespace Go.FG.Se
open Go.Proofs Go.Proofs.Tryz
variable {R:Type}
abbrev FO:=lY Tryz.prog T

def E8:=en [] []
def A8:Fn [.R] As:=λa=>[aH 5 a]
def k8:Fn [.B] dq:=λa=>⟨[aB a],[]⟩
def sp8:=dP A8 k8 (ct _) U8.v
theorem ok8:FO 8 sp8:=ft (E:=E8) aX func8 U8.b λ(a0,_)=>U8.eh _ a0

def E39:=en [] [(3,[0,3,4])]
def A39:Fn [.R] As:=λa=>[aH 5 a]
def k39:Fn [.R, .I, .I] dq:=λa b c=>⟨[.pt [.sh 5 a, .n b, .n c]],[]⟩
def Nk:Fn [.R, .I, .I] Tb:=λa b c=>[cH 0 5 a,cI 6 b,cI 8 c]
def aa6(N:aE)(K:Kt R):=Q3.l3 N (J Nk (.exit 0) K)
def akG(N:aE):It R:=(lp 3 (al Nk (λK=>aa6 N K N) an) ln)
theorem agK(N:aE):bZ E39 (akG N (R:=R)) (bT f39 3):=lq 3 Nk (aa6 N) λK g=>Q3.r3 N g (J Nk (.exit 0) K)
def ani:=dP A39 k39 Q3.c Q3.v
theorem awS:FO 39 ani:=fq (E:=E39) aX func39 (it:=λN=>akG N) (λN=>(bm (agK N) bw)) Q3.b Q3.vo

def Xi:=en [] [(3,[0,1,2])]
def aqg:Fn [] As:=[]
def avf:Fn [.R, .I] dq:=λa b=>⟨[aV [.ow 26 ai a, .n b]],[]⟩
def rE:Fn [.I, .I, .I] Tb:=λa b c=>[cP 0 0,cP 2 1,cI 4 a,oB 1 [.nl, .n b],oB 3 [.nl, .n c]]
def oI:Fn [.I, .I, .I, .R] Tb:=λa b c d=>[cP 0 0,cP 2 1,cI 4 a,oB 1 [.nl, .n b],oB 3 [.own 2, .n c],oR 5 26 d]
def RY(N:aE)(K:Kt R):=G_.l3 N (J rE (.exit 0) K) (J oI (.exit 0) K)
def MY(N:aE)(K:Kt R):=G_.sR N (J rE (.exit 0) K) (J oI (.exit 0) K)
def N4(N:aE):It R:=(lp 3 (al rE (λK=>RY N K N) (al oI (λK=>MY N K N) an)) ln)
theorem OU(N:aE)(K:Kt R):Wd Xi (N4 N) (bT f184 3) 3 K oI (MY N K):=lw (λg=>G_.zZ N (cmp _ rE (g∘fM)) (cmp _ oI (g∘fM)) (J rE (.exit 0) K) (J oI (.exit 0) K)) λm i=>by simp only[dL,wf i];rfl
theorem ahE(N:aE)(K:Kt R):Wd Xi (N4 N) (bT f184 3) 3 K rE (RY N K):=lw (λg=>G_.r3 N (cmp _ rE (g∘fM)) (cmp _ oI (g∘fM)) (J rE (.exit 0) K) (J oI (.exit 0) K)) λm i=>by simp only[dL,wf i,wf (OU N K m)];rfl
theorem Y9(N:aE):bZ Xi (N4 N (R:=R)) (bT f184 3):=lm 3 (ga rE (ahE N) (ga oI (OU N) oT))
def adV:=dP aqg avf G_.c G_.v
theorem alN:FO 184 adV:=fq (E:=Xi) aX func184 (it:=λN=>N4 N) (λN=>(bm (Y9 N) bw)) G_.b G_.vo

def arF:=en [(184,adV)] []
def apr:Fn [] As:=[]
def aur:Fn [.R, .R, .R, .I] dq:=λa b c d=>⟨[aV [.ow 9 ai a, .ow 9 ai b, .ow 26 ai c, .n d]],[]⟩
def adv:=dP apr aur (ct _) XE.v
theorem alj:FO 115 adv:=ft (E:=arF) (aF alN aX) func115 XE.b λ_=>XE.eh _

def E57:=en [(115,adv)] []
def A57:Fn [] As:=[]
def k57:Fn [.I, .R, .R, .R, .R, .I, .R, .R, .I] dq:=λa b c d e f g h i=>⟨[aV [.n a, .ow 51 ai b, .ow 9 ai c, .ow 9 ai d, .ow 26 ai e, .n f, .ow 75 ai g, .ow 72 ai h, .n i]],[]⟩
def aao:=dP A57 k57 (ct _) U57.v
theorem ag5:FO 57 aao:=ft (E:=E57) (aF alj aX) func57 U57.b λ_=>U57.eh _

def E40:=en [] []
def A40:Fn [.R, .I, .I] As:=λa b c=>[.pt [.sh 5 a, .n b, .n c]]
def k40:Fn [.I, .R, .I, .I] dq:=λa b c d=>⟨[aI a],[[.sh 5 b, .n c, .n d]]⟩
def anj:=dP A40 k40 dr.c dr.v
theorem awT:FO 40 anj:=fr (E:=E40) aX func40 dr.b dr.vo

def E41:=en [(40,anj)] []
def A41:Fn [.R, .I, .I, .I] As:=λa b c d=>[.pt [.sh 5 a, .n b, .n c],aI d]
def k41:Fn [.I, .R, .I, .I] dq:=λa b c d=>⟨[aI a],[[.sh 5 b, .n c, .n d]]⟩
def QE:=dP A41 k41 n9.c n9.v
theorem UZ:FO 41 QE:=fr (E:=E41) (aF awT aX) func41 n9.b n9.vo

def E80:=en [(41,QE)] []
def A80:Fn [.R, .I, .I, .R] As:=λa b c d=>[.pt [.sh 5 a, .n b, .n c],aO 3 d]
def k80:Fn [.I, .R, .I, .I, .R] dq:=λa b c d e=>⟨[aI a],[[.sh 5 b, .n c, .n d],[.kp e]]⟩
def ant:=dP A80 k80 Ap.c Ap.v
theorem aw3:FO 80 ant:=fr (E:=E80) (aF UZ aX) func80 Ap.b Ap.vo

def arL:=en [(41,QE)] []
def apD:Fn [.R, .I, .I, .R] As:=λa b c d=>[.pt [.sh 5 a, .n b, .n c],aO 9 d]
def auE:Fn [.S, .R, .I, .I, .R] dq:=λa b c d e=>⟨[aS a],[[.sh 5 b, .n c, .n d],[.kp e]]⟩
def VM:=dP apD auE pO.c pO.v
theorem acK:FO 143 VM:=fr (E:=arL) (aF UZ aX) func143 pO.b pO.vo

def arV:=en [(143,VM)] []
def apS:Fn [.R, .I, .I] As:=λa b c=>[.pt [.sh 5 a, .n b, .n c]]
def auR:Fn [.S, .R, .I, .I] dq:=λa b c d=>⟨[aS a],[[.sh 5 b, .n c, .n d]]⟩
def adF:=dP apS auR u_.c u_.v
theorem alw:FO 158 adF:=fr (E:=arV) (aF acK aX) func158 u_.b u_.vo

def E94:=en [(41,QE)] []
def A94:Fn [.R, .I, .I, .I] As:=λa b c d=>[.pt [.sh 5 a, .n b, .n c],aI d]
def k94:Fn [.B, .R, .I, .I] dq:=λa b c d=>⟨[aB a],[[.sh 5 b, .n c, .n d]]⟩
def ahA:=dP A94 k94 Iz.c Iz.v
theorem amJ:FO 94 ahA:=fr (E:=E94) (aF UZ aX) func94 Iz.b Iz.vo

def E93:=en [(80,ant),(41,QE),(158,adF),(94,ahA),(143,VM)] [(4,[0,1,3,4,5,6,7])]
def A93:Fn [.R, .I, .I, .I, .R, .R, .R, .R, .I, .R, .R, .I, .R, .R, .R] As:=λa b c d e f g h i j k l m o p=>[.pt [.sh 5 a, .n b, .n c],aV [.n d, .ow 51 ai e, .ow 9 ai f, .ow 9 ai g, .ow 26 ai h, .n i, .ow 75 ai j, .ow 72 ai k, .n l, .ow 94 ai m, .ow 3 ai o, .ow 51 ai p]]
def k93:Fn [.I, .I, .S, .I, .R, .R, .I, .I, .R, .R, .R, .R, .R, .R, .R, .R, .R] dq:=λa b c d e f g h i j k l m o p q r=>⟨[aV [.n a, .n b, .s c, .n d, .ow 3 ai e]],[[.sh 5 f, .n g, .n h],[.nl, .kp i, .kp j, .kp k, .kp l, .nl, .kp m, .kp o, .nl, .kp p, .kp q, .kp r]]⟩
def Nq:Fn [.I, .I, .I, .I, .R, .I, .I, .R, .R, .R, .R, .R, .R, .R, .R, .R, .I, .I, .I, .I, .I, .S, .I, .I, .I, .S, .I, .R] Tb:=λa b c d e f g h i j k l m o p q r s t u v w x y z aa ab ac=>[cP 0 900000900,cV 2 [.n a, .own 900001001, .own 900001002, .own 900001003, .own 900001004, .n b, .own 900001006, .own 900001007, .n c, .own 900001009, .own 900001010, .own 900001011],cP 6 10,cP 8 11,cP 10 12,cA 12 (.own 13),cI 14 d,oB 1800001801 [.sh 5 e, .n f, .n g],oR 1800002003 51 h,oR 1800002005 9 i,oR 1800002007 9 j,oR 1800002009 26 k,oR 1800002013 75 l,oR 1800002015 72 m,oR 1800002019 94 o,oR 1800002021 3 p,oR 1800002023 51 q,oB 21 [.n r, .own 900001001, .own 900001002, .own 900001003, .own 900001004, .n s, .own 900001006, .own 900001007, .n t, .own 900001009, .own 900001010, .own 900001011],oB 23 [.n u, .n v, .s w, .n x, .nl],oB 25 [.n y, .n z, .s aa, .n ab, .nl],oR 27 3 ac]
def abl(N:aE)(K:Kt R):=K8.l4 N (J Nq (.exit 0) K)
def akQ(N:aE):It R:=(lp 4 (al Nq (λK=>abl N K N) an) ln)
theorem ag0(N:aE):bZ E93 (akQ N (R:=R)) (bT f93 4):=lq 4 Nq (abl N) λK g=>K8.r4 N g (J Nq (.exit 0) K)
def anA:=dP A93 k93 K8.c K8.v
theorem aw9:FO 93 anA:=fq (E:=E93) (aF aw3 (aF UZ (aF alw (aF amJ (aF acK aX))))) func93 (it:=λN=>akQ N) (λN=>(bm (ag0 N) bw)) K8.b K8.vo

def Xn:=en [] [(3,[1,2,3,4])]
def aq2:Fn [.R, .I] As:=λa b=>[aV [.sh 26 a, .n b]]
def av1:Fn [.R, .I] dq:=λa b=>⟨[aV [.ow 26 ai a, .n b]],[]⟩
def rI:Fn [.I, .R, .I, .I, .I] Tb:=λa b c d e=>[cP 2 0,cP 4 1,cP 6 2,cI 8 a,oB 1 [.sh 26 b, .n c],oB 3 [.nl, .n d],oB 5 [.nl, .n e]]
def oM:Fn [.I, .R, .I, .I, .I, .R] Tb:=λa b c d e f=>[cP 2 0,cP 4 1,cP 6 2,cI 8 a,oB 1 [.sh 26 b, .n c],oB 3 [.nl, .n d],oB 5 [.own 3, .n e],oR 7 26 f]
def Su(N:aE)(K:Kt R):=oa.l3 N (J rI (.exit 0) K) (J oM (.exit 0) K)
def M7(N:aE)(K:Kt R):=oa.sR N (J rI (.exit 0) K) (J oM (.exit 0) K)
def N9(N:aE):It R:=(lp 3 (al rI (λK=>Su N K N) (al oM (λK=>M7 N K N) an)) ln)
theorem OZ(N:aE)(K:Kt R):Wd Xn (N9 N) (bT f244 3) 3 K oM (M7 N K):=lw (λg=>oa.zZ N (cmp _ rI (g∘fM)) (cmp _ oM (g∘fM)) (J rI (.exit 0) K) (J oM (.exit 0) K)) λm i=>by simp only[dL,wf i];rfl
theorem ahI(N:aE)(K:Kt R):Wd Xn (N9 N) (bT f244 3) 3 K rI (Su N K):=lw (λg=>oa.r3 N (cmp _ rI (g∘fM)) (cmp _ oM (g∘fM)) (J rI (.exit 0) K) (J oM (.exit 0) K)) λm i=>by simp only[dL,wf i,wf (OZ N K m)];rfl
theorem Zz(N:aE):bZ Xn (N9 N (R:=R)) (bT f244 3):=lm 3 (ga rI (ahI N) (ga oM (OZ N) oT))
def OQ:=dP aq2 av1 oa.c oa.v
theorem UU:FO 244 OQ:=fq (E:=Xn) aX func244 (it:=λN=>N9 N) (λN=>(bm (Zz N) bw)) oa.b oa.vo

def asf:=en [(244,OQ)] []
def aqp:Fn [.R, .R, .R, .I] As:=λa b c d=>[aV [.sh 9 a, .sh 9 b, .sh 26 c, .n d]]
def avo:Fn [.R, .R, .R, .I] dq:=λa b c d=>⟨[aV [.ow 9 ai a, .ow 9 ai b, .ow 26 ai c, .n d]],[]⟩
def VZ:=dP aqp avo gb.c gb.v
theorem acX:FO 193 VZ:=fr (E:=asf) (aF UU aX) func193 gb.b gb.vo

def arH:=en [(193,VZ)] []
def apt:Fn [.I, .R, .R, .R, .R, .I, .R, .R, .I] As:=λa b c d e f g h i=>[aV [.n a, .sh 51 b, .sh 9 c, .sh 9 d, .sh 26 e, .n f, .sh 75 g, .sh 72 h, .n i]]
def aut:Fn [.I, .R, .R, .R, .R, .I, .R, .R, .I] dq:=λa b c d e f g h i=>⟨[aV [.n a, .ow 51 ai b, .ow 9 ai c, .ow 9 ai d, .ow 26 ai e, .n f, .ow 75 ai g, .ow 72 ai h, .n i]],[]⟩
def AK:=dP apt aut fI.c fI.v
theorem C6:FO 117 AK:=fr (E:=arH) (aF acX aX) func117 fI.b fI.vo

def E50:=en [] []
def A50:Fn [.I, .I, .I] As:=λa b c=>[aI a,aI b,aI c]
def k50:Fn [.B] dq:=λa=>⟨[aB a],[]⟩
def sZ:=dP A50 k50 (ct _) ki.v
theorem tV:FO 50 sZ:=ft (E:=E50) aX func50 ki.b λ(a0,a1,a2,_)=>ki.eh _ a0 a1 a2

def arz:=en [(50,sZ)] []
def api:Fn [.S] As:=λa=>[aS a]
def aui:Fn [.B] dq:=λa=>⟨[aB a],[]⟩
def Dy:=dP api aui (ct _) th.v
theorem FN:FO 107 Dy:=ft (E:=arz) (aF tV aX) func107 th.b λ(a0,_)=>th.eh _ a0

def E49:=en [(107,Dy),(50,sZ)] []
def A49:Fn [.S, .I, .I, .S] As:=λa b c d=>[aV [.s a, .n b, .n c, .s d]]
def k49:Fn [.B] dq:=λa=>⟨[aB a],[]⟩
def Wh:=dP A49 k49 (ct _) m8.v
theorem ZS:FO 49 Wh:=ft (E:=E49) (aF FN (aF tV aX)) func49 m8.b λ(a0,a1,a2,a3,_)=>m8.eh _ a0 a1 a2 a3

def aje:=en [] [(2,[0,1,4,5])]
def aqE:Fn [.R, .S] As:=λa b=>[aH 9 a,aS b]
def avD:Fn [.B] dq:=λa=>⟨[aB a],[]⟩
def zq:Fn [.R, .S, .B, .I] Tb:=λa b c d=>[cH 0 9 a,cA 2 (.s b),cA 8 (.b c),cI 10 d]
def R_(N:aE)(K:Kt R):=e9.l2 N (J zq .ret K) (J zq (.exit 0) K)
def ack(N:aE):It R:=(lp 2 (al zq (λK=>R_ N K N) an) ln)
theorem Zj(N:aE):bZ aje (ack N (R:=R)) (bT f219 2):=lq 2 zq (R_ N) λK g=>e9.r2 N g (J zq .ret K) (J zq (.exit 0) K)
def OK:=dP aqE avD e9.c e9.v
theorem UP:FO 219 OK:=fq (E:=aje) aX func219 (it:=λN=>ack N) (λN=>(bm (Zj N) bw)) e9.b e9.vo

def arS:=en [(219,OK)] []
def apN:Fn [.R, .R, .R, .I, .S] As:=λa b c d e=>[aV [.sh 9 a, .sh 9 b, .sh 26 c, .n d],aS e]
def auN:Fn [.B] dq:=λa=>⟨[aB a],[]⟩
def VR:=dP apN auN tl.c tl.v
theorem acP:FO 153 VR:=fr (E:=arS) (aF UP aX) func153 tl.b tl.vo

def aeU:=en [(50,sZ)] [(4,[1,2,3]),(9,[1,2,3,4])]
def aqP:Fn [.R, .I] As:=λa b=>[aV [.sh 26 a, .n b]]
def avO:Fn [.B] dq:=λa=>⟨[aB a],[]⟩
def zt:Fn [.B, .I, .R, .I] Tb:=λa b c d=>[cP 2 0,cA 4 (.b a),cI 6 b,oB 1 [.sh 26 c, .n d]]
def zu:Fn [.B, .I, .I, .R, .I] Tb:=λa b c d e=>[cP 2 0,cA 4 (.b a),cI 6 b,cI 8 c,oB 1 [.sh 26 d, .n e]]
def Sg(N:aE)(K:Kt R):=fB.l4 N (J zt .ret K) (J zt (.exit 0) K)
def Sh(N:aE)(K:Kt R):=fB.l9 N (J zu .ret K) (J zu (.exit 2) K)
def T1(N:aE):It R:=(lp 4 (al zt (λK=>Sg N K N) an) (lp 9 (al zu (λK=>Sh N K N) an) ln))
theorem Zo(N:aE):bZ aeU (T1 N (R:=R)) (bT f231 4):=lq 4 zt (Sg N) λK g=>fB.r4 N g (J zt .ret K) (J zt (.exit 0) K)
theorem Zp(N:aE):bZ aeU (T1 N (R:=R)) (bT f231 9):=lq 9 zu (Sh N) λK g=>fB.r9 N g (J zu .ret K) (J zu (.exit 2) K)
def ON:=dP aqP avO fB.c fB.v
theorem UR:FO 231 ON:=fq (E:=aeU) (aF tV aX) func231 (it:=λN=>T1 N) (λN=>(bm (Zo N) (bm (Zp N) bw))) fB.b fB.vo

def ai9:=en [(107,Dy),(219,OK),(231,ON)] [(3,[1,2,3,4])]
def aqb:Fn [.R, .R, .R, .I] As:=λa b c d=>[aV [.sh 9 a, .sh 9 b, .sh 26 c, .n d]]
def ava:Fn [.B] dq:=λa=>⟨[aB a],[]⟩
def zm:Fn [.B, .I, .R, .R, .R, .I, .R] Tb:=λa b c d e f g=>[cP 2 0,cA 4 (.b a),cA 6 (.own 1),cI 8 b,oB 1 [.sh 9 c, .sh 9 d, .sh 26 e, .n f],oR 3 9 g]
def RW(N:aE)(K:Kt R):=jz.l3 N (J zm .ret K) (J zm (.exit 0) K)
def ace(N:aE):It R:=(lp 3 (al zm (λK=>RW N K N) an) ln)
theorem Y7(N:aE):bZ ai9 (ace N (R:=R)) (bT f179 3):=lq 3 zm (RW N) λK g=>jz.r3 N g (J zm .ret K) (J zm (.exit 0) K)
def VW:=dP aqb ava jz.c jz.v
theorem acU:FO 179 VW:=fq (E:=ai9) (aF FN (aF UP (aF UR aX))) func179 (it:=λN=>ace N) (λN=>(bm (Y7 N) bw)) jz.b jz.vo

def aiO:=en [(49,Wh),(153,VR),(179,VW)] [(2,[1,2,3])]
def apg:Fn [.I, .R, .R, .R, .R, .I, .R, .R, .I] As:=λa b c d e f g h i=>[aV [.n a, .sh 51 b, .sh 9 c, .sh 9 d, .sh 26 e, .n f, .sh 75 g, .sh 72 h, .n i]]
def aug:Fn [.B] dq:=λa=>⟨[aB a],[]⟩
def za:Fn [.B, .I, .I, .R, .R, .R, .R, .I, .R, .R, .I] Tb:=λa b c d e f g h i j k=>[cP 2 0,cA 4 (.b a),cI 6 b,oB 1 [.n c, .sh 51 d, .sh 9 e, .sh 9 f, .sh 26 g, .n h, .sh 75 i, .sh 72 j, .n k]]
def Rw(N:aE)(K:Kt R):=nU.l2 N (J za .ret K) (J za (.exit 0) K)
def abT(N:aE):It R:=(lp 2 (al za (λK=>Rw N K N) an) ln)
theorem YI(N:aE):bZ aiO (abT N (R:=R)) (bT f105 2):=lq 2 za (Rw N) λK g=>nU.r2 N g (J za .ret K) (J za (.exit 0) K)
def adr:=dP apg aug nU.c nU.v
theorem alf:FO 105 adr:=fq (E:=aiO) (aF ZS (aF acP (aF acU aX))) func105 (it:=λN=>abT N) (λN=>(bm (YI N) bw)) nU.b nU.vo

def aiP:=en [(107,Dy),(50,sZ)] [(5,[1,2,4,5,6])]
def aph:Fn [.I, .R, .R, .R, .R, .I, .R, .R, .I, .I] As:=λa b c d e f g h i j=>[aV [.n a, .sh 51 b, .sh 9 c, .sh 9 d, .sh 26 e, .n f, .sh 75 g, .sh 72 h, .n i],aI j]
def auh:Fn [.B] dq:=λa=>⟨[aB a],[]⟩
def zb:Fn [.I, .B, .I, .I, .R, .R, .R, .R, .I, .R, .R, .I, .S, .S, .I, .I, .I] Tb:=λa b c d e f g h i j k l m o p q r=>[cI 2 a,cP 4 0,cA 8 (.b b),cP 10 1,cI 12 c,oB 1 [.n d, .sh 51 e, .sh 9 f, .sh 9 g, .sh 26 h, .n i, .sh 75 j, .sh 72 k, .n l],oB 3 [.s m, .s o, .n p, .n q, .n r]]
def Rx(N:aE)(K:Kt R):=np.l5 N (J zb .ret K) (J zb (.exit 0) K)
def abU(N:aE):It R:=(lp 5 (al zb (λK=>Rx N K N) an) ln)
theorem YJ(N:aE):bZ aiP (abU N (R:=R)) (bT f106 5):=lq 5 zb (Rx N) λK g=>np.r5 N g (J zb .ret K) (J zb (.exit 0) K)
def ads:=dP aph auh np.c np.v
theorem alg:FO 106 ads:=fq (E:=aiP) (aF FN (aF tV aX)) func106 (it:=λN=>abU N) (λN=>(bm (YJ N) bw)) np.b np.vo

def E45:=en [(50,sZ),(105,adr),(106,ads),(107,Dy)] [(4,[1,2,3]),(9,[1,2,4])]
def A45:Fn [.I, .R, .R, .R, .R, .I, .R, .R, .I] As:=λa b c d e f g h i=>[aV [.n a, .sh 51 b, .sh 9 c, .sh 9 d, .sh 26 e, .n f, .sh 75 g, .sh 72 h, .n i]]
def k45:Fn [.B] dq:=λa=>⟨[aB a],[]⟩
def E7:Fn [.B, .I, .I, .R, .R, .R, .R, .I, .R, .R, .I] Tb:=λa b c d e f g h i j k=>[cP 2 0,cA 4 (.b a),cI 6 b,oB 1 [.n c, .sh 51 d, .sh 9 e, .sh 9 f, .sh 26 g, .n h, .sh 75 i, .sh 72 j, .n k]]
def E_:Fn [.B, .I, .I, .R, .R, .R, .R, .I, .R, .R, .I] Tb:=λa b c d e f g h i j k=>[cP 2 0,cA 4 (.b a),cI 8 b,oB 1 [.n c, .sh 51 d, .sh 9 e, .sh 9 f, .sh 26 g, .n h, .sh 75 i, .sh 72 j, .n k]]
def aa8(N:aE)(K:Kt R):=oX.l4 N (J E7 .ret K) (J E7 (.exit 0) K)
def aa9(N:aE)(K:Kt R):=oX.l9 N (J E_ .ret K) (J E_ (.exit 2) K)
def agh(N:aE):It R:=(lp 4 (al E7 (λK=>aa8 N K N) an) (lp 9 (al E_ (λK=>aa9 N K N) an) ln))
theorem agM(N:aE):bZ E45 (agh N (R:=R)) (bT f45 4):=lq 4 E7 (aa8 N) λK g=>oX.r4 N g (J E7 .ret K) (J E7 (.exit 0) K)
theorem agN(N:aE):bZ E45 (agh N (R:=R)) (bT f45 9):=lq 9 E_ (aa9 N) λK g=>oX.r9 N g (J E_ .ret K) (J E_ (.exit 2) K)
def aan:=dP A45 k45 oX.c oX.v
theorem ag4:FO 45 aan:=fq (E:=E45) (aF tV (aF alf (aF alg (aF FN aX)))) func45 (it:=λN=>agh N) (λN=>(bm (agM N) (bm (agN N) bw))) oX.b oX.vo

def aji:=en [] [(2,[1,2,4,5,6])]
def aqR:Fn [.I, .R, .R, .R, .R, .I, .R, .R, .I, .S] As:=λa b c d e f g h i j=>[aV [.n a, .sh 51 b, .sh 9 c, .sh 9 d, .sh 26 e, .n f, .sh 75 g, .sh 72 h, .n i],aS j]
def avQ:Fn [.S, .I, .I, .S, .B] dq:=λa b c d e=>⟨[aV [.s a, .n b, .n c, .s d],aB e],[]⟩
def zv:Fn [.S, .B, .I, .I, .R, .R, .R, .R, .I, .R, .R, .I, .S, .I, .I, .S] Tb:=λa b c d e f g h i j k l m o p q=>[cA 2 (.s a),cP 4 0,cP 8 1,cA 10 (.b b),cI 12 c,oB 1 [.n d, .sh 51 e, .sh 9 f, .sh 9 g, .sh 26 h, .n i, .sh 75 j, .sh 72 k, .n l],oB 3 [.s m, .n o, .n p, .s q]]
def Sk(N:aE)(K:Kt R):=w7.l2 N (J zv .ret K) (J zv (.exit 0) K)
def acp(N:aE):It R:=(lp 2 (al zv (λK=>Sk N K N) an) ln)
theorem Zs(N:aE):bZ aji (acp N (R:=R)) (bT f233 2):=lq 2 zv (Sk N) λK g=>w7.r2 N g (J zv .ret K) (J zv (.exit 0) K)
def aee:=dP aqR avQ w7.c w7.v
theorem al7:FO 233 aee:=fq (E:=aji) aX func233 (it:=λN=>acp N) (λN=>(bm (Zs N) bw)) w7.b w7.vo

def E13:=en [(49,Wh),(50,sZ)] []
def A13:Fn [.S, .I, .I, .S, .I] As:=λa b c d e=>[aV [.s a, .n b, .n c, .s d],aI e]
def k13:Fn [.B] dq:=λa=>⟨[aB a],[]⟩
def VL:=dP A13 k13 (ct _) zC.v
theorem ZR:FO 13 VL:=ft (E:=E13) (aF ZS (aF tV aX)) func13 zC.b λ(a0,a1,a2,a3,a4,_)=>zC.eh _ a0 a1 a2 a3 a4

def aeV:=en [] [(2,[0,1,5]),(6,[0,1,5,6])]
def aqQ:Fn [.I, .S] As:=λa b=>[.v ak [.i .u32 a],aS b]
def avP:Fn [.I] dq:=λa=>⟨[.v ak [.i .u32 a]],[]⟩
def GU:Fn [.I, .S, .I] Tb:=λa b c=>[cA 0 (.i .u32 a),cA 2 (.s b),cI 10 c]
def GV:Fn [.I, .S, .I, .I] Tb:=λa b c d=>[cA 0 (.i .u32 a),cA 2 (.s b),cI 10 c,cI 12 d]
def Si(N:aE)(K:Kt R):=jU.l2 N (J GU (.exit 0) K)
def Sj(N:aE)(K:Kt R):=jU.l6 N (J GV (.exit 2) K)
def T2(N:aE):It R:=(lp 2 (al GU (λK=>Si N K N) an) (lp 6 (al GV (λK=>Sj N K N) an) ln))
theorem Zq(N:aE):bZ aeV (T2 N (R:=R)) (bT f232 2):=lq 2 GU (Si N) λK g=>jU.r2 N g (J GU (.exit 0) K)
theorem Zr(N:aE):bZ aeV (T2 N (R:=R)) (bT f232 6):=lq 6 GV (Sj N) λK g=>jU.r6 N g (J GV (.exit 2) K)
def aed:=dP aqQ avP jU.c jU.v
theorem al6:FO 232 aed:=fq (E:=aeV) aX func232 (it:=λN=>T2 N) (λN=>(bm (Zq N) (bm (Zr N) bw))) jU.b jU.vo

def ar_:=en [(232,aed)] []
def aqf:Fn [.S] As:=λa=>[aS a]
def ave:Fn [.I] dq:=λa=>⟨[.v ak [.i .u32 a]],[]⟩
def VX:=dP aqf ave v8.c v8.v
theorem acV:FO 183 VX:=fr (E:=ar_) (aF al6 aX) func183 v8.b v8.vo

def asF:=en [(183,VX)] []
def aq_:Fn [.I, .S] As:=λa b=>[aI a,aS b]
def av9:Fn [.I] dq:=λa=>⟨[aI a],[]⟩
def We:=dP aq_ av9 gp.c gp.v
theorem adb:FO 258 We:=fr (E:=asF) (aF acV aX) func258 gp.b gp.vo

def Xk:=en [(244,OQ),(231,ON),(258,We)] [(5,[1,4,5,6]),(14,[4,5,8]),(17,[4,5,8,9])]
def aqD:Fn [.R, .I, .S] As:=λa b c=>[aV [.sh 26 a, .n b],aS c]
def avC:Fn [.R, .I] dq:=λa b=>⟨[aV [.ow 26 ai a, .n b]],[]⟩
def GQ:Fn [.S, .I, .I, .I, .R] Tb:=λa b c d e=>[cA 2 (.s a),cP 8 0,cP 10 1,cI 12 b,oB 1 [.nl, .n c],oB 3 [.own 2, .n d],oR 5 26 e]
def Bt:Fn [.I, .I, .I, .R] Tb:=λa b c d=>[cP 8 0,cP 10 1,cI 16 a,oB 1 [.nl, .n b],oB 3 [.own 2, .n c],oR 5 26 d]
def Bu:Fn [.I, .I, .I, .I, .R] Tb:=λa b c d e=>[cP 8 0,cP 10 1,cI 16 a,cI 18 b,oB 1 [.nl, .n c],oB 3 [.own 2, .n d],oR 5 26 e]
def R9(N:aE)(K:Kt R):=du.l5 N (J GQ (.exit 0) K)
def M3(N:aE)(K:Kt R):=du.l14 N (J Bt (.exit 2) K)
def M4(N:aE)(K:Kt R):=du.l17 N (J Bu (.exit 4) K)
def N6(N:aE):It R:=(lp 5 (al GQ (λK=>R9 N K N) an) (lp 14 (al Bt (λK=>M3 N K N) an) (lp 17 (al Bu (λK=>M4 N K N) an) ln)))
theorem Zi(N:aE):bZ Xk (N6 N (R:=R)) (bT f218 5):=lq 5 GQ (R9 N) λK g=>du.r5 N g (J GQ (.exit 0) K)
theorem Up(N:aE):bZ Xk (N6 N (R:=R)) (bT f218 14):=lq 14 Bt (M3 N) λK g=>du.r14 N g (J Bt (.exit 2) K)
theorem Uq(N:aE):bZ Xk (N6 N (R:=R)) (bT f218 17):=lq 17 Bu (M4 N) λK g=>du.r17 N g (J Bu (.exit 4) K)
def V5:=dP aqD avC du.c du.v
theorem ac3:FO 218 V5:=fq (E:=Xk) (aF UU (aF UR (aF adb aX))) func218 (it:=λN=>N6 N) (λN=>(bm (Zi N) (bm (Up N) (bm (Uq N) bw)))) du.b du.vo

def ajf:=en [] [(3,[0,1,5,6])]
def aqF:Fn [.R, .S] As:=λa b=>[aH 9 a,aS b]
def avE:Fn [.R] dq:=λa=>⟨[aO 9 a],[]⟩
def GR:Fn [.R, .S, .I, .R] Tb:=λa b c d=>[cH 0 9 a,cA 2 (.s b),cA 10 (.own 0),cI 12 c,oR 1 9 d]
def Sa(N:aE)(K:Kt R):=ph.l3 N (J GR (.exit 0) K)
def acm(N:aE):It R:=(lp 3 (al GR (λK=>Sa N K N) an) ln)
theorem Zk(N:aE):bZ ajf (acm N (R:=R)) (bT f220 3):=lq 3 GR (Sa N) λK g=>ph.r3 N g (J GR (.exit 0) K)
def V6:=dP aqF avE ph.c ph.v
theorem ac4:FO 220 V6:=fq (E:=ajf) aX func220 (it:=λN=>acm N) (λN=>(bm (Zk N) bw)) ph.b ph.vo

def ajg:=en [(231,ON),(258,We)] [(5,[1,2,5,6])]
def aqG:Fn [.R, .I, .S] As:=λa b c=>[aV [.sh 26 a, .n b],aS c]
def avF:Fn [.I] dq:=λa=>⟨[aI a],[]⟩
def GS:Fn [.S, .I, .I, .R, .I] Tb:=λa b c d e=>[cA 2 (.s a),cP 4 0,cI 10 b,cI 12 c,oB 1 [.sh 26 d, .n e]]
def Sb(N:aE)(K:Kt R):=mO.l5 N (J GS (.exit 0) K)
def acn(N:aE):It R:=(lp 5 (al GS (λK=>Sb N K N) an) ln)
theorem Zl(N:aE):bZ ajg (acn N (R:=R)) (bT f221 5):=lq 5 GS (Sb N) λK g=>mO.r5 N g (J GS (.exit 0) K)
def ad8:=dP aqG avF mO.c mO.v
theorem al0:FO 221 ad8:=fq (E:=ajg) (aF UR (aF adb aX)) func221 (it:=λN=>acn N) (λN=>(bm (Zl N) bw)) mO.b mO.vo

def arR:=en [(193,VZ),(179,VW),(107,Dy),(218,V5),(219,OK),(220,V6),(221,ad8)] []
def apK:Fn [.R, .R, .R, .I, .S] As:=λa b c d e=>[aV [.sh 9 a, .sh 9 b, .sh 26 c, .n d],aS e]
def auL:Fn [.R, .R, .R, .I, .S] dq:=λa b c d e=>⟨[aV [.ow 9 ai a, .ow 9 ai b, .ow 26 ai c, .n d],aS e],[]⟩
def VP:=dP apK auL eT.c eT.v
theorem acN:FO 151 VP:=fr (E:=arR) (aF acX (aF acU (aF FN (aF ac3 (aF UP (aF ac4 (aF al0 aX))))))) func151 eT.b eT.vo

def aeW:=en [] [(3,[0,3,5,6]),(9,[0,3,5,7])]
def aqS:Fn [.R, .I, .S, .I, .I, .I, .S, .I] As:=λa b c d e f g h=>[aH 72 a,aV [.n b, .s c, .n d, .n e, .n f, .s g, .n h]]
def avR:Fn [.R] dq:=λa=>⟨[aO 72 a],[]⟩
def GW:Fn [.R, .I, .I, .S, .I, .I, .I, .S, .I, .R] Tb:=λa b c d e f g h i j=>[cH 0 72 a,cP 6 0,cA 10 (.own 1),cI 12 b,oB 1 [.n c, .s d, .n e, .n f, .n g, .s h, .n i],oR 3 72 j]
def GX:Fn [.R, .I, .I, .S, .I, .I, .I, .S, .I, .R] Tb:=λa b c d e f g h i j=>[cH 0 72 a,cP 6 0,cA 10 (.own 1),cI 14 b,oB 1 [.n c, .s d, .n e, .n f, .n g, .s h, .n i],oR 3 72 j]
def Sl(N:aE)(K:Kt R):=lZ.l3 N (J GW (.exit 0) K)
def Sm(N:aE)(K:Kt R):=lZ.l9 N (J GX (.exit 2) K)
def T3(N:aE):It R:=(lp 3 (al GW (λK=>Sl N K N) an) (lp 9 (al GX (λK=>Sm N K N) an) ln))
theorem Zt(N:aE):bZ aeW (T3 N (R:=R)) (bT f234 3):=lq 3 GW (Sl N) λK g=>lZ.r3 N g (J GW (.exit 0) K)
theorem Zu(N:aE):bZ aeW (T3 N (R:=R)) (bT f234 9):=lq 9 GX (Sm N) λK g=>lZ.r9 N g (J GX (.exit 2) K)
def aef:=dP aqS avR lZ.c lZ.v
theorem al8:FO 234 aef:=fq (E:=aeW) aX func234 (it:=λN=>T3 N) (λN=>(bm (Zt N) (bm (Zu N) bw))) lZ.b lZ.vo

def ai0:=en [] [(3,[0,1,5,6])]
def apM:Fn [.R, .S] As:=λa b=>[aH 51 a,aS b]
def auM:Fn [.R] dq:=λa=>⟨[aO 51 a],[]⟩
def Gz:Fn [.R, .S, .I, .R] Tb:=λa b c d=>[cH 0 51 a,cA 2 (.s b),cA 10 (.own 0),cI 12 c,oR 1 51 d]
def RJ(N:aE)(K:Kt R):=qm.l3 N (J Gz (.exit 0) K)
def ab5(N:aE):It R:=(lp 3 (al Gz (λK=>RJ N K N) an) ln)
theorem YV(N:aE):bZ ai0 (ab5 N (R:=R)) (bT f152 3):=lq 3 Gz (RJ N) λK g=>qm.r3 N g (J Gz (.exit 0) K)
def VQ:=dP apM auM qm.c qm.v
theorem acO:FO 152 VQ:=fq (E:=ai0) aX func152 (it:=λN=>ab5 N) (λN=>(bm (YV N) bw)) qm.b qm.vo

def asv:=en [(220,V6),(244,OQ)] []
def aqT:Fn [.R, .R, .R, .I, .S] As:=λa b c d e=>[aV [.sh 9 a, .sh 9 b, .sh 26 c, .n d],aS e]
def avS:Fn [.R, .R, .R, .I] dq:=λa b c d=>⟨[aV [.ow 9 ai a, .ow 9 ai b, .ow 26 ai c, .n d]],[]⟩
def aeg:=dP aqT avS vg.c vg.v
theorem al9:FO 235 aeg:=fr (E:=asv) (aF ac4 (aF UU aX)) func235 vg.b vg.vo

def aeR:=en [(117,AK),(45,aan),(50,sZ),(107,Dy),(233,aee),(13,VL),(151,VP),(234,aef),(152,VQ),(235,aeg),(218,V5)] [(5,[1,2,3,6,7,8,9]),(22,[2,3,6,8,10,12,13])]
def aqh:Fn [.I, .R, .R, .R, .R, .I, .R, .R, .I, .I, .S] As:=λa b c d e f g h i j k=>[aV [.n a, .sh 51 b, .sh 9 c, .sh 9 d, .sh 26 e, .n f, .sh 75 g, .sh 72 h, .n i],aI j,aS k]
def avg:Fn [.I, .R, .R, .R, .R, .I, .R, .R, .I, .I] dq:=λa b c d e f g h i j=>⟨[aV [.n a, .ow 51 ai b, .ow 9 ai c, .ow 9 ai d, .ow 26 ai e, .n f, .ow 75 ai g, .ow 72 ai h, .n i],aI j],[]⟩
def GL:Fn [.I, .S, .I, .I, .I, .R, .R, .R, .R, .I, .R, .R, .I, .I, .I, .I, .I, .I, .I, .R, .R, .R, .R, .R, .R] Tb:=λa b c d e f g h i j k l m o p q r s t u v w x y z=>[cI 2 a,cA 4 (.s b),cP 6 0,cP 12 1,cI 14 c,cP 16 2,cI 18 d,oB 1 [.n e, .sh 51 f, .sh 9 g, .sh 9 h, .sh 26 i, .n j, .sh 75 k, .sh 72 l, .n m],oB 3 [.n o, .nl, .nl, .nl, .nl, .n p, .nl, .nl, .n q],oB 5 [.n r, .own 3, .own 4, .own 5, .own 6, .n s, .own 7, .own 8, .n t],oR 7 51 u,oR 9 9 v,oR 11 9 w,oR 13 26 x,oR 15 75 y,oR 17 72 z]
def I5:Fn [.I, .S, .I, .I, .I, .R, .R, .R, .R, .I, .R, .R, .I, .I, .I, .I, .I, .I, .I, .R, .R, .R, .R, .R, .R] Tb:=λa b c d e f g h i j k l m o p q r s t u v w x y z=>[cI 2 a,cA 4 (.s b),cP 6 0,cP 12 1,cI 14 c,cP 16 2,cI 18 d,oB 1 [.n e, .sh 51 f, .sh 9 g, .sh 9 h, .sh 26 i, .n j, .sh 75 k, .sh 72 l, .n m],oB 3 [.n o, .own 3, .own 4, .own 5, .own 6, .n p, .own 7, .own 8, .n q],oB 5 [.n r, .own 3, .own 4, .own 5, .own 6, .n s, .own 7, .own 8, .n t],oR 7 51 u,oR 9 9 v,oR 11 9 w,oR 13 26 x,oR 15 75 y,oR 17 72 z]
def Br:Fn [.S, .B, .I, .I, .R, .R, .R, .R, .I, .R, .R, .I, .I, .I, .I, .I, .I, .I, .I, .S, .I, .I, .I, .S, .I, .R, .R, .R, .R, .R, .R] Tb:=λa b c d e f g h i j k l m o p q r s t u v w x y z aa ab ac ad ae af=>[cA 4 (.s a),cP 6 0,cP 12 1,cP 16 2,cP 20 3,cA 24 (.b b),cI 26 c,oB 1 [.n d, .sh 51 e, .sh 9 f, .sh 9 g, .sh 26 h, .n i, .sh 75 j, .sh 72 k, .n l],oB 3 [.n m, .nl, .nl, .nl, .nl, .n o, .nl, .nl, .n p],oB 5 [.n q, .own 4, .own 5, .own 6, .own 7, .n r, .own 8, .own 9, .n s],oB 7 [.n t, .s u, .n v, .n w, .n x, .s y, .n z],oR 9 51 aa,oR 11 9 ab,oR 13 9 ac,oR 15 26 ad,oR 17 75 ae,oR 19 72 af]
def RZ(N:aE)(K:Kt R):=wW.l5 N (J I5 .ret K) (J GL (.exit 0) K)
def MZ(N:aE)(K:Kt R):=wW.YF N (J Br (.exit 2) K)
def TY(N:aE):It R:=(lp 5 (al GL (λK=>RZ N K N) an) (lp 22 (al Br (λK=>MZ N K N) an) ln))
theorem Y_(N:aE):bZ aeR (TY N (R:=R)) (bT f185 5):=lq 5 GL (RZ N) λK g=>wW.r5 N g (J I5 .ret K) (J GL (.exit 0) K)
theorem Un(N:aE):bZ aeR (TY N (R:=R)) (bT f185 22):=lq 22 Br (MZ N) λK g=>wW.r22 N g (J Br (.exit 2) K)
def adW:=dP aqh avg wW.c wW.v
theorem alO:FO 185 adW:=fq (E:=aeR) (aF C6 (aF ag4 (aF tV (aF FN (aF al7 (aF ZR (aF acN (aF al8 (aF acO (aF al9 (aF ac3 aX))))))))))) func185 (it:=λN=>TY N) (λN=>(bm (Y_ N) (bm (Un N) bw))) wW.b wW.vo

def asw:=en [(45,aan),(50,sZ)] []
def aqU:Fn [.I, .R, .R, .R, .R, .I, .R, .R, .I, .I] As:=λa b c d e f g h i j=>[aV [.n a, .sh 51 b, .sh 9 c, .sh 9 d, .sh 26 e, .n f, .sh 75 g, .sh 72 h, .n i],aI j]
def avT:Fn [.B] dq:=λa=>⟨[aB a],[]⟩
def OO:=dP aqU avT vh.c vh.v
theorem US:FO 236 OO:=fr (E:=asw) (aF ag4 (aF tV aX)) func236 vh.b vh.vo

def asL:=en [] []
def ari:Fn [.I, .S, .R] As:=λa b c=>[aV [.n a, .s b, .sh 237 c]]
def awf:Fn [.I, .S, .R] dq:=λa b c=>⟨[aV [.n a, .s b, .ow 237 ai c]],[]⟩
def aev:=dP ari awf K6.c K6.v
theorem amn:FO 267 aev:=fh (E:=asL) aX func267 (it:=λ_=>ln) (λ_=>bw) (λ_=>K6.b) λx f h=>⟨0,K6.eh _ x.1 x.2.1 x.2.2.1 h⟩

def ajp:=en [(50,sZ)] [(2,[1,2,3])]
def arj:Fn [.I, .S, .R] As:=λa b c=>[aV [.n a, .s b, .sh 237 c]]
def awg:Fn [.B] dq:=λa=>⟨[aB a],[]⟩
def zx:Fn [.B, .I, .I, .S, .R] Tb:=λa b c d e=>[cP 2 0,cA 4 (.b a),cI 6 b,oB 1 [.n c, .s d, .sh 237 e]]
def Sy(N:aE)(K:Kt R):=lR.l2 N (J zx .ret K) (J zx (.exit 0) K)
def acx(N:aE):It R:=(lp 2 (al zx (λK=>Sy N K N) an) ln)
theorem ZD(N:aE):bZ ajp (acx N (R:=R)) (bT f268 2):=lq 2 zx (Sy N) λK g=>lR.r2 N g (J zx .ret K) (J zx (.exit 0) K)
def aew:=dP arj awg (ct _) lR.v
theorem amo:FO 268 aew:=fh (E:=ajp) (aF tV aX) func268 (it:=λN=>acx N) (λN=>(bm (ZD N) bw)) lR.b λx f h=>lR.eh _ x.1 x.2.1 x.2.2.1 f.1.2.1 f.1.2.2.1

def asx:=en [(267,aev),(268,aew),(50,sZ)] []
def aqV:Fn [.I, .S, .R, .S] As:=λa b c d=>[aV [.n a, .s b, .sh 237 c],aS d]
def avU:Fn [.I, .S, .R, .B] dq:=λa b c d=>⟨[aV [.n a, .s b, .ow 237 ai c],aB d],[]⟩
def aeh:=dP aqV avU Ha.c Ha.v
theorem al_:FO 237 aeh:=fh (E:=asx) (aF amn (aF amo (aF tV aX))) func237 (it:=λ_=>ln) (λ_=>bw) (λ_=>Ha.b) λx f h=>⟨0,Ha.eh _ x.1 x.2.1 x.2.2.1 x.2.2.2.1 h f.1.2.1 f.1.2.2.1 f.2.1.1⟩

def ajj:=en [] [(1,[0,1,2,6])]
def aqW:Fn [.I, .R, .R, .R, .R, .I, .R, .R, .I, .I, .I] As:=λa b c d e f g h i j k=>[.pt [.n a, .ow 51 ai b, .ow 9 ai c, .ow 9 ai d, .ow 26 ai e, .n f, .ow 75 ai g, .ow 72 ai h, .n i],aI j,aI k]
def avV:Fn [.I, .R, .R, .R, .R, .I, .R, .R, .I] dq:=λa b c d e f g h i=>⟨[],[[.n a, .kp b, .kp c, .kp d, .kp e, .n f, .kp g, .kp h, .n i]]⟩
def GY:Fn [.I, .I, .I, .I, .I, .I, .R, .R, .R, .R, .R, .R] Tb:=λa b c d e f g h i j k l=>[cP 0 900000900,cI 2 a,cI 4 b,cI 12 c,oB 1800001801 [.n d, .own 900000001, .own 900000002, .own 900000003, .own 900000004, .n e, .own 900000006, .own 900000007, .n f],oR 1800000003 51 g,oR 1800000005 9 h,oR 1800000007 9 i,oR 1800000009 26 j,oR 1800000013 75 k,oR 1800000015 72 l]
def Sn(N:aE)(K:Kt R):=sO.l1 N (J GY (.exit 0) K)
def acq(N:aE):It R:=(lp 1 (al GY (λK=>Sn N K N) an) ln)
theorem Zv(N:aE):bZ ajj (acq N (R:=R)) (bT f238 1):=lq 1 GY (Sn N) λK g=>sO.r1 N g (J GY (.exit 0) K)
def OP:=dP aqW avV sO.c sO.v
theorem UT:FO 238 OP:=fq (E:=ajj) aX func238 (it:=λN=>acq N) (λN=>(bm (Zv N) bw)) sO.b sO.vo

def asa:=en [(117,AK),(236,OO),(237,aeh),(238,OP)] []
def aqi:Fn [.I, .R, .R, .R, .R, .I, .R, .R, .I, .I, .S] As:=λa b c d e f g h i j k=>[aV [.n a, .sh 51 b, .sh 9 c, .sh 9 d, .sh 26 e, .n f, .sh 75 g, .sh 72 h, .n i],aI j,aS k]
def avh:Fn [.I, .R, .R, .R, .R, .I, .R, .R, .I, .B] dq:=λa b c d e f g h i j=>⟨[aV [.n a, .ow 51 ai b, .ow 9 ai c, .ow 9 ai d, .ow 26 ai e, .n f, .ow 75 ai g, .ow 72 ai h, .n i],aB j],[]⟩
def adX:=dP aqi avh D7.c D7.v
theorem alP:FO 186 adX:=fr (E:=asa) (aF C6 (aF US (aF al_ (aF UT aX)))) func186 D7.b D7.vo

def E55:=en [] [(3,[0,3,5,6]),(9,[0,3,5,7])]
def A55:Fn [.R, .S, .I, .I, .S] As:=λa b c d e=>[aH 51 a,aV [.s b, .n c, .n d, .s e]]
def k55:Fn [.R] dq:=λa=>⟨[aO 51 a],[]⟩
def Nm:Fn [.R, .I, .S, .I, .I, .S, .R] Tb:=λa b c d e f g=>[cH 0 51 a,cP 6 0,cA 10 (.own 1),cI 12 b,oB 1 [.s c, .n d, .n e, .s f],oR 3 51 g]
def Nn:Fn [.R, .I, .S, .I, .I, .S, .R] Tb:=λa b c d e f g=>[cH 0 51 a,cP 6 0,cA 10 (.own 1),cI 14 b,oB 1 [.s c, .n d, .n e, .s f],oR 3 51 g]
def abf(N:aE)(K:Kt R):=lU.l3 N (J Nm (.exit 0) K)
def abg(N:aE)(K:Kt R):=lU.l9 N (J Nn (.exit 2) K)
def agj(N:aE):It R:=(lp 3 (al Nm (λK=>abf N K N) an) (lp 9 (al Nn (λK=>abg N K N) an) ln))
theorem agU(N:aE):bZ E55 (agj N (R:=R)) (bT f55 3):=lq 3 Nm (abf N) λK g=>lU.r3 N g (J Nm (.exit 0) K)
theorem agV(N:aE):bZ E55 (agj N (R:=R)) (bT f55 9):=lq 9 Nn (abg N) λK g=>lU.r9 N g (J Nn (.exit 2) K)
def ahs:=dP A55 k55 lU.c lU.v
theorem amB:FO 55 ahs:=fq (E:=E55) aX func55 (it:=λN=>agj N) (λN=>(bm (agU N) (bm (agV N) bw))) lU.b lU.vo

def E88:=W_ T md [(151,VP),(152,VQ),(153,VR),(55,ahs)] [] [] [(0,1,.own 51),(0,2,.own 9),(0,3,.own 9),(0,4,.own 26)]
def A88:Fn [.I, .R, .R, .R, .R, .I, .R, .R, .I, .S, .I, .I, .S] As:=λa b c d e f g h i j k l m=>[.pt [.n a, .ow 51 ai b, .ow 9 ai c, .ow 9 ai d, .ow 26 ai e, .n f, .ow 75 ai g, .ow 72 ai h, .n i],aV [.s j, .n k, .n l, .s m]]
def k88:Fn [.I, .R, .R, .R, .R, .I, .R, .R, .I] dq:=λa b c d e f g h i=>⟨[],[[.n a, .ow 51 ai b, .ow 9 ai c, .ow 9 ai d, .ow 26 ai e, .n f, .kp g, .kp h, .n i]]⟩
def ahx:=dP A88 k88 Pn.c Pn.v
theorem amG:FO 88 ahx:=fr (E:=E88) (aF acN (aF acO (aF acP (aF amB aX)))) func88 Pn.b Pn.vo

def asy:=en [(117,AK),(236,OO),(50,sZ),(238,OP),(88,ahx)] []
def aqX:Fn [.I, .R, .R, .R, .R, .I, .R, .R, .I, .I, .I] As:=λa b c d e f g h i j k=>[aV [.n a, .sh 51 b, .sh 9 c, .sh 9 d, .sh 26 e, .n f, .sh 75 g, .sh 72 h, .n i],aI j,aI k]
def avW:Fn [.I, .R, .R, .R, .R, .I, .R, .R, .I, .B] dq:=λa b c d e f g h i j=>⟨[aV [.n a, .ow 51 ai b, .ow 9 ai c, .ow 9 ai d, .ow 26 ai e, .n f, .ow 75 ai g, .ow 72 ai h, .n i],aB j],[]⟩
def aei:=dP aqX avW Ea.c Ea.v
theorem ama:FO 239 aei:=fr (E:=asy) (aF C6 (aF US (aF tV (aF UT (aF amG aX))))) func239 Ea.b Ea.vo

def ai_:=en [] [(2,[0,3])]
def aqd:Fn [.I] As:=λa=>[aI a]
def avc:Fn [.S] dq:=λa=>⟨[aS a],[]⟩
def GK:Fn [.I, .R] Tb:=λa b=>[cI 0 a,cA 6 (.own 0),oR 1 5 b]
def RX(N:aE)(K:Kt R):=kF.l2 N (J GK (.exit 0) K)
def acf(N:aE):It R:=(lp 2 (al GK (λK=>RX N K N) an) ln)
theorem Y8(N:aE):bZ ai_ (acf N (R:=R)) (bT f181 2):=lq 2 GK (RX N) λK g=>kF.r2 N g (J GK (.exit 0) K)
def OE:=dP aqd avc kF.c kF.v
theorem UK:FO 181 OE:=fh (E:=ai_) aX func181 (it:=λN=>acf N) (λN=>(bm (Y8 N) bw)) kF.b λx f h=>kF.eh _ x.1 h

def arE:=en [(49,Wh),(181,OE)] []
def apq:Fn [.S, .I, .I, .S] As:=λa b c d=>[aV [.s a, .n b, .n c, .s d]]
def auq:Fn [.S, .B] dq:=λa b=>⟨[aS a,aB b],[]⟩
def Oz:=dP apq auq (ct _) jK.v
theorem UD:FO 114 Oz:=fh (E:=arE) (aF ZS (aF UK aX)) func114 (it:=λ_=>ln) (λ_=>bw) (λ_=>jK.b) λx f h=>⟨0,jK.eh _ x.1 x.2.1 x.2.2.1 x.2.2.2.1⟩

def ar9:=en [] []
def aqe:Fn [.I] As:=λa=>[.v ak [.i .u32 a]]
def avd:Fn [.S] dq:=λa=>⟨[aS a],[]⟩
def adU:=dP aqe avd (ct _) pe.v
theorem alM:FO 182 adU:=ft (E:=ar9) aX func182 pe.b λ(a0,_)=>pe.eh _ a0

def arC:=en [(50,sZ),(181,OE),(183,VX),(182,adU)] []
def apn:Fn [.S] As:=λa=>[aS a]
def auo:Fn [.S, .B] dq:=λa b=>⟨[aS a,aB b],[]⟩
def Oy:=dP apn auo fH.c fH.v
theorem UC:FO 112 Oy:=fr (E:=arC) (aF tV (aF UK (aF acV (aF alM aX)))) func112 fH.b fH.vo

def asz:=en [(114,Oz),(112,Oy)] []
def aqY:Fn [.S, .I, .I, .S] As:=λa b c d=>[aV [.s a, .n b, .n c, .s d]]
def avX:Fn [.R, .B] dq:=λa b=>⟨[aO 218 a,aB b],[]⟩
def aej:=dP aqY avX Eb.c Eb.v
theorem amb:FO 240 aej:=fr (E:=asz) (aF UD (aF UC aX)) func240 Eb.b Eb.vo

def arA:=en [(50,sZ)] []
def apk:Fn [.S] As:=λa=>[aS a]
def auk:Fn [.B] dq:=λa=>⟨[aB a],[]⟩
def VH:=dP apk auk (ct _) vV.v
theorem acG:FO 109 VH:=ft (E:=arA) (aF tV aX) func109 vV.b λ(a0,_)=>vV.eh _ a0

def E51:=en [(109,VH),(50,sZ)] [(4,[1,2,3])]
def A51:Fn [.R] As:=λa=>[aV [.sh 94 a]]
def k51:Fn [.B] dq:=λa=>⟨[aB a],[]⟩
def Fg:Fn [.B, .I, .R] Tb:=λa b c=>[cP 2 0,cA 4 (.b a),cI 6 b,oB 1 [.sh 94 c]]
def abd(N:aE)(K:Kt R):=lG.l4 N (J Fg .ret K) (J Fg (.exit 0) K)
def akK(N:aE):It R:=(lp 4 (al Fg (λK=>abd N K N) an) ln)
theorem agS(N:aE):bZ E51 (akK N (R:=R)) (bT f51 4):=lq 4 Fg (abd N) λK g=>lG.r4 N g (J Fg .ret K) (J Fg (.exit 0) K)
def Wi:=dP A51 k51 lG.c lG.v
theorem ZT:FO 51 Wi:=fq (E:=E51) (aF acG (aF tV aX)) func51 (it:=λN=>akK N) (λN=>(bm (agS N) bw)) lG.b lG.vo

def aiR:=en [] [(2,[1,2,4,5])]
def apl:Fn [.R, .S] As:=λa b=>[aV [.sh 94 a],aS b]
def aum:Fn [.I] dq:=λa=>⟨[aI a],[]⟩
def zd:Fn [.S, .I, .I, .R] Tb:=λa b c d=>[cA 2 (.s a),cP 4 0,cI 8 b,cI 10 c,oB 1 [.sh 94 d]]
def Rz(N:aE)(K:Kt R):=kE.l2 N (J zd .ret K) (J zd (.exit 0) K)
def abW(N:aE):It R:=(lp 2 (al zd (λK=>Rz N K N) an) ln)
theorem YL(N:aE):bZ aiR (abW N (R:=R)) (bT f110 2):=lq 2 zd (Rz N) λK g=>kE.r2 N g (J zd .ret K) (J zd (.exit 0) K)
def VI:=dP apl aum kE.c kE.v
theorem acH:FO 110 VI:=fq (E:=aiR) aX func110 (it:=λN=>abW N) (λN=>(bm (YL N) bw)) kE.b kE.vo

def Rs:=en [] [(3,[2,3,4,5,6]),(9,[2,3,4,5,7])]
def art:Fn [.R, .S, .S, .I] As:=λa b c d=>[aV [.sh 94 a],aV [.s b, .s c, .n d]]
def awo:Fn [.R] dq:=λa=>⟨[aV [.ow 94 ai a]],[]⟩
def rJ:Fn [.I, .R, .S, .S, .I] Tb:=λa b c d e=>[cP 4 0,cP 6 1,cP 8 2,cP 10 3,cI 12 a,oB 1 [.sh 94 b],oB 3 [.s c, .s d, .n e],oB 5 [.nl],oB 7 [.nl]]
def oN:Fn [.I, .R, .S, .S, .I, .R] Tb:=λa b c d e f=>[cP 4 0,cP 6 1,cP 8 2,cP 10 3,cI 12 a,oB 1 [.sh 94 b],oB 3 [.s c, .s d, .n e],oB 5 [.nl],oB 7 [.own 4],oR 9 94 f]
def G7:Fn [.I, .R, .S, .S, .I, .R] Tb:=λa b c d e f=>[cP 4 0,cP 6 1,cP 8 2,cP 10 3,cI 14 a,oB 1 [.sh 94 b],oB 3 [.s c, .s d, .n e],oB 5 [.nl],oB 7 [.own 4],oR 9 94 f]
def SE(N:aE)(K:Kt R):=lu.l3 N (J rJ (.exit 0) K) (J oN (.exit 0) K)
def M_(N:aE)(K:Kt R):=lu.sR N (J rJ (.exit 0) K) (J oN (.exit 0) K)
def SF(N:aE)(K:Kt R):=lu.l9 N (J G7 (.exit 2) K)
def JU(N:aE):It R:=(lp 3 (al rJ (λK=>SE N K N) (al oN (λK=>M_ N K N) an)) (lp 9 (al G7 (λK=>SF N K N) an) ln))
theorem O0(N:aE)(K:Kt R):Wd Rs (JU N) (bT f279 3) 3 K oN (M_ N K):=lw (λg=>lu.zZ N (cmp _ rJ (g∘fM)) (cmp _ oN (g∘fM)) (J rJ (.exit 0) K) (J oN (.exit 0) K)) λm i=>by simp only[dL,wf i];rfl
theorem ahJ(N:aE)(K:Kt R):Wd Rs (JU N) (bT f279 3) 3 K rJ (SE N K):=lw (λg=>lu.r3 N (cmp _ rJ (g∘fM)) (cmp _ oN (g∘fM)) (J rJ (.exit 0) K) (J oN (.exit 0) K)) λm i=>by simp only[dL,wf i,wf (O0 N K m)];rfl
theorem ZJ(N:aE):bZ Rs (JU N (R:=R)) (bT f279 3):=lm 3 (ga rJ (ahJ N) (ga oN (O0 N) oT))
theorem ZK(N:aE):bZ Rs (JU N (R:=R)) (bT f279 9):=lq 9 G7 (SF N) λK g=>lu.r9 N g (J G7 (.exit 2) K)
def aeD:=dP art awo lu.c lu.v
theorem amv:FO 279 aeD:=fq (E:=Rs) aX func279 (it:=λN=>JU N) (λN=>(bm (ZJ N) (bm (ZK N) bw))) lu.b lu.vo

def Xo:=en [] [(3,[1,2,4,5,6])]
def aru:Fn [.R, .S] As:=λa b=>[aV [.sh 94 a],aS b]
def awp:Fn [.R] dq:=λa=>⟨[aV [.ow 94 ai a]],[]⟩
def rK:Fn [.S, .I, .R] Tb:=λa b c=>[cA 2 (.s a),cP 4 0,cP 8 1,cP 10 2,cI 12 b,oB 1 [.sh 94 c],oB 3 [.nl],oB 5 [.nl]]
def oO:Fn [.S, .I, .R, .R] Tb:=λa b c d=>[cA 2 (.s a),cP 4 0,cP 8 1,cP 10 2,cI 12 b,oB 1 [.sh 94 c],oB 3 [.nl],oB 5 [.own 3],oR 7 94 d]
def SG(N:aE)(K:Kt R):=mP.l3 N (J rK (.exit 0) K) (J oO (.exit 0) K)
def Na(N:aE)(K:Kt R):=mP.sR N (J rK (.exit 0) K) (J oO (.exit 0) K)
def N_(N:aE):It R:=(lp 3 (al rK (λK=>SG N K N) (al oO (λK=>Na N K N) an)) ln)
theorem O2(N:aE)(K:Kt R):Wd Xo (N_ N) (bT f280 3) 3 K oO (Na N K):=lw (λg=>mP.zZ N (cmp _ rK (g∘fM)) (cmp _ oO (g∘fM)) (J rK (.exit 0) K) (J oO (.exit 0) K)) λm i=>by simp only[dL,wf i];rfl
theorem ahK(N:aE)(K:Kt R):Wd Xo (N_ N) (bT f280 3) 3 K rK (SG N K):=lw (λg=>mP.r3 N (cmp _ rK (g∘fM)) (cmp _ oO (g∘fM)) (J rK (.exit 0) K) (J oO (.exit 0) K)) λm i=>by simp only[dL,wf i,wf (O2 N K m)];rfl
theorem ZL(N:aE):bZ Xo (N_ N (R:=R)) (bT f280 3):=lm 3 (ga rK (ahK N) (ga oO (O2 N) oT))
def aeE:=dP aru awp mP.c mP.v
theorem amw:FO 280 aeE:=fq (E:=Xo) aX func280 (it:=λN=>N_ N) (λN=>(bm (ZL N) bw)) mP.b mP.vo

def asM:=en [(51,Wi),(109,VH),(110,VI),(279,aeD),(280,aeE)] []
def ark:Fn [.R, .I, .S, .S, .S] As:=λa b c d e=>[aV [.sh 94 a],aV [.n b, .s c, .s d, .s e]]
def awh:Fn [.R, .B] dq:=λa b=>⟨[aV [.ow 94 ai a],aB b],[]⟩
def aex:=dP ark awh Ci.c Ci.v
theorem amp:FO 269 aex:=fr (E:=asM) (aF ZT (aF acG (aF acH (aF amv (aF amw aX))))) func269 Ci.b Ci.vo

def ajk:=en [(269,aex)] [(3,[1,4,5,6,7])]
def aqZ:Fn [.R, .R] As:=λa b=>[aV [.sh 94 a],aH 218 b]
def avY:Fn [.R, .I] dq:=λa b=>⟨[aV [.ow 94 ai a],aI b],[]⟩
def GZ:Fn [.R, .I, .I, .R] Tb:=λa b c d=>[cH 2 218 a,cP 8 0,cI 10 b,cP 12 1,cI 14 c,oB 1 [.nl],oB 3 [.own 2],oR 5 94 d]
def I6:Fn [.R, .I, .I, .R] Tb:=λa b c d=>[cH 2 218 a,cP 8 0,cI 10 b,cP 12 1,cI 14 c,oB 1 [.own 2],oB 3 [.own 2],oR 5 94 d]
def Sq(N:aE)(K:Kt R):=qn.l3 N (J I6 .ret K) (J GZ (.exit 0) K)
def acr(N:aE):It R:=(lp 3 (al GZ (λK=>Sq N K N) an) ln)
theorem Zw(N:aE):bZ ajk (acr N (R:=R)) (bT f241 3):=lq 3 GZ (Sq N) λK g=>qn.r3 N g (J I6 .ret K) (J GZ (.exit 0) K)
def V_:=dP aqZ avY qn.c qn.v
theorem ac8:FO 241 V_:=fq (E:=ajk) (aF amp aX) func241 (it:=λN=>acr N) (λN=>(bm (Zw N) bw)) qn.b qn.vo

def ase:=en [] []
def aqo:Fn [.B] As:=λa=>[aB a]
def avn:Fn [.I] dq:=λa=>⟨[aI a],[]⟩
def VY:=dP aqo avn (ct _) A_.v
theorem acW:FO 192 VY:=ft (E:=ase) aX func192 A_.b λ(a0,_)=>A_.eh _ a0

def asb:=W_ T md [(239,aei),(240,aej),(241,V_),(192,VY)] [] [] [(0,1,.own 51),(0,2,.own 9),(0,3,.own 9),(0,4,.own 26),(0,6,.own 75),(0,7,.own 72),(0,9,.own 94),(0,10,.own 3),(0,11,.own 51)]
def aqj:Fn [.I, .R, .R, .R, .R, .I, .R, .R, .I, .R, .R, .R, .I, .I, .S, .I, .R] As:=λa b c d e f g h i j k l m o p q r=>[.pt [.n a, .ow 51 ai b, .ow 9 ai c, .ow 9 ai d, .ow 26 ai e, .n f, .ow 75 ai g, .ow 72 ai h, .n i, .ow 94 ai j, .ow 3 ai k, .ow 51 ai l],aV [.n m, .n o, .s p, .n q, .sh 3 r]]
def avi:Fn [.I, .I, .R, .R, .R, .R, .I, .R, .R, .I, .R, .R, .R] dq:=λa b c d e f g h i j k l m=>⟨[aI a],[[.n b, .ow 51 ai c, .ow 9 ai d, .ow 9 ai e, .ow 26 ai f, .n g, .ow 75 ai h, .ow 72 ai i, .n j, .ow 94 ai k, .ow 3 ai l, .ow 51 ai m]]⟩
def adY:=dP aqj avi D8.c D8.v
theorem alQ:FO 187 adY:=fr (E:=asb) (aF ama (aF amb (aF ac8 (aF acW aX)))) func187 D8.b D8.vo

def asc:=en [(117,AK),(236,OO),(238,OP)] []
def aqk:Fn [.I, .R, .R, .R, .R, .I, .R, .R, .I, .I] As:=λa b c d e f g h i j=>[aV [.n a, .sh 51 b, .sh 9 c, .sh 9 d, .sh 26 e, .n f, .sh 75 g, .sh 72 h, .n i],aI j]
def avj:Fn [.I, .R, .R, .R, .R, .I, .R, .R, .I, .B] dq:=λa b c d e f g h i j=>⟨[aV [.n a, .ow 51 ai b, .ow 9 ai c, .ow 9 ai d, .ow 26 ai e, .n f, .ow 75 ai g, .ow 72 ai h, .n i],aB j],[]⟩
def adZ:=dP aqk avj D9.c D9.v
theorem alR:FO 188 adZ:=fr (E:=asc) (aF C6 (aF US (aF UT aX))) func188 D9.b D9.vo

def asd:=en [(117,AK)] []
def aql:Fn [.I, .R, .R, .R, .R, .I, .R, .R, .I, .I] As:=λa b c d e f g h i j=>[aV [.n a, .sh 51 b, .sh 9 c, .sh 9 d, .sh 26 e, .n f, .sh 75 g, .sh 72 h, .n i],aI j]
def avk:Fn [.I, .R, .R, .R, .R, .I, .R, .R, .I] dq:=λa b c d e f g h i=>⟨[aV [.n a, .ow 51 ai b, .ow 9 ai c, .ow 9 ai d, .ow 26 ai e, .n f, .ow 75 ai g, .ow 72 ai h, .n i]],[]⟩
def ad0:=dP aql avk qI.c qI.v
theorem alS:FO 189 ad0:=fr (E:=asd) (aF C6 aX) func189 qI.b qI.vo

def aja:=en [(117,AK)] [(4,[1,2,4,5,6])]
def aqm:Fn [.I, .R, .R, .R, .R, .I, .R, .R, .I, .I] As:=λa b c d e f g h i j=>[aV [.n a, .sh 51 b, .sh 9 c, .sh 9 d, .sh 26 e, .n f, .sh 75 g, .sh 72 h, .n i],aI j]
def avl:Fn [.I, .R, .R, .R, .R, .I, .R, .R, .I] dq:=λa b c d e f g h i=>⟨[aV [.n a, .ow 51 ai b, .ow 9 ai c, .ow 9 ai d, .ow 26 ai e, .n f, .ow 75 ai g, .ow 72 ai h, .n i]],[]⟩
def GM:Fn [.I, .I, .I, .R, .R, .R, .R, .I, .R, .R, .I, .I, .I, .I, .I, .I, .I, .R, .R, .R, .R, .R, .R] Tb:=λa b c d e f g h i j k l m o p q r s t u v w x=>[cI 2 a,cP 4 0,cP 8 1,cP 10 2,cI 12 b,oB 1 [.n c, .sh 51 d, .sh 9 e, .sh 9 f, .sh 26 g, .n h, .sh 75 i, .sh 72 j, .n k],oB 3 [.n l, .nl, .nl, .nl, .nl, .n m, .nl, .nl, .n o],oB 5 [.n p, .own 3, .own 4, .own 5, .own 6, .n q, .own 7, .own 8, .n r],oR 7 51 s,oR 9 9 t,oR 11 9 u,oR 13 26 v,oR 15 75 w,oR 17 72 x]
def R0(N:aE)(K:Kt R):=tn.l4 N (J GM (.exit 0) K)
def acg(N:aE):It R:=(lp 4 (al GM (λK=>R0 N K N) an) ln)
theorem Za(N:aE):bZ aja (acg N (R:=R)) (bT f190 4):=lq 4 GM (R0 N) λK g=>tn.r4 N g (J GM (.exit 0) K)
def ad1:=dP aqm avl tn.c tn.v
theorem alT:FO 190 ad1:=fq (E:=aja) (aF C6 aX) func190 (it:=λN=>acg N) (λN=>(bm (Za N) bw)) tn.b tn.vo

def Xm:=en [(51,Wi)] [(5,[1,2,4,6,7])]
def aq0:Fn [.R, .R] As:=λa b=>[aV [.sh 94 a],aH 3 b]
def avZ:Fn [.R, .B] dq:=λa b=>⟨[aV [.ow 94 ai a],aB b],[]⟩
def rH:Fn [.R, .I, .R] Tb:=λa b c=>[cH 2 3 a,cP 4 0,cP 8 1,cP 12 2,cI 14 b,oB 1 [.sh 94 c],oB 3 [.nl],oB 5 [.nl]]
def oL:Fn [.R, .I, .R, .R] Tb:=λa b c d=>[cH 2 3 a,cP 4 0,cP 8 1,cP 12 2,cI 14 b,oB 1 [.sh 94 c],oB 3 [.nl],oB 5 [.own 3],oR 7 94 d]
def Sr(N:aE)(K:Kt R):=w8.l5 N (J rH (.exit 0) K) (J oL (.exit 0) K)
def M6(N:aE)(K:Kt R):=w8.l5a N (J rH (.exit 0) K) (J oL (.exit 0) K)
def N8(N:aE):It R:=(lp 5 (al rH (λK=>Sr N K N) (al oL (λK=>M6 N K N) an)) ln)
theorem OY(N:aE)(K:Kt R):Wd Xm (N8 N) (bT f242 5) 5 K oL (M6 N K):=lw (λg=>w8.r5a N (cmp _ rH (g∘fM)) (cmp _ oL (g∘fM)) (J rH (.exit 0) K) (J oL (.exit 0) K)) λm i=>by simp only[dL,wf i];rfl
theorem ahH(N:aE)(K:Kt R):Wd Xm (N8 N) (bT f242 5) 5 K rH (Sr N K):=lw (λg=>w8.r5 N (cmp _ rH (g∘fM)) (cmp _ oL (g∘fM)) (J rH (.exit 0) K) (J oL (.exit 0) K)) λm i=>by simp only[dL,wf i,wf (OY N K m)];rfl
theorem Zx(N:aE):bZ Xm (N8 N (R:=R)) (bT f242 5):=lm 5 (ga rH (ahH N) (ga oL (OY N) oT))
def aek:=dP aq0 avZ w8.c w8.v
theorem amc:FO 242 aek:=fq (E:=Xm) (aF ZT aX) func242 (it:=λN=>N8 N) (λN=>(bm (Zx N) bw)) w8.b w8.vo

def E52:=en [(110,VI)] []
def A52:Fn [.R, .S] As:=λa b=>[aV [.sh 94 a],aS b]
def k52:Fn [.S, .B] dq:=λa b=>⟨[aS a,aB b],[]⟩
def ahr:=dP A52 k52 wb.c wb.v
theorem amA:FO 52 ahr:=fr (E:=E52) (aF acH aX) func52 wb.b wb.vo

def aiS:=en [(50,sZ),(181,OE)] [(6,[0,1,4,5,6,7,8,9])]
def apm:Fn [.S, .I] As:=λa b=>[aS a,aI b]
def aun:Fn [.I, .I, .B] dq:=λa b c=>⟨[aI a,aI b,aB c],[]⟩
def ze:Fn [.S, .I, .I, .I, .B, .I, .I, .I] Tb:=λa b c d e f g h=>[cA 0 (.s a),cI 2 b,cI 8 c,cI 10 d,cA 12 (.b e),cI 14 f,cI 16 g,cI 18 h]
def RA(N:aE)(K:Kt R):=fS.l6 N (J ze .ret K) (J ze (.exit 0) K)
def abX(N:aE):It R:=(lp 6 (al ze (λK=>RA N K N) an) ln)
theorem YM(N:aE):bZ aiS (abX N (R:=R)) (bT f111 6):=lq 6 ze (RA N) λK g=>fS.r6 N g (J ze .ret K) (J ze (.exit 0) K)
def Ox:=dP apm aun (ct _) fS.v
theorem UB:FO 111 Ox:=fh (E:=aiS) (aF tV (aF UK aX)) func111 (it:=λN=>abX N) (λN=>(bm (YM N) bw)) fS.b λx f h=>fS.eh _ x.1 x.2.1 f.1.1

def E53:=en [(111,Ox),(112,Oy)] [(5,[0,2,3,4,5])]
def A53:Fn [.S] As:=λa=>[aS a]
def k53:Fn [.R, .I] dq:=λa b=>⟨[aO 9 a,aI b],[]⟩
def Nl:Fn [.S, .I, .I, .R] Tb:=λa b c d=>[cA 0 (.s a),cA 4 .nl,cI 6 b,cA 8 (.own 0),cI 10 c,oR 1 9 d]
def Nw:Fn [.S, .I, .I, .R] Tb:=λa b c d=>[cA 0 (.s a),cA 4 (.own 0),cI 6 b,cA 8 (.own 0),cI 10 c,oR 1 9 d]
def abe(N:aE)(K:Kt R):=Iy.l5 N (J Nw .ret K) (J Nl (.exit 0) K)
def akL(N:aE):It R:=(lp 5 (al Nl (λK=>abe N K N) an) ln)
theorem agT(N:aE):bZ E53 (akL N (R:=R)) (bT f53 5):=lq 5 Nl (abe N) λK g=>Iy.r5 N g (J Nw .ret K) (J Nl (.exit 0) K)
def ano:=dP A53 k53 Iy.c Iy.v
theorem awY:FO 53 ano:=fq (E:=E53) (aF UB (aF UC aX)) func53 (it:=λN=>akL N) (λN=>(bm (agT N) bw)) Iy.b Iy.vo

def arD:=en [(111,Ox)] []
def apo:Fn [.S, .I] As:=λa b=>[aS a,aI b]
def aup:Fn [.S, .I, .B] dq:=λa b c=>⟨[aS a,aI b,aB c],[]⟩
def adu:=dP apo aup (ct _) ql.v
theorem ali:FO 113 adu:=fh (E:=arD) (aF UB aX) func113 (it:=λ_=>ln) (λ_=>bw) (λ_=>ql.b) λx f h=>⟨0,ql.eh _ x.1 x.2.1 f.1.1⟩

def E54:=en [(113,adu),(111,Ox),(114,Oz)] []
def A54:Fn [.S] As:=λa=>[aS a]
def k54:Fn [.S, .I, .I, .S, .B] dq:=λa b c d e=>⟨[aV [.s a, .n b, .n c, .s d],aB e],[]⟩
def anp:=dP A54 k54 (ct _) rM.v
theorem awZ:FO 54 anp:=fh (E:=E54) (aF ali (aF UB (aF UD aX))) func54 (it:=λ_=>ln) (λ_=>bw) (λ_=>rM.b) λx f h=>⟨0,rM.eh _ x.1 f.1.1⟩

def E14:=en [(51,Wi),(52,ahr),(53,ano),(54,anp),(55,ahs)] [(7,[3,6,8])]
def A14:Fn [.R] As:=λa=>[aV [.sh 94 a]]
def k14:Fn [.R] dq:=λa=>⟨[aO 51 a],[]⟩
def Nf:Fn [.I, .R, .R] Tb:=λa b c=>[cA 6 (.own 0),cA 12 (.own 1),cI 16 a,oR 1 51 b,oR 3 9 c]
def aaS(N:aE)(K:Kt R):=Bv.l7 N (J Nf (.exit 0) K)
def akv(N:aE):It R:=(lp 7 (al Nf (λK=>aaS N K N) an) ln)
theorem agw(N:aE):bZ E14 (akv N (R:=R)) (bT f14 7):=lq 7 Nf (aaS N) λK g=>Bv.r7 N g (J Nf (.exit 0) K)
def ahm:=dP A14 k14 Bv.c Bv.v
theorem alr:FO 14 ahm:=fq (E:=E14) (aF ZT (aF amA (aF awY (aF awZ (aF amB aX))))) func14 (it:=λN=>akv N) (λN=>(bm (agw N) bw)) Bv.b Bv.vo

def ajl:=en [(51,Wi),(52,ahr),(114,Oz),(112,Oy)] [(9,[1,4,5,6,9,10])]
def aq1:Fn [.R, .R] As:=λa b=>[aV [.sh 94 a],aH 51 b]
def av0:Fn [.R, .B] dq:=λa b=>⟨[aO 218 a,aB b],[]⟩
def G0:Fn [.R, .B, .S, .I, .R] Tb:=λa b c d e=>[cH 2 51 a,cA 8 .nl,cA 10 (.b b),cA 12 (.own 0),cA 18 (.s c),cI 20 d,oR 1 218 e]
def I7:Fn [.R, .B, .S, .I, .R, .R] Tb:=λa b c d e f=>[cH 2 51 a,cA 8 (.own 0),cA 10 (.b b),cA 12 (.own 1),cA 18 (.s c),cI 20 d,oR 1 218 e,oR 3 218 f]
def Ss(N:aE)(K:Kt R):=jL.l9 N (J I7 .ret K) (J G0 (.exit 0) K)
def acs(N:aE):It R:=(lp 9 (al G0 (λK=>Ss N K N) an) ln)
theorem Zy(N:aE):bZ ajl (acs N (R:=R)) (bT f243 9):=lq 9 G0 (Ss N) λK g=>jL.r9 N g (J I7 .ret K) (J G0 (.exit 0) K)
def ael:=dP aq1 av0 jL.c jL.v
theorem amd:FO 243 ael:=fq (E:=ajl) (aF ZT (aF amA (aF UD (aF UC aX)))) func243 (it:=λN=>acs N) (λN=>(bm (Zy N) bw)) jL.b jL.vo

def E33:=en [(57,aao),(49,Wh),(13,VL),(88,ahx)] [(4,[0,1,4,5,6])]
def A33:Fn [.I, .R] As:=λa b=>[aI a,aH 51 b]
def k33:Fn [.I, .R, .R, .R, .R, .I, .R, .R, .I] dq:=λa b c d e f g h i=>⟨[aV [.n a, .ow 51 ai b, .ow 9 ai c, .ow 9 ai d, .ow 26 ai e, .n f, .ow 75 ai g, .ow 72 ai h, .n i]],[]⟩
def Ni:Fn [.I, .R, .I, .I, .I, .I, .I, .I, .I, .R, .R, .R, .R, .R, .R] Tb:=λa b c d e f g h i j k l m o p=>[cI 0 a,cH 2 51 b,cP 8 0,cP 10 1,cI 12 c,oB 1 [.n d, .nl, .nl, .nl, .nl, .n e, .nl, .nl, .n f],oB 3 [.n g, .own 2, .own 3, .own 4, .own 5, .n h, .own 6, .own 7, .n i],oR 5 51 j,oR 7 9 k,oR 9 9 l,oR 11 26 m,oR 13 75 o,oR 15 72 p]
def aa1(N:aE)(K:Kt R):=Ao.l4 N (J Ni (.exit 0) K)
def akB(N:aE):It R:=(lp 4 (al Ni (λK=>aa1 N K N) an) ln)
theorem agF(N:aE):bZ E33 (akB N (R:=R)) (bT f33 4):=lq 4 Ni (aa1 N) λK g=>Ao.r4 N g (J Ni (.exit 0) K)
def ane:=dP A33 k33 Ao.c Ao.v
theorem awO:FO 33 ane:=fq (E:=E33) (aF ag5 (aF ZS (aF ZR (aF amG aX)))) func33 (it:=λN=>akB N) (λN=>(bm (agF N) bw)) Ao.b Ao.vo

def Xj:=W_ T md [(242,aek),(14,ahm),(13,VL),(243,ael),(241,V_),(33,ane)] [(7,[0,6,7,8])] [] [(0,1,.own 51),(0,2,.own 9),(0,3,.own 9),(0,4,.own 26),(0,6,.own 75),(0,7,.own 72),(0,9,.own 94),(0,10,.own 3),(0,11,.own 51)]
def aqn:Fn [.I, .R, .R, .R, .R, .I, .R, .R, .I, .R, .R, .R, .I, .I, .S, .I, .R] As:=λa b c d e f g h i j k l m o p q r=>[.pt [.n a, .ow 51 ai b, .ow 9 ai c, .ow 9 ai d, .ow 26 ai e, .n f, .ow 75 ai g, .ow 72 ai h, .n i, .ow 94 ai j, .ow 3 ai k, .ow 51 ai l],aV [.n m, .n o, .s p, .n q, .sh 3 r]]
def avm:Fn [.I, .R, .R, .R, .R, .I, .R, .R, .I, .R, .R, .R] dq:=λa b c d e f g h i j k l=>⟨[],[[.n a, .ow 51 ai b, .ow 9 ai c, .ow 9 ai d, .ow 26 ai e, .n f, .ow 75 ai g, .ow 72 ai h, .n i, .ow 94 ai j, .ow 3 ai k, .ow 51 ai l]]⟩
def rF:Fn [.I, .I, .I, .I, .R, .R, .R, .R, .R, .R, .R, .R, .R, .R, .R] Tb:=λa b c d e f g h i j k l m o p=>[cP 0 900000900,cA 12 (.own 1),cA 14 (.own 2),cI 16 a,oB 1800001801 [.n b, .own 900000001, .own 900000002, .own 900000003, .own 900000004, .n c, .own 900000006, .own 900000007, .n d, .own 9, .own 900000010, .own 900000011],oR 3 51 e,oR 5 51 f,oR 1800000003 51 g,oR 1800000005 9 h,oR 1800000007 9 i,oR 1800000009 26 j,oR 1800000013 75 k,oR 1800000015 72 l,oR 19 94 m,oR 1800000021 3 o,oR 1800000023 51 p]
def oJ:Fn [.I, .I, .I, .I, .R, .R, .R, .R, .R, .R, .R, .R, .R, .R, .R] Tb:=λa b c d e f g h i j k l m o p=>[cP 0 900000900,cA 12 (.own 1),cA 14 (.own 2),cI 16 a,oB 1800001801 [.n b, .own 900000001, .own 900000002, .own 900000003, .own 900000004, .n c, .own 900000006, .own 900000007, .n d, .own 900000009, .own 900000010, .own 900000011],oR 3 51 e,oR 5 51 f,oR 1800000003 51 g,oR 1800000005 9 h,oR 1800000007 9 i,oR 1800000009 26 j,oR 1800000013 75 k,oR 1800000015 72 l,oR 1800000019 94 m,oR 1800000021 3 o,oR 1800000023 51 p]
def R2(N:aE)(K:Kt R):=wX.l7 N (J rF (.exit 0) K) (J oJ (.exit 0) K)
def M0(N:aE)(K:Kt R):=wX.l7a N (J rF (.exit 0) K) (J oJ (.exit 0) K)
def N5(N:aE):It R:=(lp 7 (al rF (λK=>R2 N K N) (al oJ (λK=>M0 N K N) an)) ln)
theorem OV(N:aE)(K:Kt R):Wd Xj (N5 N) (bT f191 7) 7 K oJ (M0 N K):=lw (λg=>wX.r7a N (cmp _ rF (g∘fM)) (cmp _ oJ (g∘fM)) (J rF (.exit 0) K) (J oJ (.exit 0) K)) λm i=>by simp only[dL,wf i];rfl
theorem ahF(N:aE)(K:Kt R):Wd Xj (N5 N) (bT f191 7) 7 K rF (R2 N K):=lw (λg=>wX.r7 N (cmp _ rF (g∘fM)) (cmp _ oJ (g∘fM)) (J rF (.exit 0) K) (J oJ (.exit 0) K)) λm i=>by simp only[dL,wf i,wf (OV N K m)];rfl
theorem Zb(N:aE):bZ Xj (N5 N (R:=R)) (bT f191 7):=lm 7 (ga rF (ahF N) (ga oJ (OV N) oT))
def ad2:=dP aqn avm wX.c wX.v
theorem alU:FO 191 ad2:=fq (E:=Xj) (aF amc (aF alr (aF ZR (aF amd (aF ac8 (aF awO aX)))))) func191 (it:=λN=>N5 N) (λN=>(bm (Zb N) bw)) wX.b wX.vo

def arG:=W_ T md [(185,adW),(186,adX),(187,adY),(188,adZ),(189,ad0),(190,ad1),(191,ad2),(192,VY)] [] [] [(0,1,.own 51),(0,2,.own 9),(0,3,.own 9),(0,4,.own 26),(0,6,.own 75),(0,7,.own 72),(0,9,.own 94),(0,10,.own 3),(0,11,.own 51)]
def aps:Fn [.I, .R, .R, .R, .R, .I, .R, .R, .I, .R, .R, .R, .I, .I, .S, .I, .R] As:=λa b c d e f g h i j k l m o p q r=>[.pt [.n a, .ow 51 ai b, .ow 9 ai c, .ow 9 ai d, .ow 26 ai e, .n f, .ow 75 ai g, .ow 72 ai h, .n i, .ow 94 ai j, .ow 3 ai k, .ow 51 ai l],aV [.n m, .n o, .s p, .n q, .sh 3 r]]
def aus:Fn [.I, .I, .R, .R, .R, .R, .I, .R, .R, .I, .R, .R, .R] dq:=λa b c d e f g h i j k l m=>⟨[aI a],[[.n b, .ow 51 ai c, .ow 9 ai d, .ow 9 ai e, .ow 26 ai f, .n g, .ow 75 ai h, .ow 72 ai i, .n j, .ow 94 ai k, .ow 3 ai l, .ow 51 ai m]]⟩
def adw:=dP aps aus D1.c D1.v
theorem alk:FO 116 adw:=fr (E:=arG) (aF alO (aF alP (aF alQ (aF alR (aF alS (aF alT (aF alU (aF acW aX)))))))) func116 D1.b D1.vo

def E58:=W_ T md [(116,adw)] [] [] [(0,1,.own 51),(0,2,.own 9),(0,3,.own 9),(0,4,.own 26),(0,6,.own 75),(0,7,.own 72),(0,9,.own 94),(0,10,.own 3),(0,11,.own 51)]
def A58:Fn [.I, .R, .R, .R, .R, .I, .R, .R, .I, .R, .R, .R, .I, .I, .S, .I, .R] As:=λa b c d e f g h i j k l m o p q r=>[.pt [.n a, .ow 51 ai b, .ow 9 ai c, .ow 9 ai d, .ow 26 ai e, .n f, .ow 75 ai g, .ow 72 ai h, .n i, .ow 94 ai j, .ow 3 ai k, .ow 51 ai l],aV [.n m, .n o, .s p, .n q, .sh 3 r]]
def k58:Fn [.I, .R, .R, .R, .R, .I, .R, .R, .I, .R, .R, .R] dq:=λa b c d e f g h i j k l=>⟨[],[[.n a, .ow 51 ai b, .ow 9 ai c, .ow 9 ai d, .ow 26 ai e, .n f, .ow 75 ai g, .ow 72 ai h, .n i, .ow 94 ai j, .ow 3 ai k, .ow 51 ai l]]⟩
def aht:=dP A58 k58 Hb.c Hb.v
theorem amC:FO 58 aht:=fr (E:=E58) (aF alk aX) func58 Hb.b Hb.vo

def E38:=en [(57,aao),(93,anA),(94,ahA),(41,QE),(58,aht)] [(7,[0,5,6,7,8,1000000005009094,1000000005010003,1000000005011051])]
def A38:Fn [.R, .I, .I, .R] As:=λa b c d=>[.pt [.sh 5 a, .n b, .n c],aH 5 d]
def k38:Fn [.R, .R, .I, .I] dq:=λa b c d=>⟨[aO 29 a],[[.sh 5 b, .n c, .n d]]⟩
def Nj:Fn [.I, .I, .R, .I, .I, .I, .I, .I, .R, .R, .R, .R, .R, .R, .R, .R, .R, .R] Tb:=λa b c d e f g h i j k l m o p q r s=>[cP 0 900000900,cP 10 1,cA 12 (.own 2),cI 14 a,cI 16 b,oB 1800001801 [.sh 5 c, .n d, .n e],oB 3 [.n f, .own 3, .own 4, .own 5, .own 6, .n g, .own 7, .own 8, .n h, .own 9, .own 10, .own 11],oR 5 29 i,oR 7 51 j,oR 9 9 k,oR 11 9 l,oR 13 26 m,oR 15 75 o,oR 17 72 p,oR 19 94 q,oR 21 3 r,oR 23 51 s]
def aa5(N:aE)(K:Kt R):=Q2.l7 N (J Nj (.exit 0) K)
def akF(N:aE):It R:=(lp 7 (al Nj (λK=>aa5 N K N) an) ln)
theorem agJ(N:aE):bZ E38 (akF N (R:=R)) (bT f38 7):=lq 7 Nj (aa5 N) λK g=>Q2.r7 N g (J Nj (.exit 0) K)
def anh:=dP A38 k38 Q2.c Q2.v
theorem awR:FO 38 anh:=fq (E:=E38) (aF ag5 (aF aw9 (aF amJ (aF UZ (aF amC aX))))) func38 (it:=λN=>akF N) (λN=>(bm (agJ N) bw)) Q2.b Q2.vo

def E9:=en [(39,ani),(38,anh)] []
def A9:Fn [.R] As:=λa=>[aH 5 a]
def k9:Fn [.R] dq:=λa=>⟨[aO 29 a],[]⟩
def sp9:=dP A9 k9 U9.c U9.v
theorem ok9:FO 9 sp9:=fr (E:=E9) (aF awS (aF awR aX)) func9 U9.b U9.vo

def E82:=en [] []
def A82:Fn [.I, .I, .I] As:=λa b c=>[aI a,aI b,aI c]
def k82:Fn [.B] dq:=λa=>⟨[aB a],[]⟩
def qw:=dP A82 k82 (ct _) lH.v
theorem qR:FO 82 qw:=ft (E:=E82) aX func82 lH.b λ(a0,a1,a2,_)=>lH.eh _ a0 a1 a2

def E31:=en [(82,qw)] []
def A31:Fn [.I, .I, .S, .I, .R] As:=λa b c d e=>[aV [.n a, .n b, .s c, .n d, .sh 3 e]]
def k31:Fn [.B] dq:=λa=>⟨[aB a],[]⟩
def anb:=dP A31 k31 (ct _) U31.v
theorem awM:FO 31 anb:=ft (E:=E31) (aF qR aX) func31 U31.b λ(a0,a1,a2,a3,a4,_)=>U31.eh _ a0 a1 a2 a3 a4

def Xg:=en [] [(3,[0,1,3])]
def apT:Fn [] As:=[]
def auS:Fn [.R, .I] dq:=λa b=>⟨[aV [.ow 26 ai a, .n b]],[]⟩
def rD:Fn [.I, .I, .I] Tb:=λa b c=>[cP 0 0,cP 2 1,cI 6 a,oB 1 [.nl, .n b],oB 3 [.nl, .n c]]
def oH:Fn [.I, .I, .I, .R] Tb:=λa b c d=>[cP 0 0,cP 2 1,cI 6 a,oB 1 [.nl, .n b],oB 3 [.own 2, .n c],oR 5 26 d]
def RM(N:aE)(K:Kt R):=G9.l3 N (J rD (.exit 0) K) (J oH (.exit 0) K)
def MT(N:aE)(K:Kt R):=G9.sR N (J rD (.exit 0) K) (J oH (.exit 0) K)
def N2(N:aE):It R:=(lp 3 (al rD (λK=>RM N K N) (al oH (λK=>MT N K N) an)) ln)
theorem OT(N:aE)(K:Kt R):Wd Xg (N2 N) (bT f159 3) 3 K oH (MT N K):=lw (λg=>G9.zZ N (cmp _ rD (g∘fM)) (cmp _ oH (g∘fM)) (J rD (.exit 0) K) (J oH (.exit 0) K)) λm i=>by simp only[dL,wf i];rfl
theorem ahD(N:aE)(K:Kt R):Wd Xg (N2 N) (bT f159 3) 3 K rD (RM N K):=lw (λg=>G9.r3 N (cmp _ rD (g∘fM)) (cmp _ oH (g∘fM)) (J rD (.exit 0) K) (J oH (.exit 0) K)) λm i=>by simp only[dL,wf i,wf (OT N K m)];rfl
theorem YX(N:aE):bZ Xg (N2 N (R:=R)) (bT f159 3):=lm 3 (ga rD (ahD N) (ga oH (OT N) oT))
def adG:=dP apT auS G9.c G9.v
theorem alx:FO 159 adG:=fq (E:=Xg) aX func159 (it:=λN=>N2 N) (λN=>(bm (YX N) bw)) G9.b G9.vo

def E95:=en [(159,adG)] []
def A95:Fn [] As:=[]
def k95:Fn [.R, .R, .R, .I] dq:=λa b c d=>⟨[aV [.ow 9 ai a, .ow 9 ai b, .ow 26 ai c, .n d]],[]⟩
def anB:=dP A95 k95 (ct _) U95.v
theorem aw_:FO 95 anB:=ft (E:=E95) (aF alx aX) func95 U95.b λ_=>U95.eh _

def E42:=en [(95,anB)] []
def A42:Fn [] As:=[]
def k42:Fn [.I, .R, .R, .R, .R, .I, .R, .R, .I] dq:=λa b c d e f g h i=>⟨[aV [.n a, .ow 51 ai b, .ow 9 ai c, .ow 9 ai d, .ow 26 ai e, .n f, .ow 75 ai g, .ow 72 ai h, .n i]],[]⟩
def ahp:=dP A42 k42 (ct _) U42.v
theorem amy:FO 42 ahp:=ft (E:=E42) (aF aw_ aX) func42 U42.b λ_=>U42.eh _

def asn:=en [] []
def aqB:Fn [.R] As:=λa=>[aH 51 a]
def avA:Fn [.R] dq:=λa=>⟨[aO 51 a],[]⟩
def V3:=dP aqB avA wZ.c wZ.v
theorem ac1:FO 216 V3:=fr (E:=asn) aX func216 wZ.b wZ.vo

def asD:=en [] []
def aq7:Fn [.R] As:=λa=>[aH 9 a]
def av6:Fn [.R] dq:=λa=>⟨[aO 9 a],[]⟩
def Wb:=dP aq7 av6 tu.c tu.v
theorem ac_:FO 255 Wb:=fr (E:=asD) aX func255 tu.b tu.vo

def asG:=en [] []
def ara:Fn [.R] As:=λa=>[aH 3 a]
def av_:Fn [.R] dq:=λa=>⟨[aO 3 a],[]⟩
def aeq:=dP ara av_ v_.c v_.v
theorem ami:FO 261 aeq:=fr (E:=asG) aX func261 v_.b v_.vo

def Xl:=en [(261,aeq)] [(3,[2,3,10,11,12])]
def aqI:Fn [.R, .I] As:=λa b=>[aV [.sh 26 a, .n b]]
def avH:Fn [.R, .I] dq:=λa b=>⟨[aV [.ow 26 ai a, .n b]],[]⟩
def rG:Fn [.R, .I, .I, .I, .I] Tb:=λa b c d e=>[cP 4 0,cP 6 1,cH 20 26 a,cI 22 b,cI 24 c,oB 1 [.nl, .n d],oB 3 [.nl, .n e]]
def oK:Fn [.R, .I, .I, .I, .I, .R] Tb:=λa b c d e f=>[cP 4 0,cP 6 1,cH 20 26 a,cI 22 b,cI 24 c,oB 1 [.nl, .n d],oB 3 [.own 2, .n e],oR 5 26 f]
def Sd(N:aE)(K:Kt R):=jq.l3 N (J rG (.exit 0) K) (J oK (.exit 0) K)
def M5(N:aE)(K:Kt R):=jq.sR N (J rG (.exit 0) K) (J oK (.exit 0) K)
def N7(N:aE):It R:=(lp 3 (al rG (λK=>Sd N K N) (al oK (λK=>M5 N K N) an)) ln)
theorem OX(N:aE)(K:Kt R):Wd Xl (N7 N) (bT f224 3) 3 K oK (M5 N K):=lw (λg=>jq.zZ N (cmp _ rG (g∘fM)) (cmp _ oK (g∘fM)) (J rG (.exit 0) K) (J oK (.exit 0) K)) λm i=>by simp only[dL,wf i];rfl
theorem ahG(N:aE)(K:Kt R):Wd Xl (N7 N) (bT f224 3) 3 K rG (Sd N K):=lw (λg=>jq.r3 N (cmp _ rG (g∘fM)) (cmp _ oK (g∘fM)) (J rG (.exit 0) K) (J oK (.exit 0) K)) λm i=>by simp only[dL,wf i,wf (OX N K m)];rfl
theorem Zm(N:aE):bZ Xl (N7 N (R:=R)) (bT f224 3):=lm 3 (ga rG (ahG N) (ga oK (OX N) oT))
def V7:=dP aqI avH jq.c jq.v
theorem ac5:FO 224 V7:=fq (E:=Xl) (aF ami aX) func224 (it:=λN=>N7 N) (λN=>(bm (Zm N) bw)) jq.b jq.vo

def asl:=en [(255,Wb),(224,V7)] []
def aqx:Fn [.R, .R, .R, .I] As:=λa b c d=>[aV [.sh 9 a, .sh 9 b, .sh 26 c, .n d]]
def avw:Fn [.R, .R, .R, .I] dq:=λa b c d=>⟨[aV [.ow 9 ai a, .ow 9 ai b, .ow 26 ai c, .n d]],[]⟩
def OJ:=dP aqx avw jw.c jw.v
theorem UO:FO 212 OJ:=fr (E:=asl) (aF ac_ (aF ac5 aX)) func212 jw.b jw.vo

def arX:=en [(216,V3),(212,OJ)] []
def apU:Fn [.I, .R, .R, .R, .R, .I, .R, .R, .I] As:=λa b c d e f g h i=>[aV [.n a, .sh 51 b, .sh 9 c, .sh 9 d, .sh 26 e, .n f, .sh 75 g, .sh 72 h, .n i]]
def auT:Fn [.I, .R, .R, .R, .R, .I, .R, .R, .I] dq:=λa b c d e f g h i=>⟨[aV [.n a, .ow 51 ai b, .ow 9 ai c, .ow 9 ai d, .ow 26 ai e, .n f, .ow 75 ai g, .ow 72 ai h, .n i]],[]⟩
def DA:=dP apU auT iN.c iN.v
theorem FQ:FO 160 DA:=fr (E:=arX) (aF ac1 (aF UO aX)) func160 iN.b iN.vo

def arO:=en [(82,qw)] []
def apH:Fn [.S] As:=λa=>[aS a]
def auI:Fn [.B] dq:=λa=>⟨[aB a],[]⟩
def Dz:=dP apH auI (ct _) zD.v
theorem FP:FO 148 Dz:=ft (E:=arO) (aF qR aX) func148 zD.b λ(a0,_)=>zD.eh _ a0

def E86:=en [(82,qw)] []
def A86:Fn [.I] As:=λa=>[aI a]
def k86:Fn [.B] dq:=λa=>⟨[aB a],[]⟩
def aap:=dP A86 k86 (ct _) SM.v
theorem ag6:FO 86 aap:=ft (E:=E86) (aF qR aX) func86 SM.b λ(a0,_)=>SM.eh _ a0

def arK:=en [(148,Dz),(86,aap),(82,qw)] []
def apB:Fn [.S, .I, .I, .S] As:=λa b c d=>[aV [.s a, .n b, .n c, .s d]]
def auC:Fn [.B] dq:=λa=>⟨[aB a],[]⟩
def Kv:=dP apB auC (ct _) wT.v
theorem Oj:FO 125 Kv:=ft (E:=arK) (aF FP (aF ag6 (aF qR aX))) func125 wT.b λ(a0,a1,a2,a3,_)=>wT.eh _ a0 a1 a2 a3

def asC:=en [] []
def aq6:Fn [.I] As:=λa=>[.v ak [.nl],aI a]
def av5:Fn [.R] dq:=λa=>⟨[aO 9 a],[]⟩
def aeo:=dP aq6 av5 Ec.c Ec.v
theorem amg:FO 254 aeo:=fr (E:=asC) aX func254 Ec.b Ec.vo

def aeT:=en [(254,aeo)] [(3,[0,3,9,10,11]),(11,[6,25,26,27])]
def aqw:Fn [.R] As:=λa=>[aH 31 a]
def avv:Fn [.R] dq:=λa=>⟨[aO 9 a],[]⟩
def GN:Fn [.R, .I, .R, .I, .I] Tb:=λa b c d e=>[cH 0 31 a,cI 6 b,cH 18 31 c,cI 20 d,cI 22 e]
def Bs:Fn [.R, .I, .I, .R] Tb:=λa b c d=>[cA 12 (.own 0),cH 50 31 a,cI 52 b,cI 54 c,oR 1 9 d]
def R6(N:aE)(K:Kt R):=wY.l3 N (J GN (.exit 0) K)
def M1(N:aE)(K:Kt R):=wY.P7 N (J Bs (.exit 2) K)
def T0(N:aE):It R:=(lp 3 (al GN (λK=>R6 N K N) an) (lp 11 (al Bs (λK=>M1 N K N) an) ln))
theorem Zf(N:aE):bZ aeT (T0 N (R:=R)) (bT f211 3):=lq 3 GN (R6 N) λK g=>wY.r3 N g (J GN (.exit 0) K)
theorem Uo(N:aE):bZ aeT (T0 N (R:=R)) (bT f211 11):=lq 11 Bs (M1 N) λK g=>wY.wG N g (J Bs (.exit 2) K)
def ad5:=dP aqw avv wY.c wY.v
theorem alX:FO 211 ad5:=fq (E:=aeT) (aF amg aX) func211 (it:=λN=>T0 N) (λN=>(bm (Zf N) (bm (Uo N) bw))) wY.b wY.vo

def arN:=en [(211,ad5)] []
def apG:Fn [.R, .R, .R, .I] As:=λa b c d=>[aV [.sh 9 a, .sh 9 b, .sh 26 c, .n d]]
def auH:Fn [.R] dq:=λa=>⟨[aO 9 a],[]⟩
def OB:=dP apG auH qF.c qF.v
theorem UF:FO 147 OB:=fr (E:=arN) (aF alX aX) func147 qF.b qF.vo

def ajm:=en [] [(2,[0,1,4,7,8])]
def aq5:Fn [.R, .S] As:=λa b=>[aH 9 a,aS b]
def av4:Fn [.I] dq:=λa=>⟨[aI a],[]⟩
def zw:Fn [.R, .S, .I, .I, .I] Tb:=λa b c d e=>[cH 0 9 a,cA 2 (.s b),cI 8 c,cI 14 d,cI 16 e]
def Sv(N:aE)(K:Kt R):=Bb.l2 N (J zw .ret K) (J zw (.exit 0) K)
def acu(N:aE):It R:=(lp 2 (al zw (λK=>Sv N K N) an) ln)
theorem ZA(N:aE):bZ ajm (acu N (R:=R)) (bT f253 2):=lq 2 zw (Sv N) λK g=>Bb.r2 N g (J zw .ret K) (J zw (.exit 0) K)
def aen:=dP aq5 av4 Bb.c Bb.v
theorem amf:FO 253 aen:=fq (E:=ajm) aX func253 (it:=λN=>acu N) (λN=>(bm (ZA N) bw)) Bb.b Bb.vo

def asj:=en [(253,aen)] []
def aqu:Fn [.R, .S] As:=λa b=>[aH 9 a,aS b]
def avt:Fn [.B] dq:=λa=>⟨[aB a],[]⟩
def OH:=dP aqu avt sN.c sN.v
theorem UM:FO 209 OH:=fr (E:=asj) (aF amf aX) func209 sN.b sN.vo

def arM:=en [(147,OB),(209,OH)] []
def apE:Fn [.R, .R, .R, .I, .S] As:=λa b c d e=>[aV [.sh 9 a, .sh 9 b, .sh 26 c, .n d],aS e]
def auF:Fn [.B] dq:=λa=>⟨[aB a],[]⟩
def OA:=dP apE auF sM.c sM.v
theorem UE:FO 145 OA:=fr (E:=arM) (aF UF (aF UM aX)) func145 sM.b sM.vo

def aeS:=en [(82,qw)] [(2,[1,2,8,9,10]),(5,[1,2,4,8,9,10,14,15,16])]
def aqv:Fn [.R, .I] As:=λa b=>[aV [.sh 26 a, .n b]]
def avu:Fn [.B] dq:=λa=>⟨[aB a],[]⟩
def zo:Fn [.B, .R, .I, .I, .R, .I] Tb:=λa b c d e f=>[cP 2 0,cA 4 (.b a),cH 16 26 b,cI 18 c,cI 20 d,oB 1 [.sh 26 e, .n f]]
def zp:Fn [.B, .R, .R, .I, .I, .R, .I, .I, .R, .I] Tb:=λa b c d e f g h i j=>[cP 2 0,cA 4 (.b a),cH 8 3 b,cH 16 26 c,cI 18 d,cI 20 e,cH 28 3 f,cI 30 g,cI 32 h,oB 1 [.sh 26 i, .n j]]
def R4(N:aE)(K:Kt R):=pQ.l2 N (J zo .ret K) (J zo (.exit 0) K)
def R5(N:aE)(K:Kt R):=pQ.l5 N (J zp .ret K) (J zp (.exit 2) K)
def TZ(N:aE):It R:=(lp 2 (al zo (λK=>R4 N K N) an) (lp 5 (al zp (λK=>R5 N K N) an) ln))
theorem Zd(N:aE):bZ aeS (TZ N (R:=R)) (bT f210 2):=lq 2 zo (R4 N) λK g=>pQ.r2 N g (J zo .ret K) (J zo (.exit 0) K)
theorem Ze(N:aE):bZ aeS (TZ N (R:=R)) (bT f210 5):=lq 5 zp (R5 N) λK g=>pQ.r5 N g (J zp .ret K) (J zp (.exit 2) K)
def OI:=dP aqv avu pQ.c pQ.v
theorem UN:FO 210 OI:=fq (E:=aeS) (aF qR aX) func210 (it:=λN=>TZ N) (λN=>(bm (Zd N) (bm (Ze N) bw))) pQ.b pQ.vo

def aiZ:=en [(147,OB),(148,Dz),(209,OH),(210,OI)] [(3,[1,2,3,8,9,10])]
def apF:Fn [.R, .R, .R, .I] As:=λa b c d=>[aV [.sh 9 a, .sh 9 b, .sh 26 c, .n d]]
def auG:Fn [.B] dq:=λa=>⟨[aB a],[]⟩
def zj:Fn [.B, .I, .I, .R, .R, .R, .I, .R] Tb:=λa b c d e f g h=>[cP 2 0,cA 4 (.b a),cA 6 (.own 1),cA 16 (.own 1),cI 18 b,cI 20 c,oB 1 [.sh 9 d, .sh 9 e, .sh 26 f, .n g],oR 3 9 h]
def RI(N:aE)(K:Kt R):=pd.l3 N (J zj .ret K) (J zj (.exit 0) K)
def ab4(N:aE):It R:=(lp 3 (al zj (λK=>RI N K N) an) ln)
theorem YU(N:aE):bZ aiZ (ab4 N (R:=R)) (bT f146 3):=lq 3 zj (RI N) λK g=>pd.r3 N g (J zj .ret K) (J zj (.exit 0) K)
def VN:=dP apF auG pd.c pd.v
theorem acL:FO 146 VN:=fq (E:=aiZ) (aF UF (aF FP (aF UM (aF UN aX)))) func146 (it:=λN=>ab4 N) (λN=>(bm (YU N) bw)) pd.b pd.vo

def E83:=en [(125,Kv),(145,OA),(146,VN),(147,OB)] [(2,[1,2,6,7,8])]
def A83:Fn [.I, .R, .R, .R, .R, .I, .R, .R, .I] As:=λa b c d e f g h i=>[aV [.n a, .sh 51 b, .sh 9 c, .sh 9 d, .sh 26 e, .n f, .sh 75 g, .sh 72 h, .n i]]
def k83:Fn [.B] dq:=λa=>⟨[aB a],[]⟩
def Fh:Fn [.B, .R, .I, .I, .I, .R, .R, .R, .R, .I, .R, .R, .I] Tb:=λa b c d e f g h i j k l m=>[cP 2 0,cA 4 (.b a),cH 12 51 b,cI 14 c,cI 16 d,oB 1 [.n e, .sh 51 f, .sh 9 g, .sh 9 h, .sh 26 i, .n j, .sh 75 k, .sh 72 l, .n m]]
def abi(N:aE)(K:Kt R):=Q5.l2 N (J Fh .ret K) (J Fh (.exit 0) K)
def akN(N:aE):It R:=(lp 2 (al Fh (λK=>abi N K N) an) ln)
theorem agX(N:aE):bZ E83 (akN N (R:=R)) (bT f83 2):=lq 2 Fh (abi N) λK g=>Q5.r2 N g (J Fh .ret K) (J Fh (.exit 0) K)
def anu:=dP A83 k83 Q5.c Q5.v
theorem aw4:FO 83 anu:=fq (E:=E83) (aF Oj (aF UE (aF acL (aF UF aX)))) func83 (it:=λN=>akN N) (λN=>(bm (agX N) bw)) Q5.b Q5.vo

def arU:=en [] []
def apR:Fn [.S, .S, .I, .I, .I, .S] As:=λa b c d e f=>[aV [.s a, .s b, .n c, .n d, .n e], .fb [.s f]]
def auQ:Fn [.B] dq:=λa=>⟨[aB a],[]⟩
def adE:=dP apR auQ (ct _) IX.v
theorem alv:FO 157 adE:=ft (E:=arU) aX func157 IX.b λ(a0,a1,a2,a3,a4,a5,_)=>IX.eh _ a0 a1 a2 a3 a4 a5

def ai1:=en [(157,adE)] [(2,[0,1,4,7,8])]
def apQ:Fn [.R, .S] As:=λa b=>[aH 75 a, .v ak [.fn 157 [[.s b]]]]
def auP:Fn [.I] dq:=λa=>⟨[aI a],[]⟩
def zk:Fn [.R, .S, .I, .I, .I] Tb:=λa b c d e=>[cH 0 75 a,cA 2 (.fn 157 [[.s b]]),cI 8 c,cI 14 d,cI 16 e]
def RK(N:aE)(K:Kt R):=qG.l2 N (J zk .ret K) (J zk (.exit 0) K)
def ab6(N:aE):It R:=(lp 2 (al zk (λK=>RK N K N) an) ln)
theorem YW(N:aE):bZ ai1 (ab6 N (R:=R)) (bT f156 2):=lq 2 zk (RK N) λK g=>qG.r2 N g (J zk .ret K) (J zk (.exit 0) K)
def adD:=dP apQ auP qG.c qG.v
theorem alu:FO 156 adD:=fq (E:=ai1) (aF alv aX) func156 (it:=λN=>ab6 N) (λN=>(bm (YW N) bw)) qG.b qG.vo

def E92:=en [(156,adD)] []
def A92:Fn [.I, .R, .R, .R, .R, .I, .R, .R, .I, .S] As:=λa b c d e f g h i j=>[aV [.n a, .sh 51 b, .sh 9 c, .sh 9 d, .sh 26 e, .n f, .sh 75 g, .sh 72 h, .n i],aS j]
def k92:Fn [.I] dq:=λa=>⟨[aI a],[]⟩
def ahz:=dP A92 k92 K7.c K7.v
theorem amI:FO 92 ahz:=fr (E:=E92) (aF alu aX) func92 K7.b K7.vo

def E35:=en [(92,ahz)] [(2,[1,2,6,7,8])]
def A35:Fn [.I, .R, .R, .R, .R, .I, .R, .R, .I] As:=λa b c d e f g h i=>[aV [.n a, .sh 51 b, .sh 9 c, .sh 9 d, .sh 26 e, .n f, .sh 75 g, .sh 72 h, .n i]]
def k35:Fn [.B] dq:=λa=>⟨[aB a],[]⟩
def E3:Fn [.B, .R, .I, .I, .I, .R, .R, .R, .R, .I, .R, .R, .I] Tb:=λa b c d e f g h i j k l m=>[cP 2 0,cA 4 (.b a),cH 12 75 b,cI 14 c,cI 16 d,oB 1 [.n e, .sh 51 f, .sh 9 g, .sh 9 h, .sh 26 i, .n j, .sh 75 k, .sh 72 l, .n m]]
def aa3(N:aE)(K:Kt R):=IZ.l2 N (J E3 .ret K) (J E3 (.exit 0) K)
def akD(N:aE):It R:=(lp 2 (al E3 (λK=>aa3 N K N) an) ln)
theorem agH(N:aE):bZ E35 (akD N (R:=R)) (bT f35 2):=lq 2 E3 (aa3 N) λK g=>IZ.r2 N g (J E3 .ret K) (J E3 (.exit 0) K)
def aho:=dP A35 k35 IZ.c IZ.v
theorem amx:FO 35 aho:=fq (E:=E35) (aF amI aX) func35 (it:=λN=>akD N) (λN=>(bm (agH N) bw)) IZ.b IZ.vo

def E84:=en [(148,Dz),(82,qw),(35,aho)] [(2,[1,2,6,7,8])]
def A84:Fn [.I, .R, .R, .R, .R, .I, .R, .R, .I] As:=λa b c d e f g h i=>[aV [.n a, .sh 51 b, .sh 9 c, .sh 9 d, .sh 26 e, .n f, .sh 75 g, .sh 72 h, .n i]]
def k84:Fn [.B] dq:=λa=>⟨[aB a],[]⟩
def Fj:Fn [.B, .R, .I, .I, .I, .R, .R, .R, .R, .I, .R, .R, .I] Tb:=λa b c d e f g h i j k l m=>[cP 2 0,cA 4 (.b a),cH 12 75 b,cI 14 c,cI 16 d,oB 1 [.n e, .sh 51 f, .sh 9 g, .sh 9 h, .sh 26 i, .n j, .sh 75 k, .sh 72 l, .n m]]
def abj(N:aE)(K:Kt R):=Pj.l2 N (J Fj .ret K) (J Fj (.exit 0) K)
def akO(N:aE):It R:=(lp 2 (al Fj (λK=>abj N K N) an) ln)
theorem agY(N:aE):bZ E84 (akO N (R:=R)) (bT f84 2):=lq 2 Fj (abj N) λK g=>Pj.r2 N g (J Fj .ret K) (J Fj (.exit 0) K)
def anv:=dP A84 k84 Pj.c Pj.v
theorem aw5:FO 84 anv:=fq (E:=E84) (aF FP (aF qR (aF amx aX))) func84 (it:=λN=>akO N) (λN=>(bm (agY N) bw)) Pj.b Pj.vo

def E85:=en [(82,qw),(148,Dz)] [(2,[1,2,6,7,8])]
def A85:Fn [.I, .R, .R, .R, .R, .I, .R, .R, .I] As:=λa b c d e f g h i=>[aV [.n a, .sh 51 b, .sh 9 c, .sh 9 d, .sh 26 e, .n f, .sh 75 g, .sh 72 h, .n i]]
def k85:Fn [.B] dq:=λa=>⟨[aB a],[]⟩
def Fk:Fn [.B, .R, .I, .I, .I, .R, .R, .R, .R, .I, .R, .R, .I] Tb:=λa b c d e f g h i j k l m=>[cP 2 0,cA 4 (.b a),cH 12 72 b,cI 14 c,cI 16 d,oB 1 [.n e, .sh 51 f, .sh 9 g, .sh 9 h, .sh 26 i, .n j, .sh 75 k, .sh 72 l, .n m]]
def abk(N:aE)(K:Kt R):=Q6.l2 N (J Fk .ret K) (J Fk (.exit 0) K)
def akP(N:aE):It R:=(lp 2 (al Fk (λK=>abk N K N) an) ln)
theorem agZ(N:aE):bZ E85 (akP N (R:=R)) (bT f85 2):=lq 2 Fk (abk N) λK g=>Q6.r2 N g (J Fk .ret K) (J Fk (.exit 0) K)
def anw:=dP A85 k85 Q6.c Q6.v
theorem aw6:FO 85 anw:=fq (E:=E85) (aF qR (aF FP aX)) func85 (it:=λN=>akP N) (λN=>(bm (agZ N) bw)) Q6.b Q6.vo

def E30:=en [(82,qw),(83,anu),(84,anv),(85,anw),(86,aap)] []
def A30:Fn [.I, .R, .R, .R, .R, .I, .R, .R, .I] As:=λa b c d e f g h i=>[aV [.n a, .sh 51 b, .sh 9 c, .sh 9 d, .sh 26 e, .n f, .sh 75 g, .sh 72 h, .n i]]
def k30:Fn [.B] dq:=λa=>⟨[aB a],[]⟩
def aam:=dP A30 k30 KE.c KE.v
theorem ag3:FO 30 aam:=fr (E:=E30) (aF qR (aF aw4 (aF aw5 (aF aw6 (aF ag6 aX))))) func30 KE.b KE.vo

def ar5:=en [] []
def ap7:Fn [.I, .S, .I, .I, .I, .S, .I, .I] As:=λa b c d e f g h=>[aV [.n a, .s b, .n c, .n d, .n e, .s f, .n g], .fb [.n h]]
def au6:Fn [.B] dq:=λa=>⟨[aB a],[]⟩
def adP:=dP ap7 au6 (ct _) K2.v
theorem alH:FO 174 adP:=ft (E:=ar5) aX func174 K2.b λ(a0,a1,a2,a3,a4,a5,a6,a7,_)=>K2.eh _ a0 a1 a2 a3 a4 a5 a6 a7

def aaI:=en [(174,adP)] [(2,[0,1,4,7,8])]
def aiH:Fn [.R, .I] As:=λa b=>[aH 72 a, .v ak [.fn 174 [[.n b]]]]
def akU:Fn [.I] dq:=λa=>⟨[aI a],[]⟩
def uw:Fn [.R, .I, .I, .I, .I] Tb:=λa b c d e=>[cH 0 72 a,cA 2 (.fn 174 [[.n b]]),cI 8 c,cI 14 d,cI 16 e]
def MW(N:aE)(K:Kt R):=qH.l2 N (J uw .ret K) (J uw (.exit 0) K)
def TW(N:aE):It R:=(lp 2 (al uw (λK=>MW N K N) an) ln)
theorem Ul(N:aE):bZ aaI (TW N (R:=R)) (bT f173 2):=lq 2 uw (MW N) λK g=>qH.r2 N g (J uw .ret K) (J uw (.exit 0) K)
def Mr:=dP aiH akU qH.c qH.v
theorem UI:FO 173 Mr:=fq (E:=aaI) (aF alH aX) func173 (it:=λN=>TW N) (λN=>(bm (Ul N) bw)) qH.b qH.vo

def ar6:=en [] []
def ap9:Fn [.I, .S, .I, .I, .I, .S, .I, .I] As:=λa b c d e f g h=>[aV [.n a, .s b, .n c, .n d, .n e, .s f, .n g], .fb [.n h]]
def au8:Fn [.B] dq:=λa=>⟨[aB a],[]⟩
def VV:=dP ap9 au8 (ct _) A6.v
theorem acT:FO 176 VV:=ft (E:=ar6) aX func176 A6.b λ(a0,a1,a2,a3,a4,a5,a6,a7,_)=>A6.eh _ a0 a1 a2 a3 a4 a5 a6 a7

def aaJ:=en [(176,VV)] [(2,[0,1,4,7,8])]
def aiI:Fn [.R, .I] As:=λa b=>[aH 72 a, .v ak [.fn 176 [[.n b]]]]
def akV:Fn [.I] dq:=λa=>⟨[aI a],[]⟩
def uz:Fn [.R, .I, .I, .I, .I] Tb:=λa b c d e=>[cH 0 72 a,cA 2 (.fn 176 [[.n b]]),cI 8 c,cI 14 d,cI 16 e]
def MX(N:aE)(K:Kt R):=ny.l2 N (J uz .ret K) (J uz (.exit 0) K)
def TX(N:aE):It R:=(lp 2 (al uz (λK=>MX N K N) an) ln)
theorem Um(N:aE):bZ aaJ (TX N (R:=R)) (bT f173 2):=lq 2 uz (MX N) λK g=>ny.r2 N g (J uz .ret K) (J uz (.exit 0) K)
def Ms:=dP aiI akV ny.c ny.v
theorem UJ:FO 173 Ms:=fq (E:=aaJ) (aF acT aX) func173 (it:=λN=>TX N) (λN=>(bm (Um N) bw)) ny.b ny.vo

def arw:=en [(173,Mr),(173,Ms)] []
def apc:Fn [.I, .R, .R, .R, .R, .I, .R, .R, .I, .I] As:=λa b c d e f g h i j=>[aV [.n a, .sh 51 b, .sh 9 c, .sh 9 d, .sh 26 e, .n f, .sh 75 g, .sh 72 h, .n i],aI j]
def auc:Fn [.I] dq:=λa=>⟨[aI a],[]⟩
def VG:=dP apc auc zA.c zA.v
theorem acF:FO 101 VG:=fr (E:=arw) (aF UI (aF UJ aX)) func101 zA.b zA.vo

def arY:=en [] []
def apV:Fn [.S, .I, .I, .S, .S] As:=λa b c d e=>[aV [.s a, .n b, .n c, .s d], .fb [.s e]]
def auU:Fn [.B] dq:=λa=>⟨[aB a],[]⟩
def adH:=dP apV auU (ct _) KY.v
theorem aly:FO 161 adH:=ft (E:=arY) aX func161 KY.b λ(a0,a1,a2,a3,a4,_)=>KY.eh _ a0 a1 a2 a3 a4

def aaF:=en [(161,adH)] [(2,[0,1,4,7,8])]
def aiE:Fn [.R, .S] As:=λa b=>[aH 51 a, .v ak [.fn 161 [[.s b]]]]
def akR:Fn [.I] dq:=λa=>⟨[aI a],[]⟩
def uq:Fn [.R, .S, .I, .I, .I] Tb:=λa b c d e=>[cH 0 51 a,cA 2 (.fn 161 [[.s b]]),cI 8 c,cI 14 d,cI 16 e]
def MQ(N:aE)(K:Kt R):=pW.l2 N (J uq .ret K) (J uq (.exit 0) K)
def TT(N:aE):It R:=(lp 2 (al uq (λK=>MQ N K N) an) ln)
theorem Ug(N:aE):bZ aaF (TT N (R:=R)) (bT f155 2):=lq 2 uq (MQ N) λK g=>pW.r2 N g (J uq .ret K) (J uq (.exit 0) K)
def Ih:=dP aiE akR pW.c pW.v
theorem L6:FO 155 Ih:=fq (E:=aaF) (aF aly aX) func155 (it:=λN=>TT N) (λN=>(bm (Ug N) bw)) pW.b pW.vo

def aso:=en [] []
def aqC:Fn [.S, .I, .I, .S, .S] As:=λa b c d e=>[aV [.s a, .n b, .n c, .s d], .fb [.s e]]
def avB:Fn [.B] dq:=λa=>⟨[aB a],[]⟩
def V4:=dP aqC avB (ct _) Ba.v
theorem ac2:FO 217 V4:=ft (E:=aso) aX func217 Ba.b λ(a0,a1,a2,a3,a4,_)=>Ba.eh _ a0 a1 a2 a3 a4

def aaG:=en [(217,V4)] [(2,[0,1,4,7,8])]
def aiF:Fn [.R, .S] As:=λa b=>[aH 51 a, .v ak [.fn 217 [[.s b]]]]
def akS:Fn [.I] dq:=λa=>⟨[aI a],[]⟩
def ur:Fn [.R, .S, .I, .I, .I] Tb:=λa b c d e=>[cH 0 51 a,cA 2 (.fn 217 [[.s b]]),cI 8 c,cI 14 d,cI 16 e]
def MR(N:aE)(K:Kt R):=nv.l2 N (J ur .ret K) (J ur (.exit 0) K)
def TU(N:aE):It R:=(lp 2 (al ur (λK=>MR N K N) an) ln)
theorem Uh(N:aE):bZ aaG (TU N (R:=R)) (bT f155 2):=lq 2 ur (MR N) λK g=>nv.r2 N g (J ur .ret K) (J ur (.exit 0) K)
def Ii:=dP aiF akS nv.c nv.v
theorem L7:FO 155 Ii:=fq (E:=aaG) (aF ac2 aX) func155 (it:=λN=>TU N) (λN=>(bm (Uh N) bw)) nv.b nv.vo

def E89:=en [] []
def A89:Fn [.S, .I, .I, .S, .I, .S, .I, .I, .I, .S, .I] As:=λa b c d e f g h i j k=>[aV [.s a, .n b, .n c, .s d], .fb [.n e, .s f, .n g, .n h, .n i, .s j, .n k]]
def k89:Fn [.B] dq:=λa=>⟨[aB a],[]⟩
def ahy:=dP A89 k89 (ct _) XF.v
theorem amH:FO 89 ahy:=ft (E:=E89) aX func89 XF.b λ(a0,a1,a2,a3,a4,a5,a6,a7,a8,a9,a10,_)=>XF.eh _ a0 a1 a2 a3 a4 a5 a6 a7 a8 a9 a10

def aaH:=en [(89,ahy)] [(2,[0,1,4,7,8])]
def aiG:Fn [.R, .I, .S, .I, .I, .I, .S, .I] As:=λa b c d e f g h=>[aH 51 a, .v ak [.fn 89 [[.n b, .s c, .n d, .n e, .n f, .s g, .n h]]]]
def akT:Fn [.I] dq:=λa=>⟨[aI a],[]⟩
def uv:Fn [.R, .I, .S, .I, .I, .I, .S, .I, .I, .I, .I] Tb:=λa b c d e f g h i j k=>[cH 0 51 a,cA 2 (.fn 89 [[.n b, .s c, .n d, .n e, .n f, .s g, .n h]]),cI 8 i,cI 14 j,cI 16 k]
def MS(N:aE)(K:Kt R):=sB.l2 N (J uv .ret K) (J uv (.exit 0) K)
def TV(N:aE):It R:=(lp 2 (al uv (λK=>MS N K N) an) ln)
theorem Ui(N:aE):bZ aaH (TV N (R:=R)) (bT f155 2):=lq 2 uv (MS N) λK g=>sB.r2 N g (J uv .ret K) (J uv (.exit 0) K)
def Ij:=dP aiG akT sB.c sB.v
theorem L8:FO 155 Ij:=fq (E:=aaH) (aF amH aX) func155 (it:=λN=>TV N) (λN=>(bm (Ui N) bw)) sB.b sB.vo

def E62:=en [(125,Kv),(86,aap),(82,qw)] []
def A62:Fn [.S, .I, .I, .S, .I] As:=λa b c d e=>[aV [.s a, .n b, .n c, .s d],aI e]
def k62:Fn [.B] dq:=λa=>⟨[aB a],[]⟩
def Wj:=dP A62 k62 (ct _) Ef.v
theorem ZU:FO 62 Wj:=ft (E:=E62) (aF Oj (aF ag6 (aF qR aX))) func62 Ef.b λ(a0,a1,a2,a3,a4,_)=>Ef.eh _ a0 a1 a2 a3 a4

def aeX:=en [] [(2,[0,1,5]),(6,[0,1,5,19])]
def arl:Fn [.I, .S] As:=λa b=>[.v ak [.i .u32 a],aS b]
def awi:Fn [.I] dq:=λa=>⟨[.v ak [.i .u32 a]],[]⟩
def G3:Fn [.I, .S, .I] Tb:=λa b c=>[cA 0 (.i .u32 a),cA 2 (.s b),cI 10 c]
def G4:Fn [.I, .S, .I, .I] Tb:=λa b c d=>[cA 0 (.i .u32 a),cA 2 (.s b),cI 10 c,cI 38 d]
def Sz(N:aE)(K:Kt R):=xA.l2 N (J G3 (.exit 0) K)
def SA(N:aE)(K:Kt R):=xA.l6 N (J G4 (.exit 2) K)
def T6(N:aE):It R:=(lp 2 (al G3 (λK=>Sz N K N) an) (lp 6 (al G4 (λK=>SA N K N) an) ln))
theorem ZE(N:aE):bZ aeX (T6 N (R:=R)) (bT f270 2):=lq 2 G3 (Sz N) λK g=>xA.r2 N g (J G3 (.exit 0) K)
theorem ZF(N:aE):bZ aeX (T6 N (R:=R)) (bT f270 6):=lq 6 G4 (SA N) λK g=>xA.r6 N g (J G4 (.exit 2) K)
def aey:=dP arl awi xA.c xA.v
theorem amq:FO 270 aey:=fq (E:=aeX) aX func270 (it:=λN=>T6 N) (λN=>(bm (ZE N) (bm (ZF N) bw))) xA.b xA.vo

def asB:=en [(270,aey)] []
def aq4:Fn [.S] As:=λa=>[aS a]
def av3:Fn [.I] dq:=λa=>⟨[.v ak [.i .u32 a]],[]⟩
def Wa:=dP aq4 av3 vi.c vi.v
theorem ac9:FO 247 Wa:=fr (E:=asB) (aF amq aX) func247 vi.b vi.vo

def asq:=en [(247,Wa)] []
def aqJ:Fn [.I, .S] As:=λa b=>[aI a,aS b]
def avI:Fn [.I] dq:=λa=>⟨[aI a],[]⟩
def V8:=dP aqJ avI qJ.c qJ.v
theorem ac6:FO 225 V8:=fr (E:=asq) (aF ac9 aX) func225 qJ.b qJ.vo

def Xh:=en [(224,V7),(210,OI),(225,V8)] [(5,[1,4,5,19,20,21]),(15,[4,5,49,50,51]),(18,[4,5,10,49,50,51,56,57])]
def apY:Fn [.R, .I, .S] As:=λa b c=>[aV [.sh 26 a, .n b],aS c]
def auX:Fn [.R, .I] dq:=λa b=>⟨[aV [.ow 26 ai a, .n b]],[]⟩
def GC:Fn [.S, .I, .I, .I, .I, .R] Tb:=λa b c d e f=>[cA 2 (.s a),cP 8 0,cP 10 1,cA 38 (.own 2),cI 40 b,cI 42 c,oB 1 [.nl, .n d],oB 3 [.own 2, .n e],oR 5 26 f]
def Bp:Fn [.I, .I, .I, .I, .R] Tb:=λa b c d e=>[cP 8 0,cP 10 1,cA 98 (.own 2),cI 100 a,cI 102 b,oB 1 [.nl, .n c],oB 3 [.own 2, .n d],oR 5 26 e]
def Bq:Fn [.N, .I, .I, .I, .I, .I, .I, .R] Tb:=λa b c d e f g h=>[cP 8 0,cP 10 1,cA 20 (.inn 2 a 0),cA 98 (.own 2),cI 100 b,cI 102 c,cI 112 d,cI 114 e,oB 1 [.nl, .n f],oB 3 [.own 2, .n g],oR 5 26 h]
def RO(N:aE)(K:Kt R):=iJ.l5 N (J GC (.exit 0) K)
def MU(N:aE)(K:Kt R):=iJ.l15 N (J Bp (.exit 2) K)
def MV(N:aE)(K:Kt R):=iJ.l18 N (J Bq (.exit 4) K)
def N3(N:aE):It R:=(lp 5 (al GC (λK=>RO N K N) an) (lp 15 (al Bp (λK=>MU N K N) an) (lp 18 (al Bq (λK=>MV N K N) an) ln)))
theorem YZ(N:aE):bZ Xh (N3 N (R:=R)) (bT f164 5):=lq 5 GC (RO N) λK g=>iJ.r5 N g (J GC (.exit 0) K)
theorem Uj(N:aE):bZ Xh (N3 N (R:=R)) (bT f164 15):=lq 15 Bp (MU N) λK g=>iJ.r15 N g (J Bp (.exit 2) K)
theorem Uk(N:aE):bZ Xh (N3 N (R:=R)) (bT f164 18):=lq 18 Bq (MV N) λK g=>iJ.r18 N g (J Bq (.exit 4) K)
def VS:=dP apY auX iJ.c iJ.v
theorem acQ:FO 164 VS:=fq (E:=Xh) (aF ac5 (aF UN (aF ac6 aX))) func164 (it:=λN=>N3 N) (λN=>(bm (YZ N) (bm (Uj N) (bm (Uk N) bw)))) iJ.b iJ.vo

def asE:=en [] []
def aq9:Fn [.S, .S] As:=λa b=>[aS a, .fb [.s b]]
def av8:Fn [.B] dq:=λa=>⟨[aB a],[]⟩
def Wc:=dP aq9 av8 (ct _) Bc.v
theorem ada:FO 257 Wc:=ft (E:=asE) aX func257 Bc.b λ(a0,a1,_)=>Bc.eh _ a0 a1

def ajq:=en [(257,Wc)] [(2,[0,1,4,7,8])]
def arn:Fn [.R, .S] As:=λa b=>[aH 9 a, .v ak [.fn 257 [[.s b]]]]
def awj:Fn [.I] dq:=λa=>⟨[aI a],[]⟩
def zy:Fn [.R, .S, .I, .I, .I] Tb:=λa b c d e=>[cH 0 9 a,cA 2 (.fn 257 [[.s b]]),cI 8 c,cI 14 d,cI 16 e]
def SB(N:aE)(K:Kt R):=sP.l2 N (J zy .ret K) (J zy (.exit 0) K)
def acy(N:aE):It R:=(lp 2 (al zy (λK=>SB N K N) an) ln)
theorem ZG(N:aE):bZ ajq (acy N (R:=R)) (bT f272 2):=lq 2 zy (SB N) λK g=>sP.r2 N g (J zy .ret K) (J zy (.exit 0) K)
def aez:=dP arn awj sP.c sP.v
theorem amr:FO 272 aez:=fq (E:=ajq) (aF ada aX) func272 (it:=λN=>acy N) (λN=>(bm (ZG N) bw)) sP.b sP.vo

def ajn:=en [(272,aez),(257,Wc)] [(5,[0,1,5,6])]
def aq8:Fn [.R, .S] As:=λa b=>[aO 9 a, .v ak [.fn 257 [[.s b]]]]
def av7:Fn [.R] dq:=λa=>⟨[aO 9 a],[[.nl]]⟩
def G1:Fn [.S, .I, .I, .R] Tb:=λa b c d=>[cA 0 (.own 900000000),cA 2 (.fn 257 [[.s a]]),cI 10 b,cI 12 c,oR 1800000001 9 d]
def Sw(N:aE)(K:Kt R):=w_.l5 N (J G1 (.exit 0) K)
def acv(N:aE):It R:=(lp 5 (al G1 (λK=>Sw N K N) an) ln)
theorem ZB(N:aE):bZ ajn (acv N (R:=R)) (bT f256 5):=lq 5 G1 (Sw N) λK g=>w_.r5 N g (J G1 (.exit 0) K)
def aep:=dP aq8 av7 w_.c w_.v
theorem amh:FO 256 aep:=fq (E:=ajn) (aF amr (aF ada aX)) func256 (it:=λN=>acv N) (λN=>(bm (ZB N) bw)) w_.b w_.vo

def asm:=en [(255,Wb),(256,aep)] []
def aqy:Fn [.R, .S] As:=λa b=>[aH 9 a,aS b]
def avx:Fn [.R] dq:=λa=>⟨[aO 9 a],[]⟩
def V2:=dP aqy avx kh.c kh.v
theorem ac0:FO 213 V2:=fr (E:=asm) (aF ac_ (aF amh aX)) func213 kh.b kh.vo

def ajc:=en [(210,OI),(225,V8)] [(5,[1,5,12,13,14])]
def aqz:Fn [.R, .I, .S] As:=λa b c=>[aV [.sh 26 a, .n b],aS c]
def avy:Fn [.I] dq:=λa=>⟨[aI a],[]⟩
def GO:Fn [.S, .I, .R, .I, .I] Tb:=λa b c d e=>[cA 2 (.s a),cI 10 b,cH 24 26 c,cI 26 d,cI 28 e]
def R7(N:aE)(K:Kt R):=v9.l5 N (J GO (.exit 0) K)
def aci(N:aE):It R:=(lp 5 (al GO (λK=>R7 N K N) an) ln)
theorem Zg(N:aE):bZ ajc (aci N (R:=R)) (bT f214 5):=lq 5 GO (R7 N) λK g=>v9.r5 N g (J GO (.exit 0) K)
def ad6:=dP aqz avy v9.c v9.v
theorem alY:FO 214 ad6:=fq (E:=ajc) (aF UN (aF ac6 aX)) func214 (it:=λN=>aci N) (λN=>(bm (Zg N) bw)) v9.b v9.vo

def arP:=en [(212,OJ),(146,VN),(148,Dz),(164,VS),(209,OH),(213,V2),(214,ad6)] []
def apI:Fn [.R, .R, .R, .I, .S] As:=λa b c d e=>[aV [.sh 9 a, .sh 9 b, .sh 26 c, .n d],aS e]
def auJ:Fn [.R, .R, .R, .I, .S] dq:=λa b c d e=>⟨[aV [.ow 9 ai a, .ow 9 ai b, .ow 26 ai c, .n d],aS e],[]⟩
def VO:=dP apI auJ zE.c zE.v
theorem acM:FO 149 VO:=fr (E:=arP) (aF UO (aF acL (aF FP (aF acQ (aF UM (aF ac0 (aF alY aX))))))) func149 zE.b zE.vo

def ahi:QP:=⟨λn=>bif bF n 22 then 223 else bif bF n 29 then 259 else 260,λn=>bif bF n 24 then 38 else bif bF n 9 then 72 else bif bF n 3 then 3 else bif bF n 4 then 4 else n,λn=>n⟩
def ad_:az fa->aA (aU×dq):=Ins.xV 72 72
theorem af9:Ins.L Tryz.prog ahi "slices.Insert[[]loop.example/g00245/impl.Client,loop.example/g00245/impl.Client]" 7 where
 mixed:=hM
 f22:=func223.trans (by kernel_rfl)
 t3:=by kernel_rfl
 a3:=Ins.lx (P:=Tryz.prog) (t:=3) (d:= .int .i64) (by kernel_rfl) rfl
 t4:=by kernel_rfl
 a4:=Ins.lx (P:=Tryz.prog) (t:=4) (d:= .bool) (by kernel_rfl) rfl
 t24:=by kernel_rfl
 a24:=Ins.lx (P:=Tryz.prog) (t:=38) (d:= .slice 72) (by kernel_rfl) rfl
 z9:=Ins.Ic hE (t:=72) (ti:=⟨ai,[.i .i64, .s, .i .i64, .i .i64, .i .i64, .s, .i .i64],72⟩) (by kernel_rfl)
theorem al2:FO 223 ad_:=
 Ins.zO (e:=72) (te:=⟨ai,[.i .i64, .s, .i .i64, .i .i64, .i .i64, .s, .i .i64],72⟩) (by kernel_rfl) rfl (by kernel_rfl) hE af9
  (λargs w=>run_callFunc_extern (e:=fG #[38,38] #[4]) func259 (by kernel_rfl) (by kernel_rfl) (by kernel_rfl) (by kernel_rfl) args w)
  ⟨_,func223,by kernel_rfl,by kernel_rfl⟩

def ai2:=en [(223,ad_)] [(2,[0,3,4])]
def apW:Fn [.I, .R, .R, .R, .R, .I, .R, .R, .I, .I, .S, .I, .I, .I, .S, .I] As:=λa b c d e f g h i j k l m o p q=>[.pt [.n a, .ow 51 ai b, .ow 9 ai c, .ow 9 ai d, .ow 26 ai e, .n f, .ow 75 ai g, .ow 72 ai h, .n i],aV [.n j, .s k, .n l, .n m, .n o, .s p, .n q]]
def auV:Fn [.I, .R, .R, .R, .R, .I, .R, .R, .I] dq:=λa b c d e f g h i=>⟨[],[[.n a, .kp b, .kp c, .kp d, .kp e, .n f, .kp g, .ow 72 ai h, .n i]]⟩
def GA:Fn [.I, .I, .I, .I, .I, .S, .I, .I, .I, .S, .I, .R, .R, .R, .R, .R, .R] Tb:=λa b c d e f g h i j k l m o p q r=>[cP 0 900000900,cP 6 1,cI 8 a,oB 1800001801 [.n b, .own 900000001, .own 900000002, .own 900000003, .own 900000004, .n c, .own 900000006, .own 900000007, .n d],oB 3 [.n e, .s f, .n g, .n h, .n i, .s j, .n k],oR 1800000003 51 l,oR 1800000005 9 m,oR 1800000007 9 o,oR 1800000009 26 p,oR 1800000013 75 q,oR 1800000015 72 r]
def RN(N:aE)(K:Kt R):=jo.l2 N (J GA (.exit 0) K)
def ab7(N:aE):It R:=(lp 2 (al GA (λK=>RN N K N) an) ln)
theorem YY(N:aE):bZ ai2 (ab7 N (R:=R)) (bT f162 2):=lq 2 GA (RN N) λK g=>jo.r2 N g (J GA (.exit 0) K)
def adI:=dP apW auV jo.c jo.v
theorem alz:FO 162 adI:=fq (E:=ai2) (aF al2 aX) func162 (it:=λN=>ab7 N) (λN=>(bm (YY N) bw)) jo.b jo.vo

def ajd:=en [(155,Ih),(155,Ii),(155,Ij),(217,V4)] [(5,[0,1,5,6])]
def aqA:Fn [.R, .S] As:=λa b=>[aO 51 a, .v ak [.fn 217 [[.s b]]]]
def avz:Fn [.R] dq:=λa=>⟨[aO 51 a],[[.nl]]⟩
def GP:Fn [.S, .I, .I, .R] Tb:=λa b c d=>[cA 0 (.own 900000000),cA 2 (.fn 217 [[.s a]]),cI 10 b,cI 12 c,oR 1800000001 51 d]
def R8(N:aE)(K:Kt R):=pf.l5 N (J GP (.exit 0) K)
def acj(N:aE):It R:=(lp 5 (al GP (λK=>R8 N K N) an) ln)
theorem Zh(N:aE):bZ ajd (acj N (R:=R)) (bT f215 5):=lq 5 GP (R8 N) λK g=>pf.r5 N g (J GP (.exit 0) K)
def ad7:=dP aqA avz pf.c pf.v
theorem alZ:FO 215 ad7:=fq (E:=ajd) (aF L6 (aF L7 (aF L8 (aF ac2 aX)))) func215 (it:=λN=>acj N) (λN=>(bm (Zh N) bw)) pf.b pf.vo

def arQ:=en [(216,V3),(215,ad7)] []
def apJ:Fn [.R, .S] As:=λa b=>[aH 51 a,aS b]
def auK:Fn [.R] dq:=λa=>⟨[aO 51 a],[]⟩
def OC:=dP apJ auK pP.c pP.v
theorem UG:FO 150 OC:=fr (E:=arQ) (aF ac1 (aF alZ aX)) func150 pP.b pP.vo

def arZ:=en [(212,OJ),(213,V2)] []
def apX:Fn [.R, .R, .R, .I, .S] As:=λa b c d e=>[aV [.sh 9 a, .sh 9 b, .sh 26 c, .n d],aS e]
def auW:Fn [.R, .R, .R, .I] dq:=λa b c d=>⟨[aV [.ow 9 ai a, .ow 9 ai b, .ow 26 ai c, .n d]],[]⟩
def adJ:=dP apX auW va.c va.v
theorem alA:FO 163 adJ:=fr (E:=arZ) (aF UO (aF ac0 aX)) func163 va.b va.vo

def E96:=en [(160,DA),(30,aam),(82,qw),(148,Dz),(101,VG),(155,Ih),(155,Ii),(155,Ij),(62,Wj),(149,VO),(162,adI),(92,ahz),(150,OC),(163,adJ),(164,VS)] []
def A96:Fn [.I, .R, .R, .R, .R, .I, .R, .R, .I, .I, .S] As:=λa b c d e f g h i j k=>[aV [.n a, .sh 51 b, .sh 9 c, .sh 9 d, .sh 26 e, .n f, .sh 75 g, .sh 72 h, .n i],aI j,aS k]
def k96:Fn [.I, .R, .R, .R, .R, .I, .R, .R, .I, .I] dq:=λa b c d e f g h i j=>⟨[aV [.n a, .ow 51 ai b, .ow 9 ai c, .ow 9 ai d, .ow 26 ai e, .n f, .ow 75 ai g, .ow 72 ai h, .n i],aI j],[]⟩
def anC:=dP A96 k96 SN.c SN.v
theorem axa:FO 96 anC:=fr (E:=E96) (aF FQ (aF ag3 (aF qR (aF FP (aF acF (aF L6 (aF L7 (aF L8 (aF ZU (aF acM (aF alz (aF amI (aF UG (aF alA (aF acQ aX))))))))))))))) func96 SN.b SN.vo

def ar0:=en [(30,aam),(82,qw)] []
def apZ:Fn [.I, .R, .R, .R, .R, .I, .R, .R, .I, .I] As:=λa b c d e f g h i j=>[aV [.n a, .sh 51 b, .sh 9 c, .sh 9 d, .sh 26 e, .n f, .sh 75 g, .sh 72 h, .n i],aI j]
def auY:Fn [.B] dq:=λa=>⟨[aB a],[]⟩
def OD:=dP apZ auY vd.c vd.v
theorem UH:FO 165 OD:=fr (E:=ar0) (aF ag3 (aF qR aX)) func165 vd.b vd.vo

def asr:=en [] []
def aqK:Fn [.I, .S, .R] As:=λa b c=>[aV [.n a, .s b, .sh 237 c]]
def avJ:Fn [.I, .S, .R] dq:=λa b c=>⟨[aV [.n a, .s b, .ow 237 ai c]],[]⟩
def aea:=dP aqK avJ K3.c K3.v
theorem al3:FO 226 aea:=fh (E:=asr) aX func226 (it:=λ_=>ln) (λ_=>bw) (λ_=>K3.b) λx f h=>⟨0,K3.eh _ x.1 x.2.1 x.2.2.1 h⟩

def ajh:=en [(82,qw)] [(2,[1,2,6,7,8])]
def aqL:Fn [.I, .S, .R] As:=λa b c=>[aV [.n a, .s b, .sh 237 c]]
def avK:Fn [.B] dq:=λa=>⟨[aB a],[]⟩
def zr:Fn [.B, .R, .I, .I, .I, .S, .R] Tb:=λa b c d e f g=>[cP 2 0,cA 4 (.b a),cH 12 237 b,cI 14 c,cI 16 d,oB 1 [.n e, .s f, .sh 237 g]]
def Sf(N:aE)(K:Kt R):=IY.l2 N (J zr .ret K) (J zr (.exit 0) K)
def aco(N:aE):It R:=(lp 2 (al zr (λK=>Sf N K N) an) ln)
theorem Zn(N:aE):bZ ajh (aco N (R:=R)) (bT f227 2):=lq 2 zr (Sf N) λK g=>IY.r2 N g (J zr .ret K) (J zr (.exit 0) K)
def aeb:=dP aqL avK (ct _) IY.v
theorem al4:FO 227 aeb:=fh (E:=ajh) (aF qR aX) func227 (it:=λN=>aco N) (λN=>(bm (Zn N) bw)) IY.b λx f h=>IY.eh _ x.1 x.2.1 x.2.2.1 f.1.2.1 f.1.2.2.1

def ar1:=en [(226,aea),(227,aeb),(82,qw)] []
def ap0:Fn [.I, .S, .R, .S] As:=λa b c d=>[aV [.n a, .s b, .sh 237 c],aS d]
def auZ:Fn [.I, .S, .R, .B] dq:=λa b c d=>⟨[aV [.n a, .s b, .ow 237 ai c],aB d],[]⟩
def adK:=dP ap0 auZ D4.c D4.v
theorem alB:FO 166 adK:=fh (E:=ar1) (aF al3 (aF al4 (aF qR aX))) func166 (it:=λ_=>ln) (λ_=>bw) (λ_=>D4.b) λx f h=>⟨0,D4.eh _ x.1 x.2.1 x.2.2.1 x.2.2.2.1 h f.1.2.1 f.1.2.2.1 f.2.1.1⟩

def ai3:=en [] [(1,[0,1,9,10,11])]
def ap1:Fn [.I, .R, .R, .R, .R, .I, .R, .R, .I, .I] As:=λa b c d e f g h i j=>[.pt [.n a, .ow 51 ai b, .ow 9 ai c, .ow 9 ai d, .ow 26 ai e, .n f, .ow 75 ai g, .ow 72 ai h, .n i],aI j]
def au0:Fn [.I, .R, .R, .R, .R, .I, .R, .R, .I] dq:=λa b c d e f g h i=>⟨[],[[.n a, .kp b, .kp c, .kp d, .kp e, .n f, .kp g, .kp h, .n i]]⟩
def GD:Fn [.I, .I, .I, .I, .I, .I, .R, .R, .R, .R, .R, .R] Tb:=λa b c d e f g h i j k l=>[cP 0 900000900,cI 2 a,cA 18 (.own 900000007),cI 20 b,cI 22 c,oB 1800001801 [.n d, .own 900000001, .own 900000002, .own 900000003, .own 900000004, .n e, .own 900000006, .own 900000007, .n f],oR 1800000015 72 g,oR 1800000003 51 h,oR 1800000005 9 i,oR 1800000007 9 j,oR 1800000009 26 k,oR 1800000013 75 l]
def RP(N:aE)(K:Kt R):=A3.l1 N (J GD (.exit 0) K)
def ab8(N:aE):It R:=(lp 1 (al GD (λK=>RP N K N) an) ln)
theorem Y0(N:aE):bZ ai3 (ab8 N (R:=R)) (bT f167 1):=lq 1 GD (RP N) λK g=>A3.r1 N g (J GD (.exit 0) K)
def adL:=dP ap1 au0 A3.c A3.v
theorem alC:FO 167 adL:=fq (E:=ai3) aX func167 (it:=λN=>ab8 N) (λN=>(bm (Y0 N) bw)) A3.b A3.vo

def E97:=en [(160,DA),(165,OD),(166,adK),(167,adL)] []
def A97:Fn [.I, .R, .R, .R, .R, .I, .R, .R, .I, .I, .S] As:=λa b c d e f g h i j k=>[aV [.n a, .sh 51 b, .sh 9 c, .sh 9 d, .sh 26 e, .n f, .sh 75 g, .sh 72 h, .n i],aI j,aS k]
def k97:Fn [.I, .R, .R, .R, .R, .I, .R, .R, .I, .B] dq:=λa b c d e f g h i j=>⟨[aV [.n a, .ow 51 ai b, .ow 9 ai c, .ow 9 ai d, .ow 26 ai e, .n f, .ow 75 ai g, .ow 72 ai h, .n i],aB j],[]⟩
def anD:=dP A97 k97 WX.c WX.v
theorem axb:FO 97 anD:=fr (E:=E97) (aF FQ (aF UH (aF alB (aF alC aX)))) func97 WX.b WX.vo

def ai5:=en [] [(1,[0,1,2,11,12,13])]
def ap5:Fn [.I, .R, .R, .R, .R, .I, .R, .R, .I, .I, .I] As:=λa b c d e f g h i j k=>[.pt [.n a, .ow 51 ai b, .ow 9 ai c, .ow 9 ai d, .ow 26 ai e, .n f, .ow 75 ai g, .ow 72 ai h, .n i],aI j,aI k]
def au4:Fn [.I, .R, .R, .R, .R, .I, .R, .R, .I] dq:=λa b c d e f g h i=>⟨[],[[.n a, .kp b, .kp c, .kp d, .kp e, .n f, .kp g, .kp h, .n i]]⟩
def GH:Fn [.I, .I, .I, .I, .I, .I, .I, .R, .R, .R, .R, .R, .R] Tb:=λa b c d e f g h i j k l m=>[cP 0 900000900,cI 2 a,cI 4 b,cA 22 (.own 900000007),cI 24 c,cI 26 d,oB 1800001801 [.n e, .own 900000001, .own 900000002, .own 900000003, .own 900000004, .n f, .own 900000006, .own 900000007, .n g],oR 1800000015 72 h,oR 1800000003 51 i,oR 1800000005 9 j,oR 1800000007 9 k,oR 1800000009 26 l,oR 1800000013 75 m]
def RS(N:aE)(K:Kt R):=v7.l1 N (J GH (.exit 0) K)
def ab_(N:aE):It R:=(lp 1 (al GH (λK=>RS N K N) an) ln)
theorem Y3(N:aE):bZ ai5 (ab_ N (R:=R)) (bT f171 1):=lq 1 GH (RS N) λK g=>v7.r1 N g (J GH (.exit 0) K)
def VU:=dP ap5 au4 v7.c v7.v
theorem acS:FO 171 VU:=fq (E:=ai5) aX func171 (it:=λN=>ab_ N) (λN=>(bm (Y3 N) bw)) v7.b v7.vo

def ahh:QP:=⟨λn=>bif bF n 22 then 198 else bif bF n 29 then 248 else 249,λn=>bif bF n 24 then 30 else bif bF n 9 then 51 else bif bF n 3 then 3 else bif bF n 4 then 4 else n,λn=>n⟩
def ad4:az fa->aA (aU×dq):=Ins.xV 51 48
theorem af8:Ins.L Tryz.prog ahh "slices.Insert[[]loop.example/g00245/impl.Entry,loop.example/g00245/impl.Entry]" 4 where
 mixed:=hM
 f22:=func198.trans (by kernel_rfl)
 t3:=by kernel_rfl
 a3:=Ins.lx (P:=Tryz.prog) (t:=3) (d:= .int .i64) (by kernel_rfl) rfl
 t4:=by kernel_rfl
 a4:=Ins.lx (P:=Tryz.prog) (t:=4) (d:= .bool) (by kernel_rfl) rfl
 t24:=by kernel_rfl
 a24:=Ins.lx (P:=Tryz.prog) (t:=30) (d:= .slice 51) (by kernel_rfl) rfl
 z9:=Ins.Ic hE (t:=51) (ti:=⟨ai,[.s, .i .i64, .i .i64, .s],48⟩) (by kernel_rfl)
theorem alW:FO 198 ad4:=
 Ins.zO (e:=51) (te:=⟨ai,[.s, .i .i64, .i .i64, .s],48⟩) (by kernel_rfl) rfl (by kernel_rfl) hE af8
  (λargs w=>run_callFunc_extern (e:=fG #[30,30] #[4]) func248 (by kernel_rfl) (by kernel_rfl) (by kernel_rfl) (by kernel_rfl) args w)
  ⟨_,func198,by kernel_rfl,by kernel_rfl⟩

def aiX:=en [(150,OC),(198,ad4)] [(3,[3,5,6])]
def apA:Fn [.R, .S, .I, .I, .S] As:=λa b c d e=>[aH 51 a,aV [.s b, .n c, .n d, .s e]]
def auB:Fn [.R] dq:=λa=>⟨[aO 51 a],[]⟩
def Gy:Fn [.I, .S, .I, .I, .S, .R] Tb:=λa b c d e f=>[cP 6 0,cA 10 (.own 1),cI 12 a,oB 1 [.s b, .n c, .n d, .s e],oR 3 51 f]
def RG(N:aE)(K:Kt R):=u9.l3 N (J Gy (.exit 0) K)
def ab2(N:aE):It R:=(lp 3 (al Gy (λK=>RG N K N) an) ln)
theorem YS(N:aE):bZ aiX (ab2 N (R:=R)) (bT f124 3):=lq 3 Gy (RG N) λK g=>u9.r3 N g (J Gy (.exit 0) K)
def VK:=dP apA auB u9.c u9.v
theorem acJ:FO 124 VK:=fq (E:=aiX) (aF UG (aF alW aX)) func124 (it:=λN=>ab2 N) (λN=>(bm (YS N) bw)) u9.b u9.vo

def E87:=en [(149,VO),(150,OC),(145,OA),(124,VK)] []
def A87:Fn [.I, .R, .R, .R, .R, .I, .R, .R, .I, .S, .I, .I, .S] As:=λa b c d e f g h i j k l m=>[.pt [.n a, .ow 51 ai b, .ow 9 ai c, .ow 9 ai d, .ow 26 ai e, .n f, .ow 75 ai g, .ow 72 ai h, .n i],aV [.s j, .n k, .n l, .s m]]
def k87:Fn [.I, .R, .R, .R, .R, .I, .R, .R, .I] dq:=λa b c d e f g h i=>⟨[],[[.n a, .ow 51 ai b, .ow 9 ai c, .ow 9 ai d, .ow 26 ai e, .n f, .kp g, .kp h, .n i]]⟩
def ahw:=dP A87 k87 Pm.c Pm.v
theorem amF:FO 87 ahw:=fr (E:=E87) (aF acM (aF UG (aF UE (aF acJ aX)))) func87 Pm.b Pm.vo

def ar2:=en [(160,DA),(165,OD),(82,qw),(171,VU),(87,ahw)] []
def ap2:Fn [.I, .R, .R, .R, .R, .I, .R, .R, .I, .I, .I] As:=λa b c d e f g h i j k=>[aV [.n a, .sh 51 b, .sh 9 c, .sh 9 d, .sh 26 e, .n f, .sh 75 g, .sh 72 h, .n i],aI j,aI k]
def au1:Fn [.I, .R, .R, .R, .R, .I, .R, .R, .I, .B] dq:=λa b c d e f g h i j=>⟨[aV [.n a, .ow 51 ai b, .ow 9 ai c, .ow 9 ai d, .ow 26 ai e, .n f, .ow 75 ai g, .ow 72 ai h, .n i],aB j],[]⟩
def adM:=dP ap2 au1 D5.c D5.v
theorem alD:FO 168 adM:=fr (E:=ar2) (aF FQ (aF UH (aF qR (aF acS (aF amF aX))))) func168 D5.b D5.vo

def ajr:=en [(82,qw)] [(4,[0,4])]
def arp:Fn [.I] As:=λa=>[aI a]
def awl:Fn [.S, .B] dq:=λa b=>⟨[aS a,aB b],[]⟩
def G5:Fn [.I, .R] Tb:=λa b=>[cI 0 a,cA 8 (.own 0),oR 1 5 b]
def SC(N:aE)(K:Kt R):=nV.l4 N (J G5 (.exit 0) K)
def acz(N:aE):It R:=(lp 4 (al G5 (λK=>SC N K N) an) ln)
theorem ZH(N:aE):bZ ajr (acz N (R:=R)) (bT f275 4):=lq 4 G5 (SC N) λK g=>nV.r4 N g (J G5 (.exit 0) K)
def OR:=dP arp awl (ct _) nV.v
theorem UY:FO 275 OR:=fh (E:=ajr) (aF qR aX) func275 (it:=λN=>acz N) (λN=>(bm (ZH N) bw)) nV.b λx f h=>nV.eh _ x.1

def asN:=en [(275,OR)] []
def aro:Fn [.S] As:=λa=>[aS a]
def awk:Fn [.S, .B] dq:=λa b=>⟨[aS a,aB b],[]⟩
def aeA:=dP aro awk (ct _) Ee.v
theorem ams:FO 274 aeA:=fh (E:=asN) (aF UY aX) func274 (it:=λ_=>ln) (λ_=>bw) (λ_=>Ee.b) λx f h=>⟨0,Ee.eh _ x.1⟩

def asH:=en [(125,Kv),(274,aeA),(275,OR)] []
def arb:Fn [.S, .I, .I, .S] As:=λa b c d=>[aV [.s a, .n b, .n c, .s d]]
def awa:Fn [.S, .B] dq:=λa b=>⟨[aS a,aB b],[]⟩
def aer:=dP arb awa (ct _) Ed.v
theorem amj:FO 262 aer:=fh (E:=asH) (aF Oj (aF ams (aF UY aX))) func262 (it:=λ_=>ln) (λ_=>bw) (λ_=>Ed.b) λx f h=>⟨0,Ed.eh _ x.1 x.2.1 x.2.2.1 x.2.2.2.1⟩

def ash:=en [(247,Wa)] []
def aqs:Fn [.S] As:=λa=>[aS a]
def avr:Fn [.S] dq:=λa=>⟨[aS a],[]⟩
def V1:=dP aqs avr vf.c vf.v
theorem acZ:FO 196 V1:=fr (E:=ash) (aF ac9 aX) func196 vf.b vf.vo

def asI:=en [(82,qw),(275,OR),(196,V1)] []
def arc:Fn [.S] As:=λa=>[aS a]
def awb:Fn [.S, .B] dq:=λa b=>⟨[aS a,aB b],[]⟩
def aes:=dP arc awb Cg.c Cg.v
theorem amk:FO 263 aes:=fr (E:=asI) (aF qR (aF UY (aF acZ aX))) func263 Cg.b Cg.vo

def ass:=en [(262,aer),(263,aes)] []
def aqM:Fn [.S, .I, .I, .S] As:=λa b c d=>[aV [.s a, .n b, .n c, .s d]]
def avL:Fn [.S, .B] dq:=λa b=>⟨[aS a,aB b],[]⟩
def V9:=dP aqM avL mZ.c mZ.v
theorem ac7:FO 228 V9:=fr (E:=ass) (aF amj (aF amk aX)) func228 mZ.b mZ.vo

def ar3:=en [(228,V9)] []
def ap3:Fn [.S, .I, .I, .S] As:=λa b c d=>[aV [.s a, .n b, .n c, .s d]]
def au2:Fn [.R, .B] dq:=λa b=>⟨[aO 218 a,aB b],[]⟩
def adN:=dP ap3 au2 ve.c ve.v
theorem alE:FO 169 adN:=fr (E:=ar3) (aF ac7 aX) func169 ve.b ve.vo

def ast:=en [] []
def aqN:Fn [.R] As:=λa=>[aV [.sh 94 a]]
def avM:Fn [.R] dq:=λa=>⟨[aV [.ow 94 ai a]],[]⟩
def OM:=dP aqN avM tq.c tq.v
theorem UQ:FO 229 OM:=fr (E:=ast) aX func229 tq.b tq.vo

def asA:=en [] []
def aq3:Fn [.S, .S, .I, .S] As:=λa b c d=>[aV [.s a, .s b, .n c], .fb [.s d]]
def av2:Fn [.B] dq:=λa=>⟨[aB a],[]⟩
def aem:=dP aq3 av2 (ct _) K4.v
theorem ame:FO 246 aem:=ft (E:=asA) aX func246 K4.b λ(a0,a1,a2,a3,_)=>K4.eh _ a0 a1 a2 a3

def aaK:=en [(246,aem)] [(2,[0,1,4,7,8])]
def aiJ:Fn [.R, .S] As:=λa b=>[aH 94 a, .v ak [.fn 246 [[.s b]]]]
def akW:Fn [.I] dq:=λa=>⟨[aI a],[]⟩
def uA:Fn [.R, .S, .I, .I, .I] Tb:=λa b c d e=>[cH 0 94 a,cA 2 (.fn 246 [[.s b]]),cI 8 c,cI 14 d,cI 16 e]
def M8(N:aE)(K:Kt R):=sC.l2 N (J uA .ret K) (J uA (.exit 0) K)
def T4(N:aE):It R:=(lp 2 (al uA (λK=>M8 N K N) an) ln)
theorem Ur(N:aE):bZ aaK (T4 N (R:=R)) (bT f245 2):=lq 2 uA (M8 N) λK g=>sC.r2 N g (J uA .ret K) (J uA (.exit 0) K)
def Mt:=dP aiJ akW sC.c sC.v
theorem UW:FO 245 Mt:=fq (E:=aaK) (aF ame aX) func245 (it:=λN=>T4 N) (λN=>(bm (Ur N) bw)) sC.b sC.vo

def asO:=en [] []
def ars:Fn [.S, .S, .I, .S] As:=λa b c d=>[aV [.s a, .s b, .n c], .fb [.s d]]
def awn:Fn [.B] dq:=λa=>⟨[aB a],[]⟩
def Wg:=dP ars awn (ct _) Bd.v
theorem adf:FO 278 Wg:=ft (E:=asO) aX func278 Bd.b λ(a0,a1,a2,a3,_)=>Bd.eh _ a0 a1 a2 a3

def aaL:=en [(278,Wg)] [(2,[0,1,4,7,8])]
def aiK:Fn [.R, .S] As:=λa b=>[aH 94 a, .v ak [.fn 278 [[.s b]]]]
def akX:Fn [.I] dq:=λa=>⟨[aI a],[]⟩
def uB:Fn [.R, .S, .I, .I, .I] Tb:=λa b c d e=>[cH 0 94 a,cA 2 (.fn 278 [[.s b]]),cI 8 c,cI 14 d,cI 16 e]
def M9(N:aE)(K:Kt R):=nz.l2 N (J uB .ret K) (J uB (.exit 0) K)
def T5(N:aE):It R:=(lp 2 (al uB (λK=>M9 N K N) an) ln)
theorem Us(N:aE):bZ aaL (T5 N (R:=R)) (bT f245 2):=lq 2 uB (M9 N) λK g=>nz.r2 N g (J uB .ret K) (J uB (.exit 0) K)
def Mu:=dP aiK akX nz.c nz.v
theorem UX:FO 245 Mu:=fq (E:=aaL) (aF adf aX) func245 (it:=λN=>T5 N) (λN=>(bm (Us N) bw)) nz.b nz.vo

def asg:=en [(245,Mt),(245,Mu)] []
def aqq:Fn [.R, .S] As:=λa b=>[aV [.sh 94 a],aS b]
def avp:Fn [.I] dq:=λa=>⟨[aI a],[]⟩
def V0:=dP aqq avp ik.c ik.v
theorem acY:FO 194 V0:=fr (E:=asg) (aF UW (aF UX aX)) func194 ik.b ik.vo

def aiV:=en [(82,qw)] [(2,[1,2,6,7,8])]
def apw:Fn [.R] As:=λa=>[aV [.sh 94 a]]
def auw:Fn [.B] dq:=λa=>⟨[aB a],[]⟩
def zh:Fn [.B, .R, .I, .I, .R] Tb:=λa b c d e=>[cP 2 0,cA 4 (.b a),cH 12 94 b,cI 14 c,cI 16 d,oB 1 [.sh 94 e]]
def RE(N:aE)(K:Kt R):=kg.l2 N (J zh .ret K) (J zh (.exit 0) K)
def ab0(N:aE):It R:=(lp 2 (al zh (λK=>RE N K N) an) ln)
theorem YQ(N:aE):bZ aiV (ab0 N (R:=R)) (bT f120 2):=lq 2 zh (RE N) λK g=>kg.r2 N g (J zh .ret K) (J zh (.exit 0) K)
def Ku:=dP apw auw kg.c kg.v
theorem Oi:FO 120 Ku:=fq (E:=aiV) (aF qR aX) func120 (it:=λN=>ab0 N) (λN=>(bm (YQ N) bw)) kg.b kg.vo

def asJ:=en [(82,qw)] []
def ard:Fn [.I, .S, .S, .S] As:=λa b c d=>[aV [.n a, .s b, .s c, .s d]]
def awc:Fn [.B] dq:=λa=>⟨[aB a],[]⟩
def aet:=dP ard awc (ct _) K5.v
theorem aml:FO 264 aet:=ft (E:=asJ) (aF qR aX) func264 K5.b λ(a0,a1,a2,a3,_)=>K5.eh _ a0 a1 a2 a3

def ajs:=en [(245,Mt),(245,Mu),(278,Wg)] [(5,[0,1,5,6])]
def arq:Fn [.R, .S] As:=λa b=>[aO 94 a, .v ak [.fn 278 [[.s b]]]]
def awm:Fn [.R] dq:=λa=>⟨[aO 94 a],[[.nl]]⟩
def G6:Fn [.S, .I, .I, .R] Tb:=λa b c d=>[cA 0 (.own 900000000),cA 2 (.fn 278 [[.s a]]),cI 10 b,cI 12 c,oR 1800000001 94 d]
def SD(N:aE)(K:Kt R):=xB.l5 N (J G6 (.exit 0) K)
def acA(N:aE):It R:=(lp 5 (al G6 (λK=>SD N K N) an) ln)
theorem ZI(N:aE):bZ ajs (acA N (R:=R)) (bT f277 5):=lq 5 G6 (SD N) λK g=>xB.r5 N g (J G6 (.exit 0) K)
def aeC:=dP arq awm xB.c xB.v
theorem amu:FO 277 aeC:=fq (E:=ajs) (aF UW (aF UX (aF adf aX))) func277 (it:=λN=>acA N) (λN=>(bm (ZI N) bw)) xB.b xB.vo

def asK:=en [(229,OM),(277,aeC)] []
def arh:Fn [.R, .S] As:=λa b=>[aV [.sh 94 a],aS b]
def awe:Fn [.R] dq:=λa=>⟨[aV [.ow 94 ai a]],[]⟩
def Wf:=dP arh awe m7.c m7.v
theorem ade:FO 266 Wf:=fr (E:=asK) (aF UQ (aF amu aX)) func266 m7.b m7.vo

def ahj:QP:=⟨λn=>bif bF n 22 then 276 else bif bF n 29 then 283 else 284,λn=>bif bF n 24 then 41 else bif bF n 9 then 94 else bif bF n 3 then 3 else bif bF n 4 then 4 else n,λn=>n⟩
def aeB:az fa->aA (aU×dq):=Ins.xV 94 40
theorem af_:Ins.L Tryz.prog ahj "slices.Insert[[]loop.example/g00245/impl.File,loop.example/g00245/impl.File]" 3 where
 mixed:=hM
 f22:=func276.trans (by kernel_rfl)
 t3:=by kernel_rfl
 a3:=Ins.lx (P:=Tryz.prog) (t:=3) (d:= .int .i64) (by kernel_rfl) rfl
 t4:=by kernel_rfl
 a4:=Ins.lx (P:=Tryz.prog) (t:=4) (d:= .bool) (by kernel_rfl) rfl
 t24:=by kernel_rfl
 a24:=Ins.lx (P:=Tryz.prog) (t:=41) (d:= .slice 94) (by kernel_rfl) rfl
 z9:=Ins.Ic hE (t:=94) (ti:=⟨ai,[.s, .s, .i .i64],40⟩) (by kernel_rfl)
theorem amt:FO 276 aeB:=
 Ins.zO (e:=94) (te:=⟨ai,[.s, .s, .i .i64],40⟩) (by kernel_rfl) rfl (by kernel_rfl) hE af_
  (λargs w=>run_callFunc_extern (e:=fG #[41,41] #[4]) func283 (by kernel_rfl) (by kernel_rfl) (by kernel_rfl) (by kernel_rfl) args w)
  ⟨_,func276,by kernel_rfl,by kernel_rfl⟩

def ajo:=en [(266,Wf),(276,aeB)] [(3,[3,4,5,6])]
def arf:Fn [.R, .S, .S, .I] As:=λa b c d=>[aV [.sh 94 a],aV [.s b, .s c, .n d]]
def awd:Fn [.R] dq:=λa=>⟨[aV [.ow 94 ai a]],[]⟩
def G2:Fn [.I, .S, .S, .I, .R] Tb:=λa b c d e=>[cP 6 0,cP 8 1,cP 10 2,cI 12 a,oB 1 [.s b, .s c, .n d],oB 3 [.nl],oB 5 [.own 3],oR 7 94 e]
def Sx(N:aE)(K:Kt R):=lr.l3 N (J G2 (.exit 0) K)
def acw(N:aE):It R:=(lp 3 (al G2 (λK=>Sx N K N) an) ln)
theorem ZC(N:aE):bZ ajo (acw N (R:=R)) (bT f265 3):=lq 3 G2 (Sx N) λK g=>lr.r3 N g (J G2 (.exit 0) K)
def aeu:=dP arf awd lr.c lr.v
theorem amm:FO 265 aeu:=fq (E:=ajo) (aF ade (aF amt aX)) func265 (it:=λN=>acw N) (λN=>(bm (ZC N) bw)) lr.b lr.vo

def asu:=en [(194,V0),(120,Ku),(264,aet),(265,aeu),(266,Wf)] []
def aqO:Fn [.R, .I, .S, .S, .S] As:=λa b c d e=>[aV [.sh 94 a],aV [.n b, .s c, .s d, .s e]]
def avN:Fn [.R, .B] dq:=λa b=>⟨[aV [.ow 94 ai a],aB b],[]⟩
def aec:=dP aqO avN rL.c rL.v
theorem al5:FO 230 aec:=fr (E:=asu) (aF acY (aF Oi (aF aml (aF amm (aF ade aX))))) func230 rL.b rL.vo

def ai4:=en [(229,OM),(230,aec)] [(3,[1,4,5,6,13,14,15])]
def ap4:Fn [.R, .R] As:=λa b=>[aV [.sh 94 a],aH 218 b]
def au3:Fn [.R, .I] dq:=λa b=>⟨[aV [.ow 94 ai a],aI b],[]⟩
def GG:Fn [.R, .I, .R, .I, .I, .R] Tb:=λa b c d e f=>[cH 2 218 a,cP 8 0,cI 10 b,cP 12 1,cH 26 218 c,cI 28 d,cI 30 e,oB 1 [.nl],oB 3 [.own 2],oR 5 94 f]
def I0:Fn [.R, .I, .R, .I, .I, .R] Tb:=λa b c d e f=>[cH 2 218 a,cP 8 0,cI 10 b,cP 12 1,cH 26 218 c,cI 28 d,cI 30 e,oB 1 [.own 2],oB 3 [.own 2],oR 5 94 f]
def RR(N:aE)(K:Kt R):=v5.l3 N (J I0 .ret K) (J GG (.exit 0) K)
def ab9(N:aE):It R:=(lp 3 (al GG (λK=>RR N K N) an) ln)
theorem Y2(N:aE):bZ ai4 (ab9 N (R:=R)) (bT f170 3):=lq 3 GG (RR N) λK g=>v5.r3 N g (J I0 .ret K) (J GG (.exit 0) K)
def VT:=dP ap4 au3 v5.c v5.v
theorem acR:FO 170 VT:=fq (E:=ai4) (aF UQ (aF al5 aX)) func170 (it:=λN=>ab9 N) (λN=>(bm (Y2 N) bw)) v5.b v5.vo

def E98:=W_ T md [(168,adM),(145,OA),(169,adN),(170,VT)] [] [] [(0,1,.own 51),(0,2,.own 9),(0,3,.own 9),(0,4,.own 26),(0,6,.own 75),(0,7,.own 72),(0,9,.own 94),(0,10,.own 3),(0,11,.own 51)]
def A98:Fn [.I, .R, .R, .R, .R, .I, .R, .R, .I, .R, .R, .R, .I, .I] As:=λa b c d e f g h i j k l m o=>[.pt [.n a, .ow 51 ai b, .ow 9 ai c, .ow 9 ai d, .ow 26 ai e, .n f, .ow 75 ai g, .ow 72 ai h, .n i, .ow 94 ai j, .ow 3 ai k, .ow 51 ai l],aI m,aI o]
def k98:Fn [.B, .I, .R, .R, .R, .R, .I, .R, .R, .I, .R, .R, .R] dq:=λa b c d e f g h i j k l m=>⟨[aB a],[[.n b, .ow 51 ai c, .ow 9 ai d, .ow 9 ai e, .ow 26 ai f, .n g, .ow 75 ai h, .ow 72 ai i, .n j, .ow 94 ai k, .ow 3 ai l, .ow 51 ai m]]⟩
def anE:=dP A98 k98 WY.c WY.v
theorem axc:FO 98 anE:=fr (E:=E98) (aF alD (aF UE (aF alE (aF acR aX)))) func98 WY.b WY.vo

def E99:=en [(160,DA),(165,OD),(171,VU)] []
def A99:Fn [.I, .R, .R, .R, .R, .I, .R, .R, .I, .I] As:=λa b c d e f g h i j=>[aV [.n a, .sh 51 b, .sh 9 c, .sh 9 d, .sh 26 e, .n f, .sh 75 g, .sh 72 h, .n i],aI j]
def k99:Fn [.I, .R, .R, .R, .R, .I, .R, .R, .I, .B] dq:=λa b c d e f g h i j=>⟨[aV [.n a, .ow 51 ai b, .ow 9 ai c, .ow 9 ai d, .ow 26 ai e, .n f, .ow 75 ai g, .ow 72 ai h, .n i],aB j],[]⟩
def anF:=dP A99 k99 WZ.c WZ.v
theorem axd:FO 99 anF:=fr (E:=E99) (aF FQ (aF UH (aF acS aX))) func99 WZ.b WZ.vo

def ar4:=en [] []
def ap6:Fn [.I, .I] As:=λa b=>[aI a,aI b]
def au5:Fn [.I] dq:=λa=>⟨[aI a],[]⟩
def adO:=dP ap6 au5 A5.c A5.v
theorem alG:FO 172 adO:=fr (E:=ar4) aX func172 A5.b A5.vo

def arv:=en [(160,DA),(172,adO)] []
def apb:Fn [.I, .R, .R, .R, .R, .I, .R, .R, .I, .I] As:=λa b c d e f g h i j=>[aV [.n a, .sh 51 b, .sh 9 c, .sh 9 d, .sh 26 e, .n f, .sh 75 g, .sh 72 h, .n i],aI j]
def aub:Fn [.I, .R, .R, .R, .R, .I, .R, .R, .I] dq:=λa b c d e f g h i=>⟨[aV [.n a, .ow 51 ai b, .ow 9 ai c, .ow 9 ai d, .ow 26 ai e, .n f, .ow 75 ai g, .ow 72 ai h, .n i]],[]⟩
def adn:=dP apb aub DZ.c DZ.v
theorem alb:FO 100 adn:=fr (E:=arv) (aF FQ (aF alG aX)) func100 DZ.b DZ.vo

def ai6:=en [(173,Mr),(173,Ms),(176,VV)] [(5,[0,1,5,6])]
def ap8:Fn [.R, .I] As:=λa b=>[aO 72 a, .v ak [.fn 176 [[.n b]]]]
def au7:Fn [.R] dq:=λa=>⟨[aO 72 a],[[.nl]]⟩
def GI:Fn [.I, .I, .I, .R] Tb:=λa b c d=>[cA 0 (.own 900000000),cA 2 (.fn 176 [[.n a]]),cI 10 b,cI 12 c,oR 1800000001 72 d]
def RT(N:aE)(K:Kt R):=wU.l5 N (J GI (.exit 0) K)
def aca(N:aE):It R:=(lp 5 (al GI (λK=>RT N K N) an) ln)
theorem Y4(N:aE):bZ ai6 (aca N (R:=R)) (bT f175 5):=lq 5 GI (RT N) λK g=>wU.r5 N g (J GI (.exit 0) K)
def adQ:=dP ap8 au7 wU.c wU.v
theorem alI:FO 175 adQ:=fq (E:=ai6) (aF UI (aF UJ (aF acT aX))) func175 (it:=λN=>aca N) (λN=>(bm (Y4 N) bw)) wU.b wU.vo

def arx:=en [(160,DA),(175,adQ)] []
def apd:Fn [.I, .R, .R, .R, .R, .I, .R, .R, .I, .I] As:=λa b c d e f g h i j=>[aV [.n a, .sh 51 b, .sh 9 c, .sh 9 d, .sh 26 e, .n f, .sh 75 g, .sh 72 h, .n i],aI j]
def aud:Fn [.I, .R, .R, .R, .R, .I, .R, .R, .I] dq:=λa b c d e f g h i=>⟨[aV [.n a, .ow 51 ai b, .ow 9 ai c, .ow 9 ai d, .ow 26 ai e, .n f, .ow 75 ai g, .ow 72 ai h, .n i]],[]⟩
def ado:=dP apd aud D0.c D0.v
theorem alc:FO 102 ado:=fr (E:=arx) (aF FQ (aF alI aX)) func102 D0.b D0.vo

def ai7:=en [(120,Ku),(229,OM)] [(5,[1,4,6,17,18,19])]
def ap_:Fn [.R, .R] As:=λa b=>[aV [.sh 94 a],aH 3 b]
def au9:Fn [.R, .B] dq:=λa b=>⟨[aV [.ow 94 ai a],aB b],[]⟩
def GJ:Fn [.R, .R, .I, .I, .R] Tb:=λa b c d e=>[cH 2 3 a,cP 8 0,cP 12 1,cH 34 94 b,cI 36 c,cI 38 d,oB 1 [.nl],oB 3 [.own 2],oR 5 94 e]
def RU(N:aE)(K:Kt R):=wV.l5 N (J GJ (.exit 0) K)
def acb(N:aE):It R:=(lp 5 (al GJ (λK=>RU N K N) an) ln)
theorem Y5(N:aE):bZ ai7 (acb N (R:=R)) (bT f177 5):=lq 5 GJ (RU N) λK g=>wV.r5 N g (J GJ (.exit 0) K)
def adR:=dP ap_ au9 wV.c wV.v
theorem alJ:FO 177 adR:=fq (E:=ai7) (aF Oi (aF UQ aX)) func177 (it:=λN=>acb N) (λN=>(bm (Y5 N) bw)) wV.b wV.vo

def arI:=en [(194,V0)] []
def apx:Fn [.R, .S] As:=λa b=>[aV [.sh 94 a],aS b]
def auy:Fn [.S, .B] dq:=λa b=>⟨[aS a,aB b],[]⟩
def VJ:=dP apx auy u6.c u6.v
theorem acI:FO 121 VJ:=fr (E:=arI) (aF acY aX) func121 u6.b u6.vo

def ajb:=en [(82,qw)] [(5,[0,1,4,5,6,7,8])]
def aqr:Fn [.S, .I] As:=λa b=>[aS a,aI b]
def avq:Fn [.I, .I, .B] dq:=λa b c=>⟨[aI a,aI b,aB c],[]⟩
def zn:Fn [.S, .I, .I, .I, .B, .I, .I] Tb:=λa b c d e f g=>[cA 0 (.s a),cI 2 b,cI 8 c,cI 10 d,cA 12 (.b e),cI 14 f,cI 16 g]
def R3(N:aE)(K:Kt R):=gn.l5 N (J zn .ret K) (J zn (.exit 0) K)
def ach(N:aE):It R:=(lp 5 (al zn (λK=>R3 N K N) an) ln)
theorem Zc(N:aE):bZ ajb (ach N (R:=R)) (bT f195 5):=lq 5 zn (R3 N) λK g=>gn.r5 N g (J zn .ret K) (J zn (.exit 0) K)
def OG:=dP aqr avq (ct _) gn.v
theorem UL:FO 195 OG:=fh (E:=ajb) (aF qR aX) func195 (it:=λN=>ach N) (λN=>(bm (Zc N) bw)) gn.b λx f h=>gn.eh _ x.1 x.2.1 f.1.1

def aiW:=en [(195,OG),(82,qw),(196,V1)] [(3,[0,4,5])]
def apy:Fn [.S] As:=λa=>[aS a]
def auz:Fn [.R, .I] dq:=λa b=>⟨[aO 9 a,aI b],[]⟩
def Gx:Fn [.S, .I, .R] Tb:=λa b c=>[cA 0 (.s a),cA 8 (.own 0),cI 10 b,oR 1 9 c]
def RF(N:aE)(K:Kt R):=U122.l3 N (J Gx (.exit 0) K)
def ab1(N:aE):It R:=(lp 3 (al Gx (λK=>RF N K N) an) ln)
theorem YR(N:aE):bZ aiW (ab1 N (R:=R)) (bT f122 3):=lq 3 Gx (RF N) λK g=>U122.r3 N g (J Gx (.exit 0) K)
def adz:=dP apy auz U122.c U122.v
theorem alo:FO 122 adz:=fq (E:=aiW) (aF UL (aF qR (aF acZ aX))) func122 (it:=λN=>ab1 N) (λN=>(bm (YR N) bw)) U122.b U122.vo

def asi:=en [(195,OG)] []
def aqt:Fn [.S, .I] As:=λa b=>[aS a,aI b]
def avs:Fn [.S, .I, .B] dq:=λa b c=>⟨[aS a,aI b,aB c],[]⟩
def ad3:=dP aqt avs (ct _) tp.v
theorem alV:FO 197 ad3:=fh (E:=asi) (aF UL aX) func197 (it:=λ_=>ln) (λ_=>bw) (λ_=>tp.b) λx f h=>⟨0,tp.eh _ x.1 x.2.1 f.1.1⟩

def arJ:=en [(197,ad3),(195,OG),(125,Kv)] []
def apz:Fn [.S] As:=λa=>[aS a]
def auA:Fn [.S, .I, .I, .S, .B] dq:=λa b c d e=>⟨[aV [.s a, .n b, .n c, .s d],aB e],[]⟩
def adA:=dP apz auA (ct _) vZ.v
theorem alp:FO 123 adA:=fh (E:=arJ) (aF alV (aF UL (aF Oj aX))) func123 (it:=λ_=>ln) (λ_=>bw) (λ_=>vZ.b) λx f h=>⟨0,vZ.eh _ x.1 f.1.1⟩

def E61:=en [(120,Ku),(121,VJ),(122,adz),(123,adA),(124,VK)] [(7,[3,27,28,29])]
def A61:Fn [.R] As:=λa=>[aV [.sh 94 a]]
def k61:Fn [.R] dq:=λa=>⟨[aO 51 a],[]⟩
def Np:Fn [.I, .I, .R, .R] Tb:=λa b c d=>[cA 6 (.own 0),cA 54 (.own 1),cI 56 a,cI 58 b,oR 1 51 c,oR 3 9 d]
def abh(N:aE)(K:Kt R):=U61.l7 N (J Np (.exit 0) K)
def akM(N:aE):It R:=(lp 7 (al Np (λK=>abh N K N) an) ln)
theorem agW(N:aE):bZ E61 (akM N (R:=R)) (bT f61 7):=lq 7 Np (abh N) λK g=>U61.r7 N g (J Np (.exit 0) K)
def ahu:=dP A61 k61 U61.c U61.v
theorem amD:FO 61 ahu:=fq (E:=E61) (aF Oi (aF acI (aF alo (aF alp (aF acJ aX))))) func61 (it:=λN=>akM N) (λN=>(bm (agW N) bw)) U61.b U61.vo

def ai8:=en [(120,Ku),(228,V9),(121,VJ)] [(5,[2,4,5,6,17,18,19])]
def aqa:Fn [.R, .R] As:=λa b=>[aV [.sh 94 a],aH 51 b]
def au_:Fn [.R, .B] dq:=λa b=>⟨[aO 218 a,aB b],[]⟩
def zl:Fn [.B, .S, .R, .I, .I, .R] Tb:=λa b c d e f=>[cP 4 0,cA 8 .nl,cA 10 (.b a),cA 12 (.s b),cH 34 51 c,cI 36 d,cI 38 e,oB 1 [.sh 94 f]]
def RV(N:aE)(K:Kt R):=A7.l5 N (J zl .ret K) (J zl (.exit 0) K)
def acd(N:aE):It R:=(lp 5 (al zl (λK=>RV N K N) an) ln)
theorem Y6(N:aE):bZ ai8 (acd N (R:=R)) (bT f178 5):=lq 5 zl (RV N) λK g=>A7.r5 N g (J zl .ret K) (J zl (.exit 0) K)
def adS:=dP aqa au_ A7.c A7.v
theorem alK:FO 178 adS:=fq (E:=ai8) (aF Oi (aF ac7 (aF acI aX))) func178 (it:=λN=>acd N) (λN=>(bm (Y6 N) bw)) A7.b A7.vo

def E32:=en [(42,ahp),(62,Wj),(87,ahw)] [(4,[0,4,5,11,12,13])]
def A32:Fn [.I, .R] As:=λa b=>[aI a,aH 51 b]
def k32:Fn [.I, .R, .R, .R, .R, .I, .R, .R, .I] dq:=λa b c d e f g h i=>⟨[aV [.n a, .ow 51 ai b, .ow 9 ai c, .ow 9 ai d, .ow 26 ai e, .n f, .ow 75 ai g, .ow 72 ai h, .n i]],[]⟩
def Nh:Fn [.I, .R, .I, .I, .I, .I, .I, .I, .I, .I, .R, .R, .R, .R, .R, .R] Tb:=λa b c d e f g h i j k l m o p q=>[cI 0 a,cP 8 0,cP 10 1,cH 22 51 b,cI 24 c,cI 26 d,oB 1 [.n e, .nl, .nl, .nl, .nl, .n f, .nl, .nl, .n g],oB 3 [.n h, .own 2, .own 3, .own 4, .own 5, .n i, .own 6, .own 7, .n j],oR 5 51 k,oR 7 9 l,oR 9 9 m,oR 11 26 o,oR 13 75 p,oR 15 72 q]
def aa0(N:aE)(K:Kt R):=QZ.l4 N (J Nh (.exit 0) K)
def akA(N:aE):It R:=(lp 4 (al Nh (λK=>aa0 N K N) an) ln)
theorem agE(N:aE):bZ E32 (akA N (R:=R)) (bT f32 4):=lq 4 Nh (aa0 N) λK g=>QZ.r4 N g (J Nh (.exit 0) K)
def anc:=dP A32 k32 QZ.c QZ.v
theorem awN:FO 32 anc:=fq (E:=E32) (aF amy (aF ZU (aF amF aX))) func32 (it:=λN=>akA N) (λN=>(bm (agE N) bw)) QZ.b QZ.vo

def aiN:=W_ T md [(177,adR),(61,ahu),(62,Wj),(178,adS),(170,VT),(32,anc)] [(3,[0,4,26,27,28])] [] [(0,1,.own 51),(0,2,.own 9),(0,3,.own 9),(0,4,.own 26),(0,6,.own 75),(0,7,.own 72),(0,9,.own 94),(0,10,.own 3),(0,11,.own 51)]
def ape:Fn [.I, .R, .R, .R, .R, .I, .R, .R, .I, .R, .R, .R, .R] As:=λa b c d e f g h i j k l m=>[.pt [.n a, .ow 51 ai b, .ow 9 ai c, .ow 9 ai d, .ow 26 ai e, .n f, .ow 75 ai g, .ow 72 ai h, .n i, .ow 94 ai j, .ow 3 ai k, .ow 51 ai l],aH 3 m]
def aue:Fn [.I, .R, .R, .R, .R, .I, .R, .R, .I, .R, .R, .R] dq:=λa b c d e f g h i j k l=>⟨[],[[.n a, .ow 51 ai b, .ow 9 ai c, .ow 9 ai d, .ow 26 ai e, .n f, .ow 75 ai g, .ow 72 ai h, .n i, .ow 94 ai j, .ow 3 ai k, .ow 51 ai l]]⟩
def Gv:Fn [.I, .I, .I, .I, .I, .R, .R, .R, .R, .R, .R, .R, .R, .R, .R, .R] Tb:=λa b c d e f g h i j k l m o p q=>[cP 0 900000900,cA 8 (.own 1),cA 52 (.own 2),cI 54 a,cI 56 b,oB 1800001801 [.n c, .own 900000001, .own 900000002, .own 900000003, .own 900000004, .n d, .own 900000006, .own 900000007, .n e, .own 9, .own 900000010, .own 900000011],oR 3 51 f,oR 5 51 g,oR 1800000003 51 h,oR 1800000005 9 i,oR 1800000007 9 j,oR 1800000009 26 k,oR 1800000013 75 l,oR 1800000015 72 m,oR 19 94 o,oR 1800000021 3 p,oR 1800000023 51 q]
def Rv(N:aE)(K:Kt R):=AZ.l3 N (J Gv (.exit 0) K)
def abS(N:aE):It R:=(lp 3 (al Gv (λK=>Rv N K N) an) ln)
theorem YH(N:aE):bZ aiN (abS N (R:=R)) (bT f103 3):=lq 3 Gv (Rv N) λK g=>AZ.r3 N g (J Gv (.exit 0) K)
def adp:=dP ape aue AZ.c AZ.v
theorem ald:FO 103 adp:=fq (E:=aiN) (aF alJ (aF amD (aF ZU (aF alK (aF acR (aF awN aX)))))) func103 (it:=λN=>abS N) (λN=>(bm (YH N) bw)) AZ.b AZ.vo

def ary:=en [] []
def apf:Fn [.B] As:=λa=>[aB a]
def auf:Fn [.I] dq:=λa=>⟨[aI a],[]⟩
def adq:=dP apf auf (ct _) G8.v
theorem ale:FO 104 adq:=ft (E:=ary) aX func104 G8.b λ(a0,_)=>G8.eh _ a0

def E43:=W_ T md [(96,anC),(97,anD),(98,anE),(99,anF),(100,adn),(101,VG),(102,ado),(103,adp),(104,adq)] [] [] [(0,1,.own 51),(0,2,.own 9),(0,3,.own 9),(0,4,.own 26),(0,6,.own 75),(0,7,.own 72),(0,9,.own 94),(0,10,.own 3),(0,11,.own 51)]
def A43:Fn [.I, .R, .R, .R, .R, .I, .R, .R, .I, .R, .R, .R, .I, .I, .S, .I, .R] As:=λa b c d e f g h i j k l m o p q r=>[.pt [.n a, .ow 51 ai b, .ow 9 ai c, .ow 9 ai d, .ow 26 ai e, .n f, .ow 75 ai g, .ow 72 ai h, .n i, .ow 94 ai j, .ow 3 ai k, .ow 51 ai l],aV [.n m, .n o, .s p, .n q, .sh 3 r]]
def k43:Fn [.I, .I, .R, .R, .R, .R, .I, .R, .R, .I, .R, .R, .R] dq:=λa b c d e f g h i j k l m=>⟨[aI a],[[.n b, .ow 51 ai c, .ow 9 ai d, .ow 9 ai e, .ow 26 ai f, .n g, .ow 75 ai h, .ow 72 ai i, .n j, .ow 94 ai k, .ow 3 ai l, .ow 51 ai m]]⟩
def ank:=dP A43 k43 WS.c WS.v
theorem awU:FO 43 ank:=fr (E:=E43) (aF axa (aF axb (aF axc (aF axd (aF alb (aF acF (aF alc (aF ald (aF ale aX))))))))) func43 WS.b WS.vo

def E11:=en [(31,anb),(42,ahp),(43,ank)] [(4,[0,2,3,14,15,16]),(11,[2,6,27,28,29,1000000006009094,1000000006010003,1000000006011051])]
def A11:Fn [.R] As:=λa=>[aH 29 a]
def k11:Fn [.I, .R, .R, .R, .R, .I, .R, .R, .I, .R, .R, .R, .B] dq:=λa b c d e f g h i j k l m=>⟨[aV [.n a, .ow 51 ai b, .ow 9 ai c, .ow 9 ai d, .ow 26 ai e, .n f, .ow 75 ai g, .ow 72 ai h, .n i, .ow 94 ai j, .ow 3 ai k, .ow 51 ai l],aB m],[]⟩
def EU:Fn [.R, .B, .R, .I, .I, .I, .I, .I] Tb:=λa b c d e f g h=>[cH 0 29 a,cP 4 0,cA 6 (.b b),cH 28 29 c,cI 30 d,cI 32 e,oB 1 [.n f, .nl, .nl, .nl, .nl, .n g, .nl, .nl, .n h, .nl, .nl, .nl]]
def Gw:Fn [.R, .I, .I, .I, .I, .I, .I, .I, .I, .R, .R, .R, .R, .R, .R, .R, .R, .R] Tb:=λa b c d e f g h i j k l m o p q r s=>[cP 4 0,cP 12 1,cH 54 29 a,cI 56 b,cI 58 c,oB 1 [.n d, .nl, .nl, .nl, .nl, .n e, .nl, .nl, .n f, .nl, .nl, .nl],oB 3 [.n g, .own 2, .own 3, .own 4, .own 5, .n h, .own 6, .own 7, .n i, .own 8, .own 9, .own 10],oR 5 51 j,oR 7 9 k,oR 9 9 l,oR 11 26 m,oR 13 75 o,oR 15 72 p,oR 17 94 q,oR 19 3 r,oR 21 51 s]
def aaQ(N:aE)(K:Kt R):=Nr.l4 N (J EU .ret K) (J EU (.exit 0) K)
def RD(N:aE)(K:Kt R):=Nr.P7 N (J Gw (.exit 2) K)
def agc(N:aE):It R:=(lp 4 (al EU (λK=>aaQ N K N) an) (lp 11 (al Gw (λK=>RD N K N) an) ln))
theorem agu(N:aE):bZ E11 (agc N (R:=R)) (bT f11 4):=lq 4 EU (aaQ N) λK g=>Nr.r4 N g (J EU .ret K) (J EU (.exit 0) K)
theorem YP(N:aE):bZ E11 (agc N (R:=R)) (bT f11 11):=lq 11 Gw (RD N) λK g=>Nr.wG N g (J Gw (.exit 2) K)
def am5:=dP A11 k11 Nr.c Nr.v
theorem awD:FO 11 am5:=fq (E:=E11) (aF awM (aF amy (aF awU aX))) func11 (it:=λN=>agc N) (λN=>(bm (agu N) (bm (YP N) bw))) Nr.b Nr.vo

def E56:=en [(50,sZ)] []
def A56:Fn [.I, .I, .S, .I, .R] As:=λa b c d e=>[aV [.n a, .n b, .s c, .n d, .sh 3 e]]
def k56:Fn [.B] dq:=λa=>⟨[aB a],[]⟩
def anq:=dP A56 k56 (ct _) U56.v
theorem aw0:FO 56 anq:=ft (E:=E56) (aF tV aX) func56 U56.b λ(a0,a1,a2,a3,a4,_)=>U56.eh _ a0 a1 a2 a3 a4

def E59:=W_ T md [(117,AK)] [] [] [(0,1,.own 51),(0,2,.own 9),(0,3,.own 9),(0,4,.own 26),(0,6,.own 75),(0,7,.own 72),(0,9,.own 94),(0,10,.own 3),(0,11,.own 51)]
def A59:Fn [.I, .R, .R, .R, .R, .I, .R, .R, .I, .R, .R, .R] As:=λa b c d e f g h i j k l=>[aV [.n a, .sh 51 b, .sh 9 c, .sh 9 d, .sh 26 e, .n f, .sh 75 g, .sh 72 h, .n i, .sh 94 j, .sh 3 k, .sh 51 l]]
def k59:Fn [.I, .R, .R, .R, .R, .I, .R, .R, .I, .R, .R, .R] dq:=λa b c d e f g h i j k l=>⟨[aV [.n a, .ow 51 ai b, .ow 9 ai c, .ow 9 ai d, .ow 26 ai e, .n f, .ow 75 ai g, .ow 72 ai h, .n i, .ow 94 ai j, .ow 3 ai k, .ow 51 ai l]],[]⟩
def anr:=dP A59 k59 WT.c WT.v
theorem aw1:FO 59 anr:=fr (E:=E59) (aF C6 aX) func59 WT.b WT.vo

def E16:=en [(56,anq),(57,aao),(58,aht),(59,anr)] [(3,[0,2,4,5]),(10,[0,2,6,7,1000000006009094,1000000006010003,1000000006011051])]
def A16:Fn [.R] As:=λa=>[aH 29 a]
def k16:Fn [.I, .R, .R, .R, .R, .I, .R, .R, .I, .R, .R, .R, .B] dq:=λa b c d e f g h i j k l m=>⟨[aV [.n a, .ow 51 ai b, .ow 9 ai c, .ow 9 ai d, .ow 26 ai e, .n f, .ow 75 ai g, .ow 72 ai h, .n i, .ow 94 ai j, .ow 3 ai k, .ow 51 ai l],aB m],[]⟩
def Ng:Fn [.R, .B, .I, .I, .I, .I] Tb:=λa b c d e f=>[cH 0 29 a,cP 4 0,cA 8 (.b b),cI 10 c,oB 1 [.n d, .nl, .nl, .nl, .nl, .n e, .nl, .nl, .n f, .nl, .nl, .nl]]
def GF:Fn [.R, .I, .I, .I, .I, .I, .I, .I, .R, .R, .R, .R, .R, .R, .R, .R, .R] Tb:=λa b c d e f g h i j k l m o p q r=>[cH 0 29 a,cP 4 0,cP 12 1,cI 14 b,oB 1 [.n c, .nl, .nl, .nl, .nl, .n d, .nl, .nl, .n e, .nl, .nl, .nl],oB 3 [.n f, .own 2, .own 3, .own 4, .own 5, .n g, .own 6, .own 7, .n h, .own 8, .own 9, .own 10],oR 5 51 i,oR 7 9 j,oR 9 9 k,oR 11 26 l,oR 13 75 m,oR 15 72 o,oR 17 94 p,oR 19 3 q,oR 21 51 r]
def aaT(N:aE)(K:Kt R):=Ns.l3 N (J Ng (.exit 0) K)
def RQ(N:aE)(K:Kt R):=Ns.l10 N (J GF (.exit 2) K)
def agd(N:aE):It R:=(lp 3 (al Ng (λK=>aaT N K N) an) (lp 10 (al GF (λK=>RQ N K N) an) ln))
theorem agx(N:aE):bZ E16 (agd N (R:=R)) (bT f16 3):=lq 3 Ng (aaT N) λK g=>Ns.r3 N g (J Ng (.exit 0) K)
theorem Y1(N:aE):bZ E16 (agd N (R:=R)) (bT f16 10):=lq 10 GF (RQ N) λK g=>Ns.AG N g (J GF (.exit 2) K)
def am7:=dP A16 k16 Ns.c Ns.v
theorem awF:FO 16 am7:=fq (E:=E16) (aF aw0 (aF ag5 (aF amC (aF aw1 aX)))) func16 (it:=λN=>agd N) (λN=>(bm (agx N) (bm (Y1 N) bw))) Ns.b Ns.vo

def E17:=en [] [(4,[0,1,4,5])]
def A17:Fn [.R, .R] As:=λa b=>[aH 3 a,aH 3 b]
def k17:Fn [.B] dq:=λa=>⟨[aB a],[]⟩
def EW:Fn [.R, .R, .B, .I] Tb:=λa b c d=>[cH 0 3 a,cH 2 3 b,cA 8 (.b c),cI 10 d]
def aaU(N:aE)(K:Kt R):=KZ.l4 N (J EW .ret K) (J EW (.exit 0) K)
def akw(N:aE):It R:=(lp 4 (al EW (λK=>aaU N K N) an) ln)
theorem agy(N:aE):bZ E17 (akw N (R:=R)) (bT f17 4):=lq 4 EW (aaU N) λK g=>KZ.r4 N g (J EW .ret K) (J EW (.exit 0) K)
def ahn:=dP A17 k17 KZ.c KZ.v
theorem alF:FO 17 ahn:=fq (E:=E17) aX func17 (it:=λN=>akw N) (λN=>(bm (agy N) bw)) KZ.b KZ.vo

def E29:=en [] [(4,[0,1,4,5])]
def A29:Fn [.R, .R] As:=λa b=>[aH 51 a,aH 51 b]
def k29:Fn [.B] dq:=λa=>⟨[aB a],[]⟩
def E1:Fn [.R, .R, .B, .I] Tb:=λa b c d=>[cH 0 51 a,cH 2 51 b,cA 8 (.b c),cI 10 d]
def aaZ(N:aE)(K:Kt R):=QY.l4 N (J E1 .ret K) (J E1 (.exit 0) K)
def akz(N:aE):It R:=(lp 4 (al E1 (λK=>aaZ N K N) an) ln)
theorem agD(N:aE):bZ E29 (akz N (R:=R)) (bT f29 4):=lq 4 E1 (aaZ N) λK g=>QY.r4 N g (J E1 .ret K) (J E1 (.exit 0) K)
def ana:=dP A29 k29 QY.c QY.v
theorem awK:FO 29 ana:=fq (E:=E29) aX func29 (it:=λN=>akz N) (λN=>(bm (agD N) bw)) QY.b QY.vo

def aiT:=en [] [(4,[0,1,4,5])]
def apu:Fn [.R, .R] As:=λa b=>[aH 9 a,aH 9 b]
def auu:Fn [.B] dq:=λa=>⟨[aB a],[]⟩
def zf:Fn [.R, .R, .B, .I] Tb:=λa b c d=>[cH 0 9 a,cH 2 9 b,cA 8 (.b c),cI 10 d]
def RB(N:aE)(K:Kt R):=vW.l4 N (J zf .ret K) (J zf (.exit 0) K)
def abY(N:aE):It R:=(lp 4 (al zf (λK=>RB N K N) an) ln)
theorem YN(N:aE):bZ aiT (abY N (R:=R)) (bT f118 4):=lq 4 zf (RB N) λK g=>vW.r4 N g (J zf .ret K) (J zf (.exit 0) K)
def adx:=dP apu auu vW.c vW.v
theorem alm:FO 118 adx:=fq (E:=aiT) aX func118 (it:=λN=>abY N) (λN=>(bm (YN N) bw)) vW.b vW.vo

def aiU:=en [(17,ahn)] [(4,[2,3,4,5])]
def apv:Fn [.R, .I, .R, .I] As:=λa b c d=>[aV [.sh 26 a, .n b],aV [.sh 26 c, .n d]]
def auv:Fn [.B] dq:=λa=>⟨[aB a],[]⟩
def zg:Fn [.B, .I, .R, .I, .R, .I] Tb:=λa b c d e f=>[cP 4 0,cP 6 1,cA 8 (.b a),cI 10 b,oB 1 [.sh 26 c, .n d],oB 3 [.sh 26 e, .n f]]
def RC(N:aE)(K:Kt R):=A1.l4 N (J zg .ret K) (J zg (.exit 0) K)
def abZ(N:aE):It R:=(lp 4 (al zg (λK=>RC N K N) an) ln)
theorem YO(N:aE):bZ aiU (abZ N (R:=R)) (bT f119 4):=lq 4 zg (RC N) λK g=>A1.r4 N g (J zg .ret K) (J zg (.exit 0) K)
def ady:=dP apv auv A1.c A1.v
theorem aln:FO 119 ady:=fq (E:=aiU) (aF alF aX) func119 (it:=λN=>abZ N) (λN=>(bm (YO N) bw)) A1.b A1.vo

def E60:=en [(118,adx),(119,ady)] []
def A60:Fn [.R, .R, .R, .I, .R, .R, .R, .I] As:=λa b c d e f g h=>[aV [.sh 9 a, .sh 9 b, .sh 26 c, .n d],aV [.sh 9 e, .sh 9 f, .sh 26 g, .n h]]
def k60:Fn [.B] dq:=λa=>⟨[aB a],[]⟩
def ans:=dP A60 k60 WU.c WU.v
theorem aw2:FO 60 ans:=fr (E:=E60) (aF alm (aF aln aX)) func60 WU.b WU.vo

def E18:=en [(29,ana),(60,ans)] [(4,[2,3,4,5]),(9,[2,3,4,6])]
def A18:Fn [.I, .R, .R, .R, .R, .I, .R, .R, .I, .I, .R, .R, .R, .R, .I, .R, .R, .I] As:=λa b c d e f g h i j k l m o p q r s=>[aV [.n a, .sh 51 b, .sh 9 c, .sh 9 d, .sh 26 e, .n f, .sh 75 g, .sh 72 h, .n i],aV [.n j, .sh 51 k, .sh 9 l, .sh 9 m, .sh 26 o, .n p, .sh 75 q, .sh 72 r, .n s]]
def k18:Fn [.B] dq:=λa=>⟨[aB a],[]⟩
def EX:Fn [.B, .I, .I, .R, .R, .R, .R, .I, .R, .R, .I, .I, .R, .R, .R, .R, .I, .R, .R, .I] Tb:=λa b c d e f g h i j k l m o p q r s t u=>[cP 4 0,cP 6 1,cA 8 (.b a),cI 10 b,oB 1 [.n c, .sh 51 d, .sh 9 e, .sh 9 f, .sh 26 g, .n h, .sh 75 i, .sh 72 j, .n k],oB 3 [.n l, .sh 51 m, .sh 9 o, .sh 9 p, .sh 26 q, .n r, .sh 75 s, .sh 72 t, .n u]]
def EY:Fn [.B, .I, .I, .R, .R, .R, .R, .I, .R, .R, .I, .I, .R, .R, .R, .R, .I, .R, .R, .I] Tb:=λa b c d e f g h i j k l m o p q r s t u=>[cP 4 0,cP 6 1,cA 8 (.b a),cI 12 b,oB 1 [.n c, .sh 51 d, .sh 9 e, .sh 9 f, .sh 26 g, .n h, .sh 75 i, .sh 72 j, .n k],oB 3 [.n l, .sh 51 m, .sh 9 o, .sh 9 p, .sh 26 q, .n r, .sh 75 s, .sh 72 t, .n u]]
def aaV(N:aE)(K:Kt R):=Nt.l4 N (J EX .ret K) (J EX (.exit 0) K)
def aaW(N:aE)(K:Kt R):=Nt.l9 N (J EY .ret K) (J EY (.exit 2) K)
def agf(N:aE):It R:=(lp 4 (al EX (λK=>aaV N K N) an) (lp 9 (al EY (λK=>aaW N K N) an) ln))
theorem agz(N:aE):bZ E18 (agf N (R:=R)) (bT f18 4):=lq 4 EX (aaV N) λK g=>Nt.r4 N g (J EX .ret K) (J EX (.exit 0) K)
theorem agA(N:aE):bZ E18 (agf N (R:=R)) (bT f18 9):=lq 9 EY (aaW N) λK g=>Nt.r9 N g (J EY .ret K) (J EY (.exit 2) K)
def am8:=dP A18 k18 Nt.c Nt.v
theorem awG:FO 18 am8:=fq (E:=E18) (aF awK (aF aw2 aX)) func18 (it:=λN=>agf N) (λN=>(bm (agz N) (bm (agA N) bw))) Nt.b Nt.vo

def E19:=en [] [(4,[2,3,4,5])]
def A19:Fn [.R, .R] As:=λa b=>[aV [.sh 94 a],aV [.sh 94 b]]
def k19:Fn [.B] dq:=λa=>⟨[aB a],[]⟩
def EZ:Fn [.B, .I, .R, .R] Tb:=λa b c d=>[cP 4 0,cP 6 1,cA 8 (.b a),cI 10 b,oB 1 [.sh 94 c],oB 3 [.sh 94 d]]
def aaX(N:aE)(K:Kt R):=QW.l4 N (J EZ .ret K) (J EZ (.exit 0) K)
def akx(N:aE):It R:=(lp 4 (al EZ (λK=>aaX N K N) an) ln)
theorem agB(N:aE):bZ E19 (akx N (R:=R)) (bT f19 4):=lq 4 EZ (aaX N) λK g=>QW.r4 N g (J EZ .ret K) (J EZ (.exit 0) K)
def am9:=dP A19 k19 QW.c QW.v
theorem awH:FO 19 am9:=fq (E:=E19) aX func19 (it:=λN=>akx N) (λN=>(bm (agB N) bw)) QW.b QW.vo

def aiY:=en [] [(2,[0,3,4,7,8])]
def apC:Fn [.R, .S, .I, .I, .S] As:=λa b c d e=>[aH 51 a,aV [.s b, .n c, .n d, .s e]]
def auD:Fn [.I] dq:=λa=>⟨[aI a],[]⟩
def zi:Fn [.R, .I, .I, .I, .S, .I, .I, .S] Tb:=λa b c d e f g h=>[cH 0 51 a,cP 6 0,cI 8 b,cI 14 c,cI 16 d,oB 1 [.s e, .n f, .n g, .s h]]
def RH(N:aE)(K:Kt R):=A2.l2 N (J zi .ret K) (J zi (.exit 0) K)
def ab3(N:aE):It R:=(lp 2 (al zi (λK=>RH N K N) an) ln)
theorem YT(N:aE):bZ aiY (ab3 N (R:=R)) (bT f126 2):=lq 2 zi (RH N) λK g=>A2.r2 N g (J zi .ret K) (J zi (.exit 0) K)
def adB:=dP apC auD A2.c A2.v
theorem alq:FO 126 adB:=fq (E:=aiY) aX func126 (it:=λN=>ab3 N) (λN=>(bm (YT N) bw)) A2.b A2.vo

def E63:=en [(126,adB)] []
def A63:Fn [.R, .S, .I, .I, .S] As:=λa b c d e=>[aH 51 a,aV [.s b, .n c, .n d, .s e]]
def k63:Fn [.B] dq:=λa=>⟨[aB a],[]⟩
def ahv:=dP A63 k63 Ph.c Ph.v
theorem amE:FO 63 ahv:=fr (E:=E63) (aF alq aX) func63 Ph.b Ph.vo

def asp:=en [] []
def aqH:Fn [.S, .S] As:=λa b=>[aS a,aS b]
def avG:Fn [.B] dq:=λa=>⟨[aB a],[]⟩
def ad9:=dP aqH avG D_.c D_.v
theorem al1:FO 222 ad9:=fr (E:=asp) aX func222 D_.b D_.vo

def arT:=en [(222,ad9)] []
def apO:Fn [.S, .S] As:=λa b=>[aS a,aS b]
def auO:Fn [.B] dq:=λa=>⟨[aB a],[]⟩
def adC:=dP apO auO D3.c D3.v
theorem als:FO 154 adC:=fr (E:=arT) (aF al1 aX) func154 D3.b D3.vo

def E90:=en [(154,adC)] []
def A90:Fn [.I, .R, .R, .R, .R, .I, .R, .R, .I, .I, .S, .I, .I, .I, .S, .I] As:=λa b c d e f g h i j k l m o p q=>[aV [.n a, .sh 51 b, .sh 9 c, .sh 9 d, .sh 26 e, .n f, .sh 75 g, .sh 72 h, .n i],aV [.n j, .s k, .n l, .n m, .n o, .s p, .n q]]
def k90:Fn [.B] dq:=λa=>⟨[aB a],[]⟩
def anx:=dP A90 k90 WV.c WV.v
theorem aw7:FO 90 anx:=fr (E:=E90) (aF als aX) func90 WV.b WV.vo

def E91:=en [(155,Ih),(155,Ii),(155,Ij),(89,ahy)] []
def A91:Fn [.R, .I, .S, .I, .I, .I, .S, .I] As:=λa b c d e f g h=>[aH 51 a, .v ak [.fn 89 [[.n b, .s c, .n d, .n e, .n f, .s g, .n h]]]]
def k91:Fn [.B] dq:=λa=>⟨[aB a],[]⟩
def anz:=dP A91 k91 WW.c WW.v
theorem aw8:FO 91 anz:=fr (E:=E91) (aF L6 (aF L7 (aF L8 (aF amH aX)))) func91 WW.b WW.vo

def E34:=en [(90,anx),(91,anz)] [(2,[1,2,9,10,11])]
def A34:Fn [.I, .R, .R, .R, .R, .I, .R, .R, .I, .R, .R, .R] As:=λa b c d e f g h i j k l=>[aV [.n a, .sh 51 b, .sh 9 c, .sh 9 d, .sh 26 e, .n f, .sh 75 g, .sh 72 h, .n i, .sh 94 j, .sh 3 k, .sh 51 l]]
def k34:Fn [.B] dq:=λa=>⟨[aB a],[]⟩
def E2:Fn [.B, .R, .I, .I, .I, .R, .R, .R, .R, .I, .R, .R, .I, .R, .R, .R] Tb:=λa b c d e f g h i j k l m o p q=>[cP 2 0,cA 4 (.b a),cH 18 72 b,cI 20 c,cI 22 d,oB 1 [.n e, .sh 51 f, .sh 9 g, .sh 9 h, .sh 26 i, .n j, .sh 75 k, .sh 72 l, .n m, .sh 94 o, .sh 3 p, .sh 51 q]]
def aa2(N:aE)(K:Kt R):=Q0.l2 N (J E2 .ret K) (J E2 (.exit 0) K)
def akC(N:aE):It R:=(lp 2 (al E2 (λK=>aa2 N K N) an) ln)
theorem agG(N:aE):bZ E34 (akC N (R:=R)) (bT f34 2):=lq 2 E2 (aa2 N) λK g=>Q0.r2 N g (J E2 .ret K) (J E2 (.exit 0) K)
def anf:=dP A34 k34 Q0.c Q0.v
theorem awP:FO 34 anf:=fq (E:=E34) (aF aw7 (aF aw8 aX)) func34 (it:=λN=>akC N) (λN=>(bm (agG N) bw)) Q0.b Q0.vo

def E36:=en [(63,ahv)] [(2,[1,2,7,8,9])]
def A36:Fn [.I, .R, .R, .R, .R, .I, .R, .R, .I, .R, .R, .R] As:=λa b c d e f g h i j k l=>[aV [.n a, .sh 51 b, .sh 9 c, .sh 9 d, .sh 26 e, .n f, .sh 75 g, .sh 72 h, .n i, .sh 94 j, .sh 3 k, .sh 51 l]]
def k36:Fn [.B] dq:=λa=>⟨[aB a],[]⟩
def E5:Fn [.B, .R, .I, .I, .I, .R, .R, .R, .R, .I, .R, .R, .I, .R, .R, .R] Tb:=λa b c d e f g h i j k l m o p q=>[cP 2 0,cA 4 (.b a),cH 14 51 b,cI 16 c,cI 18 d,oB 1 [.n e, .sh 51 f, .sh 9 g, .sh 9 h, .sh 26 i, .n j, .sh 75 k, .sh 72 l, .n m, .sh 94 o, .sh 3 p, .sh 51 q]]
def aa4(N:aE)(K:Kt R):=Q1.l2 N (J E5 .ret K) (J E5 (.exit 0) K)
def akE(N:aE):It R:=(lp 2 (al E5 (λK=>aa4 N K N) an) ln)
theorem agI(N:aE):bZ E36 (akE N (R:=R)) (bT f36 2):=lq 2 E5 (aa4 N) λK g=>Q1.r2 N g (J E5 .ret K) (J E5 (.exit 0) K)
def ang:=dP A36 k36 Q1.c Q1.v
theorem awQ:FO 36 ang:=fq (E:=E36) (aF amE aX) func36 (it:=λN=>akE N) (λN=>(bm (agI N) bw)) Q1.b Q1.vo

def E20:=en [(61,ahu),(62,Wj),(63,ahv),(30,aam),(35,aho),(34,anf),(36,ang)] [(3,[1,2,3,11,12,13])]
def A20:Fn [.I, .R, .R, .R, .R, .I, .R, .R, .I, .R, .R, .R] As:=λa b c d e f g h i j k l=>[aV [.n a, .sh 51 b, .sh 9 c, .sh 9 d, .sh 26 e, .n f, .sh 75 g, .sh 72 h, .n i, .sh 94 j, .sh 3 k, .sh 51 l]]
def k20:Fn [.B] dq:=λa=>⟨[aB a],[]⟩
def E0:Fn [.B, .R, .I, .I, .I, .R, .R, .R, .R, .I, .R, .R, .I, .R, .R, .R, .R] Tb:=λa b c d e f g h i j k l m o p q r=>[cP 2 0,cA 4 (.b a),cA 6 (.own 1),cH 22 51 b,cI 24 c,cI 26 d,oB 1 [.n e, .sh 51 f, .sh 9 g, .sh 9 h, .sh 26 i, .n j, .sh 75 k, .sh 72 l, .n m, .sh 94 o, .sh 3 p, .sh 51 q],oR 3 51 r]
def aaY(N:aE)(K:Kt R):=QX.l3 N (J E0 .ret K) (J E0 (.exit 0) K)
def aky(N:aE):It R:=(lp 3 (al E0 (λK=>aaY N K N) an) ln)
theorem agC(N:aE):bZ E20 (aky N (R:=R)) (bT f20 3):=lq 3 E0 (aaY N) λK g=>QX.r3 N g (J E0 .ret K) (J E0 (.exit 0) K)
def am_:=dP A20 k20 QX.c QX.v
theorem awJ:FO 20 am_:=fq (E:=E20) (aF amD (aF ZU (aF amE (aF ag3 (aF amx (aF awP (aF awQ aX))))))) func20 (it:=λN=>aky N) (λN=>(bm (agC N) bw)) QX.b QX.vo

def E44:=en [] [(2,[0,3,4,5])]
def A44:Fn [.R, .S, .I, .I, .S] As:=λa b c d e=>[aH 51 a,aV [.s b, .n c, .n d, .s e]]
def k44:Fn [.B] dq:=λa=>⟨[aB a],[]⟩
def E6:Fn [.R, .B, .I, .S, .I, .I, .S] Tb:=λa b c d e f g=>[cH 0 51 a,cP 6 0,cA 8 (.b b),cI 10 c,oB 1 [.s d, .n e, .n f, .s g]]
def aa7(N:aE)(K:Kt R):=wa.l2 N (J E6 .ret K) (J E6 (.exit 0) K)
def akH(N:aE):It R:=(lp 2 (al E6 (λK=>aa7 N K N) an) ln)
theorem agL(N:aE):bZ E44 (akH N (R:=R)) (bT f44 2):=lq 2 E6 (aa7 N) λK g=>wa.r2 N g (J E6 .ret K) (J E6 (.exit 0) K)
def ahq:=dP A44 k44 wa.c wa.v
theorem amz:FO 44 ahq:=fq (E:=E44) aX func44 (it:=λN=>akH N) (λN=>(bm (agL N) bw)) wa.b wa.vo

def E46:=en [] [(2,[1,2,3]),(5,[1,2,3,4])]
def A46:Fn [.I, .R, .R, .R, .R, .I, .R, .R, .I] As:=λa b c d e f g h i=>[aV [.n a, .sh 51 b, .sh 9 c, .sh 9 d, .sh 26 e, .n f, .sh 75 g, .sh 72 h, .n i]]
def k46:Fn [.B] dq:=λa=>⟨[aB a],[]⟩
def Fa:Fn [.B, .I, .I, .R, .R, .R, .R, .I, .R, .R, .I] Tb:=λa b c d e f g h i j k=>[cP 2 0,cA 4 (.b a),cI 6 b,oB 1 [.n c, .sh 51 d, .sh 9 e, .sh 9 f, .sh 26 g, .n h, .sh 75 i, .sh 72 j, .n k]]
def Fb:Fn [.B, .I, .I, .I, .R, .R, .R, .R, .I, .R, .R, .I] Tb:=λa b c d e f g h i j k l=>[cP 2 0,cA 4 (.b a),cI 6 b,cI 8 c,oB 1 [.n d, .sh 51 e, .sh 9 f, .sh 9 g, .sh 26 h, .n i, .sh 75 j, .sh 72 k, .n l]]
def aa_(N:aE)(K:Kt R):=Nu.l2 N (J Fa .ret K) (J Fa (.exit 0) K)
def aba(N:aE)(K:Kt R):=Nu.l5 N (J Fb .ret K) (J Fb (.exit 2) K)
def agi(N:aE):It R:=(lp 2 (al Fa (λK=>aa_ N K N) an) (lp 5 (al Fb (λK=>aba N K N) an) ln))
theorem agO(N:aE):bZ E46 (agi N (R:=R)) (bT f46 2):=lq 2 Fa (aa_ N) λK g=>Nu.r2 N g (J Fa .ret K) (J Fa (.exit 0) K)
theorem agP(N:aE):bZ E46 (agi N (R:=R)) (bT f46 5):=lq 5 Fb (aba N) λK g=>Nu.r5 N g (J Fb .ret K) (J Fb (.exit 2) K)
def anl:=dP A46 k46 Nu.c Nu.v
theorem awV:FO 46 anl:=fq (E:=E46) aX func46 (it:=λN=>agi N) (λN=>(bm (agO N) (bm (agP N) bw))) Nu.b Nu.vo

def ar8:=en [] []
def aqc:Fn [.S, .S] As:=λa b=>[aS a,aS b]
def avb:Fn [.B] dq:=λa=>⟨[aB a],[]⟩
def adT:=dP aqc avb D6.c D6.v
theorem alL:FO 180 adT:=fr (E:=ar8) aX func180 D6.b D6.vo

def aiQ:=en [(50,sZ),(180,adT)] [(3,[2,3,4,5])]
def apj:Fn [.I, .R, .R, .R, .R, .I, .R, .R, .I, .R, .R, .R, .I, .S, .I, .I, .I, .S, .I] As:=λa b c d e f g h i j k l m o p q r s t=>[aV [.n a, .sh 51 b, .sh 9 c, .sh 9 d, .sh 26 e, .n f, .sh 75 g, .sh 72 h, .n i, .sh 94 j, .sh 3 k, .sh 51 l],aV [.n m, .s o, .n p, .n q, .n r, .s s, .n t]]
def auj:Fn [.B] dq:=λa=>⟨[aB a],[]⟩
def zc:Fn [.B, .I, .I, .R, .R, .R, .R, .I, .R, .R, .I, .R, .R, .R, .I, .S, .I, .I, .I, .S, .I] Tb:=λa b c d e f g h i j k l m o p q r s t u v=>[cP 4 0,cP 6 1,cA 8 (.b a),cI 10 b,oB 1 [.n c, .sh 51 d, .sh 9 e, .sh 9 f, .sh 26 g, .n h, .sh 75 i, .sh 72 j, .n k, .sh 94 l, .sh 3 m, .sh 51 o],oB 3 [.n p, .s q, .n r, .n s, .n t, .s u, .n v]]
def Ry(N:aE)(K:Kt R):=A0.l3 N (J zc .ret K) (J zc (.exit 0) K)
def abV(N:aE):It R:=(lp 3 (al zc (λK=>Ry N K N) an) ln)
theorem YK(N:aE):bZ aiQ (abV N (R:=R)) (bT f108 3):=lq 3 zc (Ry N) λK g=>A0.r3 N g (J zc .ret K) (J zc (.exit 0) K)
def adt:=dP apj auj A0.c A0.v
theorem alh:FO 108 adt:=fq (E:=aiQ) (aF tV (aF alL aX)) func108 (it:=λN=>abV N) (λN=>(bm (YK N) bw)) A0.b A0.vo

def E47:=en [(108,adt)] [(2,[1,2,3])]
def A47:Fn [.I, .R, .R, .R, .R, .I, .R, .R, .I, .R, .R, .R] As:=λa b c d e f g h i j k l=>[aV [.n a, .sh 51 b, .sh 9 c, .sh 9 d, .sh 26 e, .n f, .sh 75 g, .sh 72 h, .n i, .sh 94 j, .sh 3 k, .sh 51 l]]
def k47:Fn [.B] dq:=λa=>⟨[aB a],[]⟩
def Fc:Fn [.B, .I, .I, .R, .R, .R, .R, .I, .R, .R, .I, .R, .R, .R] Tb:=λa b c d e f g h i j k l m o=>[cP 2 0,cA 4 (.b a),cI 6 b,oB 1 [.n c, .sh 51 d, .sh 9 e, .sh 9 f, .sh 26 g, .n h, .sh 75 i, .sh 72 j, .n k, .sh 94 l, .sh 3 m, .sh 51 o]]
def abb(N:aE)(K:Kt R):=Q4.l2 N (J Fc .ret K) (J Fc (.exit 0) K)
def akI(N:aE):It R:=(lp 2 (al Fc (λK=>abb N K N) an) ln)
theorem agQ(N:aE):bZ E47 (akI N (R:=R)) (bT f47 2):=lq 2 Fc (abb N) λK g=>Q4.r2 N g (J Fc .ret K) (J Fc (.exit 0) K)
def anm:=dP A47 k47 Q4.c Q4.v
theorem awW:FO 47 anm:=fq (E:=E47) (aF alh aX) func47 (it:=λN=>akI N) (λN=>(bm (agQ N) bw)) Q4.b Q4.vo

def E48:=en [(44,ahq)] [(2,[1,2,3])]
def A48:Fn [.I, .R, .R, .R, .R, .I, .R, .R, .I, .R, .R, .R] As:=λa b c d e f g h i j k l=>[aV [.n a, .sh 51 b, .sh 9 c, .sh 9 d, .sh 26 e, .n f, .sh 75 g, .sh 72 h, .n i, .sh 94 j, .sh 3 k, .sh 51 l]]
def k48:Fn [.B] dq:=λa=>⟨[aB a],[]⟩
def Ff:Fn [.B, .I, .I, .R, .R, .R, .R, .I, .R, .R, .I, .R, .R, .R] Tb:=λa b c d e f g h i j k l m o=>[cP 2 0,cA 4 (.b a),cI 6 b,oB 1 [.n c, .sh 51 d, .sh 9 e, .sh 9 f, .sh 26 g, .n h, .sh 75 i, .sh 72 j, .n k, .sh 94 l, .sh 3 m, .sh 51 o]]
def abc(N:aE)(K:Kt R):=Cj.l2 N (J Ff .ret K) (J Ff (.exit 0) K)
def akJ(N:aE):It R:=(lp 2 (al Ff (λK=>abc N K N) an) ln)
theorem agR(N:aE):bZ E48 (akJ N (R:=R)) (bT f48 2):=lq 2 Ff (abc N) λK g=>Cj.r2 N g (J Ff .ret K) (J Ff (.exit 0) K)
def ann:=dP A48 k48 Cj.c Cj.v
theorem awX:FO 48 ann:=fq (E:=E48) (aF amz aX) func48 (it:=λN=>akJ N) (λN=>(bm (agR N) bw)) Cj.b Cj.vo

def E12:=en [(14,ahm),(13,VL),(44,ahq),(45,aan),(46,anl),(47,anm),(48,ann)] [(3,[1,2,3,4])]
def A12:Fn [.I, .R, .R, .R, .R, .I, .R, .R, .I, .R, .R, .R] As:=λa b c d e f g h i j k l=>[aV [.n a, .sh 51 b, .sh 9 c, .sh 9 d, .sh 26 e, .n f, .sh 75 g, .sh 72 h, .n i, .sh 94 j, .sh 3 k, .sh 51 l]]
def k12:Fn [.B] dq:=λa=>⟨[aB a],[]⟩
def EV:Fn [.B, .I, .I, .R, .R, .R, .R, .I, .R, .R, .I, .R, .R, .R, .R] Tb:=λa b c d e f g h i j k l m o p=>[cP 2 0,cA 4 (.b a),cA 6 (.own 1),cI 8 b,oB 1 [.n c, .sh 51 d, .sh 9 e, .sh 9 f, .sh 26 g, .n h, .sh 75 i, .sh 72 j, .n k, .sh 94 l, .sh 3 m, .sh 51 o],oR 3 51 p]
def aaR(N:aE)(K:Kt R):=QV.l3 N (J EV .ret K) (J EV (.exit 0) K)
def aku(N:aE):It R:=(lp 3 (al EV (λK=>aaR N K N) an) ln)
theorem agv(N:aE):bZ E12 (aku N (R:=R)) (bT f12 3):=lq 3 EV (aaR N) λK g=>QV.r3 N g (J EV .ret K) (J EV (.exit 0) K)
def am6:=dP A12 k12 QV.c QV.v
theorem awE:FO 12 am6:=fq (E:=E12) (aF alr (aF ZR (aF amz (aF ag4 (aF awV (aF awW (aF awX aX))))))) func12 (it:=λN=>aku N) (λN=>(bm (agv N) bw)) QV.b QV.vo

def E4:=en [(8,sp8),(9,sp9),(11,am5),(16,am7),(17,ahn),(18,am8),(19,am9),(20,am_),(12,am6)] []
def A4:Fn [.R] As:=λa=>[aH 5 a]
def k4:Fn [.B] dq:=λa=>⟨[aB a],[]⟩
def sp4:=dP A4 k4 U4.c U4.v
theorem ok4:FO 4 sp4:=fr (E:=E4) (aF ok8 (aF ok9 (aF awD (aF awF (aF alF (aF awG (aF awH (aF awJ (aF awE aX))))))))) func4 U4.b U4.vo

end Go.FG.Se
