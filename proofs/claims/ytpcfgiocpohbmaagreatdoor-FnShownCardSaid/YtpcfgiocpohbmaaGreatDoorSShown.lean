/- Functions of the program: the evaluation of each, and that a call of it does what is told. No condition. -/
import Derived.Test.YtpcfgiocpohbmaaGreatDoorTab
import Derived.Test.YtpcfgiocpohbmaaGreatDoorPShown
import Derived.Test.YtpcfgiocpohbmaaGreatDoorIns
import Derived.Test.YtpcfgiocpohbmaaGreatDoorSh
import Derived.Shelf.Strconv.Itoa3
import Derived.Lib.ItoaLen
import Derived.Shelf.Strconv.ErrVarAll
import Derived.Shelf.Strings.SplitShaped
import Derived.Lib.SplitLaws
import Derived.Lib.SmallJoins
import Derived.WalkKit
import Derived.BigCall
import Derived.Deep.DeepMust
set_option linter.unusedVariables false
set_option linter.unusedSimpArgs false
set_option maxRecDepth 100000
namespace Go.FG.Se
open Go.Proofs Go.Proofs.Tryz
variable {R:Type}
abbrev FO:=FnOk Tryz.prog T

def E8:=en [] []
def A8:Fn [.R] As:=λa=>[aH 5 a]
def k8:Fn [.B] Res:=λa=>⟨[aB a],[]⟩
def sp8:=spf A8 k8 (ct _) U8.v
theorem ok8:FO 8 sp8:=ft (E:=E8) bD func8 U8.b λ(a0,_)=>U8.im _ a0

def E31:=en [] [(3,[0,3,4])]
def A31:Fn [.R] As:=λa=>[aH 5 a]
def k31:Fn [.R, .I, .I] Res:=λa b c=>⟨[.pt [.sh 5 a, .n b, .n c]],[]⟩
def IZ:Fn [.R, .I, .I] Tb:=λa b c=>[cH 0 5 a,cI 6 b,cI 8 c]
def U0(N:Nat)(K:Kt R):=Mi.l3 N (J IZ (.exit 0) K)
def ac1(N:Nat):It R:=(lp 3 (al IZ (λK=>U0 N K N) an) ln)
theorem ZG(N:Nat):c5 E31 (ac1 N (R:=R)) (cB f31 3):=lq 3 IZ (U0 N) λK g=>Mi.r3 N g (J IZ (.exit 0) K)
def aeS:=spf A31 k31 Mi.c Mi.v
theorem amz:FO 31 aeS:=fq (E:=E31) bD func31 (it:=λN=>ac1 N) (λN=>(bT (ZG N) ch)) Mi.b Mi.vo

def Ry:=en [] [(3,[0,1,2])]
def ahd:Fn [] As:=[]
def akG:Fn [.R, .I] Res:=λa b=>⟨[aV [.ow 45 true a, .n b]],[]⟩
def pS:Fn [.I, .I, .I] Tb:=λa b c=>[cP 0 0,cP 2 1,cI 4 a,oB 1 [.nl, .n b],oB 3 [.nl, .n c]]
def m9:Fn [.I, .I, .I, .R] Tb:=λa b c d=>[cP 0 0,cP 2 1,cI 4 a,oB 1 [.nl, .n b],oB 3 [.own 2, .n c],oR 5 45 d]
def MA(N:Nat)(K:Kt R):=C7.l3 N (J pS (.exit 0) K) (J m9 (.exit 0) K)
def IB(N:Nat)(K:Kt R):=C7.oa N (J pS (.exit 0) K) (J m9 (.exit 0) K)
def JC(N:Nat):It R:=(lp 3 (al pS (λK=>MA N K N) (al m9 (λK=>IB N K N) an)) ln)
theorem Kl(N:Nat)(K:Kt R):Wd Ry (JC N) (cB f111 3) 3 K m9 (IB N K):=lw (λg=>C7.uU N (cmp _ pS (g∘eJ)) (cmp _ m9 (g∘eJ)) (J pS (.exit 0) K) (J m9 (.exit 0) K)) λm i=>by simp only[Function.comp_def,wf i];rfl
theorem aab(N:Nat)(K:Kt R):Wd Ry (JC N) (cB f111 3) 3 K pS (MA N K):=lw (λg=>C7.r3 N (cmp _ pS (g∘eJ)) (cmp _ m9 (g∘eJ)) (J pS (.exit 0) K) (J m9 (.exit 0) K)) λm i=>by simp only[Function.comp_def,wf i,wf (Kl N K m)];rfl
theorem Tj(N:Nat):c5 Ry (JC N (R:=R)) (cB f111 3):=lm 3 (ga pS (aab N) (ga m9 (Kl N) ni))
def WC:=spf ahd akG C7.c C7.v
theorem adu:FO 111 WC:=fq (E:=Ry) bD func111 (it:=λN=>JC N) (λN=>(bT (Tj N) ch)) C7.b C7.vo

def E66:=en [(111,WC)] []
def A66:Fn [] As:=[]
def k66:Fn [.R, .R, .R, .I] Res:=λa b c d=>⟨[aV [.ow 9 true a, .ow 9 true b, .ow 45 true c, .n d]],[]⟩
def ae1:=spf A66 k66 (ct _) U66.v
theorem amI:FO 66 ae1:=ft (E:=E66) (aQ adu bD) func66 U66.b λ_=>U66.im _

def E37:=en [(66,ae1)] []
def A37:Fn [] As:=[]
def k37:Fn [.I, .R, .R, .R, .R, .I, .R, .R, .I] Res:=λa b c d e f g h i=>⟨[aV [.n a, .ow 51 true b, .ow 9 true c, .ow 9 true d, .ow 45 true e, .n f, .ow 127 true g, .ow 55 true h, .n i]],[]⟩
def Z7:=spf A37 k37 (ct _) U37.v
theorem ad0:FO 37 Z7:=ft (E:=E37) (aQ amI bD) func37 U37.b λ_=>U37.im _

def E72:=en [] []
def A72:Fn [.R, .I, .I] As:=λa b c=>[.pt [.sh 5 a, .n b, .n c]]
def k72:Fn [.I, .R, .I, .I] Res:=λa b c d=>⟨[aI a],[[.sh 5 b, .n c, .n d]]⟩
def ae3:=spf A72 k72 cZ.c cZ.v
theorem amK:FO 72 ae3:=fr (E:=E72) bD func72 cZ.b cZ.vo

def E44:=en [(72,ae3)] []
def A44:Fn [.R, .I, .I, .I] As:=λa b c d=>[.pt [.sh 5 a, .n b, .n c],aI d]
def k44:Fn [.I, .R, .I, .I] Res:=λa b c d=>⟨[aI a],[[.sh 5 b, .n c, .n d]]⟩
def L7:=spf A44 k44 mJ.c mJ.v
theorem Pn:FO 44 L7:=fr (E:=E44) (aQ amK bD) func44 mJ.b mJ.vo

def aiL:=en [(44,L7)] []
def aha:Fn [.R, .I, .I, .R] As:=λa b c d=>[.pt [.sh 5 a, .n b, .n c],aO 3 d]
def akD:Fn [.I, .R, .I, .I, .R] Res:=λa b c d e=>⟨[aI a],[[.sh 5 b, .n c, .n d],[.kp e]]⟩
def WA:=spf aha akD mw.c mw.v
theorem adr:FO 104 WA:=fr (E:=aiL) (aQ Pn bD) func104 mw.b mw.vo

def aiN:=en [(44,L7)] []
def ahc:Fn [.R, .I, .I, .R] As:=λa b c d=>[.pt [.sh 5 a, .n b, .n c],aO 9 d]
def akF:Fn [.S, .R, .I, .I, .R] Res:=λa b c d e=>⟨[aS a],[[.sh 5 b, .n c, .n d],[.kp e]]⟩
def Ql:=spf ahc akF oh.c oh.v
theorem V8:FO 106 Ql:=fr (E:=aiN) (aQ Pn bD) func106 oh.b oh.vo

def aiM:=en [(106,Ql)] []
def ahb:Fn [.R, .I, .I] As:=λa b c=>[.pt [.sh 5 a, .n b, .n c]]
def akE:Fn [.S, .R, .I, .I] Res:=λa b c d=>⟨[aS a],[[.sh 5 b, .n c, .n d]]⟩
def WB:=spf ahb akE sD.c sD.v
theorem ads:FO 105 WB:=fr (E:=aiM) (aQ V8 bD) func105 sD.b sD.vo

def E73:=en [(44,L7)] []
def A73:Fn [.R, .I, .I, .I] As:=λa b c d=>[.pt [.sh 5 a, .n b, .n c],aI d]
def k73:Fn [.B, .R, .I, .I] Res:=λa b c d=>⟨[aB a],[[.sh 5 b, .n c, .n d]]⟩
def ae4:=spf A73 k73 Gw.c Gw.v
theorem amL:FO 73 ae4:=fr (E:=E73) (aQ Pn bD) func73 Gw.b Gw.vo

def E61:=en [(104,WA),(44,L7),(105,WB),(73,ae4),(106,Ql)] [(4,[0,1,3,4,5,6,7])]
def A61:Fn [.R, .I, .I, .I, .R, .R, .R, .R, .I, .R, .R, .I, .R, .R, .R] As:=λa b c d e f g h i j k l m o p=>[.pt [.sh 5 a, .n b, .n c],aV [.n d, .ow 51 true e, .ow 9 true f, .ow 9 true g, .ow 45 true h, .n i, .ow 127 true j, .ow 55 true k, .n l, .ow 189 true m, .ow 3 true o, .ow 51 true p]]
def k61:Fn [.I, .I, .S, .I, .R, .R, .I, .I, .R, .R, .R, .R, .R, .R, .R, .R, .R] Res:=λa b c d e f g h i j k l m o p q r=>⟨[aV [.n a, .n b, .s c, .n d, .ow 3 true e]],[[.sh 5 f, .n g, .n h],[.nl, .kp i, .kp j, .kp k, .kp l, .nl, .kp m, .kp o, .nl, .kp p, .kp q, .kp r]]⟩
def I6:Fn [.I, .I, .I, .I, .R, .I, .I, .R, .R, .R, .R, .R, .R, .R, .R, .R, .I, .I, .I, .I, .I, .S, .I, .I, .I, .S, .I, .R] Tb:=λa b c d e f g h i j k l m o p q r s t u v w x y z aa ab ac=>[cP 0 900000900,cV 2 [.n a, .own 900001001, .own 900001002, .own 900001003, .own 900001004, .n b, .own 900001006, .own 900001007, .n c, .own 900001009, .own 900001010, .own 900001011],cP 6 10,cP 8 11,cP 10 12,cA 12 (.own 13),cI 14 d,oB 1800001801 [.sh 5 e, .n f, .n g],oR 1800002003 51 h,oR 1800002005 9 i,oR 1800002007 9 j,oR 1800002009 45 k,oR 1800002013 127 l,oR 1800002015 55 m,oR 1800002019 189 o,oR 1800002021 3 p,oR 1800002023 51 q,oB 21 [.n r, .own 900001001, .own 900001002, .own 900001003, .own 900001004, .n s, .own 900001006, .own 900001007, .n t, .own 900001009, .own 900001010, .own 900001011],oB 23 [.n u, .n v, .s w, .n x, .nl],oB 25 [.n y, .n z, .s aa, .n ab, .nl],oR 27 3 ac]
def U7(N:Nat)(K:Kt R):=G8.l4 N (J I6 (.exit 0) K)
def ac5(N:Nat):It R:=(lp 4 (al I6 (λK=>U7 N K N) an) ln)
theorem ZL(N:Nat):c5 E61 (ac5 N (R:=R)) (cB f61 4):=lq 4 I6 (U7 N) λK g=>G8.r4 N g (J I6 (.exit 0) K)
def aeY:=spf A61 k61 G8.c G8.v
theorem amF:FO 61 aeY:=fq (E:=E61) (aQ adr (aQ Pn (aQ ads (aQ amL (aQ V8 bD))))) func61 (it:=λN=>ac5 N) (λN=>(bT (ZL N) ch)) G8.b G8.vo

def RC:=en [] [(3,[1,2,3,4])]
def ahW:Fn [.R, .I] As:=λa b=>[aV [.sh 45 a, .n b]]
def alp:Fn [.R, .I] Res:=λa b=>⟨[aV [.ow 45 true a, .n b]],[]⟩
def pV:Fn [.I, .R, .I, .I, .I] Tb:=λa b c d e=>[cP 2 0,cP 4 1,cP 6 2,cI 8 a,oB 1 [.sh 45 b, .n c],oB 3 [.nl, .n d],oB 5 [.nl, .n e]]
def nb:Fn [.I, .R, .I, .I, .I, .R] Tb:=λa b c d e f=>[cP 2 0,cP 4 1,cP 6 2,cI 8 a,oB 1 [.sh 45 b, .n c],oB 3 [.nl, .n d],oB 5 [.own 3, .n e],oR 7 45 f]
def MR(N:Nat)(K:Kt R):=mQ.l3 N (J pV (.exit 0) K) (J nb (.exit 0) K)
def II(N:Nat)(K:Kt R):=mQ.oa N (J pV (.exit 0) K) (J nb (.exit 0) K)
def JG(N:Nat):It R:=(lp 3 (al pV (λK=>MR N K N) (al nb (λK=>II N K N) an)) ln)
theorem Ko(N:Nat)(K:Kt R):Wd RC (JG N) (cB f180 3) 3 K nb (II N K):=lw (λg=>mQ.uU N (cmp _ pV (g∘eJ)) (cmp _ nb (g∘eJ)) (J pV (.exit 0) K) (J nb (.exit 0) K)) λm i=>by simp only[Function.comp_def,wf i];rfl
theorem aae(N:Nat)(K:Kt R):Wd RC (JG N) (cB f180 3) 3 K pV (MR N K):=lw (λg=>mQ.r3 N (cmp _ pV (g∘eJ)) (cmp _ nb (g∘eJ)) (J pV (.exit 0) K) (J nb (.exit 0) K)) λm i=>by simp only[Function.comp_def,wf i,wf (Ko N K m)];rfl
theorem TC(N:Nat):c5 RC (JG N (R:=R)) (cB f180 3):=lm 3 (ga pV (aae N) (ga nb (Ko N) ni))
def Ka:=spf ahW alp mQ.c mQ.v
theorem Pb:FO 180 Ka:=fq (E:=RC) bD func180 (it:=λN=>JG N) (λN=>(bT (TC N) ch)) mQ.b mQ.vo

def aiT:=en [(180,Ka)] []
def ahm:Fn [.R, .R, .R, .I] As:=λa b c d=>[aV [.sh 9 a, .sh 9 b, .sh 45 c, .n d]]
def akP:Fn [.R, .R, .R, .I] Res:=λa b c d=>⟨[aV [.ow 9 true a, .ow 9 true b, .ow 45 true c, .n d]],[]⟩
def Qn:=spf ahm akP e7.c e7.v
theorem V_:FO 120 Qn:=fr (E:=aiT) (aQ Pb bD) func120 e7.b e7.vo

def E68:=en [(120,Qn)] []
def A68:Fn [.I, .R, .R, .R, .R, .I, .R, .R, .I] As:=λa b c d e f g h i=>[aV [.n a, .sh 51 b, .sh 9 c, .sh 9 d, .sh 45 e, .n f, .sh 127 g, .sh 55 h, .n i]]
def k68:Fn [.I, .R, .R, .R, .R, .I, .R, .R, .I] Res:=λa b c d e f g h i=>⟨[aV [.n a, .ow 51 true b, .ow 9 true c, .ow 9 true d, .ow 45 true e, .n f, .ow 127 true g, .ow 55 true h, .n i]],[]⟩
def Ig:=spf A68 k68 j7.c j7.v
theorem LD:FO 68 Ig:=fr (E:=E68) (aQ V_ bD) func68 j7.b j7.vo

def E49:=en [] []
def A49:Fn [.I, .I, .I] As:=λa b c=>[aI a,aI b,aI c]
def k49:Fn [.B] Res:=λa=>⟨[aB a],[]⟩
def sJ:=spf A49 k49 (ct _) jN.v
theorem tH:FO 49 sJ:=ft (E:=E49) bD func49 jN.b λ(a0,a1,a2,_)=>jN.im _ a0 a1 a2

def aiU:=en [(49,sJ)] []
def ahE:Fn [.S] As:=λa=>[aS a]
def ak7:Fn [.B] Res:=λa=>⟨[aB a],[]⟩
def Aw:=spf ahE ak7 (ct _) qS.v
theorem B_:FO 162 Aw:=ft (E:=aiU) (aQ tH bD) func162 qS.b λ(a0,_)=>qS.im _ a0

def ai2:=en [(162,Aw),(49,sJ)] []
def ah_:Fn [.S, .I, .I, .S] As:=λa b c d=>[aV [.s a, .n b, .n c, .s d]]
def alE:Fn [.B] Res:=λa=>⟨[aB a],[]⟩
def Gh:=spf ah_ alE (ct _) ie.v
theorem JS:FO 217 Gh:=ft (E:=ai2) (aQ B_ (aQ tH bD)) func217 ie.b λ(a0,a1,a2,a3,_)=>ie.im _ a0 a1 a2 a3

def abB:=en [] [(2,[0,1,4,5])]
def aib:Fn [.R, .S] As:=λa b=>[aH 9 a,aS b]
def alG:Fn [.B] Res:=λa=>⟨[aB a],[]⟩
def vQ:Fn [.R, .S, .B, .I] Tb:=λa b c d=>[cH 0 9 a,cA 2 (.s b),cA 8 (.b c),cI 10 d]
def MV(N:Nat)(K:Kt R):=e9.l2 N (J vQ .ret K) (J vQ (.exit 0) K)
def VR(N:Nat):It R:=(lp 2 (al vQ (λK=>MV N K N) an) ln)
theorem TG(N:Nat):c5 abB (VR N (R:=R)) (cB f219 2):=lq 2 vQ (MV N) λK g=>e9.r2 N g (J vQ .ret K) (J vQ (.exit 0) K)
def Kb:=spf aib alG e9.c e9.v
theorem Pc:FO 219 Kb:=fq (E:=abB) bD func219 (it:=λN=>VR N) (λN=>(bT (TG N) ch)) e9.b e9.vo

def aja:=en [(219,Kb)] []
def aiy:Fn [.R, .R, .R, .I, .S] As:=λa b c d e=>[aV [.sh 9 a, .sh 9 b, .sh 45 c, .n d],aS e]
def al2:Fn [.B] Res:=λa=>⟨[aB a],[]⟩
def QE:=spf aiy al2 qT.c qT.v
theorem Wm:FO 258 QE:=fr (E:=aja) (aQ Pc bD) func258 qT.b qT.vo

def XM:=en [(49,sJ)] [(4,[1,2,3]),(9,[1,2,3,4])]
def aie:Fn [.R, .I] As:=λa b=>[aV [.sh 45 a, .n b]]
def alJ:Fn [.B] Res:=λa=>⟨[aB a],[]⟩
def vR:Fn [.B, .I, .R, .I] Tb:=λa b c d=>[cP 2 0,cA 4 (.b a),cI 6 b,oB 1 [.sh 45 c, .n d]]
def vS:Fn [.B, .I, .I, .R, .I] Tb:=λa b c d e=>[cP 2 0,cA 4 (.b a),cI 6 b,cI 8 c,oB 1 [.sh 45 d, .n e]]
def MY(N:Nat)(K:Kt R):=gH.l4 N (J vR .ret K) (J vR (.exit 0) K)
def MZ(N:Nat)(K:Kt R):=gH.l9 N (J vS .ret K) (J vS (.exit 2) K)
def OG(N:Nat):It R:=(lp 4 (al vR (λK=>MY N K N) an) (lp 9 (al vS (λK=>MZ N K N) an) ln))
theorem TK(N:Nat):c5 XM (OG N (R:=R)) (cB f222 4):=lq 4 vR (MY N) λK g=>gH.r4 N g (J vR .ret K) (J vR (.exit 0) K)
theorem TL(N:Nat):c5 XM (OG N (R:=R)) (cB f222 9):=lq 9 vS (MZ N) λK g=>gH.r9 N g (J vS .ret K) (J vS (.exit 2) K)
def Kc:=spf aie alJ gH.c gH.v
theorem Pf:FO 222 Kc:=fq (E:=XM) (aQ tH bD) func222 (it:=λN=>OG N) (λN=>(bT (TK N) (bT (TL N) ch))) gH.b gH.vo

def abA:=en [(162,Aw),(219,Kb),(222,Kc)] [(3,[1,2,3,4])]
def aia:Fn [.R, .R, .R, .I] As:=λa b c d=>[aV [.sh 9 a, .sh 9 b, .sh 45 c, .n d]]
def alF:Fn [.B] Res:=λa=>⟨[aB a],[]⟩
def vP:Fn [.B, .I, .R, .R, .R, .I, .R] Tb:=λa b c d e f g=>[cP 2 0,cA 4 (.b a),cA 6 (.own 1),cI 8 b,oB 1 [.sh 9 c, .sh 9 d, .sh 45 e, .n f],oR 3 9 g]
def MU(N:Nat)(K:Kt R):=jz.l3 N (J vP .ret K) (J vP (.exit 0) K)
def VQ(N:Nat):It R:=(lp 3 (al vP (λK=>MU N K N) an) ln)
theorem TF(N:Nat):c5 abA (VQ N (R:=R)) (cB f218 3):=lq 3 vP (MU N) λK g=>jz.r3 N g (J vP .ret K) (J vP (.exit 0) K)
def Qv:=spf aia alF jz.c jz.v
theorem Wg:FO 218 Qv:=fq (E:=abA) (aQ B_ (aQ Pc (aQ Pf bD))) func218 (it:=λN=>VQ N) (λN=>(bT (TF N) ch)) jz.b jz.vo

def aby:=en [(217,Gh),(258,QE),(218,Qv)] [(2,[1,2,3])]
def ah8:Fn [.I, .R, .R, .R, .R, .I, .R, .R, .I] As:=λa b c d e f g h i=>[aV [.n a, .sh 51 b, .sh 9 c, .sh 9 d, .sh 45 e, .n f, .sh 127 g, .sh 55 h, .n i]]
def alC:Fn [.B] Res:=λa=>⟨[aB a],[]⟩
def vN:Fn [.B, .I, .I, .R, .R, .R, .R, .I, .R, .R, .I] Tb:=λa b c d e f g h i j k=>[cP 2 0,cA 4 (.b a),cI 6 b,oB 1 [.n c, .sh 51 d, .sh 9 e, .sh 9 f, .sh 45 g, .n h, .sh 127 i, .sh 55 j, .n k]]
def MS(N:Nat)(K:Kt R):=mR.l2 N (J vN .ret K) (J vN (.exit 0) K)
def VO(N:Nat):It R:=(lp 2 (al vN (λK=>MS N K N) an) ln)
theorem TD(N:Nat):c5 aby (VO N (R:=R)) (cB f215 2):=lq 2 vN (MS N) λK g=>mR.r2 N g (J vN .ret K) (J vN (.exit 0) K)
def W3:=spf ah8 alC mR.c mR.v
theorem adM:FO 215 W3:=fq (E:=aby) (aQ JS (aQ Wm (aQ Wg bD))) func215 (it:=λN=>VO N) (λN=>(bT (TD N) ch)) mR.b mR.vo

def abz:=en [(162,Aw),(49,sJ)] [(5,[1,2,4,5,6])]
def ah9:Fn [.I, .R, .R, .R, .R, .I, .R, .R, .I, .I] As:=λa b c d e f g h i j=>[aV [.n a, .sh 51 b, .sh 9 c, .sh 9 d, .sh 45 e, .n f, .sh 127 g, .sh 55 h, .n i],aI j]
def alD:Fn [.B] Res:=λa=>⟨[aB a],[]⟩
def vO:Fn [.I, .B, .I, .I, .R, .R, .R, .R, .I, .R, .R, .I, .S, .S, .I, .I, .I] Tb:=λa b c d e f g h i j k l m o p q r=>[cI 2 a,cP 4 0,cA 8 (.b b),cP 10 1,cI 12 c,oB 1 [.n d, .sh 51 e, .sh 9 f, .sh 9 g, .sh 45 h, .n i, .sh 127 j, .sh 55 k, .n l],oB 3 [.s m, .s o, .n p, .n q, .n r]]
def MT(N:Nat)(K:Kt R):=oi.l5 N (J vO .ret K) (J vO (.exit 0) K)
def VP(N:Nat):It R:=(lp 5 (al vO (λK=>MT N K N) an) ln)
theorem TE(N:Nat):c5 abz (VP N (R:=R)) (cB f216 5):=lq 5 vO (MT N) λK g=>oi.r5 N g (J vO .ret K) (J vO (.exit 0) K)
def W4:=spf ah9 alD oi.c oi.v
theorem adN:FO 216 W4:=fq (E:=abz) (aQ B_ (aQ tH bD)) func216 (it:=λN=>VP N) (λN=>(bT (TE N) ch)) oi.b oi.vo

def XK:=en [(49,sJ),(215,W3),(216,W4),(162,Aw)] [(4,[1,2,3]),(9,[1,2,4])]
def ahD:Fn [.I, .R, .R, .R, .R, .I, .R, .R, .I] As:=λa b c d e f g h i=>[aV [.n a, .sh 51 b, .sh 9 c, .sh 9 d, .sh 45 e, .n f, .sh 127 g, .sh 55 h, .n i]]
def ak6:Fn [.B] Res:=λa=>⟨[aB a],[]⟩
def vK:Fn [.B, .I, .I, .R, .R, .R, .R, .I, .R, .R, .I] Tb:=λa b c d e f g h i j k=>[cP 2 0,cA 4 (.b a),cI 6 b,oB 1 [.n c, .sh 51 d, .sh 9 e, .sh 9 f, .sh 45 g, .n h, .sh 127 i, .sh 55 j, .n k]]
def vL:Fn [.B, .I, .I, .R, .R, .R, .R, .I, .R, .R, .I] Tb:=λa b c d e f g h i j k=>[cP 2 0,cA 4 (.b a),cI 8 b,oB 1 [.n c, .sh 51 d, .sh 9 e, .sh 9 f, .sh 45 g, .n h, .sh 127 i, .sh 55 j, .n k]]
def ME(N:Nat)(K:Kt R):=kL.l4 N (J vK .ret K) (J vK (.exit 0) K)
def MF(N:Nat)(K:Kt R):=kL.l9 N (J vL .ret K) (J vL (.exit 2) K)
def OD(N:Nat):It R:=(lp 4 (al vK (λK=>ME N K N) an) (lp 9 (al vL (λK=>MF N K N) an) ln))
theorem Tn(N:Nat):c5 XK (OD N (R:=R)) (cB f161 4):=lq 4 vK (ME N) λK g=>kL.r4 N g (J vK .ret K) (J vK (.exit 0) K)
theorem To(N:Nat):c5 XK (OD N (R:=R)) (cB f161 9):=lq 9 vL (MF N) λK g=>kL.r9 N g (J vL .ret K) (J vL (.exit 2) K)
def Qp:=spf ahD ak6 kL.c kL.v
theorem Wa:FO 161 Qp:=fq (E:=XK) (aQ tH (aQ adM (aQ adN (aQ B_ bD)))) func161 (it:=λN=>OD N) (λN=>(bT (Tn N) (bT (To N) ch))) kL.b kL.vo

def abq:=en [] [(2,[1,2,4,5,6])]
def ahF:Fn [.I, .R, .R, .R, .R, .I, .R, .R, .I, .S] As:=λa b c d e f g h i j=>[aV [.n a, .sh 51 b, .sh 9 c, .sh 9 d, .sh 45 e, .n f, .sh 127 g, .sh 55 h, .n i],aS j]
def ak8:Fn [.S, .I, .I, .S, .B] Res:=λa b c d e=>⟨[aV [.s a, .n b, .n c, .s d],aB e],[]⟩
def vM:Fn [.S, .B, .I, .I, .R, .R, .R, .R, .I, .R, .R, .I, .S, .I, .I, .S] Tb:=λa b c d e f g h i j k l m o p q=>[cA 2 (.s a),cP 4 0,cP 8 1,cA 10 (.b b),cI 12 c,oB 1 [.n d, .sh 51 e, .sh 9 f, .sh 9 g, .sh 45 h, .n i, .sh 127 j, .sh 55 k, .n l],oB 3 [.s m, .n o, .n p, .s q]]
def MG(N:Nat)(K:Kt R):=uj.l2 N (J vM .ret K) (J vM (.exit 0) K)
def VH(N:Nat):It R:=(lp 2 (al vM (λK=>MG N K N) an) ln)
theorem Tp(N:Nat):c5 abq (VH N (R:=R)) (cB f163 2):=lq 2 vM (MG N) λK g=>uj.r2 N g (J vM .ret K) (J vM (.exit 0) K)
def WQ:=spf ahF ak8 uj.c uj.v
theorem adC:FO 163 WQ:=fq (E:=abq) bD func163 (it:=λN=>VH N) (λN=>(bT (Tp N) ch)) uj.b uj.vo

def aiV:=en [(217,Gh),(49,sJ)] []
def ahG:Fn [.S, .I, .I, .S, .I] As:=λa b c d e=>[aV [.s a, .n b, .n c, .s d],aI e]
def ak9:Fn [.B] Res:=λa=>⟨[aB a],[]⟩
def J8:=spf ahG ak9 (ct _) sE.v
theorem O8:FO 164 J8:=ft (E:=aiV) (aQ JS (aQ tH bD)) func164 sE.b λ(a0,a1,a2,a3,a4,_)=>sE.im _ a0 a1 a2 a3 a4

def XO:=en [] [(2,[0,1,5]),(6,[0,1,5,6])]
def aiI:Fn [.I, .S] As:=λa b=>[.v false [.i .u32 a],aS b]
def amb:Fn [.I] Res:=λa=>⟨[.v false [.i .u32 a]],[]⟩
def C4:Fn [.I, .S, .I] Tb:=λa b c=>[cA 0 (.i .u32 a),cA 2 (.s b),cI 10 c]
def C5:Fn [.I, .S, .I, .I] Tb:=λa b c d=>[cA 0 (.i .u32 a),cA 2 (.s b),cI 10 c,cI 12 d]
def Nb(N:Nat)(K:Kt R):=iP.l2 N (J C4 (.exit 0) K)
def Nc(N:Nat)(K:Kt R):=iP.l6 N (J C5 (.exit 2) K)
def OI(N:Nat):It R:=(lp 2 (al C4 (λK=>Nb N K N) an) (lp 6 (al C5 (λK=>Nc N K N) an) ln))
theorem TY(N:Nat):c5 XO (OI N (R:=R)) (cB f276 2):=lq 2 C4 (Nb N) λK g=>iP.r2 N g (J C4 (.exit 0) K)
theorem TZ(N:Nat):c5 XO (OI N (R:=R)) (cB f276 6):=lq 6 C5 (Nc N) λK g=>iP.r6 N g (J C5 (.exit 2) K)
def Xf:=spf aiI amb iP.c iP.v
theorem adZ:FO 276 Xf:=fq (E:=XO) bD func276 (it:=λN=>OI N) (λN=>(bT (TY N) (bT (TZ N) ch))) iP.b iP.vo

def ajb:=en [(276,Xf)] []
def aiz:Fn [.S] As:=λa=>[aS a]
def al3:Fn [.I] Res:=λa=>⟨[.v false [.i .u32 a]],[]⟩
def QF:=spf aiz al3 tf.c tf.v
theorem Wn:FO 259 QF:=fr (E:=ajb) (aQ adZ bD) func259 tf.b tf.vo

def ai3:=en [(259,QF)] []
def aif:Fn [.I, .S] As:=λa b=>[aI a,aS b]
def alK:Fn [.I] Res:=λa=>⟨[aI a],[]⟩
def Qx:=spf aif alK iE.c iE.v
theorem Wi:FO 223 Qx:=fr (E:=ai3) (aQ Wn bD) func223 iE.b iE.vo

def RA:=en [(180,Ka),(222,Kc),(223,Qx)] [(5,[1,4,5,6]),(14,[4,5,8]),(17,[4,5,8,9])]
def ahL:Fn [.R, .I, .S] As:=λa b c=>[aV [.sh 45 a, .n b],aS c]
def ald:Fn [.R, .I] Res:=λa b=>⟨[aV [.ow 45 true a, .n b]],[]⟩
def CO:Fn [.S, .I, .I, .I, .R] Tb:=λa b c d e=>[cA 2 (.s a),cP 8 0,cP 10 1,cI 12 b,oB 1 [.nl, .n c],oB 3 [.own 2, .n d],oR 5 45 e]
def yv:Fn [.I, .I, .I, .R] Tb:=λa b c d=>[cP 8 0,cP 10 1,cI 16 a,oB 1 [.nl, .n b],oB 3 [.own 2, .n c],oR 5 45 d]
def yw:Fn [.I, .I, .I, .I, .R] Tb:=λa b c d e=>[cP 8 0,cP 10 1,cI 16 a,cI 18 b,oB 1 [.nl, .n c],oB 3 [.own 2, .n d],oR 5 45 e]
def MK(N:Nat)(K:Kt R):=dy.l5 N (J CO (.exit 0) K)
def IE(N:Nat)(K:Kt R):=dy.Zz N (J yv (.exit 2) K)
def IG(N:Nat)(K:Kt R):=dy.ZA N (J yw (.exit 4) K)
def JE(N:Nat):It R:=(lp 5 (al CO (λK=>MK N K N) an) (lp 14 (al yv (λK=>IE N K N) an) (lp 17 (al yw (λK=>IG N K N) an) ln)))
theorem Tv(N:Nat):c5 RA (JE N (R:=R)) (cB f169 5):=lq 5 CO (MK N) λK g=>dy.r5 N g (J CO (.exit 0) K)
theorem OV(N:Nat):c5 RA (JE N (R:=R)) (cB f169 14):=lq 14 yv (IE N) λK g=>dy.r14 N g (J yv (.exit 2) K)
theorem OX(N:Nat):c5 RA (JE N (R:=R)) (cB f169 17):=lq 17 yw (IG N) λK g=>dy.r17 N g (J yw (.exit 4) K)
def Qs:=spf ahL ald dy.c dy.v
theorem We:FO 169 Qs:=fq (E:=RA) (aQ Pb (aQ Pf (aQ Wi bD))) func169 (it:=λN=>JE N) (λN=>(bT (Tv N) (bT (OV N) (bT (OX N) ch)))) dy.b dy.vo

def abC:=en [] [(3,[0,1,5,6])]
def aic:Fn [.R, .S] As:=λa b=>[aH 9 a,aS b]
def alH:Fn [.R] Res:=λa=>⟨[aO 9 a],[]⟩
def CU:Fn [.R, .S, .I, .R] Tb:=λa b c d=>[cH 0 9 a,cA 2 (.s b),cA 10 (.own 0),cI 12 c,oR 1 9 d]
def MW(N:Nat)(K:Kt R):=nL.l3 N (J CU (.exit 0) K)
def VS(N:Nat):It R:=(lp 3 (al CU (λK=>MW N K N) an) ln)
theorem TH(N:Nat):c5 abC (VS N (R:=R)) (cB f220 3):=lq 3 CU (MW N) λK g=>nL.r3 N g (J CU (.exit 0) K)
def Qw:=spf aic alH nL.c nL.v
theorem Wh:FO 220 Qw:=fq (E:=abC) bD func220 (it:=λN=>VS N) (λN=>(bT (TH N) ch)) nL.b nL.vo

def abD:=en [(222,Kc),(223,Qx)] [(5,[1,2,5,6])]
def aid:Fn [.R, .I, .S] As:=λa b c=>[aV [.sh 45 a, .n b],aS c]
def alI:Fn [.I] Res:=λa=>⟨[aI a],[]⟩
def CW:Fn [.S, .I, .I, .R, .I] Tb:=λa b c d e=>[cA 2 (.s a),cP 4 0,cI 10 b,cI 12 c,oB 1 [.sh 45 d, .n e]]
def MX(N:Nat)(K:Kt R):=mS.l5 N (J CW (.exit 0) K)
def VT(N:Nat):It R:=(lp 5 (al CW (λK=>MX N K N) an) ln)
theorem TJ(N:Nat):c5 abD (VT N (R:=R)) (cB f221 5):=lq 5 CW (MX N) λK g=>mS.r5 N g (J CW (.exit 0) K)
def W5:=spf aid alI mS.c mS.v
theorem adO:FO 221 W5:=fq (E:=abD) (aQ Pf (aQ Wi bD)) func221 (it:=λN=>VT N) (λN=>(bT (TJ N) ch)) mS.b mS.vo

def aiW:=en [(120,Qn),(218,Qv),(162,Aw),(169,Qs),(219,Kb),(220,Qw),(221,W5)] []
def ahH:Fn [.R, .R, .R, .I, .S] As:=λa b c d e=>[aV [.sh 9 a, .sh 9 b, .sh 45 c, .n d],aS e]
def ak_:Fn [.R, .R, .R, .I, .S] Res:=λa b c d e=>⟨[aV [.ow 9 true a, .ow 9 true b, .ow 45 true c, .n d],aS e],[]⟩
def Qq:=spf ahH ak_ e8.c e8.v
theorem Wb:FO 165 Qq:=fr (E:=aiW) (aQ V_ (aQ Wg (aQ B_ (aQ We (aQ Pc (aQ Wh (aQ adO bD))))))) func165 e8.b e8.vo

def XL:=en [] [(3,[0,3,5,6]),(9,[0,3,5,7])]
def ahI:Fn [.R, .I, .S, .I, .I, .I, .S, .I] As:=λa b c d e f g h=>[aH 55 a,aV [.n b, .s c, .n d, .n e, .n f, .s g, .n h]]
def ala:Fn [.R] Res:=λa=>⟨[aO 55 a],[]⟩
def CL:Fn [.R, .I, .I, .S, .I, .I, .I, .S, .I, .R] Tb:=λa b c d e f g h i j=>[cH 0 55 a,cP 6 0,cA 10 (.own 1),cI 12 b,oB 1 [.n c, .s d, .n e, .n f, .n g, .s h, .n i],oR 3 55 j]
def CM:Fn [.R, .I, .I, .S, .I, .I, .I, .S, .I, .R] Tb:=λa b c d e f g h i j=>[cH 0 55 a,cP 6 0,cA 10 (.own 1),cI 14 b,oB 1 [.n c, .s d, .n e, .n f, .n g, .s h, .n i],oR 3 55 j]
def MH(N:Nat)(K:Kt R):=ki.l3 N (J CL (.exit 0) K)
def MI(N:Nat)(K:Kt R):=ki.l9 N (J CM (.exit 2) K)
def OE(N:Nat):It R:=(lp 3 (al CL (λK=>MH N K N) an) (lp 9 (al CM (λK=>MI N K N) an) ln))
theorem Tq(N:Nat):c5 XL (OE N (R:=R)) (cB f166 3):=lq 3 CL (MH N) λK g=>ki.r3 N g (J CL (.exit 0) K)
theorem Ts(N:Nat):c5 XL (OE N (R:=R)) (cB f166 9):=lq 9 CM (MI N) λK g=>ki.r9 N g (J CM (.exit 2) K)
def WR:=spf ahI ala ki.c ki.v
theorem adD:FO 166 WR:=fq (E:=XL) bD func166 (it:=λN=>OE N) (λN=>(bT (Tq N) (bT (Ts N) ch))) ki.b ki.vo

def abr:=en [] [(3,[0,1,5,6])]
def ahJ:Fn [.R, .S] As:=λa b=>[aH 51 a,aS b]
def alb:Fn [.R] Res:=λa=>⟨[aO 51 a],[]⟩
def CN:Fn [.R, .S, .I, .R] Tb:=λa b c d=>[cH 0 51 a,cA 2 (.s b),cA 10 (.own 0),cI 12 c,oR 1 51 d]
def MJ(N:Nat)(K:Kt R):=oN.l3 N (J CN (.exit 0) K)
def VI(N:Nat):It R:=(lp 3 (al CN (λK=>MJ N K N) an) ln)
theorem Tt(N:Nat):c5 abr (VI N (R:=R)) (cB f167 3):=lq 3 CN (MJ N) λK g=>oN.r3 N g (J CN (.exit 0) K)
def Qr:=spf ahJ alb oN.c oN.v
theorem Wc:FO 167 Qr:=fq (E:=abr) bD func167 (it:=λN=>VI N) (λN=>(bT (Tt N) ch)) oN.b oN.vo

def aiX:=en [(220,Qw),(180,Ka)] []
def ahK:Fn [.R, .R, .R, .I, .S] As:=λa b c d e=>[aV [.sh 9 a, .sh 9 b, .sh 45 c, .n d],aS e]
def alc:Fn [.R, .R, .R, .I] Res:=λa b c d=>⟨[aV [.ow 9 true a, .ow 9 true b, .ow 45 true c, .n d]],[]⟩
def WS:=spf ahK alc sF.c sF.v
theorem adE:FO 168 WS:=fr (E:=aiX) (aQ Wh (aQ Pb bD)) func168 sF.b sF.vo

def XJ:=en [(68,Ig),(161,Qp),(49,sJ),(162,Aw),(163,WQ),(164,J8),(165,Qq),(166,WR),(167,Qr),(168,WS),(169,Qs)] [(5,[1,2,3,6,7,8,9]),(22,[2,3,6,8,10,12,13])]
def ahe:Fn [.I, .R, .R, .R, .R, .I, .R, .R, .I, .I, .S] As:=λa b c d e f g h i j k=>[aV [.n a, .sh 51 b, .sh 9 c, .sh 9 d, .sh 45 e, .n f, .sh 127 g, .sh 55 h, .n i],aI j,aS k]
def akH:Fn [.I, .R, .R, .R, .R, .I, .R, .R, .I, .I] Res:=λa b c d e f g h i j=>⟨[aV [.n a, .ow 51 true b, .ow 9 true c, .ow 9 true d, .ow 45 true e, .n f, .ow 127 true g, .ow 55 true h, .n i],aI j],[]⟩
def CH:Fn [.I, .S, .I, .I, .I, .R, .R, .R, .R, .I, .R, .R, .I, .I, .I, .I, .I, .I, .I, .R, .R, .R, .R, .R, .R] Tb:=λa b c d e f g h i j k l m o p q r s t u v w x y z=>[cI 2 a,cA 4 (.s b),cP 6 0,cP 12 1,cI 14 c,cP 16 2,cI 18 d,oB 1 [.n e, .sh 51 f, .sh 9 g, .sh 9 h, .sh 45 i, .n j, .sh 127 k, .sh 55 l, .n m],oB 3 [.n o, .nl, .nl, .nl, .nl, .n p, .nl, .nl, .n q],oB 5 [.n r, .own 3, .own 4, .own 5, .own 6, .n s, .own 7, .own 8, .n t],oR 7 51 u,oR 9 9 v,oR 11 9 w,oR 13 45 x,oR 15 127 y,oR 17 55 z]
def ED:Fn [.I, .S, .I, .I, .I, .R, .R, .R, .R, .I, .R, .R, .I, .I, .I, .I, .I, .I, .I, .R, .R, .R, .R, .R, .R] Tb:=λa b c d e f g h i j k l m o p q r s t u v w x y z=>[cI 2 a,cA 4 (.s b),cP 6 0,cP 12 1,cI 14 c,cP 16 2,cI 18 d,oB 1 [.n e, .sh 51 f, .sh 9 g, .sh 9 h, .sh 45 i, .n j, .sh 127 k, .sh 55 l, .n m],oB 3 [.n o, .own 3, .own 4, .own 5, .own 6, .n p, .own 7, .own 8, .n q],oB 5 [.n r, .own 3, .own 4, .own 5, .own 6, .n s, .own 7, .own 8, .n t],oR 7 51 u,oR 9 9 v,oR 11 9 w,oR 13 45 x,oR 15 127 y,oR 17 55 z]
def yu:Fn [.S, .B, .I, .I, .R, .R, .R, .R, .I, .R, .R, .I, .I, .I, .I, .I, .I, .I, .I, .S, .I, .I, .I, .S, .I, .R, .R, .R, .R, .R, .R] Tb:=λa b c d e f g h i j k l m o p q r s t u v w x y z aa ab ac ad ae af=>[cA 4 (.s a),cP 6 0,cP 12 1,cP 16 2,cP 20 3,cA 24 (.b b),cI 26 c,oB 1 [.n d, .sh 51 e, .sh 9 f, .sh 9 g, .sh 45 h, .n i, .sh 127 j, .sh 55 k, .n l],oB 3 [.n m, .nl, .nl, .nl, .nl, .n o, .nl, .nl, .n p],oB 5 [.n q, .own 4, .own 5, .own 6, .own 7, .n r, .own 8, .own 9, .n s],oB 7 [.n t, .s u, .n v, .n w, .n x, .s y, .n z],oR 9 51 aa,oR 11 9 ab,oR 13 9 ac,oR 15 45 ad,oR 17 127 ae,oR 19 55 af]
def MB(N:Nat)(K:Kt R):=uh.l5 N (J ED .ret K) (J CH (.exit 0) K)
def IC(N:Nat)(K:Kt R):=uh.Tg N (J yu (.exit 2) K)
def OC(N:Nat):It R:=(lp 5 (al CH (λK=>MB N K N) an) (lp 22 (al yu (λK=>IC N K N) an) ln))
theorem Tk(N:Nat):c5 XJ (OC N (R:=R)) (cB f112 5):=lq 5 CH (MB N) λK g=>uh.r5 N g (J ED .ret K) (J CH (.exit 0) K)
theorem OU(N:Nat):c5 XJ (OC N (R:=R)) (cB f112 22):=lq 22 yu (IC N) λK g=>uh.r22 N g (J yu (.exit 2) K)
def WD:=spf ahe akH uh.c uh.v
theorem adv:FO 112 WD:=fq (E:=XJ) (aQ LD (aQ Wa (aQ tH (aQ B_ (aQ adC (aQ O8 (aQ Wb (aQ adD (aQ Wc (aQ adE (aQ We bD))))))))))) func112 (it:=λN=>OC N) (λN=>(bT (Tk N) (bT (OU N) ch))) uh.b uh.vo

def aiY:=en [(161,Qp),(49,sJ)] []
def ahM:Fn [.I, .R, .R, .R, .R, .I, .R, .R, .I, .I] As:=λa b c d e f g h i j=>[aV [.n a, .sh 51 b, .sh 9 c, .sh 9 d, .sh 45 e, .n f, .sh 127 g, .sh 55 h, .n i],aI j]
def ale:Fn [.B] Res:=λa=>⟨[aB a],[]⟩
def J9:=spf ahM ale sG.c sG.v
theorem O9:FO 170 J9:=fr (E:=aiY) (aQ Wa (aQ tH bD)) func170 sG.b sG.vo

def ai4:=en [] []
def aih:Fn [.I, .S, .R] As:=λa b c=>[aV [.n a, .s b, .sh 219 c]]
def alL:Fn [.I, .S, .R] Res:=λa b c=>⟨[aV [.n a, .s b, .ow 219 true c]],[]⟩
def W6:=spf aih alL G7.c G7.v
theorem adP:FO 224 W6:=fh (E:=ai4) bD func224 (it:=λ_=>ln) (λ_=>ch) (λ_=>G7.b) λx f h=>⟨0,G7.im _ x.1 x.2.1 x.2.2.1 h⟩

def abE:=en [(49,sJ)] [(2,[1,2,3])]
def aii:Fn [.I, .S, .R] As:=λa b c=>[aV [.n a, .s b, .sh 219 c]]
def alM:Fn [.B] Res:=λa=>⟨[aB a],[]⟩
def vT:Fn [.B, .I, .I, .S, .R] Tb:=λa b c d e=>[cP 2 0,cA 4 (.b a),cI 6 b,oB 1 [.n c, .s d, .sh 219 e]]
def M0(N:Nat)(K:Kt R):=qH.l2 N (J vT .ret K) (J vT (.exit 0) K)
def VU(N:Nat):It R:=(lp 2 (al vT (λK=>M0 N K N) an) ln)
theorem TM(N:Nat):c5 abE (VU N (R:=R)) (cB f225 2):=lq 2 vT (M0 N) λK g=>qH.r2 N g (J vT .ret K) (J vT (.exit 0) K)
def W7:=spf aii alM (ct _) qH.v
theorem adQ:FO 225 W7:=fh (E:=abE) (aQ tH bD) func225 (it:=λN=>VU N) (λN=>(bT (TM N) ch)) qH.b λx f h=>qH.im _ x.1 x.2.1 x.2.2.1 f.1.2.1 f.1.2.2.1

def aiZ:=en [(224,W6),(225,W7),(49,sJ)] []
def ahN:Fn [.I, .S, .R, .S] As:=λa b c d=>[aV [.n a, .s b, .sh 219 c],aS d]
def alf:Fn [.I, .S, .R, .B] Res:=λa b c d=>⟨[aV [.n a, .s b, .ow 219 true c],aB d],[]⟩
def WT:=spf ahN alf Da.c Da.v
theorem adF:FO 171 WT:=fh (E:=aiZ) (aQ adP (aQ adQ (aQ tH bD))) func171 (it:=λ_=>ln) (λ_=>ch) (λ_=>Da.b) λx f h=>⟨0,Da.im _ x.1 x.2.1 x.2.2.1 x.2.2.2.1 h f.1.2.1 f.1.2.2.1 f.2.1.1⟩

def abt:=en [] [(1,[0,1,2,6])]
def ahO:Fn [.I, .R, .R, .R, .R, .I, .R, .R, .I, .I, .I] As:=λa b c d e f g h i j k=>[.pt [.n a, .ow 51 true b, .ow 9 true c, .ow 9 true d, .ow 45 true e, .n f, .ow 127 true g, .ow 55 true h, .n i],aI j,aI k]
def alg:Fn [.I, .R, .R, .R, .R, .I, .R, .R, .I] Res:=λa b c d e f g h i=>⟨[],[[.n a, .kp b, .kp c, .kp d, .kp e, .n f, .kp g, .kp h, .n i]]⟩
def CP:Fn [.I, .I, .I, .I, .I, .I, .R, .R, .R, .R, .R, .R] Tb:=λa b c d e f g h i j k l=>[cP 0 900000900,cI 2 a,cI 4 b,cI 12 c,oB 1800001801 [.n d, .own 900000001, .own 900000002, .own 900000003, .own 900000004, .n e, .own 900000006, .own 900000007, .n f],oR 1800000003 51 g,oR 1800000005 9 h,oR 1800000007 9 i,oR 1800000009 45 j,oR 1800000013 127 k,oR 1800000015 55 l]
def ML(N:Nat)(K:Kt R):=qF.l1 N (J CP (.exit 0) K)
def VJ(N:Nat):It R:=(lp 1 (al CP (λK=>ML N K N) an) ln)
theorem Tw(N:Nat):c5 abt (VJ N (R:=R)) (cB f172 1):=lq 1 CP (ML N) λK g=>qF.r1 N g (J CP (.exit 0) K)
def J_:=spf ahO alg qF.c qF.v
theorem O_:FO 172 J_:=fq (E:=abt) bD func172 (it:=λN=>VJ N) (λN=>(bT (Tw N) ch)) qF.b qF.vo

def aiO:=en [(68,Ig),(170,J9),(171,WT),(172,J_)] []
def ahf:Fn [.I, .R, .R, .R, .R, .I, .R, .R, .I, .I, .S] As:=λa b c d e f g h i j k=>[aV [.n a, .sh 51 b, .sh 9 c, .sh 9 d, .sh 45 e, .n f, .sh 127 g, .sh 55 h, .n i],aI j,aS k]
def akI:Fn [.I, .R, .R, .R, .R, .I, .R, .R, .I, .B] Res:=λa b c d e f g h i j=>⟨[aV [.n a, .ow 51 true b, .ow 9 true c, .ow 9 true d, .ow 45 true e, .n f, .ow 127 true g, .ow 55 true h, .n i],aB j],[]⟩
def WE:=spf ahf akI A4.c A4.v
theorem adw:FO 113 WE:=fr (E:=aiO) (aQ LD (aQ O9 (aQ adF (aQ O_ bD)))) func113 A4.b A4.vo

def XN:=en [] [(3,[0,3,5,6]),(9,[0,3,5,7])]
def air:Fn [.R, .S, .I, .I, .S] As:=λa b c d e=>[aH 51 a,aV [.s b, .n c, .n d, .s e]]
def alV:Fn [.R] Res:=λa=>⟨[aO 51 a],[]⟩
def CY:Fn [.R, .I, .S, .I, .I, .S, .R] Tb:=λa b c d e f g=>[cH 0 51 a,cP 6 0,cA 10 (.own 1),cI 12 b,oB 1 [.s c, .n d, .n e, .s f],oR 3 51 g]
def CZ:Fn [.R, .I, .S, .I, .I, .S, .R] Tb:=λa b c d e f g=>[cH 0 51 a,cP 6 0,cA 10 (.own 1),cI 14 b,oB 1 [.s c, .n d, .n e, .s f],oR 3 51 g]
def M4(N:Nat)(K:Kt R):=eT.l3 N (J CY (.exit 0) K)
def M5(N:Nat)(K:Kt R):=eT.l9 N (J CZ (.exit 2) K)
def OH(N:Nat):It R:=(lp 3 (al CY (λK=>M4 N K N) an) (lp 9 (al CZ (λK=>M5 N K N) an) ln))
theorem TQ(N:Nat):c5 XN (OH N (R:=R)) (cB f234 3):=lq 3 CY (M4 N) λK g=>eT.r3 N g (J CY (.exit 0) K)
theorem TR(N:Nat):c5 XN (OH N (R:=R)) (cB f234 9):=lq 9 CZ (M5 N) λK g=>eT.r9 N g (J CZ (.exit 2) K)
def QA:=spf air alV eT.c eT.v
theorem Wl:FO 234 QA:=fq (E:=XN) bD func234 (it:=λN=>OH N) (λN=>(bT (TQ N) (bT (TR N) ch))) eT.b eT.vo

def ai5:=mkE T md [(165,Qq),(167,Qr),(258,QE),(234,QA)] [] [] [(0,1, .own 51),(0,2, .own 9),(0,3, .own 9),(0,4, .own 45)]
def aij:Fn [.I, .R, .R, .R, .R, .I, .R, .R, .I, .S, .I, .I, .S] As:=λa b c d e f g h i j k l m=>[.pt [.n a, .ow 51 true b, .ow 9 true c, .ow 9 true d, .ow 45 true e, .n f, .ow 127 true g, .ow 55 true h, .n i],aV [.s j, .n k, .n l, .s m]]
def alN:Fn [.I, .R, .R, .R, .R, .I, .R, .R, .I] Res:=λa b c d e f g h i=>⟨[],[[.n a, .ow 51 true b, .ow 9 true c, .ow 9 true d, .ow 45 true e, .n f, .kp g, .kp h, .n i]]⟩
def Qy:=spf aij alN v_.c v_.v
theorem Wj:FO 226 Qy:=fr (E:=ai5) (aQ Wb (aQ Wc (aQ Wm (aQ Wl bD)))) func226 v_.b v_.vo

def ai0:=en [(68,Ig),(170,J9),(49,sJ),(172,J_),(226,Qy)] []
def ahP:Fn [.I, .R, .R, .R, .R, .I, .R, .R, .I, .I, .I] As:=λa b c d e f g h i j k=>[aV [.n a, .sh 51 b, .sh 9 c, .sh 9 d, .sh 45 e, .n f, .sh 127 g, .sh 55 h, .n i],aI j,aI k]
def alh:Fn [.I, .R, .R, .R, .R, .I, .R, .R, .I, .B] Res:=λa b c d e f g h i j=>⟨[aV [.n a, .ow 51 true b, .ow 9 true c, .ow 9 true d, .ow 45 true e, .n f, .ow 127 true g, .ow 55 true h, .n i],aB j],[]⟩
def WU:=spf ahP alh Bb.c Bb.v
theorem adG:FO 173 WU:=fr (E:=ai0) (aQ LD (aQ O9 (aQ tH (aQ O_ (aQ Wj bD))))) func173 Bb.b Bb.vo

def abH:=en [] [(2,[0,3])]
def aiA:Fn [.I] As:=λa=>[aI a]
def al4:Fn [.S] Res:=λa=>⟨[aS a],[]⟩
def C2:Fn [.I, .R] Tb:=λa b=>[cI 0 a,cA 6 (.own 0),oR 1 5 b]
def M6(N:Nat)(K:Kt R):=jt.l2 N (J C2 (.exit 0) K)
def VX(N:Nat):It R:=(lp 2 (al C2 (λK=>M6 N K N) an) ln)
theorem TS(N:Nat):c5 abH (VX N (R:=R)) (cB f260 2):=lq 2 C2 (M6 N) λK g=>jt.r2 N g (J C2 (.exit 0) K)
def Kf:=spf aiA al4 jt.c jt.v
theorem Pj:FO 260 Kf:=fh (E:=abH) bD func260 (it:=λN=>VX N) (λN=>(bT (TS N) ch)) jt.b λx f h=>jt.im _ x.1 h

def ai6:=en [(217,Gh),(260,Kf)] []
def aik:Fn [.S, .I, .I, .S] As:=λa b c d=>[aV [.s a, .n b, .n c, .s d]]
def alO:Fn [.S, .B] Res:=λa b=>⟨[aS a,aB b],[]⟩
def Kd:=spf aik alO (ct _) jb.v
theorem Pg:FO 227 Kd:=fh (E:=ai6) (aQ JS (aQ Pj bD)) func227 (it:=λ_=>ln) (λ_=>ch) (λ_=>jb.b) λx f h=>⟨0,jb.im _ x.1 x.2.1 x.2.2.1 x.2.2.2.1⟩

def ajc:=en [] []
def aiB:Fn [.I] As:=λa=>[.v false [.i .u32 a]]
def al5:Fn [.S] Res:=λa=>⟨[aS a],[]⟩
def Xb:=spf aiB al5 (ct _) oj.v
theorem adU:FO 261 Xb:=ft (E:=ajc) bD func261 oj.b λ(a0,_)=>oj.im _ a0

def ai7:=en [(49,sJ),(260,Kf),(259,QF),(261,Xb)] []
def ail:Fn [.S] As:=λa=>[aS a]
def alP:Fn [.S, .B] Res:=λa b=>⟨[aS a,aB b],[]⟩
def Ke:=spf ail alP e_.c e_.v
theorem Ph:FO 228 Ke:=fr (E:=ai7) (aQ tH (aQ Pj (aQ Wn (aQ adU bD)))) func228 e_.b e_.vo

def ai1:=en [(227,Kd),(228,Ke)] []
def ahQ:Fn [.S, .I, .I, .S] As:=λa b c d=>[aV [.s a, .n b, .n c, .s d]]
def ali:Fn [.R, .B] Res:=λa b=>⟨[aO 184 a,aB b],[]⟩
def WV:=spf ahQ ali Bc.c Bc.v
theorem adH:FO 174 WV:=fr (E:=ai1) (aQ Pg (aQ Ph bD)) func174 Bc.b Bc.vo

def ajd:=en [(49,sJ)] []
def aiC:Fn [.S] As:=λa=>[aS a]
def al6:Fn [.B] Res:=λa=>⟨[aB a],[]⟩
def QG:=spf aiC al6 (ct _) th.v
theorem Wp:FO 262 QG:=ft (E:=ajd) (aQ tH bD) func262 th.b λ(a0,_)=>th.im _ a0

def abF:=en [(262,QG),(49,sJ)] [(4,[1,2,3])]
def ain:Fn [.R] As:=λa=>[aV [.sh 189 a]]
def alR:Fn [.B] Res:=λa=>⟨[aB a],[]⟩
def vU:Fn [.B, .I, .R] Tb:=λa b c=>[cP 2 0,cA 4 (.b a),cI 6 b,oB 1 [.sh 189 c]]
def M1(N:Nat)(K:Kt R):=eO.l4 N (J vU .ret K) (J vU (.exit 0) K)
def VV(N:Nat):It R:=(lp 4 (al vU (λK=>M1 N K N) an) ln)
theorem TN(N:Nat):c5 abF (VV N (R:=R)) (cB f230 4):=lq 4 vU (M1 N) λK g=>eO.r4 N g (J vU .ret K) (J vU (.exit 0) K)
def Gi:=spf ain alR eO.c eO.v
theorem JT:FO 230 Gi:=fq (E:=abF) (aQ Wp (aQ tH bD)) func230 (it:=λN=>VV N) (λN=>(bT (TN N) ch)) eO.b eO.vo

def abI:=en [] [(2,[1,2,4,5])]
def aiD:Fn [.R, .S] As:=λa b=>[aV [.sh 189 a],aS b]
def al7:Fn [.I] Res:=λa=>⟨[aI a],[]⟩
def vV:Fn [.S, .I, .I, .R] Tb:=λa b c d=>[cA 2 (.s a),cP 4 0,cI 8 b,cI 10 c,oB 1 [.sh 189 d]]
def M7(N:Nat)(K:Kt R):=ju.l2 N (J vV .ret K) (J vV (.exit 0) K)
def VY(N:Nat):It R:=(lp 2 (al vV (λK=>M7 N K N) an) ln)
theorem TT(N:Nat):c5 abI (VY N (R:=R)) (cB f263 2):=lq 2 vV (M7 N) λK g=>ju.r2 N g (J vV .ret K) (J vV (.exit 0) K)
def QH:=spf aiD al7 ju.c ju.v
theorem Wq:FO 263 QH:=fq (E:=abI) bD func263 (it:=λN=>VY N) (λN=>(bT (TT N) ch)) ju.b ju.vo

def Mw:=en [] [(3,[2,3,4,5,6]),(9,[2,3,4,5,7])]
def aiE:Fn [.R, .S, .S, .I] As:=λa b c d=>[aV [.sh 189 a],aV [.s b, .s c, .n d]]
def al8:Fn [.R] Res:=λa=>⟨[aV [.ow 189 true a]],[]⟩
def pW:Fn [.I, .R, .S, .S, .I] Tb:=λa b c d e=>[cP 4 0,cP 6 1,cP 8 2,cP 10 3,cI 12 a,oB 1 [.sh 189 b],oB 3 [.s c, .s d, .n e],oB 5 [.nl],oB 7 [.nl]]
def nc:Fn [.I, .R, .S, .S, .I, .R] Tb:=λa b c d e f=>[cP 4 0,cP 6 1,cP 8 2,cP 10 3,cI 12 a,oB 1 [.sh 189 b],oB 3 [.s c, .s d, .n e],oB 5 [.nl],oB 7 [.own 4],oR 9 189 f]
def C3:Fn [.I, .R, .S, .S, .I, .R] Tb:=λa b c d e f=>[cP 4 0,cP 6 1,cP 8 2,cP 10 3,cI 14 a,oB 1 [.sh 189 b],oB 3 [.s c, .s d, .n e],oB 5 [.nl],oB 7 [.own 4],oR 9 189 f]
def M8(N:Nat)(K:Kt R):=jM.l3 N (J pW (.exit 0) K) (J nc (.exit 0) K)
def IJ(N:Nat)(K:Kt R):=jM.oa N (J pW (.exit 0) K) (J nc (.exit 0) K)
def M9(N:Nat)(K:Kt R):=jM.l9 N (J C3 (.exit 2) K)
def FH(N:Nat):It R:=(lp 3 (al pW (λK=>M8 N K N) (al nc (λK=>IJ N K N) an)) (lp 9 (al C3 (λK=>M9 N K N) an) ln))
theorem Kp(N:Nat)(K:Kt R):Wd Mw (FH N) (cB f264 3) 3 K nc (IJ N K):=lw (λg=>jM.uU N (cmp _ pW (g∘eJ)) (cmp _ nc (g∘eJ)) (J pW (.exit 0) K) (J nc (.exit 0) K)) λm i=>by simp only[Function.comp_def,wf i];rfl
theorem aaf(N:Nat)(K:Kt R):Wd Mw (FH N) (cB f264 3) 3 K pW (M8 N K):=lw (λg=>jM.r3 N (cmp _ pW (g∘eJ)) (cmp _ nc (g∘eJ)) (J pW (.exit 0) K) (J nc (.exit 0) K)) λm i=>by simp only[Function.comp_def,wf i,wf (Kp N K m)];rfl
theorem TU(N:Nat):c5 Mw (FH N (R:=R)) (cB f264 3):=lm 3 (ga pW (aaf N) (ga nc (Kp N) ni))
theorem TV(N:Nat):c5 Mw (FH N (R:=R)) (cB f264 9):=lq 9 C3 (M9 N) λK g=>jM.r9 N g (J C3 (.exit 2) K)
def Xc:=spf aiE al8 jM.c jM.v
theorem adV:FO 264 Xc:=fq (E:=Mw) bD func264 (it:=λN=>FH N) (λN=>(bT (TU N) (bT (TV N) ch))) jM.b jM.vo

def RD:=en [] [(3,[1,2,4,5,6])]
def aiF:Fn [.R, .S] As:=λa b=>[aV [.sh 189 a],aS b]
def al9:Fn [.R] Res:=λa=>⟨[aV [.ow 189 true a]],[]⟩
def pX:Fn [.S, .I, .R] Tb:=λa b c=>[cA 2 (.s a),cP 4 0,cP 8 1,cP 10 2,cI 12 b,oB 1 [.sh 189 c],oB 3 [.nl],oB 5 [.nl]]
def ng:Fn [.S, .I, .R, .R] Tb:=λa b c d=>[cA 2 (.s a),cP 4 0,cP 8 1,cP 10 2,cI 12 b,oB 1 [.sh 189 c],oB 3 [.nl],oB 5 [.own 3],oR 7 189 d]
def M_(N:Nat)(K:Kt R):=k_.l3 N (J pX (.exit 0) K) (J ng (.exit 0) K)
def IK(N:Nat)(K:Kt R):=k_.oa N (J pX (.exit 0) K) (J ng (.exit 0) K)
def JH(N:Nat):It R:=(lp 3 (al pX (λK=>M_ N K N) (al ng (λK=>IK N K N) an)) ln)
theorem Kq(N:Nat)(K:Kt R):Wd RD (JH N) (cB f265 3) 3 K ng (IK N K):=lw (λg=>k_.uU N (cmp _ pX (g∘eJ)) (cmp _ ng (g∘eJ)) (J pX (.exit 0) K) (J ng (.exit 0) K)) λm i=>by simp only[Function.comp_def,wf i];rfl
theorem aag(N:Nat)(K:Kt R):Wd RD (JH N) (cB f265 3) 3 K pX (M_ N K):=lw (λg=>k_.r3 N (cmp _ pX (g∘eJ)) (cmp _ ng (g∘eJ)) (J pX (.exit 0) K) (J ng (.exit 0) K)) λm i=>by simp only[Function.comp_def,wf i,wf (Kq N K m)];rfl
theorem TW(N:Nat):c5 RD (JH N (R:=R)) (cB f265 3):=lm 3 (ga pX (aag N) (ga ng (Kq N) ni))
def Xd:=spf aiF al9 k_.c k_.v
theorem adW:FO 265 Xd:=fq (E:=RD) bD func265 (it:=λN=>JH N) (λN=>(bT (TW N) ch)) k_.b k_.vo

def ai8:=en [(230,Gi),(262,QG),(263,QH),(264,Xc),(265,Xd)] []
def aim:Fn [.R, .I, .S, .S, .S] As:=λa b c d e=>[aV [.sh 189 a],aV [.n b, .s c, .s d, .s e]]
def alQ:Fn [.R, .B] Res:=λa b=>⟨[aV [.ow 189 true a],aB b],[]⟩
def W8:=spf aim alQ zf.c zf.v
theorem adR:FO 229 W8:=fr (E:=ai8) (aQ JT (aQ Wp (aQ Wq (aQ adV (aQ adW bD))))) func229 zf.b zf.vo

def abu:=en [(229,W8)] [(3,[1,4,5,6,7])]
def ahR:Fn [.R, .R] As:=λa b=>[aV [.sh 189 a],aH 184 b]
def alj:Fn [.R, .I] Res:=λa b=>⟨[aV [.ow 189 true a],aI b],[]⟩
def CQ:Fn [.R, .I, .I, .R] Tb:=λa b c d=>[cH 2 184 a,cP 8 0,cI 10 b,cP 12 1,cI 14 c,oB 1 [.nl],oB 3 [.own 2],oR 5 189 d]
def EE:Fn [.R, .I, .I, .R] Tb:=λa b c d=>[cH 2 184 a,cP 8 0,cI 10 b,cP 12 1,cI 14 c,oB 1 [.own 2],oB 3 [.own 2],oR 5 189 d]
def MM(N:Nat)(K:Kt R):=oO.l3 N (J EE .ret K) (J CQ (.exit 0) K)
def VK(N:Nat):It R:=(lp 3 (al CQ (λK=>MM N K N) an) ln)
theorem Tx(N:Nat):c5 abu (VK N (R:=R)) (cB f175 3):=lq 3 CQ (MM N) λK g=>oO.r3 N g (J EE .ret K) (J CQ (.exit 0) K)
def Qt:=spf ahR alj oO.c oO.v
theorem Wf:FO 175 Qt:=fq (E:=abu) (aQ adR bD) func175 (it:=λN=>VK N) (λN=>(bT (Tx N) ch)) oO.b oO.vo

def aiS:=en [] []
def ahl:Fn [.B] As:=λa=>[aB a]
def akO:Fn [.I] Res:=λa=>⟨[aI a],[]⟩
def Qm:=spf ahl akO (ct _) xM.v
theorem V9:FO 119 Qm:=ft (E:=aiS) bD func119 xM.b λ(a0,_)=>xM.im _ a0

def aiP:=mkE T md [(173,WU),(174,WV),(175,Qt),(119,Qm)] [] [] [(0,1, .own 51),(0,2, .own 9),(0,3, .own 9),(0,4, .own 45),(0,6, .own 127),(0,7, .own 55),(0,9, .own 189),(0,10, .own 3),(0,11, .own 51)]
def ahg:Fn [.I, .R, .R, .R, .R, .I, .R, .R, .I, .R, .R, .R, .I, .I, .S, .I, .R] As:=λa b c d e f g h i j k l m o p q r=>[.pt [.n a, .ow 51 true b, .ow 9 true c, .ow 9 true d, .ow 45 true e, .n f, .ow 127 true g, .ow 55 true h, .n i, .ow 189 true j, .ow 3 true k, .ow 51 true l],aV [.n m, .n o, .s p, .n q, .sh 3 r]]
def akJ:Fn [.I, .I, .R, .R, .R, .R, .I, .R, .R, .I, .R, .R, .R] Res:=λa b c d e f g h i j k l m=>⟨[aI a],[[.n b, .ow 51 true c, .ow 9 true d, .ow 9 true e, .ow 45 true f, .n g, .ow 127 true h, .ow 55 true i, .n j, .ow 189 true k, .ow 3 true l, .ow 51 true m]]⟩
def WG:=spf ahg akJ A6.c A6.v
theorem adx:FO 114 WG:=fr (E:=aiP) (aQ adG (aQ adH (aQ Wf (aQ V9 bD)))) func114 A6.b A6.vo

def aiQ:=en [(68,Ig),(170,J9),(172,J_)] []
def ahh:Fn [.I, .R, .R, .R, .R, .I, .R, .R, .I, .I] As:=λa b c d e f g h i j=>[aV [.n a, .sh 51 b, .sh 9 c, .sh 9 d, .sh 45 e, .n f, .sh 127 g, .sh 55 h, .n i],aI j]
def akK:Fn [.I, .R, .R, .R, .R, .I, .R, .R, .I, .B] Res:=λa b c d e f g h i j=>⟨[aV [.n a, .ow 51 true b, .ow 9 true c, .ow 9 true d, .ow 45 true e, .n f, .ow 127 true g, .ow 55 true h, .n i],aB j],[]⟩
def WH:=spf ahh akK A7.c A7.v
theorem ady:FO 115 WH:=fr (E:=aiQ) (aQ LD (aQ O9 (aQ O_ bD))) func115 A7.b A7.vo

def aiR:=en [(68,Ig)] []
def ahi:Fn [.I, .R, .R, .R, .R, .I, .R, .R, .I, .I] As:=λa b c d e f g h i j=>[aV [.n a, .sh 51 b, .sh 9 c, .sh 9 d, .sh 45 e, .n f, .sh 127 g, .sh 55 h, .n i],aI j]
def akL:Fn [.I, .R, .R, .R, .R, .I, .R, .R, .I] Res:=λa b c d e f g h i=>⟨[aV [.n a, .ow 51 true b, .ow 9 true c, .ow 9 true d, .ow 45 true e, .n f, .ow 127 true g, .ow 55 true h, .n i]],[]⟩
def WI:=spf ahi akL ta.c ta.v
theorem adz:FO 116 WI:=fr (E:=aiR) (aQ LD bD) func116 ta.b ta.vo

def abp:=en [(68,Ig)] [(4,[1,2,4,5,6])]
def ahj:Fn [.I, .R, .R, .R, .R, .I, .R, .R, .I, .I] As:=λa b c d e f g h i j=>[aV [.n a, .sh 51 b, .sh 9 c, .sh 9 d, .sh 45 e, .n f, .sh 127 g, .sh 55 h, .n i],aI j]
def akM:Fn [.I, .R, .R, .R, .R, .I, .R, .R, .I] Res:=λa b c d e f g h i=>⟨[aV [.n a, .ow 51 true b, .ow 9 true c, .ow 9 true d, .ow 45 true e, .n f, .ow 127 true g, .ow 55 true h, .n i]],[]⟩
def CI:Fn [.I, .I, .I, .R, .R, .R, .R, .I, .R, .R, .I, .I, .I, .I, .I, .I, .I, .R, .R, .R, .R, .R, .R] Tb:=λa b c d e f g h i j k l m o p q r s t u v w x=>[cI 2 a,cP 4 0,cP 8 1,cP 10 2,cI 12 b,oB 1 [.n c, .sh 51 d, .sh 9 e, .sh 9 f, .sh 45 g, .n h, .sh 127 i, .sh 55 j, .n k],oB 3 [.n l, .nl, .nl, .nl, .nl, .n m, .nl, .nl, .n o],oB 5 [.n p, .own 3, .own 4, .own 5, .own 6, .n q, .own 7, .own 8, .n r],oR 7 51 s,oR 9 9 t,oR 11 9 u,oR 13 45 v,oR 15 127 w,oR 17 55 x]
def MC(N:Nat)(K:Kt R):=tc.l4 N (J CI (.exit 0) K)
def VG(N:Nat):It R:=(lp 4 (al CI (λK=>MC N K N) an) ln)
theorem Tl(N:Nat):c5 abp (VG N (R:=R)) (cB f117 4):=lq 4 CI (MC N) λK g=>tc.r4 N g (J CI (.exit 0) K)
def WJ:=spf ahj akM tc.c tc.v
theorem adA:FO 117 WJ:=fq (E:=abp) (aQ LD bD) func117 (it:=λN=>VG N) (λN=>(bT (Tl N) ch)) tc.b tc.vo

def RB:=en [(230,Gi)] [(5,[1,2,4,6,7])]
def ahS:Fn [.R, .R] As:=λa b=>[aV [.sh 189 a],aH 3 b]
def alk:Fn [.R, .B] Res:=λa b=>⟨[aV [.ow 189 true a],aB b],[]⟩
def pU:Fn [.R, .I, .R] Tb:=λa b c=>[cH 2 3 a,cP 4 0,cP 8 1,cP 12 2,cI 14 b,oB 1 [.sh 189 c],oB 3 [.nl],oB 5 [.nl]]
def na:Fn [.R, .I, .R, .R] Tb:=λa b c d=>[cH 2 3 a,cP 4 0,cP 8 1,cP 12 2,cI 14 b,oB 1 [.sh 189 c],oB 3 [.nl],oB 5 [.own 3],oR 7 189 d]
def MN(N:Nat)(K:Kt R):=uk.l5 N (J pU (.exit 0) K) (J na (.exit 0) K)
def IH(N:Nat)(K:Kt R):=uk.l5a N (J pU (.exit 0) K) (J na (.exit 0) K)
def JF(N:Nat):It R:=(lp 5 (al pU (λK=>MN N K N) (al na (λK=>IH N K N) an)) ln)
theorem Kn(N:Nat)(K:Kt R):Wd RB (JF N) (cB f176 5) 5 K na (IH N K):=lw (λg=>uk.r5a N (cmp _ pU (g∘eJ)) (cmp _ na (g∘eJ)) (J pU (.exit 0) K) (J na (.exit 0) K)) λm i=>by simp only[Function.comp_def,wf i];rfl
theorem aad(N:Nat)(K:Kt R):Wd RB (JF N) (cB f176 5) 5 K pU (MN N K):=lw (λg=>uk.r5 N (cmp _ pU (g∘eJ)) (cmp _ na (g∘eJ)) (J pU (.exit 0) K) (J na (.exit 0) K)) λm i=>by simp only[Function.comp_def,wf i,wf (Kn N K m)];rfl
theorem Ty(N:Nat):c5 RB (JF N (R:=R)) (cB f176 5):=lm 5 (ga pU (aad N) (ga na (Kn N) ni))
def WW:=spf ahS alk uk.c uk.v
theorem adI:FO 176 WW:=fq (E:=RB) (aQ JT bD) func176 (it:=λN=>JF N) (λN=>(bT (Ty N) ch)) uk.b uk.vo

def ai9:=en [(263,QH)] []
def aio:Fn [.R, .S] As:=λa b=>[aV [.sh 189 a],aS b]
def alS:Fn [.S, .B] Res:=λa b=>⟨[aS a,aB b],[]⟩
def Qz:=spf aio alS lX.c lX.v
theorem Wk:FO 231 Qz:=fr (E:=ai9) (aQ Wq bD) func231 lX.b lX.vo

def abJ:=en [(49,sJ),(260,Kf)] [(6,[0,1,4,5,6,7,8,9])]
def aiG:Fn [.S, .I] As:=λa b=>[aS a,aI b]
def al_:Fn [.I, .I, .B] Res:=λa b c=>⟨[aI a,aI b,aB c],[]⟩
def vW:Fn [.S, .I, .I, .I, .B, .I, .I, .I] Tb:=λa b c d e f g h=>[cA 0 (.s a),cI 2 b,cI 8 c,cI 10 d,cA 12 (.b e),cI 14 f,cI 16 g,cI 18 h]
def Na(N:Nat)(K:Kt R):=eP.l6 N (J vW .ret K) (J vW (.exit 0) K)
def VZ(N:Nat):It R:=(lp 6 (al vW (λK=>Na N K N) an) ln)
theorem TX(N:Nat):c5 abJ (VZ N (R:=R)) (cB f266 6):=lq 6 vW (Na N) λK g=>eP.r6 N g (J vW .ret K) (J vW (.exit 0) K)
def Kg:=spf aiG al_ (ct _) eP.v
theorem Pm:FO 266 Kg:=fh (E:=abJ) (aQ tH (aQ Pj bD)) func266 (it:=λN=>VZ N) (λN=>(bT (TX N) ch)) eP.b λx f h=>eP.im _ x.1 x.2.1 f.1.1

def abG:=en [(266,Kg),(228,Ke)] [(5,[0,2,3,4,5])]
def aip:Fn [.S] As:=λa=>[aS a]
def alT:Fn [.R, .I] Res:=λa b=>⟨[aO 9 a,aI b],[]⟩
def CX:Fn [.S, .I, .I, .R] Tb:=λa b c d=>[cA 0 (.s a),cA 4 .nl,cI 6 b,cA 8 (.own 0),cI 10 c,oR 1 9 d]
def EG:Fn [.S, .I, .I, .R] Tb:=λa b c d=>[cA 0 (.s a),cA 4 (.own 0),cI 6 b,cA 8 (.own 0),cI 10 c,oR 1 9 d]
def M3(N:Nat)(K:Kt R):=qI.l5 N (J EG .ret K) (J CX (.exit 0) K)
def VW(N:Nat):It R:=(lp 5 (al CX (λK=>M3 N K N) an) ln)
theorem TP(N:Nat):c5 abG (VW N (R:=R)) (cB f232 5):=lq 5 CX (M3 N) λK g=>qI.r5 N g (J EG .ret K) (J CX (.exit 0) K)
def W9:=spf aip alT qI.c qI.v
theorem adS:FO 232 W9:=fq (E:=abG) (aQ Pm (aQ Ph bD)) func232 (it:=λN=>VW N) (λN=>(bT (TP N) ch)) qI.b qI.vo

def aje:=en [(266,Kg)] []
def aiH:Fn [.S, .I] As:=λa b=>[aS a,aI b]
def ama:Fn [.S, .I, .B] Res:=λa b c=>⟨[aS a,aI b,aB c],[]⟩
def Xe:=spf aiH ama (ct _) oP.v
theorem adX:FO 267 Xe:=fh (E:=aje) (aQ Pm bD) func267 (it:=λ_=>ln) (λ_=>ch) (λ_=>oP.b) λx f h=>⟨0,oP.im _ x.1 x.2.1 f.1.1⟩

def ai_:=en [(267,Xe),(266,Kg),(227,Kd)] []
def aiq:Fn [.S] As:=λa=>[aS a]
def alU:Fn [.S, .I, .I, .S, .B] Res:=λa b c d e=>⟨[aV [.s a, .n b, .n c, .s d],aB e],[]⟩
def W_:=spf aiq alU (ct _) jc.v
theorem adT:FO 233 W_:=fh (E:=ai_) (aQ adX (aQ Pm (aQ Pg bD))) func233 (it:=λ_=>ln) (λ_=>ch) (λ_=>jc.b) λx f h=>⟨0,jc.im _ x.1 f.1.1⟩

def abv:=en [(230,Gi),(231,Qz),(232,W9),(233,W_),(234,QA)] [(7,[3,6,8])]
def ahT:Fn [.R] As:=λa=>[aV [.sh 189 a]]
def alm:Fn [.R] Res:=λa=>⟨[aO 51 a],[]⟩
def CR:Fn [.I, .R, .R] Tb:=λa b c=>[cA 6 (.own 0),cA 12 (.own 1),cI 16 a,oR 1 51 b,oR 3 9 c]
def MO(N:Nat)(K:Kt R):=qG.l7 N (J CR (.exit 0) K)
def VL(N:Nat):It R:=(lp 7 (al CR (λK=>MO N K N) an) ln)
theorem Tz(N:Nat):c5 abv (VL N (R:=R)) (cB f177 7):=lq 7 CR (MO N) λK g=>qG.r7 N g (J CR (.exit 0) K)
def WX:=spf ahT alm qG.c qG.v
theorem adJ:FO 177 WX:=fq (E:=abv) (aQ JT (aQ Wk (aQ adS (aQ adT (aQ Wl bD))))) func177 (it:=λN=>VL N) (λN=>(bT (Tz N) ch)) qG.b qG.vo

def abw:=en [(230,Gi),(231,Qz),(227,Kd),(228,Ke)] [(9,[1,4,5,6,9,10])]
def ahU:Fn [.R, .R] As:=λa b=>[aV [.sh 189 a],aH 51 b]
def aln:Fn [.R, .B] Res:=λa b=>⟨[aO 184 a,aB b],[]⟩
def CS:Fn [.R, .B, .S, .I, .R] Tb:=λa b c d e=>[cH 2 51 a,cA 8 .nl,cA 10 (.b b),cA 12 (.own 0),cA 18 (.s c),cI 20 d,oR 1 184 e]
def EF:Fn [.R, .B, .S, .I, .R, .R] Tb:=λa b c d e f=>[cH 2 51 a,cA 8 (.own 0),cA 10 (.b b),cA 12 (.own 1),cA 18 (.s c),cI 20 d,oR 1 184 e,oR 3 184 f]
def MP(N:Nat)(K:Kt R):=lK.l9 N (J EF .ret K) (J CS (.exit 0) K)
def VM(N:Nat):It R:=(lp 9 (al CS (λK=>MP N K N) an) ln)
theorem TA(N:Nat):c5 abw (VM N (R:=R)) (cB f178 9):=lq 9 CS (MP N) λK g=>lK.r9 N g (J EF .ret K) (J CS (.exit 0) K)
def WY:=spf ahU aln lK.c lK.v
theorem adK:FO 178 WY:=fq (E:=abw) (aQ JT (aQ Wk (aQ Pg (aQ Ph bD)))) func178 (it:=λN=>VM N) (λN=>(bT (TA N) ch)) lK.b lK.vo

def abx:=en [(37,Z7),(217,Gh),(164,J8),(226,Qy)] [(4,[0,1,4,5,6])]
def ahV:Fn [.I, .R] As:=λa b=>[aI a,aH 51 b]
def alo:Fn [.I, .R, .R, .R, .R, .I, .R, .R, .I] Res:=λa b c d e f g h i=>⟨[aV [.n a, .ow 51 true b, .ow 9 true c, .ow 9 true d, .ow 45 true e, .n f, .ow 127 true g, .ow 55 true h, .n i]],[]⟩
def CT:Fn [.I, .R, .I, .I, .I, .I, .I, .I, .I, .R, .R, .R, .R, .R, .R] Tb:=λa b c d e f g h i j k l m o p=>[cI 0 a,cH 2 51 b,cP 8 0,cP 10 1,cI 12 c,oB 1 [.n d, .nl, .nl, .nl, .nl, .n e, .nl, .nl, .n f],oB 3 [.n g, .own 2, .own 3, .own 4, .own 5, .n h, .own 6, .own 7, .n i],oR 5 51 j,oR 7 9 k,oR 9 9 l,oR 11 45 m,oR 13 127 o,oR 15 55 p]
def MQ(N:Nat)(K:Kt R):=my.l4 N (J CT (.exit 0) K)
def VN(N:Nat):It R:=(lp 4 (al CT (λK=>MQ N K N) an) ln)
theorem TB(N:Nat):c5 abx (VN N (R:=R)) (cB f179 4):=lq 4 CT (MQ N) λK g=>my.r4 N g (J CT (.exit 0) K)
def WZ:=spf ahV alo my.c my.v
theorem adL:FO 179 WZ:=fq (E:=abx) (aQ ad0 (aQ JS (aQ O8 (aQ Wj bD)))) func179 (it:=λN=>VN N) (λN=>(bT (TB N) ch)) my.b my.vo

def Rz:=mkE T md [(176,WW),(177,WX),(164,J8),(178,WY),(175,Qt),(179,WZ)] [(7,[0,6,7,8])] [] [(0,1, .own 51),(0,2, .own 9),(0,3, .own 9),(0,4, .own 45),(0,6, .own 127),(0,7, .own 55),(0,9, .own 189),(0,10, .own 3),(0,11, .own 51)]
def ahk:Fn [.I, .R, .R, .R, .R, .I, .R, .R, .I, .R, .R, .R, .I, .I, .S, .I, .R] As:=λa b c d e f g h i j k l m o p q r=>[.pt [.n a, .ow 51 true b, .ow 9 true c, .ow 9 true d, .ow 45 true e, .n f, .ow 127 true g, .ow 55 true h, .n i, .ow 189 true j, .ow 3 true k, .ow 51 true l],aV [.n m, .n o, .s p, .n q, .sh 3 r]]
def akN:Fn [.I, .R, .R, .R, .R, .I, .R, .R, .I, .R, .R, .R] Res:=λa b c d e f g h i j k l=>⟨[],[[.n a, .ow 51 true b, .ow 9 true c, .ow 9 true d, .ow 45 true e, .n f, .ow 127 true g, .ow 55 true h, .n i, .ow 189 true j, .ow 3 true k, .ow 51 true l]]⟩
def pT:Fn [.I, .I, .I, .I, .R, .R, .R, .R, .R, .R, .R, .R, .R, .R, .R] Tb:=λa b c d e f g h i j k l m o p=>[cP 0 900000900,cA 12 (.own 1),cA 14 (.own 2),cI 16 a,oB 1800001801 [.n b, .own 900000001, .own 900000002, .own 900000003, .own 900000004, .n c, .own 900000006, .own 900000007, .n d, .own 9, .own 900000010, .own 900000011],oR 3 51 e,oR 5 51 f,oR 1800000003 51 g,oR 1800000005 9 h,oR 1800000007 9 i,oR 1800000009 45 j,oR 1800000013 127 k,oR 1800000015 55 l,oR 19 189 m,oR 1800000021 3 o,oR 1800000023 51 p]
def m_:Fn [.I, .I, .I, .I, .R, .R, .R, .R, .R, .R, .R, .R, .R, .R, .R] Tb:=λa b c d e f g h i j k l m o p=>[cP 0 900000900,cA 12 (.own 1),cA 14 (.own 2),cI 16 a,oB 1800001801 [.n b, .own 900000001, .own 900000002, .own 900000003, .own 900000004, .n c, .own 900000006, .own 900000007, .n d, .own 900000009, .own 900000010, .own 900000011],oR 3 51 e,oR 5 51 f,oR 1800000003 51 g,oR 1800000005 9 h,oR 1800000007 9 i,oR 1800000009 45 j,oR 1800000013 127 k,oR 1800000015 55 l,oR 1800000019 189 m,oR 1800000021 3 o,oR 1800000023 51 p]
def MD(N:Nat)(K:Kt R):=ui.l7 N (J pT (.exit 0) K) (J m_ (.exit 0) K)
def ID(N:Nat)(K:Kt R):=ui.l7a N (J pT (.exit 0) K) (J m_ (.exit 0) K)
def JD(N:Nat):It R:=(lp 7 (al pT (λK=>MD N K N) (al m_ (λK=>ID N K N) an)) ln)
theorem Km(N:Nat)(K:Kt R):Wd Rz (JD N) (cB f118 7) 7 K m_ (ID N K):=lw (λg=>ui.r7a N (cmp _ pT (g∘eJ)) (cmp _ m_ (g∘eJ)) (J pT (.exit 0) K) (J m_ (.exit 0) K)) λm i=>by simp only[Function.comp_def,wf i];rfl
theorem aac(N:Nat)(K:Kt R):Wd Rz (JD N) (cB f118 7) 7 K pT (MD N K):=lw (λg=>ui.r7 N (cmp _ pT (g∘eJ)) (cmp _ m_ (g∘eJ)) (J pT (.exit 0) K) (J m_ (.exit 0) K)) λm i=>by simp only[Function.comp_def,wf i,wf (Km N K m)];rfl
theorem Tm(N:Nat):c5 Rz (JD N (R:=R)) (cB f118 7):=lm 7 (ga pT (aac N) (ga m_ (Km N) ni))
def WK:=spf ahk akN ui.c ui.v
theorem adB:FO 118 WK:=fq (E:=Rz) (aQ adI (aQ adJ (aQ O8 (aQ adK (aQ Wf (aQ adL bD)))))) func118 (it:=λN=>JD N) (λN=>(bT (Tm N) ch)) ui.b ui.vo

def E67:=mkE T md [(112,WD),(113,WE),(114,WG),(115,WH),(116,WI),(117,WJ),(118,WK),(119,Qm)] [] [] [(0,1, .own 51),(0,2, .own 9),(0,3, .own 9),(0,4, .own 45),(0,6, .own 127),(0,7, .own 55),(0,9, .own 189),(0,10, .own 3),(0,11, .own 51)]
def A67:Fn [.I, .R, .R, .R, .R, .I, .R, .R, .I, .R, .R, .R, .I, .I, .S, .I, .R] As:=λa b c d e f g h i j k l m o p q r=>[.pt [.n a, .ow 51 true b, .ow 9 true c, .ow 9 true d, .ow 45 true e, .n f, .ow 127 true g, .ow 55 true h, .n i, .ow 189 true j, .ow 3 true k, .ow 51 true l],aV [.n m, .n o, .s p, .n q, .sh 3 r]]
def k67:Fn [.I, .I, .R, .R, .R, .R, .I, .R, .R, .I, .R, .R, .R] Res:=λa b c d e f g h i j k l m=>⟨[aI a],[[.n b, .ow 51 true c, .ow 9 true d, .ow 9 true e, .ow 45 true f, .n g, .ow 127 true h, .ow 55 true i, .n j, .ow 189 true k, .ow 3 true l, .ow 51 true m]]⟩
def ae2:=spf A67 k67 Rb.c Rb.v
theorem amJ:FO 67 ae2:=fr (E:=E67) (aQ adv (aQ adw (aQ adx (aQ ady (aQ adz (aQ adA (aQ adB (aQ V9 bD)))))))) func67 Rb.b Rb.vo

def E38:=mkE T md [(67,ae2)] [] [] [(0,1, .own 51),(0,2, .own 9),(0,3, .own 9),(0,4, .own 45),(0,6, .own 127),(0,7, .own 55),(0,9, .own 189),(0,10, .own 3),(0,11, .own 51)]
def A38:Fn [.I, .R, .R, .R, .R, .I, .R, .R, .I, .R, .R, .R, .I, .I, .S, .I, .R] As:=λa b c d e f g h i j k l m o p q r=>[.pt [.n a, .ow 51 true b, .ow 9 true c, .ow 9 true d, .ow 45 true e, .n f, .ow 127 true g, .ow 55 true h, .n i, .ow 189 true j, .ow 3 true k, .ow 51 true l],aV [.n m, .n o, .s p, .n q, .sh 3 r]]
def k38:Fn [.I, .R, .R, .R, .R, .I, .R, .R, .I, .R, .R, .R] Res:=λa b c d e f g h i j k l=>⟨[],[[.n a, .ow 51 true b, .ow 9 true c, .ow 9 true d, .ow 45 true e, .n f, .ow 127 true g, .ow 55 true h, .n i, .ow 189 true j, .ow 3 true k, .ow 51 true l]]⟩
def aeX:=spf A38 k38 KO.c KO.v
theorem amE:FO 38 aeX:=fr (E:=E38) (aQ amJ bD) func38 KO.b KO.vo

def E32:=en [(37,Z7),(44,L7),(61,aeY),(38,aeX)] [(3,[0,2,3,4,1000000003009189,1000000003010003,1000000003011051])]
def A32:Fn [.R, .I, .I] As:=λa b c=>[.pt [.sh 5 a, .n b, .n c]]
def k32:Fn [.I, .R, .R, .R, .R, .I, .R, .R, .I, .R, .I, .I] Res:=λa b c d e f g h i j k l=>⟨[aV [.n a, .ow 51 true b, .ow 9 true c, .ow 9 true d, .ow 45 true e, .n f, .ow 127 true g, .ow 55 true h, .n i]],[[.sh 5 j, .n k, .n l]]⟩
def I0:Fn [.I, .R, .I, .I, .I, .I, .I, .I, .I, .I, .R, .R, .R, .R, .R, .R, .R, .R, .R] Tb:=λa b c d e f g h i j k l m o p q r s t=>[cP 0 900000900,cP 4 1,cP 6 2,cI 8 a,oB 1800001801 [.sh 5 b, .n c, .n d],oB 3 [.n e, .nl, .nl, .nl, .nl, .n f, .nl, .nl, .n g],oB 5 [.n h, .own 3, .own 4, .own 5, .own 6, .n i, .own 7, .own 8, .n j, .own 9, .own 10, .own 11],oR 7 51 k,oR 9 9 l,oR 11 9 m,oR 13 45 o,oR 15 127 p,oR 17 55 q,oR 19 189 r,oR 21 3 s,oR 23 51 t]
def U1(N:Nat)(K:Kt R):=Mj.l3 N (J I0 (.exit 0) K)
def ac2(N:Nat):It R:=(lp 3 (al I0 (λK=>U1 N K N) an) ln)
theorem ZH(N:Nat):c5 E32 (ac2 N (R:=R)) (cB f32 3):=lq 3 I0 (U1 N) λK g=>Mj.r3 N g (J I0 (.exit 0) K)
def aeT:=spf A32 k32 Mj.c Mj.v
theorem amA:FO 32 aeT:=fq (E:=E32) (aQ ad0 (aQ Pn (aQ amF (aQ amE bD)))) func32 (it:=λN=>ac2 N) (λN=>(bT (ZH N) ch)) Mj.b Mj.vo

def E14:=en [(31,aeS),(32,aeT)] []
def A14:Fn [.R] As:=λa=>[aH 5 a]
def k14:Fn [.I, .R, .R, .R, .R, .I, .R, .R, .I] Res:=λa b c d e f g h i=>⟨[aV [.n a, .ow 51 true b, .ow 9 true c, .ow 9 true d, .ow 45 true e, .n f, .ow 127 true g, .ow 55 true h, .n i]],[]⟩
def aer:=spf A14 k14 Q_.c Q_.v
theorem ams:FO 14 aer:=fr (E:=E14) (aQ amz (aQ amA bD)) func14 Q_.b Q_.vo

def A40:Fn [.I] As:=λa=>[aI a]
def k40:Fn [.S] Res:=λa=>⟨[aS a],[]⟩
def sp40:=spf A40 k40 Yf.c Yf.v
theorem ok40:FO 40 sp40:=by
 refine fn_leaf func40 (by kernel_rfl) (by kernel_rfl) (by intro x;rfl) λx hx w c1 vs hok hsz hvs=> ?_;obtain⟨n,_⟩:=x;replace hx:(decide (-9223372036854775808<=n)&&decide (n<=9223372036854775807))=true:=hx;simp only[Bool.and_eq_true,decide_eq_true_eq]at hx;obtain⟨v,hv,hs⟩:=hvs 0 _ rfl;have hs:v= .int .i64 n:=hs;subst hs;have hsz:vs.size=1:=hsz;obtain rfl:vs= #[.int .i64 n]:=by
  apply Array.ext
  ·simpa using hsz
  ·intro i h1 h2;obtain rfl:i=0:=by simp at h2;omega
   simpa using (Array.getElem?_eq_some_iff.1 hv).2
 obtain⟨⟨⟨⟨hg,cs,h1,rfl⟩,_⟩,_⟩,_⟩:=hok.gp;refine(Any.strconv_Itoa Tryz.lays171 n hx.1 hx.2 w h1).mono λe w' he=> ?_;obtain⟨rfl,k,os,rfl⟩:=he;refine⟨_,rfl,ret_none c1.K hok (λm o h=>by cases h) (below_drewG w k os) (λ_ h=>h) (λ_ h=> .inl h) ⟨rfl, ?_⟩⟩
 have hl:=_root_.Go.Lib.itoa_length_le n hx.1 hx.2;show(_root_.Go.Lib.itoa n).toArray.size<=_;simp;omega

def E19:=en [(40,sp40)] []
def A19:Fn [.I] As:=λa=>[aI a]
def k19:Fn [.S] Res:=λa=>⟨[aS a],[]⟩
def aeC:=spf A19 k19 v7.c v7.v
theorem amw:FO 19 aeC:=fr (E:=E19) (aQ ok40 bD) func19 v7.b v7.vo

def E30:=en [] []
def A30:Fn [.I] As:=λa=>[aI a]
def k30:Fn [.S] Res:=λa=>⟨[aS a],[]⟩
def aeR:=spf A30 k30 (ct _) EC.v
theorem amy:FO 30 aeR:=ft (E:=E30) bD func30 EC.b λ(a0,_)=>EC.im _ a0

def E13:=en [(19,aeC),(30,aeR)] [(3,[3,7,8,9])]
def A13:Fn [.I, .R, .R, .R, .R, .I, .R, .R, .I] As:=λa b c d e f g h i=>[aV [.n a, .sh 51 b, .sh 9 c, .sh 9 d, .sh 45 e, .n f, .sh 127 g, .sh 55 h, .n i]]
def k13:Fn [.S] Res:=λa=>⟨[aS a],[]⟩
def IX:Fn [.S, .R, .I, .I] Tb:=λa b c d=>[cA 6 (.s a),cH 14 55 b,cI 16 c,cI 18 d]
def UX(N:Nat)(K:Kt R):=KK.l3 N (J IX (.exit 0) K)
def acY(N:Nat):It R:=(lp 3 (al IX (λK=>UX N K N) an) ln)
theorem ZD(N:Nat):c5 E13 (acY N (R:=R)) (cB f13 3):=lq 3 IX (UX N) λK g=>KK.r3 N g (J IX (.exit 0) K)
def aep:=spf A13 k13 KK.c KK.v
theorem amr:FO 13 aep:=fq (E:=E13) (aQ amw (aQ amy bD)) func13 (it:=λN=>acY N) (λN=>(bT (ZD N) ch)) KK.b KK.vo

theorem split_size(t:ByteArray):∀(k:Nat) (s x:ByteArray),x∈_root_.Go.Lib.splitB t 0 k s->x.size<=s.size
 |0,s,x,h=>by
  simp only[_root_.Go.Lib.splitB,List.mem_singleton]at h;exact h▸Nat.le_refl _
 |k+1,s,x,h=>by
  unfold _root_.Go.Lib.splitB at h;split at h
  ·simp only[List.mem_singleton]at h;exact h▸Nat.le_refl _
  ·rcases List.mem_cons.1 h with rfl|h
   ·rw[ByteArray.size_extract];omega
   ·have:=split_size t k _ x h;rw[ByteArray.size_extract]at this;omega
def A33:Fn [.S, .S] As:=λa b=>[aS a,aS b]
def k33:Fn [.R] Res:=λa=>⟨[.v false [.sh 9 a]],[]⟩
def sp33:=spf A33 k33 wa.c wa.v
theorem ok33:FO 33 sp33:=by
 refine fn_leaf func33 (by kernel_rfl) (by kernel_rfl) (by intro x;rfl) λx hx w c1 vs hok hsz hvs=> ?_;obtain⟨s,t,_⟩:=x;replace hx:(Nat.ble s.size 4000000000&&Nat.beq t.size 1)=true:=hx;rw[Bool.and_eq_true,Nat.ble_eq,Nat.beq_eq]at hx;obtain⟨v,hv,hs,_⟩:=hvs 0 _ rfl;obtain⟨u,hu,ht,_⟩:=hvs 1 _ rfl;subst hs ht;have hsz:vs.size=2:=hsz;obtain rfl:vs= #[.string s, .string t]:=by
  apply Array.ext
  ·simpa using hsz
  ·intro i h1 h2;have:i=0\/i=1:=by simp at h2;omega
   rcases this with rfl|rfl
   ·simpa using (Array.getElem?_eq_some_iff.1 hv).2
   ·simpa using (Array.getElem?_eq_some_iff.1 hu).2
 obtain⟨_,_,m,hm⟩:=hok.gp;have hl:=_root_.Go.Lib.splitB_all t (by omega) 0 _ s rfl;have hc:=_root_.Go.Lib.countB_le t (by omega) _ s (Nat.le_refl _);refine(Any.strings_Split {Tryz.lays146 with} Tryz.lays146.i9 s t m w (by omega) hm (by omega)).mono λe w' he=> ?_;obtain⟨rfl,rfl⟩:=he;have hz:∀o,(w.alloc o).heap.size=w.heap.size+1:=λo=>Array.size_push _;have ha:∀o,(w.alloc o).heap[w.heap.size]? =some o:=λo=>Array.getElem?_push_size;refine⟨_,rfl,ret_none (λb=>c1.K b\/b=w.heap.size) hok (λm o h=>by cases h) ((RowKit.Below.refl _ _).alloc (Nat.le_refl _) _) (λ_ h=> .inl h) (λb h=>h.elim .inl λh=> .inr ⟨Nat.le_of_eq h.symm,by rw[hz,h];exact Nat.lt_succ_self _⟩) ?_⟩
 exact holds_new (by_:=16) (by kernel_rfl) hl.symm (ha _) (.inr rfl) (λx h=>Nat.le_trans (split_size t _ _ x h) (Nat.le_trans hx.1 (by decide))) (by rw[hl];exact Nat.le_trans (Nat.succ_le_succ (Nat.le_trans hc hx.1)) (by decide))

def E50:=en [] []
def A50:Fn [.I, .I, .I] As:=λa b c=>[aI a,aI b,aI c]
def k50:Fn [.B] Res:=λa=>⟨[aB a],[]⟩
def tN:=spf A50 k50 (ct _) qu.v
theorem ad1:FO 50 tN:=ft (E:=E50) bD func50 qu.b λ(a0,a1,a2,_)=>qu.im _ a0 a1 a2

def E34:=en [(50,tN),(33,sp33)] [(5,[0,2,3,4,5]),(10,[4,25,26,27])]
def A34:Fn [.S] As:=λa=>[aS a]
def k34:Fn [.R, .B] Res:=λa b=>⟨[aO 9 a,aB b],[]⟩
def BI:Fn [.S, .B, .I, .R] Tb:=λa b c d=>[cA 0 (.s a),cA 4 .nl,cA 6 (.b b),cA 8 (.own 0),cI 10 c,oR 1 9 d]
def C6:Fn [.R, .I, .I, .R] Tb:=λa b c d=>[cA 8 (.own 0),cH 50 9 a,cI 52 b,cI 54 c,oR 1 9 d]
def U2(N:Nat)(K:Kt R):=n_.l5 N (J BI .ret K) (J BI (.exit 0) K)
def Nd(N:Nat)(K:Kt R):=n_.Zy N (J C6 (.exit 2) K)
def Zt(N:Nat):It R:=(lp 5 (al BI (λK=>U2 N K N) an) (lp 10 (al C6 (λK=>Nd N K N) an) ln))
theorem ZI(N:Nat):c5 E34 (Zt N (R:=R)) (cB f34 5):=lq 5 BI (U2 N) λK g=>n_.r5 N g (J BI .ret K) (J BI (.exit 0) K)
theorem T1(N:Nat):c5 E34 (Zt N (R:=R)) (cB f34 10):=lq 10 C6 (Nd N) λK g=>n_.GJ N g (J C6 (.exit 2) K)
def aeU:=spf A34 k34 n_.c n_.v
theorem amB:FO 34 aeU:=fq (E:=E34) (aQ ad1 (aQ ok33 bD)) func34 (it:=λN=>Zt N) (λN=>(bT (ZI N) (bT (T1 N) ch))) n_.b n_.vo

def E63:=en [] []
def A63:Fn [.S] As:=λa=>[aS a]
def k63:Fn [.I, .S] Res:=λa b=>⟨[aI a,aS b],[]⟩
def aeZ:=spf A63 k63 (ct _) Gv.v
theorem amG:FO 63 aeZ:=ft (E:=E63) bD func63 Gv.b λ(a0,_)=>Gv.im _ a0

theorem itoaC(n:Int)(h0: -9223372036854775808<=n)(h1:n<=9223372036854775807)(w:World)(h:_root_.Go.Lib.TabIs Tryz.prog w "internal/strconv.uint64pow10" .u64 _root_.Go.Lib.pow10Tab):
  Calls Tryz.prog 40 #[.int .i64 n] w λe w'=>e= .returned (.string ⟨(_root_.Go.Lib.itoa n).toArray⟩)/\RowKit.Below w.heap.size w w':=
 (Any.strconv_Itoa Tryz.lays171 n h0 h1 w h).mono λe w' ⟨he,k,os,hw⟩=>⟨he,hw▸below_drewG w k os⟩
theorem below_atoi{w w1:World}{t:TypeId}(h:w1=w\/∃s,w1=_root_.Go.Lib.bytesWorld w t s):RowKit.Below w.heap.size w w1:=by
 rcases h with rfl|⟨s,rfl⟩
 ·exact .refl _ _
 ·exact _root_.Go.Joins.below_bytesWorld _ w t s (Nat.le_refl _)
theorem below_join{w w1 w2:World}(h1:RowKit.Below w.heap.size w w1)(h2:RowKit.Below w1.heap.size w1 w2):RowKit.Below w.heap.size w w2:=h1.trans ⟨h2.os,h2.tape,h2.output,h2.size,λi hi=>h2.block i (Nat.lt_of_lt_of_le hi h1.size)⟩
set_option maxHeartbeats 1000000 in
theorem readC(s:ByteArray)(hs:s.size<=140737488355328)(w:World)(h:_root_.Go.Lib.TabIs Tryz.prog w "internal/strconv.uint64pow10" .u64 _root_.Go.Lib.pow10Tab)(g1:1<w.heap.size)
  (hE:∃tp p,w.var? Tryz.prog "strconv.ErrSyntax" =some #[.iface tp p]) (hR:∃tp p,w.var? Tryz.prog "strconv.ErrRange" =some #[.iface tp p]):
  Calls Tryz.prog 65 #[.string s] w λe w'=>e= .returned (.tuple #[.int .i64 (vt.v s).1, .bool (vt.v s).2])/\RowKit.Below w.heap.size w w':=by
 unfold vt.v;cases ha:_root_.Go.Lib.atoiAll s.data.toList with
 |range=>
  obtain⟨tp,p,hR⟩:=hR;go_enter func65,Tryz.ntmps65;go_wp2_with (first|(go_at_call 110;refine(Any.strconv_Atoi_range_var Tryz.lays172 s (by omega) ha tp p w hR).mono ?_;rintro e w1 ⟨N,rfl,-,-,hb⟩)|go_in)
  go_ret2;exact⟨rfl,hb⟩
 |ok n=>
  have hn:=_root_.Go.Lib.atoiAll_bounds ha;go_enter func65,Tryz.ntmps65;go_wp2_with (first|(go_at_call 110;go_must (refine(Any.strconv_Atoi_ok Tryz.lays172 s (by omega) n ha w).mono ?_;rintro e w1 ⟨rfl,hw1⟩;replace hw1:=below_atoi hw1;have hT1:=_root_.Go.Joins.tab_stays (g:=1) (by kernel_rfl) h hw1 (Nat.le_refl _)))|(go_at_call 40;go_must (refine(itoaC n (by omega) (by omega) _ hT1).mono ?_;rintro e w2 ⟨rfl,hb2⟩;replace hb2:=below_join hw1 hb2))|go_in)
  ·rename_i h0 h1 _ hq;rw[_root_.Go.Lib.toList_data]at hq;go_ret2;refine⟨?_,hb2⟩
   simp only[Bool.not_eq_true']at hq;simp[hq]
  ·rename_i h0 h1 hq;rw[_root_.Go.Lib.toList_data]at hq;go_ret2;refine⟨?_,hb2⟩
   simp only[Bool.not_eq_false']at hq;simp[hq,h0,h1]
  ·rename_i h0 h1;go_ret2;refine⟨?_,hw1⟩
   simp[h0,show¬n<=1000000000 by omega]
  ·rename_i h0;go_ret2;refine⟨?_,hw1⟩
   simp[show¬0<=n by omega]
 |_=>
  obtain⟨tp,p,hE⟩:=hE;go_enter func65,Tryz.ntmps65;go_wp2_with (first|(go_at_call 110;refine(Any.strconv_Atoi_syntax_var Tryz.lays172 s (by omega) ha tp p w hE).mono ?_;rintro e w1 ⟨N,rfl,-,-,hb⟩)|go_in)
  go_ret2;exact⟨rfl,hb⟩
def A65:Fn [.S] As:=λa=>[aS a]
def k65:Fn [.I, .B] Res:=λa b=>⟨[aI a,aB b],[]⟩
def sp65:=spf A65 k65 vt.c vt.v
theorem ok65:FO 65 sp65:=by
 refine fn_leaf func65 (by kernel_rfl) (by kernel_rfl) (by intro x;rfl) λx hx w c1 vs hok hsz hvs=> ?_;obtain⟨s,_⟩:=x;replace hx:Nat.ble s.size 140737488355328=true:=hx;rw[Nat.ble_eq]at hx;obtain⟨v,hv,hs,_⟩:=hvs 0 _ rfl;subst hs;have hsz:vs.size=1:=hsz;obtain rfl:vs= #[.string s]:=by
  apply Array.ext
  ·simpa using hsz
  ·intro i h1 h2;obtain rfl:i=0:=by simp at h2;omega
   simpa using (Array.getElem?_eq_some_iff.1 hv).2
 obtain⟨⟨⟨⟨hg,cs,h1,rfl⟩,_,cs2,h2,tp2,p2,rfl⟩,_,cs3,h3,tp3,p3,rfl⟩,_⟩:=hok.gp;refine(readC s hx w h1 (hok.lt 1 hg) ⟨_,_,h2⟩ ⟨_,_,h3⟩).mono λe w' he=> ?_;obtain⟨rfl,hb⟩:=he;refine⟨_,rfl,ret_none c1.K hok (λm o h=>by cases h) hb (λ_ h=>h) (λ_ h=> .inl h) ⟨_,rfl,rfl,λj agg xs hj=> ?_⟩⟩
 match j,hj with
 |0,hj=>cases hj;exact⟨_,rfl,rfl⟩
 |1,hj=>cases hj;exact⟨_,rfl,rfl⟩

def E27:=en [(50,tN)] []
def A27:Fn [.I, .I, .S, .I, .R] As:=λa b c d e=>[aV [.n a, .n b, .s c, .n d, .sh 3 e]]
def k27:Fn [.B] Res:=λa=>⟨[aB a],[]⟩
def Z6:=spf A27 k27 (ct _) KN.v
theorem adY:FO 27 Z6:=ft (E:=E27) (aQ ad1 bD) func27 KN.b λ(a0,a1,a2,a3,a4,_)=>KN.im _ a0 a1 a2 a3 a4

def E64:=en [(65,sp65),(27,Z6)] [(3,[2,3,4,10,11,12])]
def A64:Fn [.R] As:=λa=>[aH 9 a]
def k64:Fn [.I, .I, .S, .I, .R, .B] Res:=λa b c d e f=>⟨[aV [.n a, .n b, .s c, .n d, .ow 3 true e],aB f],[]⟩
def pb:Fn [.B, .R, .I, .I, .I, .I, .S, .I, .I, .I, .S, .I] Tb:=λa b c d e f g h i j k l=>[cP 4 0,cA 6 (.b a),cP 8 1,cH 20 9 b,cI 22 c,cI 24 d,oB 1 [.n e, .n f, .s g, .n h, .nl],oB 3 [.n i, .n j, .s k, .n l, .nl]]
def pY:Fn [.B, .R, .I, .I, .I, .I, .S, .I, .I, .I, .S, .I, .R] Tb:=λa b c d e f g h i j k l m=>[cP 4 0,cA 6 (.b a),cP 8 1,cH 20 9 b,cI 22 c,cI 24 d,oB 1 [.n e, .n f, .s g, .n h, .nl],oB 3 [.n i, .n j, .s k, .n l, .own 2],oR 5 3 m]
def yx:Fn [.B, .R, .I, .I, .I, .I, .S, .I, .I, .I, .S, .I, .R] Tb:=λa b c d e f g h i j k l m=>[cP 4 0,cA 6 (.b a),cP 8 1,cH 20 9 b,cI 22 c,cI 24 d,oB 1 [.n e, .n f, .s g, .n h, .own 2],oB 3 [.n i, .n j, .s k, .n l, .own 2],oR 5 3 m]
def U9(N:Nat)(K:Kt R):=BK.l3 N (J pb .ret K) (J pb (.exit 0) K) (J yx .ret K) (J pY (.exit 0) K)
def Nf(N:Nat)(K:Kt R):=BK.oa N (J pb .ret K) (J pb (.exit 0) K) (J yx .ret K) (J pY (.exit 0) K)
def Tc(N:Nat):It R:=(lp 3 (al pb (λK=>U9 N K N) (al pY (λK=>Nf N K N) an)) ln)
theorem QR(N:Nat)(K:Kt R):Wd E64 (Tc N) (cB f64 3) 3 K pY (Nf N K):=lw (λg=>BK.uU N (cmp _ pb (g∘eJ)) (cmp _ pY (g∘eJ)) (J pb .ret K) (J pb (.exit 0) K) (J yx .ret K) (J pY (.exit 0) K)) λm i=>by simp only[Function.comp_def,wf i];rfl
theorem afe(N:Nat)(K:Kt R):Wd E64 (Tc N) (cB f64 3) 3 K pb (U9 N K):=lw (λg=>BK.r3 N (cmp _ pb (g∘eJ)) (cmp _ pY (g∘eJ)) (J pb .ret K) (J pb (.exit 0) K) (J yx .ret K) (J pY (.exit 0) K)) λm i=>by simp only[Function.comp_def,wf i,wf (QR N K m)];rfl
theorem ZM(N:Nat):c5 E64 (Tc N (R:=R)) (cB f64 3):=lm 3 (ga pb (afe N) (ga pY (QR N) ni))
def ae0:=spf A64 k64 BK.c BK.v
theorem amH:FO 64 ae0:=fq (E:=E64) (aQ ok65 (aQ adY bD)) func64 (it:=λN=>Tc N) (λN=>(bT (ZM N) ch)) BK.b BK.vo

def E35:=en [(63,aeZ),(64,ae0),(65,sp65),(27,Z6)] [(8,[2,3,5,6,39,40,41])]
def A35:Fn [.R] As:=λa=>[aH 9 a]
def k35:Fn [.I, .I, .S, .I, .R, .B] Res:=λa b c d e f=>⟨[aV [.n a, .n b, .s c, .n d, .ow 3 true e],aB f],[]⟩
def BJ:Fn [.B, .S, .R, .I, .I, .I, .I, .S, .I, .I, .I, .S, .I] Tb:=λa b c d e f g h i j k l m=>[cP 4 0,cA 6 (.b a),cA 10 (.s b),cP 12 1,cH 78 9 c,cI 80 d,cI 82 e,oB 1 [.n f, .n g, .s h, .n i, .nl],oB 3 [.n j, .n k, .s l, .n m, .nl]]
def U3(N:Nat)(K:Kt R):=qU.l8 N (J BJ .ret K) (J BJ (.exit 0) K)
def ac3(N:Nat):It R:=(lp 8 (al BJ (λK=>U3 N K N) an) ln)
theorem ZJ(N:Nat):c5 E35 (ac3 N (R:=R)) (cB f35 8):=lq 8 BJ (U3 N) λK g=>qU.r8 N g (J BJ .ret K) (J BJ (.exit 0) K)
def aeV:=spf A35 k35 qU.c qU.v
theorem amC:FO 35 aeV:=fq (E:=E35) (aQ amG (aQ amH (aQ ok65 (aQ adY bD)))) func35 (it:=λN=>ac3 N) (λN=>(bT (ZJ N) ch)) qU.b qU.vo

def E15:=en [(33,sp33),(34,aeU),(35,aeV)] [(8,[2,3,5,35,36,37])]
def A15:Fn [.S] As:=λa=>[aS a]
def k15:Fn [.R, .I] Res:=λa b=>⟨[aO 58 a,aI b],[]⟩
def BH:Fn [.I, .R, .I, .I, .R] Tb:=λa b c d e=>[cA 4 .nl,cI 6 a,cA 10 (.own 0),cH 70 9 b,cI 72 c,cI 74 d,oR 1 58 e]
def UY(N:Nat)(K:Kt R):=I7.l8 N (J BH .ret K) (J BH (.exit 0) K)
def acZ(N:Nat):It R:=(lp 8 (al BH (λK=>UY N K N) an) ln)
theorem ZE(N:Nat):c5 E15 (acZ N (R:=R)) (cB f15 8):=lq 8 BH (UY N) λK g=>I7.r8 N g (J BH .ret K) (J BH (.exit 0) K)
def aev:=spf A15 k15 I7.c I7.v
theorem amt:FO 15 aev:=fq (E:=E15) (aQ ok33 (aQ amB (aQ amC bD))) func15 (it:=λN=>acZ N) (λN=>(bT (ZE N) ch)) I7.b I7.vo

def E26:=en [] []
def A26:Fn [.I] As:=λa=>[aI a]
def k26:Fn [.I] Res:=λa=>⟨[.v false [.i .u8 a]],[]⟩
def aeQ:=spf A26 k26 (ct _) Ra.v
theorem amx:FO 26 aeQ:=ft (E:=E26) bD func26 Ra.b λ(a0,_)=>Ra.im _ a0

def E11:=en [(26,aeQ)] [(5,[0,3,4])]
def A11:Fn [.I] As:=λa=>[aI a]
def k11:Fn [.S] Res:=λa=>⟨[aS a],[]⟩
def IW:Fn [.I, .B, .S] Tb:=λa b c=>[cI 0 a,cA 6 (.b b),cA 8 (.s c)]
def UW(N:Nat)(K:Kt R):=Ei.l5 N (J IW (.exit 0) K)
def acX(N:Nat):It R:=(lp 5 (al IW (λK=>UW N K N) an) ln)
theorem ZC(N:Nat):c5 E11 (acX N (R:=R)) (cB f11 5):=lq 5 IW (UW N) λK g=>Ei.r5 N g (J IW (.exit 0) K)
def Z5:=spf A11 k11 Ei.c Ei.v
theorem adt:FO 11 Z5:=fq (E:=E11) (aQ amx bD) func11 (it:=λN=>acX N) (λN=>(bT (ZC N) ch)) Ei.b Ei.vo

def E16:=en [] []
def A16:Fn [.S, .S] As:=λa b=>[aS a,aS b]
def k16:Fn [.B] Res:=λa=>⟨[aB a],[]⟩
def aeA:=spf A16 k16 I8.c I8.v
theorem amu:FO 16 aeA:=fr (E:=E16) bD func16 I8.b I8.vo

def E36:=en [(11,Z5)] []
def A36:Fn [.I] As:=λa=>[aI a]
def k36:Fn [.S] Res:=λa=>⟨[aS a],[]⟩
def aeW:=spf A36 k36 ji.c ji.v
theorem amD:FO 36 aeW:=fr (E:=E36) (aQ adt bD) func36 ji.b ji.vo

def E17:=en [(36,aeW)] [(3,[1,3,4])]
def A17:Fn [.I, .R, .R, .R, .R, .I, .R, .R, .I] As:=λa b c d e f g h i=>[aV [.n a, .sh 51 b, .sh 9 c, .sh 9 d, .sh 45 e, .n f, .sh 127 g, .sh 55 h, .n i]]
def k17:Fn [.S] Res:=λa=>⟨[aS a],[]⟩
def IY:Fn [.S, .I, .I, .R, .R, .R, .R, .I, .R, .R, .I] Tb:=λa b c d e f g h i j k=>[cP 2 0,cA 6 (.s a),cI 8 b,oB 1 [.n c, .sh 51 d, .sh 9 e, .sh 9 f, .sh 45 g, .n h, .sh 127 i, .sh 55 j, .n k]]
def UZ(N:Nat)(K:Kt R):=C_.l3 N (J IY (.exit 0) K)
def ac0(N:Nat):It R:=(lp 3 (al IY (λK=>UZ N K N) an) ln)
theorem ZF(N:Nat):c5 E17 (ac0 N (R:=R)) (cB f17 3):=lq 3 IY (UZ N) λK g=>C_.r3 N g (J IY (.exit 0) K)
def aeB:=spf A17 k17 C_.c C_.v
theorem amv:FO 17 aeB:=fq (E:=E17) (aQ amD bD) func17 (it:=λN=>ac0 N) (λN=>(bT (ZF N) ch)) C_.b C_.vo

def E5:=en [(8,sp8),(14,aer),(13,aep),(15,aev),(11,Z5),(16,aeA),(17,aeB)] [(8,[2,3,4,5,6,7,8]),(13,[3,4,5,6,7,8])]
def A5:Fn [.R] As:=λa=>[aH 5 a]
def k5:Fn [.B] Res:=λa=>⟨[aB a],[]⟩
def vZ:Fn [.B, .S, .I, .I, .I, .I, .I, .I, .R, .R, .R, .R, .R, .R, .R] Tb:=λa b c d e f g h i j k l m o p=>[cA 4 (.b a),cP 6 0,cA 8 (.s b),cA 10 (.own 1),cI 12 c,cI 14 d,cI 16 e,oB 1 [.n f, .own 2, .own 3, .own 4, .own 5, .n g, .own 6, .own 7, .n h],oR 3 58 i,oR 5 51 j,oR 7 9 k,oR 9 9 l,oR 11 45 m,oR 13 127 o,oR 15 55 p]
def ug:Fn [.S, .I, .I, .I, .I, .I, .I, .R, .R, .R, .R, .R, .R, .R] Tb:=λa b c d e f g h i j k l m o=>[(4, .v .un),cP 6 0,cA 8 (.s a),cA 10 (.own 1),cI 12 b,cI 14 c,cI 16 d,oB 1 [.n e, .own 2, .own 3, .own 4, .own 5, .n f, .own 6, .own 7, .n g],oR 3 58 h,oR 5 51 i,oR 7 9 j,oR 9 9 k,oR 11 45 l,oR 13 127 m,oR 15 55 o]
def I5:Fn [.S, .I, .I, .I, .I, .I, .I, .R, .R, .R, .R, .R, .R, .R] Tb:=λa b c d e f g h i j k l m o=>[cP 6 0,cA 8 (.s a),cA 10 (.own 1),cI 12 b,cI 14 c,cI 16 d,oB 1 [.n e, .own 2, .own 3, .own 4, .own 5, .n f, .own 6, .own 7, .n g],oR 3 58 h,oR 5 51 i,oR 7 9 j,oR 9 9 k,oR 11 45 l,oR 13 127 m,oR 15 55 o]
def abQ(N:Nat)(K:Kt R):=U5.l8 N (J vZ .ret K) (J vZ (.exit 0) K) (J ug (.exit 0) K)
def U6(N:Nat)(K:Kt R):=U5.Rp N (J vZ .ret K) (J vZ (.exit 0) K) (J ug (.exit 0) K)
def U4(N:Nat)(K:Kt R):=U5.Ro N (J I5 (.exit 2) K)
def it5(N:Nat):It R:=(lp 8 (al vZ (λK=>abQ N K N) (al ug (λK=>U6 N K N) an)) (lp 13 (al I5 (λK=>U4 N K N) an) ln))
theorem Xp(N:Nat)(K:Kt R):Wd E5 (it5 N) (cB f5 8) 8 K ug (U6 N K):=lw (λg=>U5.r8a N (cmp _ vZ (g∘eJ)) (cmp _ ug (g∘eJ)) (J vZ .ret K) (J vZ (.exit 0) K) (J ug (.exit 0) K)) λm i=>by simp only[Function.comp_def,wf i];rfl
theorem am5(N:Nat)(K:Kt R):Wd E5 (it5 N) (cB f5 8) 8 K vZ (abQ N K):=lw (λg=>U5.r8 N (cmp _ vZ (g∘eJ)) (cmp _ ug (g∘eJ)) (J vZ .ret K) (J vZ (.exit 0) K) (J ug (.exit 0) K)) λm i=>by simp only[Function.comp_def,wf i,wf (Xp N K m)];rfl
theorem ac_(N:Nat):c5 E5 (it5 N (R:=R)) (cB f5 8):=lm 8 (ga vZ (am5 N) (ga ug (Xp N) ni))
theorem ZK(N:Nat):c5 E5 (it5 N (R:=R)) (cB f5 13):=lq 13 I5 (U4 N) λK g=>U5.r13 N g (J I5 (.exit 2) K)
def sp5:=spf A5 k5 U5.c U5.v
theorem ok5:FO 5 sp5:=fq (E:=E5) (aQ ok8 (aQ ams (aQ amr (aQ amt (aQ adt (aQ amu (aQ amv bD))))))) func5 (it:=λN=>it5 N) (λN=>(bT (ac_ N) (bT (ZK N) ch))) U5.b U5.vo

def E79:=en [] []
def A79:Fn [.S, .I, .I, .S, .S] As:=λa b c d e=>[aV [.s a, .n b, .n c, .s d], .fb [.s e]]
def k79:Fn [.B] Res:=λa=>⟨[aB a],[]⟩
def amY:=spf A79 k79 (ct _) U79.v

def aq0:=en [(79,amY)] [(2,[0,1,4,7,8])]
def aiJ:Fn [.R, .S] As:=λa b=>[aH 51 a, .v false [.fn 79 [[.s b]]]]
def amc:Fn [.I] Res:=λa=>⟨[aI a],[]⟩
def G4:Fn [.R, .S, .I, .I, .I] Tb:=λa b c d e=>[cH 0 51 a,cA 2 (.fn 79 [[.s b]]),cI 8 c,cI 14 d,cI 16 e]
def Ya(N:Nat)(K:Kt R):=RU.l2 N (J G4 .ret K) (J G4 (.exit 0) K)
def aoX(N:Nat):It R:=(lp 2 (al G4 (λK=>Ya N K N) an) ln)
def ae5:=spf aiJ amc RU.c RU.v

def aqf:=en [] []
def ahr:Fn [.S, .I, .I, .S, .S] As:=λa b c d e=>[aV [.s a, .n b, .n c, .s d], .fb [.s e]]
def akU:Fn [.B] Res:=λa=>⟨[aB a],[]⟩
def WN:=spf ahr akU (ct _) A9.v

def aq1:=en [(139,WN)] [(2,[0,1,4,7,8])]
def aiK:Fn [.R, .S] As:=λa b=>[aH 51 a, .v false [.fn 139 [[.s b]]]]
def amd:Fn [.I] Res:=λa=>⟨[aI a],[]⟩
def G5:Fn [.R, .S, .I, .I, .I] Tb:=λa b c d e=>[cH 0 51 a,cA 2 (.fn 139 [[.s b]]),cI 8 c,cI 14 d,cI 16 e]
def Yb(N:Nat)(K:Kt R):=tl.l2 N (J G5 .ret K) (J G5 (.exit 0) K)
def aoY(N:Nat):It R:=(lp 2 (al G5 (λK=>Yb N K N) an) ln)
def ae6:=spf aiK amd tl.c tl.v

def aqe:=en [(78,ae5),(78,ae6),(139,WN)] [(5,[0,1,5,6])]
def ahq:Fn [.R, .S] As:=λa b=>[aO 51 a, .v false [.fn 139 [[.s b]]]]
def akT:Fn [.R] Res:=λa=>⟨[aO 51 a],[[.nl]]⟩
def Nk:Fn [.S, .I, .I, .R] Tb:=λa b c d=>[cA 0 (.own 900000000),cA 2 (.fn 139 [[.s a]]),cI 10 b,cI 12 c,oR 1800000001 51 d]
def XZ(N:Nat)(K:Kt R):=pc.l5 N (J Nk (.exit 0) K)
def aoM(N:Nat):It R:=(lp 5 (al Nk (λK=>XZ N K N) an) ln)
def aeq:=spf ahq akT pc.c pc.v

def aqI:=en [] []
def aiv:Fn [.S, .S, .I, .S] As:=λa b c d=>[aV [.s a, .s b, .n c], .fb [.s d]]
def alZ:Fn [.B] Res:=λa=>⟨[aB a],[]⟩
def aeN:=spf aiv alZ (ct _) Nu.v

def anV:=en [(247,aeN)] [(2,[0,1,4,7,8])]
def abh:Fn [.R, .S] As:=λa b=>[aH 189 a, .v false [.fn 247 [[.s b]]]]
def ac6:Fn [.I] Res:=λa=>⟨[aI a],[]⟩
def C0:Fn [.R, .S, .I, .I, .I] Tb:=λa b c d e=>[cH 0 189 a,cA 2 (.fn 247 [[.s b]]),cI 8 c,cI 14 d,cI 16 e]
def RO(N:Nat)(K:Kt R):=uo.l2 N (J C0 .ret K) (J C0 (.exit 0) K)
def akA(N:Nat):It R:=(lp 2 (al C0 (λK=>RO N K N) an) ln)
def QC:=spf abh ac6 uo.c uo.v

def aqK:=en [] []
def aix:Fn [.S, .S, .I, .S] As:=λa b c d=>[aV [.s a, .s b, .n c], .fb [.s d]]
def al1:Fn [.B] Res:=λa=>⟨[aB a],[]⟩
def Xa:=spf aix al1 (ct _) Be.v

def anW:=en [(250,Xa)] [(2,[0,1,4,7,8])]
def abj:Fn [.R, .S] As:=λa b=>[aH 189 a, .v false [.fn 250 [[.s b]]]]
def ac7:Fn [.I] Res:=λa=>⟨[aI a],[]⟩
def C1:Fn [.R, .S, .I, .I, .I] Tb:=λa b c d e=>[cH 0 189 a,cA 2 (.fn 250 [[.s b]]),cI 8 c,cI 14 d,cI 16 e]
def RP(N:Nat)(K:Kt R):=nM.l2 N (J C1 .ret K) (J C1 (.exit 0) K)
def akB(N:Nat):It R:=(lp 2 (al C1 (λK=>RP N K N) an) ln)
def QD:=spf abj ac7 nM.c nM.v

def aqJ:=en [(246,QC),(246,QD),(250,Xa)] [(5,[0,1,5,6])]
def aiw:Fn [.R, .S] As:=λa b=>[aO 189 a, .v false [.fn 250 [[.s b]]]]
def al0:Fn [.R] Res:=λa=>⟨[aO 189 a],[[.nl]]⟩
def Ns:Fn [.S, .I, .I, .R] Tb:=λa b c d=>[cA 0 (.own 900000000),cA 2 (.fn 250 [[.s a]]),cI 10 b,cI 12 c,oR 1800000001 189 d]
def X_(N:Nat)(K:Kt R):=zg.l5 N (J Ns (.exit 0) K)
def aoW(N:Nat):It R:=(lp 5 (al Ns (λK=>X_ N K N) an) ln)
def aeP:=spf aiw al0 zg.c zg.v

def aqC:=en [(50,tN)] [(5,[0,1,4,5,6,7,8])]
def ah5:Fn [.S, .I] As:=λa b=>[aS a,aI b]
def alz:Fn [.I, .I, .B] Res:=λa b c=>⟨[aI a,aI b,aB c],[]⟩
def G3:Fn [.S, .I, .I, .I, .B, .I, .I] Tb:=λa b c d e f g=>[cA 0 (.s a),cI 2 b,cI 8 c,cI 10 d,cA 12 (.b e),cI 14 f,cI 16 g]
def X6(N:Nat)(K:Kt R):=fJ.l5 N (J G3 .ret K) (J G3 (.exit 0) K)
def aoT(N:Nat):It R:=(lp 5 (al G3 (λK=>X6 N K N) an) ln)
def Qu:=spf ah5 alz (ct _) fJ.v

def aqF:=en [] [(2,[0,1,5]),(6,[0,1,5,19])]
def ais:Fn [.I, .S] As:=λa b=>[.v false [.i .u32 a],aS b]
def alW:Fn [.I] Res:=λa=>⟨[.v false [.i .u32 a]],[]⟩
def Np:Fn [.I, .S, .I] Tb:=λa b c=>[cA 0 (.i .u32 a),cA 2 (.s b),cI 10 c]
def Nq:Fn [.I, .S, .I, .I] Tb:=λa b c d=>[cA 0 (.i .u32 a),cA 2 (.s b),cI 10 c,cI 38 d]
def X7(N:Nat)(K:Kt R):=Bd.l2 N (J Np (.exit 0) K)
def X8(N:Nat)(K:Kt R):=Bd.l6 N (J Nq (.exit 2) K)
def aoU(N:Nat):It R:=(lp 2 (al Np (λK=>X7 N K N) an) (lp 6 (al Nq (λK=>X8 N K N) an) ln))
def aeL:=spf ais alW Bd.c Bd.v

def aqv:=en [(242,aeL)] []
def ahY:Fn [.S] As:=λa=>[aS a]
def alr:Fn [.I] Res:=λa=>⟨[.v false [.i .u32 a]],[]⟩
def aeE:=spf ahY alr ze.c ze.v

def aqD:=en [(193,aeE)] []
def ah6:Fn [.S] As:=λa=>[aS a]
def alA:Fn [.S] Res:=λa=>⟨[aS a],[]⟩
def W2:=spf ah6 alA v9.c v9.v

def aqp:=en [(201,Qu),(50,tN),(202,W2)] [(3,[0,4,5])]
def ahA:Fn [.S] As:=λa=>[aS a]
def ak3:Fn [.R, .I] Res:=λa b=>⟨[aO 9 a,aI b],[]⟩
def Nl:Fn [.S, .I, .R] Tb:=λa b c=>[cA 0 (.s a),cA 8 (.own 0),cI 10 b,oR 1 9 c]
def X3(N:Nat)(K:Kt R):=U152.l3 N (J Nl (.exit 0) K)
def aoQ(N:Nat):It R:=(lp 3 (al Nl (λK=>X3 N K N) an) ln)
def aex:=spf ahA ak3 U152.c U152.v

def E77:=en [(50,tN)] []
def A77:Fn [.S] As:=λa=>[aS a]
def k77:Fn [.B] Res:=λa=>⟨[aB a],[]⟩
def amX:=spf A77 k77 (ct _) U77.v

def aqc:=en [(50,tN)] []
def aho:Fn [.I] As:=λa=>[aI a]
def akR:Fn [.B] Res:=λa=>⟨[aB a],[]⟩
def WM:=spf aho akR (ct _) G6.v

def aqd:=en [(77,amX),(129,WM),(50,tN)] []
def ahp:Fn [.S, .I, .I, .S] As:=λa b c d=>[aV [.s a, .n b, .n c, .s d]]
def akS:Fn [.B] Res:=λa=>⟨[aB a],[]⟩
def Qo:=spf ahp akS (ct _) EA.v

def aqH:=en [(50,tN)] [(4,[0,4])]
def aiu:Fn [.I] As:=λa=>[aI a]
def alY:Fn [.S, .B] Res:=λa b=>⟨[aS a,aB b],[]⟩
def Nr:Fn [.I, .R] Tb:=λa b=>[cI 0 a,cA 8 (.own 0),oR 1 5 b]
def X9(N:Nat)(K:Kt R):=td.l4 N (J Nr (.exit 0) K)
def aoV(N:Nat):It R:=(lp 4 (al Nr (λK=>X9 N K N) an) ln)
def QB:=spf aiu alY (ct _) td.v

def aqG:=en [(245,QB)] []
def ait:Fn [.S] As:=λa=>[aS a]
def alX:Fn [.S, .B] Res:=λa b=>⟨[aS a,aB b],[]⟩
def aeM:=spf ait alX (ct _) KM.v

def aqw:=en [(130,Qo),(244,aeM),(245,QB)] []
def ahZ:Fn [.S, .I, .I, .S] As:=λa b c d=>[aV [.s a, .n b, .n c, .s d]]
def als:Fn [.S, .B] Res:=λa b=>⟨[aS a,aB b],[]⟩
def aeF:=spf ahZ als (ct _) KL.v

def aqx:=en [(50,tN),(245,QB),(202,W2)] []
def ah0:Fn [.S] As:=λa=>[aS a]
def alu:Fn [.S, .B] Res:=λa b=>⟨[aS a,aB b],[]⟩
def aeG:=spf ah0 alu EB.c EB.v

def aqk:=en [(195,aeF),(196,aeG)] []
def ahv:Fn [.S, .I, .I, .S] As:=λa b c d=>[aV [.s a, .n b, .n c, .s d]]
def akY:Fn [.S, .B] Res:=λa b=>⟨[aS a,aB b],[]⟩
def apf:=spf ahv akY xN.c xN.v

def aqy:=en [(246,QC),(246,QD)] []
def ah1:Fn [.R, .S] As:=λa b=>[aV [.sh 189 a],aS b]
def alv:Fn [.I] Res:=λa=>⟨[aI a],[]⟩
def W0:=spf ah1 alv gm.c gm.v

def aqn:=en [(50,tN)] [(2,[1,2,6,7,8])]
def ahy:Fn [.R] As:=λa=>[aV [.sh 189 a]]
def ak1:Fn [.B] Res:=λa=>⟨[aB a],[]⟩
def G2:Fn [.B, .R, .I, .I, .R] Tb:=λa b c d e=>[cP 2 0,cA 4 (.b a),cH 12 189 b,cI 14 c,cI 16 d,oB 1 [.sh 189 e]]
def X2(N:Nat)(K:Kt R):=k9.l2 N (J G2 .ret K) (J G2 (.exit 0) K)
def aoP(N:Nat):It R:=(lp 2 (al G2 (λK=>X2 N K N) an) ln)
def WO:=spf ahy ak1 k9.c k9.v

def aqz:=en [(50,tN)] []
def ah2:Fn [.I, .S, .S, .S] As:=λa b c d=>[aV [.n a, .s b, .s c, .s d]]
def alw:Fn [.B] Res:=λa=>⟨[aB a],[]⟩
def aeH:=spf ah2 alw (ct _) Nt.v

def aql:=en [] []
def ahw:Fn [.R] As:=λa=>[aV [.sh 189 a]]
def akZ:Fn [.R] Res:=λa=>⟨[aV [.ow 189 true a]],[]⟩
def aeu:=spf ahw akZ C9.c C9.v

def aqB:=en [(148,aeu),(249,aeP)] []
def ah4:Fn [.R, .S] As:=λa b=>[aV [.sh 189 a],aS b]
def aly:Fn [.R] Res:=λa=>⟨[aV [.ow 189 true a]],[]⟩
def W1:=spf ah4 aly lW.c lW.v

def amR:Go.Shelf.Ren:=⟨λn=>bif Nat.beq n 22 then 248 else bif Nat.beq n 29 then 271 else 272,λn=>bif Nat.beq n 24 then 42 else bif Nat.beq n 9 then 189 else bif Nat.beq n 3 then 3 else bif Nat.beq n 4 then 4 else n,λn=>n⟩
def aeO:List eu->Option (Bool×Res):=XU.JB 189 40

def aqA:=en [(200,W1),(248,aeO)] [(3,[3,4,5,6])]
def ah3:Fn [.R, .S, .S, .I] As:=λa b c d=>[aV [.sh 189 a],aV [.s b, .s c, .n d]]
def alx:Fn [.R] Res:=λa=>⟨[aV [.ow 189 true a]],[]⟩
def Nn:Fn [.I, .S, .S, .I, .R] Tb:=λa b c d e=>[cP 6 0,cP 8 1,cP 10 2,cI 12 a,oB 1 [.s b, .s c, .n d],oB 3 [.nl],oB 5 [.own 3],oR 7 189 e]
def X5(N:Nat)(K:Kt R):=kM.l3 N (J Nn (.exit 0) K)
def aoS(N:Nat):It R:=(lp 3 (al Nn (λK=>X5 N K N) an) ln)
def aeI:=spf ah3 alx kM.c kM.v

def aqm:=en [(197,W0),(150,WO),(198,aeH),(199,aeI),(200,W1)] []
def ahx:Fn [.R, .I, .S, .S, .S] As:=λa b c d e=>[aV [.sh 189 a],aV [.n b, .s c, .s d, .s e]]
def ak0:Fn [.R, .B] Res:=λa b=>⟨[aV [.ow 189 true a],aB b],[]⟩
def apg:=spf ahx ak0 A_.c A_.v

def aqo:=en [(197,W0)] []
def ahz:Fn [.R, .S] As:=λa b=>[aV [.sh 189 a],aS b]
def ak2:Fn [.S, .B] Res:=λa b=>⟨[aS a,aB b],[]⟩
def aew:=spf ahz ak2 zd.c zd.v

def aqE:=en [(201,Qu)] []
def ah7:Fn [.S, .I] As:=λa b=>[aS a,aI b]
def alB:Fn [.S, .I, .B] Res:=λa b c=>⟨[aS a,aI b,aB c],[]⟩
def aeJ:=spf ah7 alB (ct _) um.v

def aqq:=en [(203,aeJ),(201,Qu),(130,Qo)] []
def ahB:Fn [.S] As:=λa=>[aS a]
def ak4:Fn [.S, .I, .I, .S, .B] Res:=λa b c d e=>⟨[aV [.s a, .n b, .n c, .s d],aB e],[]⟩
def aey:=spf ahB ak4 (ct _) v5.v

def aqb:=en [] []
def ahn:Fn [.R] As:=λa=>[aH 51 a]
def akQ:Fn [.R] Res:=λa=>⟨[aO 51 a],[]⟩
def aeo:=spf ahn akQ C8.c C8.v

def E84:=en [(124,aeo),(138,aeq)] []
def A84:Fn [.R, .S] As:=λa b=>[aH 51 a,aS b]
def k84:Fn [.R] Res:=λa=>⟨[aO 51 a],[]⟩
def amZ:=spf A84 k84 Ve.c Ve.v

def amQ:Go.Shelf.Ren:=⟨λn=>bif Nat.beq n 22 then 204 else bif Nat.beq n 29 then 251 else 252,λn=>bif Nat.beq n 24 then 31 else bif Nat.beq n 9 then 51 else bif Nat.beq n 3 then 3 else bif Nat.beq n 4 then 4 else n,λn=>n⟩
def aeK:List eu->Option (Bool×Res):=XU.JB 51 48

def aqr:=en [(84,amZ),(204,aeK)] [(3,[3,5,6])]
def ahC:Fn [.R, .S, .I, .I, .S] As:=λa b c d e=>[aH 51 a,aV [.s b, .n c, .n d, .s e]]
def ak5:Fn [.R] Res:=λa=>⟨[aO 51 a],[]⟩
def Nm:Fn [.I, .S, .I, .I, .S, .R] Tb:=λa b c d e f=>[cP 6 0,cA 10 (.own 1),cI 12 a,oB 1 [.s b, .n c, .n d, .s e],oR 3 51 f]
def X4(N:Nat)(K:Kt R):=Ba.l3 N (J Nm (.exit 0) K)
def aoR(N:Nat):It R:=(lp 3 (al Nm (λK=>X4 N K N) an) ln)
def aez:=spf ahC ak5 Ba.c Ba.v

def aqa:=en [(150,WO),(151,aew),(152,aex),(153,aey),(154,aez)] [(7,[3,27,28,29])]
def ag_:Fn [.R] As:=λa=>[aV [.sh 189 a]]
def akC:Fn [.R] Res:=λa=>⟨[aO 51 a],[]⟩
def Nj:Fn [.I, .I, .R, .R] Tb:=λa b c d=>[cA 6 (.own 0),cA 54 (.own 1),cI 56 a,cI 58 b,oR 1 51 c,oR 3 9 d]
def XY(N:Nat)(K:Kt R):=U101.l7 N (J Nj (.exit 0) K)
def aoL(N:Nat):It R:=(lp 7 (al Nj (λK=>XY N K N) an) ln)
def apd:=spf ag_ akC U101.c U101.v

def aqu:=en [] []
def ahX:Fn [.R] As:=λa=>[aH 3 a]
def alq:Fn [.R] Res:=λa=>⟨[aO 3 a],[]⟩
def aeD:=spf ahX alq v8.c v8.v

def aqh:=en [(192,aeD)] [(3,[2,3,10,11,12])]
def ahs:Fn [.R, .I] As:=λa b=>[aV [.sh 45 a, .n b]]
def akV:Fn [.R, .I] Res:=λa b=>⟨[aV [.ow 45 true a, .n b]],[]⟩
def G0:Fn [.R, .I, .I, .I, .I] Tb:=λa b c d e=>[cP 4 0,cP 6 1,cH 20 45 a,cI 22 b,cI 24 c,oB 1 [.nl, .n d],oB 3 [.nl, .n e]]
def CJ:Fn [.R, .I, .I, .I, .I, .R] Tb:=λa b c d e f=>[cP 4 0,cP 6 1,cH 20 45 a,cI 22 b,cI 24 c,oB 1 [.nl, .n d],oB 3 [.own 2, .n e],oR 5 45 f]
def X0(N:Nat)(K:Kt R):=pd.l3 N (J G0 (.exit 0) K) (J CJ (.exit 0) K)
def RN(N:Nat)(K:Kt R):=pd.oa N (J G0 (.exit 0) K) (J CJ (.exit 0) K)
def aoN(N:Nat):It R:=(lp 3 (al G0 (λK=>X0 N K N) (al CJ (λK=>RN N K N) an)) ln)
def ape:=spf ahs akV pd.c pd.v

def E80:=en [(130,Qo),(129,WM),(50,tN)] []
def A80:Fn [.S, .I, .I, .S, .I] As:=λa b c d e=>[aV [.s a, .n b, .n c, .s d],aI e]
def k80:Fn [.B] Res:=λa=>⟨[aB a],[]⟩
def atv:=spf A80 k80 (ct _) RV.v

def aqi:=en [] []
def aht:Fn [.I, .S, .R] As:=λa b c=>[aV [.n a, .s b, .sh 219 c]]
def akW:Fn [.I, .S, .R] Res:=λa b c=>⟨[aV [.n a, .s b, .ow 219 true c]],[]⟩
def aes:=spf aht akW RS.c RS.v

def aqj:=en [(50,tN)] [(2,[1,2,6,7,8])]
def ahu:Fn [.I, .S, .R] As:=λa b c=>[aV [.n a, .s b, .sh 219 c]]
def akX:Fn [.B] Res:=λa=>⟨[aB a],[]⟩
def G1:Fn [.B, .R, .I, .I, .I, .S, .R] Tb:=λa b c d e f g=>[cP 2 0,cA 4 (.b a),cH 12 219 b,cI 14 c,cI 16 d,oB 1 [.n e, .s f, .sh 219 g]]
def X1(N:Nat)(K:Kt R):=RT.l2 N (J G1 .ret K) (J G1 (.exit 0) K)
def aoO(N:Nat):It R:=(lp 2 (al G1 (λK=>X1 N K N) an) ln)
def aet:=spf ahu akX (ct _) RT.v

def E88:=en [(143,aes),(144,aet),(50,tN)] []
def A88:Fn [.I, .S, .R, .S] As:=λa b c d=>[aV [.n a, .s b, .sh 219 c],aS d]
def k88:Fn [.I, .S, .R, .B] Res:=λa b c d=>⟨[aV [.n a, .s b, .ow 219 true c],aB d],[]⟩
def atw:=spf A88 k88 U88.c U88.v

end Go.FG.Se
