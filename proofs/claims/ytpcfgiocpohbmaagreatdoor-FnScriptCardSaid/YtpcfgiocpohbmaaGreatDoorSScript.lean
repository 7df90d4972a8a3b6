/- Functions of the program: the evaluation of each, and that a call of it does what is told. No condition. -/
import Derived.Test.YtpcfgiocpohbmaaGreatDoorTab
import Derived.Test.YtpcfgiocpohbmaaGreatDoorPScriptb
import Derived.Test.YtpcfgiocpohbmaaGreatDoorIns
import Derived.Test.YtpcfgiocpohbmaaGreatDoorSh
import Derived.Shelf.Strconv.Itoa3
import Derived.Lib.ItoaLen
import Derived.Shelf.Strconv.ErrVarAll
import Derived.Shelf.Strings.SplitShaped
import Derived.Lib.SplitLaws
import Derived.Lib.SmallJoins
import Derived.WalkKit
import Derived.BigCall
import Derived.Deep.DeepMust
import Derived.Shelf.Strings.OnBuilder
set_option linter.all false
set_option maxRecDepth 100000
set_option autoImplicit true
set_option relaxedAutoImplicit true
namespace Go.FG.Se
open Go.Proofs Go.Proofs.Tryz
variable {R:Type}
abbrev FO:=lI Tryz.prog T
def E8:=en [] []
def A8:Fn [.R] As:=λa=>[aH 5 a]
def k8:Fn [.B] iO:=λa=>⟨[aB a],[]⟩
def sp8:=dR A8 k8 (ct _) U8.v
def ok8:FO 8 sp8:=ft (E:=E8) a6 func8 U8.b λ(a,_)=>U8.eu _ a
def E31:=en [] [(3,[0,3,4])]
def k31:Fn [.R,.I,.I] iO:=λa b c=>⟨[.pt [.sh 5 a,.n b,.n c]],[]⟩
def MF:Fn [.R,.I,.I] Tb:=λa b c=>[cH 0 5 a,cI 6 b,cI 8 c]
def Zj(N:Nat)(K:Kt R):=Ql.l3 N (J MF (.exit 0) K)
def ahE(N:Nat):It R:=lp 3 (al MF (λK=>Zj N K N) an) ln
def aeu(N:Nat):b0 E31 (ahE N (R:=R)) (bM f31 3):=lq 3 MF (Zj N) λK g=>Ql.r3 N g (J MF (.exit 0) K)
def aj9:=dR A8 k31 Ql.c Ql.v
def anB:FO 31 aj9:=fq (E:=E31) a6 func31 (it:=ahE) (λN=>bh (aeu N) bC) Ql.b Ql.vo
def A72:Fn [.R,.I,.I] As:=λa b c=>[.pt [.sh 5 a,.n b,.n c]]
def k72:Fn [.I,.R,.I,.I] iO:=λa b c d=>⟨[aI a],[[.sh 5 b,.n c,.n d]]⟩
def akv:=dR A72 k72 dA.c dA.v
def anZ:FO 72 akv:=fr (E:=E8) a6 func72 dA.b dA.vo
def E44:=en [(72,akv)] []
def A44:Fn [.R,.I,.I,.I] As:=λa b c d=>[.pt [.sh 5 a,.n b,.n c],aI d]
def UT:=dR A44 k72 nM.c nM.v
def PG:FO 44 UT:=fr (E:=E44) (aJ anZ a6) func44 nM.b nM.vo
def VO:=en [] [(3,[0,1,2])]
def OD:Fn [] As:=[]
def Pv:Fn [.R,.I] iO:=λa b=>⟨[aV [.ow 45 true a,.n b]],[]⟩
def rU:Fn [.I,.I,.I] Tb:=λa b c=>[cP 0 0,cP 2 1,cI 4 a,oB 1 [.nl,.n b],oB 3 [.nl,.n c]]
def oO:Fn [.I,.I,.I,.R] Tb:=λa b c d=>[cP 0 0,cP 2 1,cI 4 a,oB 1 [.nl,.n b],oB 3 [.own 2,.n c],oR 5 45 d]
def QJ(N:Nat)(K:Kt R):=GM.l3 N (J rU (.exit 0) K) (J oO (.exit 0) K)
def Mh(N:Nat)(K:Kt R):=GM.oJ N (J rU (.exit 0) K) (J oO (.exit 0) K)
def Nz(N:Nat):It R:=lp 3 (al rU (λK=>QJ N K N) (al oO (λK=>Mh N K N) an)) ln
def Ot(N:Nat)(K:Kt R):Wd VO (Nz N) (bM f111 3) 3 K oO (Mh N K):=lw (λg=>GM.vC N (cmp _ rU (g∘eW)) (cmp _ oO (g∘eW)) (J rU (.exit 0) K) (J oO (.exit 0) K)) λm i=>by simp only[Function.comp_def,wf i];rfl
def aft(N:Nat)(K:Kt R):Wd VO (Nz N) (bM f111 3) 3 K rU (QJ N K):=lw (λg=>GM.r3 N (cmp _ rU (g∘eW)) (cmp _ oO (g∘eW)) (J rU (.exit 0) K) (J oO (.exit 0) K)) λm i=>by simp only[Function.comp_def,wf i,wf (Ot N K m)];rfl
def Xa(N:Nat):b0 VO (Nz N (R:=R)) (bM f111 3):=lm 3 (ga rU (aft N) (ga oO (Ot N) mV))
def abF:=dR OD Pv GM.c GM.v
def ail:FO 111 abF:=fq (E:=VO) a6 func111 (it:=Nz) (λN=>bh (Xa N) bC) GM.b GM.vo
def E66:=en [(111,abF)] []
def k66:Fn [.R,.R,.R,.I] iO:=λa b c d=>⟨[aV [.ow 9 true a,.ow 9 true b,.ow 45 true c,.n d]],[]⟩
def akt:=dR OD k66 (ct _) U66.v
def anX:FO 66 akt:=ft (E:=E66) (aJ ail a6) func66 U66.b λ_=>U66.eu _
def E37:=en [(66,akt)] []
def VE:Fn [.I,.R,.R,.R,.R,.I,.R,.R,.I] iO:=λa b c d e f g h i=>⟨[aV [.n a,.ow 51 true b,.ow 9 true c,.ow 9 true d,.ow 45 true e,.n f,.ow 127 true g,.ow 55 true h,.n i]],[]⟩
def YK:=dR OD VE (ct _) U37.v
def aeR:FO 37 YK:=ft (E:=E37) (aJ anX a6) func37 U37.b λ_=>U37.eu _
def ac3:=en [(44,UT)] []
def alz:Fn [.R,.I,.I,.R] As:=λa b c d=>[.pt [.sh 5 a,.n b,.n c],aO 3 d]
def am8:Fn [.I,.R,.I,.I,.R] iO:=λa b c d e=>⟨[aI a],[[.sh 5 b,.n c,.n d],[.kp e]]⟩
def abD:=dR alz am8 n4.c n4.v
def aij:FO 104 abD:=fr (E:=ac3) (aJ PG a6) func104 n4.b n4.vo
def alA:Fn [.R,.I,.I,.R] As:=λa b c d=>[.pt [.sh 5 a,.n b,.n c],aO 9 d]
def am_:Fn [.S,.R,.I,.I,.R] iO:=λa b c d e=>⟨[aS a],[[.sh 5 b,.n c,.n d],[.kp e]]⟩
def Ul:=dR alA am_ pY.c pY.v
def aaO:FO 106 Ul:=fr (E:=ac3) (aJ PG a6) func106 pY.b pY.vo
def alU:=en [(106,Ul)] []
def am9:Fn [.S,.R,.I,.I] iO:=λa b c d=>⟨[aS a],[[.sh 5 b,.n c,.n d]]⟩
def abE:=dR A72 am9 vh.c vh.v
def aik:FO 105 abE:=fr (E:=alU) (aJ aaO a6) func105 vh.b vh.vo
def k73:Fn [.B,.R,.I,.I] iO:=λa b c d=>⟨[aB a],[[.sh 5 b,.n c,.n d]]⟩
def afj:=dR A44 k73 H4.c H4.v
def ajt:FO 73 afj:=fr (E:=ac3) (aJ PG a6) func73 H4.b H4.vo
def E61:=en [(104,abD),(44,UT),(105,abE),(73,afj),(106,Ul)] [(4,[0,1,3,4,5,6,7])]
def A61:Fn [.R,.I,.I,.I,.R,.R,.R,.R,.I,.R,.R,.I,.R,.R,.R] As:=λa b c d e f g h i j k l m o p=>[.pt [.sh 5 a,.n b,.n c],aV [.n d,.ow 51 true e,.ow 9 true f,.ow 9 true g,.ow 45 true h,.n i,.ow 127 true j,.ow 55 true k,.n l,.ow 189 true m,.ow 3 true o,.ow 51 true p]]
def k61:Fn [.I,.I,.S,.I,.R,.R,.I,.I,.R,.R,.R,.R,.R,.R,.R,.R,.R] iO:=λa b c d e f g h i j k l m o p q r=>⟨[aV [.n a,.n b,.s c,.n d,.ow 3 true e]],[[.sh 5 f,.n g,.n h],[.nl,.kp i,.kp j,.kp k,.kp l,.nl,.kp m,.kp o,.nl,.kp p,.kp q,.kp r]]⟩
def MK:Fn [.I,.I,.I,.I,.R,.I,.I,.R,.R,.R,.R,.R,.R,.R,.R,.R,.I,.I,.I,.I,.I,.S,.I,.I,.I,.S,.I,.R] Tb:=λa b c d e f g h i j k l m o p q r s t u v w x y z aa ab ac=>[cP 0 900000900,cV 2 [.n a,.own 900001001,.own 900001002,.own 900001003,.own 900001004,.n b,.own 900001006,.own 900001007,.n c,.own 900001009,.own 900001010,.own 900001011],cP 6 10,cP 8 11,cP 10 12,cA 12 (.own 13),cI 14 d,oB 1800001801 [.sh 5 e,.n f,.n g],oR 1800002003 51 h,oR 1800002005 9 i,oR 1800002007 9 j,oR 1800002009 45 k,oR 1800002013 127 l,oR 1800002015 55 m,oR 1800002019 189 o,oR 1800002021 3 p,oR 1800002023 51 q,oB 21 [.n r,.own 900001001,.own 900001002,.own 900001003,.own 900001004,.n s,.own 900001006,.own 900001007,.n t,.own 900001009,.own 900001010,.own 900001011],oB 23 [.n u,.n v,.s w,.n x,.nl],oB 25 [.n y,.n z,.s aa,.n ab,.nl],oR 27 3 ac]
def Zr(N:Nat)(K:Kt R):=Km.l4 N (J MK (.exit 0) K)
def ahL(N:Nat):It R:=lp 4 (al MK (λK=>Zr N K N) an) ln
def aeC(N:Nat):b0 E61 (ahL N (R:=R)) (bM f61 4):=lq 4 MK (Zr N) λK g=>Km.r4 N g (J MK (.exit 0) K)
def akq:=dR A61 k61 Km.c Km.v
def anU:FO 61 akq:=fq (E:=E61) (aJ aij (aJ PG (aJ aik (aJ ajt (aJ aaO a6))))) func61 (it:=ahL) (λN=>bh (aeC N) bC) Km.b Km.vo
def VU:=en [] [(3,[1,2,3,4])]
def VL:Fn [.R,.I] As:=λa b=>[aV [.sh 45 a,.n b]]
def rY:Fn [.I,.R,.I,.I,.I] Tb:=λa b c d e=>[cP 2 0,cP 4 1,cP 6 2,cI 8 a,oB 1 [.sh 45 b,.n c],oB 3 [.nl,.n d],oB 5 [.nl,.n e]]
def oT:Fn [.I,.R,.I,.I,.I,.R] Tb:=λa b c d e f=>[cP 2 0,cP 4 1,cP 6 2,cI 8 a,oB 1 [.sh 45 b,.n c],oB 3 [.nl,.n d],oB 5 [.own 3,.n e],oR 7 45 f]
def Re(N:Nat)(K:Kt R):=oq.l3 N (J rY (.exit 0) K) (J oT (.exit 0) K)
def Mo(N:Nat)(K:Kt R):=oq.oJ N (J rY (.exit 0) K) (J oT (.exit 0) K)
def NF(N:Nat):It R:=lp 3 (al rY (λK=>Re N K N) (al oT (λK=>Mo N K N) an)) ln
def Ox(N:Nat)(K:Kt R):Wd VU (NF N) (bM f180 3) 3 K oT (Mo N K):=lw (λg=>oq.vC N (cmp _ rY (g∘eW)) (cmp _ oT (g∘eW)) (J rY (.exit 0) K) (J oT (.exit 0) K)) λm i=>by simp only[Function.comp_def,wf i];rfl
def afx(N:Nat)(K:Kt R):Wd VU (NF N) (bM f180 3) 3 K rY (Re N K):=lw (λg=>oq.r3 N (cmp _ rY (g∘eW)) (cmp _ oT (g∘eW)) (J rY (.exit 0) K) (J oT (.exit 0) K)) λm i=>by simp only[Function.comp_def,wf i,wf (Ox N K m)];rfl
def XI(N:Nat):b0 VU (NF N (R:=R)) (bM f180 3):=lm 3 (ga rY (afx N) (ga oT (Ox N) mV))
def Oa:=dR VL Pv oq.c oq.v
def TB:FO 180 Oa:=fq (E:=VU) a6 func180 (it:=NF) (λN=>bh (XI N) bC) oq.b oq.vo
def alZ:=en [(180,Oa)] []
def Qx:Fn [.R,.R,.R,.I] As:=λa b c d=>[aV [.sh 9 a,.sh 9 b,.sh 45 c,.n d]]
def Un:=dR Qx k66 gi.c gi.v
def aaQ:FO 120 Un:=fr (E:=alZ) (aJ TB a6) func120 gi.b gi.vo
def E68:=en [(120,Un)] []
def QA:Fn [.I,.R,.R,.R,.R,.I,.R,.R,.I] As:=λa b c d e f g h i=>[aV [.n a,.sh 51 b,.sh 9 c,.sh 9 d,.sh 45 e,.n f,.sh 127 g,.sh 55 h,.n i]]
def LN:=dR QA VE lh.c lh.v
def Lj:FO 68 LN:=fr (E:=E68) (aJ aaQ a6) func68 lh.b lh.vo
def A49:Fn [.I,.I,.I] As:=λa b c=>[aI a,aI b,aI c]
def wE:=dR A49 k8 (ct _) kI.v
def vA:FO 49 wE:=ft (E:=E8) a6 func49 kI.b λ(a,b,c,_)=>kI.eu _ a b c
def ac7:=en [(49,wE)] []
def pd:Fn [.S] As:=λa=>[aS a]
def DA:=dR pd k8 (ct _) tQ.v
def Fm:FO 162 DA:=ft (E:=ac7) (aJ vA a6) func162 tQ.b λ(a,_)=>tQ.eu _ a
def amm:=en [(162,DA),(49,wE)] []
def J':Fn [.S,.I,.I,.S] As:=λa b c d=>[aV [.s a,.n b,.n c,.s d]]
def JL:=dR J' k8 (ct _) gU.v
def NT:FO 217 JL:=ft (E:=amm) (aJ Fm (aJ vA a6)) func217 gU.b λ(a,b,c,d,_)=>gU.eu _ a b c d
def agX:=en [] [(2,[0,1,4,5])]
def Qy:Fn [.R,.S] As:=λa b=>[aH 9 a,aS b]
def zA:Fn [.R,.S,.B,.I] Tb:=λa b c d=>[cH 0 9 a,cA 2 (.s b),cA 8 (.b c),cI 10 d]
def Rp(N:Nat)(K:Kt R):=eV.l2 N (J zA .ret K) (J zA (.exit 0) K)
def aar(N:Nat):It R:=lp 2 (al zA (λK=>Rp N K N) an) ln
def XT(N:Nat):b0 agX (aar N (R:=R)) (bM f219 2):=lq 2 zA (Rp N) λK g=>eV.r2 N g (J zA .ret K) (J zA (.exit 0) K)
def Oc:=dR Qy k8 eV.c eV.v
def TD:FO 219 Oc:=fq (E:=agX) a6 func219 (it:=aar) (λN=>bh (XT N) bC) eV.b eV.vo
def amv:=en [(219,Oc)] []
def OE:Fn [.R,.R,.R,.I,.S] As:=λa b c d e=>[aV [.sh 9 a,.sh 9 b,.sh 45 c,.n d],aS e]
def UP:=dR OE k8 tW.c tW.v
def abh:FO 258 UP:=fr (E:=amv) (aJ TD a6) func258 tW.b tW.vo
def ac9:=en [(49,wE)] [(4,[1,2,3]),(9,[1,2,3,4])]
def zC:Fn [.B,.I,.R,.I] Tb:=λa b c d=>[cP 2 0,cA 4 (.b a),cI 6 b,oB 1 [.sh 45 c,.n d]]
def zD:Fn [.B,.I,.I,.R,.I] Tb:=λa b c d e=>[cP 2 0,cA 4 (.b a),cI 6 b,cI 8 c,oB 1 [.sh 45 d,.n e]]
def Ru(N:Nat)(K:Kt R):=fE.l4 N (J zC .ret K) (J zC (.exit 0) K)
def Rv(N:Nat)(K:Kt R):=fE.l9 N (J zD .ret K) (J zD (.exit 2) K)
def SY(N:Nat):It R:=lp 4 (al zC (λK=>Ru N K N) an) (lp 9 (al zD (λK=>Rv N K N) an) ln)
def XY(N:Nat):b0 ac9 (SY N (R:=R)) (bM f222 4):=lq 4 zC (Ru N) λK g=>fE.r4 N g (J zC .ret K) (J zC (.exit 0) K)
def XZ(N:Nat):b0 ac9 (SY N (R:=R)) (bM f222 9):=lq 9 zD (Rv N) λK g=>fE.r9 N g (J zD .ret K) (J zD (.exit 2) K)
def Od:=dR VL k8 fE.c fE.v
def TE:FO 222 Od:=fq (E:=ac9) (aJ vA a6) func222 (it:=SY) (λN=>bh (XY N) (bh (XZ N) bC)) fE.b fE.vo
def agW:=en [(162,DA),(219,Oc),(222,Od)] [(3,[1,2,3,4])]
def zy:Fn [.B,.I,.R,.R,.R,.I,.R] Tb:=λa b c d e f g=>[cP 2 0,cA 4 (.b a),cA 6 (.own 1),cI 8 b,oB 1 [.sh 9 c,.sh 9 d,.sh 45 e,.n f],oR 3 9 g]
def Ro(N:Nat)(K:Kt R):=nA.l3 N (J zy .ret K) (J zy (.exit 0) K)
def aaq(N:Nat):It R:=lp 3 (al zy (λK=>Ro N K N) an) ln
def XS(N:Nat):b0 agW (aaq N (R:=R)) (bM f218 3):=lq 3 zy (Ro N) λK g=>nA.r3 N g (J zy .ret K) (J zy (.exit 0) K)
def UI:=dR Qx k8 nA.c nA.v
def aba:FO 218 UI:=fq (E:=agW) (aJ Fm (aJ TD (aJ TE a6))) func218 (it:=aaq) (λN=>bh (XS N) bC) nA.b nA.vo
def agU:=en [(217,JL),(258,UP),(218,UI)] [(2,[1,2,3])]
def oj:Fn [.B,.I,.I,.R,.R,.R,.R,.I,.R,.R,.I] Tb:=λa b c d e f g h i j k=>[cP 2 0,cA 4 (.b a),cI 6 b,oB 1 [.n c,.sh 51 d,.sh 9 e,.sh 9 f,.sh 45 g,.n h,.sh 127 i,.sh 55 j,.n k]]
def Rm(N:Nat)(K:Kt R):=qE.l2 N (J oj .ret K) (J oj (.exit 0) K)
def aao(N:Nat):It R:=lp 2 (al oj (λK=>Rm N K N) an) ln
def XQ(N:Nat):b0 agU (aao N (R:=R)) (bM f215 2):=lq 2 oj (Rm N) λK g=>qE.r2 N g (J oj .ret K) (J oj (.exit 0) K)
def acm:=dR QA k8 qE.c qE.v
def ai5:FO 215 acm:=fq (E:=agU) (aJ NT (aJ abh (aJ aba a6))) func215 (it:=aao) (λN=>bh (XQ N) bC) qE.b qE.vo
def agV:=en [(162,DA),(49,wE)] [(5,[1,2,4,5,6])]
def DV:Fn [.I,.R,.R,.R,.R,.I,.R,.R,.I,.I] As:=λa b c d e f g h i j=>[aV [.n a,.sh 51 b,.sh 9 c,.sh 9 d,.sh 45 e,.n f,.sh 127 g,.sh 55 h,.n i],aI j]
def zx:Fn [.I,.B,.I,.I,.R,.R,.R,.R,.I,.R,.R,.I,.S,.S,.I,.I,.I] Tb:=λa b c d e f g h i j k l m o p q r=>[cI 2 a,cP 4 0,cA 8 (.b b),cP 10 1,cI 12 c,oB 1 [.n d,.sh 51 e,.sh 9 f,.sh 9 g,.sh 45 h,.n i,.sh 127 j,.sh 55 k,.n l],oB 3 [.s m,.s o,.n p,.n q,.n r]]
def Rn(N:Nat)(K:Kt R):=nz.l5 N (J zx .ret K) (J zx (.exit 0) K)
def aap(N:Nat):It R:=lp 5 (al zx (λK=>Rn N K N) an) ln
def XR(N:Nat):b0 agV (aap N (R:=R)) (bM f216 5):=lq 5 zx (Rn N) λK g=>nz.r5 N g (J zx .ret K) (J zx (.exit 0) K)
def acn:=dR DV k8 nz.c nz.v
def ai6:FO 216 acn:=fq (E:=agV) (aJ Fm (aJ vA a6)) func216 (it:=aap) (λN=>bh (XR N) bC) nz.b nz.vo
def ac6:=en [(49,wE),(215,acm),(216,acn),(162,DA)] [(4,[1,2,3]),(9,[1,2,4])]
def zt:Fn [.B,.I,.I,.R,.R,.R,.R,.I,.R,.R,.I] Tb:=λa b c d e f g h i j k=>[cP 2 0,cA 4 (.b a),cI 8 b,oB 1 [.n c,.sh 51 d,.sh 9 e,.sh 9 f,.sh 45 g,.n h,.sh 127 i,.sh 55 j,.n k]]
def Q2(N:Nat)(K:Kt R):=mj.l4 N (J oj .ret K) (J oj (.exit 0) K)
def Q3(N:Nat)(K:Kt R):=mj.l9 N (J zt .ret K) (J zt (.exit 2) K)
def SU(N:Nat):It R:=lp 4 (al oj (λK=>Q2 N K N) an) (lp 9 (al zt (λK=>Q3 N K N) an) ln)
def Xu(N:Nat):b0 ac6 (SU N (R:=R)) (bM f161 4):=lq 4 oj (Q2 N) λK g=>mj.r4 N g (J oj .ret K) (J oj (.exit 0) K)
def Xv(N:Nat):b0 ac6 (SU N (R:=R)) (bM f161 9):=lq 9 zt (Q3 N) λK g=>mj.r9 N g (J zt .ret K) (J zt (.exit 2) K)
def Uy:=dR QA k8 mj.c mj.v
def aa1:FO 161 Uy:=fq (E:=ac6) (aJ vA (aJ ai5 (aJ ai6 (aJ Fm a6)))) func161 (it:=SU) (λN=>bh (Xu N) (bh (Xv N) bC)) mj.b mj.vo
def agJ:=en [] [(2,[1,2,4,5,6])]
def af7:Fn [.I,.R,.R,.R,.R,.I,.R,.R,.I,.S] As:=λa b c d e f g h i j=>[aV [.n a,.sh 51 b,.sh 9 c,.sh 9 d,.sh 45 e,.n f,.sh 127 g,.sh 55 h,.n i],aS j]
def ad_:Fn [.S,.I,.I,.S,.B] iO:=λa b c d e=>⟨[aV [.s a,.n b,.n c,.s d],aB e],[]⟩
def zu:Fn [.S,.B,.I,.I,.R,.R,.R,.R,.I,.R,.R,.I,.S,.I,.I,.S] Tb:=λa b c d e f g h i j k l m o p q=>[cA 2 (.s a),cP 4 0,cP 8 1,cA 10 (.b b),cI 12 c,oB 1 [.n d,.sh 51 e,.sh 9 f,.sh 9 g,.sh 45 h,.n i,.sh 127 j,.sh 55 k,.n l],oB 3 [.s m,.n o,.n p,.s q]]
def Q4(N:Nat)(K:Kt R):=xI.l2 N (J zu .ret K) (J zu (.exit 0) K)
def aac(N:Nat):It R:=lp 2 (al zu (λK=>Q4 N K N) an) ln
def Xw(N:Nat):b0 agJ (aac N (R:=R)) (bM f163 2):=lq 2 zu (Q4 N) λK g=>xI.r2 N g (J zu .ret K) (J zu (.exit 0) K)
def ab0:=dR af7 ad_ xI.c xI.v
def aiI:FO 163 ab0:=fq (E:=agJ) a6 func163 (it:=aac) (λN=>bh (Xw N) bC) xI.b xI.vo
def al_:=en [(217,JL),(49,wE)] []
def af8:Fn [.S,.I,.I,.S,.I] As:=λa b c d e=>[aV [.s a,.n b,.n c,.s d],aI e]
def N9:=dR af8 k8 (ct _) vm.v
def Ty:FO 164 N9:=ft (E:=al_) (aJ NT (aJ vA a6)) func164 vm.b λ(a,b,c,d,e,_)=>vm.eu _ a b c d e
def ac':=en [] [(2,[0,1,5]),(6,[0,1,5,6])]
def agq:Fn [.I,.S] As:=λa b=>[.v false [.i .u32 a],aS b]
def W1:Fn [.I] iO:=λa=>⟨[.v false [.i .u32 a]],[]⟩
def tM:Fn [.I,.S,.I] Tb:=λa b c=>[cA 0 (.i .u32 a),cA 2 (.s b),cI 10 c]
def GH:Fn [.I,.S,.I,.I] Tb:=λa b c d=>[cA 0 (.i .u32 a),cA 2 (.s b),cI 10 c,cI 12 d]
def RP(N:Nat)(K:Kt R):=jT.l2 N (J tM (.exit 0) K)
def RQ(N:Nat)(K:Kt R):=jT.l6 N (J GH (.exit 2) K)
def S4(N:Nat):It R:=lp 2 (al tM (λK=>RP N K N) an) (lp 6 (al GH (λK=>RQ N K N) an) ln)
def Yf(N:Nat):b0 ac' (S4 N (R:=R)) (bM f276 2):=lq 2 tM (RP N) λK g=>jT.r2 N g (J tM (.exit 0) K)
def Yg(N:Nat):b0 ac' (S4 N (R:=R)) (bM f276 6):=lq 6 GH (RQ N) λK g=>jT.r6 N g (J GH (.exit 2) K)
def acG:=dR agq W1 jT.c jT.v
def ajn:FO 276 acG:=fq (E:=ac') a6 func276 (it:=S4) (λN=>bh (Yf N) (bh (Yg N) bC)) jT.b jT.vo
def amw:=en [(276,acG)] []
def UQ:=dR pd W1 wk.c wk.v
def abj:FO 259 UQ:=fr (E:=amw) (aJ ajn a6) func259 wk.b wk.vo
def amn:=en [(259,UQ)] []
def agi:Fn [.I,.S] As:=λa b=>[aI a,aS b]
def yk:Fn [.I] iO:=λa=>⟨[aI a],[]⟩
def UK:=dR agi yk gV.c gV.v
def abc:FO 223 UK:=fr (E:=amn) (aJ abj a6) func223 gV.b gV.vo
def VS:=en [(180,Oa),(222,Od),(223,UK)] [(5,[1,4,5,6]),(14,[4,5,8]),(17,[4,5,8,9])]
def VK:Fn [.R,.I,.S] As:=λa b c=>[aV [.sh 45 a,.n b],aS c]
def Gh:Fn [.S,.I,.I,.I,.R] Tb:=λa b c d e=>[cA 2 (.s a),cP 8 0,cP 10 1,cI 12 b,oB 1 [.nl,.n c],oB 3 [.own 2,.n d],oR 5 45 e]
def BL:Fn [.I,.I,.I,.R] Tb:=λa b c d=>[cP 8 0,cP 10 1,cI 16 a,oB 1 [.nl,.n b],oB 3 [.own 2,.n c],oR 5 45 d]
def BM:Fn [.I,.I,.I,.I,.R] Tb:=λa b c d e=>[cP 8 0,cP 10 1,cI 16 a,cI 18 b,oB 1 [.nl,.n c],oB 3 [.own 2,.n d],oR 5 45 e]
def Q8(N:Nat)(K:Kt R):=dy.l5 N (J Gh (.exit 0) K)
def Ml(N:Nat)(K:Kt R):=dy.l14 N (J BL (.exit 2) K)
def Mm(N:Nat)(K:Kt R):=dy.l17 N (J BM (.exit 4) K)
def NC(N:Nat):It R:=lp 5 (al Gh (λK=>Q8 N K N) an) (lp 14 (al BL (λK=>Ml N K N) an) (lp 17 (al BM (λK=>Mm N K N) an) ln))
def XA(N:Nat):b0 VS (NC N (R:=R)) (bM f169 5):=lq 5 Gh (Q8 N) λK g=>dy.r5 N g (J Gh (.exit 0) K)
def Td(N:Nat):b0 VS (NC N (R:=R)) (bM f169 14):=lq 14 BL (Ml N) λK g=>dy.r14 N g (J BL (.exit 2) K)
def Te(N:Nat):b0 VS (NC N (R:=R)) (bM f169 17):=lq 17 BM (Mm N) λK g=>dy.r17 N g (J BM (.exit 4) K)
def UB:=dR VK Pv dy.c dy.v
def aa4:FO 169 UB:=fq (E:=VS) (aJ TB (aJ TE (aJ abc a6))) func169 (it:=NC) (λN=>bh (XA N) (bh (Td N) (bh (Te N) bC))) dy.b dy.vo
def ON:=en [] [(3,[0,1,5,6])]
def K7:Fn [.R] iO:=λa=>⟨[aO 9 a],[]⟩
def Gu:Fn [.R,.S,.I,.R] Tb:=λa b c d=>[cH 0 9 a,cA 2 (.s b),cA 10 (.own 0),cI 12 c,oR 1 9 d]
def Rs(N:Nat)(K:Kt R):=py.l3 N (J Gu (.exit 0) K)
def aas(N:Nat):It R:=lp 3 (al Gu (λK=>Rs N K N) an) ln
def XW(N:Nat):b0 ON (aas N (R:=R)) (bM f220 3):=lq 3 Gu (Rs N) λK g=>py.r3 N g (J Gu (.exit 0) K)
def UJ:=dR Qy K7 py.c py.v
def abb:FO 220 UJ:=fq (E:=ON) a6 func220 (it:=aas) (λN=>bh (XW N) bC) py.b py.vo
def agY:=en [(222,Od),(223,UK)] [(5,[1,2,5,6])]
def Gv:Fn [.S,.I,.I,.R,.I] Tb:=λa b c d e=>[cA 2 (.s a),cP 4 0,cI 10 b,cI 12 c,oB 1 [.sh 45 d,.n e]]
def Rt(N:Nat)(K:Kt R):=lS.l5 N (J Gv (.exit 0) K)
def aat(N:Nat):It R:=lp 5 (al Gv (λK=>Rt N K N) an) ln
def XX(N:Nat):b0 agY (aat N (R:=R)) (bM f221 5):=lq 5 Gv (Rt N) λK g=>lS.r5 N g (J Gv (.exit 0) K)
def aco:=dR VK yk lS.c lS.v
def ai7:FO 221 aco:=fq (E:=agY) (aJ TE (aJ abc a6)) func221 (it:=aat) (λN=>bh (XX N) bC) lS.b lS.vo
def al':=en [(120,Un),(218,UI),(162,DA),(169,UB),(219,Oc),(220,UJ),(221,aco)] []
def ahU:Fn [.R,.R,.R,.I,.S] iO:=λa b c d e=>⟨[aV [.ow 9 true a,.ow 9 true b,.ow 45 true c,.n d],aS e],[]⟩
def Uz:=dR OE ahU eO.c eO.v
def aa2:FO 165 Uz:=fr (E:=al') (aJ aaQ (aJ aba (aJ Fm (aJ aa4 (aJ TD (aJ abb (aJ ai7 a6))))))) func165 eO.b eO.vo
def OM:=en [] [(3,[0,3,5,6]),(9,[0,3,5,7])]
def alF:Fn [.R,.I,.S,.I,.I,.I,.S,.I] As:=λa b c d e f g h=>[aH 55 a,aV [.n b,.s c,.n d,.n e,.n f,.s g,.n h]]
def ana:Fn [.R] iO:=λa=>⟨[aO 55 a],[]⟩
def Ge:Fn [.R,.I,.I,.S,.I,.I,.I,.S,.I,.R] Tb:=λa b c d e f g h i j=>[cH 0 55 a,cP 6 0,cA 10 (.own 1),cI 12 b,oB 1 [.n c,.s d,.n e,.n f,.n g,.s h,.n i],oR 3 55 j]
def Gf:Fn [.R,.I,.I,.S,.I,.I,.I,.S,.I,.R] Tb:=λa b c d e f g h i j=>[cH 0 55 a,cP 6 0,cA 10 (.own 1),cI 14 b,oB 1 [.n c,.s d,.n e,.n f,.n g,.s h,.n i],oR 3 55 j]
def Q5(N:Nat)(K:Kt R):=lR.l3 N (J Ge (.exit 0) K)
def Q6(N:Nat)(K:Kt R):=lR.l9 N (J Gf (.exit 2) K)
def SW(N:Nat):It R:=lp 3 (al Ge (λK=>Q5 N K N) an) (lp 9 (al Gf (λK=>Q6 N K N) an) ln)
def Xx(N:Nat):b0 OM (SW N (R:=R)) (bM f166 3):=lq 3 Ge (Q5 N) λK g=>lR.r3 N g (J Ge (.exit 0) K)
def Xy(N:Nat):b0 OM (SW N (R:=R)) (bM f166 9):=lq 9 Gf (Q6 N) λK g=>lR.r9 N g (J Gf (.exit 2) K)
def ab1:=dR alF ana lR.c lR.v
def aiJ:FO 166 ab1:=fq (E:=OM) a6 func166 (it:=SW) (λN=>bh (Xx N) (bh (Xy N) bC)) lR.b lR.vo
def af9:Fn [.R,.S] As:=λa b=>[aH 51 a,aS b]
def K6:Fn [.R] iO:=λa=>⟨[aO 51 a],[]⟩
def Gg:Fn [.R,.S,.I,.R] Tb:=λa b c d=>[cH 0 51 a,cA 2 (.s b),cA 10 (.own 0),cI 12 c,oR 1 51 d]
def Q7(N:Nat)(K:Kt R):=qC.l3 N (J Gg (.exit 0) K)
def aad(N:Nat):It R:=lp 3 (al Gg (λK=>Q7 N K N) an) ln
def Xz(N:Nat):b0 ON (aad N (R:=R)) (bM f167 3):=lq 3 Gg (Q7 N) λK g=>qC.r3 N g (J Gg (.exit 0) K)
def UA:=dR af9 K6 qC.c qC.v
def aa3:FO 167 UA:=fq (E:=ON) a6 func167 (it:=aad) (λN=>bh (Xz N) bC) qC.b qC.vo
def ama:=en [(220,UJ),(180,Oa)] []
def ab2:=dR OE k66 vn.c vn.v
def aiK:FO 168 ab2:=fr (E:=ama) (aJ abb (aJ TB a6)) func168 vn.b vn.vo
def ac4:=en [(68,LN),(161,Uy),(49,wE),(162,DA),(163,ab0),(164,N9),(165,Uz),(166,ab1),(167,UA),(168,ab2),(169,UB)] [(5,[1,2,3,6,7,8,9]),(22,[2,3,6,8,10,12,13])]
def VJ:Fn [.I,.R,.R,.R,.R,.I,.R,.R,.I,.I,.S] As:=λa b c d e f g h i j k=>[aV [.n a,.sh 51 b,.sh 9 c,.sh 9 d,.sh 45 e,.n f,.sh 127 g,.sh 55 h,.n i],aI j,aS k]
def ahT:Fn [.I,.R,.R,.R,.R,.I,.R,.R,.I,.I] iO:=λa b c d e f g h i j=>⟨[aV [.n a,.ow 51 true b,.ow 9 true c,.ow 9 true d,.ow 45 true e,.n f,.ow 127 true g,.ow 55 true h,.n i],aI j],[]⟩
def F9:Fn [.I,.S,.I,.I,.I,.R,.R,.R,.R,.I,.R,.R,.I,.I,.I,.I,.I,.I,.I,.R,.R,.R,.R,.R,.R] Tb:=λa b c d e f g h i j k l m o p q r s t u v w x y z=>[cI 2 a,cA 4 (.s b),cP 6 0,cP 12 1,cI 14 c,cP 16 2,cI 18 d,oB 1 [.n e,.sh 51 f,.sh 9 g,.sh 9 h,.sh 45 i,.n j,.sh 127 k,.sh 55 l,.n m],oB 3 [.n o,.nl,.nl,.nl,.nl,.n p,.nl,.nl,.n q],oB 5 [.n r,.own 3,.own 4,.own 5,.own 6,.n s,.own 7,.own 8,.n t],oR 7 51 u,oR 9 9 v,oR 11 9 w,oR 13 45 x,oR 15 127 y,oR 17 55 z]
def Is:Fn [.I,.S,.I,.I,.I,.R,.R,.R,.R,.I,.R,.R,.I,.I,.I,.I,.I,.I,.I,.R,.R,.R,.R,.R,.R] Tb:=λa b c d e f g h i j k l m o p q r s t u v w x y z=>[cI 2 a,cA 4 (.s b),cP 6 0,cP 12 1,cI 14 c,cP 16 2,cI 18 d,oB 1 [.n e,.sh 51 f,.sh 9 g,.sh 9 h,.sh 45 i,.n j,.sh 127 k,.sh 55 l,.n m],oB 3 [.n o,.own 3,.own 4,.own 5,.own 6,.n p,.own 7,.own 8,.n q],oB 5 [.n r,.own 3,.own 4,.own 5,.own 6,.n s,.own 7,.own 8,.n t],oR 7 51 u,oR 9 9 v,oR 11 9 w,oR 13 45 x,oR 15 127 y,oR 17 55 z]
def BK:Fn [.S,.B,.I,.I,.R,.R,.R,.R,.I,.R,.R,.I,.I,.I,.I,.I,.I,.I,.I,.S,.I,.I,.I,.S,.I,.R,.R,.R,.R,.R,.R] Tb:=λa b c d e f g h i j k l m o p q r s t u v w x y z aa ab ac ad ae af=>[cA 4 (.s a),cP 6 0,cP 12 1,cP 16 2,cP 20 3,cA 24 (.b b),cI 26 c,oB 1 [.n d,.sh 51 e,.sh 9 f,.sh 9 g,.sh 45 h,.n i,.sh 127 j,.sh 55 k,.n l],oB 3 [.n m,.nl,.nl,.nl,.nl,.n o,.nl,.nl,.n p],oB 5 [.n q,.own 4,.own 5,.own 6,.own 7,.n r,.own 8,.own 9,.n s],oB 7 [.n t,.s u,.n v,.n w,.n x,.s y,.n z],oR 9 51 aa,oR 11 9 ab,oR 13 9 ac,oR 15 45 ad,oR 17 127 ae,oR 19 55 af]
def QK(N:Nat)(K:Kt R):=xE.l5 N (J Is .ret K) (J F9 (.exit 0) K)
def Mi(N:Nat)(K:Kt R):=xE.W5 N (J BK (.exit 2) K)
def SQ(N:Nat):It R:=lp 5 (al F9 (λK=>QK N K N) an) (lp 22 (al BK (λK=>Mi N K N) an) ln)
def Xb(N:Nat):b0 ac4 (SQ N (R:=R)) (bM f112 5):=lq 5 F9 (QK N) λK g=>xE.r5 N g (J Is .ret K) (J F9 (.exit 0) K)
def Tc(N:Nat):b0 ac4 (SQ N (R:=R)) (bM f112 22):=lq 22 BK (Mi N) λK g=>xE.r22 N g (J BK (.exit 2) K)
def abG:=dR VJ ahT xE.c xE.v
def aim:FO 112 abG:=fq (E:=ac4) (aJ Lj (aJ aa1 (aJ vA (aJ Fm (aJ aiI (aJ Ty (aJ aa2 (aJ aiJ (aJ aa3 (aJ aiK (aJ aa4 a6))))))))))) func112 (it:=SQ) (λN=>bh (Xb N) (bh (Tc N) bC)) xE.b xE.vo
def amb:=en [(161,Uy),(49,wE)] []
def N_:=dR DV k8 vp.c vp.v
def Tz:FO 170 N_:=fr (E:=amb) (aJ aa1 (aJ vA a6)) func170 vp.b vp.vo
def VM:Fn [.I,.S,.R] As:=λa b c=>[aV [.n a,.s b,.sh 219 c]]
def ahX:Fn [.I,.S,.R] iO:=λa b c=>⟨[aV [.n a,.s b,.ow 219 true c]],[]⟩
def acp:=dR VM ahX Kk.c Kk.v
def ai8:FO 224 acp:=fh (E:=E8) a6 func224 (it:=λ_=>ln) (λ_=>bC) (λ_=>Kk.b) λx f h=>⟨0,Kk.eu _ x.1 x.2.1 x.2.2.1 h⟩
def agZ:=en [(49,wE)] [(2,[1,2,3])]
def zE:Fn [.B,.I,.I,.S,.R] Tb:=λa b c d e=>[cP 2 0,cA 4 (.b a),cI 6 b,oB 1 [.n c,.s d,.sh 219 e]]
def Rw(N:Nat)(K:Kt R):=lM.l2 N (J zE .ret K) (J zE (.exit 0) K)
def aau(N:Nat):It R:=lp 2 (al zE (λK=>Rw N K N) an) ln
def X0(N:Nat):b0 agZ (aau N (R:=R)) (bM f225 2):=lq 2 zE (Rw N) λK g=>lM.r2 N g (J zE .ret K) (J zE (.exit 0) K)
def acq:=dR VM k8 (ct _) lM.v
def ai9:FO 225 acq:=fh (E:=agZ) (aJ vA a6) func225 (it:=aau) (λN=>bh (X0 N) bC) lM.b λx f h=>lM.eu _ x.1 x.2.1 x.2.2.1 f.1.2.1 f.1.2.2.1
def amc:=en [(224,acp),(225,acq),(49,wE)] []
def af_:Fn [.I,.S,.R,.S] As:=λa b c d=>[aV [.n a,.s b,.sh 219 c],aS d]
def ahV:Fn [.I,.S,.R,.B] iO:=λa b c d=>⟨[aV [.n a,.s b,.ow 219 true c],aB d],[]⟩
def ab3:=dR af_ ahV Ir.c Ir.v
def aiL:FO 171 ab3:=fh (E:=amc) (aJ ai8 (aJ ai9 (aJ vA a6))) func171 (it:=λ_=>ln) (λ_=>bC) (λ_=>Ir.b) λx f h=>⟨0,Ir.eu _ x.1 x.2.1 x.2.2.1 x.2.2.2.1 h f.1.2.1 f.1.2.2.1 f.2.1.1⟩
def agK:=en [] [(1,[0,1,2,6])]
def af':Fn [.I,.R,.R,.R,.R,.I,.R,.R,.I,.I,.I] As:=λa b c d e f g h i j k=>[.pt [.n a,.ow 51 true b,.ow 9 true c,.ow 9 true d,.ow 45 true e,.n f,.ow 127 true g,.ow 55 true h,.n i],aI j,aI k]
def ad':Fn [.I,.R,.R,.R,.R,.I,.R,.R,.I] iO:=λa b c d e f g h i=>⟨[],[[.n a,.kp b,.kp c,.kp d,.kp e,.n f,.kp g,.kp h,.n i]]⟩
def Gi:Fn [.I,.I,.I,.I,.I,.I,.R,.R,.R,.R,.R,.R] Tb:=λa b c d e f g h i j k l=>[cP 0 900000900,cI 2 a,cI 4 b,cI 12 c,oB 1800001801 [.n d,.own 900000001,.own 900000002,.own 900000003,.own 900000004,.n e,.own 900000006,.own 900000007,.n f],oR 1800000003 51 g,oR 1800000005 9 h,oR 1800000007 9 i,oR 1800000009 45 j,oR 1800000013 127 k,oR 1800000015 55 l]
def Q9(N:Nat)(K:Kt R):=td.l1 N (J Gi (.exit 0) K)
def aae(N:Nat):It R:=lp 1 (al Gi (λK=>Q9 N K N) an) ln
def XB(N:Nat):b0 agK (aae N (R:=R)) (bM f172 1):=lq 1 Gi (Q9 N) λK g=>td.r1 N g (J Gi (.exit 0) K)
def N':=dR af' ad' td.c td.v
def TA:FO 172 N':=fq (E:=agK) a6 func172 (it:=aae) (λN=>bh (XB N) bC) td.b td.vo
def alV:=en [(68,LN),(170,N_),(171,ab3),(172,N')] []
def Pw:Fn [.I,.R,.R,.R,.R,.I,.R,.R,.I,.B] iO:=λa b c d e f g h i j=>⟨[aV [.n a,.ow 51 true b,.ow 9 true c,.ow 9 true d,.ow 45 true e,.n f,.ow 127 true g,.ow 55 true h,.n i],aB j],[]⟩
def abH:=dR VJ Pw D0.c D0.v
def ain:FO 113 abH:=fr (E:=alV) (aJ Lj (aJ Tz (aJ aiL (aJ TA a6)))) func113 D0.b D0.vo
def agl:Fn [.R,.S,.I,.I,.S] As:=λa b c d e=>[aH 51 a,aV [.s b,.n c,.n d,.s e]]
def Gy:Fn [.R,.I,.S,.I,.I,.S,.R] Tb:=λa b c d e f g=>[cH 0 51 a,cP 6 0,cA 10 (.own 1),cI 12 b,oB 1 [.s c,.n d,.n e,.s f],oR 3 51 g]
def Gz:Fn [.R,.I,.S,.I,.I,.S,.R] Tb:=λa b c d e f g=>[cH 0 51 a,cP 6 0,cA 10 (.own 1),cI 14 b,oB 1 [.s c,.n d,.n e,.s f],oR 3 51 g]
def Rz(N:Nat)(K:Kt R):=fZ.l3 N (J Gy (.exit 0) K)
def RA(N:Nat)(K:Kt R):=fZ.l9 N (J Gz (.exit 2) K)
def SZ(N:Nat):It R:=lp 3 (al Gy (λK=>Rz N K N) an) (lp 9 (al Gz (λK=>RA N K N) an) ln)
def X3(N:Nat):b0 OM (SZ N (R:=R)) (bM f234 3):=lq 3 Gy (Rz N) λK g=>fZ.r3 N g (J Gy (.exit 0) K)
def X4(N:Nat):b0 OM (SZ N (R:=R)) (bM f234 9):=lq 9 Gz (RA N) λK g=>fZ.r9 N g (J Gz (.exit 2) K)
def UN:=dR agl K6 fZ.c fZ.v
def abf:FO 234 UN:=fq (E:=OM) a6 func234 (it:=SZ) (λN=>bh (X3 N) (bh (X4 N) bC)) fZ.b fZ.vo
def amo:=Yp T md [(165,Uz),(167,UA),(258,UP),(234,UN)] [] [] [(0,1,.own 51),(0,2,.own 9),(0,3,.own 9),(0,4,.own 45)]
def agj:Fn [.I,.R,.R,.R,.R,.I,.R,.R,.I,.S,.I,.I,.S] As:=λa b c d e f g h i j k l m=>[.pt [.n a,.ow 51 true b,.ow 9 true c,.ow 9 true d,.ow 45 true e,.n f,.ow 127 true g,.ow 55 true h,.n i],aV [.s j,.n k,.n l,.s m]]
def ahY:Fn [.I,.R,.R,.R,.R,.I,.R,.R,.I] iO:=λa b c d e f g h i=>⟨[],[[.n a,.ow 51 true b,.ow 9 true c,.ow 9 true d,.ow 45 true e,.n f,.kp g,.kp h,.n i]]⟩
def UL:=dR agj ahY zP.c zP.v
def abd:FO 226 UL:=fr (E:=amo) (aJ aa2 (aJ aa3 (aJ abh (aJ abf a6)))) func226 zP.b zP.vo
def amd:=en [(68,LN),(170,N_),(49,wE),(172,N'),(226,UL)] []
def agb:Fn [.I,.R,.R,.R,.R,.I,.R,.R,.I,.I,.I] As:=λa b c d e f g h i j k=>[aV [.n a,.sh 51 b,.sh 9 c,.sh 9 d,.sh 45 e,.n f,.sh 127 g,.sh 55 h,.n i],aI j,aI k]
def ab4:=dR agb Pw D6.c D6.v
def aiM:FO 173 ab4:=fr (E:=amd) (aJ Lj (aJ Tz (aJ vA (aJ TA (aJ abd a6))))) func173 D6.b D6.vo
def ag6:=en [] [(2,[0,3])]
def FJ:Fn [.I] As:=λa=>[aI a]
def uj:Fn [.S] iO:=λa=>⟨[aS a],[]⟩
def GF:Fn [.I,.R] Tb:=λa b=>[cI 0 a,cA 6 (.own 0),oR 1 5 b]
def RH(N:Nat)(K:Kt R):=kL.l2 N (J GF (.exit 0) K)
def aaA(N:Nat):It R:=lp 2 (al GF (λK=>RH N K N) an) ln
def X'(N:Nat):b0 ag6 (aaA N (R:=R)) (bM f260 2):=lq 2 GF (RH N) λK g=>kL.r2 N g (J GF (.exit 0) K)
def Oh:=dR FJ uj kL.c kL.v
def TL:FO 260 Oh:=fh (E:=ag6) a6 func260 (it:=aaA) (λN=>bh (X' N) bC) kL.b λx f h=>kL.eu _ x.1 h
def amp:=en [(217,JL),(260,Oh)] []
def Hc:Fn [.S,.B] iO:=λa b=>⟨[aS a,aB b],[]⟩
def Oe:=dR J' Hc (ct _) jN.v
def TF:FO 227 Oe:=fh (E:=amp) (aJ NT (aJ TL a6)) func227 (it:=λ_=>ln) (λ_=>bC) (λ_=>jN.b) λx f h=>⟨0,jN.eu _ x.1 x.2.1 x.2.2.1 x.2.2.2.1⟩
def alO:Fn [.I] As:=λa=>[.v false [.i .u32 a]]
def acC:=dR alO uj (ct _) pz.v
def ajj:FO 261 acC:=ft (E:=E8) a6 func261 pz.b λ(a,_)=>pz.eu _ a
def amq:=en [(49,wE),(260,Oh),(259,UQ),(261,acC)] []
def Of:=dR pd Hc fI.c fI.v
def TG:FO 228 Of:=fr (E:=amq) (aJ vA (aJ TL (aJ abj (aJ ajj a6)))) func228 fI.b fI.vo
def ame:=en [(227,Oe),(228,Of)] []
def WZ:Fn [.R,.B] iO:=λa b=>⟨[aO 184 a,aB b],[]⟩
def ab5:=dR J' WZ D7.c D7.v
def aiN:FO 174 ab5:=fr (E:=ame) (aJ TF (aJ TG a6)) func174 D7.b D7.vo
def UR:=dR pd k8 (ct _) wm.v
def abk:FO 262 UR:=ft (E:=ac7) (aJ vA a6) func262 wm.b λ(a,_)=>wm.eu _ a
def ag0:=en [(262,UR),(49,wE)] [(4,[1,2,3])]
def Qz:Fn [.R] As:=λa=>[aV [.sh 189 a]]
def zF:Fn [.B,.I,.R] Tb:=λa b c=>[cP 2 0,cA 4 (.b a),cI 6 b,oB 1 [.sh 189 c]]
def Rx(N:Nat)(K:Kt R):=fT.l4 N (J zF .ret K) (J zF (.exit 0) K)
def aav(N:Nat):It R:=lp 4 (al zF (λK=>Rx N K N) an) ln
def X1(N:Nat):b0 ag0 (aav N (R:=R)) (bM f230 4):=lq 4 zF (Rx N) λK g=>fT.r4 N g (J zF .ret K) (J zF (.exit 0) K)
def JM:=dR Qz k8 fT.c fT.v
def NU:FO 230 JM:=fq (E:=ag0) (aJ abk (aJ vA a6)) func230 (it:=aav) (λN=>bh (X1 N) bC) fT.b fT.vo
def ag7:=en [] [(2,[1,2,4,5])]
def OG:Fn [.R,.S] As:=λa b=>[aV [.sh 189 a],aS b]
def zH:Fn [.S,.I,.I,.R] Tb:=λa b c d=>[cA 2 (.s a),cP 4 0,cI 8 b,cI 10 c,oB 1 [.sh 189 d]]
def RI(N:Nat)(K:Kt R):=kV.l2 N (J zH .ret K) (J zH (.exit 0) K)
def aaB(N:Nat):It R:=lp 2 (al zH (λK=>RI N K N) an) ln
def Ya(N:Nat):b0 ag7 (aaB N (R:=R)) (bM f263 2):=lq 2 zH (RI N) λK g=>kV.r2 N g (J zH .ret K) (J zH (.exit 0) K)
def US:=dR OG yk kV.c kV.v
def abl:FO 263 US:=fq (E:=ag7) a6 func263 (it:=aaB) (λN=>bh (Ya N) bC) kV.b kV.vo
def QD:=en [] [(3,[2,3,4,5,6]),(9,[2,3,4,5,7])]
def agp:Fn [.R,.S,.S,.I] As:=λa b c d=>[aV [.sh 189 a],aV [.s b,.s c,.n d]]
def S6:Fn [.R] iO:=λa=>⟨[aV [.ow 189 true a]],[]⟩
def r_:Fn [.I,.R,.S,.S,.I] Tb:=λa b c d e=>[cP 4 0,cP 6 1,cP 8 2,cP 10 3,cI 12 a,oB 1 [.sh 189 b],oB 3 [.s c,.s d,.n e],oB 5 [.nl],oB 7 [.nl]]
def oV:Fn [.I,.R,.S,.S,.I,.R] Tb:=λa b c d e f=>[cP 4 0,cP 6 1,cP 8 2,cP 10 3,cI 12 a,oB 1 [.sh 189 b],oB 3 [.s c,.s d,.n e],oB 5 [.nl],oB 7 [.own 4],oR 9 189 f]
def GG:Fn [.I,.R,.S,.S,.I,.R] Tb:=λa b c d e f=>[cP 4 0,cP 6 1,cP 8 2,cP 10 3,cI 14 a,oB 1 [.sh 189 b],oB 3 [.s c,.s d,.n e],oB 5 [.nl],oB 7 [.own 4],oR 9 189 f]
def RJ(N:Nat)(K:Kt R):=lx.l3 N (J r_ (.exit 0) K) (J oV (.exit 0) K)
def Mt(N:Nat)(K:Kt R):=lx.oJ N (J r_ (.exit 0) K) (J oV (.exit 0) K)
def RM(N:Nat)(K:Kt R):=lx.l9 N (J GG (.exit 2) K)
def Jc(N:Nat):It R:=lp 3 (al r_ (λK=>RJ N K N) (al oV (λK=>Mt N K N) an)) (lp 9 (al GG (λK=>RM N K N) an) ln)
def Oz(N:Nat)(K:Kt R):Wd QD (Jc N) (bM f264 3) 3 K oV (Mt N K):=lw (λg=>lx.vC N (cmp _ r_ (g∘eW)) (cmp _ oV (g∘eW)) (J r_ (.exit 0) K) (J oV (.exit 0) K)) λm i=>by simp only[Function.comp_def,wf i];rfl
def afz(N:Nat)(K:Kt R):Wd QD (Jc N) (bM f264 3) 3 K r_ (RJ N K):=lw (λg=>lx.r3 N (cmp _ r_ (g∘eW)) (cmp _ oV (g∘eW)) (J r_ (.exit 0) K) (J oV (.exit 0) K)) λm i=>by simp only[Function.comp_def,wf i,wf (Oz N K m)];rfl
def Yb(N:Nat):b0 QD (Jc N (R:=R)) (bM f264 3):=lm 3 (ga r_ (afz N) (ga oV (Oz N) mV))
def Yc(N:Nat):b0 QD (Jc N (R:=R)) (bM f264 9):=lq 9 GG (RM N) λK g=>lx.r9 N g (J GG (.exit 2) K)
def acD:=dR agp S6 lx.c lx.v
def ajk:FO 264 acD:=fq (E:=QD) a6 func264 (it:=Jc) (λN=>bh (Yb N) (bh (Yc N) bC)) lx.b lx.vo
def VV:=en [] [(3,[1,2,4,5,6])]
def sa:Fn [.S,.I,.R] Tb:=λa b c=>[cA 2 (.s a),cP 4 0,cP 8 1,cP 10 2,cI 12 b,oB 1 [.sh 189 c],oB 3 [.nl],oB 5 [.nl]]
def oW:Fn [.S,.I,.R,.R] Tb:=λa b c d=>[cA 2 (.s a),cP 4 0,cP 8 1,cP 10 2,cI 12 b,oB 1 [.sh 189 c],oB 3 [.nl],oB 5 [.own 3],oR 7 189 d]
def RN(N:Nat)(K:Kt R):=mI.l3 N (J sa (.exit 0) K) (J oW (.exit 0) K)
def Mu(N:Nat)(K:Kt R):=mI.oJ N (J sa (.exit 0) K) (J oW (.exit 0) K)
def NG(N:Nat):It R:=lp 3 (al sa (λK=>RN N K N) (al oW (λK=>Mu N K N) an)) ln
def OA(N:Nat)(K:Kt R):Wd VV (NG N) (bM f265 3) 3 K oW (Mu N K):=lw (λg=>mI.vC N (cmp _ sa (g∘eW)) (cmp _ oW (g∘eW)) (J sa (.exit 0) K) (J oW (.exit 0) K)) λm i=>by simp only[Function.comp_def,wf i];rfl
def afA(N:Nat)(K:Kt R):Wd VV (NG N) (bM f265 3) 3 K sa (RN N K):=lw (λg=>mI.r3 N (cmp _ sa (g∘eW)) (cmp _ oW (g∘eW)) (J sa (.exit 0) K) (J oW (.exit 0) K)) λm i=>by simp only[Function.comp_def,wf i,wf (OA N K m)];rfl
def Yd(N:Nat):b0 VV (NG N (R:=R)) (bM f265 3):=lm 3 (ga sa (afA N) (ga oW (OA N) mV))
def acE:=dR OG S6 mI.c mI.v
def ajl:FO 265 acE:=fq (E:=VV) a6 func265 (it:=NG) (λN=>bh (Yd N) bC) mI.b mI.vo
def amr:=en [(230,JM),(262,UR),(263,US),(264,acD),(265,acE)] []
def agk:Fn [.R,.I,.S,.S,.S] As:=λa b c d e=>[aV [.sh 189 a],aV [.n b,.s c,.s d,.s e]]
def W0:Fn [.R,.B] iO:=λa b=>⟨[aV [.ow 189 true a],aB b],[]⟩
def acr:=dR agk W0 Cv.c Cv.v
def ai_:FO 229 acr:=fr (E:=amr) (aJ NU (aJ abk (aJ abl (aJ ajk (aJ ajl a6))))) func229 Cv.b Cv.vo
def agL:=en [(229,acr)] [(3,[1,4,5,6,7])]
def agc:Fn [.R,.R] As:=λa b=>[aV [.sh 189 a],aH 184 b]
def ahW:Fn [.R,.I] iO:=λa b=>⟨[aV [.ow 189 true a],aI b],[]⟩
def Gj:Fn [.R,.I,.I,.R] Tb:=λa b c d=>[cH 2 184 a,cP 8 0,cI 10 b,cP 12 1,cI 14 c,oB 1 [.nl],oB 3 [.own 2],oR 5 189 d]
def Iu:Fn [.R,.I,.I,.R] Tb:=λa b c d=>[cH 2 184 a,cP 8 0,cI 10 b,cP 12 1,cI 14 c,oB 1 [.own 2],oB 3 [.own 2],oR 5 189 d]
def Q_(N:Nat)(K:Kt R):=qD.l3 N (J Iu .ret K) (J Gj (.exit 0) K)
def aaf(N:Nat):It R:=lp 3 (al Gj (λK=>Q_ N K N) an) ln
def XD(N:Nat):b0 agL (aaf N (R:=R)) (bM f175 3):=lq 3 Gj (Q_ N) λK g=>qD.r3 N g (J Iu .ret K) (J Gj (.exit 0) K)
def UC:=dR agc ahW qD.c qD.v
def aa5:FO 175 UC:=fq (E:=agL) (aJ ai_ a6) func175 (it:=aaf) (λN=>bh (XD N) bC) qD.b qD.vo
def af6:Fn [.B] As:=λa=>[aB a]
def Um:=dR af6 yk (ct _) Bg.v
def aaP:FO 119 Um:=ft (E:=E8) a6 func119 Bg.b λ(a,_)=>Bg.eu _ a
def alW:=Yp T md [(173,ab4),(174,ab5),(175,UC),(119,Um)] [] [] [(0,1,.own 51),(0,2,.own 9),(0,3,.own 9),(0,4,.own 45),(0,6,.own 127),(0,7,.own 55),(0,9,.own 189),(0,10,.own 3),(0,11,.own 51)]
def Qw:Fn [.I,.R,.R,.R,.R,.I,.R,.R,.I,.R,.R,.R,.I,.I,.S,.I,.R] As:=λa b c d e f g h i j k l m o p q r=>[.pt [.n a,.ow 51 true b,.ow 9 true c,.ow 9 true d,.ow 45 true e,.n f,.ow 127 true g,.ow 55 true h,.n i,.ow 189 true j,.ow 3 true k,.ow 51 true l],aV [.n m,.n o,.s p,.n q,.sh 3 r]]
def ad8:Fn [.I,.I,.R,.R,.R,.R,.I,.R,.R,.I,.R,.R,.R] iO:=λa b c d e f g h i j k l m=>⟨[aI a],[[.n b,.ow 51 true c,.ow 9 true d,.ow 9 true e,.ow 45 true f,.n g,.ow 127 true h,.ow 55 true i,.n j,.ow 189 true k,.ow 3 true l,.ow 51 true m]]⟩
def abI:=dR Qw ad8 D3.c D3.v
def aio:FO 114 abI:=fr (E:=alW) (aJ aiM (aJ aiN (aJ aa5 (aJ aaP a6)))) func114 D3.b D3.vo
def alX:=en [(68,LN),(170,N_),(172,N')] []
def abJ:=dR DV Pw D4.c D4.v
def aip:FO 115 abJ:=fr (E:=alX) (aJ Lj (aJ Tz (aJ TA a6))) func115 D4.b D4.vo
def agx:=en [(68,LN)] []
def abK:=dR DV VE se.c se.v
def aiq:FO 116 abK:=fr (E:=agx) (aJ Lj a6) func116 se.b se.vo
def agy:=en [(68,LN)] [(4,[1,2,4,5,6])]
def F_:Fn [.I,.I,.I,.R,.R,.R,.R,.I,.R,.R,.I,.I,.I,.I,.I,.I,.I,.R,.R,.R,.R,.R,.R] Tb:=λa b c d e f g h i j k l m o p q r s t u v w x=>[cI 2 a,cP 4 0,cP 8 1,cP 10 2,cI 12 b,oB 1 [.n c,.sh 51 d,.sh 9 e,.sh 9 f,.sh 45 g,.n h,.sh 127 i,.sh 55 j,.n k],oB 3 [.n l,.nl,.nl,.nl,.nl,.n m,.nl,.nl,.n o],oB 5 [.n p,.own 3,.own 4,.own 5,.own 6,.n q,.own 7,.own 8,.n r],oR 7 51 s,oR 9 9 t,oR 11 9 u,oR 13 45 v,oR 15 127 w,oR 17 55 x]
def QL(N:Nat)(K:Kt R):=vi.l4 N (J F_ (.exit 0) K)
def Z2(N:Nat):It R:=lp 4 (al F_ (λK=>QL N K N) an) ln
def Xc(N:Nat):b0 agy (Z2 N (R:=R)) (bM f117 4):=lq 4 F_ (QL N) λK g=>vi.r4 N g (J F_ (.exit 0) K)
def abL:=dR DV VE vi.c vi.v
def air:FO 117 abL:=fq (E:=agy) (aJ Lj a6) func117 (it:=Z2) (λN=>bh (Xc N) bC) vi.b vi.vo
def VT:=en [(230,JM)] [(5,[1,2,4,6,7])]
def agd:Fn [.R,.R] As:=λa b=>[aV [.sh 189 a],aH 3 b]
def rX:Fn [.R,.I,.R] Tb:=λa b c=>[cH 2 3 a,cP 4 0,cP 8 1,cP 12 2,cI 14 b,oB 1 [.sh 189 c],oB 3 [.nl],oB 5 [.nl]]
def oS:Fn [.R,.I,.R,.R] Tb:=λa b c d=>[cH 2 3 a,cP 4 0,cP 8 1,cP 12 2,cI 14 b,oB 1 [.sh 189 c],oB 3 [.nl],oB 5 [.own 3],oR 7 189 d]
def Q'(N:Nat)(K:Kt R):=xJ.l5 N (J rX (.exit 0) K) (J oS (.exit 0) K)
def Mn(N:Nat)(K:Kt R):=xJ.l5a N (J rX (.exit 0) K) (J oS (.exit 0) K)
def ND(N:Nat):It R:=lp 5 (al rX (λK=>Q' N K N) (al oS (λK=>Mn N K N) an)) ln
def Ow(N:Nat)(K:Kt R):Wd VT (ND N) (bM f176 5) 5 K oS (Mn N K):=lw (λg=>xJ.r5a N (cmp _ rX (g∘eW)) (cmp _ oS (g∘eW)) (J rX (.exit 0) K) (J oS (.exit 0) K)) λm i=>by simp only[Function.comp_def,wf i];rfl
def afw(N:Nat)(K:Kt R):Wd VT (ND N) (bM f176 5) 5 K rX (Q' N K):=lw (λg=>xJ.r5 N (cmp _ rX (g∘eW)) (cmp _ oS (g∘eW)) (J rX (.exit 0) K) (J oS (.exit 0) K)) λm i=>by simp only[Function.comp_def,wf i,wf (Ow N K m)];rfl
def XE(N:Nat):b0 VT (ND N (R:=R)) (bM f176 5):=lm 5 (ga rX (afw N) (ga oS (Ow N) mV))
def ab6:=dR agd W0 xJ.c xJ.v
def aiO:FO 176 ab6:=fq (E:=VT) (aJ NU a6) func176 (it:=ND) (λN=>bh (XE N) bC) xJ.b xJ.vo
def ams:=en [(263,US)] []
def UM:=dR OG Hc ml.c ml.v
def abe:FO 231 UM:=fr (E:=ams) (aJ abl a6) func231 ml.b ml.vo
def ag8:=en [(49,wE),(260,Oh)] [(6,[0,1,4,5,6,7,8,9])]
def VN:Fn [.S,.I] As:=λa b=>[aS a,aI b]
def ah2:Fn [.I,.I,.B] iO:=λa b c=>⟨[aI a,aI b,aB c],[]⟩
def zI:Fn [.S,.I,.I,.I,.B,.I,.I,.I] Tb:=λa b c d e f g h=>[cA 0 (.s a),cI 2 b,cI 8 c,cI 10 d,cA 12 (.b e),cI 14 f,cI 16 g,cI 18 h]
def RO(N:Nat)(K:Kt R):=fX.l6 N (J zI .ret K) (J zI (.exit 0) K)
def aaC(N:Nat):It R:=lp 6 (al zI (λK=>RO N K N) an) ln
def Ye(N:Nat):b0 ag8 (aaC N (R:=R)) (bM f266 6):=lq 6 zI (RO N) λK g=>fX.r6 N g (J zI .ret K) (J zI (.exit 0) K)
def Oi:=dR VN ah2 (ct _) fX.v
def TM:FO 266 Oi:=fh (E:=ag8) (aJ vA (aJ TL a6)) func266 (it:=aaC) (λN=>bh (Ye N) bC) fX.b λx f h=>fX.eu _ x.1 x.2.1 f.1.1
def ag1:=en [(266,Oi),(228,Of)] [(5,[0,2,3,4,5])]
def ahZ:Fn [.R,.I] iO:=λa b=>⟨[aO 9 a,aI b],[]⟩
def Gw:Fn [.S,.I,.I,.R] Tb:=λa b c d=>[cA 0 (.s a),cA 4 .nl,cI 6 b,cA 8 (.own 0),cI 10 c,oR 1 9 d]
def Iw:Fn [.S,.I,.I,.R] Tb:=λa b c d=>[cA 0 (.s a),cA 4 (.own 0),cI 6 b,cA 8 (.own 0),cI 10 c,oR 1 9 d]
def Ry(N:Nat)(K:Kt R):=tg.l5 N (J Iw .ret K) (J Gw (.exit 0) K)
def aaw(N:Nat):It R:=lp 5 (al Gw (λK=>Ry N K N) an) ln
def X2(N:Nat):b0 ag1 (aaw N (R:=R)) (bM f232 5):=lq 5 Gw (Ry N) λK g=>tg.r5 N g (J Iw .ret K) (J Gw (.exit 0) K)
def acs:=dR pd ahZ tg.c tg.v
def ai':FO 232 acs:=fq (E:=ag1) (aJ TM (aJ TG a6)) func232 (it:=aaw) (λN=>bh (X2 N) bC) tg.b tg.vo
def amx:=en [(266,Oi)] []
def ah3:Fn [.S,.I,.B] iO:=λa b c=>⟨[aS a,aI b,aB c],[]⟩
def acF:=dR VN ah3 (ct _) qF.v
def ajm:FO 267 acF:=fh (E:=amx) (aJ TM a6) func267 (it:=λ_=>ln) (λ_=>bC) (λ_=>qF.b) λx f h=>⟨0,qF.eu _ x.1 x.2.1 f.1.1⟩
def amt:=en [(267,acF),(266,Oi),(227,Oe)] []
def acu:=dR pd ad_ (ct _) j5.v
def aja:FO 233 acu:=fh (E:=amt) (aJ ajm (aJ TM (aJ TF a6))) func233 (it:=λ_=>ln) (λ_=>bC) (λ_=>j5.b) λx f h=>⟨0,j5.eu _ x.1 f.1.1⟩
def agM:=en [(230,JM),(231,UM),(232,acs),(233,acu),(234,UN)] [(7,[3,6,8])]
def Gk:Fn [.I,.R,.R] Tb:=λa b c=>[cA 6 (.own 0),cA 12 (.own 1),cI 16 a,oR 1 51 b,oR 3 9 c]
def Ra(N:Nat)(K:Kt R):=tf.l7 N (J Gk (.exit 0) K)
def aag(N:Nat):It R:=lp 7 (al Gk (λK=>Ra N K N) an) ln
def XF(N:Nat):b0 agM (aag N (R:=R)) (bM f177 7):=lq 7 Gk (Ra N) λK g=>tf.r7 N g (J Gk (.exit 0) K)
def ab7:=dR Qz K6 tf.c tf.v
def aiP:FO 177 ab7:=fq (E:=agM) (aJ NU (aJ abe (aJ ai' (aJ aja (aJ abf a6))))) func177 (it:=aag) (λN=>bh (XF N) bC) tf.b tf.vo
def agN:=en [(230,JM),(231,UM),(227,Oe),(228,Of)] [(9,[1,4,5,6,9,10])]
def agf:Fn [.R,.R] As:=λa b=>[aV [.sh 189 a],aH 51 b]
def Gl:Fn [.R,.B,.S,.I,.R] Tb:=λa b c d e=>[cH 2 51 a,cA 8 .nl,cA 10 (.b b),cA 12 (.own 0),cA 18 (.s c),cI 20 d,oR 1 184 e]
def Iv:Fn [.R,.B,.S,.I,.R,.R] Tb:=λa b c d e f=>[cH 2 51 a,cA 8 (.own 0),cA 10 (.b b),cA 12 (.own 1),cA 18 (.s c),cI 20 d,oR 1 184 e,oR 3 184 f]
def Rb(N:Nat)(K:Kt R):=jM.l9 N (J Iv .ret K) (J Gl (.exit 0) K)
def aah(N:Nat):It R:=lp 9 (al Gl (λK=>Rb N K N) an) ln
def XG(N:Nat):b0 agN (aah N (R:=R)) (bM f178 9):=lq 9 Gl (Rb N) λK g=>jM.r9 N g (J Iv .ret K) (J Gl (.exit 0) K)
def ab8:=dR agf WZ jM.c jM.v
def aiQ:FO 178 ab8:=fq (E:=agN) (aJ NU (aJ abe (aJ TF (aJ TG a6)))) func178 (it:=aah) (λN=>bh (XG N) bC) jM.b jM.vo
def agO:=en [(37,YK),(217,JL),(164,N9),(226,UL)] [(4,[0,1,4,5,6])]
def agh:Fn [.I,.R] As:=λa b=>[aI a,aH 51 b]
def Gm:Fn [.I,.R,.I,.I,.I,.I,.I,.I,.I,.R,.R,.R,.R,.R,.R] Tb:=λa b c d e f g h i j k l m o p=>[cI 0 a,cH 2 51 b,cP 8 0,cP 10 1,cI 12 c,oB 1 [.n d,.nl,.nl,.nl,.nl,.n e,.nl,.nl,.n f],oB 3 [.n g,.own 2,.own 3,.own 4,.own 5,.n h,.own 6,.own 7,.n i],oR 5 51 j,oR 7 9 k,oR 9 9 l,oR 11 45 m,oR 13 127 o,oR 15 55 p]
def Rc(N:Nat)(K:Kt R):=n5.l4 N (J Gm (.exit 0) K)
def aai(N:Nat):It R:=lp 4 (al Gm (λK=>Rc N K N) an) ln
def XH(N:Nat):b0 agO (aai N (R:=R)) (bM f179 4):=lq 4 Gm (Rc N) λK g=>n5.r4 N g (J Gm (.exit 0) K)
def ab9:=dR agh VE n5.c n5.v
def aiR:FO 179 ab9:=fq (E:=agO) (aJ aeR (aJ NT (aJ Ty (aJ abd a6)))) func179 (it:=aai) (λN=>bh (XH N) bC) n5.b n5.vo
def VP:=Yp T md [(176,ab6),(177,ab7),(164,N9),(178,ab8),(175,UC),(179,ab9)] [(7,[0,6,7,8])] [] [(0,1,.own 51),(0,2,.own 9),(0,3,.own 9),(0,4,.own 45),(0,6,.own 127),(0,7,.own 55),(0,9,.own 189),(0,10,.own 3),(0,11,.own 51)]
def ad9:Fn [.I,.R,.R,.R,.R,.I,.R,.R,.I,.R,.R,.R] iO:=λa b c d e f g h i j k l=>⟨[],[[.n a,.ow 51 true b,.ow 9 true c,.ow 9 true d,.ow 45 true e,.n f,.ow 127 true g,.ow 55 true h,.n i,.ow 189 true j,.ow 3 true k,.ow 51 true l]]⟩
def rV:Fn [.I,.I,.I,.I,.R,.R,.R,.R,.R,.R,.R,.R,.R,.R,.R] Tb:=λa b c d e f g h i j k l m o p=>[cP 0 900000900,cA 12 (.own 1),cA 14 (.own 2),cI 16 a,oB 1800001801 [.n b,.own 900000001,.own 900000002,.own 900000003,.own 900000004,.n c,.own 900000006,.own 900000007,.n d,.own 9,.own 900000010,.own 900000011],oR 3 51 e,oR 5 51 f,oR 1800000003 51 g,oR 1800000005 9 h,oR 1800000007 9 i,oR 1800000009 45 j,oR 1800000013 127 k,oR 1800000015 55 l,oR 19 189 m,oR 1800000021 3 o,oR 1800000023 51 p]
def oP:Fn [.I,.I,.I,.I,.R,.R,.R,.R,.R,.R,.R,.R,.R,.R,.R] Tb:=λa b c d e f g h i j k l m o p=>[cP 0 900000900,cA 12 (.own 1),cA 14 (.own 2),cI 16 a,oB 1800001801 [.n b,.own 900000001,.own 900000002,.own 900000003,.own 900000004,.n c,.own 900000006,.own 900000007,.n d,.own 900000009,.own 900000010,.own 900000011],oR 3 51 e,oR 5 51 f,oR 1800000003 51 g,oR 1800000005 9 h,oR 1800000007 9 i,oR 1800000009 45 j,oR 1800000013 127 k,oR 1800000015 55 l,oR 1800000019 189 m,oR 1800000021 3 o,oR 1800000023 51 p]
def QM(N:Nat)(K:Kt R):=xF.l7 N (J rV (.exit 0) K) (J oP (.exit 0) K)
def Mj(N:Nat)(K:Kt R):=xF.l7a N (J rV (.exit 0) K) (J oP (.exit 0) K)
def NA(N:Nat):It R:=lp 7 (al rV (λK=>QM N K N) (al oP (λK=>Mj N K N) an)) ln
def Ou(N:Nat)(K:Kt R):Wd VP (NA N) (bM f118 7) 7 K oP (Mj N K):=lw (λg=>xF.r7a N (cmp _ rV (g∘eW)) (cmp _ oP (g∘eW)) (J rV (.exit 0) K) (J oP (.exit 0) K)) λm i=>by simp only[Function.comp_def,wf i];rfl
def afu(N:Nat)(K:Kt R):Wd VP (NA N) (bM f118 7) 7 K rV (QM N K):=lw (λg=>xF.r7 N (cmp _ rV (g∘eW)) (cmp _ oP (g∘eW)) (J rV (.exit 0) K) (J oP (.exit 0) K)) λm i=>by simp only[Function.comp_def,wf i,wf (Ou N K m)];rfl
def Xd(N:Nat):b0 VP (NA N (R:=R)) (bM f118 7):=lm 7 (ga rV (afu N) (ga oP (Ou N) mV))
def abM:=dR Qw ad9 xF.c xF.v
def ais:FO 118 abM:=fq (E:=VP) (aJ aiO (aJ aiP (aJ Ty (aJ aiQ (aJ aa5 (aJ aiR a6)))))) func118 (it:=NA) (λN=>bh (Xd N) bC) xF.b xF.vo
def E67:=Yp T md [(112,abG),(113,abH),(114,abI),(115,abJ),(116,abK),(117,abL),(118,abM),(119,Um)] [] [] [(0,1,.own 51),(0,2,.own 9),(0,3,.own 9),(0,4,.own 45),(0,6,.own 127),(0,7,.own 55),(0,9,.own 189),(0,10,.own 3),(0,11,.own 51)]
def aku:=dR Qw ad8 VA.c VA.v
def anY:FO 67 aku:=fr (E:=E67) (aJ aim (aJ ain (aJ aio (aJ aip (aJ aiq (aJ air (aJ ais (aJ aaP a6)))))))) func67 VA.b VA.vo
def E38:=Yp T md [(67,aku)] [] [] [(0,1,.own 51),(0,2,.own 9),(0,3,.own 9),(0,4,.own 45),(0,6,.own 127),(0,7,.own 55),(0,9,.own 189),(0,10,.own 3),(0,11,.own 51)]
def afg:=dR Qw ad9 GN.c GN.v
def ajq:FO 38 afg:=fr (E:=E38) (aJ anY a6) func38 GN.b GN.vo
def E45:=en [(37,YK),(61,akq),(73,afj),(44,UT),(38,afg)] [(7,[0,5,6,7,8,1000000005009189,1000000005010003,1000000005011051])]
def A45:Fn [.R,.I,.I,.R] As:=λa b c d=>[.pt [.sh 5 a,.n b,.n c],aH 5 d]
def k45:Fn [.R,.R,.I,.I] iO:=λa b c d=>⟨[aO 58 a],[[.sh 5 b,.n c,.n d]]⟩
def MG:Fn [.I,.I,.R,.I,.I,.I,.I,.I,.R,.R,.R,.R,.R,.R,.R,.R,.R,.R] Tb:=λa b c d e f g h i j k l m o p q r s=>[cP 0 900000900,cP 10 1,cA 12 (.own 2),cI 14 a,cI 16 b,oB 1800001801 [.sh 5 c,.n d,.n e],oB 3 [.n f,.own 3,.own 4,.own 5,.own 6,.n g,.own 7,.own 8,.n h,.own 9,.own 10,.own 11],oR 5 58 i,oR 7 51 j,oR 9 9 k,oR 11 9 l,oR 13 45 m,oR 15 127 o,oR 17 55 p,oR 19 189 q,oR 21 3 r,oR 23 51 s]
def Zm(N:Nat)(K:Kt R):=Qm.l7 N (J MG (.exit 0) K)
def ahG(N:Nat):It R:=lp 7 (al MG (λK=>Zm N K N) an) ln
def aex(N:Nat):b0 E45 (ahG N (R:=R)) (bM f45 7):=lq 7 MG (Zm N) λK g=>Qm.r7 N g (J MG (.exit 0) K)
def akd:=dR A45 k45 Qm.c Qm.v
def anH:FO 45 akd:=fq (E:=E45) (aJ aeR (aJ anU (aJ ajt (aJ PG (aJ ajq a6))))) func45 (it:=ahG) (λN=>bh (aex N) bC) Qm.b Qm.vo
def k26:Fn [.I] iO:=λa=>⟨[.v false [.i .u8 a]],[]⟩
def aj6:=dR FJ k26 (ct _) Vs.v
def anx:FO 26 aj6:=ft (E:=E8) a6 func26 Vs.b λ(a,_)=>Vs.eu _ a
def E11:=en [(26,aj6)] [(5,[0,3,4])]
def My:Fn [.I,.B,.S] Tb:=λa b c=>[cI 0 a,cA 6 (.b b),cA 8 (.s c)]
def Y'(N:Nat)(K:Kt R):=pT.l5 N (J My (.exit 0) K)
def ahy(N:Nat):It R:=lp 5 (al My (λK=>Y' N K N) an) ln
def aek(N:Nat):b0 E11 (ahy N (R:=R)) (bM f11 5):=lq 5 My (Y' N) λK g=>pT.r5 N g (J My (.exit 0) K)
def Qb:=dR FJ uj pT.c pT.v
def Tp:FO 11 Qb:=fq (E:=E11) (aJ anx a6) func11 (it:=ahy) (λN=>bh (aek N) bC) pT.b pT.vo
def E46:=en [(11,Qb)] [(19,[1,4,6])]
def A46:Fn [.I,.I,.S,.I,.R] As:=λa b c d e=>[aV [.n a,.n b,.s c,.n d,.sh 3 e]]
def GJ:Fn [.S,.I,.I,.I,.S,.I,.R] Tb:=λa b c d e f g=>[cP 2 0,cA 8 (.s a),cI 12 b,oB 1 [.n c,.n d,.s e,.n f,.sh 3 g]]
def RS(N:Nat)(K:Kt R):=MW.W4 N (J GJ (.exit 1) K)
def ahH(N:Nat):It R:=lp 19 (al GJ (λK=>RS N K N) an) ln
def Yi(N:Nat):b0 E46 (ahH N (R:=R)) (bM f46 19):=lq 19 GJ (RS N) λK g=>MW.r19 N g (J GJ (.exit 1) K)
def ake:=dR A46 uj MW.c MW.v
def anI:FO 46 ake:=fq (E:=E46) (aJ Tp a6) func46 (it:=ahH) (λN=>bh (Yi N) bC) MW.b MW.vo
def A47:Fn [.I,.I] As:=λa b=>[aI a,.v false [.i .u8 b]]
def MH:Fn [.I,.I,.I,.R] Tb:=λa b c d=>[cI 0 a,cA 2 (.i .u8 b),cA 10 (.own 0),cI 12 c,oR 1 5 d]
def Zn(N:Nat)(K:Kt R):=Qn.l3 N (J MH (.exit 0) K)
def ahI(N:Nat):It R:=lp 3 (al MH (λK=>Zn N K N) an) ln
def aey(N:Nat):b0 ON (ahI N (R:=R)) (bM f47 3):=lq 3 MH (Zn N) λK g=>Qn.r3 N g (J MH (.exit 0) K)
def akf:=dR A47 uj Qn.c Qn.v
def anJ:FO 47 akf:=fq (E:=ON) a6 func47 (it:=ahI) (λN=>bh (aey N) bC) Qn.b Qn.vo
def E21:=en [(31,aj9),(44,UT),(45,akd),(46,ake),(47,akf)] [(7,[4,5,6,7,8]),(24,[7,10]),(29,[7,11])]
def MC:Fn [.I,.I,.S,.I,.R] Tb:=λa b c d e=>[cI 8 a,cI 10 b,cA 12 (.own 0),cA 14 (.s c),cI 16 d,oR 1 58 e]
def Gs:Fn [.S,.I] Tb:=λa b=>[cA 14 (.s a),cI 20 b]
def Gt:Fn [.S,.I] Tb:=λa b=>[cA 14 (.s a),cI 22 b]
def Zf(N:Nat)(K:Kt R):=JX.l7 N (J MC (.exit 0) K)
def Rq(N:Nat)(K:Kt R):=JX.l24 N (J Gs (.exit 3) K)
def Rr(N:Nat)(K:Kt R):=JX.l29 N (J Gt (.exit 5) K)
def WR(N:Nat):It R:=lp 7 (al MC (λK=>Zf N K N) an) (lp 24 (al Gs (λK=>Rq N K N) an) (lp 29 (al Gt (λK=>Rr N K N) an) ln))
def aeq(N:Nat):b0 E21 (WR N (R:=R)) (bM f21 7):=lq 7 MC (Zf N) λK g=>JX.r7 N g (J MC (.exit 0) K)
def XU(N:Nat):b0 E21 (WR N (R:=R)) (bM f21 24):=lq 24 Gs (Rq N) λK g=>JX.r24 N g (J Gs (.exit 3) K)
def XV(N:Nat):b0 E21 (WR N (R:=R)) (bM f21 29):=lq 29 Gt (Rr N) λK g=>JX.r29 N g (J Gt (.exit 5) K)
def aj2:=dR A8 uj JX.c JX.v
def ant:FO 21 aj2:=fq (E:=E21) (aJ anB (aJ PG (aJ anH (aJ anI (aJ anJ a6))))) func21 (it:=WR) (λN=>bh (aeq N) (bh (XU N) (bh (XV N) bC))) JX.b JX.vo
def E9:=en [(21,aj2)] []
def sp9:=dR A8 uj U9.c U9.v
def ok9:FO 9 sp9:=fr (E:=E9) (aJ ant a6) func9 U9.b U9.vo
def E22:=en [] [(4,[0,3,4,5])]
def MD:Fn [.S,.I,.I,.R] Tb:=λa b c d=>[cA 0 (.s a),cA 6 (.own 0),cI 8 b,cI 10 c,oR 1 9 d]
def Zg(N:Nat)(K:Kt R):=MU.l4 N (J MD (.exit 0) K)
def ahC(N:Nat):It R:=lp 4 (al MD (λK=>Zg N K N) an) ln
def aer(N:Nat):b0 E22 (ahC N (R:=R)) (bM f22 4):=lq 4 MD (Zg N) λK g=>MU.r4 N g (J MD (.exit 0) K)
def aj3:=dR pd K7 MU.c MU.v
def anu:FO 22 aj3:=fq (E:=E22) a6 func22 (it:=ahC) (λN=>bh (aer N) bC) MU.b MU.vo
def E23:=en [] [(6,[0,2,3,4,5,6])]
def k23:Fn [.R,.B] iO:=λa b=>⟨[aO 9 a,aB b],[]⟩
def ME:Fn [.S,.B,.I,.I,.R] Tb:=λa b c d e=>[cA 0 (.s a),cA 4 .nl,cA 6 (.b b),cA 8 (.own 0),cI 10 c,cI 12 d,oR 1 9 e]
def MZ:Fn [.S,.B,.I,.I,.R,.R] Tb:=λa b c d e f=>[cA 0 (.s a),cA 4 (.own 0),cA 6 (.b b),cA 8 (.own 1),cI 10 c,cI 12 d,oR 1 9 e,oR 3 9 f]
def Zh(N:Nat)(K:Kt R):=nL.l6 N (J MZ .ret K) (J ME (.exit 0) K)
def ahD(N:Nat):It R:=lp 6 (al ME (λK=>Zh N K N) an) ln
def aes(N:Nat):b0 E23 (ahD N (R:=R)) (bM f23 6):=lq 6 ME (Zh N) λK g=>nL.r6 N g (J MZ .ret K) (J ME (.exit 0) K)
def aj4:=dR pd k23 nL.c nL.v
def anv:FO 23 aj4:=fq (E:=E23) a6 func23 (it:=ahD) (λN=>bh (aes N) bC) nL.b nL.vo
def E48:=en [(11,Qb)] [(5,[0,2,3,4,5])]
def k48:Fn [.I,.B] iO:=λa b=>⟨[aI a,aB b],[]⟩
def EI:Fn [.S,.I,.B,.I,.I] Tb:=λa b c d e=>[cA 0 (.s a),cI 4 b,cA 6 (.b c),cI 8 d,cI 10 e]
def Zo(N:Nat)(K:Kt R):=kl.l5 N (J EI .ret K) (J EI (.exit 0) K)
def ahJ(N:Nat):It R:=lp 5 (al EI (λK=>Zo N K N) an) ln
def aez(N:Nat):b0 E48 (ahJ N (R:=R)) (bM f48 5):=lq 5 EI (Zo N) λK g=>kl.r5 N g (J EI .ret K) (J EI (.exit 0) K)
def akg:=dR pd k48 kl.c kl.v
def anK:FO 48 akg:=fq (E:=E48) (aJ Tp a6) func48 (it:=ahJ) (λN=>bh (aez N) bC) kl.b kl.vo
def E24:=en [(48,akg)] [(4,[0,2,3,4,5,6]),(13,[0,2,7,9,10,11])]
def A24:Fn [.R] As:=λa=>[aH 9 a]
def k24:Fn [.I,.I,.S,.I,.R,.B] iO:=λa b c d e f=>⟨[aV [.n a,.n b,.s c,.n d,.ow 3 true e],aB f],[]⟩
def EF:Fn [.R,.B,.I,.I,.I,.S,.I,.R,.R] Tb:=λa b c d e f g h i=>[cH 0 9 a,cP 4 0,cA 6 (.b b),cA 8 (.own 1),cA 10 (.own 2),cI 12 c,oB 1 [.n d,.n e,.s f,.n g,.nl],oR 3 9 h,oR 5 3 i]
def M0:Fn [.R,.B,.I,.I,.S,.I] Tb:=λa b c d e f=>[cH 0 9 a,cP 4 0,cA 6 (.b b),(8,.v .un),(10,.v .un),(12,.v .un),oB 1 [.n c,.n d,.s e,.n f,.nl]]
def M1:Fn [.R,.B,.I,.I,.S,.I,.R] Tb:=λa b c d e f g=>[cH 0 9 a,cP 4 0,cA 6 (.b b),(8,.v .un),(10,.v .un),(12,.v .un),oB 1 [.n c,.n d,.s e,.n f,.own 1],oR 3 3 g]
def rZ:Fn [.R,.B,.B,.I,.I,.I,.S,.I,.I,.I,.S,.I] Tb:=λa b c d e f g h i j k l=>[cH 0 9 a,cP 4 0,cP 14 1,cA 18 (.b b),cA 20 (.b c),cI 22 d,oB 1 [.n e,.n f,.s g,.n h,.nl],oB 3 [.n i,.n j,.s k,.n l,.nl]]
def oU:Fn [.R,.B,.B,.I,.I,.I,.S,.I,.I,.I,.S,.I,.R] Tb:=λa b c d e f g h i j k l m=>[cH 0 9 a,cP 4 0,cP 14 1,cA 18 (.b b),cA 20 (.b c),cI 22 d,oB 1 [.n e,.n f,.s g,.n h,.nl],oB 3 [.n i,.n j,.s k,.n l,.own 2],oR 5 3 m]
def Zi(N:Nat)(K:Kt R):=o6.l4 N (J EF .ret K) (J M0 .ret K) (J M1 .ret K) (J EF (.exit 0) K)
def RG(N:Nat)(K:Kt R):=o6.l13 N (J rZ (.exit 3) K) (J oU (.exit 3) K)
def Ms(N:Nat)(K:Kt R):=o6.Aa N (J rZ (.exit 3) K) (J oU (.exit 3) K)
def S0(N:Nat):It R:=lp 4 (al EF (λK=>Zi N K N) an) (lp 13 (al rZ (λK=>RG N K N) (al oU (λK=>Ms N K N) an)) ln)
def aet(N:Nat):b0 E24 (S0 N (R:=R)) (bM f24 4):=lq 4 EF (Zi N) λK g=>o6.r4 N g (J EF .ret K) (J M0 .ret K) (J M1 .ret K) (J EF (.exit 0) K)
def Oy(N:Nat)(K:Kt R):Wd E24 (S0 N) (bM f24 13) 13 K oU (Ms N K):=lw (λg=>o6.Ju N (cmp _ rZ (g∘eW)) (cmp _ oU (g∘eW)) (J rZ (.exit 3) K) (J oU (.exit 3) K)) λm i=>by simp only[Function.comp_def,wf i];rfl
def afy(N:Nat)(K:Kt R):Wd E24 (S0 N) (bM f24 13) 13 K rZ (RG N K):=lw (λg=>o6.r13 N (cmp _ rZ (g∘eW)) (cmp _ oU (g∘eW)) (J rZ (.exit 3) K) (J oU (.exit 3) K)) λm i=>by simp only[Function.comp_def,wf i,wf (Oy N K m)];rfl
def X_(N:Nat):b0 E24 (S0 N (R:=R)) (bM f24 13):=lm 13 (ga rZ (afy N) (ga oU (Oy N) mV))
def aj5:=dR A24 k24 o6.c o6.v
def anw:FO 24 aj5:=fq (E:=E24) (aJ anK a6) func24 (it:=S0) (λN=>bh (aet N) (bh (X_ N) bC)) o6.b o6.vo
def afd:=dR A46 k8 (ct _) ZG.v
def aji:FO 25 afd:=ft (E:=ac7) (aJ vA a6) func25 ZG.b λ(a,b,c,d,e,_)=>ZG.eu _ a b c d e
def E10:=en [(22,aj3),(23,aj4),(24,aj5),(25,afd)] [(7,[2,3,4,5,6,7])]
def k10:Fn [.R,.I] iO:=λa b=>⟨[aO 58 a,aI b],[]⟩
def Mx:Fn [.I,.I,.R,.R,.R] Tb:=λa b c d e=>[cA 4 .nl,cI 6 a,cA 8 (.own 0),cA 10 (.own 1),cA 12 (.own 2),cI 14 b,oR 1 58 c,oR 3 9 d,oR 5 58 e]
def MY:Fn [.I,.I,.R,.R,.R] Tb:=λa b c d e=>[cA 4 (.own 0),cI 6 a,cA 8 (.own 0),cA 10 (.own 1),cA 12 (.own 2),cI 14 b,oR 1 58 c,oR 3 9 d,oR 5 58 e]
def Y_(N:Nat)(K:Kt R):=BO.l7 N (J MY .ret K) (J Mx (.exit 0) K)
def ahx(N:Nat):It R:=lp 7 (al Mx (λK=>Y_ N K N) an) ln
def aej(N:Nat):b0 E10 (ahx N (R:=R)) (bM f10 7):=lq 7 Mx (Y_ N) λK g=>BO.r7 N g (J MY .ret K) (J Mx (.exit 0) K)
def ae':=dR pd k10 BO.c BO.v
def aid:FO 10 ae':=fq (E:=E10) (aJ anu (aJ anv (aJ anw (aJ aji a6)))) func10 (it:=ahx) (λN=>bh (aej N) bC) BO.b BO.vo
def DC(t:ByteArray):∀(k:Nat) (s x:ByteArray),x∈_root_.Go.Lib.splitB t 0 k s->x.size<=s.size
 |0,s,x,h=>by
  simp only[_root_.Go.Lib.splitB,List.mem_singleton]at h;exact h▸Nat.le_refl _
 |k+1,s,x,h=>by
  unfold _root_.Go.Lib.splitB at h;split at h
  ·simp only[List.mem_singleton]at h;exact h▸Nat.le_refl _
  ·rcases List.mem_cons.1 h with rfl|h
   ·rw[ByteArray.size_extract];omega
   ·have:=DC t k _ x h;rw[ByteArray.size_extract]at this;omega
def A33:Fn [.S,.S] As:=λa b=>[aS a,aS b]
def k33:Fn [.R] iO:=λa=>⟨[.v false [.sh 9 a]],[]⟩
def aff:=dR A33 k33 AF.c AF.v
def ajp:FO 33 aff:=by
 refine B1 func33 (by kernel_rfl) (by kernel_rfl) (by intro x;rfl) λx hx w c1 vs Ej hsz hvs=> ?_;obtain⟨s,t,_⟩:=x;replace hx:(Nat.ble s.size 4000000000&&Nat.beq t.size 1)=true:=hx;rw[Bool.and_eq_true,Nat.ble_eq,Nat.beq_eq]at hx;obtain⟨v,hv,hs,_⟩:=hvs 0 _ rfl;obtain⟨u,hu,ht,_⟩:=hvs 1 _ rfl;subst hs ht;have hsz:vs.size=2:=hsz;obtain rfl:vs= #[.string s,.string t]:=by
  apply Array.ext
  ·simpa using hsz
  ·intro i h1 h2;have:i=0\/i=1:=by simp at h2;omega
   rcases this with rfl|rfl
   ·simpa using (Array.getElem?_eq_some_iff.1 hv).2
   ·simpa using (Array.getElem?_eq_some_iff.1 hu).2
 obtain⟨_,_,m,hm⟩:=Ej.gp;have hl:=_root_.Go.Lib.splitB_all t (by omega) 0 _ s rfl;have hc:=_root_.Go.Lib.countB_le t (by omega) _ s (Nat.le_refl _);refine(Any.strings_Split {Tryz.lays146 with} Tryz.lays146.i9 s t m w (by omega) hm (by omega)).mono λe w' he=> ?_;obtain⟨rfl,rfl⟩:=he;have hz:∀o,(w.alloc o).heap.size=w.heap.size+1:=λo=>Array.size_push _;have ha:∀o,(w.alloc o).heap[w.heap.size]? =some o:=λo=>Array.getElem?_push_size;refine⟨_,rfl,yw (λb=>c1.K b\/b=w.heap.size) Ej (λm o h=>by cases h) ((RowKit.Below.refl _ _).alloc (Nat.le_refl _) _) (λ_ h=>.inl h) (λb h=>h.elim .inl λh=>.inr ⟨Nat.le_of_eq h.symm,by rw[hz,h];exact Nat.lt_succ_self _⟩) ?_⟩
 exact Pp (by_:=16) (by kernel_rfl) hl.symm (ha _) (.inr rfl) (λx h=>Nat.le_trans (DC t _ _ x h) (Nat.le_trans hx.1 (by decide))) (by rw[hl];exact Nat.le_trans (Nat.succ_le_succ (Nat.le_trans hc hx.1)) (by decide))
def tr:=dR A49 k8 (ct _) kP.v
def qN:FO 50 tr:=ft (E:=E8) a6 func50 kP.b λ(a,b,c,_)=>kP.eu _ a b c
def E34:=en [(50,tr),(33,aff)] [(5,[0,2,3,4,5]),(10,[4,25,26,27])]
def EG:Fn [.S,.B,.I,.R] Tb:=λa b c d=>[cA 0 (.s a),cA 4 .nl,cA 6 (.b b),cA 8 (.own 0),cI 10 c,oR 1 9 d]
def GI:Fn [.R,.I,.I,.R] Tb:=λa b c d=>[cA 8 (.own 0),cH 50 9 a,cI 52 b,cI 54 c,oR 1 9 d]
def Zk(N:Nat)(K:Kt R):=pU.l5 N (J EG .ret K) (J EG (.exit 0) K)
def RR(N:Nat)(K:Kt R):=pU.l10 N (J GI (.exit 2) K)
def ad5(N:Nat):It R:=lp 5 (al EG (λK=>Zk N K N) an) (lp 10 (al GI (λK=>RR N K N) an) ln)
def aev(N:Nat):b0 E34 (ad5 N (R:=R)) (bM f34 5):=lq 5 EG (Zk N) λK g=>pU.r5 N g (J EG .ret K) (J EG (.exit 0) K)
def Yh(N:Nat):b0 E34 (ad5 N (R:=R)) (bM f34 10):=lq 10 GI (RR N) λK g=>pU.Yz N g (J GI (.exit 2) K)
def aj_:=dR pd k23 pU.c pU.v
def anC:FO 34 aj_:=fq (E:=E34) (aJ qN (aJ ajp a6)) func34 (it:=ad5) (λN=>bh (aev N) (bh (Yh N) bC)) pU.b pU.vo
def k63:Fn [.I,.S] iO:=λa b=>⟨[aI a,aS b],[]⟩
def akr:=dR pd k63 (ct _) JZ.v
def anV:FO 63 akr:=ft (E:=E8) a6 func63 JZ.b λ(a,_)=>JZ.eu _ a
def ahR(n:Int)(h0: -9223372036854775808<=n)(h1:n<=9223372036854775807)(w:World)(h:_root_.Go.Lib.TabIs Tryz.prog w "internal/strconv.uint64pow10" .u64 _root_.Go.Lib.pow10Tab):
  Calls Tryz.prog 40 #[.int .i64 n] w λe w'=>e=.returned (.string ⟨(_root_.Go.Lib.itoa n).toArray⟩)/\RowKit.Below w.heap.size w w':=
 (Any.strconv_Itoa Tryz.lays171 n h0 h1 w h).mono λe w' ⟨he,k,os,hw⟩=>⟨he,hw▸AH w k os⟩
def Ks{w w1:World}{t:TypeId}(h:w1=w\/∃s,w1=_root_.Go.Lib.bytesWorld w t s):RowKit.Below w.heap.size w w1:=by
 rcases h with rfl|⟨s,rfl⟩
 ·exact .refl _ _
 ·exact _root_.Go.Joins.below_bytesWorld _ w t s (Nat.le_refl _)
def Ku{w w1 w2:World}(h1:RowKit.Below w.heap.size w w1)(h2:RowKit.Below w1.heap.size w1 w2):RowKit.Below w.heap.size w w2:=h1.trans ⟨h2.os,h2.tape,h2.output,h2.size,λi hi=>h2.block i (Nat.lt_of_lt_of_le hi h1.size)⟩
set_option maxHeartbeats 1000000 in
def ajQ(s:ByteArray)(hs:s.size<=140737488355328)(w:World)(h:_root_.Go.Lib.TabIs Tryz.prog w "internal/strconv.uint64pow10" .u64 _root_.Go.Lib.pow10Tab)(g1:1<w.heap.size)
  (hE:∃tp p,w.var? Tryz.prog "strconv.ErrSyntax" =some #[.iface tp p]) (hR:∃tp p,w.var? Tryz.prog "strconv.ErrRange" =some #[.iface tp p]):
  Calls Tryz.prog 65 #[.string s] w λe w'=>e=.returned (.tuple #[.int .i64 (yT.v s).1,.bool (yT.v s).2])/\RowKit.Below w.heap.size w w':=by
 unfold yT.v;cases ha:_root_.Go.Lib.atoiAll s.data.toList with
 |range=>
  obtain⟨tp,p,hR⟩:=hR;go_enter func65,Tryz.ntmps65;go_wp2_with (first|(go_at_call 110;refine(Any.strconv_Atoi_range_var Tryz.lays172 s (by omega) ha tp p w hR).mono ?_;rintro e w1 ⟨N,rfl,-,-,hb⟩)|go_in)
  go_ret2;exact⟨rfl,hb⟩
 |ok n=>
  have hn:=_root_.Go.Lib.atoiAll_bounds ha;go_enter func65,Tryz.ntmps65;go_wp2_with (first|(go_at_call 110;go_must (refine(Any.strconv_Atoi_ok Tryz.lays172 s (by omega) n ha w).mono ?_;rintro e w1 ⟨rfl,hw1⟩;replace hw1:=Ks hw1;have hT1:=_root_.Go.Joins.tab_stays (g:=1) (by kernel_rfl) h hw1 (Nat.le_refl _)))|(go_at_call 40;go_must (refine(ahR n (by omega) (by omega) _ hT1).mono ?_;rintro e w2 ⟨rfl,hb2⟩;replace hb2:=Ku hw1 hb2))|go_in)
  ·rename_i h0 h1 _ hq;rw[_root_.Go.Lib.toList_data]at hq;go_ret2;refine⟨?_,hb2⟩
   simp only[Bool.not_eq_true']at hq;simp[hq]
  ·rename_i h0 h1 hq;rw[_root_.Go.Lib.toList_data]at hq;go_ret2;refine⟨?_,hb2⟩
   simp only[Bool.not_eq_false']at hq;simp[hq,h0,h1]
  ·rename_i h0 h1;go_ret2;refine⟨?_,hw1⟩
   simp[h0,show¬n<=1000000000 by omega]
  ·rename_i h0;go_ret2;refine⟨?_,hw1⟩
   simp[show¬0<=n by omega]
 |_=>
  obtain⟨tp,p,hE⟩:=hE;go_enter func65,Tryz.ntmps65;go_wp2_with (first|(go_at_call 110;refine(Any.strconv_Atoi_syntax_var Tryz.lays172 s (by omega) ha tp p w hE).mono ?_;rintro e w1 ⟨N,rfl,-,-,hb⟩)|go_in)
  go_ret2;exact⟨rfl,hb⟩
def afi:=dR pd k48 yT.c yT.v
def ajs:FO 65 afi:=by
 refine B1 func65 (by kernel_rfl) (by kernel_rfl) (by intro x;rfl) λx hx w c1 vs Ej hsz hvs=> ?_;obtain⟨s,_⟩:=x;replace hx:Nat.ble s.size 140737488355328=true:=hx;rw[Nat.ble_eq]at hx;obtain⟨v,hv,hs,_⟩:=hvs 0 _ rfl;subst hs;have hsz:vs.size=1:=hsz;obtain rfl:vs= #[.string s]:=by
  apply Array.ext
  ·simpa using hsz
  ·intro i h1 h2;obtain rfl:i=0:=by simp at h2;omega
   simpa using (Array.getElem?_eq_some_iff.1 hv).2
 obtain⟨⟨⟨⟨hg,cs,h1,rfl⟩,_,cs2,h2,tp2,p2,rfl⟩,_,cs3,h3,tp3,p3,rfl⟩,_⟩:=Ej.gp;refine(ajQ s hx w h1 (Ej.lt 1 hg) ⟨_,_,h2⟩ ⟨_,_,h3⟩).mono λe w' he=> ?_;obtain⟨rfl,hb⟩:=he;refine⟨_,rfl,yw c1.K Ej (λm o h=>by cases h) hb (λ_ h=>h) (λ_ h=>.inl h) ⟨_,rfl,rfl,λj agg xs hj=> ?_⟩⟩
 match j,hj with
 |0,hj=>cases hj;exact⟨_,rfl,rfl⟩
 |1,hj=>cases hj;exact⟨_,rfl,rfl⟩
def E27:=en [(50,tr)] []
def YJ:=dR A46 k8 (ct _) MV.v
def aeQ:FO 27 YJ:=ft (E:=E27) (aJ qN a6) func27 MV.b λ(a,b,c,d,e,_)=>MV.eu _ a b c d e
def E64:=en [(65,afi),(27,YJ)] [(3,[2,3,4,10,11,12])]
def qU:Fn [.B,.R,.I,.I,.I,.I,.S,.I,.I,.I,.S,.I] Tb:=λa b c d e f g h i j k l=>[cP 4 0,cA 6 (.b a),cP 8 1,cH 20 9 b,cI 22 c,cI 24 d,oB 1 [.n e,.n f,.s g,.n h,.nl],oB 3 [.n i,.n j,.s k,.n l,.nl]]
def sb:Fn [.B,.R,.I,.I,.I,.I,.S,.I,.I,.I,.S,.I,.R] Tb:=λa b c d e f g h i j k l m=>[cP 4 0,cA 6 (.b a),cP 8 1,cH 20 9 b,cI 22 c,cI 24 d,oB 1 [.n e,.n f,.s g,.n h,.nl],oB 3 [.n i,.n j,.s k,.n l,.own 2],oR 5 3 m]
def BP:Fn [.B,.R,.I,.I,.I,.I,.S,.I,.I,.I,.S,.I,.R] Tb:=λa b c d e f g h i j k l m=>[cP 4 0,cA 6 (.b a),cP 8 1,cH 20 9 b,cI 22 c,cI 24 d,oB 1 [.n e,.n f,.s g,.n h,.own 2],oB 3 [.n i,.n j,.s k,.n l,.own 2],oR 5 3 m]
def Zs(N:Nat)(K:Kt R):=Ec.l3 N (J qU .ret K) (J qU (.exit 0) K) (J BP .ret K) (J sb (.exit 0) K)
def RT(N:Nat)(K:Kt R):=Ec.oJ N (J qU .ret K) (J qU (.exit 0) K) (J BP .ret K) (J sb (.exit 0) K)
def WT(N:Nat):It R:=lp 3 (al qU (λK=>Zs N K N) (al sb (λK=>RT N K N) an)) ln
def Vd(N:Nat)(K:Kt R):Wd E64 (WT N) (bM f64 3) 3 K sb (RT N K):=lw (λg=>Ec.vC N (cmp _ qU (g∘eW)) (cmp _ sb (g∘eW)) (J qU .ret K) (J qU (.exit 0) K) (J BP .ret K) (J sb (.exit 0) K)) λm i=>by simp only[Function.comp_def,wf i];rfl
def akO(N:Nat)(K:Kt R):Wd E64 (WT N) (bM f64 3) 3 K qU (Zs N K):=lw (λg=>Ec.r3 N (cmp _ qU (g∘eW)) (cmp _ sb (g∘eW)) (J qU .ret K) (J qU (.exit 0) K) (J BP .ret K) (J sb (.exit 0) K)) λm i=>by simp only[Function.comp_def,wf i,wf (Vd N K m)];rfl
def aeD(N:Nat):b0 E64 (WT N (R:=R)) (bM f64 3):=lm 3 (ga qU (akO N) (ga sb (Vd N) mV))
def aks:=dR A24 k24 Ec.c Ec.v
def anW:FO 64 aks:=fq (E:=E64) (aJ ajs (aJ aeQ a6)) func64 (it:=WT) (λN=>bh (aeD N) bC) Ec.b Ec.vo
def E35:=en [(63,akr),(64,aks),(65,afi),(27,YJ)] [(8,[2,3,5,6,39,40,41])]
def EH:Fn [.B,.S,.R,.I,.I,.I,.I,.S,.I,.I,.I,.S,.I] Tb:=λa b c d e f g h i j k l m=>[cP 4 0,cA 6 (.b a),cA 10 (.s b),cP 12 1,cH 78 9 c,cI 80 d,cI 82 e,oB 1 [.n f,.n g,.s h,.n i,.nl],oB 3 [.n j,.n k,.s l,.n m,.nl]]
def Zl(N:Nat)(K:Kt R):=tX.l8 N (J EH .ret K) (J EH (.exit 0) K)
def ahF(N:Nat):It R:=lp 8 (al EH (λK=>Zl N K N) an) ln
def aew(N:Nat):b0 E35 (ahF N (R:=R)) (bM f35 8):=lq 8 EH (Zl N) λK g=>tX.r8 N g (J EH .ret K) (J EH (.exit 0) K)
def aj':=dR A24 k24 tX.c tX.v
def anD:FO 35 aj':=fq (E:=E35) (aJ anV (aJ anW (aJ ajs (aJ aeQ a6)))) func35 (it:=ahF) (λN=>bh (aew N) bC) tX.b tX.vo
def E15:=en [(33,aff),(34,aj_),(35,aj')] [(8,[2,3,5,35,36,37])]
def EE:Fn [.I,.R,.I,.I,.R] Tb:=λa b c d e=>[cA 4 .nl,cI 6 a,cA 10 (.own 0),cH 70 9 b,cI 72 c,cI 74 d,oR 1 58 e]
def Zc(N:Nat)(K:Kt R):=Qk.l8 N (J EE .ret K) (J EE (.exit 0) K)
def ahA(N:Nat):It R:=lp 8 (al EE (λK=>Zc N K N) an) ln
def aen(N:Nat):b0 E15 (ahA N (R:=R)) (bM f15 8):=lq 8 EE (Zc N) λK g=>Qk.r8 N g (J EE .ret K) (J EE (.exit 0) K)
def ajY:=dR pd k10 Qk.c Qk.v
def anp:FO 15 ajY:=fq (E:=E15) (aJ ajp (aJ anC (aJ anD a6))) func15 (it:=ahA) (λN=>bh (aen N) bC) Qk.b Qk.vo
def akc:=dR FJ uj U40.c U40.v
def anG:FO 40 akc:=by
 refine B1 func40 (by kernel_rfl) (by kernel_rfl) (by intro x;rfl) λx hx w c1 vs Ej hsz hvs=> ?_;obtain⟨n,_⟩:=x;replace hx:(decide (-9223372036854775808<=n)&&decide (n<=9223372036854775807))=true:=hx;simp only[Bool.and_eq_true,decide_eq_true_eq]at hx;obtain⟨v,hv,hs⟩:=hvs 0 _ rfl;have hs:v=.int .i64 n:=hs;subst hs;have hsz:vs.size=1:=hsz;obtain rfl:vs= #[.int .i64 n]:=by
  apply Array.ext
  ·simpa using hsz
  ·intro i h1 h2;obtain rfl:i=0:=by simp at h2;omega
   simpa using (Array.getElem?_eq_some_iff.1 hv).2
 obtain⟨⟨⟨⟨hg,cs,h1,rfl⟩,_⟩,_⟩,_⟩:=Ej.gp;refine(Any.strconv_Itoa Tryz.lays171 n hx.1 hx.2 w h1).mono λe w' he=> ?_;obtain⟨rfl,k,os,rfl⟩:=he;refine⟨_,rfl,yw c1.K Ej (λm o h=>by cases h) (AH w k os) (λ_ h=>h) (λ_ h=>.inl h) ⟨rfl,?_⟩⟩
 have hl:=_root_.Go.Lib.itoa_length_le n hx.1 hx.2;show(_root_.Go.Lib.itoa n).toArray.size<=_;simp;omega
def E19:=en [(40,akc)] []
def afc:=dR FJ uj tU.c tU.v
def aiV:FO 19 afc:=fr (E:=E19) (aJ anG a6) func19 tU.b tU.vo
def E74:=en [] [(3,[0,1,3])]
def xC:Fn [.I,.I,.I] Tb:=λa b c=>[cP 0 0,cP 2 1,cI 6 a,oB 1 [.nl,.n b],oB 3 [.nl,.n c]]
def sd:Fn [.I,.I,.I,.R] Tb:=λa b c d=>[cP 0 0,cP 2 1,cI 6 a,oB 1 [.nl,.n b],oB 3 [.own 2,.n c],oR 5 45 d]
def Zu(N:Nat)(K:Kt R):=V_.l3 N (J xC (.exit 0) K) (J sd (.exit 0) K)
def RU(N:Nat)(K:Kt R):=V_.oJ N (J xC (.exit 0) K) (J sd (.exit 0) K)
def WU(N:Nat):It R:=lp 3 (al xC (λK=>Zu N K N) (al sd (λK=>RU N K N) an)) ln
def Ve(N:Nat)(K:Kt R):Wd E74 (WU N) (bM f74 3) 3 K sd (RU N K):=lw (λg=>V_.vC N (cmp _ xC (g∘eW)) (cmp _ sd (g∘eW)) (J xC (.exit 0) K) (J sd (.exit 0) K)) λm i=>by simp only[Function.comp_def,wf i];rfl
def akP(N:Nat)(K:Kt R):Wd E74 (WU N) (bM f74 3) 3 K xC (Zu N K):=lw (λg=>V_.r3 N (cmp _ xC (g∘eW)) (cmp _ sd (g∘eW)) (J xC (.exit 0) K) (J sd (.exit 0) K)) λm i=>by simp only[Function.comp_def,wf i,wf (Ve N K m)];rfl
def aeF(N:Nat):b0 E74 (WU N (R:=R)) (bM f74 3):=lm 3 (ga xC (akP N) (ga sd (Ve N) mV))
def akw:=dR OD Pv V_.c V_.v
def an0:FO 74 akw:=fq (E:=E74) a6 func74 (it:=WU) (λN=>bh (aeF N) bC) V_.b V_.vo
def E51:=en [(74,akw)] []
def akh:=dR OD k66 (ct _) U51.v
def anL:FO 51 akh:=ft (E:=E51) (aJ an0 a6) func51 U51.b λ_=>U51.eu _
def E28:=en [(51,akh)] []
def afe:=dR OD VE (ct _) U28.v
def ajo:FO 28 afe:=ft (E:=E28) (aJ anL a6) func28 U28.b λ_=>U28.eu _
def alB:Fn [.R] As:=λa=>[aH 51 a]
def Uo:=dR alB K6 xG.c xG.v
def aaR:FO 124 Uo:=fr (E:=E8) a6 func124 xG.b xG.vo
def UD:=dR A24 K7 tT.c tT.v
def aa6:FO 185 UD:=fr (E:=E8) a6 func185 tT.b tT.vo
def alI:Fn [.R] As:=λa=>[aH 3 a]
def anc:Fn [.R] iO:=λa=>⟨[aO 3 a],[]⟩
def acb:=dR alI anc wj.c wj.v
def aiW:FO 192 acb:=fr (E:=E8) a6 func192 wj.b wj.vo
def VQ:=en [(192,acb)] [(3,[2,3,10,11,12])]
def rW:Fn [.R,.I,.I,.I,.I] Tb:=λa b c d e=>[cP 4 0,cP 6 1,cH 20 45 a,cI 22 b,cI 24 c,oB 1 [.nl,.n d],oB 3 [.nl,.n e]]
def oQ:Fn [.R,.I,.I,.I,.I,.R] Tb:=λa b c d e f=>[cP 4 0,cP 6 1,cH 20 45 a,cI 22 b,cI 24 c,oB 1 [.nl,.n d],oB 3 [.own 2,.n e],oR 5 45 f]
def QV(N:Nat)(K:Kt R):=jr.l3 N (J rW (.exit 0) K) (J oQ (.exit 0) K)
def Mk(N:Nat)(K:Kt R):=jr.oJ N (J rW (.exit 0) K) (J oQ (.exit 0) K)
def NB(N:Nat):It R:=lp 3 (al rW (λK=>QV N K N) (al oQ (λK=>Mk N K N) an)) ln
def Ov(N:Nat)(K:Kt R):Wd VQ (NB N) (bM f140 3) 3 K oQ (Mk N K):=lw (λg=>jr.vC N (cmp _ rW (g∘eW)) (cmp _ oQ (g∘eW)) (J rW (.exit 0) K) (J oQ (.exit 0) K)) λm i=>by simp only[Function.comp_def,wf i];rfl
def afv(N:Nat)(K:Kt R):Wd VQ (NB N) (bM f140 3) 3 K rW (QV N K):=lw (λg=>jr.r3 N (cmp _ rW (g∘eW)) (cmp _ oQ (g∘eW)) (J rW (.exit 0) K) (J oQ (.exit 0) K)) λm i=>by simp only[Function.comp_def,wf i,wf (Ov N K m)];rfl
def Xm(N:Nat):b0 VQ (NB N (R:=R)) (bM f140 3):=lm 3 (ga rW (afv N) (ga oQ (Ov N) mV))
def Us:=dR VL Pv jr.c jr.v
def aaV:FO 140 Us:=fq (E:=VQ) (aJ aiW a6) func140 (it:=NB) (λN=>bh (Xm N) bC) jr.b jr.vo
def al0:=en [(185,UD),(140,Us)] []
def N3:=dR Qx k66 jy.c jy.v
def Tq:FO 125 N3:=fr (E:=al0) (aJ aa6 (aJ aaV a6)) func125 jy.b jy.vo
def E75:=en [(124,Uo),(125,N3)] []
def LO:=dR QA VE oX.c oX.v
def PH:FO 75 LO:=fr (E:=E75) (aJ aaR (aJ Tq a6)) func75 oX.b oX.vo
def LP:=dR pd k8 (ct _) OX.v
def PI:FO 77 LP:=ft (E:=E27) (aJ qN a6) func77 OX.b λ(a,_)=>OX.eu _ a
def N4:=dR FJ k8 (ct _) Ct.v
def Ts:FO 129 N4:=ft (E:=E27) (aJ qN a6) func129 Ct.b λ(a,_)=>Ct.eu _ a
def al1:=en [(77,LP),(129,N4),(50,tr)] []
def JJ:=dR J' k8 (ct _) xH.v
def NR:FO 130 JJ:=ft (E:=al1) (aJ PI (aJ Ts (aJ qN a6))) func130 xH.b λ(a,b,c,d,_)=>xH.eu _ a b c d
def alM:Fn [.I] As:=λa=>[.v false [.nl],aI a]
def acx:=dR alM K7 D'.c D'.v
def ajd:FO 243 acx:=fr (E:=E8) a6 func243 D'.b D'.vo
def ac8:=en [(243,acx)] [(3,[0,3,9,10,11]),(11,[6,25,26,27])]
def alJ:Fn [.R] As:=λa=>[aH 32 a]
def Gq:Fn [.R,.I,.R,.I,.I] Tb:=λa b c d e=>[cH 0 32 a,cI 6 b,cH 18 32 c,cI 20 d,cI 22 e]
def BN:Fn [.R,.I,.I,.R] Tb:=λa b c d=>[cA 12 (.own 0),cH 50 32 a,cI 52 b,cI 54 c,oR 1 9 d]
def Rj(N:Nat)(K:Kt R):=xM.l3 N (J Gq (.exit 0) K)
def Mp(N:Nat)(K:Kt R):=xM.C1 N (J BN (.exit 2) K)
def SX(N:Nat):It R:=lp 3 (al Gq (λK=>Rj N K N) an) (lp 11 (al BN (λK=>Mp N K N) an) ln)
def XN(N:Nat):b0 ac8 (SX N (R:=R)) (bM f194 3):=lq 3 Gq (Rj N) λK g=>xM.r3 N g (J Gq (.exit 0) K)
def Tf(N:Nat):b0 ac8 (SX N (R:=R)) (bM f194 11):=lq 11 BN (Mp N) λK g=>xM.Ly N g (J BN (.exit 2) K)
def ace:=dR alJ K7 xM.c xM.v
def aiX:FO 194 ace:=fq (E:=ac8) (aJ ajd a6) func194 (it:=SX) (λN=>bh (XN N) (bh (Tf N) bC)) xM.b xM.vo
def al5:=en [(194,ace)] []
def N7:=dR Qx K7 qW.c qW.v
def Tw:FO 146 N7:=fr (E:=al5) (aJ aiX a6) func146 qW.b qW.vo
def agQ:=en [] [(2,[0,1,4,7,8])]
def zv:Fn [.R,.S,.I,.I,.I] Tb:=λa b c d e=>[cH 0 9 a,cA 2 (.s b),cI 8 c,cI 14 d,cI 16 e]
def Rg(N:Nat)(K:Kt R):=Bj.l2 N (J zv .ret K) (J zv (.exit 0) K)
def aak(N:Nat):It R:=lp 2 (al zv (λK=>Rg N K N) an) ln
def XK(N:Nat):b0 agQ (aak N (R:=R)) (bM f187 2):=lq 2 zv (Rg N) λK g=>Bj.r2 N g (J zv .ret K) (J zv (.exit 0) K)
def ab':=dR Qy yk Bj.c Bj.v
def aiT:FO 187 ab':=fq (E:=agQ) a6 func187 (it:=aak) (λN=>bh (XK N) bC) Bj.b Bj.vo
def al2:=en [(187,ab')] []
def N5:=dR Qy k8 tc.c tc.v
def Tt:FO 132 N5:=fr (E:=al2) (aJ aiT a6) func132 tc.b tc.vo
def E91:=en [(146,N7),(132,N5)] []
def YO:=dR OE k8 H5.c H5.v
def aeV:FO 91 YO:=fr (E:=E91) (aJ Tw (aJ Tt a6)) func91 H5.b H5.vo
def ac5:=en [(50,tr)] [(2,[1,2,8,9,10]),(5,[1,2,4,8,9,10,14,15,16])]
def zl:Fn [.B,.R,.I,.I,.R,.I] Tb:=λa b c d e f=>[cP 2 0,cA 4 (.b a),cH 16 45 b,cI 18 c,cI 20 d,oB 1 [.sh 45 e,.n f]]
def zm:Fn [.B,.R,.R,.I,.I,.R,.I,.I,.R,.I] Tb:=λa b c d e f g h i j=>[cP 2 0,cA 4 (.b a),cH 8 3 b,cH 16 45 c,cI 18 d,cI 20 e,cH 28 3 f,cI 30 g,cI 32 h,oB 1 [.sh 45 i,.n j]]
def QW(N:Nat)(K:Kt R):=pZ.l2 N (J zl .ret K) (J zl (.exit 0) K)
def QX(N:Nat)(K:Kt R):=pZ.l5 N (J zm .ret K) (J zm (.exit 2) K)
def SR(N:Nat):It R:=lp 2 (al zl (λK=>QW N K N) an) (lp 5 (al zm (λK=>QX N K N) an) ln)
def Xn(N:Nat):b0 ac5 (SR N (R:=R)) (bM f141 2):=lq 2 zl (QW N) λK g=>pZ.r2 N g (J zl .ret K) (J zl (.exit 0) K)
def Xo(N:Nat):b0 ac5 (SR N (R:=R)) (bM f141 5):=lq 5 zm (QX N) λK g=>pZ.r5 N g (J zm .ret K) (J zm (.exit 2) K)
def N6:=dR VL k8 pZ.c pZ.v
def Tv:FO 141 N6:=fq (E:=ac5) (aJ qN a6) func141 (it:=SR) (λN=>bh (Xn N) (bh (Xo N) bC)) pZ.b pZ.vo
def agC:=en [(146,N7),(77,LP),(132,N5),(141,N6)] [(3,[1,2,3,8,9,10])]
def zj:Fn [.B,.I,.I,.R,.R,.R,.I,.R] Tb:=λa b c d e f g h=>[cP 2 0,cA 4 (.b a),cA 6 (.own 1),cA 16 (.own 1),cI 18 b,cI 20 c,oB 1 [.sh 9 d,.sh 9 e,.sh 45 f,.n g],oR 3 9 h]
def QR(N:Nat)(K:Kt R):=pq.l3 N (J zj .ret K) (J zj (.exit 0) K)
def Z6(N:Nat):It R:=lp 3 (al zj (λK=>QR N K N) an) ln
def Xi(N:Nat):b0 agC (Z6 N (R:=R)) (bM f131 3):=lq 3 zj (QR N) λK g=>pq.r3 N g (J zj .ret K) (J zj (.exit 0) K)
def Up:=dR Qx k8 pq.c pq.v
def aaS:FO 131 Up:=fq (E:=agC) (aJ Tw (aJ PI (aJ Tt (aJ Tv a6)))) func131 (it:=Z6) (λN=>bh (Xi N) bC) pq.b pq.vo
def agz:=en [(130,JJ),(91,YO),(131,Up),(146,N7)] [(2,[1,2,6,7,8])]
def zh:Fn [.B,.R,.I,.I,.I,.R,.R,.R,.R,.I,.R,.R,.I] Tb:=λa b c d e f g h i j k l m=>[cP 2 0,cA 4 (.b a),cH 12 51 b,cI 14 c,cI 16 d,oB 1 [.n e,.sh 51 f,.sh 9 g,.sh 9 h,.sh 45 i,.n j,.sh 127 k,.sh 55 l,.n m]]
def QN(N:Nat)(K:Kt R):=Bh.l2 N (J zh .ret K) (J zh (.exit 0) K)
def Z3(N:Nat):It R:=lp 2 (al zh (λK=>QN N K N) an) ln
def Xe(N:Nat):b0 agz (Z3 N (R:=R)) (bM f126 2):=lq 2 zh (QN N) λK g=>Bh.r2 N g (J zh .ret K) (J zh (.exit 0) K)
def abN:=dR QA k8 Bh.c Bh.v
def aiu:FO 126 abN:=fq (E:=agz) (aJ NR (aJ aeV (aJ aaS (aJ Tw a6)))) func126 (it:=Z3) (λN=>bh (Xe N) bC) Bh.b Bh.vo
def alD:Fn [.S,.S,.I,.I,.I,.S] As:=λa b c d e f=>[aV [.s a,.s b,.n c,.n d,.n e],.fb [.s f]]
def abT:=dR alD k8 (ct _) Ip.v
def aiB:FO 137 abT:=ft (E:=E8) a6 func137 Ip.b λ(a,b,c,d,e,f,_)=>Ip.eu _ a b c d e f
def agE:=en [(137,abT)] [(2,[0,1,4,7,8])]
def alC:Fn [.R,.S] As:=λa b=>[aH 127 a,.v false [.fn 137 [[.s b]]]]
def zk:Fn [.R,.S,.I,.I,.I] Tb:=λa b c d e=>[cH 0 127 a,cA 2 (.fn 137 [[.s b]]),cI 8 c,cI 14 d,cI 16 e]
def QT(N:Nat)(K:Kt R):=qV.l2 N (J zk .ret K) (J zk (.exit 0) K)
def Z8(N:Nat):It R:=lp 2 (al zk (λK=>QT N K N) an) ln
def Xk(N:Nat):b0 agE (Z8 N (R:=R)) (bM f136 2):=lq 2 zk (QT N) λK g=>qV.r2 N g (J zk .ret K) (J zk (.exit 0) K)
def abS:=dR alC yk qV.c qV.v
def aiA:FO 136 abS:=fq (E:=agE) (aJ aiB a6) func136 (it:=Z8) (λN=>bh (Xk N) bC) qV.b qV.vo
def E83:=en [(136,abS)] []
def afm:=dR af7 yk Kn.c Kn.v
def ajw:FO 83 afm:=fr (E:=E83) (aJ aiA a6) func83 Kn.b Kn.vo
def agP:=en [(83,afm)] [(2,[1,2,6,7,8])]
def oi:Fn [.B,.R,.I,.I,.I,.R,.R,.R,.R,.I,.R,.R,.I] Tb:=λa b c d e f g h i j k l m=>[cP 2 0,cA 4 (.b a),cH 12 127 b,cI 14 c,cI 16 d,oB 1 [.n e,.sh 51 f,.sh 9 g,.sh 9 h,.sh 45 i,.n j,.sh 127 k,.sh 55 l,.n m]]
def Rf(N:Nat)(K:Kt R):=xK.l2 N (J oi .ret K) (J oi (.exit 0) K)
def aaj(N:Nat):It R:=lp 2 (al oi (λK=>Rf N K N) an) ln
def XJ(N:Nat):b0 agP (aaj N (R:=R)) (bM f186 2):=lq 2 oi (Rf N) λK g=>xK.r2 N g (J oi .ret K) (J oi (.exit 0) K)
def ab_:=dR QA k8 xK.c xK.v
def aiS:FO 186 ab_:=fq (E:=agP) (aJ ajw a6) func186 (it:=aaj) (λN=>bh (XJ N) bC) xK.b xK.vo
def agA:=en [(77,LP),(50,tr),(186,ab_)] [(2,[1,2,6,7,8])]
def QO(N:Nat)(K:Kt R):=zN.l2 N (J oi .ret K) (J oi (.exit 0) K)
def Z4(N:Nat):It R:=lp 2 (al oi (λK=>QO N K N) an) ln
def Xf(N:Nat):b0 agA (Z4 N (R:=R)) (bM f127 2):=lq 2 oi (QO N) λK g=>zN.r2 N g (J oi .ret K) (J oi (.exit 0) K)
def abO:=dR QA k8 zN.c zN.v
def aiv:FO 127 abO:=fq (E:=agA) (aJ PI (aJ qN (aJ aiS a6))) func127 (it:=Z4) (λN=>bh (Xf N) bC) zN.b zN.vo
def agB:=en [(50,tr),(77,LP)] [(2,[1,2,6,7,8])]
def zi:Fn [.B,.R,.I,.I,.I,.R,.R,.R,.R,.I,.R,.R,.I] Tb:=λa b c d e f g h i j k l m=>[cP 2 0,cA 4 (.b a),cH 12 55 b,cI 14 c,cI 16 d,oB 1 [.n e,.sh 51 f,.sh 9 g,.sh 9 h,.sh 45 i,.n j,.sh 127 k,.sh 55 l,.n m]]
def QP(N:Nat)(K:Kt R):=Bi.l2 N (J zi .ret K) (J zi (.exit 0) K)
def Z5(N:Nat):It R:=lp 2 (al zi (λK=>QP N K N) an) ln
def Xg(N:Nat):b0 agB (Z5 N (R:=R)) (bM f128 2):=lq 2 zi (QP N) λK g=>Bi.r2 N g (J zi .ret K) (J zi (.exit 0) K)
def abP:=dR QA k8 Bi.c Bi.v
def aiw:FO 128 abP:=fq (E:=agB) (aJ qN (aJ PI a6)) func128 (it:=Z5) (λN=>bh (Xg N) bC) Bi.b Bi.vo
def E76:=en [(50,tr),(126,abN),(127,abO),(128,abP),(129,N4)] []
def afk:=dR QA k8 OW.c OW.v
def aju:FO 76 afk:=fr (E:=E76) (aJ qN (aJ aiu (aJ aiv (aJ aiw (aJ Ts a6))))) func76 OW.b OW.vo
def A97:Fn [.I,.S,.I,.I,.I,.S,.I,.I] As:=λa b c d e f g h=>[aV [.n a,.s b,.n c,.n d,.n e,.s f,.n g],.fb [.n h]]
def akF:=dR A97 k8 (ct _) U97.v
def an9:FO 97 akF:=ft (E:=E8) a6 func97 U97.b λ(a,b,c,d,e,f,g,h,_)=>U97.eu _ a b c d e f g h
def ag':=en [(97,akF)] [(2,[0,1,4,7,8])]
def alS:Fn [.R,.I] As:=λa b=>[aH 55 a,.v false [.fn 97 [[.n b]]]]
def ani:Fn [.I] iO:=λa=>⟨[aI a],[]⟩
def zL:Fn [.R,.I,.I,.I,.I] Tb:=λa b c d e=>[cH 0 55 a,cA 2 (.fn 97 [[.n b]]),cI 8 c,cI 14 d,cI 16 e]
def RZ(N:Nat)(K:Kt R):=zQ.l2 N (J zL .ret K) (J zL (.exit 0) K)
def aaF(N:Nat):It R:=lp 2 (al zL (λK=>RZ N K N) an) ln
def Yn(N:Nat):b0 ag' (aaF N (R:=R)) (bM f96 2):=lq 2 zL (RZ N) λK g=>zQ.r2 N g (J zL .ret K) (J zL (.exit 0) K)
def UX:=dR alS ani zQ.c zQ.v
def abo:FO 96 UX:=fq (E:=ag') (aJ an9 a6) func96 (it:=aaF) (λN=>bh (Yn N) bC) zQ.b zQ.vo
def afq:=dR A97 k8 (ct _) VC.v
def ajA:FO 99 afq:=ft (E:=E8) a6 func99 VC.b λ(a,b,c,d,e,f,g,h,_)=>VC.eu _ a b c d e f g h
def aha:=en [(99,afq)] [(2,[0,1,4,7,8])]
def alT:Fn [.R,.I] As:=λa b=>[aH 55 a,.v false [.fn 99 [[.n b]]]]
def anj:Fn [.I] iO:=λa=>⟨[aI a],[]⟩
def zM:Fn [.R,.I,.I,.I,.I] Tb:=λa b c d e=>[cH 0 55 a,cA 2 (.fn 99 [[.n b]]),cI 8 c,cI 14 d,cI 16 e]
def R0(N:Nat)(K:Kt R):=vv.l2 N (J zM .ret K) (J zM (.exit 0) K)
def aaG(N:Nat):It R:=lp 2 (al zM (λK=>R0 N K N) an) ln
def Yo(N:Nat):b0 aha (aaG N (R:=R)) (bM f96 2):=lq 2 zM (R0 N) λK g=>vv.r2 N g (J zM .ret K) (J zM (.exit 0) K)
def UY:=dR alT anj vv.c vv.v
def abp:FO 96 UY:=fq (E:=aha) (aJ ajA a6) func96 (it:=aaG) (λN=>bh (Yo N) bC) vv.b vv.vo
def E57:=en [(96,UX),(96,UY)] []
def afh:=dR DV yk OV.c OV.v
def ajr:FO 57 afh:=fr (E:=E57) (aJ abo (aJ abp a6)) func57 OV.b OV.vo
def A79:Fn [.S,.I,.I,.S,.S] As:=λa b c d e=>[aV [.s a,.n b,.n c,.s d],.fb [.s e]]
def akx:=dR A79 k8 (ct _) U79.v
def an1:FO 79 akx:=ft (E:=E8) a6 func79 U79.b λ(a,b,c,d,e,_)=>U79.eu _ a b c d e
def ag9:=en [(79,akx)] [(2,[0,1,4,7,8])]
def alQ:Fn [.R,.S] As:=λa b=>[aH 51 a,.v false [.fn 79 [[.s b]]]]
def ang:Fn [.I] iO:=λa=>⟨[aI a],[]⟩
def zJ:Fn [.R,.S,.I,.I,.I] Tb:=λa b c d e=>[cH 0 51 a,cA 2 (.fn 79 [[.s b]]),cI 8 c,cI 14 d,cI 16 e]
def RV(N:Nat)(K:Kt R):=xP.l2 N (J zJ .ret K) (J zJ (.exit 0) K)
def aaD(N:Nat):It R:=lp 2 (al zJ (λK=>RV N K N) an) ln
def Yj(N:Nat):b0 ag9 (aaD N (R:=R)) (bM f78 2):=lq 2 zJ (RV N) λK g=>xP.r2 N g (J zJ .ret K) (J zJ (.exit 0) K)
def UU:=dR alQ ang xP.c xP.v
def abm:FO 78 UU:=fq (E:=ag9) (aJ an1 a6) func78 (it:=aaD) (λN=>bh (Yj N) bC) xP.b xP.vo
def Ur:=dR A79 k8 (ct _) D5.v
def aaU:FO 139 Ur:=ft (E:=E8) a6 func139 D5.b λ(a,b,c,d,e,_)=>D5.eu _ a b c d e
def ag_:=en [(139,Ur)] [(2,[0,1,4,7,8])]
def alR:Fn [.R,.S] As:=λa b=>[aH 51 a,.v false [.fn 139 [[.s b]]]]
def anh:Fn [.I] iO:=λa=>⟨[aI a],[]⟩
def zK:Fn [.R,.S,.I,.I,.I] Tb:=λa b c d e=>[cH 0 51 a,cA 2 (.fn 139 [[.s b]]),cI 8 c,cI 14 d,cI 16 e]
def RW(N:Nat)(K:Kt R):=vu.l2 N (J zK .ret K) (J zK (.exit 0) K)
def aaE(N:Nat):It R:=lp 2 (al zK (λK=>RW N K N) an) ln
def Yk(N:Nat):b0 ag_ (aaE N (R:=R)) (bM f78 2):=lq 2 zK (RW N) λK g=>vu.r2 N g (J zK .ret K) (J zK (.exit 0) K)
def UW:=dR alR anh vu.c vu.v
def abn:FO 78 UW:=fq (E:=ag_) (aJ aaU a6) func78 (it:=aaE) (λN=>bh (Yk N) bC) vu.b vu.vo
def E80:=en [(130,JJ),(129,N4),(50,tr)] []
def YL:=dR af8 k8 (ct _) EJ.v
def aeS:FO 80 YL:=ft (E:=E80) (aJ NR (aJ Ts (aJ qN a6))) func80 EJ.b λ(a,b,c,d,e,_)=>EJ.eu _ a b c d e
def ac_:=en [] [(2,[0,1,5]),(6,[0,1,5,19])]
def GA:Fn [.I,.S,.I,.I] Tb:=λa b c d=>[cA 0 (.i .u32 a),cA 2 (.s b),cI 10 c,cI 38 d]
def RC(N:Nat)(K:Kt R):=xN.l2 N (J tM (.exit 0) K)
def RD(N:Nat)(K:Kt R):=xN.l6 N (J GA (.exit 2) K)
def S1(N:Nat):It R:=lp 2 (al tM (λK=>RC N K N) an) (lp 6 (al GA (λK=>RD N K N) an) ln)
def X6(N:Nat):b0 ac_ (S1 N (R:=R)) (bM f242 2):=lq 2 tM (RC N) λK g=>xN.r2 N g (J tM (.exit 0) K)
def X7(N:Nat):b0 ac_ (S1 N (R:=R)) (bM f242 6):=lq 6 GA (RD N) λK g=>xN.r6 N g (J GA (.exit 2) K)
def acw:=dR agq W1 xN.c xN.v
def ajc:FO 242 acw:=fq (E:=ac_) a6 func242 (it:=S1) (λN=>bh (X6 N) (bh (X7 N) bC)) xN.b xN.vo
def amg:=en [(242,acw)] []
def acd:=dR pd W1 vq.c vq.v
def aa8:FO 193 acd:=fr (E:=amg) (aJ ajc a6) func193 vq.b vq.vo
def agG:=en [(193,acd)] []
def Ut:=dR agi yk tO.c tO.v
def aaW:FO 142 Ut:=fr (E:=agG) (aJ aa8 a6) func142 tO.b tO.vo
def E86:=en [(140,Us),(141,N6),(142,Ut)] [(5,[1,4,5,19,20,21]),(15,[4,5,49,50,51]),(18,[4,5,10,49,50,51,56,57])]
def MO:Fn [.S,.I,.I,.I,.I,.R] Tb:=λa b c d e f=>[cA 2 (.s a),cP 8 0,cP 10 1,cA 38 (.own 2),cI 40 b,cI 42 c,oB 1 [.nl,.n d],oB 3 [.own 2,.n e],oR 5 45 f]
def GK:Fn [.I,.I,.I,.I,.R] Tb:=λa b c d e=>[cP 8 0,cP 10 1,cA 98 (.own 2),cI 100 a,cI 102 b,oB 1 [.nl,.n c],oB 3 [.own 2,.n d],oR 5 45 e]
def GL:Fn [.N,.I,.I,.I,.I,.I,.I,.R] Tb:=λa b c d e f g h=>[cP 8 0,cP 10 1,cA 20 (.mK 2 a 0),cA 98 (.own 2),cI 100 b,cI 102 c,cI 112 d,cI 114 e,oB 1 [.nl,.n f],oB 3 [.own 2,.n g],oR 5 45 h]
def Zx(N:Nat)(K:Kt R):=oH.l5 N (J MO (.exit 0) K)
def RX(N:Nat)(K:Kt R):=oH.l15 N (J GK (.exit 2) K)
def RY(N:Nat)(K:Kt R):=oH.l18 N (J GL (.exit 4) K)
def WV(N:Nat):It R:=lp 5 (al MO (λK=>Zx N K N) an) (lp 15 (al GK (λK=>RX N K N) an) (lp 18 (al GL (λK=>RY N K N) an) ln))
def aeI(N:Nat):b0 E86 (WV N (R:=R)) (bM f86 5):=lq 5 MO (Zx N) λK g=>oH.r5 N g (J MO (.exit 0) K)
def Yl(N:Nat):b0 E86 (WV N (R:=R)) (bM f86 15):=lq 15 GK (RX N) λK g=>oH.r15 N g (J GK (.exit 2) K)
def Ym(N:Nat):b0 E86 (WV N (R:=R)) (bM f86 18):=lq 18 GL (RY N) λK g=>oH.r18 N g (J GL (.exit 4) K)
def afn:=dR VK Pv oH.c oH.v
def ajx:FO 86 afn:=fq (E:=E86) (aJ aaV (aJ Tv (aJ aaW a6))) func86 (it:=WV) (λN=>bh (aeI N) (bh (Yl N) (bh (Ym N) bC))) oH.b oH.vo
def alH:Fn [.S,.S] As:=λa b=>[aS a,.fb [.s b]]
def UE:=dR alH k8 (ct _) D8.v
def aa7:FO 189 UE:=ft (E:=E8) a6 func189 D8.b λ(a,b,_)=>D8.eu _ a b
def ag3:=en [(189,UE)] [(2,[0,1,4,7,8])]
def alL:Fn [.R,.S] As:=λa b=>[aH 9 a,.v false [.fn 189 [[.s b]]]]
def zG:Fn [.R,.S,.I,.I,.I] Tb:=λa b c d e=>[cH 0 9 a,cA 2 (.fn 189 [[.s b]]),cI 8 c,cI 14 d,cI 16 e]
def RB(N:Nat)(K:Kt R):=vt.l2 N (J zG .ret K) (J zG (.exit 0) K)
def aax(N:Nat):It R:=lp 2 (al zG (λK=>RB N K N) an) ln
def X5(N:Nat):b0 ag3 (aax N (R:=R)) (bM f240 2):=lq 2 zG (RB N) λK g=>vt.r2 N g (J zG .ret K) (J zG (.exit 0) K)
def acv:=dR alL yk vt.c vt.v
def ajb:FO 240 acv:=fq (E:=ag3) (aJ aa7 a6) func240 (it:=aax) (λN=>bh (X5 N) bC) vt.b vt.vo
def agR:=en [(240,acv),(189,UE)] [(5,[0,1,5,6])]
def alG:Fn [.R,.S] As:=λa b=>[aO 9 a,.v false [.fn 189 [[.s b]]]]
def anb:Fn [.R] iO:=λa=>⟨[aO 9 a],[[.nl]]⟩
def Gn:Fn [.S,.I,.I,.R] Tb:=λa b c d=>[cA 0 (.own 900000000),cA 2 (.fn 189 [[.s a]]),cI 10 b,cI 12 c,oR 1800000001 9 d]
def Rh(N:Nat)(K:Kt R):=xL.l5 N (J Gn (.exit 0) K)
def aal(N:Nat):It R:=lp 5 (al Gn (λK=>Rh N K N) an) ln
def XL(N:Nat):b0 agR (aal N (R:=R)) (bM f188 5):=lq 5 Gn (Rh N) λK g=>xL.r5 N g (J Gn (.exit 0) K)
def aca:=dR alG anb xL.c xL.v
def aiU:FO 188 aca:=fq (E:=agR) (aJ ajb (aJ aa7 a6)) func188 (it:=aal) (λN=>bh (XL N) bC) xL.b xL.vo
def al3:=en [(185,UD),(188,aca)] []
def Uq:=dR Qy K7 ki.c ki.v
def aaT:FO 133 Uq:=fr (E:=al3) (aJ aa6 (aJ aiU a6)) func133 ki.b ki.vo
def agD:=en [(141,N6),(142,Ut)] [(5,[1,5,12,13,14])]
def Ga:Fn [.S,.I,.R,.I,.I] Tb:=λa b c d e=>[cA 2 (.s a),cI 10 b,cH 24 45 c,cI 26 d,cI 28 e]
def QS(N:Nat)(K:Kt R):=wg.l5 N (J Ga (.exit 0) K)
def Z7(N:Nat):It R:=lp 5 (al Ga (λK=>QS N K N) an) ln
def Xj(N:Nat):b0 agD (Z7 N (R:=R)) (bM f134 5):=lq 5 Ga (QS N) λK g=>wg.r5 N g (J Ga (.exit 0) K)
def abQ:=dR VK yk wg.c wg.v
def aiy:FO 134 abQ:=fq (E:=agD) (aJ Tv (aJ aaW a6)) func134 (it:=Z7) (λN=>bh (Xj N) bC) wg.b wg.vo
def E81:=en [(125,N3),(131,Up),(77,LP),(86,afn),(132,N5),(133,Uq),(134,abQ)] []
def afl:=dR OE ahU OY.c OY.v
def ajv:FO 81 afl:=fr (E:=E81) (aJ Tq (aJ aaS (aJ PI (aJ ajx (aJ Tt (aJ aaT (aJ aiy a6))))))) func81 OY.b OY.vo
def ae4:Go.Shelf.Ren:=⟨λn=>bif Nat.beq n 22 then 135 else bif Nat.beq n 29 then 190 else 191,λn=>bif Nat.beq n 24 then 39 else bif Nat.beq n 9 then 55 else bif Nat.beq n 3 then 3 else bif Nat.beq n 4 then 4 else n,λn=>n⟩
def abR:List gD->Option (Bool×iO):=Ins.yj 55 72
def adZ:Ins.L Tryz.prog ae4 "slices.Insert[[]loop.example/g00245/impl.Client,loop.example/g00245/impl.Client]" 7 where
 mixed:=hM
 f22:=func135.trans (by kernel_rfl)
 t3:=by kernel_rfl
 a3:=Ins.kB (P:=Tryz.prog) (t:=3) (d:=.int .i64) (by kernel_rfl) rfl
 t4:=by kernel_rfl
 a4:=Ins.kB (P:=Tryz.prog) (t:=4) (d:=.bool) (by kernel_rfl) rfl
 t24:=by kernel_rfl
 a24:=Ins.kB (P:=Tryz.prog) (t:=39) (d:=.slice 55) (by kernel_rfl) rfl
 z9:=Ins.Ca hE (t:=55) (ti:=⟨true,[.i .i64,.s,.i .i64,.i .i64,.i .i64,.s,.i .i64],72⟩) (by kernel_rfl)
def aiz:FO 135 abR:=
 Ins.z6 (e:=55) (te:=⟨true,[.i .i64,.s,.i .i64,.i .i64,.i .i64,.s,.i .i64],72⟩) (by kernel_rfl) rfl (by kernel_rfl) hE adZ
  (λargs w=>run_callFunc_extern (e:=Extern.SlicesOverlaps.overlaps #[39,39] #[4]) func190 (by kernel_rfl) (by kernel_rfl) (by kernel_rfl) (by kernel_rfl) args w)
  ⟨_,func135,by kernel_rfl,by kernel_rfl⟩
def E82:=en [(135,abR)] [(2,[0,3,4])]
def A82:Fn [.I,.R,.R,.R,.R,.I,.R,.R,.I,.I,.S,.I,.I,.I,.S,.I] As:=λa b c d e f g h i j k l m o p q=>[.pt [.n a,.ow 51 true b,.ow 9 true c,.ow 9 true d,.ow 45 true e,.n f,.ow 127 true g,.ow 55 true h,.n i],aV [.n j,.s k,.n l,.n m,.n o,.s p,.n q]]
def k82:Fn [.I,.R,.R,.R,.R,.I,.R,.R,.I] iO:=λa b c d e f g h i=>⟨[],[[.n a,.kp b,.kp c,.kp d,.kp e,.n f,.kp g,.ow 55 true h,.n i]]⟩
def MN:Fn [.I,.I,.I,.I,.I,.S,.I,.I,.I,.S,.I,.R,.R,.R,.R,.R,.R] Tb:=λa b c d e f g h i j k l m o p q r=>[cP 0 900000900,cP 6 1,cI 8 a,oB 1800001801 [.n b,.own 900000001,.own 900000002,.own 900000003,.own 900000004,.n c,.own 900000006,.own 900000007,.n d],oB 3 [.n e,.s f,.n g,.n h,.n i,.s j,.n k],oR 1800000003 51 l,oR 1800000005 9 m,oR 1800000007 9 o,oR 1800000009 45 p,oR 1800000013 127 q,oR 1800000015 55 r]
def Zw(N:Nat)(K:Kt R):=qg.l2 N (J MN (.exit 0) K)
def ahM(N:Nat):It R:=lp 2 (al MN (λK=>Zw N K N) an) ln
def aeH(N:Nat):b0 E82 (ahM N (R:=R)) (bM f82 2):=lq 2 MN (Zw N) λK g=>qg.r2 N g (J MN (.exit 0) K)
def aky:=dR A82 k82 qg.c qg.v
def an2:FO 82 aky:=fq (E:=E82) (aJ aiz a6) func82 (it:=ahM) (λN=>bh (aeH N) bC) qg.b qg.vo
def agF:=en [(78,UU),(78,UW),(139,Ur)] [(5,[0,1,5,6])]
def alE:Fn [.R,.S] As:=λa b=>[aO 51 a,.v false [.fn 139 [[.s b]]]]
def am':Fn [.R] iO:=λa=>⟨[aO 51 a],[[.nl]]⟩
def Gb:Fn [.S,.I,.I,.R] Tb:=λa b c d=>[cA 0 (.own 900000000),cA 2 (.fn 139 [[.s a]]),cI 10 b,cI 12 c,oR 1800000001 51 d]
def QU(N:Nat)(K:Kt R):=pr.l5 N (J Gb (.exit 0) K)
def Z9(N:Nat):It R:=lp 5 (al Gb (λK=>QU N K N) an) ln
def Xl(N:Nat):b0 agF (Z9 N (R:=R)) (bM f138 5):=lq 5 Gb (QU N) λK g=>pr.r5 N g (J Gb (.exit 0) K)
def abU:=dR alE am' pr.c pr.v
def aiC:FO 138 abU:=fq (E:=agF) (aJ abm (aJ abn (aJ aaU a6))) func138 (it:=Z9) (λN=>bh (Xl N) bC) pr.b pr.vo
def E84:=en [(124,Uo),(138,abU)] []
def YM:=dR af9 K6 DQ.c DQ.v
def aeT:FO 84 YM:=fr (E:=E84) (aJ aaR (aJ aiC a6)) func84 DQ.b DQ.vo
def E85:=en [(125,N3),(133,Uq)] []
def akz:=dR OE k66 J4.c J4.v
def an3:FO 85 akz:=fr (E:=E85) (aJ Tq (aJ aaT a6)) func85 J4.b J4.vo
def E52:=en [(75,LO),(76,afk),(50,tr),(77,LP),(57,afh),(78,UU),(78,UW),(80,YL),(81,afl),(82,aky),(83,afm),(84,YM),(85,akz),(86,afn)] []
def aki:=dR VJ ahT Qo.c Qo.v
def anM:FO 52 aki:=fr (E:=E52) (aJ PH (aJ aju (aJ qN (aJ PI (aJ ajr (aJ abm (aJ abn (aJ aeS (aJ ajv (aJ an2 (aJ ajw (aJ aeT (aJ an3 (aJ ajx a6)))))))))))))) func52 Qo.b Qo.vo
def E87:=en [(76,afk),(50,tr)] []
def YN:=dR DV k8 J5.c J5.v
def aeU:FO 87 YN:=fr (E:=E87) (aJ aju (aJ qN a6)) func87 J5.b J5.vo
def abV:=dR VM ahX Kh.c Kh.v
def aiD:FO 143 abV:=fh (E:=E8) a6 func143 (it:=λ_=>ln) (λ_=>bC) (λ_=>Kh.b) λx f h=>⟨0,Kh.eu _ x.1 x.2.1 x.2.2.1 h⟩
def VR:=en [(50,tr)] [(2,[1,2,6,7,8])]
def zo:Fn [.B,.R,.I,.I,.I,.S,.R] Tb:=λa b c d e f g=>[cP 2 0,cA 4 (.b a),cH 12 219 b,cI 14 c,cI 16 d,oB 1 [.n e,.s f,.sh 219 g]]
def QY(N:Nat)(K:Kt R):=Iq.l2 N (J zo .ret K) (J zo (.exit 0) K)
def Z_(N:Nat):It R:=lp 2 (al zo (λK=>QY N K N) an) ln
def Xp(N:Nat):b0 VR (Z_ N (R:=R)) (bM f144 2):=lq 2 zo (QY N) λK g=>Iq.r2 N g (J zo .ret K) (J zo (.exit 0) K)
def abW:=dR VM k8 (ct _) Iq.v
def aiE:FO 144 abW:=fh (E:=VR) (aJ qN a6) func144 (it:=Z_) (λN=>bh (Xp N) bC) Iq.b λx f h=>Iq.eu _ x.1 x.2.1 x.2.2.1 f.1.2.1 f.1.2.2.1
def E88:=en [(143,abV),(144,abW),(50,tr)] []
def akA:=dR af_ ahV V'.c V'.v
def an4:FO 88 akA:=fh (E:=E88) (aJ aiD (aJ aiE (aJ qN a6))) func88 (it:=λ_=>ln) (λ_=>bC) (λ_=>V'.b) λx f h=>⟨0,V'.eu _ x.1 x.2.1 x.2.2.1 x.2.2.2.1 h f.1.2.1 f.1.2.2.1 f.2.1.1⟩
def E89:=en [] [(1,[0,1,9,10,11])]
def A89:Fn [.I,.R,.R,.R,.R,.I,.R,.R,.I,.I] As:=λa b c d e f g h i j=>[.pt [.n a,.ow 51 true b,.ow 9 true c,.ow 9 true d,.ow 45 true e,.n f,.ow 127 true g,.ow 55 true h,.n i],aI j]
def MP:Fn [.I,.I,.I,.I,.I,.I,.R,.R,.R,.R,.R,.R] Tb:=λa b c d e f g h i j k l=>[cP 0 900000900,cI 2 a,cA 18 (.own 900000007),cI 20 b,cI 22 c,oB 1800001801 [.n d,.own 900000001,.own 900000002,.own 900000003,.own 900000004,.n e,.own 900000006,.own 900000007,.n f],oR 1800000015 55 g,oR 1800000003 51 h,oR 1800000005 9 i,oR 1800000007 9 j,oR 1800000009 45 k,oR 1800000013 127 l]
def Zy(N:Nat)(K:Kt R):=Qq.l1 N (J MP (.exit 0) K)
def ahN(N:Nat):It R:=lp 1 (al MP (λK=>Zy N K N) an) ln
def aeJ(N:Nat):b0 E89 (ahN N (R:=R)) (bM f89 1):=lq 1 MP (Zy N) λK g=>Qq.r1 N g (J MP (.exit 0) K)
def akB:=dR A89 ad' Qq.c Qq.v
def an5:FO 89 akB:=fq (E:=E89) a6 func89 (it:=ahN) (λN=>bh (aeJ N) bC) Qq.b Qq.vo
def E53:=en [(75,LO),(87,YN),(88,akA),(89,akB)] []
def akj:=dR VJ Pw Vv.c Vv.v
def anN:FO 53 akj:=fr (E:=E53) (aJ PH (aJ aeU (aJ an4 (aJ an5 a6)))) func53 Vv.b Vv.vo
def E94:=en [] [(1,[0,1,2,11,12,13])]
def MR:Fn [.I,.I,.I,.I,.I,.I,.I,.R,.R,.R,.R,.R,.R] Tb:=λa b c d e f g h i j k l m=>[cP 0 900000900,cI 2 a,cI 4 b,cA 22 (.own 900000007),cI 24 c,cI 26 d,oB 1800001801 [.n e,.own 900000001,.own 900000002,.own 900000003,.own 900000004,.n f,.own 900000006,.own 900000007,.n g],oR 1800000015 55 h,oR 1800000003 51 i,oR 1800000005 9 j,oR 1800000007 9 k,oR 1800000009 45 l,oR 1800000013 127 m]
def ZA(N:Nat)(K:Kt R):=Kp.l1 N (J MR (.exit 0) K)
def ahP(N:Nat):It R:=lp 1 (al MR (λK=>ZA N K N) an) ln
def aeL(N:Nat):b0 E94 (ahP N (R:=R)) (bM f94 1):=lq 1 MR (ZA N) λK g=>Kp.r1 N g (J MR (.exit 0) K)
def afp:=dR af' ad' Kp.c Kp.v
def ajz:FO 94 afp:=fq (E:=E94) a6 func94 (it:=ahP) (λN=>bh (aeL N) bC) Kp.b Kp.vo
def ae5:Go.Shelf.Ren:=⟨λn=>bif Nat.beq n 22 then 204 else bif Nat.beq n 29 then 251 else 252,λn=>bif Nat.beq n 24 then 31 else bif Nat.beq n 9 then 51 else bif Nat.beq n 3 then 3 else bif Nat.beq n 4 then 4 else n,λn=>n⟩
def ack:List gD->Option (Bool×iO):=Ins.yj 51 48
def ad0:Ins.L Tryz.prog ae5 "slices.Insert[[]loop.example/g00245/impl.Entry,loop.example/g00245/impl.Entry]" 4 where
 mixed:=hM
 f22:=func204.trans (by kernel_rfl)
 t3:=by kernel_rfl
 a3:=Ins.kB (P:=Tryz.prog) (t:=3) (d:=.int .i64) (by kernel_rfl) rfl
 t4:=by kernel_rfl
 a4:=Ins.kB (P:=Tryz.prog) (t:=4) (d:=.bool) (by kernel_rfl) rfl
 t24:=by kernel_rfl
 a24:=Ins.kB (P:=Tryz.prog) (t:=31) (d:=.slice 51) (by kernel_rfl) rfl
 z9:=Ins.Ca hE (t:=51) (ti:=⟨true,[.s,.i .i64,.i .i64,.s],48⟩) (by kernel_rfl)
def ai4:FO 204 ack:=
 Ins.z6 (e:=51) (te:=⟨true,[.s,.i .i64,.i .i64,.s],48⟩) (by kernel_rfl) rfl (by kernel_rfl) hE ad0
  (λargs w=>run_callFunc_extern (e:=Extern.SlicesOverlaps.overlaps #[31,31] #[4]) func251 (by kernel_rfl) (by kernel_rfl) (by kernel_rfl) (by kernel_rfl) args w)
  ⟨_,func204,by kernel_rfl,by kernel_rfl⟩
def agI:=en [(84,YM),(204,ack)] [(3,[3,5,6])]
def Gd:Fn [.I,.S,.I,.I,.S,.R] Tb:=λa b c d e f=>[cP 6 0,cA 10 (.own 1),cI 12 a,oB 1 [.s b,.n c,.n d,.s e],oR 3 51 f]
def Q1(N:Nat)(K:Kt R):=vk.l3 N (J Gd (.exit 0) K)
def aab(N:Nat):It R:=lp 3 (al Gd (λK=>Q1 N K N) an) ln
def Xt(N:Nat):b0 agI (aab N (R:=R)) (bM f154 3):=lq 3 Gd (Q1 N) λK g=>vk.r3 N g (J Gd (.exit 0) K)
def Ux:=dR agl K6 vk.c vk.v
def aa0:FO 154 Ux:=fq (E:=agI) (aJ aeT (aJ ai4 a6)) func154 (it:=aab) (λN=>bh (Xt N) bC) vk.b vk.vo
def al4:=en [(81,afl),(84,YM),(91,YO),(154,Ux)] []
def Uu:=dR agj ahY zO.c zO.v
def aaX:FO 145 Uu:=fr (E:=al4) (aJ ajv (aJ aeT (aJ aeV (aJ aa0 a6)))) func145 zO.b zO.vo
def E90:=en [(75,LO),(87,YN),(50,tr),(94,afp),(145,Uu)] []
def akC:=dR agb Pw VB.c VB.v
def an6:FO 90 akC:=fr (E:=E90) (aJ PH (aJ aeU (aJ qN (aJ ajz (aJ aaX a6))))) func90 VB.b VB.vo
def ag4:=en [(50,tr)] [(4,[0,4])]
def GC:Fn [.I,.R] Tb:=λa b=>[cI 0 a,cA 8 (.own 0),oR 1 5 b]
def RE(N:Nat)(K:Kt R):=n6.l4 N (J GC (.exit 0) K)
def aay(N:Nat):It R:=lp 4 (al GC (λK=>RE N K N) an) ln
def X8(N:Nat):b0 ag4 (aay N (R:=R)) (bM f245 4):=lq 4 GC (RE N) λK g=>n6.r4 N g (J GC (.exit 0) K)
def Og:=dR FJ Hc (ct _) n6.v
def TH:FO 245 Og:=fh (E:=ag4) (aJ qN a6) func245 (it:=aay) (λN=>bh (X8 N) bC) n6.b λx f h=>n6.eu _ x.1
def amu:=en [(245,Og)] []
def acy:=dR pd Hc (ct _) Ea.v
def aje:FO 244 acy:=fh (E:=amu) (aJ TH a6) func244 (it:=λ_=>ln) (λ_=>bC) (λ_=>Ea.b) λx f h=>⟨0,Ea.eu _ x.1⟩
def amh:=en [(130,JJ),(244,acy),(245,Og)] []
def acf:=dR J' Hc (ct _) D9.v
def aiY:FO 195 acf:=fh (E:=amh) (aJ NR (aJ aje (aJ TH a6))) func195 (it:=λ_=>ln) (λ_=>bC) (λ_=>D9.b) λx f h=>⟨0,D9.eu _ x.1 x.2.1 x.2.2.1 x.2.2.2.1⟩
def UH:=dR pd uj vr.c vr.v
def aa':FO 202 UH:=fr (E:=agG) (aJ aa8 a6) func202 vr.b vr.vo
def ami:=en [(50,tr),(245,Og),(202,UH)] []
def acg:=dR pd Hc Cu.c Cu.v
def aiZ:FO 196 acg:=fr (E:=ami) (aJ qN (aJ TH (aJ aa' a6))) func196 Cu.b Cu.vo
def al6:=en [(195,acf),(196,acg)] []
def Uv:=dR J' Hc mP.c mP.v
def aaY:FO 147 Uv:=fr (E:=al6) (aJ aiY (aJ aiZ a6)) func147 mP.b mP.vo
def E92:=en [(147,Uv)] []
def akD:=dR J' WZ J6.c J6.v
def an7:FO 92 akD:=fr (E:=E92) (aJ aaY a6) func92 J6.b J6.vo
def N8:=dR Qz S6 tP.c tP.v
def Tx:FO 148 N8:=fr (E:=E8) a6 func148 tP.b tP.vo
def ago:Fn [.S,.S,.I,.S] As:=λa b c d=>[aV [.s a,.s b,.n c],.fb [.s d]]
def acz:=dR ago k8 (ct _) Kl.v
def ajf:FO 247 acz:=ft (E:=E8) a6 func247 Kl.b λ(a,b,c,d,_)=>Kl.eu _ a b c d
def Y4:=en [(247,acz)] [(2,[0,1,4,7,8])]
def agm:Fn [.R,.S] As:=λa b=>[aH 189 a,.v false [.fn 247 [[.s b]]]]
def ah0:Fn [.I] iO:=λa=>⟨[aI a],[]⟩
def uL:Fn [.R,.S,.I,.I,.I] Tb:=λa b c d e=>[cH 0 189 a,cA 2 (.fn 247 [[.s b]]),cI 8 c,cI 14 d,cI 16 e]
def Mq(N:Nat)(K:Kt R):=sS.l2 N (J uL .ret K) (J uL (.exit 0) K)
def S2(N:Nat):It R:=lp 2 (al uL (λK=>Mq N K N) an) ln
def Tg(N:Nat):b0 Y4 (S2 N (R:=R)) (bM f246 2):=lq 2 uL (Mq N) λK g=>sS.r2 N g (J uL .ret K) (J uL (.exit 0) K)
def LL:=dR agm ah0 sS.c sS.v
def TJ:FO 246 LL:=fq (E:=Y4) (aJ ajf a6) func246 (it:=S2) (λN=>bh (Tg N) bC) sS.b sS.vo
def UO:=dR ago k8 (ct _) Eb.v
def abg:FO 250 UO:=ft (E:=E8) a6 func250 Eb.b λ(a,b,c,d,_)=>Eb.eu _ a b c d
def Y5:=en [(250,UO)] [(2,[0,1,4,7,8])]
def agn:Fn [.R,.S] As:=λa b=>[aH 189 a,.v false [.fn 250 [[.s b]]]]
def ah1:Fn [.I] iO:=λa=>⟨[aI a],[]⟩
def uM:Fn [.R,.S,.I,.I,.I] Tb:=λa b c d e=>[cH 0 189 a,cA 2 (.fn 250 [[.s b]]),cI 8 c,cI 14 d,cI 16 e]
def Mr(N:Nat)(K:Kt R):=oG.l2 N (J uM .ret K) (J uM (.exit 0) K)
def S3(N:Nat):It R:=lp 2 (al uM (λK=>Mr N K N) an) ln
def Th(N:Nat):b0 Y5 (S3 N (R:=R)) (bM f246 2):=lq 2 uM (Mr N) λK g=>oG.r2 N g (J uM .ret K) (J uM (.exit 0) K)
def LM:=dR agn ah1 oG.c oG.v
def TK:FO 246 LM:=fq (E:=Y5) (aJ abg a6) func246 (it:=S3) (λN=>bh (Th N) bC) oG.b oG.vo
def amj:=en [(246,LL),(246,LM)] []
def UF:=dR OG yk iy.c iy.v
def aa9:FO 197 UF:=fr (E:=amj) (aJ TJ (aJ TK a6)) func197 iy.b iy.vo
def zr:Fn [.B,.R,.I,.I,.R] Tb:=λa b c d e=>[cP 2 0,cA 4 (.b a),cH 12 189 b,cI 14 c,cI 16 d,oB 1 [.sh 189 e]]
def QZ(N:Nat)(K:Kt R):=kj.l2 N (J zr .ret K) (J zr (.exit 0) K)
def Z'(N:Nat):It R:=lp 2 (al zr (λK=>QZ N K N) an) ln
def Xq(N:Nat):b0 VR (Z' N (R:=R)) (bM f150 2):=lq 2 zr (QZ N) λK g=>kj.r2 N g (J zr .ret K) (J zr (.exit 0) K)
def JK:=dR Qz k8 kj.c kj.v
def NS:FO 150 JK:=fq (E:=VR) (aJ qN a6) func150 (it:=Z') (λN=>bh (Xq N) bC) kj.b kj.vo
def alK:Fn [.I,.S,.S,.S] As:=λa b c d=>[aV [.n a,.s b,.s c,.s d]]
def ach:=dR alK k8 (ct _) Kj.v
def ai0:FO 198 ach:=ft (E:=E27) (aJ qN a6) func198 Kj.b λ(a,b,c,d,_)=>Kj.eu _ a b c d
def ag5:=en [(246,LL),(246,LM),(250,UO)] [(5,[0,1,5,6])]
def alN:Fn [.R,.S] As:=λa b=>[aO 189 a,.v false [.fn 250 [[.s b]]]]
def anf:Fn [.R] iO:=λa=>⟨[aO 189 a],[[.nl]]⟩
def GD:Fn [.S,.I,.I,.R] Tb:=λa b c d=>[cA 0 (.own 900000000),cA 2 (.fn 250 [[.s a]]),cI 10 b,cI 12 c,oR 1800000001 189 d]
def RF(N:Nat)(K:Kt R):=xO.l5 N (J GD (.exit 0) K)
def aaz(N:Nat):It R:=lp 5 (al GD (λK=>RF N K N) an) ln
def X9(N:Nat):b0 ag5 (aaz N (R:=R)) (bM f249 5):=lq 5 GD (RF N) λK g=>xO.r5 N g (J GD (.exit 0) K)
def acB:=dR alN anf xO.c xO.v
def ajh:FO 249 acB:=fq (E:=ag5) (aJ TJ (aJ TK (aJ abg a6))) func249 (it:=aaz) (λN=>bh (X9 N) bC) xO.b xO.vo
def amk:=en [(148,N8),(249,acB)] []
def UG:=dR OG S6 mQ.c mQ.v
def aa_:FO 200 UG:=fr (E:=amk) (aJ Tx (aJ ajh a6)) func200 mQ.b mQ.vo
def ae6:Go.Shelf.Ren:=⟨λn=>bif Nat.beq n 22 then 248 else bif Nat.beq n 29 then 271 else 272,λn=>bif Nat.beq n 24 then 42 else bif Nat.beq n 9 then 189 else bif Nat.beq n 3 then 3 else bif Nat.beq n 4 then 4 else n,λn=>n⟩
def acA:List gD->Option (Bool×iO):=Ins.yj 189 40
def ad1:Ins.L Tryz.prog ae6 "slices.Insert[[]loop.example/g00245/impl.File,loop.example/g00245/impl.File]" 3 where
 mixed:=hM
 f22:=func248.trans (by kernel_rfl)
 t3:=by kernel_rfl
 a3:=Ins.kB (P:=Tryz.prog) (t:=3) (d:=.int .i64) (by kernel_rfl) rfl
 t4:=by kernel_rfl
 a4:=Ins.kB (P:=Tryz.prog) (t:=4) (d:=.bool) (by kernel_rfl) rfl
 t24:=by kernel_rfl
 a24:=Ins.kB (P:=Tryz.prog) (t:=42) (d:=.slice 189) (by kernel_rfl) rfl
 z9:=Ins.Ca hE (t:=189) (ti:=⟨true,[.s,.s,.i .i64],40⟩) (by kernel_rfl)
def ajg:FO 248 acA:=
 Ins.z6 (e:=189) (te:=⟨true,[.s,.s,.i .i64],40⟩) (by kernel_rfl) rfl (by kernel_rfl) hE ad1
  (λargs w=>run_callFunc_extern (e:=Extern.SlicesOverlaps.overlaps #[42,42] #[4]) func271 (by kernel_rfl) (by kernel_rfl) (by kernel_rfl) (by kernel_rfl) args w)
  ⟨_,func248,by kernel_rfl,by kernel_rfl⟩
def agS:=en [(200,UG),(248,acA)] [(3,[3,4,5,6])]
def Gr:Fn [.I,.S,.S,.I,.R] Tb:=λa b c d e=>[cP 6 0,cP 8 1,cP 10 2,cI 12 a,oB 1 [.s b,.s c,.n d],oB 3 [.nl],oB 5 [.own 3],oR 7 189 e]
def Rk(N:Nat)(K:Kt R):=lu.l3 N (J Gr (.exit 0) K)
def aam(N:Nat):It R:=lp 3 (al Gr (λK=>Rk N K N) an) ln
def XO(N:Nat):b0 agS (aam N (R:=R)) (bM f199 3):=lq 3 Gr (Rk N) λK g=>lu.r3 N g (J Gr (.exit 0) K)
def aci:=dR agp S6 lu.c lu.v
def ai1:FO 199 aci:=fq (E:=agS) (aJ aa_ (aJ ajg a6)) func199 (it:=aam) (λN=>bh (XO N) bC) lu.b lu.vo
def al7:=en [(197,UF),(150,JK),(198,ach),(199,aci),(200,UG)] []
def abX:=dR agk W0 sf.c sf.v
def aiF:FO 149 abX:=fr (E:=al7) (aJ aa9 (aJ NS (aJ ai0 (aJ ai1 (aJ aa_ a6))))) func149 sf.b sf.vo
def E93:=en [(148,N8),(149,abX)] [(3,[1,4,5,6,13,14,15])]
def MQ:Fn [.R,.I,.R,.I,.I,.R] Tb:=λa b c d e f=>[cH 2 184 a,cP 8 0,cI 10 b,cP 12 1,cH 26 184 c,cI 28 d,cI 30 e,oB 1 [.nl],oB 3 [.own 2],oR 5 189 f]
def M3:Fn [.R,.I,.R,.I,.I,.R] Tb:=λa b c d e f=>[cH 2 184 a,cP 8 0,cI 10 b,cP 12 1,cH 26 184 c,cI 28 d,cI 30 e,oB 1 [.own 2],oB 3 [.own 2],oR 5 189 f]
def Zz(N:Nat)(K:Kt R):=Ko.l3 N (J M3 .ret K) (J MQ (.exit 0) K)
def ahO(N:Nat):It R:=lp 3 (al MQ (λK=>Zz N K N) an) ln
def aeK(N:Nat):b0 E93 (ahO N (R:=R)) (bM f93 3):=lq 3 MQ (Zz N) λK g=>Ko.r3 N g (J M3 .ret K) (J MQ (.exit 0) K)
def afo:=dR agc ahW Ko.c Ko.v
def ajy:FO 93 afo:=fq (E:=E93) (aJ Tx (aJ aiF a6)) func93 (it:=ahO) (λN=>bh (aeK N) bC) Ko.b Ko.vo
def E54:=Yp T md [(90,akC),(91,YO),(92,akD),(93,afo)] [] [] [(0,1,.own 51),(0,2,.own 9),(0,3,.own 9),(0,4,.own 45),(0,6,.own 127),(0,7,.own 55),(0,9,.own 189),(0,10,.own 3),(0,11,.own 51)]
def A54:Fn [.I,.R,.R,.R,.R,.I,.R,.R,.I,.R,.R,.R,.I,.I] As:=λa b c d e f g h i j k l m o=>[.pt [.n a,.ow 51 true b,.ow 9 true c,.ow 9 true d,.ow 45 true e,.n f,.ow 127 true g,.ow 55 true h,.n i,.ow 189 true j,.ow 3 true k,.ow 51 true l],aI m,aI o]
def k54:Fn [.B,.I,.R,.R,.R,.R,.I,.R,.R,.I,.R,.R,.R] iO:=λa b c d e f g h i j k l m=>⟨[aB a],[[.n b,.ow 51 true c,.ow 9 true d,.ow 9 true e,.ow 45 true f,.n g,.ow 127 true h,.ow 55 true i,.n j,.ow 189 true k,.ow 3 true l,.ow 51 true m]]⟩
def akk:=dR A54 k54 Vw.c Vw.v
def anO:FO 54 akk:=fr (E:=E54) (aJ an6 (aJ aeV (aJ an7 (aJ ajy a6)))) func54 Vw.b Vw.vo
def E55:=en [(75,LO),(87,YN),(94,afp)] []
def akl:=dR DV Pw Vx.c Vx.v
def anP:FO 55 akl:=fr (E:=E55) (aJ PH (aJ aeU (aJ ajz a6))) func55 Vx.b Vx.vo
def A95:Fn [.I,.I] As:=λa b=>[aI a,aI b]
def akE:=dR A95 yk Qr.c Qr.v
def an8:FO 95 akE:=fr (E:=E8) a6 func95 Qr.b Qr.vo
def E56:=en [(75,LO),(95,akE)] []
def akm:=dR DV VE Vy.c Vy.v
def anQ:FO 56 akm:=fr (E:=E56) (aJ PH (aJ an8 a6)) func56 Vy.b Vy.vo
def E98:=en [(96,UX),(96,UY),(99,afq)] [(5,[0,1,5,6])]
def A98:Fn [.R,.I] As:=λa b=>[aO 55 a,.v false [.fn 99 [[.n b]]]]
def k98:Fn [.R] iO:=λa=>⟨[aO 55 a],[[.nl]]⟩
def MS:Fn [.I,.I,.I,.R] Tb:=λa b c d=>[cA 0 (.own 900000000),cA 2 (.fn 99 [[.n a]]),cI 10 b,cI 12 c,oR 1800000001 55 d]
def ZB(N:Nat)(K:Kt R):=MX.l5 N (J MS (.exit 0) K)
def ahQ(N:Nat):It R:=lp 5 (al MS (λK=>ZB N K N) an) ln
def aeM(N:Nat):b0 E98 (ahQ N (R:=R)) (bM f98 5):=lq 5 MS (ZB N) λK g=>MX.r5 N g (J MS (.exit 0) K)
def akG:=dR A98 k98 MX.c MX.v
def an_:FO 98 akG:=fq (E:=E98) (aJ abo (aJ abp (aJ ajA a6))) func98 (it:=ahQ) (λN=>bh (aeM N) bC) MX.b MX.vo
def E58:=en [(75,LO),(98,akG)] []
def akn:=dR DV VE Vz.c Vz.v
def anR:FO 58 akn:=fr (E:=E58) (aJ PH (aJ an_ a6)) func58 Vz.b Vz.vo
def agt:=en [(150,JK),(148,N8)] [(5,[1,4,6,17,18,19])]
def F2:Fn [.R,.R,.I,.I,.R] Tb:=λa b c d e=>[cH 2 3 a,cP 8 0,cP 12 1,cH 34 189 b,cI 36 c,cI 38 d,oB 1 [.nl],oB 3 [.own 2],oR 5 189 e]
def QF(N:Nat)(K:Kt R):=xD.l5 N (J F2 (.exit 0) K)
def ZY(N:Nat):It R:=lp 5 (al F2 (λK=>QF N K N) an) ln
def W8(N:Nat):b0 agt (ZY N (R:=R)) (bM f100 5):=lq 5 F2 (QF N) λK g=>xD.r5 N g (J F2 (.exit 0) K)
def abz:=dR agd W0 xD.c xD.v
def aie:FO 100 abz:=fq (E:=agt) (aJ NS (aJ Tx a6)) func100 (it:=ZY) (λN=>bh (W8 N) bC) xD.b xD.vo
def al8:=en [(197,UF)] []
def Uw:=dR OG Hc vj.c vj.v
def aaZ:FO 151 Uw:=fr (E:=al8) (aJ aa9 a6) func151 vj.b vj.vo
def agT:=en [(50,tr)] [(5,[0,1,4,5,6,7,8])]
def zw:Fn [.S,.I,.I,.I,.B,.I,.I] Tb:=λa b c d e f g=>[cA 0 (.s a),cI 2 b,cI 8 c,cI 10 d,cA 12 (.b e),cI 14 f,cI 16 g]
def Rl(N:Nat)(K:Kt R):=gq.l5 N (J zw .ret K) (J zw (.exit 0) K)
def aan(N:Nat):It R:=lp 5 (al zw (λK=>Rl N K N) an) ln
def XP(N:Nat):b0 agT (aan N (R:=R)) (bM f201 5):=lq 5 zw (Rl N) λK g=>gq.r5 N g (J zw .ret K) (J zw (.exit 0) K)
def Ob:=dR VN ah2 (ct _) gq.v
def TC:FO 201 Ob:=fh (E:=agT) (aJ qN a6) func201 (it:=aan) (λN=>bh (XP N) bC) gq.b λx f h=>gq.eu _ x.1 x.2.1 f.1.1
def agH:=en [(201,Ob),(50,tr),(202,UH)] [(3,[0,4,5])]
def Gc:Fn [.S,.I,.R] Tb:=λa b c=>[cA 0 (.s a),cA 8 (.own 0),cI 10 b,oR 1 9 c]
def Q0(N:Nat)(K:Kt R):=U152.l3 N (J Gc (.exit 0) K)
def aaa(N:Nat):It R:=lp 3 (al Gc (λK=>Q0 N K N) an) ln
def Xr(N:Nat):b0 agH (aaa N (R:=R)) (bM f152 3):=lq 3 Gc (Q0 N) λK g=>U152.r3 N g (J Gc (.exit 0) K)
def abY:=dR pd ahZ U152.c U152.v
def aiG:FO 152 abY:=fq (E:=agH) (aJ TC (aJ qN (aJ aa' a6))) func152 (it:=aaa) (λN=>bh (Xr N) bC) U152.b U152.vo
def aml:=en [(201,Ob)] []
def acj:=dR VN ah3 (ct _) tV.v
def ai3:FO 203 acj:=fh (E:=aml) (aJ TC a6) func203 (it:=λ_=>ln) (λ_=>bC) (λ_=>tV.b) λx f h=>⟨0,tV.eu _ x.1 x.2.1 f.1.1⟩
def al9:=en [(203,acj),(201,Ob),(130,JJ)] []
def abZ:=dR pd ad_ (ct _) wh.v
def aiH:FO 153 abZ:=fh (E:=al9) (aJ ai3 (aJ TC (aJ NR a6))) func153 (it:=λ_=>ln) (λ_=>bC) (λ_=>wh.b) λx f h=>⟨0,wh.eu _ x.1 f.1.1⟩
def agu:=en [(150,JK),(151,Uw),(152,abY),(153,abZ),(154,Ux)] [(7,[3,27,28,29])]
def F7:Fn [.I,.I,.R,.R] Tb:=λa b c d=>[cA 6 (.own 0),cA 54 (.own 1),cI 56 a,cI 58 b,oR 1 51 c,oR 3 9 d]
def QG(N:Nat)(K:Kt R):=U101.l7 N (J F7 (.exit 0) K)
def ZZ(N:Nat):It R:=lp 7 (al F7 (λK=>QG N K N) an) ln
def W9(N:Nat):b0 agu (ZZ N (R:=R)) (bM f101 7):=lq 7 F7 (QG N) λK g=>U101.r7 N g (J F7 (.exit 0) K)
def abA:=dR Qz K6 U101.c U101.v
def aif:FO 101 abA:=fq (E:=agu) (aJ NS (aJ aaZ (aJ aiG (aJ aiH (aJ aa0 a6))))) func101 (it:=ZZ) (λN=>bh (W9 N) bC) U101.b U101.vo
def agv:=en [(150,JK),(147,Uv),(151,Uw)] [(5,[2,4,5,6,17,18,19])]
def zg:Fn [.B,.S,.R,.I,.I,.R] Tb:=λa b c d e f=>[cP 4 0,cA 8 .nl,cA 10 (.b a),cA 12 (.s b),cH 34 51 c,cI 36 d,cI 38 e,oB 1 [.sh 189 f]]
def QH(N:Nat)(K:Kt R):=Be.l5 N (J zg .ret K) (J zg (.exit 0) K)
def Z0(N:Nat):It R:=lp 5 (al zg (λK=>QH N K N) an) ln
def W_(N:Nat):b0 agv (Z0 N (R:=R)) (bM f102 5):=lq 5 zg (QH N) λK g=>Be.r5 N g (J zg .ret K) (J zg (.exit 0) K)
def abB:=dR agf WZ Be.c Be.v
def aih:FO 102 abB:=fq (E:=agv) (aJ NS (aJ aaY (aJ aaZ a6))) func102 (it:=Z0) (λN=>bh (W_ N) bC) Be.b Be.vo
def agw:=en [(28,afe),(80,YL),(145,Uu)] [(4,[0,4,5,11,12,13])]
def F8:Fn [.I,.R,.I,.I,.I,.I,.I,.I,.I,.I,.R,.R,.R,.R,.R,.R] Tb:=λa b c d e f g h i j k l m o p q=>[cI 0 a,cP 8 0,cP 10 1,cH 22 51 b,cI 24 c,cI 26 d,oB 1 [.n e,.nl,.nl,.nl,.nl,.n f,.nl,.nl,.n g],oB 3 [.n h,.own 2,.own 3,.own 4,.own 5,.n i,.own 6,.own 7,.n j],oR 5 51 k,oR 7 9 l,oR 9 9 m,oR 11 45 o,oR 13 127 p,oR 15 55 q]
def QI(N:Nat)(K:Kt R):=Bf.l4 N (J F8 (.exit 0) K)
def Z1(N:Nat):It R:=lp 4 (al F8 (λK=>QI N K N) an) ln
def W'(N:Nat):b0 agw (Z1 N (R:=R)) (bM f103 4):=lq 4 F8 (QI N) λK g=>Bf.r4 N g (J F8 (.exit 0) K)
def abC:=dR agh VE Bf.c Bf.v
def aii:FO 103 abC:=fq (E:=agw) (aJ ajo (aJ aeS (aJ aaX a6))) func103 (it:=Z1) (λN=>bh (W' N) bC) Bf.b Bf.vo
def E59:=Yp T md [(100,abz),(101,abA),(80,YL),(102,abB),(93,afo),(103,abC)] [(3,[0,4,26,27,28])] [] [(0,1,.own 51),(0,2,.own 9),(0,3,.own 9),(0,4,.own 45),(0,6,.own 127),(0,7,.own 55),(0,9,.own 189),(0,10,.own 3),(0,11,.own 51)]
def A59:Fn [.I,.R,.R,.R,.R,.I,.R,.R,.I,.R,.R,.R,.R] As:=λa b c d e f g h i j k l m=>[.pt [.n a,.ow 51 true b,.ow 9 true c,.ow 9 true d,.ow 45 true e,.n f,.ow 127 true g,.ow 55 true h,.n i,.ow 189 true j,.ow 3 true k,.ow 51 true l],aH 3 m]
def MJ:Fn [.I,.I,.I,.I,.I,.R,.R,.R,.R,.R,.R,.R,.R,.R,.R,.R] Tb:=λa b c d e f g h i j k l m o p q=>[cP 0 900000900,cA 8 (.own 1),cA 52 (.own 2),cI 54 a,cI 56 b,oB 1800001801 [.n c,.own 900000001,.own 900000002,.own 900000003,.own 900000004,.n d,.own 900000006,.own 900000007,.n e,.own 9,.own 900000010,.own 900000011],oR 3 51 f,oR 5 51 g,oR 1800000003 51 h,oR 1800000005 9 i,oR 1800000007 9 j,oR 1800000009 45 k,oR 1800000013 127 l,oR 1800000015 55 m,oR 19 189 o,oR 1800000021 3 p,oR 1800000023 51 q]
def Zq(N:Nat)(K:Kt R):=Qp.l3 N (J MJ (.exit 0) K)
def ahK(N:Nat):It R:=lp 3 (al MJ (λK=>Zq N K N) an) ln
def aeB(N:Nat):b0 E59 (ahK N (R:=R)) (bM f59 3):=lq 3 MJ (Zq N) λK g=>Qp.r3 N g (J MJ (.exit 0) K)
def ako:=dR A59 ad9 Qp.c Qp.v
def anS:FO 59 ako:=fq (E:=E59) (aJ aie (aJ aif (aJ aeS (aJ aih (aJ ajy (aJ aii a6)))))) func59 (it:=ahK) (λN=>bh (aeB N) bC) Qp.b Qp.vo
def akp:=dR af6 yk (ct _) V9.v
def anT:FO 60 akp:=ft (E:=E8) a6 func60 V9.b λ(a,_)=>V9.eu _ a
def E29:=Yp T md [(52,aki),(53,akj),(54,akk),(55,akl),(56,akm),(57,afh),(58,akn),(59,ako),(60,akp)] [] [] [(0,1,.own 51),(0,2,.own 9),(0,3,.own 9),(0,4,.own 45),(0,6,.own 127),(0,7,.own 55),(0,9,.own 189),(0,10,.own 3),(0,11,.own 51)]
def aj7:=dR Qw ad8 Vt.c Vt.v
def anz:FO 29 aj7:=fr (E:=E29) (aJ anM (aJ anN (aJ anO (aJ anP (aJ anQ (aJ ajr (aJ anR (aJ anS (aJ anT a6))))))))) func29 Vt.b Vt.vo
def E12:=en [(27,YJ),(28,afe),(29,aj7)] [(4,[0,2,3,14,15,16]),(11,[2,6,27,28,29,1000000006009189,1000000006010003,1000000006011051])]
def A12:Fn [.R] As:=λa=>[aH 58 a]
def k12:Fn [.I,.R,.R,.R,.R,.I,.R,.R,.I,.R,.R,.R,.B] iO:=λa b c d e f g h i j k l m=>⟨[aV [.n a,.ow 51 true b,.ow 9 true c,.ow 9 true d,.ow 45 true e,.n f,.ow 127 true g,.ow 55 true h,.n i,.ow 189 true j,.ow 3 true k,.ow 51 true l],aB m],[]⟩
def ED:Fn [.R,.B,.R,.I,.I,.I,.I,.I] Tb:=λa b c d e f g h=>[cH 0 58 a,cP 4 0,cA 6 (.b b),cH 28 58 c,cI 30 d,cI 32 e,oB 1 [.n f,.nl,.nl,.nl,.nl,.n g,.nl,.nl,.n h,.nl,.nl,.nl]]
def F':Fn [.R,.I,.I,.I,.I,.I,.I,.I,.I,.R,.R,.R,.R,.R,.R,.R,.R,.R] Tb:=λa b c d e f g h i j k l m o p q r s=>[cP 4 0,cP 12 1,cH 54 58 a,cI 56 b,cI 58 c,oB 1 [.n d,.nl,.nl,.nl,.nl,.n e,.nl,.nl,.n f,.nl,.nl,.nl],oB 3 [.n g,.own 2,.own 3,.own 4,.own 5,.n h,.own 6,.own 7,.n i,.own 8,.own 9,.own 10],oR 5 51 j,oR 7 9 k,oR 9 9 l,oR 11 45 m,oR 13 127 o,oR 15 55 p,oR 17 189 q,oR 19 3 r,oR 21 51 s]
def Za(N:Nat)(K:Kt R):=Io.l4 N (J ED .ret K) (J ED (.exit 0) K)
def QQ(N:Nat)(K:Kt R):=Io.C1 N (J F' (.exit 2) K)
def ad3(N:Nat):It R:=lp 4 (al ED (λK=>Za N K N) an) (lp 11 (al F' (λK=>QQ N K N) an) ln)
def ael(N:Nat):b0 E12 (ad3 N (R:=R)) (bM f12 4):=lq 4 ED (Za N) λK g=>Io.r4 N g (J ED .ret K) (J ED (.exit 0) K)
def Xh(N:Nat):b0 E12 (ad3 N (R:=R)) (bM f12 11):=lq 11 F' (QQ N) λK g=>Io.Ly N g (J F' (.exit 2) K)
def afa:=dR A12 k12 Io.c Io.v
def ait:FO 12 afa:=fq (E:=E12) (aJ aeQ (aJ ajo (aJ anz a6))) func12 (it:=ad3) (λN=>bh (ael N) (bh (Xh N) bC)) Io.b Io.vo
def aaJ:Builder.Extra Tryz.prog Tryz.lays156_ren where
 sizeBuilder:=by kernel_rfl
 liesBuilder:=by kernel_rfl
 t5:=Tryz.underlying5
 a5:=Ins.kB (P:=Tryz.prog) (t:=5) (d:=.int .u8) (by kernel_rfl) rfl
 z5:=Ins.Ca hE (t:=5) (ti:=⟨false,[.i .u8],1⟩) (by kernel_rfl)
 v5:=by intro w;kernel_rfl
 infoByte:=by kernel_rfl
 cellsByte:=by kernel_rfl
 sizeByte:=by kernel_rfl
 neB5:=by decide
def A20:Fn [.R,.S] As:=λa b=>[.v false [.sh 9 a],aS b]
def aj1:=dR A20 uj D_.c D_.v
def ad7{w:World}{K:Nat->Prop}(hlt:∀b,K b->b<w.heap.size){v:Value}{a:Row}(h:Holds T w K v (.l 9 a))(s:ByteArray)(h1:a.length<=140737488355328)(h2:(_root_.Go.Lib.join ((D_.tx a).map (·.data.toList)) s.data.toList).length<=140737488355328):
  Calls Tryz.prog 20 #[v,.string s] w λe w'=>e=.returned (.string (D_.v a s))/\RowKit.Below w.heap.size w w':=by
 cases h with
 |nl e A c=>refine(Any.strings_Join_none Tryz.lays156 aaJ A c s w).mono λe w' he=> ?_;obtain⟨rfl,rfl⟩:=he;exact⟨rfl,RowKit.Below.refl _ _⟩
 |l e xs b o c ti U ht hc hm hK hs hcell hin=>
  obtain rfl:_=ti:=Option.some.inj ((show T.ty 9=some ⟨false,[.s],16⟩by kernel_rfl).symm.trans ht);have hl:(D_.tx a).length=a.length:=by unfold D_.tx;simp
  have key:=Any.strings_Join Tryz.lays156 aaJ b o c (D_.tx a) s w (λj x hj=> ?_) (hlt b hK) (by rw[hl];exact h1) (by rw[hl];exact hc) h2
  ·rw[hl]at key;exact key
  ·unfold D_.tx at hj;rw[List.getElem?_map]at hj;cases hy:a[j]? with
   |none=>rw[hy]at hj;cases hj
   |some y=>
    rw[hy]at hj;have hk:=hs y (List.mem_of_getElem? hy);match y,hk with
    |[u],hk=>
     cases u with
     |s z=>have e1:z=x:=Option.some.inj hj;subst e1;have h3:=hcell j 0 _ _ hy rfl;have h4:=hin j 0 _ _ hy rfl;cases hU:U j 0<;>rw[hU]at h4<;>cases h4;rw[hU]at h3;simpa using h3
     |_=>cases hk
    |_::_::_,hk=>simp at hk
def ans:FO 20 aj1:=by
 refine B1 func20 (by kernel_rfl) (by kernel_rfl) (by intro x;rfl) λx hx w c1 vs Ej hsz hvs=> ?_;obtain⟨a,s,_⟩:=x;replace hx:(Nat.ble a.length 140737488355328&&Nat.ble (_root_.Go.Lib.join ((D_.tx a).map (·.data.toList)) s.data.toList).length 140737488355328)=true:=hx;rw[Bool.and_eq_true,Nat.ble_eq,Nat.ble_eq]at hx;obtain⟨v,hv,hh⟩:=hvs 0 _ rfl;obtain⟨u,hu,ht,_⟩:=hvs 1 _ rfl;subst ht;have hh:Holds T w c1.K v (.l 9 a):=hh;have hsz:vs.size=2:=hsz;obtain rfl:vs= #[v,.string s]:=by
  apply Array.ext
  ·simpa using hsz
  ·intro i h1 h2;have:i=0\/i=1:=by simp at h2;omega
   rcases this with rfl|rfl
   ·simpa using (Array.getElem?_eq_some_iff.1 hv).2
   ·simpa using (Array.getElem?_eq_some_iff.1 hu).2
 refine(ad7 Ej.lt hh s hx.1 hx.2).mono λe w' he=> ?_;obtain⟨rfl,hb⟩:=he;refine⟨_,rfl,yw c1.K Ej (λm o h=>by cases h) hb (λ_ h=>h) (λ_ h=>.inl h) ⟨rfl,?_⟩⟩
 have h2:=hx.2;show(_root_.Go.Lib.join ((D_.tx a).map (·.data.toList)) s.data.toList).toArray.size<=_;simp only[List.size_toArray];omega
def aj8:=dR FJ uj (ct _) JY.v
def anA:FO 30 aj8:=ft (E:=E8) a6 func30 JY.b λ(a,_)=>JY.eu _ a
def E13:=en [(19,afc),(30,aj8)] [(3,[3,7,8,9])]
def Mz:Fn [.S,.R,.I,.I] Tb:=λa b c d=>[cA 6 (.s a),cH 14 55 b,cI 16 c,cI 18 d]
def Zb(N:Nat)(K:Kt R):=H3.l3 N (J Mz (.exit 0) K)
def ahz(N:Nat):It R:=lp 3 (al Mz (λK=>Zb N K N) an) ln
def aem(N:Nat):b0 E13 (ahz N (R:=R)) (bM f13 3):=lq 3 Mz (Zb N) λK g=>H3.r3 N g (J Mz (.exit 0) K)
def afb:=dR QA uj H3.c H3.v
def aix:FO 13 afb:=fq (E:=E13) (aJ aiV (aJ anA a6)) func13 (it:=ahz) (λN=>bh (aem N) bC) H3.b H3.vo
def E7:=en [(15,ajY),(19,afc),(12,afa),(20,aj1),(13,afb)] [(7,[5,7,31,32,33]),(16,[10,63,64,65])]
def V8:Fn [.I,.I,.I,.I,.I,.R,.R,.R,.R,.R,.R,.R,.R,.R,.R] Tb:=λa b c d e f g h i j k l m o p=>[cP 10 0,cA 14 (.own 1),cA 62 (.own 2),cI 64 a,cI 66 b,oB 1 [.n c,.own 3,.own 4,.own 5,.own 6,.n d,.own 7,.own 8,.n e,.own 9,.own 2,.own 10],oR 3 9 f,oR 5 3 g,oR 7 51 h,oR 9 9 i,oR 11 9 j,oR 13 45 k,oR 15 127 l,oR 17 55 m,oR 19 189 o,oR 21 51 p]
def MM:Fn [.S,.I,.I,.R] Tb:=λa b c d=>[cA 20 (.s a),cA 126 (.own 0),cI 128 b,cI 130 c,oR 1 51 d]
def ahf(N:Nat)(K:Kt R):=U7.l7 N (J V8 (.exit 0) K)
def Zv(N:Nat)(K:Kt R):=U7.Ek N (J MM (.exit 2) K)
def it7(N:Nat):It R:=lp 7 (al V8 (λK=>ahf N K N) an) (lp 16 (al MM (λK=>Zv N K N) an) ln)
def ah6(N:Nat):b0 E7 (it7 N (R:=R)) (bM f7 7):=lq 7 V8 (ahf N) λK g=>U7.r7 N g (J V8 (.exit 0) K)
def aeG(N:Nat):b0 E7 (it7 N (R:=R)) (bM f7 16):=lq 16 MM (Zv N) λK g=>U7.PX N g (J MM (.exit 2) K)
def sp7:=dR pd uj U7.c U7.v
def ok7:FO 7 sp7:=fq (E:=E7) (aJ anp (aJ aiV (aJ ait (aJ ans (aJ aix a6))))) func7 (it:=it7) (λN=>bh (ah6 N) (bh (aeG N) bC)) U7.b U7.vo
def A39:Fn [.I,.R,.R,.R,.R,.I,.R,.R,.I,.R,.R,.R] As:=λa b c d e f g h i j k l=>[aV [.n a,.sh 51 b,.sh 9 c,.sh 9 d,.sh 45 e,.n f,.sh 127 g,.sh 55 h,.n i,.sh 189 j,.sh 3 k,.sh 51 l]]
def k39:Fn [.I,.R,.R,.R,.R,.I,.R,.R,.I,.R,.R,.R] iO:=λa b c d e f g h i j k l=>⟨[aV [.n a,.ow 51 true b,.ow 9 true c,.ow 9 true d,.ow 45 true e,.n f,.ow 127 true g,.ow 55 true h,.n i,.ow 189 true j,.ow 3 true k,.ow 51 true l]],[]⟩
def akb:=dR A39 k39 Vu.c Vu.v
def anF:FO 39 akb:=fr (E:=agx) (aJ Lj a6) func39 Vu.b Vu.vo
def E18:=en [(25,afd),(37,YK),(38,afg),(39,akb)] [(3,[0,2,4,5]),(10,[0,2,6,7,1000000006009189,1000000006010003,1000000006011051])]
def MB:Fn [.R,.B,.I,.I,.I,.I] Tb:=λa b c d e f=>[cH 0 58 a,cP 4 0,cA 8 (.b b),cI 10 c,oB 1 [.n d,.nl,.nl,.nl,.nl,.n e,.nl,.nl,.n f,.nl,.nl,.nl]]
def Gp:Fn [.R,.I,.I,.I,.I,.I,.I,.I,.R,.R,.R,.R,.R,.R,.R,.R,.R] Tb:=λa b c d e f g h i j k l m o p q r=>[cH 0 58 a,cP 4 0,cP 12 1,cI 14 b,oB 1 [.n c,.nl,.nl,.nl,.nl,.n d,.nl,.nl,.n e,.nl,.nl,.nl],oB 3 [.n f,.own 2,.own 3,.own 4,.own 5,.n g,.own 6,.own 7,.n h,.own 8,.own 9,.own 10],oR 5 51 i,oR 7 9 j,oR 9 9 k,oR 11 45 l,oR 13 127 m,oR 15 55 o,oR 17 189 p,oR 19 3 q,oR 21 51 r]
def Ze(N:Nat)(K:Kt R):=MT.l3 N (J MB (.exit 0) K)
def Ri(N:Nat)(K:Kt R):=MT.l10 N (J Gp (.exit 2) K)
def ad4(N:Nat):It R:=lp 3 (al MB (λK=>Ze N K N) an) (lp 10 (al Gp (λK=>Ri N K N) an) ln)
def aep(N:Nat):b0 E18 (ad4 N (R:=R)) (bM f18 3):=lq 3 MB (Ze N) λK g=>MT.r3 N g (J MB (.exit 0) K)
def XM(N:Nat):b0 E18 (ad4 N (R:=R)) (bM f18 10):=lq 10 Gp (Ri N) λK g=>MT.Yz N g (J Gp (.exit 2) K)
def aj0:=dR A12 k12 MT.c MT.v
def anr:FO 18 aj0:=fq (E:=E18) (aJ aji (aJ aeR (aJ ajq (aJ anF a6)))) func18 (it:=ad4) (λN=>bh (aep N) (bh (XM N) bC)) MT.b MT.vo
def E36:=en [(11,Qb)] []
def aka:=dR FJ uj AG.c AG.v
def anE:FO 36 aka:=fr (E:=E36) (aJ Tp a6) func36 AG.b AG.vo
def E17:=en [(36,aka)] [(3,[1,3,4])]
def MA:Fn [.S,.I,.I,.R,.R,.R,.R,.I,.R,.R,.I] Tb:=λa b c d e f g h i j k=>[cP 2 0,cA 6 (.s a),cI 8 b,oB 1 [.n c,.sh 51 d,.sh 9 e,.sh 9 f,.sh 45 g,.n h,.sh 127 i,.sh 55 j,.n k]]
def Zd(N:Nat)(K:Kt R):=Ki.l3 N (J MA (.exit 0) K)
def ahB(N:Nat):It R:=lp 3 (al MA (λK=>Zd N K N) an) ln
def aeo(N:Nat):b0 E17 (ahB N (R:=R)) (bM f17 3):=lq 3 MA (Zd N) λK g=>Ki.r3 N g (J MA (.exit 0) K)
def ajZ:=dR QA uj Ki.c Ki.v
def anq:FO 17 ajZ:=fq (E:=E17) (aJ anE a6) func17 (it:=ahB) (λN=>bh (aeo N) bC) Ki.b Ki.vo
def E6:=en [(10,ae'),(11,Qb),(18,aj0),(17,ajZ)] [(7,[5,7,8]),(16,[5,7,9])]
def V7:Fn [.S,.I,.I,.I,.I,.R,.R,.R,.R,.R,.R,.R,.R,.R] Tb:=λa b c d e f g h i j k l m o=>[cP 10 0,cA 14 (.s a),cI 16 b,oB 1 [.n c,.own 1,.own 2,.own 3,.own 4,.n d,.own 5,.own 6,.n e,.own 7,.own 8,.own 9],oR 3 51 f,oR 5 9 g,oR 7 9 h,oR 9 45 i,oR 11 127 j,oR 13 55 k,oR 15 189 l,oR 17 3 m,oR 19 51 o]
def ML:Fn [.S,.I,.I,.I,.I,.R,.R,.R,.R,.R,.R,.R,.R,.R] Tb:=λa b c d e f g h i j k l m o=>[cP 10 0,cA 14 (.s a),cI 18 b,oB 1 [.n c,.own 1,.own 2,.own 3,.own 4,.n d,.own 5,.own 6,.n e,.own 7,.own 8,.own 9],oR 3 51 f,oR 5 9 g,oR 7 9 h,oR 9 45 i,oR 11 127 j,oR 13 55 k,oR 15 189 l,oR 17 3 m,oR 19 51 o]
def ahe(N:Nat)(K:Kt R):=U6.l7 N (J V7 (.exit 0) K)
def Zt(N:Nat)(K:Kt R):=U6.Ek N (J ML (.exit 2) K)
def it6(N:Nat):It R:=lp 7 (al V7 (λK=>ahe N K N) an) (lp 16 (al ML (λK=>Zt N K N) an) ln)
def ah5(N:Nat):b0 E6 (it6 N (R:=R)) (bM f6 7):=lq 7 V7 (ahe N) λK g=>U6.r7 N g (J V7 (.exit 0) K)
def aeE(N:Nat):b0 E6 (it6 N (R:=R)) (bM f6 16):=lq 16 ML (Zt N) λK g=>U6.PX N g (J ML (.exit 2) K)
def sp6:=dR pd uj U6.c U6.v
def ok6:FO 6 sp6:=fq (E:=E6) (aJ aid (aJ Tp (aJ anr (aJ anq a6)))) func6 (it:=it6) (λN=>bh (ah5 N) (bh (aeE N) bC)) U6.b U6.vo
def E4:=en [(8,sp8),(9,sp9),(10,ae'),(7,sp7),(11,Qb),(12,afa),(13,afb),(6,sp6)] [(11,[3,4,6,7,8,9,10])]
def A4:Fn [.R] As:=λa=>[aH 5 a]
def k4:Fn [.B] iO:=λa=>⟨[aB a],[]⟩
def MI:Fn [.S,.S,.B,.S,.I,.R,.I,.I,.I,.R,.R,.R,.R,.R,.R,.R,.R,.R] Tb:=λa b c d e f g h i j k l m o p q r s=>[cA 6 (.s a),cA 8 (.own 0),cA 12 (.s b),cP 14 1,cA 16 (.b c),cA 18 (.s d),cI 20 e,oR 1 58 f,oB 3 [.n g,.own 2,.own 3,.own 4,.own 5,.n h,.own 6,.own 7,.n i,.own 8,.own 9,.own 10],oR 5 51 j,oR 7 9 k,oR 9 9 l,oR 11 45 m,oR 13 127 o,oR 15 55 p,oR 17 189 q,oR 19 3 r,oR 21 51 s]
def Zp(N:Nat)(K:Kt R):=U4.C1 N (J MI (.exit 0) K)
def it4(N:Nat):It R:=lp 11 (al MI (λK=>Zp N K N) an) ln
def aeA(N:Nat):b0 E4 (it4 N (R:=R)) (bM f4 11):=lq 11 MI (Zp N) λK g=>U4.Ly N g (J MI (.exit 0) K)
def sp4:=dR A4 k4 U4.c U4.v
def ok4:FO 4 sp4:=fq (E:=E4) (aJ ok8 (aJ ok9 (aJ aid (aJ ok7 (aJ Tp (aJ ait (aJ aix (aJ ok6 a6)))))))) func4 (it:=it4) (λN=>bh (aeA N) bC) U4.b U4.vo
end Go.FG.Se
