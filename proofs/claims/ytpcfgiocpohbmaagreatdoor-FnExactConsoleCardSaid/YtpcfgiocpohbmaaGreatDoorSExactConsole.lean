/- Functions of the program: the evaluation of each, and that a call of it does what is told. No condition. -/
import Derived.Test.YtpcfgiocpohbmaaGreatDoorTab
import Derived.Test.YtpcfgiocpohbmaaGreatDoorPExactConsoleb
import Derived.Test.YtpcfgiocpohbmaaGreatDoorIns
import Derived.Test.YtpcfgiocpohbmaaGreatDoorSh
import Derived.Shelf.Strconv.Itoa3
import Derived.Lib.ItoaLen
import Derived.Shelf.Strconv.ErrVarAll
import Derived.Shelf.Strings.SplitShaped
import Derived.Lib.SplitLaws
import Derived.Lib.SmallJoins
import Derived.WalkKit
import Derived.BigCall
import Derived.Deep.DeepMust
import Derived.Shelf.Strings.OnBuilder
set_option linter.unusedVariables false
set_option linter.unusedSimpArgs false
set_option maxRecDepth 100000
set_option autoImplicit true
set_option relaxedAutoImplicit true
namespace Go.FG.Se
open Go.Proofs Go.Proofs.Tryz
variable {R:Type}
abbrev FO:=kT Tryz.prog T
def E22:=en [] [(4,[0,3,4,5])]
def Ay:Fn [.S] As:=λa=>[aS a]
def k22:Fn [.R] iQ:=λa=>⟨[aO 9 a],[]⟩
def Ku:Fn [.S,.I,.I,.R] Tb:=λa b c d=>[cA 0 (.s a),cA 6 (.own 0),cI 8 b,cI 10 c,oR 1 9 d]
def W5(N:Nat)(K:Kt R):=KH.l4 N (J Ku (.exit 0) K)
def aeU(N:Nat):It R:=(lp 4 (al Ku (λK=>W5 N K N) an) ln)
theorem abN(N:Nat):b6 E22 (aeU N (R:=R)) (bQ f22 4):=lq 4 Ku (W5 N) λK g=>KH.r4 N g (J Ku (.exit 0) K)
def ag8:=dL Ay k22 KH.c KH.v
theorem akr:FO 22 ag8:=fq (E:=E22) a8 func22 (it:=λN=>aeU N) (λN=>(bn (abN N) bD)) KH.b KH.vo
def E23:=en [] [(6,[0,2,3,4,5,6])]
def k23:Fn [.R,.B] iQ:=λa b=>⟨[aO 9 a,aB b],[]⟩
def Kv:Fn [.S,.B,.I,.I,.R] Tb:=λa b c d e=>[cA 0 (.s a),cA 4 .nl,cA 6 (.b b),cA 8 (.own 0),cI 10 c,cI 12 d,oR 1 9 e]
def KL:Fn [.S,.B,.I,.I,.R,.R] Tb:=λa b c d e f=>[cA 0 (.s a),cA 4 (.own 0),cA 6 (.b b),cA 8 (.own 1),cI 10 c,cI 12 d,oR 1 9 e,oR 3 9 f]
def W6(N:Nat)(K:Kt R):=mW.l6 N (J KL .ret K) (J Kv (.exit 0) K)
def aeV(N:Nat):It R:=(lp 6 (al Kv (λK=>W6 N K N) an) ln)
theorem abO(N:Nat):b6 E23 (aeV N (R:=R)) (bQ f23 6):=lq 6 Kv (W6 N) λK g=>mW.r6 N g (J KL .ret K) (J Kv (.exit 0) K)
def ag9:=dL Ay k23 mW.c mW.v
theorem aks:FO 23 ag9:=fq (E:=E23) a8 func23 (it:=λN=>aeV N) (λN=>(bn (abO N) bD)) mW.b mW.vo
def zK:=en [] []
def Tv:Fn [.I] As:=λa=>[aI a]
def k26:Fn [.I] iQ:=λa=>⟨[.v false [.i .u8 a]],[]⟩
def ag':=dL Tv k26 (ct _) S9.v
theorem aku:FO 26 ag':=ft (E:=zK) a8 func26 S9.b λ(a0,_)=>S9.dW _ a0
def E11:=en [(26,ag')] [(5,[0,3,4])]
def I_:Fn [.S] iQ:=λa=>⟨[aS a],[]⟩
def Kp:Fn [.I,.B,.S] Tb:=λa b c=>[cI 0 a,cA 6 (.b b),cA 8 (.s c)]
def WZ(N:Nat)(K:Kt R):=zV.l5 N (J Kp (.exit 0) K)
def aeQ(N:Nat):It R:=(lp 5 (al Kp (λK=>WZ N K N) an) ln)
theorem abH(N:Nat):b6 E11 (aeQ N (R:=R)) (bQ f11 5):=lq 5 Kp (WZ N) λK g=>zV.r5 N g (J Kp (.exit 0) K)
def Wu:=dL Tv I_ zV.c zV.v
theorem ab6:FO 11 Wu:=fq (E:=E11) (aK aku a8) func11 (it:=λN=>aeQ N) (λN=>(bn (abH N) bD)) zV.b zV.vo
def E48:=en [(11,Wu)] [(5,[0,2,3,4,5])]
def k48:Fn [.I,.B] iQ:=λa b=>⟨[aI a,aB b],[]⟩
def C_:Fn [.S,.I,.B,.I,.I] Tb:=λa b c d e=>[cA 0 (.s a),cI 4 b,cA 6 (.b c),cI 8 d,cI 10 e]
def W_(N:Nat)(K:Kt R):=jP.l5 N (J C_ .ret K) (J C_ (.exit 0) K)
def aeX(N:Nat):It R:=(lp 5 (al C_ (λK=>W_ N K N) an) ln)
theorem abS(N:Nat):b6 E48 (aeX N (R:=R)) (bQ f48 5):=lq 5 C_ (W_ N) λK g=>jP.r5 N g (J C_ .ret K) (J C_ (.exit 0) K)
def ahi:=dL Ay k48 jP.c jP.v
theorem akD:FO 48 ahi:=fq (E:=E48) (aK ab6 a8) func48 (it:=λN=>aeX N) (λN=>(bn (abS N) bD)) jP.b jP.vo
def E24:=en [(48,ahi)] [(4,[0,2,3,4,5,6]),(13,[0,2,7,9,10,11])]
def A24:Fn [.R] As:=λa=>[aH 9 a]
def k24:Fn [.I,.I,.S,.I,.R,.B] iQ:=λa b c d e f=>⟨[aV [.n a,.n b,.s c,.n d,.ow 3 true e],aB f],[]⟩
def C7:Fn [.R,.B,.I,.I,.I,.S,.I,.R,.R] Tb:=λa b c d e f g h i=>[cH 0 9 a,cP 4 0,cA 6 (.b b),cA 8 (.own 1),cA 10 (.own 2),cI 12 c,oB 1 [.n d,.n e,.s f,.n g,.nl],oR 3 9 h,oR 5 3 i]
def KM:Fn [.R,.B,.I,.I,.S,.I] Tb:=λa b c d e f=>[cH 0 9 a,cP 4 0,cA 6 (.b b),(8,.v .un),(10,.v .un),(12,.v .un),oB 1 [.n c,.n d,.s e,.n f,.nl]]
def KN:Fn [.R,.B,.I,.I,.S,.I,.R] Tb:=λa b c d e f g=>[cH 0 9 a,cP 4 0,cA 6 (.b b),(8,.v .un),(10,.v .un),(12,.v .un),oB 1 [.n c,.n d,.s e,.n f,.own 1],oR 3 3 g]
def qN:Fn [.R,.B,.B,.I,.I,.I,.S,.I,.I,.I,.S,.I] Tb:=λa b c d e f g h i j k l=>[cH 0 9 a,cP 4 0,cP 14 1,cA 18 (.b b),cA 20 (.b c),cI 22 d,oB 1 [.n e,.n f,.s g,.n h,.nl],oB 3 [.n i,.n j,.s k,.n l,.nl]]
def n4:Fn [.R,.B,.B,.I,.I,.I,.S,.I,.I,.I,.S,.I,.R] Tb:=λa b c d e f g h i j k l m=>[cH 0 9 a,cP 4 0,cP 14 1,cA 18 (.b b),cA 20 (.b c),cI 22 d,oB 1 [.n e,.n f,.s g,.n h,.nl],oB 3 [.n i,.n j,.s k,.n l,.own 2],oR 5 3 m]
def W7(N:Nat)(K:Kt R):=oh.l4 N (J C7 .ret K) (J KM .ret K) (J KN .ret K) (J C7 (.exit 0) K)
def Pm(N:Nat)(K:Kt R):=oh.Ys N (J qN (.exit 3) K) (J n4 (.exit 3) K)
def Kj(N:Nat)(K:Kt R):=oh.yA N (J qN (.exit 3) K) (J n4 (.exit 3) K)
def QB(N:Nat):It R:=(lp 4 (al C7 (λK=>W7 N K N) an) (lp 13 (al qN (λK=>Pm N K N) (al n4 (λK=>Kj N K N) an)) ln))
theorem abP(N:Nat):b6 E24 (QB N (R:=R)) (bQ f24 4):=lq 4 C7 (W7 N) λK g=>oh.r4 N g (J C7 .ret K) (J KM .ret K) (J KN .ret K) (J C7 (.exit 0) K)
theorem Md(N:Nat)(K:Kt R):Wd E24 (QB N) (bQ f24 13) 13 K n4 (Kj N K):=lw (λg=>oh.Hy N (cmp _ qN (g∘eP)) (cmp _ n4 (g∘eP)) (J qN (.exit 3) K) (J n4 (.exit 3) K)) λm i=>by simp only[Function.comp_def,wf i];rfl
theorem acO(N:Nat)(K:Kt R):Wd E24 (QB N) (bQ f24 13) 13 K qN (Pm N K):=lw (λg=>oh.r13 N (cmp _ qN (g∘eP)) (cmp _ n4 (g∘eP)) (J qN (.exit 3) K) (J n4 (.exit 3) K)) λm i=>by simp only[Function.comp_def,wf i,wf (Md N K m)];rfl
theorem VT(N:Nat):b6 E24 (QB N (R:=R)) (bQ f24 13):=lm 13 (ga qN (acO N) (ga n4 (Md N) mn))
def ag_:=dL A24 k24 oh.c oh.v
theorem akt:FO 24 ag_:=fq (E:=E24) (aK akD a8) func24 (it:=λN=>QB N) (λN=>(bn (abP N) (bn (VT N) bD))) oh.b oh.vo
def A49:Fn [.I,.I,.I] As:=λa b c=>[aI a,aI b,aI c]
def pT:Fn [.B] iQ:=λa=>⟨[aB a],[]⟩
def vj:=dL A49 pT (ct _) jX.v
theorem uv:FO 49 vj:=ft (E:=zK) a8 func49 jX.b λ(a0,a1,a2,_)=>jX.dW _ a0 a1 a2
def E25:=en [(49,vj)] []
def A25:Fn [.I,.I,.S,.I,.R] As:=λa b c d e=>[aV [.n a,.n b,.s c,.n d,.sh 3 e]]
def acu:=dL A25 pT (ct _) Xp.v
theorem ago:FO 25 acu:=ft (E:=E25) (aK uv a8) func25 Xp.b λ(a0,a1,a2,a3,a4,_)=>Xp.dW _ a0 a1 a2 a3 a4
def E10:=en [(22,ag8),(23,ag9),(24,ag_),(25,acu)] [(7,[2,3,4,5,6,7])]
def k10:Fn [.R,.I] iQ:=λa b=>⟨[aO 58 a,aI b],[]⟩
def Ko:Fn [.I,.I,.R,.R,.R] Tb:=λa b c d e=>[cA 4 .nl,cI 6 a,cA 8 (.own 0),cA 10 (.own 1),cA 12 (.own 2),cI 14 b,oR 1 58 c,oR 3 9 d,oR 5 58 e]
def KK:Fn [.I,.I,.R,.R,.R] Tb:=λa b c d e=>[cA 4 (.own 0),cI 6 a,cA 8 (.own 0),cA 10 (.own 1),cA 12 (.own 2),cI 14 b,oR 1 58 c,oR 3 9 d,oR 5 58 e]
def WY(N:Nat)(K:Kt R):=NQ.l7 N (J KK .ret K) (J Ko (.exit 0) K)
def aeP(N:Nat):It R:=(lp 7 (al Ko (λK=>WY N K N) an) ln)
theorem abG(N:Nat):b6 E10 (aeP N (R:=R)) (bQ f10 7):=lq 7 Ko (WY N) λK g=>NQ.r7 N g (J KK .ret K) (J Ko (.exit 0) K)
def ag1:=dL Ay k10 NQ.c NQ.v
theorem akk:FO 10 ag1:=fq (E:=E10) (aK akr (aK aks (aK akt (aK ago a8)))) func10 (it:=λN=>aeP N) (λN=>(bn (abG N) bD)) NQ.b NQ.vo
def Ty:=en [] [(3,[0,1,2])]
def Mi:Fn [] As:=[]
def M0:Fn [.R,.I] iQ:=λa b=>⟨[aV [.ow 45 true a,.n b]],[]⟩
def qI:Fn [.I,.I,.I] Tb:=λa b c=>[cP 0 0,cP 2 1,cI 4 a,oB 1 [.nl,.n b],oB 3 [.nl,.n c]]
def nW:Fn [.I,.I,.I,.R] Tb:=λa b c d=>[cP 0 0,cP 2 1,cI 4 a,oB 1 [.nl,.n b],oB 3 [.own 2,.n c],oR 5 45 d]
def Oe(N:Nat)(K:Kt R):=ER.l3 N (J qI (.exit 0) K) (J nW (.exit 0) K)
def J_(N:Nat)(K:Kt R):=ER.nT N (J qI (.exit 0) K) (J nW (.exit 0) K)
def Lf(N:Nat):It R:=(lp 3 (al qI (λK=>Oe N K N) (al nW (λK=>J_ N K N) an)) ln)
theorem L9(N:Nat)(K:Kt R):Wd Ty (Lf N) (bQ f111 3) 3 K nW (J_ N K):=lw (λg=>ER.uw N (cmp _ qI (g∘eP)) (cmp _ nW (g∘eP)) (J qI (.exit 0) K) (J nW (.exit 0) K)) λm i=>by simp only[Function.comp_def,wf i];rfl
theorem acJ(N:Nat)(K:Kt R):Wd Ty (Lf N) (bQ f111 3) 3 K qI (Oe N K):=lw (λg=>ER.r3 N (cmp _ qI (g∘eP)) (cmp _ nW (g∘eP)) (J qI (.exit 0) K) (J nW (.exit 0) K)) λm i=>by simp only[Function.comp_def,wf i,wf (L9 N K m)];rfl
theorem UW(N:Nat):b6 Ty (Lf N (R:=R)) (bQ f111 3):=lm 3 (ga qI (acJ N) (ga nW (L9 N) mn))
def Zd:=dL Mi M0 ER.c ER.v
theorem afr:FO 111 Zd:=fq (E:=Ty) a8 func111 (it:=λN=>Lf N) (λN=>(bn (UW N) bD)) ER.b ER.vo
def E66:=en [(111,Zd)] []
def k66:Fn [.R,.R,.R,.I] iQ:=λa b c d=>⟨[aV [.ow 9 true a,.ow 9 true b,.ow 45 true c,.n d]],[]⟩
def ahu:=dL Mi k66 (ct _) U66.v
theorem akP:FO 66 ahu:=ft (E:=E66) (aK afr a8) func66 U66.b λ_=>U66.dW _
def E37:=en [(66,ahu)] []
def Tl:Fn [.I,.R,.R,.R,.R,.I,.R,.R,.I] iQ:=λa b c d e f g h i=>⟨[aV [.n a,.ow 51 true b,.ow 9 true c,.ow 9 true d,.ow 45 true e,.n f,.ow 127 true g,.ow 55 true h,.n i]],[]⟩
def acx:=dL Mi Tl (ct _) U37.v
theorem agx:FO 37 acx:=ft (E:=E37) (aK akP a8) func37 U37.b λ_=>U37.dW _
def TE:=en [] [(3,[1,2,3,4])]
def Ts:Fn [.R,.I] As:=λa b=>[aV [.sh 45 a,.n b]]
def qM:Fn [.I,.R,.I,.I,.I] Tb:=λa b c d e=>[cP 2 0,cP 4 1,cP 6 2,cI 8 a,oB 1 [.sh 45 b,.n c],oB 3 [.nl,.n d],oB 5 [.nl,.n e]]
def n0:Fn [.I,.R,.I,.I,.I,.R] Tb:=λa b c d e f=>[cP 2 0,cP 4 1,cP 6 2,cI 8 a,oB 1 [.sh 45 b,.n c],oB 3 [.nl,.n d],oB 5 [.own 3,.n e],oR 7 45 f]
def OR(N:Nat)(K:Kt R):=nG.l3 N (J qM (.exit 0) K) (J n0 (.exit 0) K)
def Kf(N:Nat)(K:Kt R):=nG.nT N (J qM (.exit 0) K) (J n0 (.exit 0) K)
def Ll(N:Nat):It R:=(lp 3 (al qM (λK=>OR N K N) (al n0 (λK=>Kf N K N) an)) ln)
theorem Mc(N:Nat)(K:Kt R):Wd TE (Ll N) (bQ f180 3) 3 K n0 (Kf N K):=lw (λg=>nG.uw N (cmp _ qM (g∘eP)) (cmp _ n0 (g∘eP)) (J qM (.exit 0) K) (J n0 (.exit 0) K)) λm i=>by simp only[Function.comp_def,wf i];rfl
theorem acN(N:Nat)(K:Kt R):Wd TE (Ll N) (bQ f180 3) 3 K qM (OR N K):=lw (λg=>nG.r3 N (cmp _ qM (g∘eP)) (cmp _ n0 (g∘eP)) (J qM (.exit 0) K) (J n0 (.exit 0) K)) λm i=>by simp only[Function.comp_def,wf i,wf (Mc N K m)];rfl
theorem Vt(N:Nat):b6 TE (Ll N (R:=R)) (bQ f180 3):=lm 3 (ga qM (acN N) (ga n0 (Mc N) mn))
def LU:=dL Ts M0 nG.c nG.v
theorem Ra:FO 180 LU:=fq (E:=TE) a8 func180 (it:=λN=>Ll N) (λN=>(bn (Vt N) bD)) nG.b nG.vo
def aiV:=en [(180,LU)] []
def N3:Fn [.R,.R,.R,.I] As:=λa b c d=>[aV [.sh 9 a,.sh 9 b,.sh 45 c,.n d]]
def RX:=dL N3 k66 fQ.c fQ.v
theorem Yu:FO 120 RX:=fr (E:=aiV) (aK Ra a8) func120 fQ.b fQ.vo
def E68:=en [(120,RX)] []
def N6:Fn [.I,.R,.R,.R,.R,.I,.R,.R,.I] As:=λa b c d e f g h i=>[aV [.n a,.sh 51 b,.sh 9 c,.sh 9 d,.sh 45 e,.n f,.sh 127 g,.sh 55 h,.n i]]
def JI:=dL N6 Tl kt.c kt.v
theorem Jl:FO 68 JI:=fr (E:=E68) (aK Yu a8) func68 kt.b kt.vo
def B5:=dL Ay pT (ct _) sw.v
theorem DC:FO 162 B5:=ft (E:=E25) (aK uv a8) func162 sw.b λ(a0,_)=>sw.dW _ a0
def aji:=en [(162,B5),(49,vj)] []
def H_:Fn [.S,.I,.I,.S] As:=λa b c d=>[aV [.s a,.n b,.n c,.s d]]
def HO:=dL H_ pT (ct _) gu.v
theorem LA:FO 217 HO:=ft (E:=aji) (aK DC (aK uv a8)) func217 gu.b λ(a0,a1,a2,a3,_)=>gu.dW _ a0 a1 a2 a3
def aee:=en [] [(2,[0,1,4,5])]
def N4:Fn [.R,.S] As:=λa b=>[aH 9 a,aS b]
def xU:Fn [.R,.S,.B,.I] Tb:=λa b c d=>[cH 0 9 a,cA 2 (.s b),cA 8 (.b c),cI 10 d]
def O2(N:Nat)(K:Kt R):=eV.l2 N (J xU .ret K) (J xU (.exit 0) K)
def X_(N:Nat):It R:=(lp 2 (al xU (λK=>O2 N K N) an) ln)
theorem VE(N:Nat):b6 aee (X_ N (R:=R)) (bQ f219 2):=lq 2 xU (O2 N) λK g=>eV.r2 N g (J xU .ret K) (J xU (.exit 0) K)
def LW:=dL N4 pT eV.c eV.v
theorem Rc:FO 219 LW:=fq (E:=aee) a8 func219 (it:=λN=>X_ N) (λN=>(bn (VE N) bD)) eV.b eV.vo
def ajs:=en [(219,LW)] []
def Mj:Fn [.R,.R,.R,.I,.S] As:=λa b c d e=>[aV [.sh 9 a,.sh 9 b,.sh 45 c,.n d],aS e]
def Ss:=dL Mj pT sD.c sD.v
theorem YX:FO 258 Ss:=fr (E:=ajs) (aK Rc a8) func258 sD.b sD.vo
def aav:=en [(49,vj)] [(4,[1,2,3]),(9,[1,2,3,4])]
def xV:Fn [.B,.I,.R,.I] Tb:=λa b c d=>[cP 2 0,cA 4 (.b a),cI 6 b,oB 1 [.sh 45 c,.n d]]
def xW:Fn [.B,.I,.I,.R,.I] Tb:=λa b c d e=>[cP 2 0,cA 4 (.b a),cI 6 b,cI 8 c,oB 1 [.sh 45 d,.n e]]
def O5(N:Nat)(K:Kt R):=fc.l4 N (J xV .ret K) (J xV (.exit 0) K)
def O6(N:Nat)(K:Kt R):=fc.l9 N (J xW .ret K) (J xW (.exit 2) K)
def Qz(N:Nat):It R:=(lp 4 (al xV (λK=>O5 N K N) an) (lp 9 (al xW (λK=>O6 N K N) an) ln))
theorem VH(N:Nat):b6 aav (Qz N (R:=R)) (bQ f222 4):=lq 4 xV (O5 N) λK g=>fc.r4 N g (J xV .ret K) (J xV (.exit 0) K)
theorem VI(N:Nat):b6 aav (Qz N (R:=R)) (bQ f222 9):=lq 9 xW (O6 N) λK g=>fc.r9 N g (J xW .ret K) (J xW (.exit 2) K)
def LX:=dL Ts pT fc.c fc.v
theorem Re:FO 222 LX:=fq (E:=aav) (aK uv a8) func222 (it:=λN=>Qz N) (λN=>(bn (VH N) (bn (VI N) bD))) fc.b fc.vo
def aed:=en [(162,B5),(219,LW),(222,LX)] [(3,[1,2,3,4])]
def xT:Fn [.B,.I,.R,.R,.R,.I,.R] Tb:=λa b c d e f g=>[cP 2 0,cA 4 (.b a),cA 6 (.own 1),cI 8 b,oB 1 [.sh 9 c,.sh 9 d,.sh 45 e,.n f],oR 3 9 g]
def O1(N:Nat)(K:Kt R):=jx.l3 N (J xT .ret K) (J xT (.exit 0) K)
def X9(N:Nat):It R:=(lp 3 (al xT (λK=>O1 N K N) an) ln)
theorem VD(N:Nat):b6 aed (X9 N (R:=R)) (bQ f218 3):=lq 3 xT (O1 N) λK g=>jx.r3 N g (J xT .ret K) (J xT (.exit 0) K)
def Sj:=dL N3 pT jx.c jx.v
theorem YQ:FO 218 Sj:=fq (E:=aed) (aK DC (aK Rc (aK Re a8))) func218 (it:=λN=>X9 N) (λN=>(bn (VD N) bD)) jx.b jx.vo
def aeb:=en [(217,HO),(258,Ss),(218,Sj)] [(2,[1,2,3])]
def nF:Fn [.B,.I,.I,.R,.R,.R,.R,.I,.R,.R,.I] Tb:=λa b c d e f g h i j k=>[cP 2 0,cA 4 (.b a),cI 6 b,oB 1 [.n c,.sh 51 d,.sh 9 e,.sh 9 f,.sh 45 g,.n h,.sh 127 i,.sh 55 j,.n k]]
def OZ(N:Nat)(K:Kt R):=nk.l2 N (J nF .ret K) (J nF (.exit 0) K)
def X7(N:Nat):It R:=(lp 2 (al nF (λK=>OZ N K N) an) ln)
theorem VB(N:Nat):b6 aeb (X7 N (R:=R)) (bQ f215 2):=lq 2 nF (OZ N) λK g=>nk.r2 N g (J nF .ret K) (J nF (.exit 0) K)
def ZU:=dL N6 pT nk.c nk.v
theorem af8:FO 215 ZU:=fq (E:=aeb) (aK LA (aK YX (aK YQ a8))) func215 (it:=λN=>X7 N) (λN=>(bn (VB N) bD)) nk.b nk.vo
def aec:=en [(162,B5),(49,vj)] [(5,[1,2,4,5,6])]
def Ct:Fn [.I,.R,.R,.R,.R,.I,.R,.R,.I,.I] As:=λa b c d e f g h i j=>[aV [.n a,.sh 51 b,.sh 9 c,.sh 9 d,.sh 45 e,.n f,.sh 127 g,.sh 55 h,.n i],aI j]
def xS:Fn [.I,.B,.I,.I,.R,.R,.R,.R,.I,.R,.R,.I,.S,.S,.I,.I,.I] Tb:=λa b c d e f g h i j k l m o p q r=>[cI 2 a,cP 4 0,cA 8 (.b b),cP 10 1,cI 12 c,oB 1 [.n d,.sh 51 e,.sh 9 f,.sh 9 g,.sh 45 h,.n i,.sh 127 j,.sh 55 k,.n l],oB 3 [.s m,.s o,.n p,.n q,.n r]]
def O0(N:Nat)(K:Kt R):=np.l5 N (J xS .ret K) (J xS (.exit 0) K)
def X8(N:Nat):It R:=(lp 5 (al xS (λK=>O0 N K N) an) ln)
theorem VC(N:Nat):b6 aec (X8 N (R:=R)) (bQ f216 5):=lq 5 xS (O0 N) λK g=>np.r5 N g (J xS .ret K) (J xS (.exit 0) K)
def ZV:=dL Ct pT np.c np.v
theorem af9:FO 216 ZV:=fq (E:=aec) (aK DC (aK uv a8)) func216 (it:=λN=>X8 N) (λN=>(bn (VC N) bD)) np.b np.vo
def aat:=en [(49,vj),(215,ZU),(216,ZV),(162,B5)] [(4,[1,2,3]),(9,[1,2,4])]
def xO:Fn [.B,.I,.I,.R,.R,.R,.R,.I,.R,.R,.I] Tb:=λa b c d e f g h i j k=>[cP 2 0,cA 4 (.b a),cI 8 b,oB 1 [.n c,.sh 51 d,.sh 9 e,.sh 9 f,.sh 45 g,.n h,.sh 127 i,.sh 55 j,.n k]]
def OC(N:Nat)(K:Kt R):=jm.l4 N (J nF .ret K) (J nF (.exit 0) K)
def OD(N:Nat)(K:Kt R):=jm.l9 N (J xO .ret K) (J xO (.exit 2) K)
def Qw(N:Nat):It R:=(lp 4 (al nF (λK=>OC N K N) an) (lp 9 (al xO (λK=>OD N K N) an) ln))
theorem Vg(N:Nat):b6 aat (Qw N (R:=R)) (bQ f161 4):=lq 4 nF (OC N) λK g=>jm.r4 N g (J nF .ret K) (J nF (.exit 0) K)
theorem Vh(N:Nat):b6 aat (Qw N (R:=R)) (bQ f161 9):=lq 9 xO (OD N) λK g=>jm.r9 N g (J xO .ret K) (J xO (.exit 2) K)
def R8:=dL N6 pT jm.c jm.v
theorem YF:FO 161 R8:=fq (E:=aat) (aK uv (aK af8 (aK af9 (aK DC a8)))) func161 (it:=λN=>Qw N) (λN=>(bn (Vg N) (bn (Vh N) bD))) jm.b jm.vo
def ad2:=en [] [(2,[1,2,4,5,6])]
def adr:Fn [.I,.R,.R,.R,.R,.I,.R,.R,.I,.S] As:=λa b c d e f g h i j=>[aV [.n a,.sh 51 b,.sh 9 c,.sh 9 d,.sh 45 e,.n f,.sh 127 g,.sh 55 h,.n i],aS j]
def abv:Fn [.S,.I,.I,.S,.B] iQ:=λa b c d e=>⟨[aV [.s a,.n b,.n c,.s d],aB e],[]⟩
def xP:Fn [.S,.B,.I,.I,.R,.R,.R,.R,.I,.R,.R,.I,.S,.I,.I,.S] Tb:=λa b c d e f g h i j k l m o p q=>[cA 2 (.s a),cP 4 0,cP 8 1,cA 10 (.b b),cI 12 c,oB 1 [.n d,.sh 51 e,.sh 9 f,.sh 9 g,.sh 45 h,.n i,.sh 127 j,.sh 55 k,.n l],oB 3 [.s m,.n o,.n p,.s q]]
def OE(N:Nat)(K:Kt R):=vN.l2 N (J xP .ret K) (J xP (.exit 0) K)
def XV(N:Nat):It R:=(lp 2 (al xP (λK=>OE N K N) an) ln)
theorem Vi(N:Nat):b6 ad2 (XV N (R:=R)) (bQ f163 2):=lq 2 xP (OE N) λK g=>vN.r2 N g (J xP .ret K) (J xP (.exit 0) K)
def Zy:=dL adr abv vN.c vN.v
theorem afM:FO 163 Zy:=fq (E:=ad2) a8 func163 (it:=λN=>XV N) (λN=>(bn (Vi N) bD)) vN.b vN.vo
def ai6:=en [(217,HO),(49,vj)] []
def ads:Fn [.S,.I,.I,.S,.I] As:=λa b c d e=>[aV [.s a,.n b,.n c,.s d],aI e]
def LQ:=dL ads pT (ct _) ug.v
theorem Q9:FO 164 LQ:=ft (E:=ai6) (aK LA (aK uv a8)) func164 ug.b λ(a0,a1,a2,a3,a4,_)=>ug.dW _ a0 a1 a2 a3 a4
def aax:=en [] [(2,[0,1,5]),(6,[0,1,5,6])]
def adJ:Fn [.I,.S] As:=λa b=>[.v false [.i .u32 a],aS b]
def UL:Fn [.I] iQ:=λa=>⟨[.v false [.i .u32 a]],[]⟩
def sq:Fn [.I,.S,.I] Tb:=λa b c=>[cA 0 (.i .u32 a),cA 2 (.s b),cI 10 c]
def EM:Fn [.I,.S,.I,.I] Tb:=λa b c d=>[cA 0 (.i .u32 a),cA 2 (.s b),cI 10 c,cI 12 d]
def Pv(N:Nat)(K:Kt R):=jy.l2 N (J sq (.exit 0) K)
def Pw(N:Nat)(K:Kt R):=jy.l6 N (J EM (.exit 2) K)
def QF(N:Nat):It R:=(lp 2 (al sq (λK=>Pv N K N) an) (lp 6 (al EM (λK=>Pw N K N) an) ln))
theorem V0(N:Nat):b6 aax (QF N (R:=R)) (bQ f276 2):=lq 2 sq (Pv N) λK g=>jy.r2 N g (J sq (.exit 0) K)
theorem V1(N:Nat):b6 aax (QF N (R:=R)) (bQ f276 6):=lq 6 EM (Pw N) λK g=>jy.r6 N g (J EM (.exit 2) K)
def aab:=dL adJ UL jy.c jy.v
theorem agt:FO 276 aab:=fq (E:=aax) a8 func276 (it:=λN=>QF N) (λN=>(bn (V0 N) (bn (V1 N) bD))) jy.b jy.vo
def ajt:=en [(276,aab)] []
def Su:=dL Ay UL u0.c u0.v
theorem YY:FO 259 Su:=fr (E:=ajt) (aK agt a8) func259 u0.b u0.vo
def ajj:=en [(259,Su)] []
def adB:Fn [.I,.S] As:=λa b=>[aI a,aS b]
def wo:Fn [.I] iQ:=λa=>⟨[aI a],[]⟩
def Sl:=dL adB wo f_.c f_.v
theorem YS:FO 223 Sl:=fr (E:=ajj) (aK YY a8) func223 f_.b f_.vo
def TC:=en [(180,LU),(222,LX),(223,Sl)] [(5,[1,4,5,6]),(14,[4,5,8]),(17,[4,5,8,9])]
def Tq:Fn [.R,.I,.S] As:=λa b c=>[aV [.sh 45 a,.n b],aS c]
def Ep:Fn [.S,.I,.I,.I,.R] Tb:=λa b c d e=>[cA 2 (.s a),cP 8 0,cP 10 1,cI 12 b,oB 1 [.nl,.n c],oB 3 [.own 2,.n d],oR 5 45 e]
def zS:Fn [.I,.I,.I,.R] Tb:=λa b c d=>[cP 8 0,cP 10 1,cI 16 a,oB 1 [.nl,.n b],oB 3 [.own 2,.n c],oR 5 45 d]
def zT:Fn [.I,.I,.I,.I,.R] Tb:=λa b c d e=>[cP 8 0,cP 10 1,cI 16 a,cI 18 b,oB 1 [.nl,.n c],oB 3 [.own 2,.n d],oR 5 45 e]
def OJ(N:Nat)(K:Kt R):=dp.l5 N (J Ep (.exit 0) K)
def Kc(N:Nat)(K:Kt R):=dp.l14 N (J zS (.exit 2) K)
def Kd(N:Nat)(K:Kt R):=dp.l17 N (J zT (.exit 4) K)
def Lj(N:Nat):It R:=(lp 5 (al Ep (λK=>OJ N K N) an) (lp 14 (al zS (λK=>Kc N K N) an) (lp 17 (al zT (λK=>Kd N K N) an) ln)))
theorem Vm(N:Nat):b6 TC (Lj N (R:=R)) (bQ f169 5):=lq 5 Ep (OJ N) λK g=>dp.r5 N g (J Ep (.exit 0) K)
theorem QR(N:Nat):b6 TC (Lj N (R:=R)) (bQ f169 14):=lq 14 zS (Kc N) λK g=>dp.r14 N g (J zS (.exit 2) K)
theorem QS(N:Nat):b6 TC (Lj N (R:=R)) (bQ f169 17):=lq 17 zT (Kd N) λK g=>dp.r17 N g (J zT (.exit 4) K)
def Sa:=dL Tq M0 dp.c dp.v
theorem YI:FO 169 Sa:=fq (E:=TC) (aK Ra (aK Re (aK YS a8))) func169 (it:=λN=>Lj N) (λN=>(bn (Vm N) (bn (QR N) (bn (QS N) bD)))) dp.b dp.vo
def TF:=en [] [(3,[0,1,5,6])]
def EC:Fn [.R,.S,.I,.R] Tb:=λa b c d=>[cH 0 9 a,cA 2 (.s b),cA 10 (.own 0),cI 12 c,oR 1 9 d]
def O3(N:Nat)(K:Kt R):=oK.l3 N (J EC (.exit 0) K)
def X'(N:Nat):It R:=(lp 3 (al EC (λK=>O3 N K N) an) ln)
theorem VF(N:Nat):b6 TF (X' N (R:=R)) (bQ f220 3):=lq 3 EC (O3 N) λK g=>oK.r3 N g (J EC (.exit 0) K)
def Sk:=dL N4 k22 oK.c oK.v
theorem YR:FO 220 Sk:=fq (E:=TF) a8 func220 (it:=λN=>X' N) (λN=>(bn (VF N) bD)) oK.b oK.vo
def aef:=en [(222,LX),(223,Sl)] [(5,[1,2,5,6])]
def ED:Fn [.S,.I,.I,.R,.I] Tb:=λa b c d e=>[cA 2 (.s a),cP 4 0,cI 10 b,cI 12 c,oB 1 [.sh 45 d,.n e]]
def O4(N:Nat)(K:Kt R):=lY.l5 N (J ED (.exit 0) K)
def Ya(N:Nat):It R:=(lp 5 (al ED (λK=>O4 N K N) an) ln)
theorem VG(N:Nat):b6 aef (Ya N (R:=R)) (bQ f221 5):=lq 5 ED (O4 N) λK g=>lY.r5 N g (J ED (.exit 0) K)
def ZW:=dL Tq wo lY.c lY.v
theorem af_:FO 221 ZW:=fq (E:=aef) (aK Re (aK YS a8)) func221 (it:=λN=>Ya N) (λN=>(bn (VG N) bD)) lY.b lY.vo
def ai7:=en [(120,RX),(218,Sj),(162,B5),(169,Sa),(219,LW),(220,Sk),(221,ZW)] []
def ae7:Fn [.R,.R,.R,.I,.S] iQ:=λa b c d e=>⟨[aV [.ow 9 true a,.ow 9 true b,.ow 45 true c,.n d],aS e],[]⟩
def R9:=dL Mj ae7 eH.c eH.v
theorem YG:FO 165 R9:=fr (E:=ai7) (aK Yu (aK YQ (aK DC (aK YI (aK Rc (aK YR (aK af_ a8))))))) func165 eH.b eH.vo
def Mo:=en [] [(3,[0,3,5,6]),(9,[0,3,5,7])]
def aiD:Fn [.R,.I,.S,.I,.I,.I,.S,.I] As:=λa b c d e f g h=>[aH 55 a,aV [.n b,.s c,.n d,.n e,.n f,.s g,.n h]]
def aj7:Fn [.R] iQ:=λa=>⟨[aO 55 a],[]⟩
def El:Fn [.R,.I,.I,.S,.I,.I,.I,.S,.I,.R] Tb:=λa b c d e f g h i j=>[cH 0 55 a,cP 6 0,cA 10 (.own 1),cI 12 b,oB 1 [.n c,.s d,.n e,.n f,.n g,.s h,.n i],oR 3 55 j]
def Em:Fn [.R,.I,.I,.S,.I,.I,.I,.S,.I,.R] Tb:=λa b c d e f g h i j=>[cH 0 55 a,cP 6 0,cA 10 (.own 1),cI 14 b,oB 1 [.n c,.s d,.n e,.n f,.n g,.s h,.n i],oR 3 55 j]
def OG(N:Nat)(K:Kt R):=lh.l3 N (J El (.exit 0) K)
def OH(N:Nat)(K:Kt R):=lh.l9 N (J Em (.exit 2) K)
def Qx(N:Nat):It R:=(lp 3 (al El (λK=>OG N K N) an) (lp 9 (al Em (λK=>OH N K N) an) ln))
theorem Vj(N:Nat):b6 Mo (Qx N (R:=R)) (bQ f166 3):=lq 3 El (OG N) λK g=>lh.r3 N g (J El (.exit 0) K)
theorem Vk(N:Nat):b6 Mo (Qx N (R:=R)) (bQ f166 9):=lq 9 Em (OH N) λK g=>lh.r9 N g (J Em (.exit 2) K)
def Zz:=dL aiD aj7 lh.c lh.v
theorem afN:FO 166 Zz:=fq (E:=Mo) a8 func166 (it:=λN=>Qx N) (λN=>(bn (Vj N) (bn (Vk N) bD))) lh.b lh.vo
def adt:Fn [.R,.S] As:=λa b=>[aH 51 a,aS b]
def I':Fn [.R] iQ:=λa=>⟨[aO 51 a],[]⟩
def Eo:Fn [.R,.S,.I,.R] Tb:=λa b c d=>[cH 0 51 a,cA 2 (.s b),cA 10 (.own 0),cI 12 c,oR 1 51 d]
def OI(N:Nat)(K:Kt R):=pL.l3 N (J Eo (.exit 0) K)
def XW(N:Nat):It R:=(lp 3 (al Eo (λK=>OI N K N) an) ln)
theorem Vl(N:Nat):b6 TF (XW N (R:=R)) (bQ f167 3):=lq 3 Eo (OI N) λK g=>pL.r3 N g (J Eo (.exit 0) K)
def R_:=dL adt I' pL.c pL.v
theorem YH:FO 167 R_:=fq (E:=TF) a8 func167 (it:=λN=>XW N) (λN=>(bn (Vl N) bD)) pL.b pL.vo
def ai8:=en [(220,Sk),(180,LU)] []
def ZA:=dL Mj k66 uh.c uh.v
theorem afO:FO 168 ZA:=fr (E:=ai8) (aK YR (aK Ra a8)) func168 uh.b uh.vo
def aar:=en [(68,JI),(161,R8),(49,vj),(162,B5),(163,Zy),(164,LQ),(165,R9),(166,Zz),(167,R_),(168,ZA),(169,Sa)] [(5,[1,2,3,6,7,8,9]),(22,[2,3,6,8,10,12,13])]
def Tp:Fn [.I,.R,.R,.R,.R,.I,.R,.R,.I,.I,.S] As:=λa b c d e f g h i j k=>[aV [.n a,.sh 51 b,.sh 9 c,.sh 9 d,.sh 45 e,.n f,.sh 127 g,.sh 55 h,.n i],aI j,aS k]
def ae6:Fn [.I,.R,.R,.R,.R,.I,.R,.R,.I,.I] iQ:=λa b c d e f g h i j=>⟨[aV [.n a,.ow 51 true b,.ow 9 true c,.ow 9 true d,.ow 45 true e,.n f,.ow 127 true g,.ow 55 true h,.n i],aI j],[]⟩
def Ee:Fn [.I,.S,.I,.I,.I,.R,.R,.R,.R,.I,.R,.R,.I,.I,.I,.I,.I,.I,.I,.R,.R,.R,.R,.R,.R] Tb:=λa b c d e f g h i j k l m o p q r s t u v w x y z=>[cI 2 a,cA 4 (.s b),cP 6 0,cP 12 1,cI 14 c,cP 16 2,cI 18 d,oB 1 [.n e,.sh 51 f,.sh 9 g,.sh 9 h,.sh 45 i,.n j,.sh 127 k,.sh 55 l,.n m],oB 3 [.n o,.nl,.nl,.nl,.nl,.n p,.nl,.nl,.n q],oB 5 [.n r,.own 3,.own 4,.own 5,.own 6,.n s,.own 7,.own 8,.n t],oR 7 51 u,oR 9 9 v,oR 11 9 w,oR 13 45 x,oR 15 127 y,oR 17 55 z]
def GF:Fn [.I,.S,.I,.I,.I,.R,.R,.R,.R,.I,.R,.R,.I,.I,.I,.I,.I,.I,.I,.R,.R,.R,.R,.R,.R] Tb:=λa b c d e f g h i j k l m o p q r s t u v w x y z=>[cI 2 a,cA 4 (.s b),cP 6 0,cP 12 1,cI 14 c,cP 16 2,cI 18 d,oB 1 [.n e,.sh 51 f,.sh 9 g,.sh 9 h,.sh 45 i,.n j,.sh 127 k,.sh 55 l,.n m],oB 3 [.n o,.own 3,.own 4,.own 5,.own 6,.n p,.own 7,.own 8,.n q],oB 5 [.n r,.own 3,.own 4,.own 5,.own 6,.n s,.own 7,.own 8,.n t],oR 7 51 u,oR 9 9 v,oR 11 9 w,oR 13 45 x,oR 15 127 y,oR 17 55 z]
def zR:Fn [.S,.B,.I,.I,.R,.R,.R,.R,.I,.R,.R,.I,.I,.I,.I,.I,.I,.I,.I,.S,.I,.I,.I,.S,.I,.R,.R,.R,.R,.R,.R] Tb:=λa b c d e f g h i j k l m o p q r s t u v w x y z aa ab ac ad ae af=>[cA 4 (.s a),cP 6 0,cP 12 1,cP 16 2,cP 20 3,cA 24 (.b b),cI 26 c,oB 1 [.n d,.sh 51 e,.sh 9 f,.sh 9 g,.sh 45 h,.n i,.sh 127 j,.sh 55 k,.n l],oB 3 [.n m,.nl,.nl,.nl,.nl,.n o,.nl,.nl,.n p],oB 5 [.n q,.own 4,.own 5,.own 6,.own 7,.n r,.own 8,.own 9,.n s],oB 7 [.n t,.s u,.n v,.n w,.n x,.s y,.n z],oR 9 51 aa,oR 11 9 ab,oR 13 9 ac,oR 15 45 ad,oR 17 127 ae,oR 19 55 af]
def Of(N:Nat)(K:Kt R):=vJ.l5 N (J GF .ret K) (J Ee (.exit 0) K)
def J'(N:Nat)(K:Kt R):=vJ.UO N (J zR (.exit 2) K)
def Qu(N:Nat):It R:=(lp 5 (al Ee (λK=>Of N K N) an) (lp 22 (al zR (λK=>J' N K N) an) ln))
theorem UX(N:Nat):b6 aar (Qu N (R:=R)) (bQ f112 5):=lq 5 Ee (Of N) λK g=>vJ.r5 N g (J GF .ret K) (J Ee (.exit 0) K)
theorem QQ(N:Nat):b6 aar (Qu N (R:=R)) (bQ f112 22):=lq 22 zR (J' N) λK g=>vJ.r22 N g (J zR (.exit 2) K)
def Ze:=dL Tp ae6 vJ.c vJ.v
theorem afs:FO 112 Ze:=fq (E:=aar) (aK Jl (aK YF (aK uv (aK DC (aK afM (aK Q9 (aK YG (aK afN (aK YH (aK afO (aK YI a8))))))))))) func112 (it:=λN=>Qu N) (λN=>(bn (UX N) (bn (QQ N) bD))) vJ.b vJ.vo
def ai9:=en [(161,R8),(49,vj)] []
def LR:=dL Ct pT ui.c ui.v
theorem Q_:FO 170 LR:=fr (E:=ai9) (aK YF (aK uv a8)) func170 ui.b ui.vo
def Tt:Fn [.I,.S,.R] As:=λa b c=>[aV [.n a,.s b,.sh 219 c]]
def ae_:Fn [.I,.S,.R] iQ:=λa b c=>⟨[aV [.n a,.s b,.ow 219 true c]],[]⟩
def ZX:=dL Tt ae_ Iq.c Iq.v
theorem af':FO 224 ZX:=fh (E:=zK) a8 func224 (it:=λ_=>ln) (λ_=>bD) (λ_=>Iq.b) λx f h=>⟨0,Iq.dW _ x.1 x.2.1 x.2.2.1 h⟩
def aeg:=en [(49,vj)] [(2,[1,2,3])]
def xX:Fn [.B,.I,.I,.S,.R] Tb:=λa b c d e=>[cP 2 0,cA 4 (.b a),cI 6 b,oB 1 [.n c,.s d,.sh 219 e]]
def O7(N:Nat)(K:Kt R):=kW.l2 N (J xX .ret K) (J xX (.exit 0) K)
def Yb(N:Nat):It R:=(lp 2 (al xX (λK=>O7 N K N) an) ln)
theorem VJ(N:Nat):b6 aeg (Yb N (R:=R)) (bQ f225 2):=lq 2 xX (O7 N) λK g=>kW.r2 N g (J xX .ret K) (J xX (.exit 0) K)
def ZY:=dL Tt pT (ct _) kW.v
theorem agb:FO 225 ZY:=fh (E:=aeg) (aK uv a8) func225 (it:=λN=>Yb N) (λN=>(bn (VJ N) bD)) kW.b λx f h=>kW.dW _ x.1 x.2.1 x.2.2.1 f.1.2.1 f.1.2.2.1
def ai_:=en [(224,ZX),(225,ZY),(49,vj)] []
def adu:Fn [.I,.S,.R,.S] As:=λa b c d=>[aV [.n a,.s b,.sh 219 c],aS d]
def ae8:Fn [.I,.S,.R,.B] iQ:=λa b c d=>⟨[aV [.n a,.s b,.ow 219 true c],aB d],[]⟩
def ZB:=dL adu ae8 ES.c ES.v
theorem afP:FO 171 ZB:=fh (E:=ai_) (aK af' (aK agb (aK uv a8))) func171 (it:=λ_=>ln) (λ_=>bD) (λ_=>ES.b) λx f h=>⟨0,ES.dW _ x.1 x.2.1 x.2.2.1 x.2.2.2.1 h f.1.2.1 f.1.2.2.1 f.2.1.1⟩
def ad3:=en [] [(1,[0,1,2,6])]
def adv:Fn [.I,.R,.R,.R,.R,.I,.R,.R,.I,.I,.I] As:=λa b c d e f g h i j k=>[.pt [.n a,.ow 51 true b,.ow 9 true c,.ow 9 true d,.ow 45 true e,.n f,.ow 127 true g,.ow 55 true h,.n i],aI j,aI k]
def abw:Fn [.I,.R,.R,.R,.R,.I,.R,.R,.I] iQ:=λa b c d e f g h i=>⟨[],[[.n a,.kp b,.kp c,.kp d,.kp e,.n f,.kp g,.kp h,.n i]]⟩
def Er:Fn [.I,.I,.I,.I,.I,.I,.R,.R,.R,.R,.R,.R] Tb:=λa b c d e f g h i j k l=>[cP 0 900000900,cI 2 a,cI 4 b,cI 12 c,oB 1800001801 [.n d,.own 900000001,.own 900000002,.own 900000003,.own 900000004,.n e,.own 900000006,.own 900000007,.n f],oR 1800000003 51 g,oR 1800000005 9 h,oR 1800000007 9 i,oR 1800000009 45 j,oR 1800000013 127 k,oR 1800000015 55 l]
def OK(N:Nat)(K:Kt R):=rT.l1 N (J Er (.exit 0) K)
def XX(N:Nat):It R:=(lp 1 (al Er (λK=>OK N K N) an) ln)
theorem Vn(N:Nat):b6 ad3 (XX N (R:=R)) (bQ f172 1):=lq 1 Er (OK N) λK g=>rT.r1 N g (J Er (.exit 0) K)
def LS:=dL adv abw rT.c rT.v
theorem Q':FO 172 LS:=fq (E:=ad3) a8 func172 (it:=λN=>XX N) (λN=>(bn (Vn N) bD)) rT.b rT.vo
def aiR:=en [(68,JI),(170,LR),(171,ZB),(172,LS)] []
def M1:Fn [.I,.R,.R,.R,.R,.I,.R,.R,.I,.B] iQ:=λa b c d e f g h i j=>⟨[aV [.n a,.ow 51 true b,.ow 9 true c,.ow 9 true d,.ow 45 true e,.n f,.ow 127 true g,.ow 55 true h,.n i],aB j],[]⟩
def Zf:=dL Tp M1 Cx.c Cx.v
theorem aft:FO 113 Zf:=fr (E:=aiR) (aK Jl (aK Q_ (aK afP (aK Q' a8)))) func113 Cx.b Cx.vo
def adE:Fn [.R,.S,.I,.I,.S] As:=λa b c d e=>[aH 51 a,aV [.s b,.n c,.n d,.s e]]
def EF:Fn [.R,.I,.S,.I,.I,.S,.R] Tb:=λa b c d e f g=>[cH 0 51 a,cP 6 0,cA 10 (.own 1),cI 12 b,oB 1 [.s c,.n d,.n e,.s f],oR 3 51 g]
def EG:Fn [.R,.I,.S,.I,.I,.S,.R] Tb:=λa b c d e f g=>[cH 0 51 a,cP 6 0,cA 10 (.own 1),cI 14 b,oB 1 [.s c,.n d,.n e,.s f],oR 3 51 g]
def O_(N:Nat)(K:Kt R):=fK.l3 N (J EF (.exit 0) K)
def Pb(N:Nat)(K:Kt R):=fK.l9 N (J EG (.exit 2) K)
def QA(N:Nat):It R:=(lp 3 (al EF (λK=>O_ N K N) an) (lp 9 (al EG (λK=>Pb N K N) an) ln))
theorem VM(N:Nat):b6 Mo (QA N (R:=R)) (bQ f234 3):=lq 3 EF (O_ N) λK g=>fK.r3 N g (J EF (.exit 0) K)
theorem VN(N:Nat):b6 Mo (QA N (R:=R)) (bQ f234 9):=lq 9 EG (Pb N) λK g=>fK.r9 N g (J EG (.exit 2) K)
def Sq:=dL adE I' fK.c fK.v
theorem YV:FO 234 Sq:=fq (E:=Mo) a8 func234 (it:=λN=>QA N) (λN=>(bn (VM N) (bn (VN N) bD))) fK.b fK.vo
def ajk:=V9 T md [(165,R9),(167,R_),(258,Ss),(234,Sq)] [] [] [(0,1,.own 51),(0,2,.own 9),(0,3,.own 9),(0,4,.own 45)]
def adC:Fn [.I,.R,.R,.R,.R,.I,.R,.R,.I,.S,.I,.I,.S] As:=λa b c d e f g h i j k l m=>[.pt [.n a,.ow 51 true b,.ow 9 true c,.ow 9 true d,.ow 45 true e,.n f,.ow 127 true g,.ow 55 true h,.n i],aV [.s j,.n k,.n l,.s m]]
def ae':Fn [.I,.R,.R,.R,.R,.I,.R,.R,.I] iQ:=λa b c d e f g h i=>⟨[],[[.n a,.ow 51 true b,.ow 9 true c,.ow 9 true d,.ow 45 true e,.n f,.kp g,.kp h,.n i]]⟩
def Sm:=dL adC ae' yi.c yi.v
theorem YT:FO 226 Sm:=fr (E:=ajk) (aK YG (aK YH (aK YX (aK YV a8)))) func226 yi.b yi.vo
def ai':=en [(68,JI),(170,LR),(49,vj),(172,LS),(226,Sm)] []
def adw:Fn [.I,.R,.R,.R,.R,.I,.R,.R,.I,.I,.I] As:=λa b c d e f g h i j k=>[aV [.n a,.sh 51 b,.sh 9 c,.sh 9 d,.sh 45 e,.n f,.sh 127 g,.sh 55 h,.n i],aI j,aI k]
def ZC:=dL adw M1 CA.c CA.v
theorem afQ:FO 173 ZC:=fr (E:=ai') (aK Jl (aK Q_ (aK uv (aK Q' (aK YT a8))))) func173 CA.b CA.vo
def aen:=en [] [(2,[0,3])]
def EK:Fn [.I,.R] Tb:=λa b=>[cI 0 a,cA 6 (.own 0),oR 1 5 b]
def Pn(N:Nat)(K:Kt R):=jZ.l2 N (J EK (.exit 0) K)
def Yh(N:Nat):It R:=(lp 2 (al EK (λK=>Pn N K N) an) ln)
theorem VU(N:Nat):b6 aen (Yh N (R:=R)) (bQ f260 2):=lq 2 EK (Pn N) λK g=>jZ.r2 N g (J EK (.exit 0) K)
def L1:=dL Tv I_ jZ.c jZ.v
theorem Rk:FO 260 L1:=fh (E:=aen) a8 func260 (it:=λN=>Yh N) (λN=>(bn (VU N) bD)) jZ.b λx f h=>jZ.dW _ x.1 h
def ajl:=en [(217,HO),(260,L1)] []
def Fq:Fn [.S,.B] iQ:=λa b=>⟨[aS a,aB b],[]⟩
def LY:=dL H_ Fq (ct _) jr.v
theorem Rf:FO 227 LY:=fh (E:=ajl) (aK LA (aK Rk a8)) func227 (it:=λ_=>ln) (λ_=>bD) (λ_=>jr.b) λx f h=>⟨0,jr.dW _ x.1 x.2.1 x.2.2.1 x.2.2.2.1⟩
def aiM:Fn [.I] As:=λa=>[.v false [.i .u32 a]]
def Z9:=dL aiM I_ (ct _) oL.v
theorem agp:FO 261 Z9:=ft (E:=zK) a8 func261 oL.b λ(a0,_)=>oL.dW _ a0
def ajm:=en [(49,vj),(260,L1),(259,Su),(261,Z9)] []
def LZ:=dL Ay Fq fj.c fj.v
theorem Rg:FO 228 LZ:=fr (E:=ajm) (aK uv (aK Rk (aK YY (aK agp a8)))) func228 fj.b fj.vo
def aja:=en [(227,LY),(228,LZ)] []
def UJ:Fn [.R,.B] iQ:=λa b=>⟨[aO 184 a,aB b],[]⟩
def ZD:=dL H_ UJ CB.c CB.v
theorem afR:FO 174 ZD:=fr (E:=aja) (aK Rf (aK Rg a8)) func174 CB.b CB.vo
def Sv:=dL Ay pT (ct _) u5.v
theorem YZ:FO 262 Sv:=ft (E:=E25) (aK uv a8) func262 u5.b λ(a0,_)=>u5.dW _ a0
def aeh:=en [(262,Sv),(49,vj)] [(4,[1,2,3])]
def N5:Fn [.R] As:=λa=>[aV [.sh 189 a]]
def xY:Fn [.B,.I,.R] Tb:=λa b c=>[cP 2 0,cA 4 (.b a),cI 6 b,oB 1 [.sh 189 c]]
def O8(N:Nat)(K:Kt R):=fD.l4 N (J xY .ret K) (J xY (.exit 0) K)
def Yc(N:Nat):It R:=(lp 4 (al xY (λK=>O8 N K N) an) ln)
theorem VK(N:Nat):b6 aeh (Yc N (R:=R)) (bQ f230 4):=lq 4 xY (O8 N) λK g=>fD.r4 N g (J xY .ret K) (J xY (.exit 0) K)
def HQ:=dL N5 pT fD.c fD.v
theorem LB:FO 230 HQ:=fq (E:=aeh) (aK YZ (aK uv a8)) func230 (it:=λN=>Yc N) (λN=>(bn (VK N) bD)) fD.b fD.vo
def aeo:=en [] [(2,[1,2,4,5])]
def Mk:Fn [.R,.S] As:=λa b=>[aV [.sh 189 a],aS b]
def x_:Fn [.S,.I,.I,.R] Tb:=λa b c d=>[cA 2 (.s a),cP 4 0,cI 8 b,cI 10 c,oB 1 [.sh 189 d]]
def Po(N:Nat)(K:Kt R):=j0.l2 N (J x_ .ret K) (J x_ (.exit 0) K)
def Yi(N:Nat):It R:=(lp 2 (al x_ (λK=>Po N K N) an) ln)
theorem VV(N:Nat):b6 aeo (Yi N (R:=R)) (bQ f263 2):=lq 2 x_ (Po N) λK g=>j0.r2 N g (J x_ .ret K) (J x_ (.exit 0) K)
def Sw:=dL Mk wo j0.c j0.v
theorem Y0:FO 263 Sw:=fq (E:=aeo) a8 func263 (it:=λN=>Yi N) (λN=>(bn (VV N) bD)) j0.b j0.vo
def N9:=en [] [(3,[2,3,4,5,6]),(9,[2,3,4,5,7])]
def adI:Fn [.R,.S,.S,.I] As:=λa b c d=>[aV [.sh 189 a],aV [.s b,.s c,.n d]]
def QJ:Fn [.R] iQ:=λa=>⟨[aV [.ow 189 true a]],[]⟩
def qO:Fn [.I,.R,.S,.S,.I] Tb:=λa b c d e=>[cP 4 0,cP 6 1,cP 8 2,cP 10 3,cI 12 a,oB 1 [.sh 189 b],oB 3 [.s c,.s d,.n e],oB 5 [.nl],oB 7 [.nl]]
def n5:Fn [.I,.R,.S,.S,.I,.R] Tb:=λa b c d e f=>[cP 4 0,cP 6 1,cP 8 2,cP 10 3,cI 12 a,oB 1 [.sh 189 b],oB 3 [.s c,.s d,.n e],oB 5 [.nl],oB 7 [.own 4],oR 9 189 f]
def EL:Fn [.I,.R,.S,.S,.I,.R] Tb:=λa b c d e f=>[cP 4 0,cP 6 1,cP 8 2,cP 10 3,cI 14 a,oB 1 [.sh 189 b],oB 3 [.s c,.s d,.n e],oB 5 [.nl],oB 7 [.own 4],oR 9 189 f]
def Pp(N:Nat)(K:Kt R):=kG.l3 N (J qO (.exit 0) K) (J n5 (.exit 0) K)
def Kk(N:Nat)(K:Kt R):=kG.nT N (J qO (.exit 0) K) (J n5 (.exit 0) K)
def Pq(N:Nat)(K:Kt R):=kG.l9 N (J EL (.exit 2) K)
def Hg(N:Nat):It R:=(lp 3 (al qO (λK=>Pp N K N) (al n5 (λK=>Kk N K N) an)) (lp 9 (al EL (λK=>Pq N K N) an) ln))
theorem Me(N:Nat)(K:Kt R):Wd N9 (Hg N) (bQ f264 3) 3 K n5 (Kk N K):=lw (λg=>kG.uw N (cmp _ qO (g∘eP)) (cmp _ n5 (g∘eP)) (J qO (.exit 0) K) (J n5 (.exit 0) K)) λm i=>by simp only[Function.comp_def,wf i];rfl
theorem acP(N:Nat)(K:Kt R):Wd N9 (Hg N) (bQ f264 3) 3 K qO (Pp N K):=lw (λg=>kG.r3 N (cmp _ qO (g∘eP)) (cmp _ n5 (g∘eP)) (J qO (.exit 0) K) (J n5 (.exit 0) K)) λm i=>by simp only[Function.comp_def,wf i,wf (Me N K m)];rfl
theorem VW(N:Nat):b6 N9 (Hg N (R:=R)) (bQ f264 3):=lm 3 (ga qO (acP N) (ga n5 (Me N) mn))
theorem VX(N:Nat):b6 N9 (Hg N (R:=R)) (bQ f264 9):=lq 9 EL (Pq N) λK g=>kG.r9 N g (J EL (.exit 2) K)
def Z_:=dL adI QJ kG.c kG.v
theorem agq:FO 264 Z_:=fq (E:=N9) a8 func264 (it:=λN=>Hg N) (λN=>(bn (VW N) (bn (VX N) bD))) kG.b kG.vo
def TG:=en [] [(3,[1,2,4,5,6])]
def qP:Fn [.S,.I,.R] Tb:=λa b c=>[cA 2 (.s a),cP 4 0,cP 8 1,cP 10 2,cI 12 b,oB 1 [.sh 189 c],oB 3 [.nl],oB 5 [.nl]]
def n6:Fn [.S,.I,.R,.R] Tb:=λa b c d=>[cA 2 (.s a),cP 4 0,cP 8 1,cP 10 2,cI 12 b,oB 1 [.sh 189 c],oB 3 [.nl],oB 5 [.own 3],oR 7 189 d]
def Ps(N:Nat)(K:Kt R):=lZ.l3 N (J qP (.exit 0) K) (J n6 (.exit 0) K)
def Kl(N:Nat)(K:Kt R):=lZ.nT N (J qP (.exit 0) K) (J n6 (.exit 0) K)
def Lm(N:Nat):It R:=(lp 3 (al qP (λK=>Ps N K N) (al n6 (λK=>Kl N K N) an)) ln)
theorem Mf(N:Nat)(K:Kt R):Wd TG (Lm N) (bQ f265 3) 3 K n6 (Kl N K):=lw (λg=>lZ.uw N (cmp _ qP (g∘eP)) (cmp _ n6 (g∘eP)) (J qP (.exit 0) K) (J n6 (.exit 0) K)) λm i=>by simp only[Function.comp_def,wf i];rfl
theorem acQ(N:Nat)(K:Kt R):Wd TG (Lm N) (bQ f265 3) 3 K qP (Ps N K):=lw (λg=>lZ.r3 N (cmp _ qP (g∘eP)) (cmp _ n6 (g∘eP)) (J qP (.exit 0) K) (J n6 (.exit 0) K)) λm i=>by simp only[Function.comp_def,wf i,wf (Mf N K m)];rfl
theorem VY(N:Nat):b6 TG (Lm N (R:=R)) (bQ f265 3):=lm 3 (ga qP (acQ N) (ga n6 (Mf N) mn))
def Z':=dL Mk QJ lZ.c lZ.v
theorem agr:FO 265 Z':=fq (E:=TG) a8 func265 (it:=λN=>Lm N) (λN=>(bn (VY N) bD)) lZ.b lZ.vo
def ajn:=en [(230,HQ),(262,Sv),(263,Sw),(264,Z_),(265,Z')] []
def adD:Fn [.R,.I,.S,.S,.S] As:=λa b c d e=>[aV [.sh 189 a],aV [.n b,.s c,.s d,.s e]]
def UK:Fn [.R,.B] iQ:=λa b=>⟨[aV [.ow 189 true a],aB b],[]⟩
def ZZ:=dL adD UK AX.c AX.v
theorem agc:FO 229 ZZ:=fr (E:=ajn) (aK LB (aK YZ (aK Y0 (aK agq (aK agr a8))))) func229 AX.b AX.vo
def ad4:=en [(229,ZZ)] [(3,[1,4,5,6,7])]
def adx:Fn [.R,.R] As:=λa b=>[aV [.sh 189 a],aH 184 b]
def ae9:Fn [.R,.I] iQ:=λa b=>⟨[aV [.ow 189 true a],aI b],[]⟩
def Es:Fn [.R,.I,.I,.R] Tb:=λa b c d=>[cH 2 184 a,cP 8 0,cI 10 b,cP 12 1,cI 14 c,oB 1 [.nl],oB 3 [.own 2],oR 5 189 d]
def GG:Fn [.R,.I,.I,.R] Tb:=λa b c d=>[cH 2 184 a,cP 8 0,cI 10 b,cP 12 1,cI 14 c,oB 1 [.own 2],oB 3 [.own 2],oR 5 189 d]
def OM(N:Nat)(K:Kt R):=pM.l3 N (J GG .ret K) (J Es (.exit 0) K)
def XY(N:Nat):It R:=(lp 3 (al Es (λK=>OM N K N) an) ln)
theorem Vo(N:Nat):b6 ad4 (XY N (R:=R)) (bQ f175 3):=lq 3 Es (OM N) λK g=>pM.r3 N g (J GG .ret K) (J Es (.exit 0) K)
def Sb:=dL adx ae9 pM.c pM.v
theorem YJ:FO 175 Sb:=fq (E:=ad4) (aK agc a8) func175 (it:=λN=>XY N) (λN=>(bn (Vo N) bD)) pM.b pM.vo
def adq:Fn [.B] As:=λa=>[aB a]
def RW:=dL adq wo (ct _) zv.v
theorem Yt:FO 119 RW:=ft (E:=zK) a8 func119 zv.b λ(a0,_)=>zv.dW _ a0
def aiS:=V9 T md [(173,ZC),(174,ZD),(175,Sb),(119,RW)] [] [] [(0,1,.own 51),(0,2,.own 9),(0,3,.own 9),(0,4,.own 45),(0,6,.own 127),(0,7,.own 55),(0,9,.own 189),(0,10,.own 3),(0,11,.own 51)]
def N2:Fn [.I,.R,.R,.R,.R,.I,.R,.R,.I,.R,.R,.R,.I,.I,.S,.I,.R] As:=λa b c d e f g h i j k l m o p q r=>[.pt [.n a,.ow 51 true b,.ow 9 true c,.ow 9 true d,.ow 45 true e,.n f,.ow 127 true g,.ow 55 true h,.n i,.ow 189 true j,.ow 3 true k,.ow 51 true l],aV [.n m,.n o,.s p,.n q,.sh 3 r]]
def abt:Fn [.I,.I,.R,.R,.R,.R,.I,.R,.R,.I,.R,.R,.R] iQ:=λa b c d e f g h i j k l m=>⟨[aI a],[[.n b,.ow 51 true c,.ow 9 true d,.ow 9 true e,.ow 45 true f,.n g,.ow 127 true h,.ow 55 true i,.n j,.ow 189 true k,.ow 3 true l,.ow 51 true m]]⟩
def Zg:=dL N2 abt Cy.c Cy.v
theorem afu:FO 114 Zg:=fr (E:=aiS) (aK afQ (aK afR (aK YJ (aK Yt a8)))) func114 Cy.b Cy.vo
def aiT:=en [(68,JI),(170,LR),(172,LS)] []
def Zh:=dL Ct M1 Cz.c Cz.v
theorem afv:FO 115 Zh:=fr (E:=aiT) (aK Jl (aK Q_ (aK Q' a8))) func115 Cz.b Cz.vo
def adQ:=en [(68,JI)] []
def Zi:=dL Ct Tl rR.c rR.v
theorem afw:FO 116 Zi:=fr (E:=adQ) (aK Jl a8) func116 rR.b rR.vo
def adR:=en [(68,JI)] [(4,[1,2,4,5,6])]
def Ef:Fn [.I,.I,.I,.R,.R,.R,.R,.I,.R,.R,.I,.I,.I,.I,.I,.I,.I,.R,.R,.R,.R,.R,.R] Tb:=λa b c d e f g h i j k l m o p q r s t u v w x=>[cI 2 a,cP 4 0,cP 8 1,cP 10 2,cI 12 b,oB 1 [.n c,.sh 51 d,.sh 9 e,.sh 9 f,.sh 45 g,.n h,.sh 127 i,.sh 55 j,.n k],oB 3 [.n l,.nl,.nl,.nl,.nl,.n m,.nl,.nl,.n o],oB 5 [.n p,.own 3,.own 4,.own 5,.own 6,.n q,.own 7,.own 8,.n r],oR 7 51 s,oR 9 9 t,oR 11 9 u,oR 13 45 v,oR 15 127 w,oR 17 55 x]
def Og(N:Nat)(K:Kt R):=ud.l4 N (J Ef (.exit 0) K)
def XJ(N:Nat):It R:=(lp 4 (al Ef (λK=>Og N K N) an) ln)
theorem UY(N:Nat):b6 adR (XJ N (R:=R)) (bQ f117 4):=lq 4 Ef (Og N) λK g=>ud.r4 N g (J Ef (.exit 0) K)
def Zj:=dL Ct Tl ud.c ud.v
theorem afx:FO 117 Zj:=fq (E:=adR) (aK Jl a8) func117 (it:=λN=>XJ N) (λN=>(bn (UY N) bD)) ud.b ud.vo
def TD:=en [(230,HQ)] [(5,[1,2,4,6,7])]
def ady:Fn [.R,.R] As:=λa b=>[aV [.sh 189 a],aH 3 b]
def qL:Fn [.R,.I,.R] Tb:=λa b c=>[cH 2 3 a,cP 4 0,cP 8 1,cP 12 2,cI 14 b,oB 1 [.sh 189 c],oB 3 [.nl],oB 5 [.nl]]
def nZ:Fn [.R,.I,.R,.R] Tb:=λa b c d=>[cH 2 3 a,cP 4 0,cP 8 1,cP 12 2,cI 14 b,oB 1 [.sh 189 c],oB 3 [.nl],oB 5 [.own 3],oR 7 189 d]
def ON(N:Nat)(K:Kt R):=vO.l5 N (J qL (.exit 0) K) (J nZ (.exit 0) K)
def Ke(N:Nat)(K:Kt R):=vO.l5a N (J qL (.exit 0) K) (J nZ (.exit 0) K)
def Lk(N:Nat):It R:=(lp 5 (al qL (λK=>ON N K N) (al nZ (λK=>Ke N K N) an)) ln)
theorem Mb(N:Nat)(K:Kt R):Wd TD (Lk N) (bQ f176 5) 5 K nZ (Ke N K):=lw (λg=>vO.r5a N (cmp _ qL (g∘eP)) (cmp _ nZ (g∘eP)) (J qL (.exit 0) K) (J nZ (.exit 0) K)) λm i=>by simp only[Function.comp_def,wf i];rfl
theorem acM(N:Nat)(K:Kt R):Wd TD (Lk N) (bQ f176 5) 5 K qL (ON N K):=lw (λg=>vO.r5 N (cmp _ qL (g∘eP)) (cmp _ nZ (g∘eP)) (J qL (.exit 0) K) (J nZ (.exit 0) K)) λm i=>by simp only[Function.comp_def,wf i,wf (Mb N K m)];rfl
theorem Vp(N:Nat):b6 TD (Lk N (R:=R)) (bQ f176 5):=lm 5 (ga qL (acM N) (ga nZ (Mb N) mn))
def ZE:=dL ady UK vO.c vO.v
theorem afS:FO 176 ZE:=fq (E:=TD) (aK LB a8) func176 (it:=λN=>Lk N) (λN=>(bn (Vp N) bD)) vO.b vO.vo
def ajo:=en [(263,Sw)] []
def Sn:=dL Mk Fq lI.c lI.v
theorem YU:FO 231 Sn:=fr (E:=ajo) (aK Y0 a8) func231 lI.b lI.vo
def aep:=en [(49,vj),(260,L1)] [(6,[0,1,4,5,6,7,8,9])]
def Tw:Fn [.S,.I] As:=λa b=>[aS a,aI b]
def afd:Fn [.I,.I,.B] iQ:=λa b c=>⟨[aI a,aI b,aB c],[]⟩
def ya:Fn [.S,.I,.I,.I,.B,.I,.I,.I] Tb:=λa b c d e f g h=>[cA 0 (.s a),cI 2 b,cI 8 c,cI 10 d,cA 12 (.b e),cI 14 f,cI 16 g,cI 18 h]
def Pt(N:Nat)(K:Kt R):=fG.l6 N (J ya .ret K) (J ya (.exit 0) K)
def Yj(N:Nat):It R:=(lp 6 (al ya (λK=>Pt N K N) an) ln)
theorem VZ(N:Nat):b6 aep (Yj N (R:=R)) (bQ f266 6):=lq 6 ya (Pt N) λK g=>fG.r6 N g (J ya .ret K) (J ya (.exit 0) K)
def L3:=dL Tw afd (ct _) fG.v
theorem Rl:FO 266 L3:=fh (E:=aep) (aK uv (aK Rk a8)) func266 (it:=λN=>Yj N) (λN=>(bn (VZ N) bD)) fG.b λx f h=>fG.dW _ x.1 x.2.1 f.1.1
def aei:=en [(266,L3),(228,LZ)] [(5,[0,2,3,4,5])]
def afa:Fn [.R,.I] iQ:=λa b=>⟨[aO 9 a,aI b],[]⟩
def EE:Fn [.S,.I,.I,.R] Tb:=λa b c d=>[cA 0 (.s a),cA 4 .nl,cI 6 b,cA 8 (.own 0),cI 10 c,oR 1 9 d]
def GI:Fn [.S,.I,.I,.R] Tb:=λa b c d=>[cA 0 (.s a),cA 4 (.own 0),cI 6 b,cA 8 (.own 0),cI 10 c,oR 1 9 d]
def O9(N:Nat)(K:Kt R):=rV.l5 N (J GI .ret K) (J EE (.exit 0) K)
def Yd(N:Nat):It R:=(lp 5 (al EE (λK=>O9 N K N) an) ln)
theorem VL(N:Nat):b6 aei (Yd N (R:=R)) (bQ f232 5):=lq 5 EE (O9 N) λK g=>rV.r5 N g (J GI .ret K) (J EE (.exit 0) K)
def Z0:=dL Ay afa rV.c rV.v
theorem agd:FO 232 Z0:=fq (E:=aei) (aK Rl (aK Rg a8)) func232 (it:=λN=>Yd N) (λN=>(bn (VL N) bD)) rV.b rV.vo
def aju:=en [(266,L3)] []
def afe:Fn [.S,.I,.B] iQ:=λa b c=>⟨[aS a,aI b,aB c],[]⟩
def aaa:=dL Tw afe (ct _) pN.v
theorem ags:FO 267 aaa:=fh (E:=aju) (aK Rl a8) func267 (it:=λ_=>ln) (λ_=>bD) (λ_=>pN.b) λx f h=>⟨0,pN.dW _ x.1 x.2.1 f.1.1⟩
def ajp:=en [(267,aaa),(266,L3),(227,LY)] []
def Z1:=dL Ay abv (ct _) jD.v
theorem agf:FO 233 Z1:=fh (E:=ajp) (aK ags (aK Rl (aK Rf a8))) func233 (it:=λ_=>ln) (λ_=>bD) (λ_=>jD.b) λx f h=>⟨0,jD.dW _ x.1 f.1.1⟩
def ad5:=en [(230,HQ),(231,Sn),(232,Z0),(233,Z1),(234,Sq)] [(7,[3,6,8])]
def Et:Fn [.I,.R,.R] Tb:=λa b c=>[cA 6 (.own 0),cA 12 (.own 1),cI 16 a,oR 1 51 b,oR 3 9 c]
def OO(N:Nat)(K:Kt R):=rU.l7 N (J Et (.exit 0) K)
def XZ(N:Nat):It R:=(lp 7 (al Et (λK=>OO N K N) an) ln)
theorem Vq(N:Nat):b6 ad5 (XZ N (R:=R)) (bQ f177 7):=lq 7 Et (OO N) λK g=>rU.r7 N g (J Et (.exit 0) K)
def ZF:=dL N5 I' rU.c rU.v
theorem afT:FO 177 ZF:=fq (E:=ad5) (aK LB (aK YU (aK agd (aK agf (aK YV a8))))) func177 (it:=λN=>XZ N) (λN=>(bn (Vq N) bD)) rU.b rU.vo
def ad6:=en [(230,HQ),(231,Sn),(227,LY),(228,LZ)] [(9,[1,4,5,6,9,10])]
def adz:Fn [.R,.R] As:=λa b=>[aV [.sh 189 a],aH 51 b]
def Eu:Fn [.R,.B,.S,.I,.R] Tb:=λa b c d e=>[cH 2 51 a,cA 8 .nl,cA 10 (.b b),cA 12 (.own 0),cA 18 (.s c),cI 20 d,oR 1 184 e]
def GH:Fn [.R,.B,.S,.I,.R,.R] Tb:=λa b c d e f=>[cH 2 51 a,cA 8 (.own 0),cA 10 (.b b),cA 12 (.own 1),cA 18 (.s c),cI 20 d,oR 1 184 e,oR 3 184 f]
def OP(N:Nat)(K:Kt R):=jq.l9 N (J GH .ret K) (J Eu (.exit 0) K)
def X0(N:Nat):It R:=(lp 9 (al Eu (λK=>OP N K N) an) ln)
theorem Vr(N:Nat):b6 ad6 (X0 N (R:=R)) (bQ f178 9):=lq 9 Eu (OP N) λK g=>jq.r9 N g (J GH .ret K) (J Eu (.exit 0) K)
def ZG:=dL adz UJ jq.c jq.v
theorem afU:FO 178 ZG:=fq (E:=ad6) (aK LB (aK YU (aK Rf (aK Rg a8)))) func178 (it:=λN=>X0 N) (λN=>(bn (Vr N) bD)) jq.b jq.vo
def ad7:=en [(37,acx),(217,HO),(164,LQ),(226,Sm)] [(4,[0,1,4,5,6])]
def adA:Fn [.I,.R] As:=λa b=>[aI a,aH 51 b]
def Ew:Fn [.I,.R,.I,.I,.I,.I,.I,.I,.I,.R,.R,.R,.R,.R,.R] Tb:=λa b c d e f g h i j k l m o p=>[cI 0 a,cH 2 51 b,cP 8 0,cP 10 1,cI 12 c,oB 1 [.n d,.nl,.nl,.nl,.nl,.n e,.nl,.nl,.n f],oB 3 [.n g,.own 2,.own 3,.own 4,.own 5,.n h,.own 6,.own 7,.n i],oR 5 51 j,oR 7 9 k,oR 9 9 l,oR 11 45 m,oR 13 127 o,oR 15 55 p]
def OQ(N:Nat)(K:Kt R):=ni.l4 N (J Ew (.exit 0) K)
def X1(N:Nat):It R:=(lp 4 (al Ew (λK=>OQ N K N) an) ln)
theorem Vs(N:Nat):b6 ad7 (X1 N (R:=R)) (bQ f179 4):=lq 4 Ew (OQ N) λK g=>ni.r4 N g (J Ew (.exit 0) K)
def ZH:=dL adA Tl ni.c ni.v
theorem afV:FO 179 ZH:=fq (E:=ad7) (aK agx (aK LA (aK Q9 (aK YT a8)))) func179 (it:=λN=>X1 N) (λN=>(bn (Vs N) bD)) ni.b ni.vo
def Tz:=V9 T md [(176,ZE),(177,ZF),(164,LQ),(178,ZG),(175,Sb),(179,ZH)] [(7,[0,6,7,8])] [] [(0,1,.own 51),(0,2,.own 9),(0,3,.own 9),(0,4,.own 45),(0,6,.own 127),(0,7,.own 55),(0,9,.own 189),(0,10,.own 3),(0,11,.own 51)]
def abu:Fn [.I,.R,.R,.R,.R,.I,.R,.R,.I,.R,.R,.R] iQ:=λa b c d e f g h i j k l=>⟨[],[[.n a,.ow 51 true b,.ow 9 true c,.ow 9 true d,.ow 45 true e,.n f,.ow 127 true g,.ow 55 true h,.n i,.ow 189 true j,.ow 3 true k,.ow 51 true l]]⟩
def qJ:Fn [.I,.I,.I,.I,.R,.R,.R,.R,.R,.R,.R,.R,.R,.R,.R] Tb:=λa b c d e f g h i j k l m o p=>[cP 0 900000900,cA 12 (.own 1),cA 14 (.own 2),cI 16 a,oB 1800001801 [.n b,.own 900000001,.own 900000002,.own 900000003,.own 900000004,.n c,.own 900000006,.own 900000007,.n d,.own 9,.own 900000010,.own 900000011],oR 3 51 e,oR 5 51 f,oR 1800000003 51 g,oR 1800000005 9 h,oR 1800000007 9 i,oR 1800000009 45 j,oR 1800000013 127 k,oR 1800000015 55 l,oR 19 189 m,oR 1800000021 3 o,oR 1800000023 51 p]
def nX:Fn [.I,.I,.I,.I,.R,.R,.R,.R,.R,.R,.R,.R,.R,.R,.R] Tb:=λa b c d e f g h i j k l m o p=>[cP 0 900000900,cA 12 (.own 1),cA 14 (.own 2),cI 16 a,oB 1800001801 [.n b,.own 900000001,.own 900000002,.own 900000003,.own 900000004,.n c,.own 900000006,.own 900000007,.n d,.own 900000009,.own 900000010,.own 900000011],oR 3 51 e,oR 5 51 f,oR 1800000003 51 g,oR 1800000005 9 h,oR 1800000007 9 i,oR 1800000009 45 j,oR 1800000013 127 k,oR 1800000015 55 l,oR 1800000019 189 m,oR 1800000021 3 o,oR 1800000023 51 p]
def Oh(N:Nat)(K:Kt R):=vK.l7 N (J qJ (.exit 0) K) (J nX (.exit 0) K)
def Ka(N:Nat)(K:Kt R):=vK.l7a N (J qJ (.exit 0) K) (J nX (.exit 0) K)
def Lh(N:Nat):It R:=(lp 7 (al qJ (λK=>Oh N K N) (al nX (λK=>Ka N K N) an)) ln)
theorem L_(N:Nat)(K:Kt R):Wd Tz (Lh N) (bQ f118 7) 7 K nX (Ka N K):=lw (λg=>vK.r7a N (cmp _ qJ (g∘eP)) (cmp _ nX (g∘eP)) (J qJ (.exit 0) K) (J nX (.exit 0) K)) λm i=>by simp only[Function.comp_def,wf i];rfl
theorem acK(N:Nat)(K:Kt R):Wd Tz (Lh N) (bQ f118 7) 7 K qJ (Oh N K):=lw (λg=>vK.r7 N (cmp _ qJ (g∘eP)) (cmp _ nX (g∘eP)) (J qJ (.exit 0) K) (J nX (.exit 0) K)) λm i=>by simp only[Function.comp_def,wf i,wf (L_ N K m)];rfl
theorem UZ(N:Nat):b6 Tz (Lh N (R:=R)) (bQ f118 7):=lm 7 (ga qJ (acK N) (ga nX (L_ N) mn))
def Zk:=dL N2 abu vK.c vK.v
theorem afy:FO 118 Zk:=fq (E:=Tz) (aK afS (aK afT (aK Q9 (aK afU (aK YJ (aK afV a8)))))) func118 (it:=λN=>Lh N) (λN=>(bn (UZ N) bD)) vK.b vK.vo
def E67:=V9 T md [(112,Ze),(113,Zf),(114,Zg),(115,Zh),(116,Zi),(117,Zj),(118,Zk),(119,RW)] [] [] [(0,1,.own 51),(0,2,.own 9),(0,3,.own 9),(0,4,.own 45),(0,6,.own 127),(0,7,.own 55),(0,9,.own 189),(0,10,.own 3),(0,11,.own 51)]
def ahv:=dL N2 abt Tg.c Tg.v
theorem akQ:FO 67 ahv:=fr (E:=E67) (aK afs (aK aft (aK afu (aK afv (aK afw (aK afx (aK afy (aK Yt a8)))))))) func67 Tg.b Tg.vo
def E38:=V9 T md [(67,ahv)] [] [] [(0,1,.own 51),(0,2,.own 9),(0,3,.own 9),(0,4,.own 45),(0,6,.own 127),(0,7,.own 55),(0,9,.own 189),(0,10,.own 3),(0,11,.own 51)]
def ahf:=dL N2 abu PK.c PK.v
theorem akA:FO 38 ahf:=fr (E:=E38) (aK akQ a8) func38 PK.b PK.vo
def A39:Fn [.I,.R,.R,.R,.R,.I,.R,.R,.I,.R,.R,.R] As:=λa b c d e f g h i j k l=>[aV [.n a,.sh 51 b,.sh 9 c,.sh 9 d,.sh 45 e,.n f,.sh 127 g,.sh 55 h,.n i,.sh 189 j,.sh 3 k,.sh 51 l]]
def k39:Fn [.I,.R,.R,.R,.R,.I,.R,.R,.I,.R,.R,.R] iQ:=λa b c d e f g h i j k l=>⟨[aV [.n a,.ow 51 true b,.ow 9 true c,.ow 9 true d,.ow 45 true e,.n f,.ow 127 true g,.ow 55 true h,.n i,.ow 189 true j,.ow 3 true k,.ow 51 true l]],[]⟩
def ahg:=dL A39 k39 S'.c S'.v
theorem akB:FO 39 ahg:=fr (E:=adQ) (aK Jl a8) func39 S'.b S'.vo
def E18:=en [(25,acu),(37,acx),(38,ahf),(39,ahg)] [(3,[0,2,4,5]),(10,[0,2,6,7,1000000006009189,1000000006010003,1000000006011051])]
def A18:Fn [.R] As:=λa=>[aH 58 a]
def k18:Fn [.I,.R,.R,.R,.R,.I,.R,.R,.I,.R,.R,.R,.B] iQ:=λa b c d e f g h i j k l m=>⟨[aV [.n a,.ow 51 true b,.ow 9 true c,.ow 9 true d,.ow 45 true e,.n f,.ow 127 true g,.ow 55 true h,.n i,.ow 189 true j,.ow 3 true k,.ow 51 true l],aB m],[]⟩
def Ks:Fn [.R,.B,.I,.I,.I,.I] Tb:=λa b c d e f=>[cH 0 58 a,cP 4 0,cA 8 (.b b),cI 10 c,oB 1 [.n d,.nl,.nl,.nl,.nl,.n e,.nl,.nl,.n f,.nl,.nl,.nl]]
def Ez:Fn [.R,.I,.I,.I,.I,.I,.I,.I,.R,.R,.R,.R,.R,.R,.R,.R,.R] Tb:=λa b c d e f g h i j k l m o p q r=>[cH 0 58 a,cP 4 0,cP 12 1,cI 14 b,oB 1 [.n c,.nl,.nl,.nl,.nl,.n d,.nl,.nl,.n e,.nl,.nl,.nl],oB 3 [.n f,.own 2,.own 3,.own 4,.own 5,.n g,.own 6,.own 7,.n h,.own 8,.own 9,.own 10],oR 5 51 i,oR 7 9 j,oR 9 9 k,oR 11 45 l,oR 13 127 m,oR 15 55 o,oR 17 189 p,oR 19 3 q,oR 21 51 r]
def W4(N:Nat)(K:Kt R):=KG.l3 N (J Ks (.exit 0) K)
def OV(N:Nat)(K:Kt R):=KG.l10 N (J Ez (.exit 2) K)
def abo(N:Nat):It R:=(lp 3 (al Ks (λK=>W4 N K N) an) (lp 10 (al Ez (λK=>OV N K N) an) ln))
theorem abM(N:Nat):b6 E18 (abo N (R:=R)) (bQ f18 3):=lq 3 Ks (W4 N) λK g=>KG.r3 N g (J Ks (.exit 0) K)
theorem Vx(N:Nat):b6 E18 (abo N (R:=R)) (bQ f18 10):=lq 10 Ez (OV N) λK g=>KG.wA N g (J Ez (.exit 2) K)
def ag6:=dL A18 k18 KG.c KG.v
theorem akp:FO 18 ag6:=fq (E:=E18) (aK ago (aK agx (aK akA (aK akB a8)))) func18 (it:=λN=>abo N) (λN=>(bn (abM N) (bn (Vx N) bD))) KG.b KG.vo
def E36:=en [(11,Wu)] []
def ahe:=dL Tv I_ yW.c yW.v
theorem akz:FO 36 ahe:=fr (E:=E36) (aK ab6 a8) func36 yW.b yW.vo
def E17:=en [(36,ahe)] [(3,[1,3,4])]
def Kr:Fn [.S,.I,.I,.R,.R,.R,.R,.I,.R,.R,.I] Tb:=λa b c d e f g h i j k=>[cP 2 0,cA 6 (.s a),cI 8 b,oB 1 [.n c,.sh 51 d,.sh 9 e,.sh 9 f,.sh 45 g,.n h,.sh 127 i,.sh 55 j,.n k]]
def W3(N:Nat)(K:Kt R):=Io.l3 N (J Kr (.exit 0) K)
def aeT(N:Nat):It R:=(lp 3 (al Kr (λK=>W3 N K N) an) ln)
theorem abL(N:Nat):b6 E17 (aeT N (R:=R)) (bQ f17 3):=lq 3 Kr (W3 N) λK g=>Io.r3 N g (J Kr (.exit 0) K)
def ag5:=dL N6 I_ Io.c Io.v
theorem ako:FO 17 ag5:=fq (E:=E17) (aK akz a8) func17 (it:=λN=>aeT N) (λN=>(bn (abL N) bD)) Io.b Io.vo
def E6:=en [(10,ag1),(11,Wu),(18,ag6),(17,ag5)] [(7,[5,7,8]),(16,[5,7,9])]
def TU:Fn [.S,.I,.I,.I,.I,.R,.R,.R,.R,.R,.R,.R,.R,.R] Tb:=λa b c d e f g h i j k l m o=>[cP 10 0,cA 14 (.s a),cI 16 b,oB 1 [.n c,.own 1,.own 2,.own 3,.own 4,.n d,.own 5,.own 6,.n e,.own 7,.own 8,.own 9],oR 3 51 f,oR 5 9 g,oR 7 9 h,oR 9 45 i,oR 11 127 j,oR 13 55 k,oR 15 189 l,oR 17 3 m,oR 19 51 o]
def Kx:Fn [.S,.I,.I,.I,.I,.R,.R,.R,.R,.R,.R,.R,.R,.R] Tb:=λa b c d e f g h i j k l m o=>[cP 10 0,cA 14 (.s a),cI 18 b,oB 1 [.n c,.own 1,.own 2,.own 3,.own 4,.n d,.own 5,.own 6,.n e,.own 7,.own 8,.own 9],oR 3 51 f,oR 5 9 g,oR 7 9 h,oR 9 45 i,oR 11 127 j,oR 13 55 k,oR 15 189 l,oR 17 3 m,oR 19 51 o]
def aey(N:Nat)(K:Kt R):=U6.l7 N (J TU (.exit 0) K)
def Xb(N:Nat)(K:Kt R):=U6.CN N (J Kx (.exit 2) K)
def it6(N:Nat):It R:=(lp 7 (al TU (λK=>aey N K N) an) (lp 16 (al Kx (λK=>Xb N K N) an) ln))
theorem aff(N:Nat):b6 E6 (it6 N (R:=R)) (bQ f6 7):=lq 7 TU (aey N) λK g=>U6.r7 N g (J TU (.exit 0) K)
theorem abV(N:Nat):b6 E6 (it6 N (R:=R)) (bQ f6 16):=lq 16 Kx (Xb N) λK g=>U6.Ns N g (J Kx (.exit 2) K)
def sp6:=dL Ay I_ U6.c U6.v
theorem ok6:FO 6 sp6:=fq (E:=E6) (aK akk (aK ab6 (aK akp (aK ako a8)))) func6 (it:=λN=>it6 N) (λN=>(bn (aff N) (bn (abV N) bD))) U6.b U6.vo
theorem B7(t:ByteArray):∀(k:Nat) (s x:ByteArray),x∈_root_.Go.Lib.splitB t 0 k s->x.size<=s.size
 |0,s,x,h=>by
  simp only[_root_.Go.Lib.splitB,List.mem_singleton]at h;exact h▸Nat.le_refl _
 |k+1,s,x,h=>by
  unfold _root_.Go.Lib.splitB at h;split at h
  ·simp only[List.mem_singleton]at h;exact h▸Nat.le_refl _
  ·rcases List.mem_cons.1 h with rfl|h
   ·rw[ByteArray.size_extract];omega
   ·have:=B7 t k _ x h;rw[ByteArray.size_extract]at this;omega
def A33:Fn [.S,.S] As:=λa b=>[aS a,aS b]
def k33:Fn [.R] iQ:=λa=>⟨[.v false [.sh 9 a]],[]⟩
def acw:=dL A33 k33 yj.c yj.v
theorem agw:FO 33 acw:=by
 refine Ad func33 (by kernel_rfl) (by kernel_rfl) (by intro x;rfl) λx hx w c1 vs CM hsz hvs=> ?_;obtain⟨s,t,_⟩:=x;replace hx:(Nat.ble s.size 4000000000&&Nat.beq t.size 1)=true:=hx;rw[Bool.and_eq_true,Nat.ble_eq,Nat.beq_eq]at hx;obtain⟨v,hv,hs,_⟩:=hvs 0 _ rfl;obtain⟨u,hu,ht,_⟩:=hvs 1 _ rfl;subst hs ht;have hsz:vs.size=2:=hsz;obtain rfl:vs= #[.string s,.string t]:=by
  apply Array.ext
  ·simpa using hsz
  ·intro i h1 h2;have:i=0\/i=1:=by simp at h2;omega
   rcases this with rfl|rfl
   ·simpa using (Array.getElem?_eq_some_iff.1 hv).2
   ·simpa using (Array.getElem?_eq_some_iff.1 hu).2
 obtain⟨_,_,m,hm⟩:=CM.gp;have hl:=_root_.Go.Lib.splitB_all t (by omega) 0 _ s rfl;have hc:=_root_.Go.Lib.countB_le t (by omega) _ s (Nat.le_refl _);refine(Any.strings_Split {Tryz.lays146 with} Tryz.lays146.i9 s t m w (by omega) hm (by omega)).mono λe w' he=> ?_;obtain⟨rfl,rfl⟩:=he;have hz:∀o,(w.alloc o).heap.size=w.heap.size+1:=λo=>Array.size_push _;have ha:∀o,(w.alloc o).heap[w.heap.size]? =some o:=λo=>Array.getElem?_push_size;refine⟨_,rfl,wE (λb=>c1.K b\/b=w.heap.size) CM (λm o h=>by cases h) ((RowKit.Below.refl _ _).alloc (Nat.le_refl _) _) (λ_ h=>.inl h) (λb h=>h.elim .inl λh=>.inr ⟨Nat.le_of_eq h.symm,by rw[hz,h];exact Nat.lt_succ_self _⟩) ?_⟩
 exact MW (by_:=16) (by kernel_rfl) hl.symm (ha _) (.inr rfl) (λx h=>Nat.le_trans (B7 t _ _ x h) (Nat.le_trans hx.1 (by decide))) (by rw[hl];exact Nat.le_trans (Nat.succ_le_succ (Nat.le_trans hc hx.1)) (by decide))
def r_:=dL A49 pT (ct _) j4.v
theorem pV:FO 50 r_:=ft (E:=zK) a8 func50 j4.b λ(a0,a1,a2,_)=>j4.dW _ a0 a1 a2
def E34:=en [(50,r_),(33,acw)] [(5,[0,2,3,4,5]),(10,[4,25,26,27])]
def C8:Fn [.S,.B,.I,.R] Tb:=λa b c d=>[cA 0 (.s a),cA 4 .nl,cA 6 (.b b),cA 8 (.own 0),cI 10 c,oR 1 9 d]
def EN:Fn [.R,.I,.I,.R] Tb:=λa b c d=>[cA 8 (.own 0),cH 50 9 a,cI 52 b,cI 54 c,oR 1 9 d]
def W8(N:Nat)(K:Kt R):=o7.l5 N (J C8 .ret K) (J C8 (.exit 0) K)
def Py(N:Nat)(K:Kt R):=o7.l10 N (J EN (.exit 2) K)
def abp(N:Nat):It R:=(lp 5 (al C8 (λK=>W8 N K N) an) (lp 10 (al EN (λK=>Py N K N) an) ln))
theorem abQ(N:Nat):b6 E34 (abp N (R:=R)) (bQ f34 5):=lq 5 C8 (W8 N) λK g=>o7.r5 N g (J C8 .ret K) (J C8 (.exit 0) K)
theorem V2(N:Nat):b6 E34 (abp N (R:=R)) (bQ f34 10):=lq 10 EN (Py N) λK g=>o7.wA N g (J EN (.exit 2) K)
def ahc:=dL Ay k23 o7.c o7.v
theorem akx:FO 34 ahc:=fq (E:=E34) (aK pV (aK agw a8)) func34 (it:=λN=>abp N) (λN=>(bn (abQ N) (bn (V2 N) bD))) o7.b o7.vo
def k63:Fn [.I,.S] iQ:=λa b=>⟨[aI a,aS b],[]⟩
def ahs:=dL Ay k63 (ct _) H2.v
theorem akN:FO 63 ahs:=ft (E:=zK) a8 func63 H2.b λ(a0,_)=>H2.dW _ a0
theorem ae4(n:Int)(h0: -9223372036854775808<=n)(h1:n<=9223372036854775807)(w:World)(h:_root_.Go.Lib.TabIs Tryz.prog w "internal/strconv.uint64pow10" .u64 _root_.Go.Lib.pow10Tab):
  Calls Tryz.prog 40 #[.int .i64 n] w λe w'=>e=.returned (.string ⟨(_root_.Go.Lib.itoa n).toArray⟩)/\RowKit.Below w.heap.size w w':=
 (Any.strconv_Itoa Tryz.lays171 n h0 h1 w h).mono λe w' ⟨he,k,os,hw⟩=>⟨he,hw▸yX w k os⟩
theorem Iy{w w1:World}{t:TypeId}(h:w1=w\/∃s,w1=_root_.Go.Lib.bytesWorld w t s):RowKit.Below w.heap.size w w1:=by
 rcases h with rfl|⟨s,rfl⟩
 ·exact .refl _ _
 ·exact _root_.Go.Joins.below_bytesWorld _ w t s (Nat.le_refl _)
theorem Iz{w w1 w2:World}(h1:RowKit.Below w.heap.size w w1)(h2:RowKit.Below w1.heap.size w1 w2):RowKit.Below w.heap.size w w2:=h1.trans ⟨h2.os,h2.tape,h2.output,h2.size,λi hi=>h2.block i (Nat.lt_of_lt_of_le hi h1.size)⟩
set_option maxHeartbeats 1000000 in
theorem agU(s:ByteArray)(hs:s.size<=140737488355328)(w:World)(h:_root_.Go.Lib.TabIs Tryz.prog w "internal/strconv.uint64pow10" .u64 _root_.Go.Lib.pow10Tab)(g1:1<w.heap.size)
  (hE:∃tp p,w.var? Tryz.prog "strconv.ErrSyntax" =some #[.iface tp p]) (hR:∃tp p,w.var? Tryz.prog "strconv.ErrRange" =some #[.iface tp p]):
  Calls Tryz.prog 65 #[.string s] w λe w'=>e=.returned (.tuple #[.int .i64 (wY.v s).1,.bool (wY.v s).2])/\RowKit.Below w.heap.size w w':=by
 unfold wY.v;cases ha:_root_.Go.Lib.atoiAll s.data.toList with
 |range=>
  obtain⟨tp,p,hR⟩:=hR;go_enter func65,Tryz.ntmps65;go_wp2_with (first|(go_at_call 110;refine(Any.strconv_Atoi_range_var Tryz.lays172 s (by omega) ha tp p w hR).mono ?_;rintro e w1 ⟨N,rfl,-,-,hb⟩)|go_in)
  go_ret2;exact⟨rfl,hb⟩
 |ok n=>
  have hn:=_root_.Go.Lib.atoiAll_bounds ha;go_enter func65,Tryz.ntmps65;go_wp2_with (first|(go_at_call 110;go_must (refine(Any.strconv_Atoi_ok Tryz.lays172 s (by omega) n ha w).mono ?_;rintro e w1 ⟨rfl,hw1⟩;replace hw1:=Iy hw1;have hT1:=_root_.Go.Joins.tab_stays (g:=1) (by kernel_rfl) h hw1 (Nat.le_refl _)))|(go_at_call 40;go_must (refine(ae4 n (by omega) (by omega) _ hT1).mono ?_;rintro e w2 ⟨rfl,hb2⟩;replace hb2:=Iz hw1 hb2))|go_in)
  ·rename_i h0 h1 _ hq;rw[_root_.Go.Lib.toList_data]at hq;go_ret2;refine⟨?_,hb2⟩
   simp only[Bool.not_eq_true']at hq;simp[hq]
  ·rename_i h0 h1 hq;rw[_root_.Go.Lib.toList_data]at hq;go_ret2;refine⟨?_,hb2⟩
   simp only[Bool.not_eq_false']at hq;simp[hq,h0,h1]
  ·rename_i h0 h1;go_ret2;refine⟨?_,hw1⟩
   simp[h0,show¬n<=1000000000 by omega]
  ·rename_i h0;go_ret2;refine⟨?_,hw1⟩
   simp[show¬0<=n by omega]
 |_=>
  obtain⟨tp,p,hE⟩:=hE;go_enter func65,Tryz.ntmps65;go_wp2_with (first|(go_at_call 110;refine(Any.strconv_Atoi_syntax_var Tryz.lays172 s (by omega) ha tp p w hE).mono ?_;rintro e w1 ⟨N,rfl,-,-,hb⟩)|go_in)
  go_ret2;exact⟨rfl,hb⟩
def acz:=dL Ay k48 wY.c wY.v
theorem agz:FO 65 acz:=by
 refine Ad func65 (by kernel_rfl) (by kernel_rfl) (by intro x;rfl) λx hx w c1 vs CM hsz hvs=> ?_;obtain⟨s,_⟩:=x;replace hx:Nat.ble s.size 140737488355328=true:=hx;rw[Nat.ble_eq]at hx;obtain⟨v,hv,hs,_⟩:=hvs 0 _ rfl;subst hs;have hsz:vs.size=1:=hsz;obtain rfl:vs= #[.string s]:=by
  apply Array.ext
  ·simpa using hsz
  ·intro i h1 h2;obtain rfl:i=0:=by simp at h2;omega
   simpa using (Array.getElem?_eq_some_iff.1 hv).2
 obtain⟨⟨⟨⟨hg,cs,h1,rfl⟩,_,cs2,h2,tp2,p2,rfl⟩,_,cs3,h3,tp3,p3,rfl⟩,_⟩:=CM.gp;refine(agU s hx w h1 (CM.lt 1 hg) ⟨_,_,h2⟩ ⟨_,_,h3⟩).mono λe w' he=> ?_;obtain⟨rfl,hb⟩:=he;refine⟨_,rfl,wE c1.K CM (λm o h=>by cases h) hb (λ_ h=>h) (λ_ h=>.inl h) ⟨_,rfl,rfl,λj agg xs hj=> ?_⟩⟩
 match j,hj with
 |0,hj=>cases hj;exact⟨_,rfl,rfl⟩
 |1,hj=>cases hj;exact⟨_,rfl,rfl⟩
def E27:=en [(50,r_)] []
def Wv:=dL A25 pT (ct _) KI.v
theorem ab7:FO 27 Wv:=ft (E:=E27) (aK pV a8) func27 KI.b λ(a0,a1,a2,a3,a4,_)=>KI.dW _ a0 a1 a2 a3 a4
def E64:=en [(65,acz),(27,Wv)] [(3,[2,3,4,10,11,12])]
def p9:Fn [.B,.R,.I,.I,.I,.I,.S,.I,.I,.I,.S,.I] Tb:=λa b c d e f g h i j k l=>[cP 4 0,cA 6 (.b a),cP 8 1,cH 20 9 b,cI 22 c,cI 24 d,oB 1 [.n e,.n f,.s g,.n h,.nl],oB 3 [.n i,.n j,.s k,.n l,.nl]]
def qQ:Fn [.B,.R,.I,.I,.I,.I,.S,.I,.I,.I,.S,.I,.R] Tb:=λa b c d e f g h i j k l m=>[cP 4 0,cA 6 (.b a),cP 8 1,cH 20 9 b,cI 22 c,cI 24 d,oB 1 [.n e,.n f,.s g,.n h,.nl],oB 3 [.n i,.n j,.s k,.n l,.own 2],oR 5 3 m]
def zW:Fn [.B,.R,.I,.I,.I,.I,.S,.I,.I,.I,.S,.I,.R] Tb:=λa b c d e f g h i j k l m=>[cP 4 0,cA 6 (.b a),cP 8 1,cH 20 9 b,cI 22 c,cI 24 d,oB 1 [.n e,.n f,.s g,.n h,.own 2],oB 3 [.n i,.n j,.s k,.n l,.own 2],oR 5 3 m]
def Xa(N:Nat)(K:Kt R):=C'.l3 N (J p9 .ret K) (J p9 (.exit 0) K) (J zW .ret K) (J qQ (.exit 0) K)
def Pz(N:Nat)(K:Kt R):=C'.nT N (J p9 .ret K) (J p9 (.exit 0) K) (J zW .ret K) (J qQ (.exit 0) K)
def UD(N:Nat):It R:=(lp 3 (al p9 (λK=>Xa N K N) (al qQ (λK=>Pz N K N) an)) ln)
theorem SQ(N:Nat)(K:Kt R):Wd E64 (UD N) (bQ f64 3) 3 K qQ (Pz N K):=lw (λg=>C'.uw N (cmp _ p9 (g∘eP)) (cmp _ qQ (g∘eP)) (J p9 .ret K) (J p9 (.exit 0) K) (J zW .ret K) (J qQ (.exit 0) K)) λm i=>by simp only[Function.comp_def,wf i];rfl
theorem ahO(N:Nat)(K:Kt R):Wd E64 (UD N) (bQ f64 3) 3 K p9 (Xa N K):=lw (λg=>C'.r3 N (cmp _ p9 (g∘eP)) (cmp _ qQ (g∘eP)) (J p9 .ret K) (J p9 (.exit 0) K) (J zW .ret K) (J qQ (.exit 0) K)) λm i=>by simp only[Function.comp_def,wf i,wf (SQ N K m)];rfl
theorem abU(N:Nat):b6 E64 (UD N (R:=R)) (bQ f64 3):=lm 3 (ga p9 (ahO N) (ga qQ (SQ N) mn))
def aht:=dL A24 k24 C'.c C'.v
theorem akO:FO 64 aht:=fq (E:=E64) (aK agz (aK ab7 a8)) func64 (it:=λN=>UD N) (λN=>(bn (abU N) bD)) C'.b C'.vo
def E35:=en [(63,ahs),(64,aht),(65,acz),(27,Wv)] [(8,[2,3,5,6,39,40,41])]
def C9:Fn [.B,.S,.R,.I,.I,.I,.I,.S,.I,.I,.I,.S,.I] Tb:=λa b c d e f g h i j k l m=>[cP 4 0,cA 6 (.b a),cA 10 (.s b),cP 12 1,cH 78 9 c,cI 80 d,cI 82 e,oB 1 [.n f,.n g,.s h,.n i,.nl],oB 3 [.n j,.n k,.s l,.n m,.nl]]
def W9(N:Nat)(K:Kt R):=sE.l8 N (J C9 .ret K) (J C9 (.exit 0) K)
def aeW(N:Nat):It R:=(lp 8 (al C9 (λK=>W9 N K N) an) ln)
theorem abR(N:Nat):b6 E35 (aeW N (R:=R)) (bQ f35 8):=lq 8 C9 (W9 N) λK g=>sE.r8 N g (J C9 .ret K) (J C9 (.exit 0) K)
def ahd:=dL A24 k24 sE.c sE.v
theorem aky:FO 35 ahd:=fq (E:=E35) (aK akN (aK akO (aK agz (aK ab7 a8)))) func35 (it:=λN=>aeW N) (λN=>(bn (abR N) bD)) sE.b sE.vo
def E15:=en [(33,acw),(34,ahc),(35,ahd)] [(8,[2,3,5,35,36,37])]
def C6:Fn [.I,.R,.I,.I,.R] Tb:=λa b c d e=>[cA 4 .nl,cI 6 a,cA 10 (.own 0),cH 70 9 b,cI 72 c,cI 74 d,oR 1 58 e]
def W2(N:Nat)(K:Kt R):=NR.l8 N (J C6 .ret K) (J C6 (.exit 0) K)
def aeS(N:Nat):It R:=(lp 8 (al C6 (λK=>W2 N K N) an) ln)
theorem abK(N:Nat):b6 E15 (aeS N (R:=R)) (bQ f15 8):=lq 8 C6 (W2 N) λK g=>NR.r8 N g (J C6 .ret K) (J C6 (.exit 0) K)
def ag4:=dL Ay k10 NR.c NR.v
theorem akn:FO 15 ag4:=fq (E:=E15) (aK agw (aK akx (aK aky a8))) func15 (it:=λN=>aeS N) (λN=>(bn (abK N) bD)) NR.b NR.vo
def ahh:=dL Tv I_ U40.c U40.v
theorem akC:FO 40 ahh:=by
 refine Ad func40 (by kernel_rfl) (by kernel_rfl) (by intro x;rfl) λx hx w c1 vs CM hsz hvs=> ?_;obtain⟨n,_⟩:=x;replace hx:(decide (-9223372036854775808<=n)&&decide (n<=9223372036854775807))=true:=hx;simp only[Bool.and_eq_true,decide_eq_true_eq]at hx;obtain⟨v,hv,hs⟩:=hvs 0 _ rfl;have hs:v=.int .i64 n:=hs;subst hs;have hsz:vs.size=1:=hsz;obtain rfl:vs= #[.int .i64 n]:=by
  apply Array.ext
  ·simpa using hsz
  ·intro i h1 h2;obtain rfl:i=0:=by simp at h2;omega
   simpa using (Array.getElem?_eq_some_iff.1 hv).2
 obtain⟨⟨⟨⟨hg,cs,h1,rfl⟩,_⟩,_⟩,_⟩:=CM.gp;refine(Any.strconv_Itoa Tryz.lays171 n hx.1 hx.2 w h1).mono λe w' he=> ?_;obtain⟨rfl,k,os,rfl⟩:=he;refine⟨_,rfl,wE c1.K CM (λm o h=>by cases h) (yX w k os) (λ_ h=>h) (λ_ h=>.inl h) ⟨rfl,?_⟩⟩
 have hl:=_root_.Go.Lib.itoa_length_le n hx.1 hx.2;show(_root_.Go.Lib.itoa n).toArray.size<=_;simp;omega
def E19:=en [(40,ahh)] []
def acs:=dL Tv I_ sB.c sB.v
theorem afZ:FO 19 acs:=fr (E:=E19) (aK akC a8) func19 sB.b sB.vo
def E74:=en [] [(3,[0,1,3])]
def vH:Fn [.I,.I,.I] Tb:=λa b c=>[cP 0 0,cP 2 1,cI 6 a,oB 1 [.nl,.n b],oB 3 [.nl,.n c]]
def qR:Fn [.I,.I,.I,.R] Tb:=λa b c d=>[cP 0 0,cP 2 1,cI 6 a,oB 1 [.nl,.n b],oB 3 [.own 2,.n c],oR 5 45 d]
def Xc(N:Nat)(K:Kt R):=TX.l3 N (J vH (.exit 0) K) (J qR (.exit 0) K)
def PA(N:Nat)(K:Kt R):=TX.nT N (J vH (.exit 0) K) (J qR (.exit 0) K)
def UE(N:Nat):It R:=(lp 3 (al vH (λK=>Xc N K N) (al qR (λK=>PA N K N) an)) ln)
theorem SR(N:Nat)(K:Kt R):Wd E74 (UE N) (bQ f74 3) 3 K qR (PA N K):=lw (λg=>TX.uw N (cmp _ vH (g∘eP)) (cmp _ qR (g∘eP)) (J vH (.exit 0) K) (J qR (.exit 0) K)) λm i=>by simp only[Function.comp_def,wf i];rfl
theorem ahP(N:Nat)(K:Kt R):Wd E74 (UE N) (bQ f74 3) 3 K vH (Xc N K):=lw (λg=>TX.r3 N (cmp _ vH (g∘eP)) (cmp _ qR (g∘eP)) (J vH (.exit 0) K) (J qR (.exit 0) K)) λm i=>by simp only[Function.comp_def,wf i,wf (SR N K m)];rfl
theorem abW(N:Nat):b6 E74 (UE N (R:=R)) (bQ f74 3):=lm 3 (ga vH (ahP N) (ga qR (SR N) mn))
def ahw:=dL Mi M0 TX.c TX.v
theorem akR:FO 74 ahw:=fq (E:=E74) a8 func74 (it:=λN=>UE N) (λN=>(bn (abW N) bD)) TX.b TX.vo
def E51:=en [(74,ahw)] []
def ahj:=dL Mi k66 (ct _) U51.v
theorem akE:FO 51 ahj:=ft (E:=E51) (aK akR a8) func51 U51.b λ_=>U51.dW _
def E28:=en [(51,ahj)] []
def acv:=dL Mi Tl (ct _) U28.v
theorem agu:FO 28 acv:=ft (E:=E28) (aK akE a8) func28 U28.b λ_=>U28.dW _
def aiz:Fn [.R] As:=λa=>[aH 51 a]
def RY:=dL aiz I' vL.c vL.v
theorem Yv:FO 124 RY:=fr (E:=zK) a8 func124 vL.b vL.vo
def Sd:=dL A24 k22 sA.c sA.v
theorem YK:FO 185 Sd:=fr (E:=zK) a8 func185 sA.b sA.vo
def aiG:Fn [.R] As:=λa=>[aH 3 a]
def aj9:Fn [.R] iQ:=λa=>⟨[aO 3 a],[]⟩
def ZL:=dL aiG aj9 uZ.c uZ.v
theorem af0:FO 192 ZL:=fr (E:=zK) a8 func192 uZ.b uZ.vo
def TA:=en [(192,ZL)] [(3,[2,3,10,11,12])]
def qK:Fn [.R,.I,.I,.I,.I] Tb:=λa b c d e=>[cP 4 0,cP 6 1,cH 20 45 a,cI 22 b,cI 24 c,oB 1 [.nl,.n d],oB 3 [.nl,.n e]]
def nY:Fn [.R,.I,.I,.I,.I,.R] Tb:=λa b c d e f=>[cP 4 0,cP 6 1,cH 20 45 a,cI 22 b,cI 24 c,oB 1 [.nl,.n d],oB 3 [.own 2,.n e],oR 5 45 f]
def Ov(N:Nat)(K:Kt R):=iV.l3 N (J qK (.exit 0) K) (J nY (.exit 0) K)
def Kb(N:Nat)(K:Kt R):=iV.nT N (J qK (.exit 0) K) (J nY (.exit 0) K)
def Li(N:Nat):It R:=(lp 3 (al qK (λK=>Ov N K N) (al nY (λK=>Kb N K N) an)) ln)
theorem Ma(N:Nat)(K:Kt R):Wd TA (Li N) (bQ f140 3) 3 K nY (Kb N K):=lw (λg=>iV.uw N (cmp _ qK (g∘eP)) (cmp _ nY (g∘eP)) (J qK (.exit 0) K) (J nY (.exit 0) K)) λm i=>by simp only[Function.comp_def,wf i];rfl
theorem acL(N:Nat)(K:Kt R):Wd TA (Li N) (bQ f140 3) 3 K qK (Ov N K):=lw (λg=>iV.r3 N (cmp _ qK (g∘eP)) (cmp _ nY (g∘eP)) (J qK (.exit 0) K) (J nY (.exit 0) K)) λm i=>by simp only[Function.comp_def,wf i,wf (Ma N K m)];rfl
theorem U'(N:Nat):b6 TA (Li N (R:=R)) (bQ f140 3):=lm 3 (ga qK (acL N) (ga nY (Ma N) mn))
def R2:=dL Ts M0 iV.c iV.v
theorem Yz:FO 140 R2:=fq (E:=TA) (aK af0 a8) func140 (it:=λN=>Li N) (λN=>(bn (U' N) bD)) iV.b iV.vo
def aiW:=en [(185,Sd),(140,R2)] []
def LK:=dL N3 k66 iY.c iY.v
theorem Q3:FO 125 LK:=fr (E:=aiW) (aK YK (aK Yz a8)) func125 iY.b iY.vo
def E75:=en [(124,RY),(125,LK)] []
def JJ:=dL N6 Tl n7.c n7.v
theorem Nc:FO 75 JJ:=fr (E:=E75) (aK Yv (aK Q3 a8)) func75 n7.b n7.vo
def JK:=dL Ay pT (ct _) My.v
theorem Nd:FO 77 JK:=ft (E:=E27) (aK pV a8) func77 My.b λ(a0,_)=>My.dW _ a0
def LL:=dL Tv pT (ct _) AU.v
theorem Q4:FO 129 LL:=ft (E:=E27) (aK pV a8) func129 AU.b λ(a0,_)=>AU.dW _ a0
def aiX:=en [(77,JK),(129,LL),(50,r_)] []
def HM:=dL H_ pT (ct _) vM.v
theorem Lx:FO 130 HM:=ft (E:=aiX) (aK Nd (aK Q4 (aK pV a8))) func130 vM.b λ(a0,a1,a2,a3,_)=>vM.dW _ a0 a1 a2 a3
def aiK:Fn [.I] As:=λa=>[.v false [.nl],aI a]
def Z4:=dL aiK k22 CE.c CE.v
theorem agj:FO 243 Z4:=fr (E:=zK) a8 func243 CE.b CE.vo
def aau:=en [(243,Z4)] [(3,[0,3,9,10,11]),(11,[6,25,26,27])]
def aiH:Fn [.R] As:=λa=>[aH 32 a]
def EA:Fn [.R,.I,.R,.I,.I] Tb:=λa b c d e=>[cH 0 32 a,cI 6 b,cH 18 32 c,cI 20 d,cI 22 e]
def zU:Fn [.R,.I,.I,.R] Tb:=λa b c d=>[cA 12 (.own 0),cH 50 32 a,cI 52 b,cI 54 c,oR 1 9 d]
def OW(N:Nat)(K:Kt R):=vR.l3 N (J EA (.exit 0) K)
def Kg(N:Nat)(K:Kt R):=vR.M4 N (J zU (.exit 2) K)
def Qy(N:Nat):It R:=(lp 3 (al EA (λK=>OW N K N) an) (lp 11 (al zU (λK=>Kg N K N) an) ln))
theorem Vy(N:Nat):b6 aau (Qy N (R:=R)) (bQ f194 3):=lq 3 EA (OW N) λK g=>vR.r3 N g (J EA (.exit 0) K)
theorem QT(N:Nat):b6 aau (Qy N (R:=R)) (bQ f194 11):=lq 11 zU (Kg N) λK g=>vR.wZ N g (J zU (.exit 2) K)
def ZN:=dL aiH k22 vR.c vR.v
theorem af1:FO 194 ZN:=fq (E:=aau) (aK agj a8) func194 (it:=λN=>Qy N) (λN=>(bn (Vy N) (bn (QT N) bD))) vR.b vR.vo
def ai1:=en [(194,ZN)] []
def LO:=dL N3 k22 qb.c qb.v
theorem Q7:FO 146 LO:=fr (E:=ai1) (aK af1 a8) func146 qb.b qb.vo
def ad9:=en [] [(2,[0,1,4,7,8])]
def xQ:Fn [.R,.S,.I,.I,.I] Tb:=λa b c d e=>[cH 0 9 a,cA 2 (.s b),cI 8 c,cI 14 d,cI 16 e]
def OT(N:Nat)(K:Kt R):=zA.l2 N (J xQ .ret K) (J xQ (.exit 0) K)
def X3(N:Nat):It R:=(lp 2 (al xQ (λK=>OT N K N) an) ln)
theorem Vv(N:Nat):b6 ad9 (X3 N (R:=R)) (bQ f187 2):=lq 2 xQ (OT N) λK g=>zA.r2 N g (J xQ .ret K) (J xQ (.exit 0) K)
def ZJ:=dL N4 wo zA.c zA.v
theorem afX:FO 187 ZJ:=fq (E:=ad9) a8 func187 (it:=λN=>X3 N) (λN=>(bn (Vv N) bD)) zA.b zA.vo
def aiY:=en [(187,ZJ)] []
def LM:=dL N4 pT rS.c rS.v
theorem Q5:FO 132 LM:=fr (E:=aiY) (aK afX a8) func132 rS.b rS.vo
def E91:=en [(146,LO),(132,LM)] []
def Wz:=dL Mj pT Gi.c Gi.v
theorem ab':FO 91 Wz:=fr (E:=E91) (aK Q7 (aK Q5 a8)) func91 Gi.b Gi.vo
def aas:=en [(50,r_)] [(2,[1,2,8,9,10]),(5,[1,2,4,8,9,10,14,15,16])]
def xK:Fn [.B,.R,.I,.I,.R,.I] Tb:=λa b c d e f=>[cP 2 0,cA 4 (.b a),cH 16 45 b,cI 18 c,cI 20 d,oB 1 [.sh 45 e,.n f]]
def xL:Fn [.B,.R,.R,.I,.I,.R,.I,.I,.R,.I] Tb:=λa b c d e f g h i j=>[cP 2 0,cA 4 (.b a),cH 8 3 b,cH 16 45 c,cI 18 d,cI 20 e,cH 28 3 f,cI 30 g,cI 32 h,oB 1 [.sh 45 i,.n j]]
def Ow(N:Nat)(K:Kt R):=pb.l2 N (J xK .ret K) (J xK (.exit 0) K)
def Ox(N:Nat)(K:Kt R):=pb.l5 N (J xL .ret K) (J xL (.exit 2) K)
def Qv(N:Nat):It R:=(lp 2 (al xK (λK=>Ow N K N) an) (lp 5 (al xL (λK=>Ox N K N) an) ln))
theorem Va(N:Nat):b6 aas (Qv N (R:=R)) (bQ f141 2):=lq 2 xK (Ow N) λK g=>pb.r2 N g (J xK .ret K) (J xK (.exit 0) K)
theorem Vb(N:Nat):b6 aas (Qv N (R:=R)) (bQ f141 5):=lq 5 xL (Ox N) λK g=>pb.r5 N g (J xL .ret K) (J xL (.exit 2) K)
def LN:=dL Ts pT pb.c pb.v
theorem Q6:FO 141 LN:=fq (E:=aas) (aK pV a8) func141 (it:=λN=>Qv N) (λN=>(bn (Va N) (bn (Vb N) bD))) pb.b pb.vo
def adV:=en [(146,LO),(77,JK),(132,LM),(141,LN)] [(3,[1,2,3,8,9,10])]
def xI:Fn [.B,.I,.I,.R,.R,.R,.I,.R] Tb:=λa b c d e f g h=>[cP 2 0,cA 4 (.b a),cA 6 (.own 1),cA 16 (.own 1),cI 18 b,cI 20 c,oB 1 [.sh 9 d,.sh 9 e,.sh 45 f,.n g],oR 3 9 h]
def Oo(N:Nat)(K:Kt R):=oI.l3 N (J xI .ret K) (J xI (.exit 0) K)
def XN(N:Nat):It R:=(lp 3 (al xI (λK=>Oo N K N) an) ln)
theorem U5(N:Nat):b6 adV (XN N (R:=R)) (bQ f131 3):=lq 3 xI (Oo N) λK g=>oI.r3 N g (J xI .ret K) (J xI (.exit 0) K)
def RZ:=dL N3 pT oI.c oI.v
theorem Yw:FO 131 RZ:=fq (E:=adV) (aK Q7 (aK Nd (aK Q5 (aK Q6 a8)))) func131 (it:=λN=>XN N) (λN=>(bn (U5 N) bD)) oI.b oI.vo
def adS:=en [(130,HM),(91,Wz),(131,RZ),(146,LO)] [(2,[1,2,6,7,8])]
def xG:Fn [.B,.R,.I,.I,.I,.R,.R,.R,.R,.I,.R,.R,.I] Tb:=λa b c d e f g h i j k l m=>[cP 2 0,cA 4 (.b a),cH 12 51 b,cI 14 c,cI 16 d,oB 1 [.n e,.sh 51 f,.sh 9 g,.sh 9 h,.sh 45 i,.n j,.sh 127 k,.sh 55 l,.n m]]
def Oi(N:Nat)(K:Kt R):=zw.l2 N (J xG .ret K) (J xG (.exit 0) K)
def XK(N:Nat):It R:=(lp 2 (al xG (λK=>Oi N K N) an) ln)
theorem U0(N:Nat):b6 adS (XK N (R:=R)) (bQ f126 2):=lq 2 xG (Oi N) λK g=>zw.r2 N g (J xG .ret K) (J xG (.exit 0) K)
def Zl:=dL N6 pT zw.c zw.v
theorem afz:FO 126 Zl:=fq (E:=adS) (aK Lx (aK ab' (aK Yw (aK Q7 a8)))) func126 (it:=λN=>XK N) (λN=>(bn (U0 N) bD)) zw.b zw.vo
def aiB:Fn [.S,.S,.I,.I,.I,.S] As:=λa b c d e f=>[aV [.s a,.s b,.n c,.n d,.n e],.fb [.s f]]
def Zr:=dL aiB pT (ct _) GC.v
theorem afF:FO 137 Zr:=ft (E:=zK) a8 func137 GC.b λ(a0,a1,a2,a3,a4,a5,_)=>GC.dW _ a0 a1 a2 a3 a4 a5
def adX:=en [(137,Zr)] [(2,[0,1,4,7,8])]
def aiA:Fn [.R,.S] As:=λa b=>[aH 127 a,.v false [.fn 137 [[.s b]]]]
def xJ:Fn [.R,.S,.I,.I,.I] Tb:=λa b c d e=>[cH 0 127 a,cA 2 (.fn 137 [[.s b]]),cI 8 c,cI 14 d,cI 16 e]
def Ot(N:Nat)(K:Kt R):=p_.l2 N (J xJ .ret K) (J xJ (.exit 0) K)
def XP(N:Nat):It R:=(lp 2 (al xJ (λK=>Ot N K N) an) ln)
theorem U9(N:Nat):b6 adX (XP N (R:=R)) (bQ f136 2):=lq 2 xJ (Ot N) λK g=>p_.r2 N g (J xJ .ret K) (J xJ (.exit 0) K)
def Zq:=dL aiA wo p_.c p_.v
theorem afE:FO 136 Zq:=fq (E:=adX) (aK afF a8) func136 (it:=λN=>XP N) (λN=>(bn (U9 N) bD)) p_.b p_.vo
def E83:=en [(136,Zq)] []
def acC:=dL adr wo Is.c Is.v
theorem agC:FO 83 acC:=fr (E:=E83) (aK afE a8) func83 Is.b Is.vo
def ad8:=en [(83,acC)] [(2,[1,2,6,7,8])]
def nE:Fn [.B,.R,.I,.I,.I,.R,.R,.R,.R,.I,.R,.R,.I] Tb:=λa b c d e f g h i j k l m=>[cP 2 0,cA 4 (.b a),cH 12 127 b,cI 14 c,cI 16 d,oB 1 [.n e,.sh 51 f,.sh 9 g,.sh 9 h,.sh 45 i,.n j,.sh 127 k,.sh 55 l,.n m]]
def OS(N:Nat)(K:Kt R):=vP.l2 N (J nE .ret K) (J nE (.exit 0) K)
def X2(N:Nat):It R:=(lp 2 (al nE (λK=>OS N K N) an) ln)
theorem Vu(N:Nat):b6 ad8 (X2 N (R:=R)) (bQ f186 2):=lq 2 nE (OS N) λK g=>vP.r2 N g (J nE .ret K) (J nE (.exit 0) K)
def ZI:=dL N6 pT vP.c vP.v
theorem afW:FO 186 ZI:=fq (E:=ad8) (aK agC a8) func186 (it:=λN=>X2 N) (λN=>(bn (Vu N) bD)) vP.b vP.vo
def adT:=en [(77,JK),(50,r_),(186,ZI)] [(2,[1,2,6,7,8])]
def Oj(N:Nat)(K:Kt R):=yf.l2 N (J nE .ret K) (J nE (.exit 0) K)
def XL(N:Nat):It R:=(lp 2 (al nE (λK=>Oj N K N) an) ln)
theorem U1(N:Nat):b6 adT (XL N (R:=R)) (bQ f127 2):=lq 2 nE (Oj N) λK g=>yf.r2 N g (J nE .ret K) (J nE (.exit 0) K)
def Zm:=dL N6 pT yf.c yf.v
theorem afA:FO 127 Zm:=fq (E:=adT) (aK Nd (aK pV (aK afW a8))) func127 (it:=λN=>XL N) (λN=>(bn (U1 N) bD)) yf.b yf.vo
def adU:=en [(50,r_),(77,JK)] [(2,[1,2,6,7,8])]
def xH:Fn [.B,.R,.I,.I,.I,.R,.R,.R,.R,.I,.R,.R,.I] Tb:=λa b c d e f g h i j k l m=>[cP 2 0,cA 4 (.b a),cH 12 55 b,cI 14 c,cI 16 d,oB 1 [.n e,.sh 51 f,.sh 9 g,.sh 9 h,.sh 45 i,.n j,.sh 127 k,.sh 55 l,.n m]]
def Ol(N:Nat)(K:Kt R):=zx.l2 N (J xH .ret K) (J xH (.exit 0) K)
def XM(N:Nat):It R:=(lp 2 (al xH (λK=>Ol N K N) an) ln)
theorem U2(N:Nat):b6 adU (XM N (R:=R)) (bQ f128 2):=lq 2 xH (Ol N) λK g=>zx.r2 N g (J xH .ret K) (J xH (.exit 0) K)
def Zn:=dL N6 pT zx.c zx.v
theorem afB:FO 128 Zn:=fq (E:=adU) (aK pV (aK Nd a8)) func128 (it:=λN=>XM N) (λN=>(bn (U2 N) bD)) zx.b zx.vo
def E76:=en [(50,r_),(126,Zl),(127,Zm),(128,Zn),(129,LL)] []
def acA:=dL N6 pT Mx.c Mx.v
theorem agA:FO 76 acA:=fr (E:=E76) (aK pV (aK afz (aK afA (aK afB (aK Q4 a8))))) func76 Mx.b Mx.vo
def A97:Fn [.I,.S,.I,.I,.I,.S,.I,.I] As:=λa b c d e f g h=>[aV [.n a,.s b,.n c,.n d,.n e,.s f,.n g],.fb [.n h]]
def ahF:=dL A97 pT (ct _) U97.v
theorem ak0:FO 97 ahF:=ft (E:=zK) a8 func97 U97.b λ(a0,a1,a2,a3,a4,a5,a6,a7,_)=>U97.dW _ a0 a1 a2 a3 a4 a5 a6 a7
def aes:=en [(97,ahF)] [(2,[0,1,4,7,8])]
def aiP:Fn [.R,.I] As:=λa b=>[aH 55 a,.v false [.fn 97 [[.n b]]]]
def akc:Fn [.I] iQ:=λa=>⟨[aI a],[]⟩
def yd:Fn [.R,.I,.I,.I,.I] Tb:=λa b c d e=>[cH 0 55 a,cA 2 (.fn 97 [[.n b]]),cI 8 c,cI 14 d,cI 16 e]
def PF(N:Nat)(K:Kt R):=yk.l2 N (J yd .ret K) (J yd (.exit 0) K)
def Ym(N:Nat):It R:=(lp 2 (al yd (λK=>PF N K N) an) ln)
theorem V7(N:Nat):b6 aes (Ym N (R:=R)) (bQ f96 2):=lq 2 yd (PF N) λK g=>yk.r2 N g (J yd .ret K) (J yd (.exit 0) K)
def Sz:=dL aiP akc yk.c yk.v
theorem Y3:FO 96 Sz:=fq (E:=aes) (aK ak0 a8) func96 (it:=λN=>Ym N) (λN=>(bn (V7 N) bD)) yk.b yk.vo
def acG:=dL A97 pT (ct _) NV.v
theorem agG:FO 99 acG:=ft (E:=zK) a8 func99 NV.b λ(a0,a1,a2,a3,a4,a5,a6,a7,_)=>NV.dW _ a0 a1 a2 a3 a4 a5 a6 a7
def aet:=en [(99,acG)] [(2,[0,1,4,7,8])]
def aiQ:Fn [.R,.I] As:=λa b=>[aH 55 a,.v false [.fn 99 [[.n b]]]]
def akd:Fn [.I] iQ:=λa=>⟨[aI a],[]⟩
def ye:Fn [.R,.I,.I,.I,.I] Tb:=λa b c d e=>[cH 0 55 a,cA 2 (.fn 99 [[.n b]]),cI 8 c,cI 14 d,cI 16 e]
def PG(N:Nat)(K:Kt R):=rY.l2 N (J ye .ret K) (J ye (.exit 0) K)
def Yn(N:Nat):It R:=(lp 2 (al ye (λK=>PG N K N) an) ln)
theorem V8(N:Nat):b6 aet (Yn N (R:=R)) (bQ f96 2):=lq 2 ye (PG N) λK g=>rY.r2 N g (J ye .ret K) (J ye (.exit 0) K)
def SA:=dL aiQ akd rY.c rY.v
theorem Y4:FO 96 SA:=fq (E:=aet) (aK agG a8) func96 (it:=λN=>Yn N) (λN=>(bn (V8 N) bD)) rY.b rY.vo
def E57:=en [(96,Sz),(96,SA)] []
def acy:=dL Ct wo Mw.c Mw.v
theorem agy:FO 57 acy:=fr (E:=E57) (aK Y3 (aK Y4 a8)) func57 Mw.b Mw.vo
def A79:Fn [.S,.I,.I,.S,.S] As:=λa b c d e=>[aV [.s a,.n b,.n c,.s d],.fb [.s e]]
def ahx:=dL A79 pT (ct _) U79.v
theorem akS:FO 79 ahx:=ft (E:=zK) a8 func79 U79.b λ(a0,a1,a2,a3,a4,_)=>U79.dW _ a0 a1 a2 a3 a4
def aeq:=en [(79,ahx)] [(2,[0,1,4,7,8])]
def aiN:Fn [.R,.S] As:=λa b=>[aH 51 a,.v false [.fn 79 [[.s b]]]]
def aka:Fn [.I] iQ:=λa=>⟨[aI a],[]⟩
def yb:Fn [.R,.S,.I,.I,.I] Tb:=λa b c d e=>[cH 0 51 a,cA 2 (.fn 79 [[.s b]]),cI 8 c,cI 14 d,cI 16 e]
def PB(N:Nat)(K:Kt R):=vU.l2 N (J yb .ret K) (J yb (.exit 0) K)
def Yk(N:Nat):It R:=(lp 2 (al yb (λK=>PB N K N) an) ln)
theorem V3(N:Nat):b6 aeq (Yk N (R:=R)) (bQ f78 2):=lq 2 yb (PB N) λK g=>vU.r2 N g (J yb .ret K) (J yb (.exit 0) K)
def Sx:=dL aiN aka vU.c vU.v
theorem Y1:FO 78 Sx:=fq (E:=aeq) (aK akS a8) func78 (it:=λN=>Yk N) (λN=>(bn (V3 N) bD)) vU.b vU.vo
def R1:=dL A79 pT (ct _) zy.v
theorem Yy:FO 139 R1:=ft (E:=zK) a8 func139 zy.b λ(a0,a1,a2,a3,a4,_)=>zy.dW _ a0 a1 a2 a3 a4
def aer:=en [(139,R1)] [(2,[0,1,4,7,8])]
def aiO:Fn [.R,.S] As:=λa b=>[aH 51 a,.v false [.fn 139 [[.s b]]]]
def akb:Fn [.I] iQ:=λa=>⟨[aI a],[]⟩
def yc:Fn [.R,.S,.I,.I,.I] Tb:=λa b c d e=>[cH 0 51 a,cA 2 (.fn 139 [[.s b]]),cI 8 c,cI 14 d,cI 16 e]
def PC(N:Nat)(K:Kt R):=rX.l2 N (J yc .ret K) (J yc (.exit 0) K)
def Yl(N:Nat):It R:=(lp 2 (al yc (λK=>PC N K N) an) ln)
theorem V4(N:Nat):b6 aer (Yl N (R:=R)) (bQ f78 2):=lq 2 yc (PC N) λK g=>rX.r2 N g (J yc .ret K) (J yc (.exit 0) K)
def Sy:=dL aiO akb rX.c rX.v
theorem Y2:FO 78 Sy:=fq (E:=aer) (aK Yy a8) func78 (it:=λN=>Yl N) (λN=>(bn (V4 N) bD)) rX.b rX.vo
def E80:=en [(130,HM),(129,LL),(50,r_)] []
def Ww:=dL ads pT (ct _) Da.v
theorem ab8:FO 80 Ww:=ft (E:=E80) (aK Lx (aK Q4 (aK pV a8))) func80 Da.b λ(a0,a1,a2,a3,a4,_)=>Da.dW _ a0 a1 a2 a3 a4
def aaw:=en [] [(2,[0,1,5]),(6,[0,1,5,19])]
def EH:Fn [.I,.S,.I,.I] Tb:=λa b c d=>[cA 0 (.i .u32 a),cA 2 (.s b),cI 10 c,cI 38 d]
def Pf(N:Nat)(K:Kt R):=vS.l2 N (J sq (.exit 0) K)
def Pg(N:Nat)(K:Kt R):=vS.l6 N (J EH (.exit 2) K)
def QC(N:Nat):It R:=(lp 2 (al sq (λK=>Pf N K N) an) (lp 6 (al EH (λK=>Pg N K N) an) ln))
theorem VP(N:Nat):b6 aaw (QC N (R:=R)) (bQ f242 2):=lq 2 sq (Pf N) λK g=>vS.r2 N g (J sq (.exit 0) K)
theorem VQ(N:Nat):b6 aaw (QC N (R:=R)) (bQ f242 6):=lq 6 EH (Pg N) λK g=>vS.r6 N g (J EH (.exit 2) K)
def Z3:=dL adJ UL vS.c vS.v
theorem agi:FO 242 Z3:=fq (E:=aaw) a8 func242 (it:=λN=>QC N) (λN=>(bn (VP N) (bn (VQ N) bD))) vS.b vS.vo
def ajc:=en [(242,Z3)] []
def ZM:=dL Ay UL uj.c uj.v
theorem YM:FO 193 ZM:=fr (E:=ajc) (aK agi a8) func193 uj.b uj.vo
def adZ:=en [(193,ZM)] []
def R3:=dL adB wo qa.c qa.v
theorem YA:FO 142 R3:=fr (E:=adZ) (aK YM a8) func142 qa.b qa.vo
def E86:=en [(140,R2),(141,LN),(142,R3)] [(5,[1,4,5,19,20,21]),(15,[4,5,49,50,51]),(18,[4,5,10,49,50,51,56,57])]
def KA:Fn [.S,.I,.I,.I,.I,.R] Tb:=λa b c d e f=>[cA 2 (.s a),cP 8 0,cP 10 1,cA 38 (.own 2),cI 40 b,cI 42 c,oB 1 [.nl,.n d],oB 3 [.own 2,.n e],oR 5 45 f]
def EO:Fn [.I,.I,.I,.I,.R] Tb:=λa b c d e=>[cP 8 0,cP 10 1,cA 98 (.own 2),cI 100 a,cI 102 b,oB 1 [.nl,.n c],oB 3 [.own 2,.n d],oR 5 45 e]
def EP:Fn [.N,.I,.I,.I,.I,.I,.I,.R] Tb:=λa b c d e f g h=>[cP 8 0,cP 10 1,cA 20 (.lR 2 a 0),cA 98 (.own 2),cI 100 b,cI 102 c,cI 112 d,cI 114 e,oB 1 [.nl,.n f],oB 3 [.own 2,.n g],oR 5 45 h]
def Xf(N:Nat)(K:Kt R):=nQ.l5 N (J KA (.exit 0) K)
def PD(N:Nat)(K:Kt R):=nQ.l15 N (J EO (.exit 2) K)
def PE(N:Nat)(K:Kt R):=nQ.l18 N (J EP (.exit 4) K)
def UF(N:Nat):It R:=(lp 5 (al KA (λK=>Xf N K N) an) (lp 15 (al EO (λK=>PD N K N) an) (lp 18 (al EP (λK=>PE N K N) an) ln)))
theorem abZ(N:Nat):b6 E86 (UF N (R:=R)) (bQ f86 5):=lq 5 KA (Xf N) λK g=>nQ.r5 N g (J KA (.exit 0) K)
theorem V5(N:Nat):b6 E86 (UF N (R:=R)) (bQ f86 15):=lq 15 EO (PD N) λK g=>nQ.r15 N g (J EO (.exit 2) K)
theorem V6(N:Nat):b6 E86 (UF N (R:=R)) (bQ f86 18):=lq 18 EP (PE N) λK g=>nQ.r18 N g (J EP (.exit 4) K)
def acD:=dL Tq M0 nQ.c nQ.v
theorem agD:FO 86 acD:=fq (E:=E86) (aK Yz (aK Q6 (aK YA a8))) func86 (it:=λN=>UF N) (λN=>(bn (abZ N) (bn (V5 N) (bn (V6 N) bD)))) nQ.b nQ.vo
def aiF:Fn [.S,.S] As:=λa b=>[aS a,.fb [.s b]]
def Sf:=dL aiF pT (ct _) zC.v
theorem YL:FO 189 Sf:=ft (E:=zK) a8 func189 zC.b λ(a0,a1,_)=>zC.dW _ a0 a1
def aek:=en [(189,Sf)] [(2,[0,1,4,7,8])]
def aiJ:Fn [.R,.S] As:=λa b=>[aH 9 a,.v false [.fn 189 [[.s b]]]]
def xZ:Fn [.R,.S,.I,.I,.I] Tb:=λa b c d e=>[cH 0 9 a,cA 2 (.fn 189 [[.s b]]),cI 8 c,cI 14 d,cI 16 e]
def Pc(N:Nat)(K:Kt R):=rW.l2 N (J xZ .ret K) (J xZ (.exit 0) K)
def Ye(N:Nat):It R:=(lp 2 (al xZ (λK=>Pc N K N) an) ln)
theorem VO(N:Nat):b6 aek (Ye N (R:=R)) (bQ f240 2):=lq 2 xZ (Pc N) λK g=>rW.r2 N g (J xZ .ret K) (J xZ (.exit 0) K)
def Z2:=dL aiJ wo rW.c rW.v
theorem agh:FO 240 Z2:=fq (E:=aek) (aK YL a8) func240 (it:=λN=>Ye N) (λN=>(bn (VO N) bD)) rW.b rW.vo
def ad_:=en [(240,Z2),(189,Sf)] [(5,[0,1,5,6])]
def aiE:Fn [.R,.S] As:=λa b=>[aO 9 a,.v false [.fn 189 [[.s b]]]]
def aj8:Fn [.R] iQ:=λa=>⟨[aO 9 a],[[.nl]]⟩
def Ey:Fn [.S,.I,.I,.R] Tb:=λa b c d=>[cA 0 (.own 900000000),cA 2 (.fn 189 [[.s a]]),cI 10 b,cI 12 c,oR 1800000001 9 d]
def OU(N:Nat)(K:Kt R):=vQ.l5 N (J Ey (.exit 0) K)
def X4(N:Nat):It R:=(lp 5 (al Ey (λK=>OU N K N) an) ln)
theorem Vw(N:Nat):b6 ad_ (X4 N (R:=R)) (bQ f188 5):=lq 5 Ey (OU N) λK g=>vQ.r5 N g (J Ey (.exit 0) K)
def ZK:=dL aiE aj8 vQ.c vQ.v
theorem afY:FO 188 ZK:=fq (E:=ad_) (aK agh (aK YL a8)) func188 (it:=λN=>X4 N) (λN=>(bn (Vw N) bD)) vQ.b vQ.vo
def aiZ:=en [(185,Sd),(188,ZK)] []
def R0:=dL N4 k22 jN.c jN.v
theorem Yx:FO 133 R0:=fr (E:=aiZ) (aK YK (aK afY a8)) func133 jN.b jN.vo
def adW:=en [(141,LN),(142,R3)] [(5,[1,5,12,13,14])]
def Eh:Fn [.S,.I,.R,.I,.I] Tb:=λa b c d e=>[cA 2 (.s a),cI 10 b,cH 24 45 c,cI 26 d,cI 28 e]
def Oq(N:Nat)(K:Kt R):=uX.l5 N (J Eh (.exit 0) K)
def XO(N:Nat):It R:=(lp 5 (al Eh (λK=>Oq N K N) an) ln)
theorem U8(N:Nat):b6 adW (XO N (R:=R)) (bQ f134 5):=lq 5 Eh (Oq N) λK g=>uX.r5 N g (J Eh (.exit 0) K)
def Zo:=dL Tq wo uX.c uX.v
theorem afC:FO 134 Zo:=fq (E:=adW) (aK Q6 (aK YA a8)) func134 (it:=λN=>XO N) (λN=>(bn (U8 N) bD)) uX.b uX.vo
def E81:=en [(125,LK),(131,RZ),(77,JK),(86,acD),(132,LM),(133,R0),(134,Zo)] []
def acB:=dL Mj ae7 Mz.c Mz.v
theorem agB:FO 81 acB:=fr (E:=E81) (aK Q3 (aK Yw (aK Nd (aK agD (aK Q5 (aK Yx (aK afC a8))))))) func81 Mz.b Mz.vo
def acj:Go.Shelf.Ren:=⟨λn=>bif Nat.beq n 22 then 135 else bif Nat.beq n 29 then 190 else 191,λn=>bif Nat.beq n 24 then 39 else bif Nat.beq n 9 then 55 else bif Nat.beq n 3 then 3 else bif Nat.beq n 4 then 4 else n,λn=>n⟩
def Zp:List gg->Option (Bool×iQ):=Ins.wm 55 72
theorem abj:Ins.L Tryz.prog acj "slices.Insert[[]loop.example/g00245/impl.Client,loop.example/g00245/impl.Client]" 7 where
 mixed:=hM
 f22:=func135.trans (by kernel_rfl)
 t3:=by kernel_rfl
 a3:=Ins.jT (P:=Tryz.prog) (t:=3) (d:=.int .i64) (by kernel_rfl) rfl
 t4:=by kernel_rfl
 a4:=Ins.jT (P:=Tryz.prog) (t:=4) (d:=.bool) (by kernel_rfl) rfl
 t24:=by kernel_rfl
 a24:=Ins.jT (P:=Tryz.prog) (t:=39) (d:=.slice 55) (by kernel_rfl) rfl
 z9:=Ins.Ar hE (t:=55) (ti:=⟨true,[.i .i64,.s,.i .i64,.i .i64,.i .i64,.s,.i .i64],72⟩) (by kernel_rfl)
theorem afD:FO 135 Zp:=
 Ins.yw (e:=55) (te:=⟨true,[.i .i64,.s,.i .i64,.i .i64,.i .i64,.s,.i .i64],72⟩) (by kernel_rfl) rfl (by kernel_rfl) hE abj
  (λargs w=>run_callFunc_extern (e:=Extern.SlicesOverlaps.overlaps #[39,39] #[4]) func190 (by kernel_rfl) (by kernel_rfl) (by kernel_rfl) (by kernel_rfl) args w)
  ⟨_,func135,by kernel_rfl,by kernel_rfl⟩
def E82:=en [(135,Zp)] [(2,[0,3,4])]
def A82:Fn [.I,.R,.R,.R,.R,.I,.R,.R,.I,.I,.S,.I,.I,.I,.S,.I] As:=λa b c d e f g h i j k l m o p q=>[.pt [.n a,.ow 51 true b,.ow 9 true c,.ow 9 true d,.ow 45 true e,.n f,.ow 127 true g,.ow 55 true h,.n i],aV [.n j,.s k,.n l,.n m,.n o,.s p,.n q]]
def k82:Fn [.I,.R,.R,.R,.R,.I,.R,.R,.I] iQ:=λa b c d e f g h i=>⟨[],[[.n a,.kp b,.kp c,.kp d,.kp e,.n f,.kp g,.ow 55 true h,.n i]]⟩
def Kz:Fn [.I,.I,.I,.I,.I,.S,.I,.I,.I,.S,.I,.R,.R,.R,.R,.R,.R] Tb:=λa b c d e f g h i j k l m o p q r=>[cP 0 900000900,cP 6 1,cI 8 a,oB 1800001801 [.n b,.own 900000001,.own 900000002,.own 900000003,.own 900000004,.n c,.own 900000006,.own 900000007,.n d],oB 3 [.n e,.s f,.n g,.n h,.n i,.s j,.n k],oR 1800000003 51 l,oR 1800000005 9 m,oR 1800000007 9 o,oR 1800000009 45 p,oR 1800000013 127 q,oR 1800000015 55 r]
def Xe(N:Nat)(K:Kt R):=pj.l2 N (J Kz (.exit 0) K)
def aeZ(N:Nat):It R:=(lp 2 (al Kz (λK=>Xe N K N) an) ln)
theorem abY(N:Nat):b6 E82 (aeZ N (R:=R)) (bQ f82 2):=lq 2 Kz (Xe N) λK g=>pj.r2 N g (J Kz (.exit 0) K)
def ahy:=dL A82 k82 pj.c pj.v
theorem akT:FO 82 ahy:=fq (E:=E82) (aK afD a8) func82 (it:=λN=>aeZ N) (λN=>(bn (abY N) bD)) pj.b pj.vo
def adY:=en [(78,Sx),(78,Sy),(139,R1)] [(5,[0,1,5,6])]
def aiC:Fn [.R,.S] As:=λa b=>[aO 51 a,.v false [.fn 139 [[.s b]]]]
def aj6:Fn [.R] iQ:=λa=>⟨[aO 51 a],[[.nl]]⟩
def Ei:Fn [.S,.I,.I,.R] Tb:=λa b c d=>[cA 0 (.own 900000000),cA 2 (.fn 139 [[.s a]]),cI 10 b,cI 12 c,oR 1800000001 51 d]
def Ou(N:Nat)(K:Kt R):=oJ.l5 N (J Ei (.exit 0) K)
def XQ(N:Nat):It R:=(lp 5 (al Ei (λK=>Ou N K N) an) ln)
theorem U_(N:Nat):b6 adY (XQ N (R:=R)) (bQ f138 5):=lq 5 Ei (Ou N) λK g=>oJ.r5 N g (J Ei (.exit 0) K)
def Zs:=dL aiC aj6 oJ.c oJ.v
theorem afG:FO 138 Zs:=fq (E:=adY) (aK Y1 (aK Y2 (aK Yy a8))) func138 (it:=λN=>XQ N) (λN=>(bn (U_ N) bD)) oJ.b oJ.vo
def E84:=en [(124,RY),(138,Zs)] []
def Wx:=dL adt I' Cj.c Cj.v
theorem ab9:FO 84 Wx:=fr (E:=E84) (aK Yv (aK afG a8)) func84 Cj.b Cj.vo
def E85:=en [(125,LK),(133,R0)] []
def ahz:=dL Mj k66 H3.c H3.v
theorem akU:FO 85 ahz:=fr (E:=E85) (aK Q3 (aK Yx a8)) func85 H3.b H3.vo
def E52:=en [(75,JJ),(76,acA),(50,r_),(77,JK),(57,acy),(78,Sx),(78,Sy),(80,Ww),(81,acB),(82,ahy),(83,acC),(84,Wx),(85,ahz),(86,acD)] []
def ahk:=dL Tp ae6 PM.c PM.v
theorem akF:FO 52 ahk:=fr (E:=E52) (aK Nc (aK agA (aK pV (aK Nd (aK agy (aK Y1 (aK Y2 (aK ab8 (aK agB (aK akT (aK agC (aK ab9 (aK akU (aK agD a8)))))))))))))) func52 PM.b PM.vo
def E87:=en [(76,acA),(50,r_)] []
def Wy:=dL Ct pT H4.c H4.v
theorem ab_:FO 87 Wy:=fr (E:=E87) (aK agA (aK pV a8)) func87 H4.b H4.vo
def Zt:=dL Tt ae_ Im.c Im.v
theorem afH:FO 143 Zt:=fh (E:=zK) a8 func143 (it:=λ_=>ln) (λ_=>bD) (λ_=>Im.b) λx f h=>⟨0,Im.dW _ x.1 x.2.1 x.2.2.1 h⟩
def TB:=en [(50,r_)] [(2,[1,2,6,7,8])]
def xM:Fn [.B,.R,.I,.I,.I,.S,.R] Tb:=λa b c d e f g=>[cP 2 0,cA 4 (.b a),cH 12 219 b,cI 14 c,cI 16 d,oB 1 [.n e,.s f,.sh 219 g]]
def Oy(N:Nat)(K:Kt R):=GD.l2 N (J xM .ret K) (J xM (.exit 0) K)
def XR(N:Nat):It R:=(lp 2 (al xM (λK=>Oy N K N) an) ln)
theorem Vc(N:Nat):b6 TB (XR N (R:=R)) (bQ f144 2):=lq 2 xM (Oy N) λK g=>GD.r2 N g (J xM .ret K) (J xM (.exit 0) K)
def Zu:=dL Tt pT (ct _) GD.v
theorem afI:FO 144 Zu:=fh (E:=TB) (aK pV a8) func144 (it:=λN=>XR N) (λN=>(bn (Vc N) bD)) GD.b λx f h=>GD.dW _ x.1 x.2.1 x.2.2.1 f.1.2.1 f.1.2.2.1
def E88:=en [(143,Zt),(144,Zu),(50,r_)] []
def ahA:=dL adu ae8 Th.c Th.v
theorem akV:FO 88 ahA:=fh (E:=E88) (aK afH (aK afI (aK pV a8))) func88 (it:=λ_=>ln) (λ_=>bD) (λ_=>Th.b) λx f h=>⟨0,Th.dW _ x.1 x.2.1 x.2.2.1 x.2.2.2.1 h f.1.2.1 f.1.2.2.1 f.2.1.1⟩
def E89:=en [] [(1,[0,1,9,10,11])]
def A89:Fn [.I,.R,.R,.R,.R,.I,.R,.R,.I,.I] As:=λa b c d e f g h i j=>[.pt [.n a,.ow 51 true b,.ow 9 true c,.ow 9 true d,.ow 45 true e,.n f,.ow 127 true g,.ow 55 true h,.n i],aI j]
def KB:Fn [.I,.I,.I,.I,.I,.I,.R,.R,.R,.R,.R,.R] Tb:=λa b c d e f g h i j k l=>[cP 0 900000900,cI 2 a,cA 18 (.own 900000007),cI 20 b,cI 22 c,oB 1800001801 [.n d,.own 900000001,.own 900000002,.own 900000003,.own 900000004,.n e,.own 900000006,.own 900000007,.n f],oR 1800000015 55 g,oR 1800000003 51 h,oR 1800000005 9 i,oR 1800000007 9 j,oR 1800000009 45 k,oR 1800000013 127 l]
def Xg(N:Nat)(K:Kt R):=NT.l1 N (J KB (.exit 0) K)
def ae0(N:Nat):It R:=(lp 1 (al KB (λK=>Xg N K N) an) ln)
theorem ab0(N:Nat):b6 E89 (ae0 N (R:=R)) (bQ f89 1):=lq 1 KB (Xg N) λK g=>NT.r1 N g (J KB (.exit 0) K)
def ahB:=dL A89 abw NT.c NT.v
theorem akW:FO 89 ahB:=fq (E:=E89) a8 func89 (it:=λN=>ae0 N) (λN=>(bn (ab0 N) bD)) NT.b NT.vo
def E53:=en [(75,JJ),(87,Wy),(88,ahA),(89,ahB)] []
def ahl:=dL Tp M1 Ta.c Ta.v
theorem akG:FO 53 ahl:=fr (E:=E53) (aK Nc (aK ab_ (aK akV (aK akW a8)))) func53 Ta.b Ta.vo
def E94:=en [] [(1,[0,1,2,11,12,13])]
def KD:Fn [.I,.I,.I,.I,.I,.I,.I,.R,.R,.R,.R,.R,.R] Tb:=λa b c d e f g h i j k l m=>[cP 0 900000900,cI 2 a,cI 4 b,cA 22 (.own 900000007),cI 24 c,cI 26 d,oB 1800001801 [.n e,.own 900000001,.own 900000002,.own 900000003,.own 900000004,.n f,.own 900000006,.own 900000007,.n g],oR 1800000015 55 h,oR 1800000003 51 i,oR 1800000005 9 j,oR 1800000007 9 k,oR 1800000009 45 l,oR 1800000013 127 m]
def Xi(N:Nat)(K:Kt R):=Iv.l1 N (J KD (.exit 0) K)
def ae2(N:Nat):It R:=(lp 1 (al KD (λK=>Xi N K N) an) ln)
theorem ab2(N:Nat):b6 E94 (ae2 N (R:=R)) (bQ f94 1):=lq 1 KD (Xi N) λK g=>Iv.r1 N g (J KD (.exit 0) K)
def acF:=dL adv abw Iv.c Iv.v
theorem agF:FO 94 acF:=fq (E:=E94) a8 func94 (it:=λN=>ae2 N) (λN=>(bn (ab2 N) bD)) Iv.b Iv.vo
def ack:Go.Shelf.Ren:=⟨λn=>bif Nat.beq n 22 then 204 else bif Nat.beq n 29 then 251 else 252,λn=>bif Nat.beq n 24 then 31 else bif Nat.beq n 9 then 51 else bif Nat.beq n 3 then 3 else bif Nat.beq n 4 then 4 else n,λn=>n⟩
def ZT:List gg->Option (Bool×iQ):=Ins.wm 51 48
theorem abk:Ins.L Tryz.prog ack "slices.Insert[[]loop.example/g00245/impl.Entry,loop.example/g00245/impl.Entry]" 4 where
 mixed:=hM
 f22:=func204.trans (by kernel_rfl)
 t3:=by kernel_rfl
 a3:=Ins.jT (P:=Tryz.prog) (t:=3) (d:=.int .i64) (by kernel_rfl) rfl
 t4:=by kernel_rfl
 a4:=Ins.jT (P:=Tryz.prog) (t:=4) (d:=.bool) (by kernel_rfl) rfl
 t24:=by kernel_rfl
 a24:=Ins.jT (P:=Tryz.prog) (t:=31) (d:=.slice 51) (by kernel_rfl) rfl
 z9:=Ins.Ar hE (t:=51) (ti:=⟨true,[.s,.i .i64,.i .i64,.s],48⟩) (by kernel_rfl)
theorem af7:FO 204 ZT:=
 Ins.yw (e:=51) (te:=⟨true,[.s,.i .i64,.i .i64,.s],48⟩) (by kernel_rfl) rfl (by kernel_rfl) hE abk
  (λargs w=>run_callFunc_extern (e:=Extern.SlicesOverlaps.overlaps #[31,31] #[4]) func251 (by kernel_rfl) (by kernel_rfl) (by kernel_rfl) (by kernel_rfl) args w)
  ⟨_,func204,by kernel_rfl,by kernel_rfl⟩
def ad1:=en [(84,Wx),(204,ZT)] [(3,[3,5,6])]
def Ek:Fn [.I,.S,.I,.I,.S,.R] Tb:=λa b c d e f=>[cP 6 0,cA 10 (.own 1),cI 12 a,oB 1 [.s b,.n c,.n d,.s e],oR 3 51 f]
def OB(N:Nat)(K:Kt R):=uf.l3 N (J Ek (.exit 0) K)
def XU(N:Nat):It R:=(lp 3 (al Ek (λK=>OB N K N) an) ln)
theorem Vf(N:Nat):b6 ad1 (XU N (R:=R)) (bQ f154 3):=lq 3 Ek (OB N) λK g=>uf.r3 N g (J Ek (.exit 0) K)
def R7:=dL adE I' uf.c uf.v
theorem YE:FO 154 R7:=fq (E:=ad1) (aK ab9 (aK af7 a8)) func154 (it:=λN=>XU N) (λN=>(bn (Vf N) bD)) uf.b uf.vo
def ai0:=en [(81,acB),(84,Wx),(91,Wz),(154,R7)] []
def R4:=dL adC ae' yh.c yh.v
theorem YB:FO 145 R4:=fr (E:=ai0) (aK agB (aK ab9 (aK ab' (aK YE a8)))) func145 yh.b yh.vo
def E90:=en [(75,JJ),(87,Wy),(50,r_),(94,acF),(145,R4)] []
def ahC:=dL adw M1 Ti.c Ti.v
theorem akX:FO 90 ahC:=fr (E:=E90) (aK Nc (aK ab_ (aK pV (aK agF (aK YB a8))))) func90 Ti.b Ti.vo
def ael:=en [(50,r_)] [(4,[0,4])]
def EI:Fn [.I,.R] Tb:=λa b=>[cI 0 a,cA 8 (.own 0),oR 1 5 b]
def Ph(N:Nat)(K:Kt R):=nq.l4 N (J EI (.exit 0) K)
def Yf(N:Nat):It R:=(lp 4 (al EI (λK=>Ph N K N) an) ln)
theorem VR(N:Nat):b6 ael (Yf N (R:=R)) (bQ f245 4):=lq 4 EI (Ph N) λK g=>nq.r4 N g (J EI (.exit 0) K)
def L0:=dL Tv Fq (ct _) nq.v
theorem Rh:FO 245 L0:=fh (E:=ael) (aK pV a8) func245 (it:=λN=>Yf N) (λN=>(bn (VR N) bD)) nq.b λx f h=>nq.dW _ x.1
def ajq:=en [(245,L0)] []
def Z5:=dL Ay Fq (ct _) CF.v
theorem agk:FO 244 Z5:=fh (E:=ajq) (aK Rh a8) func244 (it:=λ_=>ln) (λ_=>bD) (λ_=>CF.b) λx f h=>⟨0,CF.dW _ x.1⟩
def ajd:=en [(130,HM),(244,Z5),(245,L0)] []
def ZO:=dL H_ Fq (ct _) CC.v
theorem af2:FO 195 ZO:=fh (E:=ajd) (aK Lx (aK agk (aK Rh a8))) func195 (it:=λ_=>ln) (λ_=>bD) (λ_=>CC.b) λx f h=>⟨0,CC.dW _ x.1 x.2.1 x.2.2.1 x.2.2.2.1⟩
def Si:=dL Ay I_ uk.c uk.v
theorem YP:FO 202 Si:=fr (E:=adZ) (aK YM a8) func202 uk.b uk.vo
def aje:=en [(50,r_),(245,L0),(202,Si)] []
def ZP:=dL Ay Fq AW.c AW.v
theorem af3:FO 196 ZP:=fr (E:=aje) (aK pV (aK Rh (aK YP a8))) func196 AW.b AW.vo
def ai2:=en [(195,ZO),(196,ZP)] []
def R5:=dL H_ Fq mh.c mh.v
theorem YC:FO 147 R5:=fr (E:=ai2) (aK af2 (aK af3 a8)) func147 mh.b mh.vo
def E92:=en [(147,R5)] []
def ahD:=dL H_ UJ H5.c H5.v
theorem akY:FO 92 ahD:=fr (E:=E92) (aK YC a8) func92 H5.b H5.vo
def LP:=dL N5 QJ sr.c sr.v
theorem Q8:FO 148 LP:=fr (E:=zK) a8 func148 sr.b sr.vo
def adH:Fn [.S,.S,.I,.S] As:=λa b c d=>[aV [.s a,.s b,.n c],.fb [.s d]]
def Z6:=dL adH pT (ct _) Ir.v
theorem agl:FO 247 Z6:=ft (E:=zK) a8 func247 Ir.b λ(a0,a1,a2,a3,_)=>Ir.dW _ a0 a1 a2 a3
def WQ:=en [(247,Z6)] [(2,[0,1,4,7,8])]
def adF:Fn [.R,.S] As:=λa b=>[aH 189 a,.v false [.fn 247 [[.s b]]]]
def afb:Fn [.I] iQ:=λa=>⟨[aI a],[]⟩
def tw:Fn [.R,.S,.I,.I,.I] Tb:=λa b c d e=>[cH 0 189 a,cA 2 (.fn 247 [[.s b]]),cI 8 c,cI 14 d,cI 16 e]
def Kh(N:Nat)(K:Kt R):=rK.l2 N (J tw .ret K) (J tw (.exit 0) K)
def QD(N:Nat):It R:=(lp 2 (al tw (λK=>Kh N K N) an) ln)
theorem QU(N:Nat):b6 WQ (QD N (R:=R)) (bQ f246 2):=lq 2 tw (Kh N) λK g=>rK.r2 N g (J tw .ret K) (J tw (.exit 0) K)
def JG:=dL adF afb rK.c rK.v
theorem Ri:FO 246 JG:=fq (E:=WQ) (aK agl a8) func246 (it:=λN=>QD N) (λN=>(bn (QU N) bD)) rK.b rK.vo
def Sr:=dL adH pT (ct _) zD.v
theorem YW:FO 250 Sr:=ft (E:=zK) a8 func250 zD.b λ(a0,a1,a2,a3,_)=>zD.dW _ a0 a1 a2 a3
def WR:=en [(250,Sr)] [(2,[0,1,4,7,8])]
def adG:Fn [.R,.S] As:=λa b=>[aH 189 a,.v false [.fn 250 [[.s b]]]]
def afc:Fn [.I] iQ:=λa=>⟨[aI a],[]⟩
def tz:Fn [.R,.S,.I,.I,.I] Tb:=λa b c d e=>[cH 0 189 a,cA 2 (.fn 250 [[.s b]]),cI 8 c,cI 14 d,cI 16 e]
def Ki(N:Nat)(K:Kt R):=mG.l2 N (J tz .ret K) (J tz (.exit 0) K)
def QE(N:Nat):It R:=(lp 2 (al tz (λK=>Ki N K N) an) ln)
theorem QV(N:Nat):b6 WR (QE N (R:=R)) (bQ f246 2):=lq 2 tz (Ki N) λK g=>mG.r2 N g (J tz .ret K) (J tz (.exit 0) K)
def JH:=dL adG afc mG.c mG.v
theorem Rj:FO 246 JH:=fq (E:=WR) (aK YW a8) func246 (it:=λN=>QE N) (λN=>(bn (QV N) bD)) mG.b mG.vo
def ajf:=en [(246,JG),(246,JH)] []
def Sg:=dL Mk wo gQ.c gQ.v
theorem YN:FO 197 Sg:=fr (E:=ajf) (aK Ri (aK Rj a8)) func197 gQ.b gQ.vo
def xN:Fn [.B,.R,.I,.I,.R] Tb:=λa b c d e=>[cP 2 0,cA 4 (.b a),cH 12 189 b,cI 14 c,cI 16 d,oB 1 [.sh 189 e]]
def Oz(N:Nat)(K:Kt R):=jO.l2 N (J xN .ret K) (J xN (.exit 0) K)
def XS(N:Nat):It R:=(lp 2 (al xN (λK=>Oz N K N) an) ln)
theorem Vd(N:Nat):b6 TB (XS N (R:=R)) (bQ f150 2):=lq 2 xN (Oz N) λK g=>jO.r2 N g (J xN .ret K) (J xN (.exit 0) K)
def HN:=dL N5 pT jO.c jO.v
theorem Ly:FO 150 HN:=fq (E:=TB) (aK pV a8) func150 (it:=λN=>XS N) (λN=>(bn (Vd N) bD)) jO.b jO.vo
def aiI:Fn [.I,.S,.S,.S] As:=λa b c d=>[aV [.n a,.s b,.s c,.s d]]
def ZQ:=dL aiI pT (ct _) Ip.v
theorem af4:FO 198 ZQ:=ft (E:=E27) (aK pV a8) func198 Ip.b λ(a0,a1,a2,a3,_)=>Ip.dW _ a0 a1 a2 a3
def aem:=en [(246,JG),(246,JH),(250,Sr)] [(5,[0,1,5,6])]
def aiL:Fn [.R,.S] As:=λa b=>[aO 189 a,.v false [.fn 250 [[.s b]]]]
def aj':Fn [.R] iQ:=λa=>⟨[aO 189 a],[[.nl]]⟩
def EJ:Fn [.S,.I,.I,.R] Tb:=λa b c d=>[cA 0 (.own 900000000),cA 2 (.fn 250 [[.s a]]),cI 10 b,cI 12 c,oR 1800000001 189 d]
def Pj(N:Nat)(K:Kt R):=vT.l5 N (J EJ (.exit 0) K)
def Yg(N:Nat):It R:=(lp 5 (al EJ (λK=>Pj N K N) an) ln)
theorem VS(N:Nat):b6 aem (Yg N (R:=R)) (bQ f249 5):=lq 5 EJ (Pj N) λK g=>vT.r5 N g (J EJ (.exit 0) K)
def Z8:=dL aiL aj' vT.c vT.v
theorem agn:FO 249 Z8:=fq (E:=aem) (aK Ri (aK Rj (aK YW a8))) func249 (it:=λN=>Yg N) (λN=>(bn (VS N) bD)) vT.b vT.vo
def ajg:=en [(148,LP),(249,Z8)] []
def Sh:=dL Mk QJ mi.c mi.v
theorem YO:FO 200 Sh:=fr (E:=ajg) (aK Q8 (aK agn a8)) func200 mi.b mi.vo
def acm:Go.Shelf.Ren:=⟨λn=>bif Nat.beq n 22 then 248 else bif Nat.beq n 29 then 271 else 272,λn=>bif Nat.beq n 24 then 42 else bif Nat.beq n 9 then 189 else bif Nat.beq n 3 then 3 else bif Nat.beq n 4 then 4 else n,λn=>n⟩
def Z7:List gg->Option (Bool×iQ):=Ins.wm 189 40
theorem abl:Ins.L Tryz.prog acm "slices.Insert[[]loop.example/g00245/impl.File,loop.example/g00245/impl.File]" 3 where
 mixed:=hM
 f22:=func248.trans (by kernel_rfl)
 t3:=by kernel_rfl
 a3:=Ins.jT (P:=Tryz.prog) (t:=3) (d:=.int .i64) (by kernel_rfl) rfl
 t4:=by kernel_rfl
 a4:=Ins.jT (P:=Tryz.prog) (t:=4) (d:=.bool) (by kernel_rfl) rfl
 t24:=by kernel_rfl
 a24:=Ins.jT (P:=Tryz.prog) (t:=42) (d:=.slice 189) (by kernel_rfl) rfl
 z9:=Ins.Ar hE (t:=189) (ti:=⟨true,[.s,.s,.i .i64],40⟩) (by kernel_rfl)
theorem agm:FO 248 Z7:=
 Ins.yw (e:=189) (te:=⟨true,[.s,.s,.i .i64],40⟩) (by kernel_rfl) rfl (by kernel_rfl) hE abl
  (λargs w=>run_callFunc_extern (e:=Extern.SlicesOverlaps.overlaps #[42,42] #[4]) func271 (by kernel_rfl) (by kernel_rfl) (by kernel_rfl) (by kernel_rfl) args w)
  ⟨_,func248,by kernel_rfl,by kernel_rfl⟩
def ad':=en [(200,Sh),(248,Z7)] [(3,[3,4,5,6])]
def EB:Fn [.I,.S,.S,.I,.R] Tb:=λa b c d e=>[cP 6 0,cP 8 1,cP 10 2,cI 12 a,oB 1 [.s b,.s c,.n d],oB 3 [.nl],oB 5 [.own 3],oR 7 189 e]
def OX(N:Nat)(K:Kt R):=kF.l3 N (J EB (.exit 0) K)
def X5(N:Nat):It R:=(lp 3 (al EB (λK=>OX N K N) an) ln)
theorem Vz(N:Nat):b6 ad' (X5 N (R:=R)) (bQ f199 3):=lq 3 EB (OX N) λK g=>kF.r3 N g (J EB (.exit 0) K)
def ZR:=dL adI QJ kF.c kF.v
theorem af5:FO 199 ZR:=fq (E:=ad') (aK YO (aK agm a8)) func199 (it:=λN=>X5 N) (λN=>(bn (Vz N) bD)) kF.b kF.vo
def ai3:=en [(197,Sg),(150,HN),(198,ZQ),(199,ZR),(200,Sh)] []
def Zv:=dL adD UK qS.c qS.v
theorem afJ:FO 149 Zv:=fr (E:=ai3) (aK YN (aK Ly (aK af4 (aK af5 (aK YO a8))))) func149 qS.b qS.vo
def E93:=en [(148,LP),(149,Zv)] [(3,[1,4,5,6,13,14,15])]
def KC:Fn [.R,.I,.R,.I,.I,.R] Tb:=λa b c d e f=>[cH 2 184 a,cP 8 0,cI 10 b,cP 12 1,cH 26 184 c,cI 28 d,cI 30 e,oB 1 [.nl],oB 3 [.own 2],oR 5 189 f]
def KO:Fn [.R,.I,.R,.I,.I,.R] Tb:=λa b c d e f=>[cH 2 184 a,cP 8 0,cI 10 b,cP 12 1,cH 26 184 c,cI 28 d,cI 30 e,oB 1 [.own 2],oB 3 [.own 2],oR 5 189 f]
def Xh(N:Nat)(K:Kt R):=Iu.l3 N (J KO .ret K) (J KC (.exit 0) K)
def ae1(N:Nat):It R:=(lp 3 (al KC (λK=>Xh N K N) an) ln)
theorem ab1(N:Nat):b6 E93 (ae1 N (R:=R)) (bQ f93 3):=lq 3 KC (Xh N) λK g=>Iu.r3 N g (J KO .ret K) (J KC (.exit 0) K)
def acE:=dL adx ae9 Iu.c Iu.v
theorem agE:FO 93 acE:=fq (E:=E93) (aK Q8 (aK afJ a8)) func93 (it:=λN=>ae1 N) (λN=>(bn (ab1 N) bD)) Iu.b Iu.vo
def E54:=V9 T md [(90,ahC),(91,Wz),(92,ahD),(93,acE)] [] [] [(0,1,.own 51),(0,2,.own 9),(0,3,.own 9),(0,4,.own 45),(0,6,.own 127),(0,7,.own 55),(0,9,.own 189),(0,10,.own 3),(0,11,.own 51)]
def A54:Fn [.I,.R,.R,.R,.R,.I,.R,.R,.I,.R,.R,.R,.I,.I] As:=λa b c d e f g h i j k l m o=>[.pt [.n a,.ow 51 true b,.ow 9 true c,.ow 9 true d,.ow 45 true e,.n f,.ow 127 true g,.ow 55 true h,.n i,.ow 189 true j,.ow 3 true k,.ow 51 true l],aI m,aI o]
def k54:Fn [.B,.I,.R,.R,.R,.R,.I,.R,.R,.I,.R,.R,.R] iQ:=λa b c d e f g h i j k l m=>⟨[aB a],[[.n b,.ow 51 true c,.ow 9 true d,.ow 9 true e,.ow 45 true f,.n g,.ow 127 true h,.ow 55 true i,.n j,.ow 189 true k,.ow 3 true l,.ow 51 true m]]⟩
def ahm:=dL A54 k54 Tc.c Tc.v
theorem akH:FO 54 ahm:=fr (E:=E54) (aK akX (aK ab' (aK akY (aK agE a8)))) func54 Tc.b Tc.vo
def E55:=en [(75,JJ),(87,Wy),(94,acF)] []
def ahn:=dL Ct M1 Td.c Td.v
theorem akI:FO 55 ahn:=fr (E:=E55) (aK Nc (aK ab_ (aK agF a8))) func55 Td.b Td.vo
def A95:Fn [.I,.I] As:=λa b=>[aI a,aI b]
def ahE:=dL A95 wo NU.c NU.v
theorem akZ:FO 95 ahE:=fr (E:=zK) a8 func95 NU.b NU.vo
def E56:=en [(75,JJ),(95,ahE)] []
def aho:=dL Ct Tl Te.c Te.v
theorem akJ:FO 56 aho:=fr (E:=E56) (aK Nc (aK akZ a8)) func56 Te.b Te.vo
def E98:=en [(96,Sz),(96,SA),(99,acG)] [(5,[0,1,5,6])]
def A98:Fn [.R,.I] As:=λa b=>[aO 55 a,.v false [.fn 99 [[.n b]]]]
def k98:Fn [.R] iQ:=λa=>⟨[aO 55 a],[[.nl]]⟩
def KE:Fn [.I,.I,.I,.R] Tb:=λa b c d=>[cA 0 (.own 900000000),cA 2 (.fn 99 [[.n a]]),cI 10 b,cI 12 c,oR 1800000001 55 d]
def Xj(N:Nat)(K:Kt R):=KJ.l5 N (J KE (.exit 0) K)
def ae3(N:Nat):It R:=(lp 5 (al KE (λK=>Xj N K N) an) ln)
theorem ab3(N:Nat):b6 E98 (ae3 N (R:=R)) (bQ f98 5):=lq 5 KE (Xj N) λK g=>KJ.r5 N g (J KE (.exit 0) K)
def ahG:=dL A98 k98 KJ.c KJ.v
theorem ak1:FO 98 ahG:=fq (E:=E98) (aK Y3 (aK Y4 (aK agG a8))) func98 (it:=λN=>ae3 N) (λN=>(bn (ab3 N) bD)) KJ.b KJ.vo
def E58:=en [(75,JJ),(98,ahG)] []
def ahp:=dL Ct Tl Tf.c Tf.v
theorem akK:FO 58 ahp:=fr (E:=E58) (aK Nc (aK ak1 a8)) func58 Tf.b Tf.vo
def adM:=en [(150,HN),(148,LP)] [(5,[1,4,6,17,18,19])]
def Eb:Fn [.R,.R,.I,.I,.R] Tb:=λa b c d e=>[cH 2 3 a,cP 8 0,cP 12 1,cH 34 189 b,cI 36 c,cI 38 d,oB 1 [.nl],oB 3 [.own 2],oR 5 189 e]
def Oa(N:Nat)(K:Kt R):=vI.l5 N (J Eb (.exit 0) K)
def XF(N:Nat):It R:=(lp 5 (al Eb (λK=>Oa N K N) an) ln)
theorem UR(N:Nat):b6 adM (XF N (R:=R)) (bQ f100 5):=lq 5 Eb (Oa N) λK g=>vI.r5 N g (J Eb (.exit 0) K)
def Y':=dL ady UK vI.c vI.v
theorem afn:FO 100 Y':=fq (E:=adM) (aK Ly (aK Q8 a8)) func100 (it:=λN=>XF N) (λN=>(bn (UR N) bD)) vI.b vI.vo
def ai4:=en [(197,Sg)] []
def R6:=dL Mk Fq ue.c ue.v
theorem YD:FO 151 R6:=fr (E:=ai4) (aK YN a8) func151 ue.b ue.vo
def aea:=en [(50,r_)] [(5,[0,1,4,5,6,7,8])]
def xR:Fn [.S,.I,.I,.I,.B,.I,.I] Tb:=λa b c d e f g=>[cA 0 (.s a),cI 2 b,cI 8 c,cI 10 d,cA 12 (.b e),cI 14 f,cI 16 g]
def OY(N:Nat)(K:Kt R):=fZ.l5 N (J xR .ret K) (J xR (.exit 0) K)
def X6(N:Nat):It R:=(lp 5 (al xR (λK=>OY N K N) an) ln)
theorem VA(N:Nat):b6 aea (X6 N (R:=R)) (bQ f201 5):=lq 5 xR (OY N) λK g=>fZ.r5 N g (J xR .ret K) (J xR (.exit 0) K)
def LV:=dL Tw afd (ct _) fZ.v
theorem Rb:FO 201 LV:=fh (E:=aea) (aK pV a8) func201 (it:=λN=>X6 N) (λN=>(bn (VA N) bD)) fZ.b λx f h=>fZ.dW _ x.1 x.2.1 f.1.1
def ad0:=en [(201,LV),(50,r_),(202,Si)] [(3,[0,4,5])]
def Ej:Fn [.S,.I,.R] Tb:=λa b c=>[cA 0 (.s a),cA 8 (.own 0),cI 10 b,oR 1 9 c]
def OA(N:Nat)(K:Kt R):=U152.l3 N (J Ej (.exit 0) K)
def XT(N:Nat):It R:=(lp 3 (al Ej (λK=>OA N K N) an) ln)
theorem Ve(N:Nat):b6 ad0 (XT N (R:=R)) (bQ f152 3):=lq 3 Ej (OA N) λK g=>U152.r3 N g (J Ej (.exit 0) K)
def Zw:=dL Ay afa U152.c U152.v
theorem afK:FO 152 Zw:=fq (E:=ad0) (aK Rb (aK pV (aK YP a8))) func152 (it:=λN=>XT N) (λN=>(bn (Ve N) bD)) U152.b U152.vo
def ajh:=en [(201,LV)] []
def ZS:=dL Tw afe (ct _) sC.v
theorem af6:FO 203 ZS:=fh (E:=ajh) (aK Rb a8) func203 (it:=λ_=>ln) (λ_=>bD) (λ_=>sC.b) λx f h=>⟨0,sC.dW _ x.1 x.2.1 f.1.1⟩
def ai5:=en [(203,ZS),(201,LV),(130,HM)] []
def Zx:=dL Ay abv (ct _) uY.v
theorem afL:FO 153 Zx:=fh (E:=ai5) (aK af6 (aK Rb (aK Lx a8))) func153 (it:=λ_=>ln) (λ_=>bD) (λ_=>uY.b) λx f h=>⟨0,uY.dW _ x.1 f.1.1⟩
def adN:=en [(150,HN),(151,R6),(152,Zw),(153,Zx),(154,R7)] [(7,[3,27,28,29])]
def Ec:Fn [.I,.I,.R,.R] Tb:=λa b c d=>[cA 6 (.own 0),cA 54 (.own 1),cI 56 a,cI 58 b,oR 1 51 c,oR 3 9 d]
def Ob(N:Nat)(K:Kt R):=U101.l7 N (J Ec (.exit 0) K)
def XG(N:Nat):It R:=(lp 7 (al Ec (λK=>Ob N K N) an) ln)
theorem US(N:Nat):b6 adN (XG N (R:=R)) (bQ f101 7):=lq 7 Ec (Ob N) λK g=>U101.r7 N g (J Ec (.exit 0) K)
def Za:=dL N5 I' U101.c U101.v
theorem afo:FO 101 Za:=fq (E:=adN) (aK Ly (aK YD (aK afK (aK afL (aK YE a8))))) func101 (it:=λN=>XG N) (λN=>(bn (US N) bD)) U101.b U101.vo
def adO:=en [(150,HN),(147,R5),(151,R6)] [(5,[2,4,5,6,17,18,19])]
def xF:Fn [.B,.S,.R,.I,.I,.R] Tb:=λa b c d e f=>[cP 4 0,cA 8 .nl,cA 10 (.b a),cA 12 (.s b),cH 34 51 c,cI 36 d,cI 38 e,oB 1 [.sh 189 f]]
def Oc(N:Nat)(K:Kt R):=zt.l5 N (J xF .ret K) (J xF (.exit 0) K)
def XH(N:Nat):It R:=(lp 5 (al xF (λK=>Oc N K N) an) ln)
theorem UT(N:Nat):b6 adO (XH N (R:=R)) (bQ f102 5):=lq 5 xF (Oc N) λK g=>zt.r5 N g (J xF .ret K) (J xF (.exit 0) K)
def Zb:=dL adz UJ zt.c zt.v
theorem afp:FO 102 Zb:=fq (E:=adO) (aK Ly (aK YC (aK YD a8))) func102 (it:=λN=>XH N) (λN=>(bn (UT N) bD)) zt.b zt.vo
def adP:=en [(28,acv),(80,Ww),(145,R4)] [(4,[0,4,5,11,12,13])]
def Ed:Fn [.I,.R,.I,.I,.I,.I,.I,.I,.I,.I,.R,.R,.R,.R,.R,.R] Tb:=λa b c d e f g h i j k l m o p q=>[cI 0 a,cP 8 0,cP 10 1,cH 22 51 b,cI 24 c,cI 26 d,oB 1 [.n e,.nl,.nl,.nl,.nl,.n f,.nl,.nl,.n g],oB 3 [.n h,.own 2,.own 3,.own 4,.own 5,.n i,.own 6,.own 7,.n j],oR 5 51 k,oR 7 9 l,oR 9 9 m,oR 11 45 o,oR 13 127 p,oR 15 55 q]
def Od(N:Nat)(K:Kt R):=zu.l4 N (J Ed (.exit 0) K)
def XI(N:Nat):It R:=(lp 4 (al Ed (λK=>Od N K N) an) ln)
theorem UU(N:Nat):b6 adP (XI N (R:=R)) (bQ f103 4):=lq 4 Ed (Od N) λK g=>zu.r4 N g (J Ed (.exit 0) K)
def Zc:=dL adA Tl zu.c zu.v
theorem afq:FO 103 Zc:=fq (E:=adP) (aK agu (aK ab8 (aK YB a8))) func103 (it:=λN=>XI N) (λN=>(bn (UU N) bD)) zu.b zu.vo
def E59:=V9 T md [(100,Y'),(101,Za),(80,Ww),(102,Zb),(93,acE),(103,Zc)] [(3,[0,4,26,27,28])] [] [(0,1,.own 51),(0,2,.own 9),(0,3,.own 9),(0,4,.own 45),(0,6,.own 127),(0,7,.own 55),(0,9,.own 189),(0,10,.own 3),(0,11,.own 51)]
def A59:Fn [.I,.R,.R,.R,.R,.I,.R,.R,.I,.R,.R,.R,.R] As:=λa b c d e f g h i j k l m=>[.pt [.n a,.ow 51 true b,.ow 9 true c,.ow 9 true d,.ow 45 true e,.n f,.ow 127 true g,.ow 55 true h,.n i,.ow 189 true j,.ow 3 true k,.ow 51 true l],aH 3 m]
def Kw:Fn [.I,.I,.I,.I,.I,.R,.R,.R,.R,.R,.R,.R,.R,.R,.R,.R] Tb:=λa b c d e f g h i j k l m o p q=>[cP 0 900000900,cA 8 (.own 1),cA 52 (.own 2),cI 54 a,cI 56 b,oB 1800001801 [.n c,.own 900000001,.own 900000002,.own 900000003,.own 900000004,.n d,.own 900000006,.own 900000007,.n e,.own 9,.own 900000010,.own 900000011],oR 3 51 f,oR 5 51 g,oR 1800000003 51 h,oR 1800000005 9 i,oR 1800000007 9 j,oR 1800000009 45 k,oR 1800000013 127 l,oR 1800000015 55 m,oR 19 189 o,oR 1800000021 3 p,oR 1800000023 51 q]
def W'(N:Nat)(K:Kt R):=NS.l3 N (J Kw (.exit 0) K)
def aeY(N:Nat):It R:=(lp 3 (al Kw (λK=>W' N K N) an) ln)
theorem abT(N:Nat):b6 E59 (aeY N (R:=R)) (bQ f59 3):=lq 3 Kw (W' N) λK g=>NS.r3 N g (J Kw (.exit 0) K)
def ahq:=dL A59 abu NS.c NS.v
theorem akL:FO 59 ahq:=fq (E:=E59) (aK afn (aK afo (aK ab8 (aK afp (aK agE (aK afq a8)))))) func59 (it:=λN=>aeY N) (λN=>(bn (abT N) bD)) NS.b NS.vo
def ahr:=dL adq wo (ct _) TW.v
theorem akM:FO 60 ahr:=ft (E:=zK) a8 func60 TW.b λ(a0,_)=>TW.dW _ a0
def E29:=V9 T md [(52,ahk),(53,ahl),(54,ahm),(55,ahn),(56,aho),(57,acy),(58,ahp),(59,ahq),(60,ahr)] [] [] [(0,1,.own 51),(0,2,.own 9),(0,3,.own 9),(0,4,.own 45),(0,6,.own 127),(0,7,.own 55),(0,9,.own 189),(0,10,.own 3),(0,11,.own 51)]
def aha:=dL N2 abt S_.c S_.v
theorem akv:FO 29 aha:=fr (E:=E29) (aK akF (aK akG (aK akH (aK akI (aK akJ (aK agy (aK akK (aK akL (aK akM a8))))))))) func29 S_.b S_.vo
def E12:=en [(27,Wv),(28,acv),(29,aha)] [(4,[0,2,3,14,15,16]),(11,[2,6,27,28,29,1000000006009189,1000000006010003,1000000006011051])]
def C5:Fn [.R,.B,.R,.I,.I,.I,.I,.I] Tb:=λa b c d e f g h=>[cH 0 58 a,cP 4 0,cA 6 (.b b),cH 28 58 c,cI 30 d,cI 32 e,oB 1 [.n f,.nl,.nl,.nl,.nl,.n g,.nl,.nl,.n h,.nl,.nl,.nl]]
def Eg:Fn [.R,.I,.I,.I,.I,.I,.I,.I,.I,.R,.R,.R,.R,.R,.R,.R,.R,.R] Tb:=λa b c d e f g h i j k l m o p q r s=>[cP 4 0,cP 12 1,cH 54 58 a,cI 56 b,cI 58 c,oB 1 [.n d,.nl,.nl,.nl,.nl,.n e,.nl,.nl,.n f,.nl,.nl,.nl],oB 3 [.n g,.own 2,.own 3,.own 4,.own 5,.n h,.own 6,.own 7,.n i,.own 8,.own 9,.own 10],oR 5 51 j,oR 7 9 k,oR 9 9 l,oR 11 45 m,oR 13 127 o,oR 15 55 p,oR 17 189 q,oR 19 3 r,oR 21 51 s]
def W0(N:Nat)(K:Kt R):=KF.l4 N (J C5 .ret K) (J C5 (.exit 0) K)
def On(N:Nat)(K:Kt R):=KF.M4 N (J Eg (.exit 2) K)
def abn(N:Nat):It R:=(lp 4 (al C5 (λK=>W0 N K N) an) (lp 11 (al Eg (λK=>On N K N) an) ln))
theorem abI(N:Nat):b6 E12 (abn N (R:=R)) (bQ f12 4):=lq 4 C5 (W0 N) λK g=>KF.r4 N g (J C5 .ret K) (J C5 (.exit 0) K)
theorem U4(N:Nat):b6 E12 (abn N (R:=R)) (bQ f12 11):=lq 11 Eg (On N) λK g=>KF.wZ N g (J Eg (.exit 2) K)
def ag2:=dL A18 k18 KF.c KF.v
theorem akl:FO 12 ag2:=fq (E:=E12) (aK ab7 (aK agu (aK akv a8))) func12 (it:=λN=>abn N) (λN=>(bn (abI N) (bn (U4 N) bD))) KF.b KF.vo
theorem Yq:Builder.Extra Tryz.prog Tryz.lays156_ren where
 sizeBuilder:=by kernel_rfl
 liesBuilder:=by kernel_rfl
 t5:=Tryz.underlying5
 a5:=Ins.jT (P:=Tryz.prog) (t:=5) (d:=.int .u8) (by kernel_rfl) rfl
 z5:=Ins.Ar hE (t:=5) (ti:=⟨false,[.i .u8],1⟩) (by kernel_rfl)
 v5:=by intro w;kernel_rfl
 infoByte:=by kernel_rfl
 cellsByte:=by kernel_rfl
 sizeByte:=by kernel_rfl
 neB5:=by decide
def A20:Fn [.R,.S] As:=λa b=>[.v false [.sh 9 a],aS b]
def ag7:=dL A20 I_ CD.c CD.v
theorem abr{w:World}{K:Nat->Prop}(hlt:∀b,K b->b<w.heap.size){v:Value}{a:Row}(h:Holds T w K v (.l 9 a))(s:ByteArray)(h1:a.length<=140737488355328)(h2:(_root_.Go.Lib.join ((CD.tx a).map (·.data.toList)) s.data.toList).length<=140737488355328):
  Calls Tryz.prog 20 #[v,.string s] w λe w'=>e=.returned (.string (CD.v a s))/\RowKit.Below w.heap.size w w':=by
 cases h with
 |nl e A c=>refine(Any.strings_Join_none Tryz.lays156 Yq A c s w).mono λe w' he=> ?_;obtain⟨rfl,rfl⟩:=he;exact⟨rfl,RowKit.Below.refl _ _⟩
 |l e xs b o c ti U ht hc hm hK hs hcell hin=>
  obtain rfl:_=ti:=Option.some.inj ((show T.ty 9=some ⟨false,[.s],16⟩by kernel_rfl).symm.trans ht);have hl:(CD.tx a).length=a.length:=by unfold CD.tx;simp
  have key:=Any.strings_Join Tryz.lays156 Yq b o c (CD.tx a) s w (λj x hj=> ?_) (hlt b hK) (by rw[hl];exact h1) (by rw[hl];exact hc) h2
  ·rw[hl]at key;exact key
  ·unfold CD.tx at hj;rw[List.getElem?_map]at hj;cases hy:a[j]? with
   |none=>rw[hy]at hj;cases hj
   |some y=>
    rw[hy]at hj;have hk:=hs y (List.mem_of_getElem? hy);match y,hk with
    |[u],hk=>
     cases u with
     |s z=>have e1:z=x:=Option.some.inj hj;subst e1;have h3:=hcell j 0 _ _ hy rfl;have h4:=hin j 0 _ _ hy rfl;cases hU:U j 0<;>rw[hU]at h4<;>cases h4;rw[hU]at h3;simpa using h3
     |_=>cases hk
    |_::_::_,hk=>simp at hk
theorem akq:FO 20 ag7:=by
 refine Ad func20 (by kernel_rfl) (by kernel_rfl) (by intro x;rfl) λx hx w c1 vs CM hsz hvs=> ?_;obtain⟨a,s,_⟩:=x;replace hx:(Nat.ble a.length 140737488355328&&Nat.ble (_root_.Go.Lib.join ((CD.tx a).map (·.data.toList)) s.data.toList).length 140737488355328)=true:=hx;rw[Bool.and_eq_true,Nat.ble_eq,Nat.ble_eq]at hx;obtain⟨v,hv,hh⟩:=hvs 0 _ rfl;obtain⟨u,hu,ht,_⟩:=hvs 1 _ rfl;subst ht;have hh:Holds T w c1.K v (.l 9 a):=hh;have hsz:vs.size=2:=hsz;obtain rfl:vs= #[v,.string s]:=by
  apply Array.ext
  ·simpa using hsz
  ·intro i h1 h2;have:i=0\/i=1:=by simp at h2;omega
   rcases this with rfl|rfl
   ·simpa using (Array.getElem?_eq_some_iff.1 hv).2
   ·simpa using (Array.getElem?_eq_some_iff.1 hu).2
 refine(abr CM.lt hh s hx.1 hx.2).mono λe w' he=> ?_;obtain⟨rfl,hb⟩:=he;refine⟨_,rfl,wE c1.K CM (λm o h=>by cases h) hb (λ_ h=>h) (λ_ h=>.inl h) ⟨rfl,?_⟩⟩
 have h2:=hx.2;show(_root_.Go.Lib.join ((CD.tx a).map (·.data.toList)) s.data.toList).toArray.size<=_;simp only[List.size_toArray];omega
def ahb:=dL Tv I_ (ct _) H0.v
theorem akw:FO 30 ahb:=ft (E:=zK) a8 func30 H0.b λ(a0,_)=>H0.dW _ a0
def E13:=en [(19,acs),(30,ahb)] [(3,[3,7,8,9])]
def Kq:Fn [.S,.R,.I,.I] Tb:=λa b c d=>[cA 6 (.s a),cH 14 55 b,cI 16 c,cI 18 d]
def W1(N:Nat)(K:Kt R):=Il.l3 N (J Kq (.exit 0) K)
def aeR(N:Nat):It R:=(lp 3 (al Kq (λK=>W1 N K N) an) ln)
theorem abJ(N:Nat):b6 E13 (aeR N (R:=R)) (bQ f13 3):=lq 3 Kq (W1 N) λK g=>Il.r3 N g (J Kq (.exit 0) K)
def ag3:=dL N6 I_ Il.c Il.v
theorem akm:FO 13 ag3:=fq (E:=E13) (aK afZ (aK akw a8)) func13 (it:=λN=>aeR N) (λN=>(bn (abJ N) bD)) Il.b Il.vo
def E7:=en [(15,ag4),(19,acs),(12,ag2),(20,ag7),(13,ag3)] [(7,[5,7,31,32,33]),(16,[10,63,64,65])]
def TV:Fn [.I,.I,.I,.I,.I,.R,.R,.R,.R,.R,.R,.R,.R,.R,.R] Tb:=λa b c d e f g h i j k l m o p=>[cP 10 0,cA 14 (.own 1),cA 62 (.own 2),cI 64 a,cI 66 b,oB 1 [.n c,.own 3,.own 4,.own 5,.own 6,.n d,.own 7,.own 8,.n e,.own 9,.own 2,.own 10],oR 3 9 f,oR 5 3 g,oR 7 51 h,oR 9 9 i,oR 11 9 j,oR 13 45 k,oR 15 127 l,oR 17 55 m,oR 19 189 o,oR 21 51 p]
def Ky:Fn [.S,.I,.I,.R] Tb:=λa b c d=>[cA 20 (.s a),cA 126 (.own 0),cI 128 b,cI 130 c,oR 1 51 d]
def aez(N:Nat)(K:Kt R):=U7.l7 N (J TV (.exit 0) K)
def Xd(N:Nat)(K:Kt R):=U7.CN N (J Ky (.exit 2) K)
def it7(N:Nat):It R:=(lp 7 (al TV (λK=>aez N K N) an) (lp 16 (al Ky (λK=>Xd N K N) an) ln))
theorem afg(N:Nat):b6 E7 (it7 N (R:=R)) (bQ f7 7):=lq 7 TV (aez N) λK g=>U7.r7 N g (J TV (.exit 0) K)
theorem abX(N:Nat):b6 E7 (it7 N (R:=R)) (bQ f7 16):=lq 16 Ky (Xd N) λK g=>U7.Ns N g (J Ky (.exit 2) K)
def sp7:=dL Ay I_ U7.c U7.v
theorem ok7:FO 7 sp7:=fq (E:=E7) (aK akn (aK afZ (aK akl (aK akq (aK akm a8))))) func7 (it:=λN=>it7 N) (λN=>(bn (afg N) (bn (abX N) bD))) U7.b U7.vo
def E3:=en [(6,sp6),(7,sp7)] []
def A3:Fn [.S] As:=λa=>[aS a]
def k3:Fn [.B] iQ:=λa=>⟨[aB a],[]⟩
def sp3:=dL A3 k3 U3.c U3.v
theorem ok3:FO 3 sp3:=fr (E:=E3) (aK ok6 (aK ok7 a8)) func3 U3.b U3.vo
end Go.FG.Se
