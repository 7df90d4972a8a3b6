/- Functions of the program: the evaluation of each, and that a call of it does what is told. No condition. -/
import Derived.Test.YtilcgpcemjeaeaaGreatTab
import Derived.Test.YtilcgpcemjeaeaaGreatPExactRunLifeb
import Derived.Test.YtilcgpcemjeaeaaGreatIns
set_option linter.unusedVariables false
set_option linter.unusedSimpArgs false
set_option maxRecDepth 100000
open Bool renaming true->ai,false->ak
open Function renaming comp_def->dN
open Go.Extern.SlicesOverlaps renaming overlaps->fH
open Go.Shelf renaming Ren->Rs
open Nat renaming beq->bD
open _root_ renaming Nat->aC,List->az,Option->ay,Bool->aY
namespace Go.FG.Se
open Go.Proofs
variable {R:Type}
def atz:=en [] []
def aq7:Fn [.R, .I] As:=λa b=>[aH 3 a,aI b]
def awv:Fn [.I] dj:=λa=>⟨[aI a],[]⟩
def aep:=dJ aq7 awv (ct _) BM.v
theorem amC:bX Tryz.prog T 127 aep:=ft (E:=atz) aW Tryz.func127 BM.b λ(a0,a1,_)=>BM.dP _ a0 a1

def E64:=en [(127,aep)] []
def A64:Fn [.I, .I, .S, .I, .R, .I] As:=λa b c d e f=>[aV [.n a, .n b, .s c, .n d, .sh 3 e],aI f]
def k64:Fn [.I] dj:=λa=>⟨[aI a],[]⟩
def ao0:=dJ A64 k64 (ct _) TA.v
theorem azc:bX Tryz.prog T 64 ao0:=ft (E:=E64) (aD amC aW) Tryz.func64 TA.b λ(a0,a1,a2,a3,a4,a5,_)=>TA.dP _ a0 a1 a2 a3 a4 a5

def E21:=en [(64,ao0)] [(5,[0,1,4,5])]
def A21:Fn [.R, .I] As:=λa b=>[aH 100 a,aI b]
def k21:Fn [.I] dj:=λa=>⟨[aI a],[]⟩
def FI:Fn [.R, .I, .I, .I] Tb:=λa b c d=>[cH 0 100 a,cI 2 b,cI 8 c,cI 10 d]
def abF(N:aC)(K:Kt R):=Jv.l5 N (J FI .ret K) (J FI (.exit 0) K)
def alO(N:aC):It R:=(lp 5 (al FI (λK=>abF N K N) an) ln)
theorem ahP(N:aC):bY E21 (alO N (R:=R)) (bM Tryz.f21 5):=lq 5 FI (abF N) λK g=>Jv.r5 N g (J FI .ret K) (J FI (.exit 0) K)
def aoH:=dJ A21 k21 Jv.c Jv.v
theorem ayU:bX Tryz.prog T 21 aoH:=fq (E:=E21) (aD azc aW) Tryz.func21 (it:=λN=>alO N) (λN=>(bh (ahP N) bw)) Jv.b Jv.vo

def ajY:=en [] [(3,[0,3,4])]
def aq8:Fn [.R] As:=λa=>[aH 3 a]
def aww:Fn [.R] dj:=λa=>⟨[aO 3 a],[]⟩
def G8:Fn [.R, .I, .R] Tb:=λa b c=>[cH 0 3 a,cA 6 (.own 0),cI 8 b,oR 1 3 c]
def R_(N:aC)(K:Kt R):=s6.l3 N (J G8 (.exit 0) K)
def acI(N:aC):It R:=(lp 3 (al G8 (λK=>R_ N K N) an) ln)
theorem Zo(N:aC):bY ajY (acI N (R:=R)) (bM Tryz.f128 3):=lq 3 G8 (R_ N) λK g=>s6.r3 N g (J G8 (.exit 0) K)
def aeq:=dJ aq8 aww s6.c s6.v
theorem amD:bX Tryz.prog T 128 aeq:=fh (E:=ajY) aW Tryz.func128 (it:=λN=>acI N) (λN=>(bh (Zo N) bw)) s6.b λx f h=>s6.dP _ x.1 h

def E65:=en [(128,aeq)] []
def A65:Fn [.I, .I, .S, .I, .R] As:=λa b c d e=>[aV [.n a, .n b, .s c, .n d, .sh 3 e]]
def k65:Fn [.I, .I, .S, .I, .R] dj:=λa b c d e=>⟨[aV [.n a, .n b, .s c, .n d, .ow 3 ai e]],[]⟩
def ao1:=dJ A65 k65 U65.c U65.v
theorem azd:bX Tryz.prog T 65 ao1:=fh (E:=E65) (aD amD aW) Tryz.func65 (it:=λ_=>ln) (λ_=>bw) (λ_=>U65.b) λx f h=>⟨0,U65.dP _ x.1 x.2.1 x.2.2.1 x.2.2.2.1 x.2.2.2.2.1 h⟩

def E22:=en [(65,ao1)] [(3,[0,3,4])]
def A22:Fn [.R] As:=λa=>[aH 100 a]
def k22:Fn [.R] dj:=λa=>⟨[aO 29 a],[]⟩
def N1:Fn [.R, .I, .R] Tb:=λa b c=>[cH 0 100 a,cA 6 (.own 999),cI 8 b,oR 1999 29 c]
def abG(N:aC)(K:Kt R):=LF.l3 N (J N1 (.exit 0) K)
def alP(N:aC):It R:=(lp 3 (al N1 (λK=>abG N K N) an) ln)
theorem ahQ(N:aC):bY E22 (alP N (R:=R)) (bM Tryz.f22 3):=lq 3 N1 (abG N) λK g=>LF.r3 N g (J N1 (.exit 0) K)
def aoI:=dJ A22 k22 LF.c LF.v
theorem ayV:bX Tryz.prog T 22 aoI:=fq (E:=E22) (aD azd aW) Tryz.func22 (it:=λN=>alP N) (λN=>(bh (ahQ N) bw)) LF.b LF.vo

def E50:=en [] []
def A50:Fn [.I, .I, .I] As:=λa b c=>[aI a,aI b,aI c]
def k50:Fn [.B] dj:=λa=>⟨[aB a],[]⟩
def tV:=dJ A50 k50 (ct _) kq.v
theorem vg:bX Tryz.prog T 50 tV:=ft (E:=E50) aW Tryz.func50 kq.b λ(a0,a1,a2,_)=>kq.dP _ a0 a1 a2

def E56:=en [(50,tV)] []
def A56:Fn [.I, .I, .S, .I, .R] As:=λa b c d e=>[aV [.n a, .n b, .s c, .n d, .sh 3 e]]
def k56:Fn [.B] dj:=λa=>⟨[aB a],[]⟩
def aoW:=dJ A56 k56 (ct _) U56.v
theorem ay9:bX Tryz.prog T 56 aoW:=ft (E:=E56) (aD vg aW) Tryz.func56 U56.b λ(a0,a1,a2,a3,a4,_)=>U56.dP _ a0 a1 a2 a3 a4

def X0:=en [] [(3,[0,1,2])]
def arX:Fn [] As:=[]
def axh:Fn [.R, .I] dj:=λa b=>⟨[aV [.ow 26 ai a, .n b]],[]⟩
def rk:Fn [.I, .I, .I] Tb:=λa b c=>[cP 0 0,cP 2 1,cI 4 a,oB 1 [.nl, .n b],oB 3 [.nl, .n c]]
def ov:Fn [.I, .I, .I, .R] Tb:=λa b c d=>[cP 0 0,cP 2 1,cI 4 a,oB 1 [.nl, .n b],oB 3 [.own 2, .n c],oR 5 26 d]
def SD(N:aC)(K:Kt R):=HO.l3 N (J rk (.exit 0) K) (J ov (.exit 0) K)
def NG(N:aC)(K:Kt R):=HO.sK N (J rk (.exit 0) K) (J ov (.exit 0) K)
def OT(N:aC):It R:=(lp 3 (al rk (λK=>SD N K N) (al ov (λK=>NG N K N) an)) ln)
theorem PO(N:aC)(K:Kt R):Wd X0 (OT N) (bM Tryz.f184 3) 3 K ov (NG N K):=lw (λg=>HO.AY N (cmp _ rk (g∘fN)) (cmp _ ov (g∘fN)) (J rk (.exit 0) K) (J ov (.exit 0) K)) λm i=>by simp only[dN,wf i];rfl
theorem aiR(N:aC)(K:Kt R):Wd X0 (OT N) (bM Tryz.f184 3) 3 K rk (SD N K):=lw (λg=>HO.r3 N (cmp _ rk (g∘fN)) (cmp _ ov (g∘fN)) (J rk (.exit 0) K) (J ov (.exit 0) K)) λm i=>by simp only[dN,wf i,wf (PO N K m)];rfl
theorem ZN(N:aC):bY X0 (OT N (R:=R)) (bM Tryz.f184 3):=lm 3 (ga rk (aiR N) (ga ov (PO N) oG))
def aeU:=dJ arX axh HO.c HO.v
theorem am7:bX Tryz.prog T 184 aeU:=fq (E:=X0) aW Tryz.func184 (it:=λN=>OT N) (λN=>(bh (ZN N) bw)) HO.b HO.vo

def att:=en [(184,aeU)] []
def aqY:Fn [] As:=[]
def awm:Fn [.R, .R, .R, .I] dj:=λa b c d=>⟨[aV [.ow 9 ai a, .ow 9 ai b, .ow 26 ai c, .n d]],[]⟩
def ael:=dJ aqY awm (ct _) Yg.v
theorem amy:bX Tryz.prog T 115 ael:=ft (E:=att) (aD am7 aW) Tryz.func115 Yg.b λ_=>Yg.dP _

def E57:=en [(115,ael)] []
def A57:Fn [] As:=[]
def k57:Fn [.I, .R, .R, .R, .R, .I, .R, .R, .I] dj:=λa b c d e f g h i=>⟨[aV [.n a, .ow 51 ai b, .ow 9 ai c, .ow 9 ai d, .ow 26 ai e, .n f, .ow 75 ai g, .ow 72 ai h, .n i]],[]⟩
def aiG:=dJ A57 k57 (ct _) U57.v
theorem an9:bX Tryz.prog T 57 aiG:=ft (E:=E57) (aD amy aW) Tryz.func57 U57.b λ_=>U57.dP _

def X5:=en [] [(3,[1,2,3,4])]
def asR:Fn [.R, .I] As:=λa b=>[aV [.sh 26 a, .n b]]
def aya:Fn [.R, .I] dj:=λa b=>⟨[aV [.ow 26 ai a, .n b]],[]⟩
def rA:Fn [.I, .R, .I, .I, .I] Tb:=λa b c d e=>[cP 2 0,cP 4 1,cP 6 2,cI 8 a,oB 1 [.sh 26 b, .n c],oB 3 [.nl, .n d],oB 5 [.nl, .n e]]
def oA:Fn [.I, .R, .I, .I, .I, .R] Tb:=λa b c d e f=>[cP 2 0,cP 4 1,cP 6 2,cI 8 a,oB 1 [.sh 26 b, .n c],oB 3 [.nl, .n d],oB 5 [.own 3, .n e],oR 7 26 f]
def Ta(N:aC)(K:Kt R):=nY.l3 N (J rA (.exit 0) K) (J oA (.exit 0) K)
def NP(N:aC)(K:Kt R):=nY.sK N (J rA (.exit 0) K) (J oA (.exit 0) K)
def OZ(N:aC):It R:=(lp 3 (al rA (λK=>Ta N K N) (al oA (λK=>NP N K N) an)) ln)
theorem PU(N:aC)(K:Kt R):Wd X5 (OZ N) (bM Tryz.f244 3) 3 K oA (NP N K):=lw (λg=>nY.AY N (cmp _ rA (g∘fN)) (cmp _ oA (g∘fN)) (J rA (.exit 0) K) (J oA (.exit 0) K)) λm i=>by simp only[dN,wf i];rfl
theorem aiV(N:aC)(K:Kt R):Wd X5 (OZ N) (bM Tryz.f244 3) 3 K rA (Ta N K):=lw (λg=>nY.r3 N (cmp _ rA (g∘fN)) (cmp _ oA (g∘fN)) (J rA (.exit 0) K) (J oA (.exit 0) K)) λm i=>by simp only[dN,wf i,wf (PU N K m)];rfl
theorem aag(N:aC):bY X5 (OZ N (R:=R)) (bM Tryz.f244 3):=lm 3 (ga rA (aiV N) (ga oA (PU N) oG))
def PI:=dJ asR aya nY.c nY.v
theorem VG:bX Tryz.prog T 244 PI:=fq (E:=X5) aW Tryz.func244 (it:=λN=>OZ N) (λN=>(bh (aag N) bw)) nY.b nY.vo

def at7:=en [(244,PI)] []
def ar6:Fn [.R, .R, .R, .I] As:=λa b c d=>[aV [.sh 9 a, .sh 9 b, .sh 26 c, .n d]]
def axq:Fn [.R, .R, .R, .I] dj:=λa b c d=>⟨[aV [.ow 9 ai a, .ow 9 ai b, .ow 26 ai c, .n d]],[]⟩
def WJ:=dJ ar6 axq gh.c gh.v
theorem adQ:bX Tryz.prog T 193 WJ:=fr (E:=at7) (aD VG aW) Tryz.func193 gh.b gh.vo

def atv:=en [(193,WJ)] []
def aq0:Fn [.I, .R, .R, .R, .R, .I, .R, .R, .I] As:=λa b c d e f g h i=>[aV [.n a, .sh 51 b, .sh 9 c, .sh 9 d, .sh 26 e, .n f, .sh 75 g, .sh 72 h, .n i]]
def awo:Fn [.I, .R, .R, .R, .R, .I, .R, .R, .I] dj:=λa b c d e f g h i=>⟨[aV [.n a, .ow 51 ai b, .ow 9 ai c, .ow 9 ai d, .ow 26 ai e, .n f, .ow 75 ai g, .ow 72 ai h, .n i]],[]⟩
def BA:=dJ aq0 awo fJ.c fJ.v
theorem DN:bX Tryz.prog T 117 BA:=fr (E:=atv) (aD adQ aW) Tryz.func117 fJ.b fJ.vo

def atn:=en [(50,tV)] []
def aqR:Fn [.S] As:=λa=>[aS a]
def awe:Fn [.B] dj:=λa=>⟨[aB a],[]⟩
def Ed:=dJ aqR awe (ct _) s5.v
theorem Gs:bX Tryz.prog T 107 Ed:=ft (E:=atn) (aD vg aW) Tryz.func107 s5.b λ(a0,_)=>s5.dP _ a0

def E49:=en [(107,Ed),(50,tV)] []
def A49:Fn [.S, .I, .I, .S] As:=λa b c d=>[aV [.s a, .n b, .n c, .s d]]
def k49:Fn [.B] dj:=λa=>⟨[aB a],[]⟩
def W2:=dJ A49 k49 (ct _) nq.v
theorem aaB:bX Tryz.prog T 49 W2:=ft (E:=E49) (aD Gs (aD vg aW)) Tryz.func49 nq.b λ(a0,a1,a2,a3,_)=>nq.dP _ a0 a1 a2 a3

def akq:=en [] [(2,[0,1,4,5])]
def asu:Fn [.R, .S] As:=λa b=>[aH 9 a,aS b]
def axO:Fn [.B] dj:=λa=>⟨[aB a],[]⟩
def Ai:Fn [.R, .S, .B, .I] Tb:=λa b c d=>[cH 0 9 a,cA 2 (.s b),cA 8 (.b c),cI 10 d]
def SU(N:aC)(K:Kt R):=fu.l2 N (J Ai .ret K) (J Ai (.exit 0) K)
def ada(N:aC):It R:=(lp 2 (al Ai (λK=>SU N K N) an) ln)
theorem Z1(N:aC):bY akq (ada N (R:=R)) (bM Tryz.f219 2):=lq 2 Ai (SU N) λK g=>fu.r2 N g (J Ai .ret K) (J Ai (.exit 0) K)
def PD:=dJ asu axO fu.c fu.v
theorem VB:bX Tryz.prog T 219 PD:=fq (E:=akq) aW Tryz.func219 (it:=λN=>ada N) (λN=>(bh (Z1 N) bw)) fu.b fu.vo

def atK:=en [(219,PD)] []
def arx:Fn [.R, .R, .R, .I, .S] As:=λa b c d e=>[aV [.sh 9 a, .sh 9 b, .sh 26 c, .n d],aS e]
def awS:Fn [.B] dj:=λa=>⟨[aB a],[]⟩
def WA:=dJ arx awS s7.c s7.v
theorem adI:bX Tryz.prog T 153 WA:=fr (E:=atK) (aD VB aW) Tryz.func153 s7.b s7.vo

def af9:=en [(50,tV)] [(4,[1,2,3]),(9,[1,2,3,4])]
def asE:Fn [.R, .I] As:=λa b=>[aV [.sh 26 a, .n b]]
def axY:Fn [.B] dj:=λa=>⟨[aB a],[]⟩
def Ak:Fn [.B, .I, .R, .I] Tb:=λa b c d=>[cP 2 0,cA 4 (.b a),cI 6 b,oB 1 [.sh 26 c, .n d]]
def Al:Fn [.B, .I, .I, .R, .I] Tb:=λa b c d e=>[cP 2 0,cA 4 (.b a),cI 6 b,cI 8 c,oB 1 [.sh 26 d, .n e]]
def S0(N:aC)(K:Kt R):=fK.l4 N (J Ak .ret K) (J Ak (.exit 0) K)
def S1(N:aC)(K:Kt R):=fK.l9 N (J Al .ret K) (J Al (.exit 2) K)
def UI(N:aC):It R:=(lp 4 (al Ak (λK=>S0 N K N) an) (lp 9 (al Al (λK=>S1 N K N) an) ln))
theorem Z6(N:aC):bY af9 (UI N (R:=R)) (bM Tryz.f231 4):=lq 4 Ak (S0 N) λK g=>fK.r4 N g (J Ak .ret K) (J Ak (.exit 0) K)
theorem Z7(N:aC):bY af9 (UI N (R:=R)) (bM Tryz.f231 9):=lq 9 Al (S1 N) λK g=>fK.r9 N g (J Al .ret K) (J Al (.exit 2) K)
def PF:=dJ asE axY fK.c fK.v
theorem VD:bX Tryz.prog T 231 PF:=fq (E:=af9) (aD vg aW) Tryz.func231 (it:=λN=>UI N) (λN=>(bh (Z6 N) (bh (Z7 N) bw))) fK.b fK.vo

def akh:=en [(107,Ed),(219,PD),(231,PF)] [(3,[1,2,3,4])]
def arT:Fn [.R, .R, .R, .I] As:=λa b c d=>[aV [.sh 9 a, .sh 9 b, .sh 26 c, .n d]]
def axd:Fn [.B] dj:=λa=>⟨[aB a],[]⟩
def Ab:Fn [.B, .I, .R, .R, .R, .I, .R] Tb:=λa b c d e f g=>[cP 2 0,cA 4 (.b a),cA 6 (.own 1),cI 8 b,oB 1 [.sh 9 c, .sh 9 d, .sh 26 e, .n f],oR 3 9 g]
def SB(N:aC)(K:Kt R):=jR.l3 N (J Ab .ret K) (J Ab (.exit 0) K)
def ac2(N:aC):It R:=(lp 3 (al Ab (λK=>SB N K N) an) ln)
theorem ZL(N:aC):bY akh (ac2 N (R:=R)) (bM Tryz.f179 3):=lq 3 Ab (SB N) λK g=>jR.r3 N g (J Ab .ret K) (J Ab (.exit 0) K)
def WG:=dJ arT axd jR.c jR.v
theorem adN:bX Tryz.prog T 179 WG:=fq (E:=akh) (aD Gs (aD VB (aD VD aW))) Tryz.func179 (it:=λN=>ac2 N) (λN=>(bh (ZL N) bw)) jR.b jR.vo

def ajR:=en [(49,W2),(153,WA),(179,WG)] [(2,[1,2,3])]
def aqP:Fn [.I, .R, .R, .R, .R, .I, .R, .R, .I] As:=λa b c d e f g h i=>[aV [.n a, .sh 51 b, .sh 9 c, .sh 9 d, .sh 26 e, .n f, .sh 75 g, .sh 72 h, .n i]]
def awc:Fn [.B] dj:=λa=>⟨[aB a],[]⟩
def zR:Fn [.B, .I, .I, .R, .R, .R, .R, .I, .R, .R, .I] Tb:=λa b c d e f g h i j k=>[cP 2 0,cA 4 (.b a),cI 6 b,oB 1 [.n c, .sh 51 d, .sh 9 e, .sh 9 f, .sh 26 g, .n h, .sh 75 i, .sh 72 j, .n k]]
def R2(N:aC)(K:Kt R):=nM.l2 N (J zR .ret K) (J zR (.exit 0) K)
def acB(N:aC):It R:=(lp 2 (al zR (λK=>R2 N K N) an) ln)
theorem Zg(N:aC):bY ajR (acB N (R:=R)) (bM Tryz.f105 2):=lq 2 zR (R2 N) λK g=>nM.r2 N g (J zR .ret K) (J zR (.exit 0) K)
def aei:=dJ aqP awc nM.c nM.v
theorem amv:bX Tryz.prog T 105 aei:=fq (E:=ajR) (aD aaB (aD adI (aD adN aW))) Tryz.func105 (it:=λN=>acB N) (λN=>(bh (Zg N) bw)) nM.b nM.vo

def ajS:=en [(107,Ed),(50,tV)] [(5,[1,2,4,5,6])]
def aqQ:Fn [.I, .R, .R, .R, .R, .I, .R, .R, .I, .I] As:=λa b c d e f g h i j=>[aV [.n a, .sh 51 b, .sh 9 c, .sh 9 d, .sh 26 e, .n f, .sh 75 g, .sh 72 h, .n i],aI j]
def awd:Fn [.B] dj:=λa=>⟨[aB a],[]⟩
def zS:Fn [.I, .B, .I, .I, .R, .R, .R, .R, .I, .R, .R, .I, .S, .S, .I, .I, .I] Tb:=λa b c d e f g h i j k l m o p q r=>[cI 2 a,cP 4 0,cA 8 (.b b),cP 10 1,cI 12 c,oB 1 [.n d, .sh 51 e, .sh 9 f, .sh 9 g, .sh 26 h, .n i, .sh 75 j, .sh 72 k, .n l],oB 3 [.s m, .s o, .n p, .n q, .n r]]
def R3(N:aC)(K:Kt R):=nN.l5 N (J zS .ret K) (J zS (.exit 0) K)
def acC(N:aC):It R:=(lp 5 (al zS (λK=>R3 N K N) an) ln)
theorem Zh(N:aC):bY ajS (acC N (R:=R)) (bM Tryz.f106 5):=lq 5 zS (R3 N) λK g=>nN.r5 N g (J zS .ret K) (J zS (.exit 0) K)
def aej:=dJ aqQ awd nN.c nN.v
theorem amw:bX Tryz.prog T 106 aej:=fq (E:=ajS) (aD Gs (aD vg aW)) Tryz.func106 (it:=λN=>acC N) (λN=>(bh (Zh N) bw)) nN.b nN.vo

def E45:=en [(50,tV),(105,aei),(106,aej),(107,Ed)] [(4,[1,2,3]),(9,[1,2,4])]
def A45:Fn [.I, .R, .R, .R, .R, .I, .R, .R, .I] As:=λa b c d e f g h i=>[aV [.n a, .sh 51 b, .sh 9 c, .sh 9 d, .sh 26 e, .n f, .sh 75 g, .sh 72 h, .n i]]
def k45:Fn [.B] dj:=λa=>⟨[aB a],[]⟩
def FL:Fn [.B, .I, .I, .R, .R, .R, .R, .I, .R, .R, .I] Tb:=λa b c d e f g h i j k=>[cP 2 0,cA 4 (.b a),cI 6 b,oB 1 [.n c, .sh 51 d, .sh 9 e, .sh 9 f, .sh 26 g, .n h, .sh 75 i, .sh 72 j, .n k]]
def FM:Fn [.B, .I, .I, .R, .R, .R, .R, .I, .R, .R, .I] Tb:=λa b c d e f g h i j k=>[cP 2 0,cA 4 (.b a),cI 8 b,oB 1 [.n c, .sh 51 d, .sh 9 e, .sh 9 f, .sh 26 g, .n h, .sh 75 i, .sh 72 j, .n k]]
def abM(N:aC)(K:Kt R):=qR.l4 N (J FL .ret K) (J FL (.exit 0) K)
def abN(N:aC)(K:Kt R):=qR.l9 N (J FM .ret K) (J FM (.exit 2) K)
def ahB(N:aC):It R:=(lp 4 (al FL (λK=>abM N K N) an) (lp 9 (al FM (λK=>abN N K N) an) ln))
theorem ahW(N:aC):bY E45 (ahB N (R:=R)) (bM Tryz.f45 4):=lq 4 FL (abM N) λK g=>qR.r4 N g (J FL .ret K) (J FL (.exit 0) K)
theorem ahX(N:aC):bY E45 (ahB N (R:=R)) (bM Tryz.f45 9):=lq 9 FM (abN N) λK g=>qR.r9 N g (J FM .ret K) (J FM (.exit 2) K)
def aiD:=dJ A45 k45 qR.c qR.v
theorem an6:bX Tryz.prog T 45 aiD:=fq (E:=E45) (aD vg (aD amv (aD amw (aD Gs aW)))) Tryz.func45 (it:=λN=>ahB N) (λN=>(bh (ahW N) (bh (ahX N) bw))) qR.b qR.vo

def aku:=en [] [(2,[1,2,4,5,6])]
def asG:Fn [.I, .R, .R, .R, .R, .I, .R, .R, .I, .S] As:=λa b c d e f g h i j=>[aV [.n a, .sh 51 b, .sh 9 c, .sh 9 d, .sh 26 e, .n f, .sh 75 g, .sh 72 h, .n i],aS j]
def ax0:Fn [.S, .I, .I, .S, .B] dj:=λa b c d e=>⟨[aV [.s a, .n b, .n c, .s d],aB e],[]⟩
def Am:Fn [.S, .B, .I, .I, .R, .R, .R, .R, .I, .R, .R, .I, .S, .I, .I, .S] Tb:=λa b c d e f g h i j k l m o p q=>[cA 2 (.s a),cP 4 0,cP 8 1,cA 10 (.b b),cI 12 c,oB 1 [.n d, .sh 51 e, .sh 9 f, .sh 9 g, .sh 26 h, .n i, .sh 75 j, .sh 72 k, .n l],oB 3 [.s m, .n o, .n p, .s q]]
def S4(N:aC)(K:Kt R):=w_.l2 N (J Am .ret K) (J Am (.exit 0) K)
def adg(N:aC):It R:=(lp 2 (al Am (λK=>S4 N K N) an) ln)
theorem Z_(N:aC):bY aku (adg N (R:=R)) (bM Tryz.f233 2):=lq 2 Am (S4 N) λK g=>w_.r2 N g (J Am .ret K) (J Am (.exit 0) K)
def afl:=dJ asG ax0 w_.c w_.v
theorem anA:bX Tryz.prog T 233 afl:=fq (E:=aku) aW Tryz.func233 (it:=λN=>adg N) (λN=>(bh (Z_ N) bw)) w_.b w_.vo

def E13:=en [(49,W2),(50,tV)] []
def A13:Fn [.S, .I, .I, .S, .I] As:=λa b c d e=>[aV [.s a, .n b, .n c, .s d],aI e]
def k13:Fn [.B] dj:=λa=>⟨[aB a],[]⟩
def aa4:=dJ A13 k13 (ct _) HM.v
theorem aie:bX Tryz.prog T 13 aa4:=ft (E:=E13) (aD aaB (aD vg aW)) Tryz.func13 HM.b λ(a0,a1,a2,a3,a4,_)=>HM.dP _ a0 a1 a2 a3 a4

def af_:=en [] [(2,[0,1,5]),(6,[0,1,5,6])]
def asF:Fn [.I, .S] As:=λa b=>[.v ak [.i .u32 a],aS b]
def axZ:Fn [.I] dj:=λa=>⟨[.v ak [.i .u32 a]],[]⟩
def Hv:Fn [.I, .S, .I] Tb:=λa b c=>[cA 0 (.i .u32 a),cA 2 (.s b),cI 10 c]
def Hw:Fn [.I, .S, .I, .I] Tb:=λa b c d=>[cA 0 (.i .u32 a),cA 2 (.s b),cI 10 c,cI 12 d]
def S2(N:aC)(K:Kt R):=jP.l2 N (J Hv (.exit 0) K)
def S3(N:aC)(K:Kt R):=jP.l6 N (J Hw (.exit 2) K)
def UJ(N:aC):It R:=(lp 2 (al Hv (λK=>S2 N K N) an) (lp 6 (al Hw (λK=>S3 N K N) an) ln))
theorem Z8(N:aC):bY af_ (UJ N (R:=R)) (bM Tryz.f232 2):=lq 2 Hv (S2 N) λK g=>jP.r2 N g (J Hv (.exit 0) K)
theorem Z9(N:aC):bY af_ (UJ N (R:=R)) (bM Tryz.f232 6):=lq 6 Hw (S3 N) λK g=>jP.r6 N g (J Hw (.exit 2) K)
def afk:=dJ asF axZ jP.c jP.v
theorem anz:bX Tryz.prog T 232 afk:=fq (E:=af_) aW Tryz.func232 (it:=λN=>UJ N) (λN=>(bh (Z8 N) (bh (Z9 N) bw))) jP.b jP.vo

def atZ:=en [(232,afk)] []
def arW:Fn [.S] As:=λa=>[aS a]
def axg:Fn [.I] dj:=λa=>⟨[.v ak [.i .u32 a]],[]⟩
def WH:=dJ arW axg vW.c vW.v
theorem adO:bX Tryz.prog T 183 WH:=fr (E:=atZ) (aD anz aW) Tryz.func183 vW.b vW.vo

def auC:=en [(183,WH)] []
def as2:Fn [.I, .S] As:=λa b=>[aI a,aS b]
def ayl:Fn [.I] dj:=λa=>⟨[aI a],[]⟩
def WZ:=dJ as2 ayl gu.c gu.v
theorem ad5:bX Tryz.prog T 258 WZ:=fr (E:=auC) (aD adO aW) Tryz.func258 gu.b gu.vo

def X2:=en [(244,PI),(231,PF),(258,WZ)] [(5,[1,4,5,6]),(14,[4,5,8]),(17,[4,5,8,9])]
def ast:Fn [.R, .I, .S] As:=λa b c=>[aV [.sh 26 a, .n b],aS c]
def axN:Fn [.R, .I] dj:=λa b=>⟨[aV [.ow 26 ai a, .n b]],[]⟩
def Hs:Fn [.S, .I, .I, .I, .R] Tb:=λa b c d e=>[cA 2 (.s a),cP 8 0,cP 10 1,cI 12 b,oB 1 [.nl, .n c],oB 3 [.own 2, .n d],oR 5 26 e]
def Cg:Fn [.I, .I, .I, .R] Tb:=λa b c d=>[cP 8 0,cP 10 1,cI 16 a,oB 1 [.nl, .n b],oB 3 [.own 2, .n c],oR 5 26 d]
def Ci:Fn [.I, .I, .I, .I, .R] Tb:=λa b c d e=>[cP 8 0,cP 10 1,cI 16 a,cI 18 b,oB 1 [.nl, .n c],oB 3 [.own 2, .n d],oR 5 26 e]
def SS(N:aC)(K:Kt R):=dq.l5 N (J Hs (.exit 0) K)
def NK(N:aC)(K:Kt R):=dq.l14 N (J Cg (.exit 2) K)
def NL(N:aC)(K:Kt R):=dq.l17 N (J Ci (.exit 4) K)
def OV(N:aC):It R:=(lp 5 (al Hs (λK=>SS N K N) an) (lp 14 (al Cg (λK=>NK N K N) an) (lp 17 (al Ci (λK=>NL N K N) an) ln)))
theorem Z0(N:aC):bY X2 (OV N (R:=R)) (bM Tryz.f218 5):=lq 5 Hs (SS N) λK g=>dq.r5 N g (J Hs (.exit 0) K)
theorem U9(N:aC):bY X2 (OV N (R:=R)) (bM Tryz.f218 14):=lq 14 Cg (NK N) λK g=>dq.r14 N g (J Cg (.exit 2) K)
theorem U_(N:aC):bY X2 (OV N (R:=R)) (bM Tryz.f218 17):=lq 17 Ci (NL N) λK g=>dq.r17 N g (J Ci (.exit 4) K)
def WQ:=dJ ast axN dq.c dq.v
theorem adW:bX Tryz.prog T 218 WQ:=fq (E:=X2) (aD VG (aD VD (aD ad5 aW))) Tryz.func218 (it:=λN=>OV N) (λN=>(bh (Z0 N) (bh (U9 N) (bh (U_ N) bw)))) dq.b dq.vo

def akr:=en [] [(3,[0,1,5,6])]
def asv:Fn [.R, .S] As:=λa b=>[aH 9 a,aS b]
def axP:Fn [.R] dj:=λa=>⟨[aO 9 a],[]⟩
def Ht:Fn [.R, .S, .I, .R] Tb:=λa b c d=>[cH 0 9 a,cA 2 (.s b),cA 10 (.own 0),cI 12 c,oR 1 9 d]
def SW(N:aC)(K:Kt R):=o9.l3 N (J Ht (.exit 0) K)
def adb(N:aC):It R:=(lp 3 (al Ht (λK=>SW N K N) an) ln)
theorem Z2(N:aC):bY akr (adb N (R:=R)) (bM Tryz.f220 3):=lq 3 Ht (SW N) λK g=>o9.r3 N g (J Ht (.exit 0) K)
def WR:=dJ asv axP o9.c o9.v
theorem adX:bX Tryz.prog T 220 WR:=fq (E:=akr) aW Tryz.func220 (it:=λN=>adb N) (λN=>(bh (Z2 N) bw)) o9.b o9.vo

def aks:=en [(231,PF),(258,WZ)] [(5,[1,2,5,6])]
def asw:Fn [.R, .I, .S] As:=λa b c=>[aV [.sh 26 a, .n b],aS c]
def axQ:Fn [.I] dj:=λa=>⟨[aI a],[]⟩
def Hu:Fn [.S, .I, .I, .R, .I] Tb:=λa b c d e=>[cA 2 (.s a),cP 4 0,cI 10 b,cI 12 c,oB 1 [.sh 26 d, .n e]]
def SX(N:aC)(K:Kt R):=mz.l5 N (J Hu (.exit 0) K)
def ade(N:aC):It R:=(lp 5 (al Hu (λK=>SX N K N) an) ln)
theorem Z3(N:aC):bY aks (ade N (R:=R)) (bM Tryz.f221 5):=lq 5 Hu (SX N) λK g=>mz.r5 N g (J Hu (.exit 0) K)
def aff:=dJ asw axQ mz.c mz.v
theorem ant:bX Tryz.prog T 221 aff:=fq (E:=aks) (aD VD (aD ad5 aW)) Tryz.func221 (it:=λN=>ade N) (λN=>(bh (Z3 N) bw)) mz.b mz.vo

def atJ:=en [(193,WJ),(179,WG),(107,Ed),(218,WQ),(219,PD),(220,WR),(221,aff)] []
def arv:Fn [.R, .R, .R, .I, .S] As:=λa b c d e=>[aV [.sh 9 a, .sh 9 b, .sh 26 c, .n d],aS e]
def awQ:Fn [.R, .R, .R, .I, .S] dj:=λa b c d e=>⟨[aV [.ow 9 ai a, .ow 9 ai b, .ow 26 ai c, .n d],aS e],[]⟩
def Wy:=dJ arv awQ e6.c e6.v
theorem adG:bX Tryz.prog T 151 Wy:=fr (E:=atJ) (aD adQ (aD adN (aD Gs (aD adW (aD VB (aD adX (aD ant aW))))))) Tryz.func151 e6.b e6.vo

def agb:=en [] [(3,[0,3,5,6]),(9,[0,3,5,7])]
def asH:Fn [.R, .I, .S, .I, .I, .I, .S, .I] As:=λa b c d e f g h=>[aH 72 a,aV [.n b, .s c, .n d, .n e, .n f, .s g, .n h]]
def ax1:Fn [.R] dj:=λa=>⟨[aO 72 a],[]⟩
def Hy:Fn [.R, .I, .I, .S, .I, .I, .I, .S, .I, .R] Tb:=λa b c d e f g h i j=>[cH 0 72 a,cP 6 0,cA 10 (.own 1),cI 12 b,oB 1 [.n c, .s d, .n e, .n f, .n g, .s h, .n i],oR 3 72 j]
def Hz:Fn [.R, .I, .I, .S, .I, .I, .I, .S, .I, .R] Tb:=λa b c d e f g h i j=>[cH 0 72 a,cP 6 0,cA 10 (.own 1),cI 14 b,oB 1 [.n c, .s d, .n e, .n f, .n g, .s h, .n i],oR 3 72 j]
def S5(N:aC)(K:Kt R):=lM.l3 N (J Hy (.exit 0) K)
def S6(N:aC)(K:Kt R):=lM.l9 N (J Hz (.exit 2) K)
def UK(N:aC):It R:=(lp 3 (al Hy (λK=>S5 N K N) an) (lp 9 (al Hz (λK=>S6 N K N) an) ln))
theorem aaa(N:aC):bY agb (UK N (R:=R)) (bM Tryz.f234 3):=lq 3 Hy (S5 N) λK g=>lM.r3 N g (J Hy (.exit 0) K)
theorem aab(N:aC):bY agb (UK N (R:=R)) (bM Tryz.f234 9):=lq 9 Hz (S6 N) λK g=>lM.r9 N g (J Hz (.exit 2) K)
def afm:=dJ asH ax1 lM.c lM.v
theorem anB:bX Tryz.prog T 234 afm:=fq (E:=agb) aW Tryz.func234 (it:=λN=>UK N) (λN=>(bh (aaa N) (bh (aab N) bw))) lM.b lM.vo

def aj9:=en [] [(3,[0,1,5,6])]
def arw:Fn [.R, .S] As:=λa b=>[aH 51 a,aS b]
def awR:Fn [.R] dj:=λa=>⟨[aO 51 a],[]⟩
def Hb:Fn [.R, .S, .I, .R] Tb:=λa b c d=>[cH 0 51 a,cA 2 (.s b),cA 10 (.own 0),cI 12 c,oR 1 51 d]
def Sm(N:aC)(K:Kt R):=qg.l3 N (J Hb (.exit 0) K)
def acT(N:aC):It R:=(lp 3 (al Hb (λK=>Sm N K N) an) ln)
theorem Zz(N:aC):bY aj9 (acT N (R:=R)) (bM Tryz.f152 3):=lq 3 Hb (Sm N) λK g=>qg.r3 N g (J Hb (.exit 0) K)
def Wz:=dJ arw awR qg.c qg.v
theorem adH:bX Tryz.prog T 152 Wz:=fq (E:=aj9) aW Tryz.func152 (it:=λN=>acT N) (λN=>(bh (Zz N) bw)) qg.b qg.vo

def aur:=en [(220,WR),(244,PI)] []
def asI:Fn [.R, .R, .R, .I, .S] As:=λa b c d e=>[aV [.sh 9 a, .sh 9 b, .sh 26 c, .n d],aS e]
def ax2:Fn [.R, .R, .R, .I] dj:=λa b c d=>⟨[aV [.ow 9 ai a, .ow 9 ai b, .ow 26 ai c, .n d]],[]⟩
def afn:=dJ asI ax2 u5.c u5.v
theorem anC:bX Tryz.prog T 235 afn:=fr (E:=aur) (aD adX (aD VG aW)) Tryz.func235 u5.b u5.vo

def af6:=en [(117,BA),(45,aiD),(50,tV),(107,Ed),(233,afl),(13,aa4),(151,Wy),(234,afm),(152,Wz),(235,afn),(218,WQ)] [(5,[1,2,3,6,7,8,9]),(22,[2,3,6,8,10,12,13])]
def arY:Fn [.I, .R, .R, .R, .R, .I, .R, .R, .I, .I, .S] As:=λa b c d e f g h i j k=>[aV [.n a, .sh 51 b, .sh 9 c, .sh 9 d, .sh 26 e, .n f, .sh 75 g, .sh 72 h, .n i],aI j,aS k]
def axi:Fn [.I, .R, .R, .R, .R, .I, .R, .R, .I, .I] dj:=λa b c d e f g h i j=>⟨[aV [.n a, .ow 51 ai b, .ow 9 ai c, .ow 9 ai d, .ow 26 ai e, .n f, .ow 75 ai g, .ow 72 ai h, .n i],aI j],[]⟩
def Hl:Fn [.I, .S, .I, .I, .I, .R, .R, .R, .R, .I, .R, .R, .I, .I, .I, .I, .I, .I, .I, .R, .R, .R, .R, .R, .R] Tb:=λa b c d e f g h i j k l m o p q r s t u v w x y z=>[cI 2 a,cA 4 (.s b),cP 6 0,cP 12 1,cI 14 c,cP 16 2,cI 18 d,oB 1 [.n e, .sh 51 f, .sh 9 g, .sh 9 h, .sh 26 i, .n j, .sh 75 k, .sh 72 l, .n m],oB 3 [.n o, .nl, .nl, .nl, .nl, .n p, .nl, .nl, .n q],oB 5 [.n r, .own 3, .own 4, .own 5, .own 6, .n s, .own 7, .own 8, .n t],oR 7 51 u,oR 9 9 v,oR 11 9 w,oR 13 26 x,oR 15 75 y,oR 17 72 z]
def Jy:Fn [.I, .S, .I, .I, .I, .R, .R, .R, .R, .I, .R, .R, .I, .I, .I, .I, .I, .I, .I, .R, .R, .R, .R, .R, .R] Tb:=λa b c d e f g h i j k l m o p q r s t u v w x y z=>[cI 2 a,cA 4 (.s b),cP 6 0,cP 12 1,cI 14 c,cP 16 2,cI 18 d,oB 1 [.n e, .sh 51 f, .sh 9 g, .sh 9 h, .sh 26 i, .n j, .sh 75 k, .sh 72 l, .n m],oB 3 [.n o, .own 3, .own 4, .own 5, .own 6, .n p, .own 7, .own 8, .n q],oB 5 [.n r, .own 3, .own 4, .own 5, .own 6, .n s, .own 7, .own 8, .n t],oR 7 51 u,oR 9 9 v,oR 11 9 w,oR 13 26 x,oR 15 75 y,oR 17 72 z]
def Ce:Fn [.S, .B, .I, .I, .R, .R, .R, .R, .I, .R, .R, .I, .I, .I, .I, .I, .I, .I, .I, .S, .I, .I, .I, .S, .I, .R, .R, .R, .R, .R, .R] Tb:=λa b c d e f g h i j k l m o p q r s t u v w x y z aa ab ac ad ae af=>[cA 4 (.s a),cP 6 0,cP 12 1,cP 16 2,cP 20 3,cA 24 (.b b),cI 26 c,oB 1 [.n d, .sh 51 e, .sh 9 f, .sh 9 g, .sh 26 h, .n i, .sh 75 j, .sh 72 k, .n l],oB 3 [.n m, .nl, .nl, .nl, .nl, .n o, .nl, .nl, .n p],oB 5 [.n q, .own 4, .own 5, .own 6, .own 7, .n r, .own 8, .own 9, .n s],oB 7 [.n t, .s u, .n v, .n w, .n x, .s y, .n z],oR 9 51 aa,oR 11 9 ab,oR 13 9 ac,oR 15 26 ad,oR 17 75 ae,oR 19 72 af]
def SE(N:aC)(K:Kt R):=w6.l5 N (J Jy .ret K) (J Hl (.exit 0) K)
def NH(N:aC)(K:Kt R):=w6.Zd N (J Ce (.exit 2) K)
def UF(N:aC):It R:=(lp 5 (al Hl (λK=>SE N K N) an) (lp 22 (al Ce (λK=>NH N K N) an) ln))
theorem ZO(N:aC):bY af6 (UF N (R:=R)) (bM Tryz.f185 5):=lq 5 Hl (SE N) λK g=>w6.r5 N g (J Jy .ret K) (J Hl (.exit 0) K)
theorem U7(N:aC):bY af6 (UF N (R:=R)) (bM Tryz.f185 22):=lq 22 Ce (NH N) λK g=>w6.r22 N g (J Ce (.exit 2) K)
def aeV:=dJ arY axi w6.c w6.v
theorem am8:bX Tryz.prog T 185 aeV:=fq (E:=af6) (aD DN (aD an6 (aD vg (aD Gs (aD anA (aD aie (aD adG (aD anB (aD adH (aD anC (aD adW aW))))))))))) Tryz.func185 (it:=λN=>UF N) (λN=>(bh (ZO N) (bh (U7 N) bw))) w6.b w6.vo

def aus:=en [(45,aiD),(50,tV)] []
def asJ:Fn [.I, .R, .R, .R, .R, .I, .R, .R, .I, .I] As:=λa b c d e f g h i j=>[aV [.n a, .sh 51 b, .sh 9 c, .sh 9 d, .sh 26 e, .n f, .sh 75 g, .sh 72 h, .n i],aI j]
def ax3:Fn [.B] dj:=λa=>⟨[aB a],[]⟩
def PG:=dJ asJ ax3 u6.c u6.v
theorem VE:bX Tryz.prog T 236 PG:=fr (E:=aus) (aD an6 (aD vg aW)) Tryz.func236 u6.b u6.vo

def auI:=en [] []
def as9:Fn [.I, .S, .R] As:=λa b c=>[aV [.n a, .s b, .sh 237 c]]
def ays:Fn [.I, .S, .R] dj:=λa b c=>⟨[aV [.n a, .s b, .ow 237 ai c]],[]⟩
def afF:=dJ as9 ays LJ.c LJ.v
theorem anU:bX Tryz.prog T 267 afF:=fh (E:=auI) aW Tryz.func267 (it:=λ_=>ln) (λ_=>bw) (λ_=>LJ.b) λx f h=>⟨0,LJ.dP _ x.1 x.2.1 x.2.2.1 h⟩

def akE:=en [(50,tV)] [(2,[1,2,3])]
def as_:Fn [.I, .S, .R] As:=λa b c=>[aV [.n a, .s b, .sh 237 c]]
def ayt:Fn [.B] dj:=λa=>⟨[aB a],[]⟩
def Ar:Fn [.B, .I, .I, .S, .R] Tb:=λa b c d e=>[cP 2 0,cA 4 (.b a),cI 6 b,oB 1 [.n c, .s d, .sh 237 e]]
def Ti(N:aC)(K:Kt R):=lC.l2 N (J Ar .ret K) (J Ar (.exit 0) K)
def adr(N:aC):It R:=(lp 2 (al Ar (λK=>Ti N K N) an) ln)
theorem aan(N:aC):bY akE (adr N (R:=R)) (bM Tryz.f268 2):=lq 2 Ar (Ti N) λK g=>lC.r2 N g (J Ar .ret K) (J Ar (.exit 0) K)
def afG:=dJ as_ ayt (ct _) lC.v
theorem anV:bX Tryz.prog T 268 afG:=fh (E:=akE) (aD vg aW) Tryz.func268 (it:=λN=>adr N) (λN=>(bh (aan N) bw)) lC.b λx f h=>lC.dP _ x.1 x.2.1 x.2.2.1 f.1.2.1 f.1.2.2.1

def aut:=en [(267,afF),(268,afG),(50,tV)] []
def asK:Fn [.I, .S, .R, .S] As:=λa b c d=>[aV [.n a, .s b, .sh 237 c],aS d]
def ax4:Fn [.I, .S, .R, .B] dj:=λa b c d=>⟨[aV [.n a, .s b, .ow 237 ai c],aB d],[]⟩
def afo:=dJ asK ax4 HQ.c HQ.v
theorem anD:bX Tryz.prog T 237 afo:=fh (E:=aut) (aD anU (aD anV (aD vg aW))) Tryz.func237 (it:=λ_=>ln) (λ_=>bw) (λ_=>HQ.b) λx f h=>⟨0,HQ.dP _ x.1 x.2.1 x.2.2.1 x.2.2.2.1 h f.1.2.1 f.1.2.2.1 f.2.1.1⟩

def akv:=en [] [(1,[0,1,2,6])]
def asL:Fn [.I, .R, .R, .R, .R, .I, .R, .R, .I, .I, .I] As:=λa b c d e f g h i j k=>[.pt [.n a, .ow 51 ai b, .ow 9 ai c, .ow 9 ai d, .ow 26 ai e, .n f, .ow 75 ai g, .ow 72 ai h, .n i],aI j,aI k]
def ax5:Fn [.I, .R, .R, .R, .R, .I, .R, .R, .I] dj:=λa b c d e f g h i=>⟨[],[[.n a, .kp b, .kp c, .kp d, .kp e, .n f, .kp g, .kp h, .n i]]⟩
def HA:Fn [.I, .I, .I, .I, .I, .I, .R, .R, .R, .R, .R, .R] Tb:=λa b c d e f g h i j k l=>[cP 0 900000900,cI 2 a,cI 4 b,cI 12 c,oB 1800001801 [.n d, .own 900000001, .own 900000002, .own 900000003, .own 900000004, .n e, .own 900000006, .own 900000007, .n f],oR 1800000003 51 g,oR 1800000005 9 h,oR 1800000007 9 i,oR 1800000009 26 j,oR 1800000013 75 k,oR 1800000015 72 l]
def S7(N:aC)(K:Kt R):=sH.l1 N (J HA (.exit 0) K)
def adh(N:aC):It R:=(lp 1 (al HA (λK=>S7 N K N) an) ln)
theorem aac(N:aC):bY akv (adh N (R:=R)) (bM Tryz.f238 1):=lq 1 HA (S7 N) λK g=>sH.r1 N g (J HA (.exit 0) K)
def PH:=dJ asL ax5 sH.c sH.v
theorem VF:bX Tryz.prog T 238 PH:=fq (E:=akv) aW Tryz.func238 (it:=λN=>adh N) (λN=>(bh (aac N) bw)) sH.b sH.vo

def at0:=en [(117,BA),(236,PG),(237,afo),(238,PH)] []
def arZ:Fn [.I, .R, .R, .R, .R, .I, .R, .R, .I, .I, .S] As:=λa b c d e f g h i j k=>[aV [.n a, .sh 51 b, .sh 9 c, .sh 9 d, .sh 26 e, .n f, .sh 75 g, .sh 72 h, .n i],aI j,aS k]
def axj:Fn [.I, .R, .R, .R, .R, .I, .R, .R, .I, .B] dj:=λa b c d e f g h i j=>⟨[aV [.n a, .ow 51 ai b, .ow 9 ai c, .ow 9 ai d, .ow 26 ai e, .n f, .ow 75 ai g, .ow 72 ai h, .n i],aB j],[]⟩
def aeW:=dJ arZ axj ER.c ER.v
theorem am9:bX Tryz.prog T 186 aeW:=fr (E:=at0) (aD DN (aD VE (aD anD (aD VF aW)))) Tryz.func186 ER.b ER.vo

def E55:=en [] [(3,[0,3,5,6]),(9,[0,3,5,7])]
def A55:Fn [.R, .S, .I, .I, .S] As:=λa b c d e=>[aH 51 a,aV [.s b, .n c, .n d, .s e]]
def k55:Fn [.R] dj:=λa=>⟨[aO 51 a],[]⟩
def N6:Fn [.R, .I, .S, .I, .I, .S, .R] Tb:=λa b c d e f g=>[cH 0 51 a,cP 6 0,cA 10 (.own 1),cI 12 b,oB 1 [.s c, .n d, .n e, .s f],oR 3 51 g]
def N7:Fn [.R, .I, .S, .I, .I, .S, .R] Tb:=λa b c d e f g=>[cH 0 51 a,cP 6 0,cA 10 (.own 1),cI 14 b,oB 1 [.s c, .n d, .n e, .s f],oR 3 51 g]
def abQ(N:aC)(K:Kt R):=lG.l3 N (J N6 (.exit 0) K)
def abR(N:aC)(K:Kt R):=lG.l9 N (J N7 (.exit 2) K)
def ahC(N:aC):It R:=(lp 3 (al N6 (λK=>abQ N K N) an) (lp 9 (al N7 (λK=>abR N K N) an) ln))
theorem ah0(N:aC):bY E55 (ahC N (R:=R)) (bM Tryz.f55 3):=lq 3 N6 (abQ N) λK g=>lG.r3 N g (J N6 (.exit 0) K)
theorem ah1(N:aC):bY E55 (ahC N (R:=R)) (bM Tryz.f55 9):=lq 9 N7 (abR N) λK g=>lG.r9 N g (J N7 (.exit 2) K)
def aiF:=dJ A55 k55 lG.c lG.v
theorem an8:bX Tryz.prog T 55 aiF:=fq (E:=E55) aW Tryz.func55 (it:=λN=>ahC N) (λN=>(bh (ah0 N) (bh (ah1 N) bw))) lG.b lG.vo

def E88:=XQ T md [(151,Wy),(152,Wz),(153,WA),(55,aiF)] [] [] [(0,1,.own 51),(0,2,.own 9),(0,3,.own 9),(0,4,.own 26)]
def A88:Fn [.I, .R, .R, .R, .R, .I, .R, .R, .I, .S, .I, .I, .S] As:=λa b c d e f g h i j k l m=>[.pt [.n a, .ow 51 ai b, .ow 9 ai c, .ow 9 ai d, .ow 26 ai e, .n f, .ow 75 ai g, .ow 72 ai h, .n i],aV [.s j, .n k, .n l, .s m]]
def k88:Fn [.I, .R, .R, .R, .R, .I, .R, .R, .I] dj:=λa b c d e f g h i=>⟨[],[[.n a, .ow 51 ai b, .ow 9 ai c, .ow 9 ai d, .ow 26 ai e, .n f, .kp g, .kp h, .n i]]⟩
def aiM:=dJ A88 k88 Qf.c Qf.v
theorem aoe:bX Tryz.prog T 88 aiM:=fr (E:=E88) (aD adG (aD adH (aD adI (aD an8 aW)))) Tryz.func88 Qf.b Qf.vo

def auu:=en [(117,BA),(236,PG),(50,tV),(238,PH),(88,aiM)] []
def asM:Fn [.I, .R, .R, .R, .R, .I, .R, .R, .I, .I, .I] As:=λa b c d e f g h i j k=>[aV [.n a, .sh 51 b, .sh 9 c, .sh 9 d, .sh 26 e, .n f, .sh 75 g, .sh 72 h, .n i],aI j,aI k]
def ax6:Fn [.I, .R, .R, .R, .R, .I, .R, .R, .I, .B] dj:=λa b c d e f g h i j=>⟨[aV [.n a, .ow 51 ai b, .ow 9 ai c, .ow 9 ai d, .ow 26 ai e, .n f, .ow 75 ai g, .ow 72 ai h, .n i],aB j],[]⟩
def afp:=dJ asM ax6 EV.c EV.v
theorem anE:bX Tryz.prog T 239 afp:=fr (E:=auu) (aD DN (aD VE (aD vg (aD VF (aD aoe aW))))) Tryz.func239 EV.b EV.vo

def aki:=en [] [(2,[0,3])]
def arU:Fn [.I] As:=λa=>[aI a]
def axe:Fn [.S] dj:=λa=>⟨[aS a],[]⟩
def Hk:Fn [.I, .R] Tb:=λa b=>[cI 0 a,cA 6 (.own 0),oR 1 5 b]
def SC(N:aC)(K:Kt R):=km.l2 N (J Hk (.exit 0) K)
def ac3(N:aC):It R:=(lp 2 (al Hk (λK=>SC N K N) an) ln)
theorem ZM(N:aC):bY aki (ac3 N (R:=R)) (bM Tryz.f181 2):=lq 2 Hk (SC N) λK g=>km.r2 N g (J Hk (.exit 0) K)
def Py:=dJ arU axe km.c km.v
theorem Vw:bX Tryz.prog T 181 Py:=fh (E:=aki) aW Tryz.func181 (it:=λN=>ac3 N) (λN=>(bh (ZM N) bw)) km.b λx f h=>km.dP _ x.1 h

def ats:=en [(49,W2),(181,Py)] []
def aqX:Fn [.S, .I, .I, .S] As:=λa b c d=>[aV [.s a, .n b, .n c, .s d]]
def awl:Fn [.S, .B] dj:=λa b=>⟨[aS a,aB b],[]⟩
def Pq:=dJ aqX awl (ct _) jF.v
theorem Vm:bX Tryz.prog T 114 Pq:=fh (E:=ats) (aD aaB (aD Vw aW)) Tryz.func114 (it:=λ_=>ln) (λ_=>bw) (λ_=>jF.b) λx f h=>⟨0,jF.dP _ x.1 x.2.1 x.2.2.1 x.2.2.2.1⟩

def atY:=en [] []
def arV:Fn [.I] As:=λa=>[.v ak [.i .u32 a]]
def axf:Fn [.S] dj:=λa=>⟨[aS a],[]⟩
def aeT:=dJ arV axf (ct _) o6.v
theorem am6:bX Tryz.prog T 182 aeT:=ft (E:=atY) aW Tryz.func182 o6.b λ(a0,_)=>o6.dP _ a0

def atq:=en [(50,tV),(181,Py),(183,WH),(182,aeT)] []
def aqV:Fn [.S] As:=λa=>[aS a]
def awj:Fn [.S, .B] dj:=λa b=>⟨[aS a,aB b],[]⟩
def Pp:=dJ aqV awj fI.c fI.v
theorem Vl:bX Tryz.prog T 112 Pp:=fr (E:=atq) (aD vg (aD Vw (aD adO (aD am6 aW)))) Tryz.func112 fI.b fI.vo

def auv:=en [(114,Pq),(112,Pp)] []
def asN:Fn [.S, .I, .I, .S] As:=λa b c d=>[aV [.s a, .n b, .n c, .s d]]
def ax7:Fn [.R, .B] dj:=λa b=>⟨[aO 218 a,aB b],[]⟩
def afq:=dJ asN ax7 EW.c EW.v
theorem anF:bX Tryz.prog T 240 afq:=fr (E:=auv) (aD Vm (aD Vl aW)) Tryz.func240 EW.b EW.vo

def ato:=en [(50,tV)] []
def aqS:Fn [.S] As:=λa=>[aS a]
def awf:Fn [.B] dj:=λa=>⟨[aB a],[]⟩
def Ws:=dJ aqS awf (ct _) qe.v
theorem adA:bX Tryz.prog T 109 Ws:=ft (E:=ato) (aD vg aW) Tryz.func109 qe.b λ(a0,_)=>qe.dP _ a0

def E51:=en [(109,Ws),(50,tV)] [(4,[1,2,3])]
def A51:Fn [.R] As:=λa=>[aV [.sh 94 a]]
def k51:Fn [.B] dj:=λa=>⟨[aB a],[]⟩
def FN:Fn [.B, .I, .R] Tb:=λa b c=>[cP 2 0,cA 4 (.b a),cI 6 b,oB 1 [.sh 94 c]]
def abO(N:aC)(K:Kt R):=gQ.l4 N (J FN .ret K) (J FN (.exit 0) K)
def alV(N:aC):It R:=(lp 4 (al FN (λK=>abO N K N) an) ln)
theorem ahY(N:aC):bY E51 (alV N (R:=R)) (bM Tryz.f51 4):=lq 4 FN (abO N) λK g=>gQ.r4 N g (J FN .ret K) (J FN (.exit 0) K)
def W3:=dJ A51 k51 gQ.c gQ.v
theorem aaC:bX Tryz.prog T 51 W3:=fq (E:=E51) (aD adA (aD vg aW)) Tryz.func51 (it:=λN=>alV N) (λN=>(bh (ahY N) bw)) gQ.b gQ.vo

def ajT:=en [] [(2,[1,2,4,5])]
def aqT:Fn [.R, .S] As:=λa b=>[aV [.sh 94 a],aS b]
def awh:Fn [.I] dj:=λa=>⟨[aI a],[]⟩
def zT:Fn [.S, .I, .I, .R] Tb:=λa b c d=>[cA 2 (.s a),cP 4 0,cI 8 b,cI 10 c,oB 1 [.sh 94 d]]
def R4(N:aC)(K:Kt R):=jt.l2 N (J zT .ret K) (J zT (.exit 0) K)
def acD(N:aC):It R:=(lp 2 (al zT (λK=>R4 N K N) an) ln)
theorem Zi(N:aC):bY ajT (acD N (R:=R)) (bM Tryz.f110 2):=lq 2 zT (R4 N) λK g=>jt.r2 N g (J zT .ret K) (J zT (.exit 0) K)
def Wt:=dJ aqT awh jt.c jt.v
theorem adB:bX Tryz.prog T 110 Wt:=fq (E:=ajT) aW Tryz.func110 (it:=λN=>acD N) (λN=>(bh (Zi N) bw)) jt.b jt.vo

def RX:=en [] [(3,[2,3,4,5,6]),(9,[2,3,4,5,7])]
def ath:Fn [.R, .S, .S, .I] As:=λa b c d=>[aV [.sh 94 a],aV [.s b, .s c, .n d]]
def ayB:Fn [.R] dj:=λa=>⟨[aV [.ow 94 ai a]],[]⟩
def rB:Fn [.I, .R, .S, .S, .I] Tb:=λa b c d e=>[cP 4 0,cP 6 1,cP 8 2,cP 10 3,cI 12 a,oB 1 [.sh 94 b],oB 3 [.s c, .s d, .n e],oB 5 [.nl],oB 7 [.nl]]
def oC:Fn [.I, .R, .S, .S, .I, .R] Tb:=λa b c d e f=>[cP 4 0,cP 6 1,cP 8 2,cP 10 3,cI 12 a,oB 1 [.sh 94 b],oB 3 [.s c, .s d, .n e],oB 5 [.nl],oB 7 [.own 4],oR 9 94 f]
def HK:Fn [.I, .R, .S, .S, .I, .R] Tb:=λa b c d e f=>[cP 4 0,cP 6 1,cP 8 2,cP 10 3,cI 14 a,oB 1 [.sh 94 b],oB 3 [.s c, .s d, .n e],oB 5 [.nl],oB 7 [.own 4],oR 9 94 f]
def To(N:aC)(K:Kt R):=eu.l3 N (J rB (.exit 0) K) (J oC (.exit 0) K)
def NS(N:aC)(K:Kt R):=eu.sK N (J rB (.exit 0) K) (J oC (.exit 0) K)
def Tp(N:aC)(K:Kt R):=eu.l9 N (J HK (.exit 2) K)
def Kq(N:aC):It R:=(lp 3 (al rB (λK=>To N K N) (al oC (λK=>NS N K N) an)) (lp 9 (al HK (λK=>Tp N K N) an) ln))
theorem PV(N:aC)(K:Kt R):Wd RX (Kq N) (bM Tryz.f279 3) 3 K oC (NS N K):=lw (λg=>eu.AY N (cmp _ rB (g∘fN)) (cmp _ oC (g∘fN)) (J rB (.exit 0) K) (J oC (.exit 0) K)) λm i=>by simp only[dN,wf i];rfl
theorem aiW(N:aC)(K:Kt R):Wd RX (Kq N) (bM Tryz.f279 3) 3 K rB (To N K):=lw (λg=>eu.r3 N (cmp _ rB (g∘fN)) (cmp _ oC (g∘fN)) (J rB (.exit 0) K) (J oC (.exit 0) K)) λm i=>by simp only[dN,wf i,wf (PV N K m)];rfl
theorem aat(N:aC):bY RX (Kq N (R:=R)) (bM Tryz.f279 3):=lm 3 (ga rB (aiW N) (ga oC (PV N) oG))
theorem aau(N:aC):bY RX (Kq N (R:=R)) (bM Tryz.f279 9):=lq 9 HK (Tp N) λK g=>eu.r9 N g (J HK (.exit 2) K)
def afN:=dJ ath ayB eu.c eu.v
theorem an2:bX Tryz.prog T 279 afN:=fq (E:=RX) aW Tryz.func279 (it:=λN=>Kq N) (λN=>(bh (aat N) (bh (aau N) bw))) eu.b eu.vo

def X6:=en [] [(3,[1,2,4,5,6])]
def ati:Fn [.R, .S] As:=λa b=>[aV [.sh 94 a],aS b]
def ayC:Fn [.R] dj:=λa=>⟨[aV [.ow 94 ai a]],[]⟩
def rC:Fn [.S, .I, .R] Tb:=λa b c=>[cA 2 (.s a),cP 4 0,cP 8 1,cP 10 2,cI 12 b,oB 1 [.sh 94 c],oB 3 [.nl],oB 5 [.nl]]
def oD:Fn [.S, .I, .R, .R] Tb:=λa b c d=>[cA 2 (.s a),cP 4 0,cP 8 1,cP 10 2,cI 12 b,oB 1 [.sh 94 c],oB 3 [.nl],oB 5 [.own 3],oR 7 94 d]
def Tq(N:aC)(K:Kt R):=eQ.l3 N (J rC (.exit 0) K) (J oD (.exit 0) K)
def NT(N:aC)(K:Kt R):=eQ.sK N (J rC (.exit 0) K) (J oD (.exit 0) K)
def O0(N:aC):It R:=(lp 3 (al rC (λK=>Tq N K N) (al oD (λK=>NT N K N) an)) ln)
theorem PW(N:aC)(K:Kt R):Wd X6 (O0 N) (bM Tryz.f280 3) 3 K oD (NT N K):=lw (λg=>eQ.AY N (cmp _ rC (g∘fN)) (cmp _ oD (g∘fN)) (J rC (.exit 0) K) (J oD (.exit 0) K)) λm i=>by simp only[dN,wf i];rfl
theorem aiX(N:aC)(K:Kt R):Wd X6 (O0 N) (bM Tryz.f280 3) 3 K rC (Tq N K):=lw (λg=>eQ.r3 N (cmp _ rC (g∘fN)) (cmp _ oD (g∘fN)) (J rC (.exit 0) K) (J oD (.exit 0) K)) λm i=>by simp only[dN,wf i,wf (PW N K m)];rfl
theorem aav(N:aC):bY X6 (O0 N (R:=R)) (bM Tryz.f280 3):=lm 3 (ga rC (aiX N) (ga oD (PW N) oG))
def afO:=dJ ati ayC eQ.c eQ.v
theorem an3:bX Tryz.prog T 280 afO:=fq (E:=X6) aW Tryz.func280 (it:=λN=>O0 N) (λN=>(bh (aav N) bw)) eQ.b eQ.vo

def auJ:=en [(51,W3),(109,Ws),(110,Wt),(279,afN),(280,afO)] []
def ata:Fn [.R, .I, .S, .S, .S] As:=λa b c d e=>[aV [.sh 94 a],aV [.n b, .s c, .s d, .s e]]
def ayu:Fn [.R, .B] dj:=λa b=>⟨[aV [.ow 94 ai a],aB b],[]⟩
def afH:=dJ ata ayu C5.c C5.v
theorem anW:bX Tryz.prog T 269 afH:=fr (E:=auJ) (aD aaC (aD adA (aD adB (aD an2 (aD an3 aW))))) Tryz.func269 C5.b C5.vo

def akw:=en [(269,afH)] [(3,[1,4,5,6,7])]
def asO:Fn [.R, .R] As:=λa b=>[aV [.sh 94 a],aH 218 b]
def ax8:Fn [.R, .I] dj:=λa b=>⟨[aV [.ow 94 ai a],aI b],[]⟩
def HB:Fn [.R, .I, .I, .R] Tb:=λa b c d=>[cH 2 218 a,cP 8 0,cI 10 b,cP 12 1,cI 14 c,oB 1 [.nl],oB 3 [.own 2],oR 5 94 d]
def Jz:Fn [.R, .I, .I, .R] Tb:=λa b c d=>[cH 2 218 a,cP 8 0,cI 10 b,cP 12 1,cI 14 c,oB 1 [.own 2],oB 3 [.own 2],oR 5 94 d]
def S8(N:aC)(K:Kt R):=qh.l3 N (J Jz .ret K) (J HB (.exit 0) K)
def adi(N:aC):It R:=(lp 3 (al HB (λK=>S8 N K N) an) ln)
theorem aad(N:aC):bY akw (adi N (R:=R)) (bM Tryz.f241 3):=lq 3 HB (S8 N) λK g=>qh.r3 N g (J Jz .ret K) (J HB (.exit 0) K)
def WV:=dJ asO ax8 qh.c qh.v
theorem ad1:bX Tryz.prog T 241 WV:=fq (E:=akw) (aD anW aW) Tryz.func241 (it:=λN=>adi N) (λN=>(bh (aad N) bw)) qh.b qh.vo

def at6:=en [] []
def ar5:Fn [.B] As:=λa=>[aB a]
def axp:Fn [.I] dj:=λa=>⟨[aI a],[]⟩
def WI:=dJ ar5 axp (ct _) BU.v
theorem adP:bX Tryz.prog T 192 WI:=ft (E:=at6) aW Tryz.func192 BU.b λ(a0,_)=>BU.dP _ a0

def at2:=XQ T md [(239,afp),(240,afq),(241,WV),(192,WI)] [] [] [(0,1,.own 51),(0,2,.own 9),(0,3,.own 9),(0,4,.own 26),(0,6,.own 75),(0,7,.own 72),(0,9,.own 94),(0,10,.own 3),(0,11,.own 51)]
def ar0:Fn [.I, .R, .R, .R, .R, .I, .R, .R, .I, .R, .R, .R, .I, .I, .S, .I, .R] As:=λa b c d e f g h i j k l m o p q r=>[.pt [.n a, .ow 51 ai b, .ow 9 ai c, .ow 9 ai d, .ow 26 ai e, .n f, .ow 75 ai g, .ow 72 ai h, .n i, .ow 94 ai j, .ow 3 ai k, .ow 51 ai l],aV [.n m, .n o, .s p, .n q, .sh 3 r]]
def axk:Fn [.I, .I, .R, .R, .R, .R, .I, .R, .R, .I, .R, .R, .R] dj:=λa b c d e f g h i j k l m=>⟨[aI a],[[.n b, .ow 51 ai c, .ow 9 ai d, .ow 9 ai e, .ow 26 ai f, .n g, .ow 75 ai h, .ow 72 ai i, .n j, .ow 94 ai k, .ow 3 ai l, .ow 51 ai m]]⟩
def aeX:=dJ ar0 axk ES.c ES.v
theorem am_:bX Tryz.prog T 187 aeX:=fr (E:=at2) (aD anE (aD anF (aD ad1 (aD adP aW)))) Tryz.func187 ES.b ES.vo

def at4:=en [(117,BA),(236,PG),(238,PH)] []
def ar1:Fn [.I, .R, .R, .R, .R, .I, .R, .R, .I, .I] As:=λa b c d e f g h i j=>[aV [.n a, .sh 51 b, .sh 9 c, .sh 9 d, .sh 26 e, .n f, .sh 75 g, .sh 72 h, .n i],aI j]
def axl:Fn [.I, .R, .R, .R, .R, .I, .R, .R, .I, .B] dj:=λa b c d e f g h i j=>⟨[aV [.n a, .ow 51 ai b, .ow 9 ai c, .ow 9 ai d, .ow 26 ai e, .n f, .ow 75 ai g, .ow 72 ai h, .n i],aB j],[]⟩
def aeY:=dJ ar1 axl ET.c ET.v
theorem ana:bX Tryz.prog T 188 aeY:=fr (E:=at4) (aD DN (aD VE (aD VF aW))) Tryz.func188 ET.b ET.vo

def at5:=en [(117,BA)] []
def ar2:Fn [.I, .R, .R, .R, .R, .I, .R, .R, .I, .I] As:=λa b c d e f g h i j=>[aV [.n a, .sh 51 b, .sh 9 c, .sh 9 d, .sh 26 e, .n f, .sh 75 g, .sh 72 h, .n i],aI j]
def axm:Fn [.I, .R, .R, .R, .R, .I, .R, .R, .I] dj:=λa b c d e f g h i=>⟨[aV [.n a, .ow 51 ai b, .ow 9 ai c, .ow 9 ai d, .ow 26 ai e, .n f, .ow 75 ai g, .ow 72 ai h, .n i]],[]⟩
def aeZ:=dJ ar2 axm sF.c sF.v
theorem anb:bX Tryz.prog T 189 aeZ:=fr (E:=at5) (aD DN aW) Tryz.func189 sF.b sF.vo

def akj:=en [(117,BA)] [(4,[1,2,4,5,6])]
def ar3:Fn [.I, .R, .R, .R, .R, .I, .R, .R, .I, .I] As:=λa b c d e f g h i j=>[aV [.n a, .sh 51 b, .sh 9 c, .sh 9 d, .sh 26 e, .n f, .sh 75 g, .sh 72 h, .n i],aI j]
def axn:Fn [.I, .R, .R, .R, .R, .I, .R, .R, .I] dj:=λa b c d e f g h i=>⟨[aV [.n a, .ow 51 ai b, .ow 9 ai c, .ow 9 ai d, .ow 26 ai e, .n f, .ow 75 ai g, .ow 72 ai h, .n i]],[]⟩
def Hm:Fn [.I, .I, .I, .R, .R, .R, .R, .I, .R, .R, .I, .I, .I, .I, .I, .I, .I, .R, .R, .R, .R, .R, .R] Tb:=λa b c d e f g h i j k l m o p q r s t u v w x=>[cI 2 a,cP 4 0,cP 8 1,cP 10 2,cI 12 b,oB 1 [.n c, .sh 51 d, .sh 9 e, .sh 9 f, .sh 26 g, .n h, .sh 75 i, .sh 72 j, .n k],oB 3 [.n l, .nl, .nl, .nl, .nl, .n m, .nl, .nl, .n o],oB 5 [.n p, .own 3, .own 4, .own 5, .own 6, .n q, .own 7, .own 8, .n r],oR 7 51 s,oR 9 9 t,oR 11 9 u,oR 13 26 v,oR 15 75 w,oR 17 72 x]
def SF(N:aC)(K:Kt R):=uZ.l4 N (J Hm (.exit 0) K)
def ac4(N:aC):It R:=(lp 4 (al Hm (λK=>SF N K N) an) ln)
theorem ZP(N:aC):bY akj (ac4 N (R:=R)) (bM Tryz.f190 4):=lq 4 Hm (SF N) λK g=>uZ.r4 N g (J Hm (.exit 0) K)
def ae0:=dJ ar3 axn uZ.c uZ.v
theorem anc:bX Tryz.prog T 190 ae0:=fq (E:=akj) (aD DN aW) Tryz.func190 (it:=λN=>ac4 N) (λN=>(bh (ZP N) bw)) uZ.b uZ.vo

def X4:=en [(51,W3)] [(5,[1,2,4,6,7])]
def asP:Fn [.R, .R] As:=λa b=>[aV [.sh 94 a],aH 3 b]
def ax9:Fn [.R, .B] dj:=λa b=>⟨[aV [.ow 94 ai a],aB b],[]⟩
def ry:Fn [.R, .I, .R] Tb:=λa b c=>[cH 2 3 a,cP 4 0,cP 8 1,cP 12 2,cI 14 b,oB 1 [.sh 94 c],oB 3 [.nl],oB 5 [.nl]]
def oz:Fn [.R, .I, .R, .R] Tb:=λa b c d=>[cH 2 3 a,cP 4 0,cP 8 1,cP 12 2,cI 14 b,oB 1 [.sh 94 c],oB 3 [.nl],oB 5 [.own 3],oR 7 94 d]
def S9(N:aC)(K:Kt R):=xA.l5 N (J ry (.exit 0) K) (J oz (.exit 0) K)
def NN(N:aC)(K:Kt R):=xA.l5a N (J ry (.exit 0) K) (J oz (.exit 0) K)
def OY(N:aC):It R:=(lp 5 (al ry (λK=>S9 N K N) (al oz (λK=>NN N K N) an)) ln)
theorem PS(N:aC)(K:Kt R):Wd X4 (OY N) (bM Tryz.f242 5) 5 K oz (NN N K):=lw (λg=>xA.r5a N (cmp _ ry (g∘fN)) (cmp _ oz (g∘fN)) (J ry (.exit 0) K) (J oz (.exit 0) K)) λm i=>by simp only[dN,wf i];rfl
theorem aiU(N:aC)(K:Kt R):Wd X4 (OY N) (bM Tryz.f242 5) 5 K ry (S9 N K):=lw (λg=>xA.r5 N (cmp _ ry (g∘fN)) (cmp _ oz (g∘fN)) (J ry (.exit 0) K) (J oz (.exit 0) K)) λm i=>by simp only[dN,wf i,wf (PS N K m)];rfl
theorem aae(N:aC):bY X4 (OY N (R:=R)) (bM Tryz.f242 5):=lm 5 (ga ry (aiU N) (ga oz (PS N) oG))
def afr:=dJ asP ax9 xA.c xA.v
theorem anG:bX Tryz.prog T 242 afr:=fq (E:=X4) (aD aaC aW) Tryz.func242 (it:=λN=>OY N) (λN=>(bh (aae N) bw)) xA.b xA.vo

def E52:=en [(110,Wt)] []
def A52:Fn [.R, .S] As:=λa b=>[aV [.sh 94 a],aS b]
def k52:Fn [.S, .B] dj:=λa b=>⟨[aS a,aB b],[]⟩
def aiE:=dJ A52 k52 v8.c v8.v
theorem an7:bX Tryz.prog T 52 aiE:=fr (E:=E52) (aD adB aW) Tryz.func52 v8.b v8.vo

def ajU:=en [(50,tV),(181,Py)] [(6,[0,1,4,5,6,7,8,9])]
def aqU:Fn [.S, .I] As:=λa b=>[aS a,aI b]
def awi:Fn [.I, .I, .B] dj:=λa b c=>⟨[aI a,aI b,aB c],[]⟩
def zU:Fn [.S, .I, .I, .I, .B, .I, .I, .I] Tb:=λa b c d e f g h=>[cA 0 (.s a),cI 2 b,cI 8 c,cI 10 d,cA 12 (.b e),cI 14 f,cI 16 g,cI 18 h]
def R5(N:aC)(K:Kt R):=fQ.l6 N (J zU .ret K) (J zU (.exit 0) K)
def acE(N:aC):It R:=(lp 6 (al zU (λK=>R5 N K N) an) ln)
theorem Zj(N:aC):bY ajU (acE N (R:=R)) (bM Tryz.f111 6):=lq 6 zU (R5 N) λK g=>fQ.r6 N g (J zU .ret K) (J zU (.exit 0) K)
def Po:=dJ aqU awi (ct _) fQ.v
theorem Vk:bX Tryz.prog T 111 Po:=fh (E:=ajU) (aD vg (aD Vw aW)) Tryz.func111 (it:=λN=>acE N) (λN=>(bh (Zj N) bw)) fQ.b λx f h=>fQ.dP _ x.1 x.2.1 f.1.1

def E53:=en [(111,Po),(112,Pp)] [(5,[0,2,3,4,5])]
def A53:Fn [.S] As:=λa=>[aS a]
def k53:Fn [.R, .I] dj:=λa b=>⟨[aO 9 a,aI b],[]⟩
def N5:Fn [.S, .I, .I, .R] Tb:=λa b c d=>[cA 0 (.s a),cA 4 .nl,cI 6 b,cA 8 (.own 0),cI 10 c,oR 1 9 d]
def Oe:Fn [.S, .I, .I, .R] Tb:=λa b c d=>[cA 0 (.s a),cA 4 (.own 0),cI 6 b,cA 8 (.own 0),cI 10 c,oR 1 9 d]
def abP(N:aC)(K:Kt R):=Jb.l5 N (J Oe .ret K) (J N5 (.exit 0) K)
def alW(N:aC):It R:=(lp 5 (al N5 (λK=>abP N K N) an) ln)
theorem ahZ(N:aC):bY E53 (alW N (R:=R)) (bM Tryz.f53 5):=lq 5 N5 (abP N) λK g=>Jb.r5 N g (J Oe .ret K) (J N5 (.exit 0) K)
def aoU:=dJ A53 k53 Jb.c Jb.v
theorem ay7:bX Tryz.prog T 53 aoU:=fq (E:=E53) (aD Vk (aD Vl aW)) Tryz.func53 (it:=λN=>alW N) (λN=>(bh (ahZ N) bw)) Jb.b Jb.vo

def atr:=en [(111,Po)] []
def aqW:Fn [.S, .I] As:=λa b=>[aS a,aI b]
def awk:Fn [.S, .I, .B] dj:=λa b c=>⟨[aS a,aI b,aB c],[]⟩
def aek:=dJ aqW awk (ct _) qf.v
theorem amx:bX Tryz.prog T 113 aek:=fh (E:=atr) (aD Vk aW) Tryz.func113 (it:=λ_=>ln) (λ_=>bw) (λ_=>qf.b) λx f h=>⟨0,qf.dP _ x.1 x.2.1 f.1.1⟩

def E54:=en [(113,aek),(111,Po),(114,Pq)] []
def A54:Fn [.S] As:=λa=>[aS a]
def k54:Fn [.S, .I, .I, .S, .B] dj:=λa b c d e=>⟨[aV [.s a, .n b, .n c, .s d],aB e],[]⟩
def aoV:=dJ A54 k54 (ct _) rG.v
theorem ay8:bX Tryz.prog T 54 aoV:=fh (E:=E54) (aD amx (aD Vk (aD Vm aW))) Tryz.func54 (it:=λ_=>ln) (λ_=>bw) (λ_=>rG.b) λx f h=>⟨0,rG.dP _ x.1 f.1.1⟩

def E14:=en [(51,W3),(52,aiE),(53,aoU),(54,aoV),(55,aiF)] [(7,[3,6,8])]
def A14:Fn [.R] As:=λa=>[aV [.sh 94 a]]
def k14:Fn [.R] dj:=λa=>⟨[aO 51 a],[]⟩
def NZ:Fn [.I, .R, .R] Tb:=λa b c=>[cA 6 (.own 0),cA 12 (.own 1),cI 16 a,oR 1 51 b,oR 3 9 c]
def abD(N:aC)(K:Kt R):=Ja.l7 N (J NZ (.exit 0) K)
def alN(N:aC):It R:=(lp 7 (al NZ (λK=>abD N K N) an) ln)
theorem ahN(N:aC):bY E14 (alN N (R:=R)) (bM Tryz.f14 7):=lq 7 NZ (abD N) λK g=>Ja.r7 N g (J NZ (.exit 0) K)
def aoF:=dJ A14 k14 Ja.c Ja.v
theorem ayR:bX Tryz.prog T 14 aoF:=fq (E:=E14) (aD aaC (aD an7 (aD ay7 (aD ay8 (aD an8 aW))))) Tryz.func14 (it:=λN=>alN N) (λN=>(bh (ahN N) bw)) Ja.b Ja.vo

def akx:=en [(51,W3),(52,aiE),(114,Pq),(112,Pp)] [(9,[1,4,5,6,9,10])]
def asQ:Fn [.R, .R] As:=λa b=>[aV [.sh 94 a],aH 51 b]
def ax_:Fn [.R, .B] dj:=λa b=>⟨[aO 218 a,aB b],[]⟩
def HC:Fn [.R, .B, .S, .I, .R] Tb:=λa b c d e=>[cH 2 51 a,cA 8 .nl,cA 10 (.b b),cA 12 (.own 0),cA 18 (.s c),cI 20 d,oR 1 218 e]
def JA:Fn [.R, .B, .S, .I, .R, .R] Tb:=λa b c d e f=>[cH 2 51 a,cA 8 (.own 0),cA 10 (.b b),cA 12 (.own 1),cA 18 (.s c),cI 20 d,oR 1 218 e,oR 3 218 f]
def S_(N:aC)(K:Kt R):=jG.l9 N (J JA .ret K) (J HC (.exit 0) K)
def adk(N:aC):It R:=(lp 9 (al HC (λK=>S_ N K N) an) ln)
theorem aaf(N:aC):bY akx (adk N (R:=R)) (bM Tryz.f243 9):=lq 9 HC (S_ N) λK g=>jG.r9 N g (J JA .ret K) (J HC (.exit 0) K)
def afs:=dJ asQ ax_ jG.c jG.v
theorem anH:bX Tryz.prog T 243 afs:=fq (E:=akx) (aD aaC (aD an7 (aD Vm (aD Vl aW)))) Tryz.func243 (it:=λN=>adk N) (λN=>(bh (aaf N) bw)) jG.b jG.vo

def E33:=en [(57,aiG),(49,W2),(13,aa4),(88,aiM)] [(4,[0,1,4,5,6])]
def A33:Fn [.I, .R] As:=λa b=>[aI a,aH 51 b]
def k33:Fn [.I, .R, .R, .R, .R, .I, .R, .R, .I] dj:=λa b c d e f g h i=>⟨[aV [.n a, .ow 51 ai b, .ow 9 ai c, .ow 9 ai d, .ow 26 ai e, .n f, .ow 75 ai g, .ow 72 ai h, .n i]],[]⟩
def N4:Fn [.I, .R, .I, .I, .I, .I, .I, .I, .I, .R, .R, .R, .R, .R, .R] Tb:=λa b c d e f g h i j k l m o p=>[cI 0 a,cH 2 51 b,cP 8 0,cP 10 1,cI 12 c,oB 1 [.n d, .nl, .nl, .nl, .nl, .n e, .nl, .nl, .n f],oB 3 [.n g, .own 2, .own 3, .own 4, .own 5, .n h, .own 6, .own 7, .n i],oR 5 51 j,oR 7 9 k,oR 9 9 l,oR 11 26 m,oR 13 75 o,oR 15 72 p]
def abK(N:aC)(K:Kt R):=Bl.l4 N (J N4 (.exit 0) K)
def alT(N:aC):It R:=(lp 4 (al N4 (λK=>abK N K N) an) ln)
theorem ahU(N:aC):bY E33 (alT N (R:=R)) (bM Tryz.f33 4):=lq 4 N4 (abK N) λK g=>Bl.r4 N g (J N4 (.exit 0) K)
def aoQ:=dJ A33 k33 Bl.c Bl.v
theorem ay4:bX Tryz.prog T 33 aoQ:=fq (E:=E33) (aD an9 (aD aaB (aD aie (aD aoe aW)))) Tryz.func33 (it:=λN=>alT N) (λN=>(bh (ahU N) bw)) Bl.b Bl.vo

def X1:=XQ T md [(242,afr),(14,aoF),(13,aa4),(243,afs),(241,WV),(33,aoQ)] [(7,[0,6,7,8])] [] [(0,1,.own 51),(0,2,.own 9),(0,3,.own 9),(0,4,.own 26),(0,6,.own 75),(0,7,.own 72),(0,9,.own 94),(0,10,.own 3),(0,11,.own 51)]
def ar4:Fn [.I, .R, .R, .R, .R, .I, .R, .R, .I, .R, .R, .R, .I, .I, .S, .I, .R] As:=λa b c d e f g h i j k l m o p q r=>[.pt [.n a, .ow 51 ai b, .ow 9 ai c, .ow 9 ai d, .ow 26 ai e, .n f, .ow 75 ai g, .ow 72 ai h, .n i, .ow 94 ai j, .ow 3 ai k, .ow 51 ai l],aV [.n m, .n o, .s p, .n q, .sh 3 r]]
def axo:Fn [.I, .R, .R, .R, .R, .I, .R, .R, .I, .R, .R, .R] dj:=λa b c d e f g h i j k l=>⟨[],[[.n a, .ow 51 ai b, .ow 9 ai c, .ow 9 ai d, .ow 26 ai e, .n f, .ow 75 ai g, .ow 72 ai h, .n i, .ow 94 ai j, .ow 3 ai k, .ow 51 ai l]]⟩
def rq:Fn [.I, .I, .I, .I, .R, .R, .R, .R, .R, .R, .R, .R, .R, .R, .R] Tb:=λa b c d e f g h i j k l m o p=>[cP 0 900000900,cA 12 (.own 1),cA 14 (.own 2),cI 16 a,oB 1800001801 [.n b, .own 900000001, .own 900000002, .own 900000003, .own 900000004, .n c, .own 900000006, .own 900000007, .n d, .own 9, .own 900000010, .own 900000011],oR 3 51 e,oR 5 51 f,oR 1800000003 51 g,oR 1800000005 9 h,oR 1800000007 9 i,oR 1800000009 26 j,oR 1800000013 75 k,oR 1800000015 72 l,oR 19 94 m,oR 1800000021 3 o,oR 1800000023 51 p]
def ox:Fn [.I, .I, .I, .I, .R, .R, .R, .R, .R, .R, .R, .R, .R, .R, .R] Tb:=λa b c d e f g h i j k l m o p=>[cP 0 900000900,cA 12 (.own 1),cA 14 (.own 2),cI 16 a,oB 1800001801 [.n b, .own 900000001, .own 900000002, .own 900000003, .own 900000004, .n c, .own 900000006, .own 900000007, .n d, .own 900000009, .own 900000010, .own 900000011],oR 3 51 e,oR 5 51 f,oR 1800000003 51 g,oR 1800000005 9 h,oR 1800000007 9 i,oR 1800000009 26 j,oR 1800000013 75 k,oR 1800000015 72 l,oR 1800000019 94 m,oR 1800000021 3 o,oR 1800000023 51 p]
def SG(N:aC)(K:Kt R):=w7.l7 N (J rq (.exit 0) K) (J ox (.exit 0) K)
def NI(N:aC)(K:Kt R):=w7.l7a N (J rq (.exit 0) K) (J ox (.exit 0) K)
def OU(N:aC):It R:=(lp 7 (al rq (λK=>SG N K N) (al ox (λK=>NI N K N) an)) ln)
theorem PQ(N:aC)(K:Kt R):Wd X1 (OU N) (bM Tryz.f191 7) 7 K ox (NI N K):=lw (λg=>w7.r7a N (cmp _ rq (g∘fN)) (cmp _ ox (g∘fN)) (J rq (.exit 0) K) (J ox (.exit 0) K)) λm i=>by simp only[dN,wf i];rfl
theorem aiS(N:aC)(K:Kt R):Wd X1 (OU N) (bM Tryz.f191 7) 7 K rq (SG N K):=lw (λg=>w7.r7 N (cmp _ rq (g∘fN)) (cmp _ ox (g∘fN)) (J rq (.exit 0) K) (J ox (.exit 0) K)) λm i=>by simp only[dN,wf i,wf (PQ N K m)];rfl
theorem ZQ(N:aC):bY X1 (OU N (R:=R)) (bM Tryz.f191 7):=lm 7 (ga rq (aiS N) (ga ox (PQ N) oG))
def ae1:=dJ ar4 axo w7.c w7.v
theorem ane:bX Tryz.prog T 191 ae1:=fq (E:=X1) (aD anG (aD ayR (aD aie (aD anH (aD ad1 (aD ay4 aW)))))) Tryz.func191 (it:=λN=>OU N) (λN=>(bh (ZQ N) bw)) w7.b w7.vo

def atu:=XQ T md [(185,aeV),(186,aeW),(187,aeX),(188,aeY),(189,aeZ),(190,ae0),(191,ae1),(192,WI)] [] [] [(0,1,.own 51),(0,2,.own 9),(0,3,.own 9),(0,4,.own 26),(0,6,.own 75),(0,7,.own 72),(0,9,.own 94),(0,10,.own 3),(0,11,.own 51)]
def aqZ:Fn [.I, .R, .R, .R, .R, .I, .R, .R, .I, .R, .R, .R, .I, .I, .S, .I, .R] As:=λa b c d e f g h i j k l m o p q r=>[.pt [.n a, .ow 51 ai b, .ow 9 ai c, .ow 9 ai d, .ow 26 ai e, .n f, .ow 75 ai g, .ow 72 ai h, .n i, .ow 94 ai j, .ow 3 ai k, .ow 51 ai l],aV [.n m, .n o, .s p, .n q, .sh 3 r]]
def awn:Fn [.I, .I, .R, .R, .R, .R, .I, .R, .R, .I, .R, .R, .R] dj:=λa b c d e f g h i j k l m=>⟨[aI a],[[.n b, .ow 51 ai c, .ow 9 ai d, .ow 9 ai e, .ow 26 ai f, .n g, .ow 75 ai h, .ow 72 ai i, .n j, .ow 94 ai k, .ow 3 ai l, .ow 51 ai m]]⟩
def aem:=dJ aqZ awn EM.c EM.v
theorem amz:bX Tryz.prog T 116 aem:=fr (E:=atu) (aD am8 (aD am9 (aD am_ (aD ana (aD anb (aD anc (aD ane (aD adP aW)))))))) Tryz.func116 EM.b EM.vo

def E58:=XQ T md [(116,aem)] [] [] [(0,1,.own 51),(0,2,.own 9),(0,3,.own 9),(0,4,.own 26),(0,6,.own 75),(0,7,.own 72),(0,9,.own 94),(0,10,.own 3),(0,11,.own 51)]
def A58:Fn [.I, .R, .R, .R, .R, .I, .R, .R, .I, .R, .R, .R, .I, .I, .S, .I, .R] As:=λa b c d e f g h i j k l m o p q r=>[.pt [.n a, .ow 51 ai b, .ow 9 ai c, .ow 9 ai d, .ow 26 ai e, .n f, .ow 75 ai g, .ow 72 ai h, .n i, .ow 94 ai j, .ow 3 ai k, .ow 51 ai l],aV [.n m, .n o, .s p, .n q, .sh 3 r]]
def k58:Fn [.I, .R, .R, .R, .R, .I, .R, .R, .I, .R, .R, .R] dj:=λa b c d e f g h i j k l=>⟨[],[[.n a, .ow 51 ai b, .ow 9 ai c, .ow 9 ai d, .ow 26 ai e, .n f, .ow 75 ai g, .ow 72 ai h, .n i, .ow 94 ai j, .ow 3 ai k, .ow 51 ai l]]⟩
def aoX:=dJ A58 k58 Tz.c Tz.v
theorem ay_:bX Tryz.prog T 58 aoX:=fr (E:=E58) (aD amz aW) Tryz.func58 Tz.b Tz.vo

def E59:=XQ T md [(117,BA)] [] [] [(0,1,.own 51),(0,2,.own 9),(0,3,.own 9),(0,4,.own 26),(0,6,.own 75),(0,7,.own 72),(0,9,.own 94),(0,10,.own 3),(0,11,.own 51)]
def A59:Fn [.I, .R, .R, .R, .R, .I, .R, .R, .I, .R, .R, .R] As:=λa b c d e f g h i j k l=>[aV [.n a, .sh 51 b, .sh 9 c, .sh 9 d, .sh 26 e, .n f, .sh 75 g, .sh 72 h, .n i, .sh 94 j, .sh 3 k, .sh 51 l]]
def k59:Fn [.I, .R, .R, .R, .R, .I, .R, .R, .I, .R, .R, .R] dj:=λa b c d e f g h i j k l=>⟨[aV [.n a, .ow 51 ai b, .ow 9 ai c, .ow 9 ai d, .ow 26 ai e, .n f, .ow 75 ai g, .ow 72 ai h, .n i, .ow 94 ai j, .ow 3 ai k, .ow 51 ai l]],[]⟩
def aoY:=dJ A59 k59 Xz.c Xz.v
theorem aza:bX Tryz.prog T 59 aoY:=fr (E:=E59) (aD DN aW) Tryz.func59 Xz.b Xz.vo

def E16:=en [(56,aoW),(57,aiG),(58,aoX),(59,aoY)] [(3,[0,2,4,5]),(10,[0,2,6,7,1000000006009094,1000000006010003,1000000006011051])]
def A16:Fn [.R] As:=λa=>[aH 29 a]
def k16:Fn [.I, .R, .R, .R, .R, .I, .R, .R, .I, .R, .R, .R, .B] dj:=λa b c d e f g h i j k l m=>⟨[aV [.n a, .ow 51 ai b, .ow 9 ai c, .ow 9 ai d, .ow 26 ai e, .n f, .ow 75 ai g, .ow 72 ai h, .n i, .ow 94 ai j, .ow 3 ai k, .ow 51 ai l],aB m],[]⟩
def N0:Fn [.R, .B, .I, .I, .I, .I] Tb:=λa b c d e f=>[cH 0 29 a,cP 4 0,cA 8 (.b b),cI 10 c,oB 1 [.n d, .nl, .nl, .nl, .nl, .n e, .nl, .nl, .n f, .nl, .nl, .nl]]
def Hf:Fn [.R, .I, .I, .I, .I, .I, .I, .I, .R, .R, .R, .R, .R, .R, .R, .R, .R] Tb:=λa b c d e f g h i j k l m o p q r=>[cH 0 29 a,cP 4 0,cP 12 1,cI 14 b,oB 1 [.n c, .nl, .nl, .nl, .nl, .n d, .nl, .nl, .n e, .nl, .nl, .nl],oB 3 [.n f, .own 2, .own 3, .own 4, .own 5, .n g, .own 6, .own 7, .n h, .own 8, .own 9, .own 10],oR 5 51 i,oR 7 9 j,oR 9 9 k,oR 11 26 l,oR 13 75 m,oR 15 72 o,oR 17 94 p,oR 19 3 q,oR 21 51 r]
def abE(N:aC)(K:Kt R):=Ob.l3 N (J N0 (.exit 0) K)
def Sv(N:aC)(K:Kt R):=Ob.l10 N (J Hf (.exit 2) K)
def ahA(N:aC):It R:=(lp 3 (al N0 (λK=>abE N K N) an) (lp 10 (al Hf (λK=>Sv N K N) an) ln))
theorem ahO(N:aC):bY E16 (ahA N (R:=R)) (bM Tryz.f16 3):=lq 3 N0 (abE N) λK g=>Ob.r3 N g (J N0 (.exit 0) K)
theorem ZF(N:aC):bY E16 (ahA N (R:=R)) (bM Tryz.f16 10):=lq 10 Hf (Sv N) λK g=>Ob.yC N g (J Hf (.exit 2) K)
def aoG:=dJ A16 k16 Ob.c Ob.v
theorem ayS:bX Tryz.prog T 16 aoG:=fq (E:=E16) (aD ay9 (aD an9 (aD ay_ (aD aza aW)))) Tryz.func16 (it:=λN=>ahA N) (λN=>(bh (ahO N) (bh (ZF N) bw))) Ob.b Ob.vo

def E82:=en [] []
def A82:Fn [.I, .I, .I] As:=λa b c=>[aI a,aI b,aI c]
def k82:Fn [.B] dj:=λa=>⟨[aB a],[]⟩
def qo:=dJ A82 k82 (ct _) lj.v
theorem qJ:bX Tryz.prog T 82 qo:=ft (E:=E82) aW Tryz.func82 lj.b λ(a0,a1,a2,_)=>lj.dP _ a0 a1 a2

def E31:=en [(82,qo)] []
def A31:Fn [.I, .I, .S, .I, .R] As:=λa b c d e=>[aV [.n a, .n b, .s c, .n d, .sh 3 e]]
def k31:Fn [.B] dj:=λa=>⟨[aB a],[]⟩
def aoO:=dJ A31 k31 (ct _) U31.v
theorem ay2:bX Tryz.prog T 31 aoO:=ft (E:=E31) (aD qJ aW) Tryz.func31 U31.b λ(a0,a1,a2,a3,a4,_)=>U31.dP _ a0 a1 a2 a3 a4

def XY:=en [] [(3,[0,1,3])]
def arA:Fn [] As:=[]
def awV:Fn [.R, .I] dj:=λa b=>⟨[aV [.ow 26 ai a, .n b]],[]⟩
def rj:Fn [.I, .I, .I] Tb:=λa b c=>[cP 0 0,cP 2 1,cI 6 a,oB 1 [.nl, .n b],oB 3 [.nl, .n c]]
def ou:Fn [.I, .I, .I, .R] Tb:=λa b c d=>[cP 0 0,cP 2 1,cI 6 a,oB 1 [.nl, .n b],oB 3 [.own 2, .n c],oR 5 26 d]
def Sq(N:aC)(K:Kt R):=HN.l3 N (J rj (.exit 0) K) (J ou (.exit 0) K)
def NA(N:aC)(K:Kt R):=HN.sK N (J rj (.exit 0) K) (J ou (.exit 0) K)
def OR(N:aC):It R:=(lp 3 (al rj (λK=>Sq N K N) (al ou (λK=>NA N K N) an)) ln)
theorem PN(N:aC)(K:Kt R):Wd XY (OR N) (bM Tryz.f159 3) 3 K ou (NA N K):=lw (λg=>HN.AY N (cmp _ rj (g∘fN)) (cmp _ ou (g∘fN)) (J rj (.exit 0) K) (J ou (.exit 0) K)) λm i=>by simp only[dN,wf i];rfl
theorem aiQ(N:aC)(K:Kt R):Wd XY (OR N) (bM Tryz.f159 3) 3 K rj (Sq N K):=lw (λg=>HN.r3 N (cmp _ rj (g∘fN)) (cmp _ ou (g∘fN)) (J rj (.exit 0) K) (J ou (.exit 0) K)) λm i=>by simp only[dN,wf i,wf (PN N K m)];rfl
theorem ZB(N:aC):bY XY (OR N (R:=R)) (bM Tryz.f159 3):=lm 3 (ga rj (aiQ N) (ga ou (PN N) oG))
def aeG:=dJ arA awV HN.c HN.v
theorem amT:bX Tryz.prog T 159 aeG:=fq (E:=XY) aW Tryz.func159 (it:=λN=>OR N) (λN=>(bh (ZB N) bw)) HN.b HN.vo

def E95:=en [(159,aeG)] []
def A95:Fn [] As:=[]
def k95:Fn [.R, .R, .R, .I] dj:=λa b c d=>⟨[aV [.ow 9 ai a, .ow 9 ai b, .ow 26 ai c, .n d]],[]⟩
def apc:=dJ A95 k95 (ct _) U95.v
theorem azp:bX Tryz.prog T 95 apc:=ft (E:=E95) (aD amT aW) Tryz.func95 U95.b λ_=>U95.dP _

def E42:=en [(95,apc)] []
def A42:Fn [] As:=[]
def k42:Fn [.I, .R, .R, .R, .R, .I, .R, .R, .I] dj:=λa b c d e f g h i=>⟨[aV [.n a, .ow 51 ai b, .ow 9 ai c, .ow 9 ai d, .ow 26 ai e, .n f, .ow 75 ai g, .ow 72 ai h, .n i]],[]⟩
def aiC:=dJ A42 k42 (ct _) U42.v
theorem an5:bX Tryz.prog T 42 aiC:=ft (E:=E42) (aD azp aW) Tryz.func42 U42.b λ_=>U42.dP _

def auk:=en [] []
def asr:Fn [.R] As:=λa=>[aH 51 a]
def axL:Fn [.R] dj:=λa=>⟨[aO 51 a],[]⟩
def WN:=dJ asr axL w9.c w9.v
theorem adU:bX Tryz.prog T 216 WN:=fr (E:=auk) aW Tryz.func216 w9.b w9.vo

def auA:=en [] []
def asZ:Fn [.R] As:=λa=>[aH 9 a]
def ayi:Fn [.R] dj:=λa=>⟨[aO 9 a],[]⟩
def WX:=dJ asZ ayi s_.c s_.v
theorem ad3:bX Tryz.prog T 255 WX:=fr (E:=auA) aW Tryz.func255 s_.b s_.vo

def auD:=en [] []
def as3:Fn [.R] As:=λa=>[aH 3 a]
def aym:Fn [.R] dj:=λa=>⟨[aO 3 a],[]⟩
def afA:=dJ as3 aym v7.c v7.v
theorem anP:bX Tryz.prog T 261 afA:=fr (E:=auD) aW Tryz.func261 v7.b v7.vo

def X3:=en [(261,afA)] [(3,[2,3,10,11,12])]
def asx:Fn [.R, .I] As:=λa b=>[aV [.sh 26 a, .n b]]
def axR:Fn [.R, .I] dj:=λa b=>⟨[aV [.ow 26 ai a, .n b]],[]⟩
def ru:Fn [.R, .I, .I, .I, .I] Tb:=λa b c d e=>[cP 4 0,cP 6 1,cH 20 26 a,cI 22 b,cI 24 c,oB 1 [.nl, .n d],oB 3 [.nl, .n e]]
def oy:Fn [.R, .I, .I, .I, .I, .R] Tb:=λa b c d e f=>[cP 4 0,cP 6 1,cH 20 26 a,cI 22 b,cI 24 c,oB 1 [.nl, .n d],oB 3 [.own 2, .n e],oR 5 26 f]
def SY(N:aC)(K:Kt R):=jj.l3 N (J ru (.exit 0) K) (J oy (.exit 0) K)
def NM(N:aC)(K:Kt R):=jj.sK N (J ru (.exit 0) K) (J oy (.exit 0) K)
def OX(N:aC):It R:=(lp 3 (al ru (λK=>SY N K N) (al oy (λK=>NM N K N) an)) ln)
theorem PR(N:aC)(K:Kt R):Wd X3 (OX N) (bM Tryz.f224 3) 3 K oy (NM N K):=lw (λg=>jj.AY N (cmp _ ru (g∘fN)) (cmp _ oy (g∘fN)) (J ru (.exit 0) K) (J oy (.exit 0) K)) λm i=>by simp only[dN,wf i];rfl
theorem aiT(N:aC)(K:Kt R):Wd X3 (OX N) (bM Tryz.f224 3) 3 K ru (SY N K):=lw (λg=>jj.r3 N (cmp _ ru (g∘fN)) (cmp _ oy (g∘fN)) (J ru (.exit 0) K) (J oy (.exit 0) K)) λm i=>by simp only[dN,wf i,wf (PR N K m)];rfl
theorem Z4(N:aC):bY X3 (OX N (R:=R)) (bM Tryz.f224 3):=lm 3 (ga ru (aiT N) (ga oy (PR N) oG))
def WS:=dJ asx axR jj.c jj.v
theorem adY:bX Tryz.prog T 224 WS:=fq (E:=X3) (aD anP aW) Tryz.func224 (it:=λN=>OX N) (λN=>(bh (Z4 N) bw)) jj.b jj.vo

def aui:=en [(255,WX),(224,WS)] []
def asn:Fn [.R, .R, .R, .I] As:=λa b c d=>[aV [.sh 9 a, .sh 9 b, .sh 26 c, .n d]]
def axH:Fn [.R, .R, .R, .I] dj:=λa b c d=>⟨[aV [.ow 9 ai a, .ow 9 ai b, .ow 26 ai c, .n d]],[]⟩
def PC:=dJ asn axH jq.c jq.v
theorem VA:bX Tryz.prog T 212 PC:=fr (E:=aui) (aD ad3 (aD adY aW)) Tryz.func212 jq.b jq.vo

def atN:=en [(216,WN),(212,PC)] []
def arB:Fn [.I, .R, .R, .R, .R, .I, .R, .R, .I] As:=λa b c d e f g h i=>[aV [.n a, .sh 51 b, .sh 9 c, .sh 9 d, .sh 26 e, .n f, .sh 75 g, .sh 72 h, .n i]]
def awW:Fn [.I, .R, .R, .R, .R, .I, .R, .R, .I] dj:=λa b c d e f g h i=>⟨[aV [.n a, .ow 51 ai b, .ow 9 ai c, .ow 9 ai d, .ow 26 ai e, .n f, .ow 75 ai g, .ow 72 ai h, .n i]],[]⟩
def Ef:=dJ arB awW iM.c iM.v
theorem Gu:bX Tryz.prog T 160 Ef:=fr (E:=atN) (aD adU (aD VA aW)) Tryz.func160 iM.b iM.vo

def atG:=en [(82,qo)] []
def ars:Fn [.S] As:=λa=>[aS a]
def awN:Fn [.B] dj:=λa=>⟨[aB a],[]⟩
def Ee:=dJ ars awN (ct _) Ay.v
theorem Gt:bX Tryz.prog T 148 Ee:=ft (E:=atG) (aD qJ aW) Tryz.func148 Ay.b λ(a0,_)=>Ay.dP _ a0

def E86:=en [(82,qo)] []
def A86:Fn [.I] As:=λa=>[aI a]
def k86:Fn [.B] dj:=λa=>⟨[aB a],[]⟩
def aa9:=dJ A86 k86 (ct _) TB.v
theorem aij:bX Tryz.prog T 86 aa9:=ft (E:=E86) (aD qJ aW) Tryz.func86 TB.b λ(a0,_)=>TB.dP _ a0

def aty:=en [(148,Ee),(86,aa9),(82,qo)] []
def aq6:Fn [.S, .I, .I, .S] As:=λa b c d=>[aV [.s a, .n b, .n c, .s d]]
def awu:Fn [.B] dj:=λa=>⟨[aB a],[]⟩
def KY:=dJ aq6 awu (ct _) wX.v
theorem Pb:bX Tryz.prog T 125 KY:=ft (E:=aty) (aD Gt (aD aij (aD qJ aW))) Tryz.func125 wX.b λ(a0,a1,a2,a3,_)=>wX.dP _ a0 a1 a2 a3

def auz:=en [] []
def asY:Fn [.I] As:=λa=>[.v ak [.nl],aI a]
def ayh:Fn [.R] dj:=λa=>⟨[aO 9 a],[]⟩
def afy:=dJ asY ayh EX.c EX.v
theorem anN:bX Tryz.prog T 254 afy:=fr (E:=auz) aW Tryz.func254 EX.b EX.vo

def af8:=en [(254,afy)] [(3,[0,3,9,10,11]),(11,[6,25,26,27])]
def asm:Fn [.R] As:=λa=>[aH 31 a]
def axG:Fn [.R] dj:=λa=>⟨[aO 9 a],[]⟩
def Hp:Fn [.R, .I, .R, .I, .I] Tb:=λa b c d e=>[cH 0 31 a,cI 6 b,cH 18 31 c,cI 20 d,cI 22 e]
def Cf:Fn [.R, .I, .I, .R] Tb:=λa b c d=>[cA 12 (.own 0),cH 50 31 a,cI 52 b,cI 54 c,oR 1 9 d]
def SP(N:aC)(K:Kt R):=w8.l3 N (J Hp (.exit 0) K)
def NJ(N:aC)(K:Kt R):=w8.QP N (J Cf (.exit 2) K)
def UH(N:aC):It R:=(lp 3 (al Hp (λK=>SP N K N) an) (lp 11 (al Cf (λK=>NJ N K N) an) ln))
theorem ZX(N:aC):bY af8 (UH N (R:=R)) (bM Tryz.f211 3):=lq 3 Hp (SP N) λK g=>w8.r3 N g (J Hp (.exit 0) K)
theorem U8(N:aC):bY af8 (UH N (R:=R)) (bM Tryz.f211 11):=lq 11 Cf (NJ N) λK g=>w8.tO N g (J Cf (.exit 2) K)
def afc:=dJ asm axG w8.c w8.v
theorem anq:bX Tryz.prog T 211 afc:=fq (E:=af8) (aD anN aW) Tryz.func211 (it:=λN=>UH N) (λN=>(bh (ZX N) (bh (U8 N) bw))) w8.b w8.vo

def atF:=en [(211,afc)] []
def arq:Fn [.R, .R, .R, .I] As:=λa b c d=>[aV [.sh 9 a, .sh 9 b, .sh 26 c, .n d]]
def awM:Fn [.R] dj:=λa=>⟨[aO 9 a],[]⟩
def Pt:=dJ arq awM qw.c qw.v
theorem Vo:bX Tryz.prog T 147 Pt:=fr (E:=atF) (aD anq aW) Tryz.func147 qw.b qw.vo

def akB:=en [] [(2,[0,1,4,7,8])]
def asX:Fn [.R, .S] As:=λa b=>[aH 9 a,aS b]
def ayg:Fn [.I] dj:=λa=>⟨[aI a],[]⟩
def Aq:Fn [.R, .S, .I, .I, .I] Tb:=λa b c d e=>[cH 0 9 a,cA 2 (.s b),cI 8 c,cI 14 d,cI 16 e]
def Tf(N:aC)(K:Kt R):=BX.l2 N (J Aq .ret K) (J Aq (.exit 0) K)
def ado(N:aC):It R:=(lp 2 (al Aq (λK=>Tf N K N) an) ln)
theorem aak(N:aC):bY akB (ado N (R:=R)) (bM Tryz.f253 2):=lq 2 Aq (Tf N) λK g=>BX.r2 N g (J Aq .ret K) (J Aq (.exit 0) K)
def afx:=dJ asX ayg BX.c BX.v
theorem anM:bX Tryz.prog T 253 afx:=fq (E:=akB) aW Tryz.func253 (it:=λN=>ado N) (λN=>(bh (aak N) bw)) BX.b BX.vo

def auh:=en [(253,afx)] []
def asj:Fn [.R, .S] As:=λa b=>[aH 9 a,aS b]
def axE:Fn [.B] dj:=λa=>⟨[aB a],[]⟩
def PA:=dJ asj axE sG.c sG.v
theorem Vy:bX Tryz.prog T 209 PA:=fr (E:=auh) (aD anM aW) Tryz.func209 sG.b sG.vo

def atE:=en [(147,Pt),(209,PA)] []
def aro:Fn [.R, .R, .R, .I, .S] As:=λa b c d e=>[aV [.sh 9 a, .sh 9 b, .sh 26 c, .n d],aS e]
def awK:Fn [.B] dj:=λa=>⟨[aB a],[]⟩
def Ps:=dJ aro awK sE.c sE.v
theorem Vn:bX Tryz.prog T 145 Ps:=fr (E:=atE) (aD Vo (aD Vy aW)) Tryz.func145 sE.b sE.vo

def af7:=en [(82,qo)] [(2,[1,2,8,9,10]),(5,[1,2,4,8,9,10,14,15,16])]
def asl:Fn [.R, .I] As:=λa b=>[aV [.sh 26 a, .n b]]
def axF:Fn [.B] dj:=λa=>⟨[aB a],[]⟩
def Ag:Fn [.B, .R, .I, .I, .R, .I] Tb:=λa b c d e f=>[cP 2 0,cA 4 (.b a),cH 16 26 b,cI 18 c,cI 20 d,oB 1 [.sh 26 e, .n f]]
def Ah:Fn [.B, .R, .R, .I, .I, .R, .I, .I, .R, .I] Tb:=λa b c d e f g h i j=>[cP 2 0,cA 4 (.b a),cH 8 3 b,cH 16 26 c,cI 18 d,cI 20 e,cH 28 3 f,cI 30 g,cI 32 h,oB 1 [.sh 26 i, .n j]]
def SM(N:aC)(K:Kt R):=pK.l2 N (J Ag .ret K) (J Ag (.exit 0) K)
def SN(N:aC)(K:Kt R):=pK.l5 N (J Ah .ret K) (J Ah (.exit 2) K)
def UG(N:aC):It R:=(lp 2 (al Ag (λK=>SM N K N) an) (lp 5 (al Ah (λK=>SN N K N) an) ln))
theorem ZV(N:aC):bY af7 (UG N (R:=R)) (bM Tryz.f210 2):=lq 2 Ag (SM N) λK g=>pK.r2 N g (J Ag .ret K) (J Ag (.exit 0) K)
theorem ZW(N:aC):bY af7 (UG N (R:=R)) (bM Tryz.f210 5):=lq 5 Ah (SN N) λK g=>pK.r5 N g (J Ah .ret K) (J Ah (.exit 2) K)
def PB:=dJ asl axF pK.c pK.v
theorem Vz:bX Tryz.prog T 210 PB:=fq (E:=af7) (aD qJ aW) Tryz.func210 (it:=λN=>UG N) (λN=>(bh (ZV N) (bh (ZW N) bw))) pK.b pK.vo

def aj8:=en [(147,Pt),(148,Ee),(209,PA),(210,PB)] [(3,[1,2,3,8,9,10])]
def arp:Fn [.R, .R, .R, .I] As:=λa b c d=>[aV [.sh 9 a, .sh 9 b, .sh 26 c, .n d]]
def awL:Fn [.B] dj:=λa=>⟨[aB a],[]⟩
def z8:Fn [.B, .I, .I, .R, .R, .R, .I, .R] Tb:=λa b c d e f g h=>[cP 2 0,cA 4 (.b a),cA 6 (.own 1),cA 16 (.own 1),cI 18 b,cI 20 c,oB 1 [.sh 9 d, .sh 9 e, .sh 26 f, .n g],oR 3 9 h]
def Sl(N:aC)(K:Kt R):=o4.l3 N (J z8 .ret K) (J z8 (.exit 0) K)
def acS(N:aC):It R:=(lp 3 (al z8 (λK=>Sl N K N) an) ln)
theorem Zy(N:aC):bY aj8 (acS N (R:=R)) (bM Tryz.f146 3):=lq 3 z8 (Sl N) λK g=>o4.r3 N g (J z8 .ret K) (J z8 (.exit 0) K)
def Ww:=dJ arp awL o4.c o4.v
theorem adE:bX Tryz.prog T 146 Ww:=fq (E:=aj8) (aD Vo (aD Gt (aD Vy (aD Vz aW)))) Tryz.func146 (it:=λN=>acS N) (λN=>(bh (Zy N) bw)) o4.b o4.vo

def E83:=en [(125,KY),(145,Ps),(146,Ww),(147,Pt)] [(2,[1,2,6,7,8])]
def A83:Fn [.I, .R, .R, .R, .R, .I, .R, .R, .I] As:=λa b c d e f g h i=>[aV [.n a, .sh 51 b, .sh 9 c, .sh 9 d, .sh 26 e, .n f, .sh 75 g, .sh 72 h, .n i]]
def k83:Fn [.B] dj:=λa=>⟨[aB a],[]⟩
def FT:Fn [.B, .R, .I, .I, .I, .R, .R, .R, .R, .I, .R, .R, .I] Tb:=λa b c d e f g h i j k l m=>[cP 2 0,cA 4 (.b a),cH 12 51 b,cI 14 c,cI 16 d,oB 1 [.n e, .sh 51 f, .sh 9 g, .sh 9 h, .sh 26 i, .n j, .sh 75 k, .sh 72 l, .n m]]
def ab0(N:aC)(K:Kt R):=RA.l2 N (J FT .ret K) (J FT (.exit 0) K)
def al5(N:aC):It R:=(lp 2 (al FT (λK=>ab0 N K N) an) ln)
theorem ah_(N:aC):bY E83 (al5 N (R:=R)) (bM Tryz.f83 2):=lq 2 FT (ab0 N) λK g=>RA.r2 N g (J FT .ret K) (J FT (.exit 0) K)
def ao9:=dJ A83 k83 RA.c RA.v
theorem azl:bX Tryz.prog T 83 ao9:=fq (E:=E83) (aD Pb (aD Vn (aD adE (aD Vo aW)))) Tryz.func83 (it:=λN=>al5 N) (λN=>(bh (ah_ N) bw)) RA.b RA.vo

def atL:=en [] []
def arz:Fn [.S, .S, .I, .I, .I, .S] As:=λa b c d e f=>[aV [.s a, .s b, .n c, .n d, .n e], .fb [.s f]]
def awU:Fn [.B] dj:=λa=>⟨[aB a],[]⟩
def aeF:=dJ arz awU (ct _) Ju.v
theorem amS:bX Tryz.prog T 157 aeF:=ft (E:=atL) aW Tryz.func157 Ju.b λ(a0,a1,a2,a3,a4,a5,_)=>Ju.dP _ a0 a1 a2 a3 a4 a5

def aj_:=en [(157,aeF)] [(2,[0,1,4,7,8])]
def ary:Fn [.R, .S] As:=λa b=>[aH 75 a, .v ak [.fn 157 [[.s b]]]]
def awT:Fn [.I] dj:=λa=>⟨[aI a],[]⟩
def z_:Fn [.R, .S, .I, .I, .I] Tb:=λa b c d e=>[cH 0 75 a,cA 2 (.fn 157 [[.s b]]),cI 8 c,cI 14 d,cI 16 e]
def Sn(N:aC)(K:Kt R):=qx.l2 N (J z_ .ret K) (J z_ (.exit 0) K)
def acU(N:aC):It R:=(lp 2 (al z_ (λK=>Sn N K N) an) ln)
theorem ZA(N:aC):bY aj_ (acU N (R:=R)) (bM Tryz.f156 2):=lq 2 z_ (Sn N) λK g=>qx.r2 N g (J z_ .ret K) (J z_ (.exit 0) K)
def aeE:=dJ ary awT qx.c qx.v
theorem amR:bX Tryz.prog T 156 aeE:=fq (E:=aj_) (aD amS aW) Tryz.func156 (it:=λN=>acU N) (λN=>(bh (ZA N) bw)) qx.b qx.vo

def E92:=en [(156,aeE)] []
def A92:Fn [.I, .R, .R, .R, .R, .I, .R, .R, .I, .S] As:=λa b c d e f g h i j=>[aV [.n a, .sh 51 b, .sh 9 c, .sh 9 d, .sh 26 e, .n f, .sh 75 g, .sh 72 h, .n i],aS j]
def k92:Fn [.I] dj:=λa=>⟨[aI a],[]⟩
def aiN:=dJ A92 k92 LN.c LN.v
theorem aof:bX Tryz.prog T 92 aiN:=fr (E:=E92) (aD amR aW) Tryz.func92 LN.b LN.vo

def E35:=en [(92,aiN)] [(2,[1,2,6,7,8])]
def A35:Fn [.I, .R, .R, .R, .R, .I, .R, .R, .I] As:=λa b c d e f g h i=>[aV [.n a, .sh 51 b, .sh 9 c, .sh 9 d, .sh 26 e, .n f, .sh 75 g, .sh 72 h, .n i]]
def k35:Fn [.B] dj:=λa=>⟨[aB a],[]⟩
def FK:Fn [.B, .R, .I, .I, .I, .R, .R, .R, .R, .I, .R, .R, .I] Tb:=λa b c d e f g h i j k l m=>[cP 2 0,cA 4 (.b a),cH 12 75 b,cI 14 c,cI 16 d,oB 1 [.n e, .sh 51 f, .sh 9 g, .sh 9 h, .sh 26 i, .n j, .sh 75 k, .sh 72 l, .n m]]
def abL(N:aC)(K:Kt R):=Oc.l2 N (J FK .ret K) (J FK (.exit 0) K)
def alU(N:aC):It R:=(lp 2 (al FK (λK=>abL N K N) an) ln)
theorem ahV(N:aC):bY E35 (alU N (R:=R)) (bM Tryz.f35 2):=lq 2 FK (abL N) λK g=>Oc.r2 N g (J FK .ret K) (J FK (.exit 0) K)
def aoR:=dJ A35 k35 Oc.c Oc.v
theorem ay5:bX Tryz.prog T 35 aoR:=fq (E:=E35) (aD aof aW) Tryz.func35 (it:=λN=>alU N) (λN=>(bh (ahV N) bw)) Oc.b Oc.vo

def E84:=en [(148,Ee),(82,qo),(35,aoR)] [(2,[1,2,6,7,8])]
def A84:Fn [.I, .R, .R, .R, .R, .I, .R, .R, .I] As:=λa b c d e f g h i=>[aV [.n a, .sh 51 b, .sh 9 c, .sh 9 d, .sh 26 e, .n f, .sh 75 g, .sh 72 h, .n i]]
def k84:Fn [.B] dj:=λa=>⟨[aB a],[]⟩
def FU:Fn [.B, .R, .I, .I, .I, .R, .R, .R, .R, .I, .R, .R, .I] Tb:=λa b c d e f g h i j k l m=>[cP 2 0,cA 4 (.b a),cH 12 75 b,cI 14 c,cI 16 d,oB 1 [.n e, .sh 51 f, .sh 9 g, .sh 9 h, .sh 26 i, .n j, .sh 75 k, .sh 72 l, .n m]]
def ab1(N:aC)(K:Kt R):=Qd.l2 N (J FU .ret K) (J FU (.exit 0) K)
def al6(N:aC):It R:=(lp 2 (al FU (λK=>ab1 N K N) an) ln)
theorem aia(N:aC):bY E84 (al6 N (R:=R)) (bM Tryz.f84 2):=lq 2 FU (ab1 N) λK g=>Qd.r2 N g (J FU .ret K) (J FU (.exit 0) K)
def ao_:=dJ A84 k84 Qd.c Qd.v
theorem azm:bX Tryz.prog T 84 ao_:=fq (E:=E84) (aD Gt (aD qJ (aD ay5 aW))) Tryz.func84 (it:=λN=>al6 N) (λN=>(bh (aia N) bw)) Qd.b Qd.vo

def E85:=en [(82,qo),(148,Ee)] [(2,[1,2,6,7,8])]
def A85:Fn [.I, .R, .R, .R, .R, .I, .R, .R, .I] As:=λa b c d e f g h i=>[aV [.n a, .sh 51 b, .sh 9 c, .sh 9 d, .sh 26 e, .n f, .sh 75 g, .sh 72 h, .n i]]
def k85:Fn [.B] dj:=λa=>⟨[aB a],[]⟩
def FV:Fn [.B, .R, .I, .I, .I, .R, .R, .R, .R, .I, .R, .R, .I] Tb:=λa b c d e f g h i j k l m=>[cP 2 0,cA 4 (.b a),cH 12 72 b,cI 14 c,cI 16 d,oB 1 [.n e, .sh 51 f, .sh 9 g, .sh 9 h, .sh 26 i, .n j, .sh 75 k, .sh 72 l, .n m]]
def ab2(N:aC)(K:Kt R):=RB.l2 N (J FV .ret K) (J FV (.exit 0) K)
def al7(N:aC):It R:=(lp 2 (al FV (λK=>ab2 N K N) an) ln)
theorem aib(N:aC):bY E85 (al7 N (R:=R)) (bM Tryz.f85 2):=lq 2 FV (ab2 N) λK g=>RB.r2 N g (J FV .ret K) (J FV (.exit 0) K)
def apa:=dJ A85 k85 RB.c RB.v
theorem azn:bX Tryz.prog T 85 apa:=fq (E:=E85) (aD qJ (aD Gt aW)) Tryz.func85 (it:=λN=>al7 N) (λN=>(bh (aib N) bw)) RB.b RB.vo

def E30:=en [(82,qo),(83,ao9),(84,ao_),(85,apa),(86,aa9)] []
def A30:Fn [.I, .R, .R, .R, .R, .I, .R, .R, .I] As:=λa b c d e f g h i=>[aV [.n a, .sh 51 b, .sh 9 c, .sh 9 d, .sh 26 e, .n f, .sh 75 g, .sh 72 h, .n i]]
def k30:Fn [.B] dj:=λa=>⟨[aB a],[]⟩
def aiB:=dJ A30 k30 Qb.c Qb.v
theorem an4:bX Tryz.prog T 30 aiB:=fr (E:=E30) (aD qJ (aD azl (aD azm (aD azn (aD aij aW))))) Tryz.func30 Qb.b Qb.vo

def atW:=en [] []
def arO:Fn [.I, .S, .I, .I, .I, .S, .I, .I] As:=λa b c d e f g h=>[aV [.n a, .s b, .n c, .n d, .n e, .s f, .n g], .fb [.n h]]
def aw9:Fn [.B] dj:=λa=>⟨[aB a],[]⟩
def aeP:=dJ arO aw9 (ct _) LA.v
theorem am2:bX Tryz.prog T 174 aeP:=ft (E:=atW) aW Tryz.func174 LA.b λ(a0,a1,a2,a3,a4,a5,a6,a7,_)=>LA.dP _ a0 a1 a2 a3 a4 a5 a6 a7

def abu:=en [(174,aeP)] [(2,[0,1,4,7,8])]
def ajL:Fn [.R, .I] As:=λa b=>[aH 72 a, .v ak [.fn 174 [[.n b]]]]
def ama:Fn [.I] dj:=λa=>⟨[aI a],[]⟩
def ui:Fn [.R, .I, .I, .I, .I] Tb:=λa b c d e=>[cH 0 72 a,cA 2 (.fn 174 [[.n b]]),cI 8 c,cI 14 d,cI 16 e]
def ND(N:aC)(K:Kt R):=qy.l2 N (J ui .ret K) (J ui (.exit 0) K)
def UD(N:aC):It R:=(lp 2 (al ui (λK=>ND N K N) an) ln)
theorem U4(N:aC):bY abu (UD N (R:=R)) (bM Tryz.f173 2):=lq 2 ui (ND N) λK g=>qy.r2 N g (J ui .ret K) (J ui (.exit 0) K)
def M9:=dJ ajL ama qy.c qy.v
theorem Vu:bX Tryz.prog T 173 M9:=fq (E:=abu) (aD am2 aW) Tryz.func173 (it:=λN=>UD N) (λN=>(bh (U4 N) bw)) qy.b qy.vo

def atX:=en [] []
def arQ:Fn [.I, .S, .I, .I, .I, .S, .I, .I] As:=λa b c d e f g h=>[aV [.n a, .s b, .n c, .n d, .n e, .s f, .n g], .fb [.n h]]
def axa:Fn [.B] dj:=λa=>⟨[aB a],[]⟩
def WE:=dJ arQ axa (ct _) BS.v
theorem adM:bX Tryz.prog T 176 WE:=ft (E:=atX) aW Tryz.func176 BS.b λ(a0,a1,a2,a3,a4,a5,a6,a7,_)=>BS.dP _ a0 a1 a2 a3 a4 a5 a6 a7

def abv:=en [(176,WE)] [(2,[0,1,4,7,8])]
def ajM:Fn [.R, .I] As:=λa b=>[aH 72 a, .v ak [.fn 176 [[.n b]]]]
def amb:Fn [.I] dj:=λa=>⟨[aI a],[]⟩
def uj:Fn [.R, .I, .I, .I, .I] Tb:=λa b c d e=>[cH 0 72 a,cA 2 (.fn 176 [[.n b]]),cI 8 c,cI 14 d,cI 16 e]
def NF(N:aC)(K:Kt R):=nb.l2 N (J uj .ret K) (J uj (.exit 0) K)
def UE(N:aC):It R:=(lp 2 (al uj (λK=>NF N K N) an) ln)
theorem U6(N:aC):bY abv (UE N (R:=R)) (bM Tryz.f173 2):=lq 2 uj (NF N) λK g=>nb.r2 N g (J uj .ret K) (J uj (.exit 0) K)
def M_:=dJ ajM amb nb.c nb.v
theorem Vv:bX Tryz.prog T 173 M_:=fq (E:=abv) (aD adM aW) Tryz.func173 (it:=λN=>UE N) (λN=>(bh (U6 N) bw)) nb.b nb.vo

def atk:=en [(173,M9),(173,M_)] []
def aqL:Fn [.I, .R, .R, .R, .R, .I, .R, .R, .I, .I] As:=λa b c d e f g h i j=>[aV [.n a, .sh 51 b, .sh 9 c, .sh 9 d, .sh 26 e, .n f, .sh 75 g, .sh 72 h, .n i],aI j]
def av9:Fn [.I] dj:=λa=>⟨[aI a],[]⟩
def Wr:=dJ aqL av9 Av.c Av.v
theorem adz:bX Tryz.prog T 101 Wr:=fr (E:=atk) (aD Vu (aD Vv aW)) Tryz.func101 Av.b Av.vo

def atO:=en [] []
def arC:Fn [.S, .I, .I, .S, .S] As:=λa b c d e=>[aV [.s a, .n b, .n c, .s d], .fb [.s e]]
def awX:Fn [.B] dj:=λa=>⟨[aB a],[]⟩
def aeH:=dJ arC awX (ct _) Ly.v
theorem amU:bX Tryz.prog T 161 aeH:=ft (E:=atO) aW Tryz.func161 Ly.b λ(a0,a1,a2,a3,a4,_)=>Ly.dP _ a0 a1 a2 a3 a4

def abq:=en [(161,aeH)] [(2,[0,1,4,7,8])]
def ajI:Fn [.R, .S] As:=λa b=>[aH 51 a, .v ak [.fn 161 [[.s b]]]]
def al8:Fn [.I] dj:=λa=>⟨[aI a],[]⟩
def uf:Fn [.R, .S, .I, .I, .I] Tb:=λa b c d e=>[cH 0 51 a,cA 2 (.fn 161 [[.s b]]),cI 8 c,cI 14 d,cI 16 e]
def Nx(N:aC)(K:Kt R):=pT.l2 N (J uf .ret K) (J uf (.exit 0) K)
def UA(N:aC):It R:=(lp 2 (al uf (λK=>Nx N K N) an) ln)
theorem UZ(N:aC):bY abq (UA N (R:=R)) (bM Tryz.f155 2):=lq 2 uf (Nx N) λK g=>pT.r2 N g (J uf .ret K) (J uf (.exit 0) K)
def M6:=dJ ajI al8 pT.c pT.v
theorem Vq:bX Tryz.prog T 155 M6:=fq (E:=abq) (aD amU aW) Tryz.func155 (it:=λN=>UA N) (λN=>(bh (UZ N) bw)) pT.b pT.vo

def aul:=en [] []
def ass:Fn [.S, .I, .I, .S, .S] As:=λa b c d e=>[aV [.s a, .n b, .n c, .s d], .fb [.s e]]
def axM:Fn [.B] dj:=λa=>⟨[aB a],[]⟩
def WO:=dJ ass axM (ct _) BV.v
theorem adV:bX Tryz.prog T 217 WO:=ft (E:=aul) aW Tryz.func217 BV.b λ(a0,a1,a2,a3,a4,_)=>BV.dP _ a0 a1 a2 a3 a4

def abr:=en [(217,WO)] [(2,[0,1,4,7,8])]
def ajJ:Fn [.R, .S] As:=λa b=>[aH 51 a, .v ak [.fn 217 [[.s b]]]]
def al9:Fn [.I] dj:=λa=>⟨[aI a],[]⟩
def ug:Fn [.R, .S, .I, .I, .I] Tb:=λa b c d e=>[cH 0 51 a,cA 2 (.fn 217 [[.s b]]),cI 8 c,cI 14 d,cI 16 e]
def Ny(N:aC)(K:Kt R):=na.l2 N (J ug .ret K) (J ug (.exit 0) K)
def UB(N:aC):It R:=(lp 2 (al ug (λK=>Ny N K N) an) ln)
theorem U0(N:aC):bY abr (UB N (R:=R)) (bM Tryz.f155 2):=lq 2 ug (Ny N) λK g=>na.r2 N g (J ug .ret K) (J ug (.exit 0) K)
def M7:=dJ ajJ al9 na.c na.v
theorem Vr:bX Tryz.prog T 155 M7:=fq (E:=abr) (aD adV aW) Tryz.func155 (it:=λN=>UB N) (λN=>(bh (U0 N) bw)) na.b na.vo

def E89:=en [] []
def A89:Fn [.S, .I, .I, .S, .I, .S, .I, .I, .I, .S, .I] As:=λa b c d e f g h i j k=>[aV [.s a, .n b, .n c, .s d], .fb [.n e, .s f, .n g, .n h, .n i, .s j, .n k]]
def k89:Fn [.B] dj:=λa=>⟨[aB a],[]⟩
def apb:=dJ A89 k89 (ct _) U89.v
theorem azo:bX Tryz.prog T 89 apb:=ft (E:=E89) aW Tryz.func89 U89.b λ(a0,a1,a2,a3,a4,a5,a6,a7,a8,a9,a10,_)=>U89.dP _ a0 a1 a2 a3 a4 a5 a6 a7 a8 a9 a10

def abt:=en [(89,apb)] [(2,[0,1,4,7,8])]
def ajK:Fn [.R, .I, .S, .I, .I, .I, .S, .I] As:=λa b c d e f g h=>[aH 51 a, .v ak [.fn 89 [[.n b, .s c, .n d, .n e, .n f, .s g, .n h]]]]
def al_:Fn [.I] dj:=λa=>⟨[aI a],[]⟩
def uh:Fn [.R, .I, .S, .I, .I, .I, .S, .I, .I, .I, .I] Tb:=λa b c d e f g h i j k=>[cH 0 51 a,cA 2 (.fn 89 [[.n b, .s c, .n d, .n e, .n f, .s g, .n h]]),cI 8 i,cI 14 j,cI 16 k]
def Nz(N:aC)(K:Kt R):=C1.l2 N (J uh .ret K) (J uh (.exit 0) K)
def UC(N:aC):It R:=(lp 2 (al uh (λK=>Nz N K N) an) ln)
theorem U1(N:aC):bY abt (UC N (R:=R)) (bM Tryz.f155 2):=lq 2 uh (Nz N) λK g=>C1.r2 N g (J uh .ret K) (J uh (.exit 0) K)
def M8:=dJ ajK al_ C1.c C1.v
theorem Vs:bX Tryz.prog T 155 M8:=fq (E:=abt) (aD azo aW) Tryz.func155 (it:=λN=>UC N) (λN=>(bh (U1 N) bw)) C1.b C1.vo

def E62:=en [(125,KY),(86,aa9),(82,qo)] []
def A62:Fn [.S, .I, .I, .S, .I] As:=λa b c d e=>[aV [.s a, .n b, .n c, .s d],aI e]
def k62:Fn [.B] dj:=λa=>⟨[aB a],[]⟩
def aa6:=dJ A62 k62 (ct _) HR.v
theorem aif:bX Tryz.prog T 62 aa6:=ft (E:=E62) (aD Pb (aD aij (aD qJ aW))) Tryz.func62 HR.b λ(a0,a1,a2,a3,a4,_)=>HR.dP _ a0 a1 a2 a3 a4

def agc:=en [] [(2,[0,1,5]),(6,[0,1,5,19])]
def atb:Fn [.I, .S] As:=λa b=>[.v ak [.i .u32 a],aS b]
def ayv:Fn [.I] dj:=λa=>⟨[.v ak [.i .u32 a]],[]⟩
def HG:Fn [.I, .S, .I] Tb:=λa b c=>[cA 0 (.i .u32 a),cA 2 (.s b),cI 10 c]
def HH:Fn [.I, .S, .I, .I] Tb:=λa b c d=>[cA 0 (.i .u32 a),cA 2 (.s b),cI 10 c,cI 38 d]
def Tj(N:aC)(K:Kt R):=xC.l2 N (J HG (.exit 0) K)
def Tk(N:aC)(K:Kt R):=xC.l6 N (J HH (.exit 2) K)
def UN(N:aC):It R:=(lp 2 (al HG (λK=>Tj N K N) an) (lp 6 (al HH (λK=>Tk N K N) an) ln))
theorem aao(N:aC):bY agc (UN N (R:=R)) (bM Tryz.f270 2):=lq 2 HG (Tj N) λK g=>xC.r2 N g (J HG (.exit 0) K)
theorem aap(N:aC):bY agc (UN N (R:=R)) (bM Tryz.f270 6):=lq 6 HH (Tk N) λK g=>xC.r6 N g (J HH (.exit 2) K)
def afI:=dJ atb ayv xC.c xC.v
theorem anX:bX Tryz.prog T 270 afI:=fq (E:=agc) aW Tryz.func270 (it:=λN=>UN N) (λN=>(bh (aao N) (bh (aap N) bw))) xC.b xC.vo

def auy:=en [(270,afI)] []
def asT:Fn [.S] As:=λa=>[aS a]
def ayc:Fn [.I] dj:=λa=>⟨[.v ak [.i .u32 a]],[]⟩
def WW:=dJ asT ayc u9.c u9.v
theorem ad2:bX Tryz.prog T 247 WW:=fr (E:=auy) (aD anX aW) Tryz.func247 u9.b u9.vo

def aum:=en [(247,WW)] []
def asy:Fn [.I, .S] As:=λa b=>[aI a,aS b]
def axS:Fn [.I] dj:=λa=>⟨[aI a],[]⟩
def WT:=dJ asy axS qz.c qz.v
theorem adZ:bX Tryz.prog T 225 WT:=fr (E:=aum) (aD ad2 aW) Tryz.func225 qz.b qz.vo

def XZ:=en [(224,WS),(210,PB),(225,WT)] [(5,[1,4,5,19,20,21]),(15,[4,5,49,50,51]),(18,[4,5,10,49,50,51,56,57])]
def arF:Fn [.R, .I, .S] As:=λa b c=>[aV [.sh 26 a, .n b],aS c]
def aw0:Fn [.R, .I] dj:=λa b=>⟨[aV [.ow 26 ai a, .n b]],[]⟩
def Hd:Fn [.S, .I, .I, .I, .I, .R] Tb:=λa b c d e f=>[cA 2 (.s a),cP 8 0,cP 10 1,cA 38 (.own 2),cI 40 b,cI 42 c,oB 1 [.nl, .n d],oB 3 [.own 2, .n e],oR 5 26 f]
def Cc:Fn [.I, .I, .I, .I, .R] Tb:=λa b c d e=>[cP 8 0,cP 10 1,cA 98 (.own 2),cI 100 a,cI 102 b,oB 1 [.nl, .n c],oB 3 [.own 2, .n d],oR 5 26 e]
def Cd:Fn [.N, .I, .I, .I, .I, .I, .I, .R] Tb:=λa b c d e f g h=>[cP 8 0,cP 10 1,cA 20 (.mU 2 a 0),cA 98 (.own 2),cI 100 b,cI 102 c,cI 112 d,cI 114 e,oB 1 [.nl, .n f],oB 3 [.own 2, .n g],oR 5 26 h]
def Ss(N:aC)(K:Kt R):=iG.l5 N (J Hd (.exit 0) K)
def NB(N:aC)(K:Kt R):=iG.l15 N (J Cc (.exit 2) K)
def NC(N:aC)(K:Kt R):=iG.l18 N (J Cd (.exit 4) K)
def OS(N:aC):It R:=(lp 5 (al Hd (λK=>Ss N K N) an) (lp 15 (al Cc (λK=>NB N K N) an) (lp 18 (al Cd (λK=>NC N K N) an) ln)))
theorem ZD(N:aC):bY XZ (OS N (R:=R)) (bM Tryz.f164 5):=lq 5 Hd (Ss N) λK g=>iG.r5 N g (J Hd (.exit 0) K)
theorem U2(N:aC):bY XZ (OS N (R:=R)) (bM Tryz.f164 15):=lq 15 Cc (NB N) λK g=>iG.r15 N g (J Cc (.exit 2) K)
theorem U3(N:aC):bY XZ (OS N (R:=R)) (bM Tryz.f164 18):=lq 18 Cd (NC N) λK g=>iG.r18 N g (J Cd (.exit 4) K)
def WB:=dJ arF aw0 iG.c iG.v
theorem adJ:bX Tryz.prog T 164 WB:=fq (E:=XZ) (aD adY (aD Vz (aD adZ aW))) Tryz.func164 (it:=λN=>OS N) (λN=>(bh (ZD N) (bh (U2 N) (bh (U3 N) bw)))) iG.b iG.vo

def auB:=en [] []
def as1:Fn [.S, .S] As:=λa b=>[aS a, .fb [.s b]]
def ayk:Fn [.B] dj:=λa=>⟨[aB a],[]⟩
def WY:=dJ as1 ayk (ct _) BZ.v
theorem ad4:bX Tryz.prog T 257 WY:=ft (E:=auB) aW Tryz.func257 BZ.b λ(a0,a1,_)=>BZ.dP _ a0 a1

def akF:=en [(257,WY)] [(2,[0,1,4,7,8])]
def atc:Fn [.R, .S] As:=λa b=>[aH 9 a, .v ak [.fn 257 [[.s b]]]]
def ayw:Fn [.I] dj:=λa=>⟨[aI a],[]⟩
def Au:Fn [.R, .S, .I, .I, .I] Tb:=λa b c d e=>[cH 0 9 a,cA 2 (.fn 257 [[.s b]]),cI 8 c,cI 14 d,cI 16 e]
def Tl(N:aC)(K:Kt R):=sI.l2 N (J Au .ret K) (J Au (.exit 0) K)
def ads(N:aC):It R:=(lp 2 (al Au (λK=>Tl N K N) an) ln)
theorem aaq(N:aC):bY akF (ads N (R:=R)) (bM Tryz.f272 2):=lq 2 Au (Tl N) λK g=>sI.r2 N g (J Au .ret K) (J Au (.exit 0) K)
def afJ:=dJ atc ayw sI.c sI.v
theorem anY:bX Tryz.prog T 272 afJ:=fq (E:=akF) (aD ad4 aW) Tryz.func272 (it:=λN=>ads N) (λN=>(bh (aaq N) bw)) sI.b sI.vo

def akC:=en [(272,afJ),(257,WY)] [(5,[0,1,5,6])]
def as0:Fn [.R, .S] As:=λa b=>[aO 9 a, .v ak [.fn 257 [[.s b]]]]
def ayj:Fn [.R] dj:=λa=>⟨[aO 9 a],[[.nl]]⟩
def HE:Fn [.S, .I, .I, .R] Tb:=λa b c d=>[cA 0 (.own 900000000),cA 2 (.fn 257 [[.s a]]),cI 10 b,cI 12 c,oR 1800000001 9 d]
def Tg(N:aC)(K:Kt R):=xB.l5 N (J HE (.exit 0) K)
def adp(N:aC):It R:=(lp 5 (al HE (λK=>Tg N K N) an) ln)
theorem aal(N:aC):bY akC (adp N (R:=R)) (bM Tryz.f256 5):=lq 5 HE (Tg N) λK g=>xB.r5 N g (J HE (.exit 0) K)
def afz:=dJ as0 ayj xB.c xB.v
theorem anO:bX Tryz.prog T 256 afz:=fq (E:=akC) (aD anY (aD ad4 aW)) Tryz.func256 (it:=λN=>adp N) (λN=>(bh (aal N) bw)) xB.b xB.vo

def auj:=en [(255,WX),(256,afz)] []
def aso:Fn [.R, .S] As:=λa b=>[aH 9 a,aS b]
def axI:Fn [.R] dj:=λa=>⟨[aO 9 a],[]⟩
def WM:=dJ aso axI j7.c j7.v
theorem adT:bX Tryz.prog T 213 WM:=fr (E:=auj) (aD ad3 (aD anO aW)) Tryz.func213 j7.b j7.vo

def ako:=en [(210,PB),(225,WT)] [(5,[1,5,12,13,14])]
def asp:Fn [.R, .I, .S] As:=λa b c=>[aV [.sh 26 a, .n b],aS c]
def axJ:Fn [.I] dj:=λa=>⟨[aI a],[]⟩
def Hq:Fn [.S, .I, .R, .I, .I] Tb:=λa b c d e=>[cA 2 (.s a),cI 10 b,cH 24 26 c,cI 26 d,cI 28 e]
def SQ(N:aC)(K:Kt R):=v5.l5 N (J Hq (.exit 0) K)
def ac9(N:aC):It R:=(lp 5 (al Hq (λK=>SQ N K N) an) ln)
theorem ZY(N:aC):bY ako (ac9 N (R:=R)) (bM Tryz.f214 5):=lq 5 Hq (SQ N) λK g=>v5.r5 N g (J Hq (.exit 0) K)
def afd:=dJ asp axJ v5.c v5.v
theorem anr:bX Tryz.prog T 214 afd:=fq (E:=ako) (aD Vz (aD adZ aW)) Tryz.func214 (it:=λN=>ac9 N) (λN=>(bh (ZY N) bw)) v5.b v5.vo

def atH:=en [(212,PC),(146,Ww),(148,Ee),(164,WB),(209,PA),(213,WM),(214,afd)] []
def art:Fn [.R, .R, .R, .I, .S] As:=λa b c d e=>[aV [.sh 9 a, .sh 9 b, .sh 26 c, .n d],aS e]
def awO:Fn [.R, .R, .R, .I, .S] dj:=λa b c d e=>⟨[aV [.ow 9 ai a, .ow 9 ai b, .ow 26 ai c, .n d],aS e],[]⟩
def Wx:=dJ art awO Az.c Az.v
theorem adF:bX Tryz.prog T 149 Wx:=fr (E:=atH) (aD VA (aD adE (aD Gt (aD adJ (aD Vy (aD adT (aD anr aW))))))) Tryz.func149 Az.b Az.vo

def aiw:Rs:=⟨λn=>bif bD n 22 then 223 else bif bD n 29 then 259 else 260,λn=>bif bD n 24 then 38 else bif bD n 9 then 72 else bif bD n 3 then 3 else bif bD n 4 then 4 else n,λn=>n⟩
def afg:az fj->ay (aY×dj):=Ins.xW 72 72
theorem ahw:Ins.L Tryz.prog aiw "slices.Insert[[]loop.example/g00245/impl.Client,loop.example/g00245/impl.Client]" 7 where
 mixed:=hM
 f22:=Tryz.func223.trans (by kernel_rfl)
 t3:=by kernel_rfl
 a3:=Ins.kY (P:=Tryz.prog) (t:=3) (d:= .int .i64) (by kernel_rfl) rfl
 t4:=by kernel_rfl
 a4:=Ins.kY (P:=Tryz.prog) (t:=4) (d:= .bool) (by kernel_rfl) rfl
 t24:=by kernel_rfl
 a24:=Ins.kY (P:=Tryz.prog) (t:=38) (d:= .slice 72) (by kernel_rfl) rfl
 z9:=Ins.IP hE (t:=72) (ti:=⟨ai,[.i .i64, .s, .i .i64, .i .i64, .i .i64, .s, .i .i64],72⟩) (by kernel_rfl)
theorem anu:bX Tryz.prog T 223 afg:=
 Ins.AM (e:=72) (te:=⟨ai,[.i .i64, .s, .i .i64, .i .i64, .i .i64, .s, .i .i64],72⟩) (by kernel_rfl) rfl (by kernel_rfl) hE ahw
  (λargs w=>run_callFunc_extern (e:=fH #[38,38] #[4]) Tryz.func259 (by kernel_rfl) (by kernel_rfl) (by kernel_rfl) (by kernel_rfl) args w)
  ⟨_,Tryz.func223,by kernel_rfl,by kernel_rfl⟩

def aka:=en [(223,afg)] [(2,[0,3,4])]
def arD:Fn [.I, .R, .R, .R, .R, .I, .R, .R, .I, .I, .S, .I, .I, .I, .S, .I] As:=λa b c d e f g h i j k l m o p q=>[.pt [.n a, .ow 51 ai b, .ow 9 ai c, .ow 9 ai d, .ow 26 ai e, .n f, .ow 75 ai g, .ow 72 ai h, .n i],aV [.n j, .s k, .n l, .n m, .n o, .s p, .n q]]
def awY:Fn [.I, .R, .R, .R, .R, .I, .R, .R, .I] dj:=λa b c d e f g h i=>⟨[],[[.n a, .kp b, .kp c, .kp d, .kp e, .n f, .kp g, .ow 72 ai h, .n i]]⟩
def Hc:Fn [.I, .I, .I, .I, .I, .S, .I, .I, .I, .S, .I, .R, .R, .R, .R, .R, .R] Tb:=λa b c d e f g h i j k l m o p q r=>[cP 0 900000900,cP 6 1,cI 8 a,oB 1800001801 [.n b, .own 900000001, .own 900000002, .own 900000003, .own 900000004, .n c, .own 900000006, .own 900000007, .n d],oB 3 [.n e, .s f, .n g, .n h, .n i, .s j, .n k],oR 1800000003 51 l,oR 1800000005 9 m,oR 1800000007 9 o,oR 1800000009 26 p,oR 1800000013 75 q,oR 1800000015 72 r]
def Sr(N:aC)(K:Kt R):=ji.l2 N (J Hc (.exit 0) K)
def acV(N:aC):It R:=(lp 2 (al Hc (λK=>Sr N K N) an) ln)
theorem ZC(N:aC):bY aka (acV N (R:=R)) (bM Tryz.f162 2):=lq 2 Hc (Sr N) λK g=>ji.r2 N g (J Hc (.exit 0) K)
def aeI:=dJ arD awY ji.c ji.v
theorem amV:bX Tryz.prog T 162 aeI:=fq (E:=aka) (aD anu aW) Tryz.func162 (it:=λN=>acV N) (λN=>(bh (ZC N) bw)) ji.b ji.vo

def akp:=en [(155,M6),(155,M7),(155,M8),(217,WO)] [(5,[0,1,5,6])]
def asq:Fn [.R, .S] As:=λa b=>[aO 51 a, .v ak [.fn 217 [[.s b]]]]
def axK:Fn [.R] dj:=λa=>⟨[aO 51 a],[[.nl]]⟩
def Hr:Fn [.S, .I, .I, .R] Tb:=λa b c d=>[cA 0 (.own 900000000),cA 2 (.fn 217 [[.s a]]),cI 10 b,cI 12 c,oR 1800000001 51 d]
def SR(N:aC)(K:Kt R):=o8.l5 N (J Hr (.exit 0) K)
def ac_(N:aC):It R:=(lp 5 (al Hr (λK=>SR N K N) an) ln)
theorem ZZ(N:aC):bY akp (ac_ N (R:=R)) (bM Tryz.f215 5):=lq 5 Hr (SR N) λK g=>o8.r5 N g (J Hr (.exit 0) K)
def afe:=dJ asq axK o8.c o8.v
theorem ans:bX Tryz.prog T 215 afe:=fq (E:=akp) (aD Vq (aD Vr (aD Vs (aD adV aW)))) Tryz.func215 (it:=λN=>ac_ N) (λN=>(bh (ZZ N) bw)) o8.b o8.vo

def atI:=en [(216,WN),(215,afe)] []
def aru:Fn [.R, .S] As:=λa b=>[aH 51 a,aS b]
def awP:Fn [.R] dj:=λa=>⟨[aO 51 a],[]⟩
def Pv:=dJ aru awP pJ.c pJ.v
theorem Vp:bX Tryz.prog T 150 Pv:=fr (E:=atI) (aD adU (aD ans aW)) Tryz.func150 pJ.b pJ.vo

def atP:=en [(212,PC),(213,WM)] []
def arE:Fn [.R, .R, .R, .I, .S] As:=λa b c d e=>[aV [.sh 9 a, .sh 9 b, .sh 26 c, .n d],aS e]
def awZ:Fn [.R, .R, .R, .I] dj:=λa b c d=>⟨[aV [.ow 9 ai a, .ow 9 ai b, .ow 26 ai c, .n d]],[]⟩
def aeJ:=dJ arE awZ uW.c uW.v
theorem amW:bX Tryz.prog T 163 aeJ:=fr (E:=atP) (aD VA (aD adT aW)) Tryz.func163 uW.b uW.vo

def E96:=en [(160,Ef),(30,aiB),(82,qo),(148,Ee),(101,Wr),(155,M6),(155,M7),(155,M8),(62,aa6),(149,Wx),(162,aeI),(92,aiN),(150,Pv),(163,aeJ),(164,WB)] []
def A96:Fn [.I, .R, .R, .R, .R, .I, .R, .R, .I, .I, .S] As:=λa b c d e f g h i j k=>[aV [.n a, .sh 51 b, .sh 9 c, .sh 9 d, .sh 26 e, .n f, .sh 75 g, .sh 72 h, .n i],aI j,aS k]
def k96:Fn [.I, .R, .R, .R, .R, .I, .R, .R, .I, .I] dj:=λa b c d e f g h i j=>⟨[aV [.n a, .ow 51 ai b, .ow 9 ai c, .ow 9 ai d, .ow 26 ai e, .n f, .ow 75 ai g, .ow 72 ai h, .n i],aI j],[]⟩
def apd:=dJ A96 k96 TC.c TC.v
theorem azq:bX Tryz.prog T 96 apd:=fr (E:=E96) (aD Gu (aD an4 (aD qJ (aD Gt (aD adz (aD Vq (aD Vr (aD Vs (aD aif (aD adF (aD amV (aD aof (aD Vp (aD amW (aD adJ aW))))))))))))))) Tryz.func96 TC.b TC.vo

def atQ:=en [(30,aiB),(82,qo)] []
def arG:Fn [.I, .R, .R, .R, .R, .I, .R, .R, .I, .I] As:=λa b c d e f g h i j=>[aV [.n a, .sh 51 b, .sh 9 c, .sh 9 d, .sh 26 e, .n f, .sh 75 g, .sh 72 h, .n i],aI j]
def aw1:Fn [.B] dj:=λa=>⟨[aB a],[]⟩
def Pw:=dJ arG aw1 uX.c uX.v
theorem Vt:bX Tryz.prog T 165 Pw:=fr (E:=atQ) (aD an4 (aD qJ aW)) Tryz.func165 uX.b uX.vo

def aun:=en [] []
def asz:Fn [.I, .S, .R] As:=λa b c=>[aV [.n a, .s b, .sh 237 c]]
def axT:Fn [.I, .S, .R] dj:=λa b c=>⟨[aV [.n a, .s b, .ow 237 ai c]],[]⟩
def afh:=dJ asz axT LG.c LG.v
theorem anv:bX Tryz.prog T 226 afh:=fh (E:=aun) aW Tryz.func226 (it:=λ_=>ln) (λ_=>bw) (λ_=>LG.b) λx f h=>⟨0,LG.dP _ x.1 x.2.1 x.2.2.1 h⟩

def akt:=en [(82,qo)] [(2,[1,2,6,7,8])]
def asA:Fn [.I, .S, .R] As:=λa b c=>[aV [.n a, .s b, .sh 237 c]]
def axU:Fn [.B] dj:=λa=>⟨[aB a],[]⟩
def Aj:Fn [.B, .R, .I, .I, .I, .S, .R] Tb:=λa b c d e f g=>[cP 2 0,cA 4 (.b a),cH 12 237 b,cI 14 c,cI 16 d,oB 1 [.n e, .s f, .sh 237 g]]
def SZ(N:aC)(K:Kt R):=Jw.l2 N (J Aj .ret K) (J Aj (.exit 0) K)
def adf(N:aC):It R:=(lp 2 (al Aj (λK=>SZ N K N) an) ln)
theorem Z5(N:aC):bY akt (adf N (R:=R)) (bM Tryz.f227 2):=lq 2 Aj (SZ N) λK g=>Jw.r2 N g (J Aj .ret K) (J Aj (.exit 0) K)
def afi:=dJ asA axU (ct _) Jw.v
theorem anw:bX Tryz.prog T 227 afi:=fh (E:=akt) (aD qJ aW) Tryz.func227 (it:=λN=>adf N) (λN=>(bh (Z5 N) bw)) Jw.b λx f h=>Jw.dP _ x.1 x.2.1 x.2.2.1 f.1.2.1 f.1.2.2.1

def atS:=en [(226,afh),(227,afi),(82,qo)] []
def arH:Fn [.I, .S, .R, .S] As:=λa b c d=>[aV [.n a, .s b, .sh 237 c],aS d]
def aw2:Fn [.I, .S, .R, .B] dj:=λa b c d=>⟨[aV [.n a, .s b, .ow 237 ai c],aB d],[]⟩
def aeK:=dJ arH aw2 EO.c EO.v
theorem amX:bX Tryz.prog T 166 aeK:=fh (E:=atS) (aD anv (aD anw (aD qJ aW))) Tryz.func166 (it:=λ_=>ln) (λ_=>bw) (λ_=>EO.b) λx f h=>⟨0,EO.dP _ x.1 x.2.1 x.2.2.1 x.2.2.2.1 h f.1.2.1 f.1.2.2.1 f.2.1.1⟩

def akb:=en [] [(1,[0,1,9,10,11])]
def arI:Fn [.I, .R, .R, .R, .R, .I, .R, .R, .I, .I] As:=λa b c d e f g h i j=>[.pt [.n a, .ow 51 ai b, .ow 9 ai c, .ow 9 ai d, .ow 26 ai e, .n f, .ow 75 ai g, .ow 72 ai h, .n i],aI j]
def aw3:Fn [.I, .R, .R, .R, .R, .I, .R, .R, .I] dj:=λa b c d e f g h i=>⟨[],[[.n a, .kp b, .kp c, .kp d, .kp e, .n f, .kp g, .kp h, .n i]]⟩
def He:Fn [.I, .I, .I, .I, .I, .I, .R, .R, .R, .R, .R, .R] Tb:=λa b c d e f g h i j k l=>[cP 0 900000900,cI 2 a,cA 18 (.own 900000007),cI 20 b,cI 22 c,oB 1800001801 [.n d, .own 900000001, .own 900000002, .own 900000003, .own 900000004, .n e, .own 900000006, .own 900000007, .n f],oR 1800000015 72 g,oR 1800000003 51 h,oR 1800000005 9 i,oR 1800000007 9 j,oR 1800000009 26 k,oR 1800000013 75 l]
def Su(N:aC)(K:Kt R):=BQ.l1 N (J He (.exit 0) K)
def acW(N:aC):It R:=(lp 1 (al He (λK=>Su N K N) an) ln)
theorem ZE(N:aC):bY akb (acW N (R:=R)) (bM Tryz.f167 1):=lq 1 He (Su N) λK g=>BQ.r1 N g (J He (.exit 0) K)
def aeL:=dJ arI aw3 BQ.c BQ.v
theorem amY:bX Tryz.prog T 167 aeL:=fq (E:=akb) aW Tryz.func167 (it:=λN=>acW N) (λN=>(bh (ZE N) bw)) BQ.b BQ.vo

def E97:=en [(160,Ef),(165,Pw),(166,aeK),(167,aeL)] []
def A97:Fn [.I, .R, .R, .R, .R, .I, .R, .R, .I, .I, .S] As:=λa b c d e f g h i j k=>[aV [.n a, .sh 51 b, .sh 9 c, .sh 9 d, .sh 26 e, .n f, .sh 75 g, .sh 72 h, .n i],aI j,aS k]
def k97:Fn [.I, .R, .R, .R, .R, .I, .R, .R, .I, .B] dj:=λa b c d e f g h i j=>⟨[aV [.n a, .ow 51 ai b, .ow 9 ai c, .ow 9 ai d, .ow 26 ai e, .n f, .ow 75 ai g, .ow 72 ai h, .n i],aB j],[]⟩
def ape:=dJ A97 k97 XD.c XD.v
theorem azr:bX Tryz.prog T 97 ape:=fr (E:=E97) (aD Gu (aD Vt (aD amX (aD amY aW)))) Tryz.func97 XD.b XD.vo

def akd:=en [] [(1,[0,1,2,11,12,13])]
def arM:Fn [.I, .R, .R, .R, .R, .I, .R, .R, .I, .I, .I] As:=λa b c d e f g h i j k=>[.pt [.n a, .ow 51 ai b, .ow 9 ai c, .ow 9 ai d, .ow 26 ai e, .n f, .ow 75 ai g, .ow 72 ai h, .n i],aI j,aI k]
def aw7:Fn [.I, .R, .R, .R, .R, .I, .R, .R, .I] dj:=λa b c d e f g h i=>⟨[],[[.n a, .kp b, .kp c, .kp d, .kp e, .n f, .kp g, .kp h, .n i]]⟩
def Hh:Fn [.I, .I, .I, .I, .I, .I, .I, .R, .R, .R, .R, .R, .R] Tb:=λa b c d e f g h i j k l m=>[cP 0 900000900,cI 2 a,cI 4 b,cA 22 (.own 900000007),cI 24 c,cI 26 d,oB 1800001801 [.n e, .own 900000001, .own 900000002, .own 900000003, .own 900000004, .n f, .own 900000006, .own 900000007, .n g],oR 1800000015 72 h,oR 1800000003 51 i,oR 1800000005 9 j,oR 1800000007 9 k,oR 1800000009 26 l,oR 1800000013 75 m]
def Sx(N:aC)(K:Kt R):=vV.l1 N (J Hh (.exit 0) K)
def acY(N:aC):It R:=(lp 1 (al Hh (λK=>Sx N K N) an) ln)
theorem ZH(N:aC):bY akd (acY N (R:=R)) (bM Tryz.f171 1):=lq 1 Hh (Sx N) λK g=>vV.r1 N g (J Hh (.exit 0) K)
def WD:=dJ arM aw7 vV.c vV.v
theorem adL:bX Tryz.prog T 171 WD:=fq (E:=akd) aW Tryz.func171 (it:=λN=>acY N) (λN=>(bh (ZH N) bw)) vV.b vV.vo

def aiv:Rs:=⟨λn=>bif bD n 22 then 198 else bif bD n 29 then 248 else 249,λn=>bif bD n 24 then 30 else bif bD n 9 then 51 else bif bD n 3 then 3 else bif bD n 4 then 4 else n,λn=>n⟩
def ae3:az fj->ay (aY×dj):=Ins.xW 51 48
theorem ahv:Ins.L Tryz.prog aiv "slices.Insert[[]loop.example/g00245/impl.Entry,loop.example/g00245/impl.Entry]" 4 where
 mixed:=hM
 f22:=Tryz.func198.trans (by kernel_rfl)
 t3:=by kernel_rfl
 a3:=Ins.kY (P:=Tryz.prog) (t:=3) (d:= .int .i64) (by kernel_rfl) rfl
 t4:=by kernel_rfl
 a4:=Ins.kY (P:=Tryz.prog) (t:=4) (d:= .bool) (by kernel_rfl) rfl
 t24:=by kernel_rfl
 a24:=Ins.kY (P:=Tryz.prog) (t:=30) (d:= .slice 51) (by kernel_rfl) rfl
 z9:=Ins.IP hE (t:=51) (ti:=⟨ai,[.s, .i .i64, .i .i64, .s],48⟩) (by kernel_rfl)
theorem ang:bX Tryz.prog T 198 ae3:=
 Ins.AM (e:=51) (te:=⟨ai,[.s, .i .i64, .i .i64, .s],48⟩) (by kernel_rfl) rfl (by kernel_rfl) hE ahv
  (λargs w=>run_callFunc_extern (e:=fH #[30,30] #[4]) Tryz.func248 (by kernel_rfl) (by kernel_rfl) (by kernel_rfl) (by kernel_rfl) args w)
  ⟨_,Tryz.func198,by kernel_rfl,by kernel_rfl⟩

def ajX:=en [(150,Pv),(198,ae3)] [(3,[3,5,6])]
def aq5:Fn [.R, .S, .I, .I, .S] As:=λa b c d e=>[aH 51 a,aV [.s b, .n c, .n d, .s e]]
def awt:Fn [.R] dj:=λa=>⟨[aO 51 a],[]⟩
def G7:Fn [.I, .S, .I, .I, .S, .R] Tb:=λa b c d e f=>[cP 6 0,cA 10 (.own 1),cI 12 a,oB 1 [.s b, .n c, .n d, .s e],oR 3 51 f]
def R9(N:aC)(K:Kt R):=uV.l3 N (J G7 (.exit 0) K)
def acH(N:aC):It R:=(lp 3 (al G7 (λK=>R9 N K N) an) ln)
theorem Zn(N:aC):bY ajX (acH N (R:=R)) (bM Tryz.f124 3):=lq 3 G7 (R9 N) λK g=>uV.r3 N g (J G7 (.exit 0) K)
def Wv:=dJ aq5 awt uV.c uV.v
theorem adD:bX Tryz.prog T 124 Wv:=fq (E:=ajX) (aD Vp (aD ang aW)) Tryz.func124 (it:=λN=>acH N) (λN=>(bh (Zn N) bw)) uV.b uV.vo

def E87:=en [(149,Wx),(150,Pv),(145,Ps),(124,Wv)] []
def A87:Fn [.I, .R, .R, .R, .R, .I, .R, .R, .I, .S, .I, .I, .S] As:=λa b c d e f g h i j k l m=>[.pt [.n a, .ow 51 ai b, .ow 9 ai c, .ow 9 ai d, .ow 26 ai e, .n f, .ow 75 ai g, .ow 72 ai h, .n i],aV [.s j, .n k, .n l, .s m]]
def k87:Fn [.I, .R, .R, .R, .R, .I, .R, .R, .I] dj:=λa b c d e f g h i=>⟨[],[[.n a, .ow 51 ai b, .ow 9 ai c, .ow 9 ai d, .ow 26 ai e, .n f, .kp g, .kp h, .n i]]⟩
def aiL:=dJ A87 k87 Qe.c Qe.v
theorem aod:bX Tryz.prog T 87 aiL:=fr (E:=E87) (aD adF (aD Vp (aD Vn (aD adD aW)))) Tryz.func87 Qe.b Qe.vo

def atT:=en [(160,Ef),(165,Pw),(82,qo),(171,WD),(87,aiL)] []
def arJ:Fn [.I, .R, .R, .R, .R, .I, .R, .R, .I, .I, .I] As:=λa b c d e f g h i j k=>[aV [.n a, .sh 51 b, .sh 9 c, .sh 9 d, .sh 26 e, .n f, .sh 75 g, .sh 72 h, .n i],aI j,aI k]
def aw4:Fn [.I, .R, .R, .R, .R, .I, .R, .R, .I, .B] dj:=λa b c d e f g h i j=>⟨[aV [.n a, .ow 51 ai b, .ow 9 ai c, .ow 9 ai d, .ow 26 ai e, .n f, .ow 75 ai g, .ow 72 ai h, .n i],aB j],[]⟩
def aeM:=dJ arJ aw4 EP.c EP.v
theorem amZ:bX Tryz.prog T 168 aeM:=fr (E:=atT) (aD Gu (aD Vt (aD qJ (aD adL (aD aod aW))))) Tryz.func168 EP.b EP.vo

def akG:=en [(82,qo)] [(4,[0,4])]
def ate:Fn [.I] As:=λa=>[aI a]
def ayy:Fn [.S, .B] dj:=λa b=>⟨[aS a,aB b],[]⟩
def HI:Fn [.I, .R] Tb:=λa b=>[cI 0 a,cA 8 (.own 0),oR 1 5 b]
def Tm(N:aC)(K:Kt R):=nO.l4 N (J HI (.exit 0) K)
def adt(N:aC):It R:=(lp 4 (al HI (λK=>Tm N K N) an) ln)
theorem aar(N:aC):bY akG (adt N (R:=R)) (bM Tryz.f275 4):=lq 4 HI (Tm N) λK g=>nO.r4 N g (J HI (.exit 0) K)
def PJ:=dJ ate ayy (ct _) nO.v
theorem VJ:bX Tryz.prog T 275 PJ:=fh (E:=akG) (aD qJ aW) Tryz.func275 (it:=λN=>adt N) (λN=>(bh (aar N) bw)) nO.b λx f h=>nO.dP _ x.1

def auK:=en [(275,PJ)] []
def atd:Fn [.S] As:=λa=>[aS a]
def ayx:Fn [.S, .B] dj:=λa b=>⟨[aS a,aB b],[]⟩
def afK:=dJ atd ayx (ct _) EZ.v
theorem anZ:bX Tryz.prog T 274 afK:=fh (E:=auK) (aD VJ aW) Tryz.func274 (it:=λ_=>ln) (λ_=>bw) (λ_=>EZ.b) λx f h=>⟨0,EZ.dP _ x.1⟩

def auE:=en [(125,KY),(274,afK),(275,PJ)] []
def as4:Fn [.S, .I, .I, .S] As:=λa b c d=>[aV [.s a, .n b, .n c, .s d]]
def ayn:Fn [.S, .B] dj:=λa b=>⟨[aS a,aB b],[]⟩
def afB:=dJ as4 ayn (ct _) EY.v
theorem anQ:bX Tryz.prog T 262 afB:=fh (E:=auE) (aD Pb (aD anZ (aD VJ aW))) Tryz.func262 (it:=λ_=>ln) (λ_=>bw) (λ_=>EY.b) λx f h=>⟨0,EY.dP _ x.1 x.2.1 x.2.2.1 x.2.2.2.1⟩

def at9:=en [(247,WW)] []
def ar9:Fn [.S] As:=λa=>[aS a]
def axt:Fn [.S] dj:=λa=>⟨[aS a],[]⟩
def WL:=dJ ar9 axt u0.c u0.v
theorem adS:bX Tryz.prog T 196 WL:=fr (E:=at9) (aD ad2 aW) Tryz.func196 u0.b u0.vo

def auF:=en [(82,qo),(275,PJ),(196,WL)] []
def as5:Fn [.S] As:=λa=>[aS a]
def ayo:Fn [.S, .B] dj:=λa b=>⟨[aS a,aB b],[]⟩
def afC:=dJ as5 ayo C4.c C4.v
theorem anR:bX Tryz.prog T 263 afC:=fr (E:=auF) (aD qJ (aD VJ (aD adS aW))) Tryz.func263 C4.b C4.vo

def auo:=en [(262,afB),(263,afC)] []
def asB:Fn [.S, .I, .I, .S] As:=λa b c d=>[aV [.s a, .n b, .n c, .s d]]
def axV:Fn [.S, .B] dj:=λa b=>⟨[aS a,aB b],[]⟩
def WU:=dJ asB axV mM.c mM.v
theorem ad0:bX Tryz.prog T 228 WU:=fr (E:=auo) (aD anQ (aD anR aW)) Tryz.func228 mM.b mM.vo

def atU:=en [(228,WU)] []
def arK:Fn [.S, .I, .I, .S] As:=λa b c d=>[aV [.s a, .n b, .n c, .s d]]
def aw5:Fn [.R, .B] dj:=λa b=>⟨[aO 218 a,aB b],[]⟩
def aeN:=dJ arK aw5 uY.c uY.v
theorem am0:bX Tryz.prog T 169 aeN:=fr (E:=atU) (aD ad0 aW) Tryz.func169 uY.b uY.vo

def aup:=en [] []
def asC:Fn [.R] As:=λa=>[aV [.sh 94 a]]
def axW:Fn [.R] dj:=λa=>⟨[aV [.ow 94 ai a]],[]⟩
def PE:=dJ asC axW s9.c s9.v
theorem VC:bX Tryz.prog T 229 PE:=fr (E:=aup) aW Tryz.func229 s9.b s9.vo

def auw:=en [] []
def asS:Fn [.S, .S, .I, .S] As:=λa b c d=>[aV [.s a, .s b, .n c], .fb [.s d]]
def ayb:Fn [.B] dj:=λa=>⟨[aB a],[]⟩
def aft:=dJ asS ayb (ct _) LH.v
theorem anI:bX Tryz.prog T 246 aft:=ft (E:=auw) aW Tryz.func246 LH.b λ(a0,a1,a2,a3,_)=>LH.dP _ a0 a1 a2 a3

def abw:=en [(246,aft)] [(2,[0,1,4,7,8])]
def ajN:Fn [.R, .S] As:=λa b=>[aH 94 a, .v ak [.fn 246 [[.s b]]]]
def amc:Fn [.I] dj:=λa=>⟨[aI a],[]⟩
def uk:Fn [.R, .S, .I, .I, .I] Tb:=λa b c d e=>[cH 0 94 a,cA 2 (.fn 246 [[.s b]]),cI 8 c,cI 14 d,cI 16 e]
def NQ(N:aC)(K:Kt R):=sj.l2 N (J uk .ret K) (J uk (.exit 0) K)
def UL(N:aC):It R:=(lp 2 (al uk (λK=>NQ N K N) an) ln)
theorem Va(N:aC):bY abw (UL N (R:=R)) (bM Tryz.f245 2):=lq 2 uk (NQ N) λK g=>sj.r2 N g (J uk .ret K) (J uk (.exit 0) K)
def Na:=dJ ajN amc sj.c sj.v
theorem VH:bX Tryz.prog T 245 Na:=fq (E:=abw) (aD anI aW) Tryz.func245 (it:=λN=>UL N) (λN=>(bh (Va N) bw)) sj.b sj.vo

def auL:=en [] []
def atg:Fn [.S, .S, .I, .S] As:=λa b c d=>[aV [.s a, .s b, .n c], .fb [.s d]]
def ayA:Fn [.B] dj:=λa=>⟨[aB a],[]⟩
def W1:=dJ atg ayA (ct _) B0.v
theorem ad7:bX Tryz.prog T 278 W1:=ft (E:=auL) aW Tryz.func278 B0.b λ(a0,a1,a2,a3,_)=>B0.dP _ a0 a1 a2 a3

def abx:=en [(278,W1)] [(2,[0,1,4,7,8])]
def ajO:Fn [.R, .S] As:=λa b=>[aH 94 a, .v ak [.fn 278 [[.s b]]]]
def amd:Fn [.I] dj:=λa=>⟨[aI a],[]⟩
def um:Fn [.R, .S, .I, .I, .I] Tb:=λa b c d e=>[cH 0 94 a,cA 2 (.fn 278 [[.s b]]),cI 8 c,cI 14 d,cI 16 e]
def NR(N:aC)(K:Kt R):=nc.l2 N (J um .ret K) (J um (.exit 0) K)
def UM(N:aC):It R:=(lp 2 (al um (λK=>NR N K N) an) ln)
theorem Vb(N:aC):bY abx (UM N (R:=R)) (bM Tryz.f245 2):=lq 2 um (NR N) λK g=>nc.r2 N g (J um .ret K) (J um (.exit 0) K)
def Nb:=dJ ajO amd nc.c nc.v
theorem VI:bX Tryz.prog T 245 Nb:=fq (E:=abx) (aD ad7 aW) Tryz.func245 (it:=λN=>UM N) (λN=>(bh (Vb N) bw)) nc.b nc.vo

def at8:=en [(245,Na),(245,Nb)] []
def ar7:Fn [.R, .S] As:=λa b=>[aV [.sh 94 a],aS b]
def axr:Fn [.I] dj:=λa=>⟨[aI a],[]⟩
def WK:=dJ ar7 axr eF.c eF.v
theorem adR:bX Tryz.prog T 194 WK:=fr (E:=at8) (aD VH (aD VI aW)) Tryz.func194 eF.b eF.vo

def ajV:=en [(82,qo)] [(2,[1,2,6,7,8])]
def aq1:Fn [.R] As:=λa=>[aV [.sh 94 a]]
def awp:Fn [.B] dj:=λa=>⟨[aB a],[]⟩
def zV:Fn [.B, .R, .I, .I, .R] Tb:=λa b c d e=>[cP 2 0,cA 4 (.b a),cH 12 94 b,cI 14 c,cI 16 d,oB 1 [.sh 94 e]]
def R7(N:aC)(K:Kt R):=ia.l2 N (J zV .ret K) (J zV (.exit 0) K)
def acF(N:aC):It R:=(lp 2 (al zV (λK=>R7 N K N) an) ln)
theorem Zl(N:aC):bY ajV (acF N (R:=R)) (bM Tryz.f120 2):=lq 2 zV (R7 N) λK g=>ia.r2 N g (J zV .ret K) (J zV (.exit 0) K)
def KX:=dJ aq1 awp ia.c ia.v
theorem O_:bX Tryz.prog T 120 KX:=fq (E:=ajV) (aD qJ aW) Tryz.func120 (it:=λN=>acF N) (λN=>(bh (Zl N) bw)) ia.b ia.vo

def auG:=en [(82,qo)] []
def as6:Fn [.I, .S, .S, .S] As:=λa b c d=>[aV [.n a, .s b, .s c, .s d]]
def ayp:Fn [.B] dj:=λa=>⟨[aB a],[]⟩
def afD:=dJ as6 ayp (ct _) LI.v
theorem anS:bX Tryz.prog T 264 afD:=ft (E:=auG) (aD qJ aW) Tryz.func264 LI.b λ(a0,a1,a2,a3,_)=>LI.dP _ a0 a1 a2 a3

def akH:=en [(245,Na),(245,Nb),(278,W1)] [(5,[0,1,5,6])]
def atf:Fn [.R, .S] As:=λa b=>[aO 94 a, .v ak [.fn 278 [[.s b]]]]
def ayz:Fn [.R] dj:=λa=>⟨[aO 94 a],[[.nl]]⟩
def HJ:Fn [.S, .I, .I, .R] Tb:=λa b c d=>[cA 0 (.own 900000000),cA 2 (.fn 278 [[.s a]]),cI 10 b,cI 12 c,oR 1800000001 94 d]
def Tn(N:aC)(K:Kt R):=xD.l5 N (J HJ (.exit 0) K)
def adu(N:aC):It R:=(lp 5 (al HJ (λK=>Tn N K N) an) ln)
theorem aas(N:aC):bY akH (adu N (R:=R)) (bM Tryz.f277 5):=lq 5 HJ (Tn N) λK g=>xD.r5 N g (J HJ (.exit 0) K)
def afM:=dJ atf ayz xD.c xD.v
theorem an1:bX Tryz.prog T 277 afM:=fq (E:=akH) (aD VH (aD VI (aD ad7 aW))) Tryz.func277 (it:=λN=>adu N) (λN=>(bh (aas N) bw)) xD.b xD.vo

def auH:=en [(229,PE),(277,afM)] []
def as8:Fn [.R, .S] As:=λa b=>[aV [.sh 94 a],aS b]
def ayr:Fn [.R] dj:=λa=>⟨[aV [.ow 94 ai a]],[]⟩
def W0:=dJ as8 ayr iR.c iR.v
theorem ad6:bX Tryz.prog T 266 W0:=fr (E:=auH) (aD VC (aD an1 aW)) Tryz.func266 iR.b iR.vo

def aix:Rs:=⟨λn=>bif bD n 22 then 276 else bif bD n 29 then 283 else 284,λn=>bif bD n 24 then 41 else bif bD n 9 then 94 else bif bD n 3 then 3 else bif bD n 4 then 4 else n,λn=>n⟩
def afL:az fj->ay (aY×dj):=Ins.xW 94 40
theorem ahx:Ins.L Tryz.prog aix "slices.Insert[[]loop.example/g00245/impl.File,loop.example/g00245/impl.File]" 3 where
 mixed:=hM
 f22:=Tryz.func276.trans (by kernel_rfl)
 t3:=by kernel_rfl
 a3:=Ins.kY (P:=Tryz.prog) (t:=3) (d:= .int .i64) (by kernel_rfl) rfl
 t4:=by kernel_rfl
 a4:=Ins.kY (P:=Tryz.prog) (t:=4) (d:= .bool) (by kernel_rfl) rfl
 t24:=by kernel_rfl
 a24:=Ins.kY (P:=Tryz.prog) (t:=41) (d:= .slice 94) (by kernel_rfl) rfl
 z9:=Ins.IP hE (t:=94) (ti:=⟨ai,[.s, .s, .i .i64],40⟩) (by kernel_rfl)
theorem an0:bX Tryz.prog T 276 afL:=
 Ins.AM (e:=94) (te:=⟨ai,[.s, .s, .i .i64],40⟩) (by kernel_rfl) rfl (by kernel_rfl) hE ahx
  (λargs w=>run_callFunc_extern (e:=fH #[41,41] #[4]) Tryz.func283 (by kernel_rfl) (by kernel_rfl) (by kernel_rfl) (by kernel_rfl) args w)
  ⟨_,Tryz.func276,by kernel_rfl,by kernel_rfl⟩

def akD:=en [(266,W0),(276,afL)] [(3,[3,4,5,6])]
def as7:Fn [.R, .S, .S, .I] As:=λa b c d=>[aV [.sh 94 a],aV [.s b, .s c, .n d]]
def ayq:Fn [.R] dj:=λa=>⟨[aV [.ow 94 ai a]],[]⟩
def HF:Fn [.I, .S, .S, .I, .R] Tb:=λa b c d e=>[cP 6 0,cP 8 1,cP 10 2,cI 12 a,oB 1 [.s b, .s c, .n d],oB 3 [.nl],oB 5 [.own 3],oR 7 94 e]
def Th(N:aC)(K:Kt R):=gO.l3 N (J HF (.exit 0) K)
def adq(N:aC):It R:=(lp 3 (al HF (λK=>Th N K N) an) ln)
theorem aam(N:aC):bY akD (adq N (R:=R)) (bM Tryz.f265 3):=lq 3 HF (Th N) λK g=>gO.r3 N g (J HF (.exit 0) K)
def afE:=dJ as7 ayq gO.c gO.v
theorem anT:bX Tryz.prog T 265 afE:=fq (E:=akD) (aD ad6 (aD an0 aW)) Tryz.func265 (it:=λN=>adq N) (λN=>(bh (aam N) bw)) gO.b gO.vo

def auq:=en [(194,WK),(120,KX),(264,afD),(265,afE),(266,W0)] []
def asD:Fn [.R, .I, .S, .S, .S] As:=λa b c d e=>[aV [.sh 94 a],aV [.n b, .s c, .s d, .s e]]
def axX:Fn [.R, .B] dj:=λa b=>⟨[aV [.ow 94 ai a],aB b],[]⟩
def afj:=dJ asD axX rE.c rE.v
theorem anx:bX Tryz.prog T 230 afj:=fr (E:=auq) (aD adR (aD O_ (aD anS (aD anT (aD ad6 aW))))) Tryz.func230 rE.b rE.vo

def akc:=en [(229,PE),(230,afj)] [(3,[1,4,5,6,13,14,15])]
def arL:Fn [.R, .R] As:=λa b=>[aV [.sh 94 a],aH 218 b]
def aw6:Fn [.R, .I] dj:=λa b=>⟨[aV [.ow 94 ai a],aI b],[]⟩
def Hg:Fn [.R, .I, .R, .I, .I, .R] Tb:=λa b c d e f=>[cH 2 218 a,cP 8 0,cI 10 b,cP 12 1,cH 26 218 c,cI 28 d,cI 30 e,oB 1 [.nl],oB 3 [.own 2],oR 5 94 f]
def Jx:Fn [.R, .I, .R, .I, .I, .R] Tb:=λa b c d e f=>[cH 2 218 a,cP 8 0,cI 10 b,cP 12 1,cH 26 218 c,cI 28 d,cI 30 e,oB 1 [.own 2],oB 3 [.own 2],oR 5 94 f]
def Sw(N:aC)(K:Kt R):=vU.l3 N (J Jx .ret K) (J Hg (.exit 0) K)
def acX(N:aC):It R:=(lp 3 (al Hg (λK=>Sw N K N) an) ln)
theorem ZG(N:aC):bY akc (acX N (R:=R)) (bM Tryz.f170 3):=lq 3 Hg (Sw N) λK g=>vU.r3 N g (J Jx .ret K) (J Hg (.exit 0) K)
def WC:=dJ arL aw6 vU.c vU.v
theorem adK:bX Tryz.prog T 170 WC:=fq (E:=akc) (aD VC (aD anx aW)) Tryz.func170 (it:=λN=>acX N) (λN=>(bh (ZG N) bw)) vU.b vU.vo

def E98:=XQ T md [(168,aeM),(145,Ps),(169,aeN),(170,WC)] [] [] [(0,1,.own 51),(0,2,.own 9),(0,3,.own 9),(0,4,.own 26),(0,6,.own 75),(0,7,.own 72),(0,9,.own 94),(0,10,.own 3),(0,11,.own 51)]
def A98:Fn [.I, .R, .R, .R, .R, .I, .R, .R, .I, .R, .R, .R, .I, .I] As:=λa b c d e f g h i j k l m o=>[.pt [.n a, .ow 51 ai b, .ow 9 ai c, .ow 9 ai d, .ow 26 ai e, .n f, .ow 75 ai g, .ow 72 ai h, .n i, .ow 94 ai j, .ow 3 ai k, .ow 51 ai l],aI m,aI o]
def k98:Fn [.B, .I, .R, .R, .R, .R, .I, .R, .R, .I, .R, .R, .R] dj:=λa b c d e f g h i j k l m=>⟨[aB a],[[.n b, .ow 51 ai c, .ow 9 ai d, .ow 9 ai e, .ow 26 ai f, .n g, .ow 75 ai h, .ow 72 ai i, .n j, .ow 94 ai k, .ow 3 ai l, .ow 51 ai m]]⟩
def apf:=dJ A98 k98 XE.c XE.v
theorem azs:bX Tryz.prog T 98 apf:=fr (E:=E98) (aD amZ (aD Vn (aD am0 (aD adK aW)))) Tryz.func98 XE.b XE.vo

def E99:=en [(160,Ef),(165,Pw),(171,WD)] []
def A99:Fn [.I, .R, .R, .R, .R, .I, .R, .R, .I, .I] As:=λa b c d e f g h i j=>[aV [.n a, .sh 51 b, .sh 9 c, .sh 9 d, .sh 26 e, .n f, .sh 75 g, .sh 72 h, .n i],aI j]
def k99:Fn [.I, .R, .R, .R, .R, .I, .R, .R, .I, .B] dj:=λa b c d e f g h i j=>⟨[aV [.n a, .ow 51 ai b, .ow 9 ai c, .ow 9 ai d, .ow 26 ai e, .n f, .ow 75 ai g, .ow 72 ai h, .n i],aB j],[]⟩
def apg:=dJ A99 k99 XF.c XF.v
theorem azt:bX Tryz.prog T 99 apg:=fr (E:=E99) (aD Gu (aD Vt (aD adL aW))) Tryz.func99 XF.b XF.vo

def atV:=en [] []
def arN:Fn [.I, .I] As:=λa b=>[aI a,aI b]
def aw8:Fn [.I] dj:=λa=>⟨[aI a],[]⟩
def aeO:=dJ arN aw8 BR.c BR.v
theorem am1:bX Tryz.prog T 172 aeO:=fr (E:=atV) aW Tryz.func172 BR.b BR.vo

def atj:=en [(160,Ef),(172,aeO)] []
def aqK:Fn [.I, .R, .R, .R, .R, .I, .R, .R, .I, .I] As:=λa b c d e f g h i j=>[aV [.n a, .sh 51 b, .sh 9 c, .sh 9 d, .sh 26 e, .n f, .sh 75 g, .sh 72 h, .n i],aI j]
def av8:Fn [.I, .R, .R, .R, .R, .I, .R, .R, .I] dj:=λa b c d e f g h i=>⟨[aV [.n a, .ow 51 ai b, .ow 9 ai c, .ow 9 ai d, .ow 26 ai e, .n f, .ow 75 ai g, .ow 72 ai h, .n i]],[]⟩
def aee:=dJ aqK av8 EK.c EK.v
theorem amr:bX Tryz.prog T 100 aee:=fr (E:=atj) (aD Gu (aD am1 aW)) Tryz.func100 EK.b EK.vo

def ake:=en [(173,M9),(173,M_),(176,WE)] [(5,[0,1,5,6])]
def arP:Fn [.R, .I] As:=λa b=>[aO 72 a, .v ak [.fn 176 [[.n b]]]]
def aw_:Fn [.R] dj:=λa=>⟨[aO 72 a],[[.nl]]⟩
def Hi:Fn [.I, .I, .I, .R] Tb:=λa b c d=>[cA 0 (.own 900000000),cA 2 (.fn 176 [[.n a]]),cI 10 b,cI 12 c,oR 1800000001 72 d]
def Sy(N:aC)(K:Kt R):=wY.l5 N (J Hi (.exit 0) K)
def acZ(N:aC):It R:=(lp 5 (al Hi (λK=>Sy N K N) an) ln)
theorem ZI(N:aC):bY ake (acZ N (R:=R)) (bM Tryz.f175 5):=lq 5 Hi (Sy N) λK g=>wY.r5 N g (J Hi (.exit 0) K)
def aeQ:=dJ arP aw_ wY.c wY.v
theorem am3:bX Tryz.prog T 175 aeQ:=fq (E:=ake) (aD Vu (aD Vv (aD adM aW))) Tryz.func175 (it:=λN=>acZ N) (λN=>(bh (ZI N) bw)) wY.b wY.vo

def atl:=en [(160,Ef),(175,aeQ)] []
def aqM:Fn [.I, .R, .R, .R, .R, .I, .R, .R, .I, .I] As:=λa b c d e f g h i j=>[aV [.n a, .sh 51 b, .sh 9 c, .sh 9 d, .sh 26 e, .n f, .sh 75 g, .sh 72 h, .n i],aI j]
def av_:Fn [.I, .R, .R, .R, .R, .I, .R, .R, .I] dj:=λa b c d e f g h i=>⟨[aV [.n a, .ow 51 ai b, .ow 9 ai c, .ow 9 ai d, .ow 26 ai e, .n f, .ow 75 ai g, .ow 72 ai h, .n i]],[]⟩
def aef:=dJ aqM av_ EL.c EL.v
theorem ams:bX Tryz.prog T 102 aef:=fr (E:=atl) (aD Gu (aD am3 aW)) Tryz.func102 EL.b EL.vo

def akf:=en [(120,KX),(229,PE)] [(5,[1,4,6,17,18,19])]
def arR:Fn [.R, .R] As:=λa b=>[aV [.sh 94 a],aH 3 b]
def axb:Fn [.R, .B] dj:=λa b=>⟨[aV [.ow 94 ai a],aB b],[]⟩
def Hj:Fn [.R, .R, .I, .I, .R] Tb:=λa b c d e=>[cH 2 3 a,cP 8 0,cP 12 1,cH 34 94 b,cI 36 c,cI 38 d,oB 1 [.nl],oB 3 [.own 2],oR 5 94 e]
def Sz(N:aC)(K:Kt R):=wZ.l5 N (J Hj (.exit 0) K)
def ac0(N:aC):It R:=(lp 5 (al Hj (λK=>Sz N K N) an) ln)
theorem ZJ(N:aC):bY akf (ac0 N (R:=R)) (bM Tryz.f177 5):=lq 5 Hj (Sz N) λK g=>wZ.r5 N g (J Hj (.exit 0) K)
def aeR:=dJ arR axb wZ.c wZ.v
theorem am4:bX Tryz.prog T 177 aeR:=fq (E:=akf) (aD O_ (aD VC aW)) Tryz.func177 (it:=λN=>ac0 N) (λN=>(bh (ZJ N) bw)) wZ.b wZ.vo

def atw:=en [(194,WK)] []
def aq2:Fn [.R, .S] As:=λa b=>[aV [.sh 94 a],aS b]
def awq:Fn [.S, .B] dj:=λa b=>⟨[aS a,aB b],[]⟩
def Wu:=dJ aq2 awq uU.c uU.v
theorem adC:bX Tryz.prog T 121 Wu:=fr (E:=atw) (aD adR aW) Tryz.func121 uU.b uU.vo

def akk:=en [(82,qo)] [(5,[0,1,4,5,6,7,8])]
def ar8:Fn [.S, .I] As:=λa b=>[aS a,aI b]
def axs:Fn [.I, .I, .B] dj:=λa b c=>⟨[aI a,aI b,aB c],[]⟩
def Ad:Fn [.S, .I, .I, .I, .B, .I, .I] Tb:=λa b c d e f g=>[cA 0 (.s a),cI 2 b,cI 8 c,cI 10 d,cA 12 (.b e),cI 14 f,cI 16 g]
def SI(N:aC)(K:Kt R):=gq.l5 N (J Ad .ret K) (J Ad (.exit 0) K)
def ac5(N:aC):It R:=(lp 5 (al Ad (λK=>SI N K N) an) ln)
theorem ZR(N:aC):bY akk (ac5 N (R:=R)) (bM Tryz.f195 5):=lq 5 Ad (SI N) λK g=>gq.r5 N g (J Ad .ret K) (J Ad (.exit 0) K)
def Pz:=dJ ar8 axs (ct _) gq.v
theorem Vx:bX Tryz.prog T 195 Pz:=fh (E:=akk) (aD qJ aW) Tryz.func195 (it:=λN=>ac5 N) (λN=>(bh (ZR N) bw)) gq.b λx f h=>gq.dP _ x.1 x.2.1 f.1.1

def ajW:=en [(195,Pz),(82,qo),(196,WL)] [(3,[0,4,5])]
def aq3:Fn [.S] As:=λa=>[aS a]
def awr:Fn [.R, .I] dj:=λa b=>⟨[aO 9 a,aI b],[]⟩
def G6:Fn [.S, .I, .R] Tb:=λa b c=>[cA 0 (.s a),cA 8 (.own 0),cI 10 b,oR 1 9 c]
def R8(N:aC)(K:Kt R):=U122.l3 N (J G6 (.exit 0) K)
def acG(N:aC):It R:=(lp 3 (al G6 (λK=>R8 N K N) an) ln)
theorem Zm(N:aC):bY ajW (acG N (R:=R)) (bM Tryz.f122 3):=lq 3 G6 (R8 N) λK g=>U122.r3 N g (J G6 (.exit 0) K)
def aen:=dJ aq3 awr U122.c U122.v
theorem amA:bX Tryz.prog T 122 aen:=fq (E:=ajW) (aD Vx (aD qJ (aD adS aW))) Tryz.func122 (it:=λN=>acG N) (λN=>(bh (Zm N) bw)) U122.b U122.vo

def aua:=en [(195,Pz)] []
def ar_:Fn [.S, .I] As:=λa b=>[aS a,aI b]
def axu:Fn [.S, .I, .B] dj:=λa b c=>⟨[aS a,aI b,aB c],[]⟩
def ae2:=dJ ar_ axu (ct _) s8.v
theorem anf:bX Tryz.prog T 197 ae2:=fh (E:=aua) (aD Vx aW) Tryz.func197 (it:=λ_=>ln) (λ_=>bw) (λ_=>s8.b) λx f h=>⟨0,s8.dP _ x.1 x.2.1 f.1.1⟩

def atx:=en [(197,ae2),(195,Pz),(125,KY)] []
def aq4:Fn [.S] As:=λa=>[aS a]
def aws:Fn [.S, .I, .I, .S, .B] dj:=λa b c d e=>⟨[aV [.s a, .n b, .n c, .s d],aB e],[]⟩
def aeo:=dJ aq4 aws (ct _) vR.v
theorem amB:bX Tryz.prog T 123 aeo:=fh (E:=atx) (aD anf (aD Vx (aD Pb aW))) Tryz.func123 (it:=λ_=>ln) (λ_=>bw) (λ_=>vR.b) λx f h=>⟨0,vR.dP _ x.1 f.1.1⟩

def E61:=en [(120,KX),(121,Wu),(122,aen),(123,aeo),(124,Wv)] [(7,[3,27,28,29])]
def A61:Fn [.R] As:=λa=>[aV [.sh 94 a]]
def k61:Fn [.R] dj:=λa=>⟨[aO 51 a],[]⟩
def N8:Fn [.I, .I, .R, .R] Tb:=λa b c d=>[cA 6 (.own 0),cA 54 (.own 1),cI 56 a,cI 58 b,oR 1 51 c,oR 3 9 d]
def abS(N:aC)(K:Kt R):=U61.l7 N (J N8 (.exit 0) K)
def alX(N:aC):It R:=(lp 7 (al N8 (λK=>abS N K N) an) ln)
theorem ah2(N:aC):bY E61 (alX N (R:=R)) (bM Tryz.f61 7):=lq 7 N8 (abS N) λK g=>U61.r7 N g (J N8 (.exit 0) K)
def aoZ:=dJ A61 k61 U61.c U61.v
theorem azb:bX Tryz.prog T 61 aoZ:=fq (E:=E61) (aD O_ (aD adC (aD amA (aD amB (aD adD aW))))) Tryz.func61 (it:=λN=>alX N) (λN=>(bh (ah2 N) bw)) U61.b U61.vo

def akg:=en [(120,KX),(228,WU),(121,Wu)] [(5,[2,4,5,6,17,18,19])]
def arS:Fn [.R, .R] As:=λa b=>[aV [.sh 94 a],aH 51 b]
def axc:Fn [.R, .B] dj:=λa b=>⟨[aO 218 a,aB b],[]⟩
def Aa:Fn [.B, .S, .R, .I, .I, .R] Tb:=λa b c d e f=>[cP 4 0,cA 8 .nl,cA 10 (.b a),cA 12 (.s b),cH 34 51 c,cI 36 d,cI 38 e,oB 1 [.sh 94 f]]
def SA(N:aC)(K:Kt R):=BT.l5 N (J Aa .ret K) (J Aa (.exit 0) K)
def ac1(N:aC):It R:=(lp 5 (al Aa (λK=>SA N K N) an) ln)
theorem ZK(N:aC):bY akg (ac1 N (R:=R)) (bM Tryz.f178 5):=lq 5 Aa (SA N) λK g=>BT.r5 N g (J Aa .ret K) (J Aa (.exit 0) K)
def aeS:=dJ arS axc BT.c BT.v
theorem am5:bX Tryz.prog T 178 aeS:=fq (E:=akg) (aD O_ (aD ad0 (aD adC aW))) Tryz.func178 (it:=λN=>ac1 N) (λN=>(bh (ZK N) bw)) BT.b BT.vo

def E32:=en [(42,aiC),(62,aa6),(87,aiL)] [(4,[0,4,5,11,12,13])]
def A32:Fn [.I, .R] As:=λa b=>[aI a,aH 51 b]
def k32:Fn [.I, .R, .R, .R, .R, .I, .R, .R, .I] dj:=λa b c d e f g h i=>⟨[aV [.n a, .ow 51 ai b, .ow 9 ai c, .ow 9 ai d, .ow 26 ai e, .n f, .ow 75 ai g, .ow 72 ai h, .n i]],[]⟩
def N3:Fn [.I, .R, .I, .I, .I, .I, .I, .I, .I, .I, .R, .R, .R, .R, .R, .R] Tb:=λa b c d e f g h i j k l m o p q=>[cI 0 a,cP 8 0,cP 10 1,cH 22 51 b,cI 24 c,cI 26 d,oB 1 [.n e, .nl, .nl, .nl, .nl, .n f, .nl, .nl, .n g],oB 3 [.n h, .own 2, .own 3, .own 4, .own 5, .n i, .own 6, .own 7, .n j],oR 5 51 k,oR 7 9 l,oR 9 9 m,oR 11 26 o,oR 13 75 p,oR 15 72 q]
def abJ(N:aC)(K:Kt R):=Rz.l4 N (J N3 (.exit 0) K)
def alS(N:aC):It R:=(lp 4 (al N3 (λK=>abJ N K N) an) ln)
theorem ahT(N:aC):bY E32 (alS N (R:=R)) (bM Tryz.f32 4):=lq 4 N3 (abJ N) λK g=>Rz.r4 N g (J N3 (.exit 0) K)
def aoP:=dJ A32 k32 Rz.c Rz.v
theorem ay3:bX Tryz.prog T 32 aoP:=fq (E:=E32) (aD an5 (aD aif (aD aod aW))) Tryz.func32 (it:=λN=>alS N) (λN=>(bh (ahT N) bw)) Rz.b Rz.vo

def ajQ:=XQ T md [(177,aeR),(61,aoZ),(62,aa6),(178,aeS),(170,WC),(32,aoP)] [(3,[0,4,26,27,28])] [] [(0,1,.own 51),(0,2,.own 9),(0,3,.own 9),(0,4,.own 26),(0,6,.own 75),(0,7,.own 72),(0,9,.own 94),(0,10,.own 3),(0,11,.own 51)]
def aqN:Fn [.I, .R, .R, .R, .R, .I, .R, .R, .I, .R, .R, .R, .R] As:=λa b c d e f g h i j k l m=>[.pt [.n a, .ow 51 ai b, .ow 9 ai c, .ow 9 ai d, .ow 26 ai e, .n f, .ow 75 ai g, .ow 72 ai h, .n i, .ow 94 ai j, .ow 3 ai k, .ow 51 ai l],aH 3 m]
def awa:Fn [.I, .R, .R, .R, .R, .I, .R, .R, .I, .R, .R, .R] dj:=λa b c d e f g h i j k l=>⟨[],[[.n a, .ow 51 ai b, .ow 9 ai c, .ow 9 ai d, .ow 26 ai e, .n f, .ow 75 ai g, .ow 72 ai h, .n i, .ow 94 ai j, .ow 3 ai k, .ow 51 ai l]]⟩
def G4:Fn [.I, .I, .I, .I, .I, .R, .R, .R, .R, .R, .R, .R, .R, .R, .R, .R] Tb:=λa b c d e f g h i j k l m o p q=>[cP 0 900000900,cA 8 (.own 1),cA 52 (.own 2),cI 54 a,cI 56 b,oB 1800001801 [.n c, .own 900000001, .own 900000002, .own 900000003, .own 900000004, .n d, .own 900000006, .own 900000007, .n e, .own 9, .own 900000010, .own 900000011],oR 3 51 f,oR 5 51 g,oR 1800000003 51 h,oR 1800000005 9 i,oR 1800000007 9 j,oR 1800000009 26 k,oR 1800000013 75 l,oR 1800000015 72 m,oR 19 94 o,oR 1800000021 3 p,oR 1800000023 51 q]
def R0(N:aC)(K:Kt R):=BL.l3 N (J G4 (.exit 0) K)
def acA(N:aC):It R:=(lp 3 (al G4 (λK=>R0 N K N) an) ln)
theorem Zf(N:aC):bY ajQ (acA N (R:=R)) (bM Tryz.f103 3):=lq 3 G4 (R0 N) λK g=>BL.r3 N g (J G4 (.exit 0) K)
def aeg:=dJ aqN awa BL.c BL.v
theorem amt:bX Tryz.prog T 103 aeg:=fq (E:=ajQ) (aD am4 (aD azb (aD aif (aD am5 (aD adK (aD ay3 aW)))))) Tryz.func103 (it:=λN=>acA N) (λN=>(bh (Zf N) bw)) BL.b BL.vo

def atm:=en [] []
def aqO:Fn [.B] As:=λa=>[aB a]
def awb:Fn [.I] dj:=λa=>⟨[aI a],[]⟩
def aeh:=dJ aqO awb (ct _) HL.v
theorem amu:bX Tryz.prog T 104 aeh:=ft (E:=atm) aW Tryz.func104 HL.b λ(a0,_)=>HL.dP _ a0

def E43:=XQ T md [(96,apd),(97,ape),(98,apf),(99,apg),(100,aee),(101,Wr),(102,aef),(103,aeg),(104,aeh)] [] [] [(0,1,.own 51),(0,2,.own 9),(0,3,.own 9),(0,4,.own 26),(0,6,.own 75),(0,7,.own 72),(0,9,.own 94),(0,10,.own 3),(0,11,.own 51)]
def A43:Fn [.I, .R, .R, .R, .R, .I, .R, .R, .I, .R, .R, .R, .I, .I, .S, .I, .R] As:=λa b c d e f g h i j k l m o p q r=>[.pt [.n a, .ow 51 ai b, .ow 9 ai c, .ow 9 ai d, .ow 26 ai e, .n f, .ow 75 ai g, .ow 72 ai h, .n i, .ow 94 ai j, .ow 3 ai k, .ow 51 ai l],aV [.n m, .n o, .s p, .n q, .sh 3 r]]
def k43:Fn [.I, .I, .R, .R, .R, .R, .I, .R, .R, .I, .R, .R, .R] dj:=λa b c d e f g h i j k l m=>⟨[aI a],[[.n b, .ow 51 ai c, .ow 9 ai d, .ow 9 ai e, .ow 26 ai f, .n g, .ow 75 ai h, .ow 72 ai i, .n j, .ow 94 ai k, .ow 3 ai l, .ow 51 ai m]]⟩
def aoT:=dJ A43 k43 Xy.c Xy.v
theorem ay6:bX Tryz.prog T 43 aoT:=fr (E:=E43) (aD azq (aD azr (aD azs (aD azt (aD amr (aD adz (aD ams (aD amt (aD amu aW))))))))) Tryz.func43 Xy.b Xy.vo

def E11:=en [(31,aoO),(42,aiC),(43,aoT)] [(4,[0,2,3,14,15,16]),(11,[2,6,27,28,29,1000000006009094,1000000006010003,1000000006011051])]
def A11:Fn [.R] As:=λa=>[aH 29 a]
def k11:Fn [.I, .R, .R, .R, .R, .I, .R, .R, .I, .R, .R, .R, .B] dj:=λa b c d e f g h i j k l m=>⟨[aV [.n a, .ow 51 ai b, .ow 9 ai c, .ow 9 ai d, .ow 26 ai e, .n f, .ow 75 ai g, .ow 72 ai h, .n i, .ow 94 ai j, .ow 3 ai k, .ow 51 ai l],aB m],[]⟩
def FH:Fn [.R, .B, .R, .I, .I, .I, .I, .I] Tb:=λa b c d e f g h=>[cH 0 29 a,cP 4 0,cA 6 (.b b),cH 28 29 c,cI 30 d,cI 32 e,oB 1 [.n f, .nl, .nl, .nl, .nl, .n g, .nl, .nl, .n h, .nl, .nl, .nl]]
def G5:Fn [.R, .I, .I, .I, .I, .I, .I, .I, .I, .R, .R, .R, .R, .R, .R, .R, .R, .R] Tb:=λa b c d e f g h i j k l m o p q r s=>[cP 4 0,cP 12 1,cH 54 29 a,cI 56 b,cI 58 c,oB 1 [.n d, .nl, .nl, .nl, .nl, .n e, .nl, .nl, .n f, .nl, .nl, .nl],oB 3 [.n g, .own 2, .own 3, .own 4, .own 5, .n h, .own 6, .own 7, .n i, .own 8, .own 9, .own 10],oR 5 51 j,oR 7 9 k,oR 9 9 l,oR 11 26 m,oR 13 75 o,oR 15 72 p,oR 17 94 q,oR 19 3 r,oR 21 51 s]
def abC(N:aC)(K:Kt R):=Lw.l4 N (J FH .ret K) (J FH (.exit 0) K)
def R6(N:aC)(K:Kt R):=Lw.QP N (J G5 (.exit 2) K)
def ahz(N:aC):It R:=(lp 4 (al FH (λK=>abC N K N) an) (lp 11 (al G5 (λK=>R6 N K N) an) ln))
theorem ahM(N:aC):bY E11 (ahz N (R:=R)) (bM Tryz.f11 4):=lq 4 FH (abC N) λK g=>Lw.r4 N g (J FH .ret K) (J FH (.exit 0) K)
theorem Zk(N:aC):bY E11 (ahz N (R:=R)) (bM Tryz.f11 11):=lq 11 G5 (R6 N) λK g=>Lw.tO N g (J G5 (.exit 2) K)
def aoE:=dJ A11 k11 Lw.c Lw.v
theorem ayQ:bX Tryz.prog T 11 aoE:=fq (E:=E11) (aD ay2 (aD an5 (aD ay6 aW))) Tryz.func11 (it:=λN=>ahz N) (λN=>(bh (ahM N) (bh (Zk N) bw))) Lw.b Lw.vo

def atB:=en [] []
def arc:Fn [.S, .I, .I, .S, .S, .I, .I, .S] As:=λa b c d e f g h=>[aV [.s a, .n b, .n c, .s d],aV [.s e, .n f, .n g, .s h]]
def awB:Fn [.B] dj:=λa=>⟨[aB a],[]⟩
def aev:=dJ arc awB (ct _) Lx.v
theorem amI:bX Tryz.prog T 133 aev:=ft (E:=atB) aW Tryz.func133 Lx.b λ(a0,a1,a2,a3,a4,a5,a6,a7,_)=>Lx.dP _ a0 a1 a2 a3 a4 a5 a6 a7

def E69:=en [(133,aev)] [(4,[0,1,4,5])]
def A69:Fn [.R, .R] As:=λa b=>[aH 51 a,aH 51 b]
def k69:Fn [.B] dj:=λa=>⟨[aB a],[]⟩
def FP:Fn [.R, .R, .B, .I] Tb:=λa b c d=>[cH 0 51 a,cH 2 51 b,cA 8 (.b c),cI 10 d]
def abU(N:aC)(K:Kt R):=LK.l4 N (J FP .ret K) (J FP (.exit 0) K)
def alZ(N:aC):It R:=(lp 4 (al FP (λK=>abU N K N) an) ln)
theorem ah4(N:aC):bY E69 (alZ N (R:=R)) (bM Tryz.f69 4):=lq 4 FP (abU N) λK g=>LK.r4 N g (J FP .ret K) (J FP (.exit 0) K)
def aiH:=dJ A69 k69 LK.c LK.v
theorem an_:bX Tryz.prog T 69 aiH:=fq (E:=E69) (aD amI aW) Tryz.func69 (it:=λN=>alZ N) (λN=>(bh (ah4 N) bw)) LK.b LK.vo

def akl:=en [] [(4,[0,1,4,5])]
def asa:Fn [.R, .R] As:=λa b=>[aH 9 a,aH 9 b]
def axv:Fn [.B] dj:=λa=>⟨[aB a],[]⟩
def Ae:Fn [.R, .R, .B, .I] Tb:=λa b c d=>[cH 0 9 a,cH 2 9 b,cA 8 (.b c),cI 10 d]
def SJ(N:aC)(K:Kt R):=vZ.l4 N (J Ae .ret K) (J Ae (.exit 0) K)
def ac6(N:aC):It R:=(lp 4 (al Ae (λK=>SJ N K N) an) ln)
theorem ZS(N:aC):bY akl (ac6 N (R:=R)) (bM Tryz.f199 4):=lq 4 Ae (SJ N) λK g=>vZ.r4 N g (J Ae .ret K) (J Ae (.exit 0) K)
def ae4:=dJ asa axv vZ.c vZ.v
theorem anh:bX Tryz.prog T 199 ae4:=fq (E:=akl) aW Tryz.func199 (it:=λN=>ac6 N) (λN=>(bh (ZS N) bw)) vZ.b vZ.vo

def E68:=en [] [(4,[0,1,4,5])]
def A68:Fn [.R, .R] As:=λa b=>[aH 3 a,aH 3 b]
def k68:Fn [.B] dj:=λa=>⟨[aB a],[]⟩
def FO:Fn [.R, .R, .B, .I] Tb:=λa b c d=>[cH 0 3 a,cH 2 3 b,cA 8 (.b c),cI 10 d]
def abT(N:aC)(K:Kt R):=Qc.l4 N (J FO .ret K) (J FO (.exit 0) K)
def alY(N:aC):It R:=(lp 4 (al FO (λK=>abT N K N) an) ln)
theorem ah3(N:aC):bY E68 (alY N (R:=R)) (bM Tryz.f68 4):=lq 4 FO (abT N) λK g=>Qc.r4 N g (J FO .ret K) (J FO (.exit 0) K)
def aa7:=dJ A68 k68 (ct _) Qc.v
theorem aih:bX Tryz.prog T 68 aa7:=fh (E:=E68) aW Tryz.func68 (it:=λN=>alY N) (λN=>(bh (ah3 N) bw)) Qc.b λx f h=>Qc.dP _ x.1 x.2.1 f.1.1 f.2.1.1

def aky:=en [(68,aa7)] [(4,[0,1,4,5])]
def asU:Fn [.R, .R] As:=λa b=>[aH 26 a,aH 26 b]
def ayd:Fn [.B] dj:=λa=>⟨[aB a],[]⟩
def Ao:Fn [.R, .R, .B, .I] Tb:=λa b c d=>[cH 0 26 a,cH 2 26 b,cA 8 (.b c),cI 10 d]
def Tc(N:aC)(K:Kt R):=BW.l4 N (J Ao .ret K) (J Ao (.exit 0) K)
def adl(N:aC):It R:=(lp 4 (al Ao (λK=>Tc N K N) an) ln)
theorem aah(N:aC):bY aky (adl N (R:=R)) (bM Tryz.f250 4):=lq 4 Ao (Tc N) λK g=>BW.r4 N g (J Ao .ret K) (J Ao (.exit 0) K)
def afu:=dJ asU ayd BW.c BW.v
theorem anJ:bX Tryz.prog T 250 afu:=fq (E:=aky) (aD aih aW) Tryz.func250 (it:=λN=>adl N) (λN=>(bh (aah N) bw)) BW.b BW.vo

def aub:=en [(250,afu)] []
def asb:Fn [.R, .I, .R, .I] As:=λa b c d=>[aV [.sh 26 a, .n b],aV [.sh 26 c, .n d]]
def axw:Fn [.B] dj:=λa=>⟨[aB a],[]⟩
def ae5:=dJ asb axw EU.c EU.v
theorem ani:bX Tryz.prog T 200 ae5:=fr (E:=aub) (aD anJ aW) Tryz.func200 EU.b EU.vo

def atA:=en [(199,ae4),(200,ae5)] []
def aq9:Fn [.R, .R, .R, .I, .R, .R, .R, .I] As:=λa b c d e f g h=>[aV [.sh 9 a, .sh 9 b, .sh 26 c, .n d],aV [.sh 9 e, .sh 9 f, .sh 26 g, .n h]]
def awx:Fn [.B] dj:=λa=>⟨[aB a],[]⟩
def aer:=dJ aq9 awx EN.c EN.v
theorem amE:bX Tryz.prog T 129 aer:=fr (E:=atA) (aD anh (aD ani aW)) Tryz.func129 EN.b EN.vo

def auc:=en [] []
def asc:Fn [.S, .S, .I, .I, .I, .S, .S, .I, .I, .I] As:=λa b c d e f g h i j=>[aV [.s a, .s b, .n c, .n d, .n e],aV [.s f, .s g, .n h, .n i, .n j]]
def axx:Fn [.B] dj:=λa=>⟨[aB a],[]⟩
def ae6:=dJ asc axx (ct _) LB.v
theorem anj:bX Tryz.prog T 201 ae6:=ft (E:=auc) aW Tryz.func201 LB.b λ(a0,a1,a2,a3,a4,a5,a6,a7,a8,a9,_)=>LB.dP _ a0 a1 a2 a3 a4 a5 a6 a7 a8 a9

def ajZ:=en [(201,ae6)] [(4,[0,1,4,5])]
def aq_:Fn [.R, .R] As:=λa b=>[aH 75 a,aH 75 b]
def awy:Fn [.B] dj:=λa=>⟨[aB a],[]⟩
def zW:Fn [.R, .R, .B, .I] Tb:=λa b c d=>[cH 0 75 a,cH 2 75 b,cA 8 (.b c),cI 10 d]
def Sa(N:aC)(K:Kt R):=BN.l4 N (J zW .ret K) (J zW (.exit 0) K)
def acJ(N:aC):It R:=(lp 4 (al zW (λK=>Sa N K N) an) ln)
theorem Zp(N:aC):bY ajZ (acJ N (R:=R)) (bM Tryz.f130 4):=lq 4 zW (Sa N) λK g=>BN.r4 N g (J zW .ret K) (J zW (.exit 0) K)
def aes:=dJ aq_ awy BN.c BN.v
theorem amF:bX Tryz.prog T 130 aes:=fq (E:=ajZ) (aD anj aW) Tryz.func130 (it:=λN=>acJ N) (λN=>(bh (Zp N) bw)) BN.b BN.vo

def aud:=en [] []
def asd:Fn [.I, .S, .I, .I, .I, .S, .I, .I, .S, .I, .I, .I, .S, .I] As:=λa b c d e f g h i j k l m o=>[aV [.n a, .s b, .n c, .n d, .n e, .s f, .n g],aV [.n h, .s i, .n j, .n k, .n l, .s m, .n o]]
def axy:Fn [.B] dj:=λa=>⟨[aB a],[]⟩
def ae7:=dJ asd axy (ct _) LC.v
theorem ank:bX Tryz.prog T 202 ae7:=ft (E:=aud) aW Tryz.func202 LC.b λ(a0,a1,a2,a3,a4,a5,a6,a7,a8,a9,a10,a11,a12,a13,_)=>LC.dP _ a0 a1 a2 a3 a4 a5 a6 a7 a8 a9 a10 a11 a12 a13

def aj0:=en [(202,ae7)] [(4,[0,1,4,5])]
def ara:Fn [.R, .R] As:=λa b=>[aH 72 a,aH 72 b]
def awz:Fn [.B] dj:=λa=>⟨[aB a],[]⟩
def zX:Fn [.R, .R, .B, .I] Tb:=λa b c d=>[cH 0 72 a,cH 2 72 b,cA 8 (.b c),cI 10 d]
def Sb(N:aC)(K:Kt R):=BO.l4 N (J zX .ret K) (J zX (.exit 0) K)
def acK(N:aC):It R:=(lp 4 (al zX (λK=>Sb N K N) an) ln)
theorem Zq(N:aC):bY aj0 (acK N (R:=R)) (bM Tryz.f131 4):=lq 4 zX (Sb N) λK g=>BO.r4 N g (J zX .ret K) (J zX (.exit 0) K)
def aet:=dJ ara awz BO.c BO.v
theorem amG:bX Tryz.prog T 131 aet:=fq (E:=aj0) (aD ank aW) Tryz.func131 (it:=λN=>acK N) (λN=>(bh (Zq N) bw)) BO.b BO.vo

def E66:=en [(69,aiH),(129,aer),(130,aes),(131,aet)] []
def A66:Fn [.I, .R, .R, .R, .R, .I, .R, .R, .I, .I, .R, .R, .R, .R, .I, .R, .R, .I] As:=λa b c d e f g h i j k l m o p q r s=>[aV [.n a, .sh 51 b, .sh 9 c, .sh 9 d, .sh 26 e, .n f, .sh 75 g, .sh 72 h, .n i],aV [.n j, .sh 51 k, .sh 9 l, .sh 9 m, .sh 26 o, .n p, .sh 75 q, .sh 72 r, .n s]]
def k66:Fn [.B] dj:=λa=>⟨[aB a],[]⟩
def ao2:=dJ A66 k66 XA.c XA.v
theorem aze:bX Tryz.prog T 66 ao2:=fr (E:=E66) (aD an_ (aD amE (aD amF (aD amG aW)))) Tryz.func66 XA.b XA.vo

def aue:=en [] []
def ase:Fn [.S, .S, .I, .S, .S, .I] As:=λa b c d e f=>[aV [.s a, .s b, .n c],aV [.s d, .s e, .n f]]
def axz:Fn [.B] dj:=λa=>⟨[aB a],[]⟩
def ae8:=dJ ase axz (ct _) LD.v
theorem anl:bX Tryz.prog T 203 ae8:=ft (E:=aue) aW Tryz.func203 LD.b λ(a0,a1,a2,a3,a4,a5,_)=>LD.dP _ a0 a1 a2 a3 a4 a5

def aj1:=en [(203,ae8)] [(4,[0,1,4,5])]
def arb:Fn [.R, .R] As:=λa b=>[aH 94 a,aH 94 b]
def awA:Fn [.B] dj:=λa=>⟨[aB a],[]⟩
def zY:Fn [.R, .R, .B, .I] Tb:=λa b c d=>[cH 0 94 a,cH 2 94 b,cA 8 (.b c),cI 10 d]
def Sd(N:aC)(K:Kt R):=BP.l4 N (J zY .ret K) (J zY (.exit 0) K)
def acL(N:aC):It R:=(lp 4 (al zY (λK=>Sd N K N) an) ln)
theorem Zr(N:aC):bY aj1 (acL N (R:=R)) (bM Tryz.f132 4):=lq 4 zY (Sd N) λK g=>BP.r4 N g (J zY .ret K) (J zY (.exit 0) K)
def aeu:=dJ arb awA BP.c BP.v
theorem amH:bX Tryz.prog T 132 aeu:=fq (E:=aj1) (aD anl aW) Tryz.func132 (it:=λN=>acL N) (λN=>(bh (Zr N) bw)) BP.b BP.vo

def E67:=en [(132,aeu)] []
def A67:Fn [.R, .R] As:=λa b=>[aV [.sh 94 a],aV [.sh 94 b]]
def k67:Fn [.B] dj:=λa=>⟨[aB a],[]⟩
def ao3:=dJ A67 k67 XB.c XB.v
theorem azf:bX Tryz.prog T 67 ao3:=fr (E:=E67) (aD amH aW) Tryz.func67 XB.b XB.vo

def E23:=en [(66,ao2),(67,ao3),(68,aa7),(69,aiH)] []
def A23:Fn [.I, .R, .R, .R, .R, .I, .R, .R, .I, .R, .R, .R, .I, .R, .R, .R, .R, .I, .R, .R, .I, .R, .R, .R] As:=λa b c d e f g h i j k l m o p q r s t u v w x y=>[aV [.n a, .sh 51 b, .sh 9 c, .sh 9 d, .sh 26 e, .n f, .sh 75 g, .sh 72 h, .n i, .sh 94 j, .sh 3 k, .sh 51 l],aV [.n m, .sh 51 o, .sh 9 p, .sh 9 q, .sh 26 r, .n s, .sh 75 t, .sh 72 u, .n v, .sh 94 w, .sh 3 x, .sh 51 y]]
def k23:Fn [.B] dj:=λa=>⟨[aB a],[]⟩
def aoJ:=dJ A23 k23 Rw.c Rw.v
theorem ayW:bX Tryz.prog T 23 aoJ:=fr (E:=E23) (aD aze (aD azf (aD aih (aD an_ aW)))) Tryz.func23 Rw.b Rw.vo

def E70:=en [(68,aa7)] []
def A70:Fn [.I, .I, .S, .I, .R, .I, .I, .S, .I, .R] As:=λa b c d e f g h i j=>[aV [.n a, .n b, .s c, .n d, .sh 3 e],aV [.n f, .n g, .s h, .n i, .sh 3 j]]
def k70:Fn [.B] dj:=λa=>⟨[aB a],[]⟩
def ao4:=dJ A70 k70 (ct _) U70.v
theorem azg:bX Tryz.prog T 70 ao4:=ft (E:=E70) (aD aih aW) Tryz.func70 U70.b λ(a0,a1,a2,a3,a4,a5,a6,a7,a8,a9,_)=>U70.dP _ a0 a1 a2 a3 a4 a5 a6 a7 a8 a9

def E24:=en [(70,ao4)] [(4,[0,1,4,5])]
def A24:Fn [.R, .R] As:=λa b=>[aH 29 a,aH 29 b]
def k24:Fn [.B] dj:=λa=>⟨[aB a],[]⟩
def FJ:Fn [.R, .R, .B, .I] Tb:=λa b c d=>[cH 0 29 a,cH 2 29 b,cA 8 (.b c),cI 10 d]
def abH(N:aC)(K:Kt R):=Rx.l4 N (J FJ .ret K) (J FJ (.exit 0) K)
def alQ(N:aC):It R:=(lp 4 (al FJ (λK=>abH N K N) an) ln)
theorem ahR(N:aC):bY E24 (alQ N (R:=R)) (bM Tryz.f24 4):=lq 4 FJ (abH N) λK g=>Rx.r4 N g (J FJ .ret K) (J FJ (.exit 0) K)
def aoK:=dJ A24 k24 Rx.c Rx.v
theorem ayX:bX Tryz.prog T 24 aoK:=fq (E:=E24) (aD azg aW) Tryz.func24 (it:=λN=>alQ N) (λN=>(bh (ahR N) bw)) Rx.b Rx.vo

def E71:=en [] [(4,[0,3])]
def A71:Fn [.I] As:=λa=>[aI a]
def k71:Fn [.S] dj:=λa=>⟨[aS a],[]⟩
def N9:Fn [.I, .S] Tb:=λa b=>[cI 0 a,cA 6 (.s b)]
def abV(N:aC)(K:Kt R):=ic.l4 N (J N9 (.exit 0) K)
def al0(N:aC):It R:=(lp 4 (al N9 (λK=>abV N K N) an) ln)
theorem ah5(N:aC):bY E71 (al0 N (R:=R)) (bM Tryz.f71 4):=lq 4 N9 (abV N) λK g=>ic.r4 N g (J N9 (.exit 0) K)
def B7:=dJ A71 k71 ic.c ic.v
theorem DO:bX Tryz.prog T 71 B7:=fq (E:=E71) aW Tryz.func71 (it:=λN=>al0 N) (λN=>(bh (ah5 N) bw)) ic.b ic.vo

def E72:=en [] [(2,[0,1,5])]
def A72:Fn [.R, .I] As:=λa b=>[aO 3 a,aI b]
def k72:Fn [.I, .R] dj:=λa b=>⟨[aI a],[[.kp b]]⟩
def N_:Fn [.I, .I, .R] Tb:=λa b c=>[cA 0 (.own 900000000),cI 2 a,cI 10 b,oR 1800000001 3 c]
def abW(N:aC)(K:Kt R):=sP.l2 N (J N_ (.exit 0) K)
def al1(N:aC):It R:=(lp 2 (al N_ (λK=>abW N K N) an) ln)
theorem ah6(N:aC):bY E72 (al1 N (R:=R)) (bM Tryz.f72 2):=lq 2 N_ (abW N) λK g=>sP.r2 N g (J N_ (.exit 0) K)
def aa8:=dJ A72 k72 sP.c sP.v
theorem aii:bX Tryz.prog T 72 aa8:=fq (E:=E72) aW Tryz.func72 (it:=λN=>al1 N) (λN=>(bh (ah6 N) bw)) sP.b sP.vo

def E25:=en [(71,B7),(72,aa8)] [(2,[0,1,5])]
def A25:Fn [.R, .I] As:=λa b=>[aO 29 a,aI b]
def k25:Fn [.I, .R] dj:=λa b=>⟨[aI a],[[.kp b]]⟩
def N2:Fn [.I, .I, .R] Tb:=λa b c=>[cA 0 (.own 900000000),cI 2 a,cI 10 b,oR 1800000001 29 c]
def abI(N:aC)(K:Kt R):=K9.l2 N (J N2 (.exit 0) K)
def alR(N:aC):It R:=(lp 2 (al N2 (λK=>abI N K N) an) ln)
theorem ahS(N:aC):bY E25 (alR N (R:=R)) (bM Tryz.f25 2):=lq 2 N2 (abI N) λK g=>K9.r2 N g (J N2 (.exit 0) K)
def aoL:=dJ A25 k25 K9.c K9.v
theorem ayY:bX Tryz.prog T 25 aoL:=fq (E:=E25) (aD DO (aD aii aW)) Tryz.func25 (it:=λN=>alR N) (λN=>(bh (ahS N) bw)) K9.b K9.vo

def E75:=en [(71,B7)] [(2,[0,1,5])]
def A75:Fn [.R, .I] As:=λa b=>[aO 51 a,aI b]
def k75:Fn [.I, .R] dj:=λa b=>⟨[aI a],[[.kp b]]⟩
def Oa:Fn [.I, .I, .R] Tb:=λa b c=>[cA 0 (.own 900000000),cI 2 a,cI 10 b,oR 1800000001 51 c]
def abX(N:aC)(K:Kt R):=qS.l2 N (J Oa (.exit 0) K)
def al2(N:aC):It R:=(lp 2 (al Oa (λK=>abX N K N) an) ln)
theorem ah7(N:aC):bY E75 (al2 N (R:=R)) (bM Tryz.f75 2):=lq 2 Oa (abX N) λK g=>qS.r2 N g (J Oa (.exit 0) K)
def aiI:=dJ A75 k75 qS.c qS.v
theorem aoa:bX Tryz.prog T 75 aiI:=fq (E:=E75) (aD DO aW) Tryz.func75 (it:=λN=>al2 N) (λN=>(bh (ah7 N) bw)) qS.b qS.vo

def akm:=en [(71,B7)] [(2,[0,1,5])]
def asf:Fn [.R, .I] As:=λa b=>[aO 9 a,aI b]
def axA:Fn [.I, .R] dj:=λa b=>⟨[aI a],[[.kp b]]⟩
def Hn:Fn [.I, .I, .R] Tb:=λa b c=>[cA 0 (.own 900000000),cI 2 a,cI 10 b,oR 1800000001 9 c]
def SK(N:aC)(K:Kt R):=j6.l2 N (J Hn (.exit 0) K)
def ac7(N:aC):It R:=(lp 2 (al Hn (λK=>SK N K N) an) ln)
theorem ZT(N:aC):bY akm (ac7 N (R:=R)) (bM Tryz.f204 2):=lq 2 Hn (SK N) λK g=>j6.r2 N g (J Hn (.exit 0) K)
def ae9:=dJ asf axA j6.c j6.v
theorem anm:bX Tryz.prog T 204 ae9:=fq (E:=akm) (aD DO aW) Tryz.func204 (it:=λN=>ac7 N) (λN=>(bh (ZT N) bw)) j6.b j6.vo

def akz:=en [(72,aa8)] [(2,[0,1,5])]
def asV:Fn [.R, .I] As:=λa b=>[aO 26 a,aI b]
def aye:Fn [.I, .R] dj:=λa b=>⟨[aI a],[[.kp b]]⟩
def HD:Fn [.I, .I, .R] Tb:=λa b c=>[cA 0 (.own 900000000),cI 2 a,cI 10 b,oR 1800000001 26 c]
def Td(N:aC)(K:Kt R):=rF.l2 N (J HD (.exit 0) K)
def adm(N:aC):It R:=(lp 2 (al HD (λK=>Td N K N) an) ln)
theorem aai(N:aC):bY akz (adm N (R:=R)) (bM Tryz.f251 2):=lq 2 HD (Td N) λK g=>rF.r2 N g (J HD (.exit 0) K)
def afv:=dJ asV aye rF.c rF.v
theorem anK:bX Tryz.prog T 251 afv:=fq (E:=akz) (aD aii aW) Tryz.func251 (it:=λN=>adm N) (λN=>(bh (aai N) bw)) rF.b rF.vo

def auf:=en [(251,afv)] []
def asg:Fn [.R, .I, .I] As:=λa b c=>[aV [.ow 26 ai a, .n b],aI c]
def axB:Fn [.I, .R] dj:=λa b=>⟨[aI a],[[.kp b, .nl]]⟩
def ae_:=dJ asg axB C2.c C2.v
theorem ann:bX Tryz.prog T 205 ae_:=fr (E:=auf) (aD anK aW) Tryz.func205 C2.b C2.vo

def atC:=en [(204,ae9),(205,ae_)] []
def ard:Fn [.R, .R, .R, .I, .I] As:=λa b c d e=>[aV [.ow 9 ai a, .ow 9 ai b, .ow 26 ai c, .n d],aI e]
def awC:Fn [.I, .R, .R, .R] dj:=λa b c d=>⟨[aI a],[[.kp b, .kp c, .kp d, .nl]]⟩
def aew:=dJ ard awC rD.c rD.v
theorem amJ:bX Tryz.prog T 134 aew:=fr (E:=atC) (aD anm (aD ann aW)) Tryz.func134 rD.b rD.vo

def aj2:=en [(71,B7)] [(2,[0,1,5])]
def arf:Fn [.R, .I] As:=λa b=>[aO 75 a,aI b]
def awD:Fn [.I, .R] dj:=λa b=>⟨[aI a],[[.kp b]]⟩
def G9:Fn [.I, .I, .R] Tb:=λa b c=>[cA 0 (.own 900000000),cI 2 a,cI 10 b,oR 1800000001 75 c]
def Sf(N:aC)(K:Kt R):=lL.l2 N (J G9 (.exit 0) K)
def acM(N:aC):It R:=(lp 2 (al G9 (λK=>Sf N K N) an) ln)
theorem Zs(N:aC):bY aj2 (acM N (R:=R)) (bM Tryz.f135 2):=lq 2 G9 (Sf N) λK g=>lL.r2 N g (J G9 (.exit 0) K)
def aex:=dJ arf awD lL.c lL.v
theorem amK:bX Tryz.prog T 135 aex:=fq (E:=aj2) (aD DO aW) Tryz.func135 (it:=λN=>acM N) (λN=>(bh (Zs N) bw)) lL.b lL.vo

def aj3:=en [(71,B7)] [(2,[0,1,5])]
def arh:Fn [.R, .I] As:=λa b=>[aO 72 a,aI b]
def awE:Fn [.I, .R] dj:=λa b=>⟨[aI a],[[.kp b]]⟩
def G_:Fn [.I, .I, .R] Tb:=λa b c=>[cA 0 (.own 900000000),cI 2 a,cI 10 b,oR 1800000001 72 c]
def Sg(N:aC)(K:Kt R):=kX.l2 N (J G_ (.exit 0) K)
def acN(N:aC):It R:=(lp 2 (al G_ (λK=>Sg N K N) an) ln)
theorem Zt(N:aC):bY aj3 (acN N (R:=R)) (bM Tryz.f136 2):=lq 2 G_ (Sg N) λK g=>kX.r2 N g (J G_ (.exit 0) K)
def aey:=dJ arh awE kX.c kX.v
theorem amL:bX Tryz.prog T 136 aey:=fq (E:=aj3) (aD DO aW) Tryz.func136 (it:=λN=>acN N) (λN=>(bh (Zt N) bw)) kX.b kX.vo

def E73:=en [(75,aiI),(134,aew),(135,aex),(136,aey)] []
def A73:Fn [.I, .R, .R, .R, .R, .I, .R, .R, .I, .I] As:=λa b c d e f g h i j=>[aV [.n a, .ow 51 ai b, .ow 9 ai c, .ow 9 ai d, .ow 26 ai e, .n f, .ow 75 ai g, .ow 72 ai h, .n i],aI j]
def k73:Fn [.I, .R, .R, .R, .R, .R, .R] dj:=λa b c d e f g=>⟨[aI a],[[.nl, .kp b, .kp c, .kp d, .kp e, .nl, .kp f, .kp g, .nl]]⟩
def ao5:=dJ A73 k73 Cj.c Cj.v
theorem azh:bX Tryz.prog T 73 ao5:=fr (E:=E73) (aD aoa (aD amJ (aD amK (aD amL aW)))) Tryz.func73 Cj.b Cj.vo

def aj4:=en [(71,B7)] [(2,[0,1,5])]
def ari:Fn [.R, .I] As:=λa b=>[aO 94 a,aI b]
def awF:Fn [.I, .R] dj:=λa b=>⟨[aI a],[[.kp b]]⟩
def Ha:Fn [.I, .I, .R] Tb:=λa b c=>[cA 0 (.own 900000000),cI 2 a,cI 10 b,oR 1800000001 94 c]
def Sh(N:aC)(K:Kt R):=mL.l2 N (J Ha (.exit 0) K)
def acO(N:aC):It R:=(lp 2 (al Ha (λK=>Sh N K N) an) ln)
theorem Zu(N:aC):bY aj4 (acO N (R:=R)) (bM Tryz.f137 2):=lq 2 Ha (Sh N) λK g=>mL.r2 N g (J Ha (.exit 0) K)
def aez:=dJ ari awF mL.c mL.v
theorem amM:bX Tryz.prog T 137 aez:=fq (E:=aj4) (aD DO aW) Tryz.func137 (it:=λN=>acO N) (λN=>(bh (Zu N) bw)) mL.b mL.vo

def E74:=en [(137,aez)] []
def A74:Fn [.R, .I] As:=λa b=>[aV [.ow 94 ai a],aI b]
def k74:Fn [.I, .R] dj:=λa b=>⟨[aI a],[[.kp b]]⟩
def ao6:=dJ A74 k74 LL.c LL.v
theorem azi:bX Tryz.prog T 74 ao6:=fr (E:=E74) (aD amM aW) Tryz.func74 LL.b LL.vo

def E26:=en [(73,ao5),(74,ao6),(72,aa8),(75,aiI)] []
def A26:Fn [.I, .R, .R, .R, .R, .I, .R, .R, .I, .R, .R, .R, .I] As:=λa b c d e f g h i j k l m=>[aV [.n a, .ow 51 ai b, .ow 9 ai c, .ow 9 ai d, .ow 26 ai e, .n f, .ow 75 ai g, .ow 72 ai h, .n i, .ow 94 ai j, .ow 3 ai k, .ow 51 ai l],aI m]
def k26:Fn [.I, .R, .R, .R, .R, .R, .R, .R, .R, .R] dj:=λa b c d e f g h i j=>⟨[aI a],[[.nl, .kp b, .kp c, .kp d, .kp e, .nl, .kp f, .kp g, .nl, .kp h, .kp i, .kp j]]⟩
def aoM:=dJ A26 k26 Ry.c Ry.v
theorem ayZ:bX Tryz.prog T 26 aoM:=fr (E:=E26) (aD azh (aD azi (aD aii (aD aoa aW)))) Tryz.func26 Ry.b Ry.vo

def E79:=en [(71,B7)] [(2,[0,1,4,5])]
def A79:Fn [.R, .I] As:=λa b=>[aH 51 a,aI b]
def k79:Fn [.I] dj:=λa=>⟨[aI a],[]⟩
def FR:Fn [.R, .I, .I, .I] Tb:=λa b c d=>[cH 0 51 a,cI 2 b,cI 8 c,cI 10 d]
def abZ(N:aC)(K:Kt R):=C6.l2 N (J FR .ret K) (J FR (.exit 0) K)
def al4(N:aC):It R:=(lp 2 (al FR (λK=>abZ N K N) an) ln)
theorem ah9(N:aC):bY E79 (al4 N (R:=R)) (bM Tryz.f79 2):=lq 2 FR (abZ N) λK g=>C6.r2 N g (J FR .ret K) (J FR (.exit 0) K)
def aiK:=dJ A79 k79 C6.c C6.v
theorem aoc:bX Tryz.prog T 79 aiK:=fq (E:=E79) (aD DO aW) Tryz.func79 (it:=λN=>al4 N) (λN=>(bh (ah9 N) bw)) C6.b C6.vo

def akn:=en [(71,B7)] [(2,[0,1,4,5])]
def ash:Fn [.R, .I] As:=λa b=>[aH 9 a,aI b]
def axC:Fn [.I] dj:=λa=>⟨[aI a],[]⟩
def Af:Fn [.R, .I, .I, .I] Tb:=λa b c d=>[cH 0 9 a,cI 2 b,cI 8 c,cI 10 d]
def SL(N:aC)(K:Kt R):=o7.l2 N (J Af .ret K) (J Af (.exit 0) K)
def ac8(N:aC):It R:=(lp 2 (al Af (λK=>SL N K N) an) ln)
theorem ZU(N:aC):bY akn (ac8 N (R:=R)) (bM Tryz.f206 2):=lq 2 Af (SL N) λK g=>o7.r2 N g (J Af .ret K) (J Af (.exit 0) K)
def afa:=dJ ash axC o7.c o7.v
theorem ano:bX Tryz.prog T 206 afa:=fq (E:=akn) (aD DO aW) Tryz.func206 (it:=λN=>ac8 N) (λN=>(bh (ZU N) bw)) o7.b o7.vo

def E78:=en [] [(2,[0,1,4,5])]
def A78:Fn [.R, .I] As:=λa b=>[aH 3 a,aI b]
def k78:Fn [.I] dj:=λa=>⟨[aI a],[]⟩
def FQ:Fn [.R, .I, .I, .I] Tb:=λa b c d=>[cH 0 3 a,cI 2 b,cI 8 c,cI 10 d]
def abY(N:aC)(K:Kt R):=FW.l2 N (J FQ .ret K) (J FQ (.exit 0) K)
def al3(N:aC):It R:=(lp 2 (al FQ (λK=>abY N K N) an) ln)
theorem ah8(N:aC):bY E78 (al3 N (R:=R)) (bM Tryz.f78 2):=lq 2 FQ (abY N) λK g=>FW.r2 N g (J FQ .ret K) (J FQ (.exit 0) K)
def aiJ:=dJ A78 k78 FW.c FW.v
theorem aob:bX Tryz.prog T 78 aiJ:=fq (E:=E78) aW Tryz.func78 (it:=λN=>al3 N) (λN=>(bh (ah8 N) bw)) FW.b FW.vo

def akA:=en [(78,aiJ)] [(2,[0,1,4,5])]
def asW:Fn [.R, .I] As:=λa b=>[aH 26 a,aI b]
def ayf:Fn [.I] dj:=λa=>⟨[aI a],[]⟩
def Ap:Fn [.R, .I, .I, .I] Tb:=λa b c d=>[cH 0 26 a,cI 2 b,cI 8 c,cI 10 d]
def Te(N:aC)(K:Kt R):=u_.l2 N (J Ap .ret K) (J Ap (.exit 0) K)
def adn(N:aC):It R:=(lp 2 (al Ap (λK=>Te N K N) an) ln)
theorem aaj(N:aC):bY akA (adn N (R:=R)) (bM Tryz.f252 2):=lq 2 Ap (Te N) λK g=>u_.r2 N g (J Ap .ret K) (J Ap (.exit 0) K)
def afw:=dJ asW ayf u_.c u_.v
theorem anL:bX Tryz.prog T 252 afw:=fq (E:=akA) (aD aob aW) Tryz.func252 (it:=λN=>adn N) (λN=>(bh (aaj N) bw)) u_.b u_.vo

def aug:=en [(252,afw)] []
def asi:Fn [.R, .I, .I] As:=λa b c=>[aV [.sh 26 a, .n b],aI c]
def axD:Fn [.I] dj:=λa=>⟨[aI a],[]⟩
def afb:=dJ asi axD C3.c C3.v
theorem anp:bX Tryz.prog T 207 afb:=fr (E:=aug) (aD anL aW) Tryz.func207 C3.b C3.vo

def atD:=en [(206,afa),(207,afb)] []
def arj:Fn [.R, .R, .R, .I, .I] As:=λa b c d e=>[aV [.sh 9 a, .sh 9 b, .sh 26 c, .n d],aI e]
def awG:Fn [.I] dj:=λa=>⟨[aI a],[]⟩
def aeA:=dJ arj awG vS.c vS.v
theorem amN:bX Tryz.prog T 138 aeA:=fr (E:=atD) (aD ano (aD anp aW)) Tryz.func138 vS.b vS.vo

def aj5:=en [(71,B7)] [(2,[0,1,4,5])]
def ark:Fn [.R, .I] As:=λa b=>[aH 75 a,aI b]
def awH:Fn [.I] dj:=λa=>⟨[aI a],[]⟩
def zZ:Fn [.R, .I, .I, .I] Tb:=λa b c d=>[cH 0 75 a,cI 2 b,cI 8 c,cI 10 d]
def Si(N:aC)(K:Kt R):=vT.l2 N (J zZ .ret K) (J zZ (.exit 0) K)
def acP(N:aC):It R:=(lp 2 (al zZ (λK=>Si N K N) an) ln)
theorem Zv(N:aC):bY aj5 (acP N (R:=R)) (bM Tryz.f139 2):=lq 2 zZ (Si N) λK g=>vT.r2 N g (J zZ .ret K) (J zZ (.exit 0) K)
def aeB:=dJ ark awH vT.c vT.v
theorem amO:bX Tryz.prog T 139 aeB:=fq (E:=aj5) (aD DO aW) Tryz.func139 (it:=λN=>acP N) (λN=>(bh (Zv N) bw)) vT.b vT.vo

def aj6:=en [(71,B7)] [(2,[0,1,4,5])]
def arl:Fn [.R, .I] As:=λa b=>[aH 72 a,aI b]
def awI:Fn [.I] dj:=λa=>⟨[aI a],[]⟩
def z5:Fn [.R, .I, .I, .I] Tb:=λa b c d=>[cH 0 72 a,cI 2 b,cI 8 c,cI 10 d]
def Sj(N:aC)(K:Kt R):=Aw.l2 N (J z5 .ret K) (J z5 (.exit 0) K)
def acQ(N:aC):It R:=(lp 2 (al z5 (λK=>Sj N K N) an) ln)
theorem Zw(N:aC):bY aj6 (acQ N (R:=R)) (bM Tryz.f140 2):=lq 2 z5 (Sj N) λK g=>Aw.r2 N g (J z5 .ret K) (J z5 (.exit 0) K)
def aeC:=dJ arl awI Aw.c Aw.v
theorem amP:bX Tryz.prog T 140 aeC:=fq (E:=aj6) (aD DO aW) Tryz.func140 (it:=λN=>acQ N) (λN=>(bh (Zw N) bw)) Aw.b Aw.vo

def E76:=en [(79,aiK),(138,aeA),(139,aeB),(140,aeC)] []
def A76:Fn [.I, .R, .R, .R, .R, .I, .R, .R, .I, .I] As:=λa b c d e f g h i j=>[aV [.n a, .sh 51 b, .sh 9 c, .sh 9 d, .sh 26 e, .n f, .sh 75 g, .sh 72 h, .n i],aI j]
def k76:Fn [.I] dj:=λa=>⟨[aI a],[]⟩
def ao7:=dJ A76 k76 Jc.c Jc.v
theorem azj:bX Tryz.prog T 76 ao7:=fr (E:=E76) (aD aoc (aD amN (aD amO (aD amP aW)))) Tryz.func76 Jc.b Jc.vo

def aj7:=en [(71,B7)] [(2,[0,1,4,5])]
def arn:Fn [.R, .I] As:=λa b=>[aH 94 a,aI b]
def awJ:Fn [.I] dj:=λa=>⟨[aI a],[]⟩
def z7:Fn [.R, .I, .I, .I] Tb:=λa b c d=>[cH 0 94 a,cI 2 b,cI 8 c,cI 10 d]
def Sk(N:aC)(K:Kt R):=Ax.l2 N (J z7 .ret K) (J z7 (.exit 0) K)
def acR(N:aC):It R:=(lp 2 (al z7 (λK=>Sk N K N) an) ln)
theorem Zx(N:aC):bY aj7 (acR N (R:=R)) (bM Tryz.f141 2):=lq 2 z7 (Sk N) λK g=>Ax.r2 N g (J z7 .ret K) (J z7 (.exit 0) K)
def aeD:=dJ arn awJ Ax.c Ax.v
theorem amQ:bX Tryz.prog T 141 aeD:=fq (E:=aj7) (aD DO aW) Tryz.func141 (it:=λN=>acR N) (λN=>(bh (Zx N) bw)) Ax.b Ax.vo

def E77:=en [(141,aeD)] []
def A77:Fn [.R, .I] As:=λa b=>[aV [.sh 94 a],aI b]
def k77:Fn [.I] dj:=λa=>⟨[aI a],[]⟩
def ao8:=dJ A77 k77 LM.c LM.v
theorem azk:bX Tryz.prog T 77 ao8:=fr (E:=E77) (aD amQ aW) Tryz.func77 LM.b LM.vo

def E27:=en [(76,ao7),(77,ao8),(78,aiJ),(79,aiK)] []
def A27:Fn [.I, .R, .R, .R, .R, .I, .R, .R, .I, .R, .R, .R, .I] As:=λa b c d e f g h i j k l m=>[aV [.n a, .sh 51 b, .sh 9 c, .sh 9 d, .sh 26 e, .n f, .sh 75 g, .sh 72 h, .n i, .sh 94 j, .sh 3 k, .sh 51 l],aI m]
def k27:Fn [.I] dj:=λa=>⟨[aI a],[]⟩
def aoN:=dJ A27 k27 Ty.c Ty.v
theorem ay0:bX Tryz.prog T 27 aoN:=fr (E:=E27) (aD azj (aD azk (aD aob (aD aoc aW)))) Tryz.func27 Ty.b Ty.vo

def E5:=en [(21,aoH),(22,aoI),(16,aoG),(11,aoE),(23,aoJ),(24,aoK),(25,aoL),(26,aoM),(27,aoN)] []
def A5:Fn [.R] As:=λa=>[aH 100 a]
def k5:Fn [.B] dj:=λa=>⟨[aB a],[]⟩
def sp5:=dJ A5 k5 U5.c U5.v
theorem ok5:bX Tryz.prog T 5 sp5:=fr (E:=E5) (aD ayU (aD ayV (aD ayS (aD ayQ (aD ayW (aD ayX (aD ayY (aD ayZ (aD ay0 aW))))))))) Tryz.func5 U5.b U5.vo

end Go.FG.Se
