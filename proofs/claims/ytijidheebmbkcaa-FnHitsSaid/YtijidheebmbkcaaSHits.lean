/- Functions of the program: the evaluation of each, and that a call of it does what is told. No condition. -/
import Derived.Test.YtijidheebmbkcaaTab
import Derived.Test.YtijidheebmbkcaaPHits
import Derived.Test.YtijidheebmbkcaaIns
set_option linter.unusedVariables false
set_option linter.unusedSimpArgs false
set_option maxRecDepth 100000
open Bool renaming true->ae,false->ah
open Function renaming comp_def->my
open Go.Extern.SlicesOverlaps renaming overlaps->eZ
open Go.Shelf renaming Ren->HR
open Nat renaming beq->a_
open _root_ renaming Nat->au,List->ak,Option->ar,Bool->aL
namespace Go.FG.Se
open Go.Proofs Go.Proofs.Try
variable {R:Type}
abbrev FO:=jf Try.prog T

def E11:=en [] []
def A11:Fn [.R] As:=λa=>[aH 5 a]
def k11:Fn [.B] dp:=λa=>⟨[aB a],[]⟩
def XW:=dR A11 k11 (ct _) RZ.v
theorem adK:FO 11 XW:=ft (E:=E11) bH func11 RZ.b λ(a0,_)=>RZ.jX _ a0

def E52:=en [] [(3,[0,3,4])]
def A52:Fn [.R] As:=λa=>[aH 5 a]
def k52:Fn [.R, .I, .I] dp:=λa b c=>⟨[.pt [.sh 5 a, .n b, .n c]],[]⟩
def E0:Fn [.R, .I, .I] Tb:=λa b c=>[cH 0 5 a,cI 6 b,cI 8 c]
def Pn(N:au)(K:Kt R):=H0.l3 N (J E0 (.exit 0) K)
def WK(N:au):It R:=(lp 3 (al E0 (λK=>Pn N K N) an) ln)
theorem Tz(N:au):dy E52 (WK N (R:=R)) (di f52 3):=lq 3 E0 (Pn N) λK g=>H0.r3 N g (J E0 (.exit 0) K)
def Yl:=dR A52 k52 H0.c H0.v
theorem adS:FO 52 Yl:=fq (E:=E52) bH func52 (it:=λN=>WK N) (λN=>(cz (Tz N) cW)) H0.b H0.vo

def E58:=en [] []
def A58:Fn [.R, .I, .I] As:=λa b c=>[.pt [.sh 5 a, .n b, .n c]]
def k58:Fn [.I, .R, .I, .I] dp:=λa b c d=>⟨[aI a],[[.sh 5 b, .n c, .n d]]⟩
def T5:=dR A58 k58 cK.c cK.v
theorem Xy:FO 58 T5:=fr (E:=E58) bH func58 cK.b cK.vo

def E59:=en [(58,T5)] []
def A59:Fn [.R, .I, .I, .I] As:=λa b c d=>[.pt [.sh 5 a, .n b, .n c],aI d]
def k59:Fn [.I, .R, .I, .I] dp:=λa b c d=>⟨[aI a],[[.sh 5 b, .n c, .n d]]⟩
def OP:=dR A59 k59 vh.c vh.v
theorem adT:FO 59 OP:=fr (E:=E59) (aT Xy bH) func59 vh.b vh.vo

def E14:=en [(52,Yl),(58,T5),(59,OP)] [(5,[3,4,5])]
def A14:Fn [.R] As:=λa=>[aH 5 a]
def k14:Fn [.R] dp:=λa=>⟨[aO 3 a],[]⟩
def EZ:Fn [.I, .R, .I, .I, .R] Tb:=λa b c d e=>[cP 6 0,cA 8 (.own 1),cI 10 a,oB 1 [.sh 5 b, .n c, .n d],oR 3 3 e]
def Pj(N:au)(K:Kt R):=HY.l5 N (J EZ (.exit 0) K)
def WI(N:au):It R:=(lp 5 (al EZ (λK=>Pj N K N) an) ln)
theorem Tx(N:au):dy E14 (WI N (R:=R)) (di f14 5):=lq 5 EZ (Pj N) λK g=>HY.r5 N g (J EZ (.exit 0) K)
def XZ:=dR A14 k14 HY.c HY.v
theorem adL:FO 14 XZ:=fq (E:=E14) (aT adS (aT Xy (aT adT bH))) func14 (it:=λN=>WI N) (λN=>(cz (Tx N) cW)) HY.b HY.vo

def Mz:=en [] [(3,[0,1,3])]
def aag:Fn [] As:=[]
def acW:Fn [.R, .I] dp:=λa b=>⟨[aV [.ow 30 ae a, .n b]],[]⟩
def nT:Fn [.I, .I, .I] Tb:=λa b c=>[cP 0 0,cP 2 1,cI 6 a,oB 1 [.nl, .n b],oB 3 [.nl, .n c]]
def lH:Fn [.I, .I, .I, .R] Tb:=λa b c d=>[cP 0 0,cP 2 1,cI 6 a,oB 1 [.nl, .n b],oB 3 [.own 2, .n c],oR 5 30 d]
def Ir(N:au)(K:Kt R):=zY.l3 N (J nT (.exit 0) K) (J lH (.exit 0) K)
def EO(N:au)(K:Kt R):=zY.Ce N (J nT (.exit 0) K) (J lH (.exit 0) K)
def FP(N:au):It R:=(lp 3 (al nT (λK=>Ir N K N) (al lH (λK=>EO N K N) an)) ln)
theorem Gj(N:au)(K:Kt R):Wd Mz (FP N) (di f169 3) 3 K lH (EO N K):=lw (λg=>zY.K5 N (cmp _ nT (g∘gk)) (cmp _ lH (g∘gk)) (J nT (.exit 0) K) (J lH (.exit 0) K)) λm i=>by simp only[my,wf i];rfl
theorem Uc(N:au)(K:Kt R):Wd Mz (FP N) (di f169 3) 3 K nT (Ir N K):=lw (λg=>zY.r3 N (cmp _ nT (g∘gk)) (cmp _ lH (g∘gk)) (J nT (.exit 0) K) (J lH (.exit 0) K)) λm i=>by simp only[my,wf i,wf (Gj N K m)];rfl
theorem N5(N:au):dy Mz (FP N (R:=R)) (di f169 3):=lm 3 (ga nT (Uc N) (ga lH (Gj N) Aq))
def QV:=dR aag acW zY.c zY.v
theorem Xf:FO 169 QV:=fq (E:=Mz) bH func169 (it:=λN=>FP N) (λN=>(cz (N5 N) cW)) zY.b zY.vo

def E77:=en [(169,QV)] []
def A77:Fn [] As:=[]
def k77:Fn [.R, .R, .R, .I] dp:=λa b c d=>⟨[aV [.ow 9 ae a, .ow 9 ae b, .ow 30 ae c, .n d]],[]⟩
def Ys:=dR A77 k77 (ct _) Y1.v
theorem adW:FO 77 Ys:=ft (E:=E77) (aT Xf bH) func77 Y1.b λ_=>Y1.jX _

def E25:=en [(77,Ys)] []
def A25:Fn [] As:=[]
def k25:Fn [.I, .R, .R, .R, .R, .I, .R, .R, .I] dp:=λa b c d e f g h i=>⟨[aV [.n a, .ow 86 ae b, .ow 9 ae c, .ow 9 ae d, .ow 30 ae e, .n f, .ow 126 ae g, .ow 62 ae h, .n i]],[]⟩
def Yg:=dR A25 k25 (ct _) wc.v
theorem adN:FO 25 Yg:=ft (E:=E25) (aT adW bH) func25 wc.b λ_=>wc.jX _

def aaW:=en [] []
def aaf:Fn [.R] As:=λa=>[aH 86 a]
def acV:Fn [.R] dp:=λa=>⟨[aO 86 a],[]⟩
def Ls:=dR aaf acV rK.c rK.v
theorem Qv:FO 168 Ls:=fr (E:=aaW) bH func168 rK.b rK.vo

def aa4:=en [] []
def aax:Fn [.R] As:=λa=>[aH 9 a]
def ade:Fn [.R] dp:=λa=>⟨[aO 9 a],[]⟩
def LB:=dR aax ade o8.c o8.v
theorem QA:FO 190 LB:=fr (E:=aa4) bH func190 o8.b o8.vo

def aa7:=en [] []
def aaJ:Fn [.R] As:=λa=>[aH 3 a]
def adr:Fn [.R] dp:=λa=>⟨[aO 3 a],[]⟩
def Q9:=dR aaJ adr qU.c qU.v
theorem Xr:FO 221 Q9:=fr (E:=aa7) bH func221 qU.b qU.vo

def MA:=en [(221,Q9)] [(3,[2,3,10,11,12])]
def aam:Fn [.R, .I] As:=λa b=>[aV [.sh 30 a, .n b]]
def ac2:Fn [.R, .I] dp:=λa b=>⟨[aV [.ow 30 ae a, .n b]],[]⟩
def nU:Fn [.R, .I, .I, .I, .I] Tb:=λa b c d e=>[cP 4 0,cP 6 1,cH 20 30 a,cI 22 b,cI 24 c,oB 1 [.nl, .n d],oB 3 [.nl, .n e]]
def lI:Fn [.R, .I, .I, .I, .I, .R] Tb:=λa b c d e f=>[cP 4 0,cP 6 1,cH 20 30 a,cI 22 b,cI 24 c,oB 1 [.nl, .n d],oB 3 [.own 2, .n e],oR 5 30 f]
def Iv(N:au)(K:Kt R):=iq.l3 N (J nU (.exit 0) K) (J lI (.exit 0) K)
def ES(N:au)(K:Kt R):=iq.Ce N (J nU (.exit 0) K) (J lI (.exit 0) K)
def FQ(N:au):It R:=(lp 3 (al nU (λK=>Iv N K N) (al lI (λK=>ES N K N) an)) ln)
theorem Gk(N:au)(K:Kt R):Wd MA (FQ N) (di f177 3) 3 K lI (ES N K):=lw (λg=>iq.K5 N (cmp _ nU (g∘gk)) (cmp _ lI (g∘gk)) (J nU (.exit 0) K) (J lI (.exit 0) K)) λm i=>by simp only[my,wf i];rfl
theorem Ud(N:au)(K:Kt R):Wd MA (FQ N) (di f177 3) 3 K nU (Iv N K):=lw (λg=>iq.r3 N (cmp _ nU (g∘gk)) (cmp _ lI (g∘gk)) (J nU (.exit 0) K) (J lI (.exit 0) K)) λm i=>by simp only[my,wf i,wf (Gk N K m)];rfl
theorem N8(N:au):dy MA (FQ N (R:=R)) (di f177 3):=lm 3 (ga nU (Ud N) (ga lI (Gk N) Aq))
def Lw:=dR aam ac2 iq.c iq.v
theorem Qx:FO 177 Lw:=fq (E:=MA) (aT Xr bH) func177 (it:=λN=>FQ N) (λN=>(cz (N8 N) cW)) iq.b iq.vo

def aaR:=en [(190,LB),(177,Lw)] []
def ZL:Fn [.R, .R, .R, .I] As:=λa b c d=>[aV [.sh 9 a, .sh 9 b, .sh 30 c, .n d]]
def aco:Fn [.R, .R, .R, .I] dp:=λa b c d=>⟨[aV [.ow 9 ae a, .ow 9 ae b, .ow 30 ae c, .n d]],[]⟩
def Gd:=dR ZL aco gD.c gD.v
theorem KH:FO 108 Gd:=fr (E:=aaR) (aT QA (aT Qx bH)) func108 gD.b gD.vo

def E75:=en [(168,Ls),(108,Gd)] []
def A75:Fn [.I, .R, .R, .R, .R, .I, .R, .R, .I] As:=λa b c d e f g h i=>[aV [.n a, .sh 86 b, .sh 9 c, .sh 9 d, .sh 30 e, .n f, .sh 126 g, .sh 62 h, .n i]]
def k75:Fn [.I, .R, .R, .R, .R, .I, .R, .R, .I] dp:=λa b c d e f g h i=>⟨[aV [.n a, .ow 86 ae b, .ow 9 ae c, .ow 9 ae d, .ow 30 ae e, .n f, .ow 126 ae g, .ow 62 ae h, .n i]],[]⟩
def LI:=dR A75 k75 pV.c pV.v
theorem Ow:FO 75 LI:=fr (E:=E75) (aT Qv (aT KH bH)) func75 pV.b pV.vo

def E76:=en [] []
def A76:Fn [.I, .I] As:=λa b=>[aI a,aI b]
def k76:Fn [.I] dp:=λa=>⟨[aI a],[]⟩
def Yr:=dR A76 k76 H2.c H2.v
theorem adV:FO 76 Yr:=fr (E:=E76) bH func76 H2.b H2.vo

def E24:=en [(75,LI),(76,Yr)] []
def A24:Fn [.I, .R, .R, .R, .R, .I, .R, .R, .I, .I] As:=λa b c d e f g h i j=>[aV [.n a, .sh 86 b, .sh 9 c, .sh 9 d, .sh 30 e, .n f, .sh 126 g, .sh 62 h, .n i],aI j]
def k24:Fn [.I, .R, .R, .R, .R, .I, .R, .R, .I] dp:=λa b c d e f g h i=>⟨[aV [.n a, .ow 86 ae b, .ow 9 ae c, .ow 9 ae d, .ow 30 ae e, .n f, .ow 126 ae g, .ow 62 ae h, .n i]],[]⟩
def Yf:=dR A24 k24 E7.c E7.v
theorem adM:FO 24 Yf:=fr (E:=E24) (aT Ow (aT adV bH)) func24 E7.b E7.vo

def E70:=en [] []
def A70:Fn [.I, .I, .I] As:=λa b c=>[aI a,aI b,aI c]
def k70:Fn [.B] dp:=λa=>⟨[aB a],[]⟩
def nG:=dR A70 k70 (ct _) kR.v
theorem tW:FO 70 nG:=ft (E:=E70) bH func70 kR.b λ(a0,a1,a2,_)=>kR.jX _ a0 a1 a2

def E78:=en [(70,nG)] []
def A78:Fn [.S] As:=λa=>[aS a]
def k78:Fn [.B] dp:=λa=>⟨[aB a],[]⟩
def Eu:=dR A78 k78 (ct _) GJ.v
theorem Hj:FO 78 Eu:=ft (E:=E78) (aT tW bH) func78 GJ.b λ(a0,_)=>GJ.jX _ a0

def E96:=en [(70,nG)] []
def A96:Fn [.I] As:=λa=>[aI a]
def k96:Fn [.B] dp:=λa=>⟨[aB a],[]⟩
def OR:=dR A96 k96 (ct _) Jl.v
theorem TP:FO 96 OR:=ft (E:=E96) (aT tW bH) func96 Jl.b λ(a0,_)=>Jl.jX _ a0

def aaV:=en [(78,Eu),(96,OR),(70,nG)] []
def aab:Fn [.S, .I, .I, .S] As:=λa b c d=>[aV [.s a, .n b, .n c, .s d]]
def acR:Fn [.B] dp:=λa=>⟨[aB a],[]⟩
def CO:=dR aab acR (ct _) uQ.v
theorem Qu:FO 159 CO:=ft (E:=aaV) (aT Hj (aT TP (aT tW bH))) func159 uQ.b λ(a0,a1,a2,a3,_)=>uQ.jX _ a0 a1 a2 a3

def aa8:=en [] []
def aaN:Fn [.I] As:=λa=>[.v ah [.nl],aI a]
def adv:Fn [.R] dp:=λa=>⟨[aO 9 a],[]⟩
def Rc:=dR aaN adv yc.c yc.v
theorem Xw:FO 234 Rc:=fr (E:=aa8) bH func234 yc.b yc.vo

def Rt:=en [(234,Rc)] [(3,[0,3,9,10,11]),(11,[6,25,26,27])]
def aaK:Fn [.R] As:=λa=>[aH 44 a]
def ads:Fn [.R] dp:=λa=>⟨[aO 9 a],[]⟩
def zT:Fn [.R, .I, .R, .I, .I] Tb:=λa b c d e=>[cH 0 44 a,cI 6 b,cH 18 44 c,cI 20 d,cI 22 e]
def vg:Fn [.R, .I, .I, .R] Tb:=λa b c d=>[cA 12 (.own 0),cH 50 44 a,cI 52 b,cI 54 c,oR 1 9 d]
def IC(N:au)(K:Kt R):=rO.l3 N (J zT (.exit 0) K)
def ET(N:au)(K:Kt R):=rO.W1 N (J vg (.exit 2) K)
def Km(N:au):It R:=(lp 3 (al zT (λK=>IC N K N) an) (lp 11 (al vg (λK=>ET N K N) an) ln))
theorem Oe(N:au):dy Rt (Km N (R:=R)) (di f222 3):=lq 3 zT (IC N) λK g=>rO.r3 N g (J zT (.exit 0) K)
theorem Kz(N:au):dy Rt (Km N (R:=R)) (di f222 11):=lq 11 vg (ET N) λK g=>rO.r11 N g (J vg (.exit 2) K)
def Q_:=dR aaK ads rO.c rO.v
theorem Xt:FO 222 Q_:=fq (E:=Rt) (aT Xw bH) func222 (it:=λN=>Km N) (λN=>(cz (Oe N) (cz (Kz N) cW))) rO.b rO.vo

def aa3:=en [(222,Q_)] []
def aas:Fn [.R, .R, .R, .I] As:=λa b c d=>[aV [.sh 9 a, .sh 9 b, .sh 30 c, .n d]]
def ac8:Fn [.R] dp:=λa=>⟨[aO 9 a],[]⟩
def Gg:=dR aas ac8 nt.c nt.v
theorem KK:FO 183 Gg:=fr (E:=aa3) (aT Xt bH) func183 nt.b nt.vo

def Va:=en [] [(2,[0,1,4,7,8])]
def aay:Fn [.R, .S] As:=λa b=>[aH 9 a,aS b]
def adf:Fn [.I] dp:=λa=>⟨[aI a],[]⟩
def tC:Fn [.R, .S, .I, .I, .I] Tb:=λa b c d e=>[cH 0 9 a,cA 2 (.s b),cI 8 c,cI 14 d,cI 16 e]
def IA(N:au)(K:Kt R):=uS.l2 N (J tC .ret K) (J tC (.exit 0) K)
def Qj(N:au):It R:=(lp 2 (al tC (λK=>IA N K N) an) ln)
theorem Oc(N:au):dy Va (Qj N (R:=R)) (di f191 2):=lq 2 tC (IA N) λK g=>uS.r2 N g (J tC .ret K) (J tC (.exit 0) K)
def Q6:=dR aay adf uS.c uS.v
theorem Xo:FO 191 Q6:=fq (E:=Va) bH func191 (it:=λN=>Qj N) (λN=>(cz (Oc N) cW)) uS.b uS.vo

def aaS:=en [(191,Q6)] []
def ZN:Fn [.R, .S] As:=λa b=>[aH 9 a,aS b]
def acr:Fn [.B] dp:=λa=>⟨[aB a],[]⟩
def Ge:=dR ZN acr oS.c oS.v
theorem KI:FO 110 Ge:=fr (E:=aaS) (aT Xo bH) func110 oS.b oS.vo

def aa2:=en [(183,Gg),(110,Ge)] []
def aar:Fn [.R, .R, .R, .I, .S] As:=λa b c d e=>[aV [.sh 9 a, .sh 9 b, .sh 30 c, .n d],aS e]
def ac7:Fn [.B] dp:=λa=>⟨[aB a],[]⟩
def Ly:=dR aar ac7 qS.c qS.v
theorem Qz:FO 182 Ly:=fr (E:=aa2) (aT KK (aT KI bH)) func182 qS.b qS.vo

def Rs:=en [(70,nG)] [(2,[1,2,8,9,10]),(5,[1,2,4,8,9,10,14,15,16])]
def aan:Fn [.R, .I] As:=λa b=>[aV [.sh 30 a, .n b]]
def ac3:Fn [.B] dp:=λa=>⟨[aB a],[]⟩
def tw:Fn [.B, .R, .I, .I, .R, .I] Tb:=λa b c d e f=>[cP 2 0,cA 4 (.b a),cH 16 30 b,cI 18 c,cI 20 d,oB 1 [.sh 30 e, .n f]]
def tz:Fn [.B, .R, .R, .I, .I, .R, .I, .I, .R, .I] Tb:=λa b c d e f g h i j=>[cP 2 0,cA 4 (.b a),cH 8 3 b,cH 16 30 c,cI 18 d,cI 20 e,cH 28 3 f,cI 30 g,cI 32 h,oB 1 [.sh 30 i, .n j]]
def Iw(N:au)(K:Kt R):=lJ.l2 N (J tw .ret K) (J tw (.exit 0) K)
def Ix(N:au)(K:Kt R):=lJ.l5 N (J tz .ret K) (J tz (.exit 2) K)
def Kl(N:au):It R:=(lp 2 (al tw (λK=>Iw N K N) an) (lp 5 (al tz (λK=>Ix N K N) an) ln))
theorem N9(N:au):dy Rs (Kl N (R:=R)) (di f178 2):=lq 2 tw (Iw N) λK g=>lJ.r2 N g (J tw .ret K) (J tw (.exit 0) K)
theorem N_(N:au):dy Rs (Kl N (R:=R)) (di f178 5):=lq 5 tz (Ix N) λK g=>lJ.r5 N g (J tz .ret K) (J tz (.exit 2) K)
def Gf:=dR aan ac3 lJ.c lJ.v
theorem KJ:FO 178 Gf:=fq (E:=Rs) (aT tW bH) func178 (it:=λN=>Kl N) (λN=>(cz (N9 N) (cz (N_ N) cW))) lJ.b lJ.vo

def U5:=en [(183,Gg),(78,Eu),(110,Ge),(178,Gf)] [(3,[1,2,3,8,9,10])]
def ZM:Fn [.R, .R, .R, .I] As:=λa b c d=>[aV [.sh 9 a, .sh 9 b, .sh 30 c, .n d]]
def acp:Fn [.B] dp:=λa=>⟨[aB a],[]⟩
def tu:Fn [.B, .I, .I, .R, .R, .R, .I, .R] Tb:=λa b c d e f g h=>[cP 2 0,cA 4 (.b a),cA 6 (.own 1),cA 16 (.own 1),cI 18 b,cI 20 c,oB 1 [.sh 9 d, .sh 9 e, .sh 30 f, .n g],oR 3 9 h]
def Ip(N:au)(K:Kt R):=lZ.l3 N (J tu .ret K) (J tu (.exit 0) K)
def Qd(N:au):It R:=(lp 3 (al tu (λK=>Ip N K N) an) ln)
theorem N3(N:au):dy U5 (Qd N (R:=R)) (di f109 3):=lq 3 tu (Ip N) λK g=>lZ.r3 N g (J tu .ret K) (J tu (.exit 0) K)
def Ll:=dR ZM acp lZ.c lZ.v
theorem Qs:FO 109 Ll:=fq (E:=U5) (aT KK (aT Hj (aT KI (aT KJ bH)))) func109 (it:=λN=>Qd N) (λN=>(cz (N3 N) cW)) lZ.b lZ.vo

def E93:=en [(159,CO),(182,Ly),(109,Ll),(183,Gg)] [(2,[1,2,6,7,8])]
def A93:Fn [.I, .R, .R, .R, .R, .I, .R, .R, .I] As:=λa b c d e f g h i=>[aV [.n a, .sh 86 b, .sh 9 c, .sh 9 d, .sh 30 e, .n f, .sh 126 g, .sh 62 h, .n i]]
def k93:Fn [.B] dp:=λa=>⟨[aB a],[]⟩
def yJ:Fn [.B, .R, .I, .I, .I, .R, .R, .R, .R, .I, .R, .R, .I] Tb:=λa b c d e f g h i j k l m=>[cP 2 0,cA 4 (.b a),cH 12 86 b,cI 14 c,cI 16 d,oB 1 [.n e, .sh 86 f, .sh 9 g, .sh 9 h, .sh 30 i, .n j, .sh 126 k, .sh 62 l, .n m]]
def Pv(N:au)(K:Kt R):=H6.l2 N (J yJ .ret K) (J yJ (.exit 0) K)
def WQ(N:au):It R:=(lp 2 (al yJ (λK=>Pv N K N) an) ln)
theorem TF(N:au):dy E93 (WQ N (R:=R)) (di f93 2):=lq 2 yJ (Pv N) λK g=>H6.r2 N g (J yJ .ret K) (J yJ (.exit 0) K)
def YC:=dR A93 k93 H6.c H6.v
theorem ad6:FO 93 YC:=fq (E:=E93) (aT Qu (aT Qz (aT Qs (aT KK bH)))) func93 (it:=λN=>WQ N) (λN=>(cz (TF N) cW)) H6.b H6.vo

def aaY:=en [] []
def aaj:Fn [.S, .S, .I, .I, .I, .S] As:=λa b c d e f=>[aV [.s a, .s b, .n c, .n d, .n e], .fb [.s f]]
def acZ:Fn [.B] dp:=λa=>⟨[aB a],[]⟩
def QZ:=dR aaj acZ (ct _) Bu.v
theorem Xj:FO 174 QZ:=ft (E:=aaY) bH func174 Bu.b λ(a0,a1,a2,a3,a4,a5,_)=>Bu.jX _ a0 a1 a2 a3 a4 a5

def U7:=en [(174,QZ)] [(2,[0,1,4,7,8])]
def aai:Fn [.R, .S] As:=λa b=>[aH 126 a, .v ah [.fn 174 [[.s b]]]]
def acY:Fn [.I] dp:=λa=>⟨[aI a],[]⟩
def tv:Fn [.R, .S, .I, .I, .I] Tb:=λa b c d e=>[cH 0 126 a,cA 2 (.fn 174 [[.s b]]),cI 8 c,cI 14 d,cI 16 e]
def Is(N:au)(K:Kt R):=nq.l2 N (J tv .ret K) (J tv (.exit 0) K)
def Qf(N:au):It R:=(lp 2 (al tv (λK=>Is N K N) an) ln)
theorem N6(N:au):dy U7 (Qf N (R:=R)) (di f173 2):=lq 2 tv (Is N) λK g=>nq.r2 N g (J tv .ret K) (J tv (.exit 0) K)
def QY:=dR aai acY nq.c nq.v
theorem Xi:FO 173 QY:=fq (E:=U7) (aT Xj bH) func173 (it:=λN=>Qf N) (λN=>(cz (N6 N) cW)) nq.b nq.vo

def E84:=en [(173,QY)] []
def A84:Fn [.I, .R, .R, .R, .R, .I, .R, .R, .I, .S] As:=λa b c d e f g h i j=>[aV [.n a, .sh 86 b, .sh 9 c, .sh 9 d, .sh 30 e, .n f, .sh 126 g, .sh 62 h, .n i],aS j]
def k84:Fn [.I] dp:=λa=>⟨[aI a],[]⟩
def T8:=dR A84 k84 Dr.c Dr.v
theorem Xz:FO 84 T8:=fr (E:=E84) (aT Xi bH) func84 Dr.b Dr.vo

def U_:=en [(84,T8)] [(2,[1,2,6,7,8])]
def aat:Fn [.I, .R, .R, .R, .R, .I, .R, .R, .I] As:=λa b c d e f g h i=>[aV [.n a, .sh 86 b, .sh 9 c, .sh 9 d, .sh 30 e, .n f, .sh 126 g, .sh 62 h, .n i]]
def ac9:Fn [.B] dp:=λa=>⟨[aB a],[]⟩
def tB:Fn [.B, .R, .I, .I, .I, .R, .R, .R, .R, .I, .R, .R, .I] Tb:=λa b c d e f g h i j k l m=>[cP 2 0,cA 4 (.b a),cH 12 126 b,cI 14 c,cI 16 d,oB 1 [.n e, .sh 86 f, .sh 9 g, .sh 9 h, .sh 30 i, .n j, .sh 126 k, .sh 62 l, .n m]]
def Iz(N:au)(K:Kt R):=rL.l2 N (J tB .ret K) (J tB (.exit 0) K)
def Qi(N:au):It R:=(lp 2 (al tB (λK=>Iz N K N) an) ln)
theorem Ob(N:au):dy U_ (Qi N (R:=R)) (di f184 2):=lq 2 tB (Iz N) λK g=>rL.r2 N g (J tB .ret K) (J tB (.exit 0) K)
def Q3:=dR aat ac9 rL.c rL.v
theorem Xn:FO 184 Q3:=fq (E:=U_) (aT Xz bH) func184 (it:=λN=>Qi N) (λN=>(cz (Ob N) cW)) rL.b rL.vo

def E94:=en [(78,Eu),(70,nG),(184,Q3)] [(2,[1,2,6,7,8])]
def A94:Fn [.I, .R, .R, .R, .R, .I, .R, .R, .I] As:=λa b c d e f g h i=>[aV [.n a, .sh 86 b, .sh 9 c, .sh 9 d, .sh 30 e, .n f, .sh 126 g, .sh 62 h, .n i]]
def k94:Fn [.B] dp:=λa=>⟨[aB a],[]⟩
def yK:Fn [.B, .R, .I, .I, .I, .R, .R, .R, .R, .I, .R, .R, .I] Tb:=λa b c d e f g h i j k l m=>[cP 2 0,cA 4 (.b a),cH 12 126 b,cI 14 c,cI 16 d,oB 1 [.n e, .sh 86 f, .sh 9 g, .sh 9 h, .sh 30 i, .n j, .sh 126 k, .sh 62 l, .n m]]
def Pw(N:au)(K:Kt R):=GL.l2 N (J yK .ret K) (J yK (.exit 0) K)
def WR(N:au):It R:=(lp 2 (al yK (λK=>Pw N K N) an) ln)
theorem TG(N:au):dy E94 (WR N (R:=R)) (di f94 2):=lq 2 yK (Pw N) λK g=>GL.r2 N g (J yK .ret K) (J yK (.exit 0) K)
def YD:=dR A94 k94 GL.c GL.v
theorem ad7:FO 94 YD:=fq (E:=E94) (aT Hj (aT tW (aT Xn bH))) func94 (it:=λN=>WR N) (λN=>(cz (TG N) cW)) GL.b GL.vo

def E95:=en [(70,nG),(78,Eu)] [(2,[1,2,6,7,8])]
def A95:Fn [.I, .R, .R, .R, .R, .I, .R, .R, .I] As:=λa b c d e f g h i=>[aV [.n a, .sh 86 b, .sh 9 c, .sh 9 d, .sh 30 e, .n f, .sh 126 g, .sh 62 h, .n i]]
def k95:Fn [.B] dp:=λa=>⟨[aB a],[]⟩
def yL:Fn [.B, .R, .I, .I, .I, .R, .R, .R, .R, .I, .R, .R, .I] Tb:=λa b c d e f g h i j k l m=>[cP 2 0,cA 4 (.b a),cH 12 62 b,cI 14 c,cI 16 d,oB 1 [.n e, .sh 86 f, .sh 9 g, .sh 9 h, .sh 30 i, .n j, .sh 126 k, .sh 62 l, .n m]]
def Py(N:au)(K:Kt R):=H7.l2 N (J yL .ret K) (J yL (.exit 0) K)
def WS(N:au):It R:=(lp 2 (al yL (λK=>Py N K N) an) ln)
theorem TH(N:au):dy E95 (WS N (R:=R)) (di f95 2):=lq 2 yL (Py N) λK g=>H7.r2 N g (J yL .ret K) (J yL (.exit 0) K)
def YE:=dR A95 k95 H7.c H7.v
theorem ad8:FO 95 YE:=fq (E:=E95) (aT tW (aT Hj bH)) func95 (it:=λN=>WS N) (λN=>(cz (TH N) cW)) H7.b H7.vo

def E30:=en [(70,nG),(93,YC),(94,YD),(95,YE),(96,OR)] []
def A30:Fn [.I, .R, .R, .R, .R, .I, .R, .R, .I] As:=λa b c d e f g h i=>[aV [.n a, .sh 86 b, .sh 9 c, .sh 9 d, .sh 30 e, .n f, .sh 126 g, .sh 62 h, .n i]]
def k30:Fn [.B] dp:=λa=>⟨[aB a],[]⟩
def OO:=dR A30 k30 CY.c CY.v
theorem TM:FO 30 OO:=fr (E:=E30) (aT tW (aT ad6 (aT ad7 (aT ad8 (aT TP bH))))) func30 CY.b CY.vo

def aaX:=en [] []
def aah:Fn [.I, .S, .I, .I, .I, .S, .I, .I] As:=λa b c d e f g h=>[aV [.n a, .s b, .n c, .n d, .n e, .s f, .n g], .fb [.n h]]
def acX:Fn [.B] dp:=λa=>⟨[aB a],[]⟩
def QW:=dR aah acX (ct _) Dm.v
theorem Xg:FO 171 QW:=ft (E:=aaX) bH func171 Dm.b λ(a0,a1,a2,a3,a4,a5,a6,a7,_)=>Dm.jX _ a0 a1 a2 a3 a4 a5 a6 a7

def O9:=en [(171,QW)] [(2,[0,1,4,7,8])]
def UX:Fn [.R, .I] As:=λa b=>[aH 62 a, .v ah [.fn 171 [[.n b]]]]
def WT:Fn [.I] dp:=λa=>⟨[aI a],[]⟩
def pT:Fn [.R, .I, .I, .I, .I] Tb:=λa b c d e=>[cH 0 62 a,cA 2 (.fn 171 [[.n b]]),cI 8 c,cI 14 d,cI 16 e]
def EP(N:au)(K:Kt R):=np.l2 N (J pT .ret K) (J pT (.exit 0) K)
def Kj(N:au):It R:=(lp 2 (al pT (λK=>EP N K N) an) ln)
theorem Kx(N:au):dy O9 (Kj N (R:=R)) (di f170 2):=lq 2 pT (EP N) λK g=>np.r2 N g (J pT .ret K) (J pT (.exit 0) K)
def Lt:=dR UX WT np.c np.v
theorem TK:FO 170 Lt:=fq (E:=O9) (aT Xg bH) func170 (it:=λN=>Kj N) (λN=>(cz (Kx N) cW)) np.b np.vo

def aaU:=en [] []
def ZU:Fn [.I, .S, .I, .I, .I, .S, .I, .I] As:=λa b c d e f g h=>[aV [.n a, .s b, .n c, .n d, .n e, .s f, .n g], .fb [.n h]]
def acz:Fn [.B] dp:=λa=>⟨[aB a],[]⟩
def QO:=dR ZU acz (ct _) Jb.v
theorem Xd:FO 139 QO:=ft (E:=aaU) bH func139 Jb.b λ(a0,a1,a2,a3,a4,a5,a6,a7,_)=>Jb.jX _ a0 a1 a2 a3 a4 a5 a6 a7

def O_:=en [(139,QO)] [(2,[0,1,4,7,8])]
def UY:Fn [.R, .I] As:=λa b=>[aH 62 a, .v ah [.fn 139 [[.n b]]]]
def WU:Fn [.I] dp:=λa=>⟨[aI a],[]⟩
def pU:Fn [.R, .I, .I, .I, .I] Tb:=λa b c d e=>[cH 0 62 a,cA 2 (.fn 139 [[.n b]]),cI 8 c,cI 14 d,cI 16 e]
def ER(N:au)(K:Kt R):=v9.l2 N (J pU .ret K) (J pU (.exit 0) K)
def Kk(N:au):It R:=(lp 2 (al pU (λK=>ER N K N) an) ln)
theorem Ky(N:au):dy O_ (Kk N (R:=R)) (di f170 2):=lq 2 pU (ER N) λK g=>v9.r2 N g (J pU .ret K) (J pU (.exit 0) K)
def Lu:=dR UY WU v9.c v9.v
theorem TL:FO 170 Lu:=fq (E:=O_) (aT Xd bH) func170 (it:=λN=>Kk N) (λN=>(cz (Ky N) cW)) v9.b v9.vo

def E79:=en [(170,Lt),(170,Lu)] []
def A79:Fn [.I, .R, .R, .R, .R, .I, .R, .R, .I, .I] As:=λa b c d e f g h i j=>[aV [.n a, .sh 86 b, .sh 9 c, .sh 9 d, .sh 30 e, .n f, .sh 126 g, .sh 62 h, .n i],aI j]
def k79:Fn [.I] dp:=λa=>⟨[aI a],[]⟩
def Yt:=dR A79 k79 Mh.c Mh.v
theorem adX:FO 79 Yt:=fr (E:=E79) (aT TK (aT TL bH)) func79 Mh.b Mh.vo

def E81:=en [] []
def A81:Fn [.S, .I, .I, .S, .S] As:=λa b c d e=>[aV [.s a, .n b, .n c, .s d], .fb [.s e]]
def k81:Fn [.B] dp:=λa=>⟨[aB a],[]⟩
def Yu:=dR A81 k81 (ct _) R3.v
theorem adY:FO 81 Yu:=ft (E:=E81) bH func81 R3.b λ(a0,a1,a2,a3,a4,_)=>R3.jX _ a0 a1 a2 a3 a4

def Vd:=en [(81,Yu)] [(2,[0,1,4,7,8])]
def aaO:Fn [.R, .S] As:=λa b=>[aH 86 a, .v ah [.fn 81 [[.s b]]]]
def adw:Fn [.I] dp:=λa=>⟨[aI a],[]⟩
def tE:Fn [.R, .S, .I, .I, .I] Tb:=λa b c d e=>[cH 0 86 a,cA 2 (.fn 81 [[.s b]]),cI 8 c,cI 14 d,cI 16 e]
def IH(N:au)(K:Kt R):=rR.l2 N (J tE .ret K) (J tE (.exit 0) K)
def Qm(N:au):It R:=(lp 2 (al tE (λK=>IH N K N) an) ln)
theorem Oi(N:au):dy Vd (Qm N (R:=R)) (di f80 2):=lq 2 tE (IH N) λK g=>rR.r2 N g (J tE .ret K) (J tE (.exit 0) K)
def LJ:=dR aaO adw rR.c rR.v
theorem QC:FO 80 LJ:=fq (E:=Vd) (aT adY bH) func80 (it:=λN=>Qm N) (λN=>(cz (Oi N) cW)) rR.b rR.vo

def aaZ:=en [] []
def aal:Fn [.S, .I, .I, .S, .S] As:=λa b c d e=>[aV [.s a, .n b, .n c, .s d], .fb [.s e]]
def ac1:Fn [.B] dp:=λa=>⟨[aB a],[]⟩
def Lv:=dR aal ac1 (ct _) uR.v
theorem Qw:FO 176 Lv:=ft (E:=aaZ) bH func176 uR.b λ(a0,a1,a2,a3,a4,_)=>uR.jX _ a0 a1 a2 a3 a4

def Ve:=en [(176,Lv)] [(2,[0,1,4,7,8])]
def aaP:Fn [.R, .S] As:=λa b=>[aH 86 a, .v ah [.fn 176 [[.s b]]]]
def adx:Fn [.I] dp:=λa=>⟨[aI a],[]⟩
def tF:Fn [.R, .S, .I, .I, .I] Tb:=λa b c d e=>[cH 0 86 a,cA 2 (.fn 176 [[.s b]]),cI 8 c,cI 14 d,cI 16 e]
def II(N:au)(K:Kt R):=oV.l2 N (J tF .ret K) (J tF (.exit 0) K)
def Qn(N:au):It R:=(lp 2 (al tF (λK=>II N K N) an) ln)
theorem Oj(N:au):dy Ve (Qn N (R:=R)) (di f80 2):=lq 2 tF (II N) λK g=>oV.r2 N g (J tF .ret K) (J tF (.exit 0) K)
def LK:=dR aaP adx oV.c oV.v
theorem QD:FO 80 LK:=fq (E:=Ve) (aT Qw bH) func80 (it:=λN=>Qn N) (λN=>(cz (Oj N) cW)) oV.b oV.vo

def E82:=en [(159,CO),(96,OR),(70,nG)] []
def A82:Fn [.S, .I, .I, .S, .I] As:=λa b c d e=>[aV [.s a, .n b, .n c, .s d],aI e]
def k82:Fn [.B] dp:=λa=>⟨[aB a],[]⟩
def Yv:=dR A82 k82 (ct _) E_.v
theorem adZ:FO 82 Yv:=ft (E:=E82) (aT Qu (aT TP (aT tW bH))) func82 E_.b λ(a0,a1,a2,a3,a4,_)=>E_.jX _ a0 a1 a2 a3 a4

def Ru:=en [] [(2,[0,1,5]),(6,[0,1,5,19])]
def aaM:Fn [.I, .S] As:=λa b=>[.v ah [.i .u32 a],aS b]
def adu:Fn [.I] dp:=λa=>⟨[.v ah [.i .u32 a]],[]⟩
def zU:Fn [.I, .S, .I] Tb:=λa b c=>[cA 0 (.i .u32 a),cA 2 (.s b),cI 10 c]
def zV:Fn [.I, .S, .I, .I] Tb:=λa b c d=>[cA 0 (.i .u32 a),cA 2 (.s b),cI 10 c,cI 38 d]
def IE(N:au)(K:Kt R):=rP.l2 N (J zU (.exit 0) K)
def IG(N:au)(K:Kt R):=rP.l6 N (J zV (.exit 2) K)
def Kn(N:au):It R:=(lp 2 (al zU (λK=>IE N K N) an) (lp 6 (al zV (λK=>IG N K N) an) ln))
theorem Og(N:au):dy Ru (Kn N (R:=R)) (di f231 2):=lq 2 zU (IE N) λK g=>rP.r2 N g (J zU (.exit 0) K)
theorem Oh(N:au):dy Ru (Kn N (R:=R)) (di f231 6):=lq 6 zV (IG N) λK g=>rP.r6 N g (J zV (.exit 2) K)
def Rb:=dR aaM adu rP.c rP.v
theorem Xv:FO 231 Rb:=fq (E:=Ru) bH func231 (it:=λN=>Kn N) (λN=>(cz (Og N) (cz (Oh N) cW))) rP.b rP.vo

def aa6:=en [(231,Rb)] []
def aaI:Fn [.S] As:=λa=>[aS a]
def adq:Fn [.I] dp:=λa=>⟨[.v ah [.i .u32 a]],[]⟩
def LH:=dR aaI adq qu.c qu.v
theorem Xq:FO 216 LH:=fr (E:=aa6) (aT Xv bH) func216 qu.b qu.vo

def aa0:=en [(216,LH)] []
def aao:Fn [.I, .S] As:=λa b=>[aI a,aS b]
def ac4:Fn [.I] dp:=λa=>⟨[aI a],[]⟩
def Lx:=dR aao ac4 nr.c nr.v
theorem Qy:FO 179 Lx:=fr (E:=aa0) (aT Xq bH) func179 nr.b nr.vo

def YU:=en [(177,Lw),(178,Gf),(179,Lx)] [(5,[1,4,5,19,20,21]),(15,[4,5,49,50,51]),(18,[4,5,10,49,50,51,56,57])]
def A87:Fn [.R, .I, .S] As:=λa b c=>[aV [.sh 30 a, .n b],aS c]
def k87:Fn [.R, .I] dp:=λa b=>⟨[aV [.ow 30 ae a, .n b]],[]⟩
def E3:Fn [.S, .I, .I, .I, .I, .R] Tb:=λa b c d e f=>[cA 2 (.s a),cP 8 0,cP 10 1,cA 38 (.own 2),cI 40 b,cI 42 c,oB 1 [.nl, .n d],oB 3 [.own 2, .n e],oR 5 30 f]
def zW:Fn [.I, .I, .I, .I, .R] Tb:=λa b c d e=>[cP 8 0,cP 10 1,cA 98 (.own 2),cI 100 a,cI 102 b,oB 1 [.nl, .n c],oB 3 [.own 2, .n d],oR 5 30 e]
def zX:Fn [.N, .I, .I, .I, .I, .I, .I, .R] Tb:=λa b c d e f g h=>[cP 8 0,cP 10 1,cA 20 (.inn 2 a 0),cA 98 (.own 2),cI 100 b,cI 102 c,cI 112 d,cI 114 e,oB 1 [.nl, .n f],oB 3 [.own 2, .n g],oR 5 30 h]
def Pq(N:au)(K:Kt R):=lA.l5 N (J E3 (.exit 0) K)
def IJ(N:au)(K:Kt R):=lA.Ts N (J zW (.exit 2) K)
def IK(N:au)(K:Kt R):=lA.Tv N (J zX (.exit 4) K)
def NZ(N:au):It R:=(lp 5 (al E3 (λK=>Pq N K N) an) (lp 15 (al zW (λK=>IJ N K N) an) (lp 18 (al zX (λK=>IK N K N) an) ln)))
theorem TC(N:au):dy YU (NZ N (R:=R)) (di f87 5):=lq 5 E3 (Pq N) λK g=>lA.r5 N g (J E3 (.exit 0) K)
theorem Ol(N:au):dy YU (NZ N (R:=R)) (di f87 15):=lq 15 zW (IJ N) λK g=>lA.Zt N g (J zW (.exit 2) K)
theorem On(N:au):dy YU (NZ N (R:=R)) (di f87 18):=lq 18 zX (IK N) λK g=>lA.Zu N g (J zX (.exit 4) K)
def T9:=dR A87 k87 lA.c lA.v
theorem XA:FO 87 T9:=fq (E:=YU) (aT Qx (aT KJ (aT Qy bH))) func87 (it:=λN=>NZ N) (λN=>(cz (TC N) (cz (Ol N) (cz (On N) cW)))) lA.b lA.vo

def aa5:=en [] []
def aaA:Fn [.S, .S] As:=λa b=>[aS a, .fb [.s b]]
def adh:Fn [.B] dp:=λa=>⟨[aB a],[]⟩
def LC:=dR aaA adh (ct _) uT.v
theorem QB:FO 193 LC:=ft (E:=aa5) bH func193 uT.b λ(a0,a1,_)=>uT.jX _ a0 a1

def Vc:=en [(193,LC)] [(2,[0,1,4,7,8])]
def aaL:Fn [.R, .S] As:=λa b=>[aH 9 a, .v ah [.fn 193 [[.s b]]]]
def adt:Fn [.I] dp:=λa=>⟨[aI a],[]⟩
def tD:Fn [.R, .S, .I, .I, .I] Tb:=λa b c d e=>[cH 0 9 a,cA 2 (.fn 193 [[.s b]]),cI 8 c,cI 14 d,cI 16 e]
def ID(N:au)(K:Kt R):=oU.l2 N (J tD .ret K) (J tD (.exit 0) K)
def Ql(N:au):It R:=(lp 2 (al tD (λK=>ID N K N) an) ln)
theorem Of(N:au):dy Vc (Ql N (R:=R)) (di f225 2):=lq 2 tD (ID N) λK g=>oU.r2 N g (J tD .ret K) (J tD (.exit 0) K)
def Ra:=dR aaL adt oU.c oU.v
theorem Xu:FO 225 Ra:=fq (E:=Vc) (aT QB bH) func225 (it:=λN=>Ql N) (λN=>(cz (Of N) cW)) oU.b oU.vo

def Vb:=en [(225,Ra),(193,LC)] [(5,[0,1,5,6])]
def aaz:Fn [.R, .S] As:=λa b=>[aO 9 a, .v ah [.fn 193 [[.s b]]]]
def adg:Fn [.R] dp:=λa=>⟨[aO 9 a],[[.nl]]⟩
def zQ:Fn [.S, .I, .I, .R] Tb:=λa b c d=>[cA 0 (.own 900000000),cA 2 (.fn 193 [[.s a]]),cI 10 b,cI 12 c,oR 1800000001 9 d]
def IB(N:au)(K:Kt R):=rM.l5 N (J zQ (.exit 0) K)
def Qk(N:au):It R:=(lp 5 (al zQ (λK=>IB N K N) an) ln)
theorem Od(N:au):dy Vb (Qk N (R:=R)) (di f192 5):=lq 5 zQ (IB N) λK g=>rM.r5 N g (J zQ (.exit 0) K)
def Q7:=dR aaz adg rM.c rM.v
theorem Xp:FO 192 Q7:=fq (E:=Vb) (aT Xu (aT QB bH)) func192 (it:=λN=>Qk N) (λN=>(cz (Od N) cW)) rM.b rM.vo

def aaT:=en [(190,LB),(192,Q7)] []
def ZO:Fn [.R, .S] As:=λa b=>[aH 9 a,aS b]
def acs:Fn [.R] dp:=λa=>⟨[aO 9 a],[]⟩
def Lm:=dR ZO acs ij.c ij.v
theorem Qt:FO 111 Lm:=fr (E:=aaT) (aT QA (aT Xp bH)) func111 ij.b ij.vo

def U6:=en [(178,Gf),(179,Lx)] [(5,[1,5,12,13,14])]
def ZP:Fn [.R, .I, .S] As:=λa b c=>[aV [.sh 30 a, .n b],aS c]
def acu:Fn [.I] dp:=λa=>⟨[aI a],[]⟩
def zN:Fn [.S, .I, .R, .I, .I] Tb:=λa b c d e=>[cA 2 (.s a),cI 10 b,cH 24 30 c,cI 26 d,cI 28 e]
def Iq(N:au)(K:Kt R):=qR.l5 N (J zN (.exit 0) K)
def Qe(N:au):It R:=(lp 5 (al zN (λK=>Iq N K N) an) ln)
theorem N4(N:au):dy U6 (Qe N (R:=R)) (di f112 5):=lq 5 zN (Iq N) λK g=>qR.r5 N g (J zN (.exit 0) K)
def QM:=dR ZP acu qR.c qR.v
theorem Xc:FO 112 QM:=fq (E:=U6) (aT KJ (aT Qy bH)) func112 (it:=λN=>Qe N) (λN=>(cz (N4 N) cW)) qR.b qR.vo

def E34:=en [(108,Gd),(109,Ll),(78,Eu),(87,T9),(110,Ge),(111,Lm),(112,QM)] []
def A34:Fn [.R, .R, .R, .I, .S] As:=λa b c d e=>[aV [.sh 9 a, .sh 9 b, .sh 30 c, .n d],aS e]
def k34:Fn [.R, .R, .R, .I, .S] dp:=λa b c d e=>⟨[aV [.ow 9 ae a, .ow 9 ae b, .ow 30 ae c, .n d],aS e],[]⟩
def T2:=dR A34 k34 GI.c GI.v
theorem Xx:FO 34 T2:=fr (E:=E34) (aT KH (aT Qs (aT Hj (aT XA (aT KI (aT Qt (aT Xc bH))))))) func34 GI.b GI.vo

def TZ:HR:=⟨λn=>bif a_ n 22 then 172 else bif a_ n 29 then 219 else 220,λn=>bif a_ n 24 then 51 else bif a_ n 9 then 62 else bif a_ n 3 then 3 else bif a_ n 4 then 4 else n,λn=>n⟩
def QX:ak dO->ar (aL×dp):=Ins.si 62 72
theorem Tk:Ins.L Try.prog TZ "slices.Insert[[]loop.example/g00245/impl.Client,loop.example/g00245/impl.Client]" 7 where
 mixed:=hM
 f22:=func172.trans (by kernel_rfl)
 t3:=by kernel_rfl
 a3:=Ins.lQ (P:=Try.prog) (t:=3) (d:= .int .i64) (by kernel_rfl) rfl
 t4:=by kernel_rfl
 a4:=Ins.lQ (P:=Try.prog) (t:=4) (d:= .bool) (by kernel_rfl) rfl
 t24:=by kernel_rfl
 a24:=Ins.lQ (P:=Try.prog) (t:=51) (d:= .slice 62) (by kernel_rfl) rfl
 z9:=Ins.Gb hE (t:=62) (ti:=⟨ae,[.i .i64, .s, .i .i64, .i .i64, .i .i64, .s, .i .i64],72⟩) (by kernel_rfl)
theorem Xh:FO 172 QX:=
 Ins.ze (e:=62) (te:=⟨ae,[.i .i64, .s, .i .i64, .i .i64, .i .i64, .s, .i .i64],72⟩) (by kernel_rfl) rfl (by kernel_rfl) hE Tk
  (λargs w=>run_callFunc_extern (e:=eZ #[51,51] #[4]) func219 (by kernel_rfl) (by kernel_rfl) (by kernel_rfl) (by kernel_rfl) args w)
  ⟨_,func172,by kernel_rfl,by kernel_rfl⟩

def E83:=en [(172,QX)] [(2,[0,3,4])]
def A83:Fn [.I, .R, .R, .R, .R, .I, .R, .R, .I, .I, .S, .I, .I, .I, .S, .I] As:=λa b c d e f g h i j k l m o p q=>[.pt [.n a, .ow 86 ae b, .ow 9 ae c, .ow 9 ae d, .ow 30 ae e, .n f, .ow 126 ae g, .ow 62 ae h, .n i],aV [.n j, .s k, .n l, .n m, .n o, .s p, .n q]]
def k83:Fn [.I, .R, .R, .R, .R, .I, .R, .R, .I] dp:=λa b c d e f g h i=>⟨[],[[.n a, .kp b, .kp c, .kp d, .kp e, .n f, .kp g, .ow 62 ae h, .n i]]⟩
def E2:Fn [.I, .I, .I, .I, .I, .S, .I, .I, .I, .S, .I, .R, .R, .R, .R, .R, .R] Tb:=λa b c d e f g h i j k l m o p q r=>[cP 0 900000900,cP 6 1,cI 8 a,oB 1800001801 [.n b, .own 900000001, .own 900000002, .own 900000003, .own 900000004, .n c, .own 900000006, .own 900000007, .n d],oB 3 [.n e, .s f, .n g, .n h, .n i, .s j, .n k],oR 1800000003 86 l,oR 1800000005 9 m,oR 1800000007 9 o,oR 1800000009 30 p,oR 1800000013 126 q,oR 1800000015 62 r]
def Pp(N:au)(K:Kt R):=mO.l2 N (J E2 (.exit 0) K)
def WM(N:au):It R:=(lp 2 (al E2 (λK=>Pp N K N) an) ln)
theorem TB(N:au):dy E83 (WM N (R:=R)) (di f83 2):=lq 2 E2 (Pp N) λK g=>mO.r2 N g (J E2 (.exit 0) K)
def Yw:=dR A83 k83 mO.c mO.v
theorem ad0:FO 83 Yw:=fq (E:=E83) (aT Xh bH) func83 (it:=λN=>WM N) (λN=>(cz (TB N) cW)) mO.b mO.vo

def U8:=en [(80,LJ),(80,LK),(176,Lv)] [(5,[0,1,5,6])]
def aak:Fn [.R, .S] As:=λa b=>[aO 86 a, .v ah [.fn 176 [[.s b]]]]
def ac0:Fn [.R] dp:=λa=>⟨[aO 86 a],[[.nl]]⟩
def zO:Fn [.S, .I, .I, .R] Tb:=λa b c d=>[cA 0 (.own 900000000),cA 2 (.fn 176 [[.s a]]),cI 10 b,cI 12 c,oR 1800000001 86 d]
def Iu(N:au)(K:Kt R):=l_.l5 N (J zO (.exit 0) K)
def Qg(N:au):It R:=(lp 5 (al zO (λK=>Iu N K N) an) ln)
theorem N7(N:au):dy U8 (Qg N (R:=R)) (di f175 5):=lq 5 zO (Iu N) λK g=>l_.r5 N g (J zO (.exit 0) K)
def Q0:=dR aak ac0 l_.c l_.v
theorem Xk:FO 175 Q0:=fq (E:=U8) (aT QC (aT QD (aT Qw bH))) func175 (it:=λN=>Qg N) (λN=>(cz (N7 N) cW)) l_.b l_.vo

def E85:=en [(168,Ls),(175,Q0)] []
def A85:Fn [.R, .S] As:=λa b=>[aH 86 a,aS b]
def k85:Fn [.R] dp:=λa=>⟨[aO 86 a],[]⟩
def OQ:=dR A85 k85 xT.c xT.v
theorem TN:FO 85 OQ:=fr (E:=E85) (aT Qv (aT Xk bH)) func85 xT.b xT.vo

def E86:=en [(108,Gd),(111,Lm)] []
def A86:Fn [.R, .R, .R, .I, .S] As:=λa b c d e=>[aV [.sh 9 a, .sh 9 b, .sh 30 c, .n d],aS e]
def k86:Fn [.R, .R, .R, .I] dp:=λa b c d=>⟨[aV [.ow 9 ae a, .ow 9 ae b, .ow 30 ae c, .n d]],[]⟩
def Yx:=dR A86 k86 CZ.c CZ.v
theorem ad1:FO 86 Yx:=fr (E:=E86) (aT KH (aT Qt bH)) func86 CZ.b CZ.vo

def E26:=en [(75,LI),(30,OO),(70,nG),(78,Eu),(79,Yt),(80,LJ),(80,LK),(82,Yv),(34,T2),(83,Yw),(84,T8),(85,OQ),(86,Yx),(87,T9)] []
def A26:Fn [.I, .R, .R, .R, .R, .I, .R, .R, .I, .I, .S] As:=λa b c d e f g h i j k=>[aV [.n a, .sh 86 b, .sh 9 c, .sh 9 d, .sh 30 e, .n f, .sh 126 g, .sh 62 h, .n i],aI j,aS k]
def k26:Fn [.I, .R, .R, .R, .R, .I, .R, .R, .I, .I] dp:=λa b c d e f g h i j=>⟨[aV [.n a, .ow 86 ae b, .ow 9 ae c, .ow 9 ae d, .ow 30 ae e, .n f, .ow 126 ae g, .ow 62 ae h, .n i],aI j],[]⟩
def Yh:=dR A26 k26 Dp.c Dp.v
theorem adO:FO 26 Yh:=fr (E:=E26) (aT Ow (aT TM (aT tW (aT Hj (aT adX (aT QC (aT QD (aT adZ (aT Xx (aT ad0 (aT Xz (aT TN (aT ad1 (aT XA bH)))))))))))))) func26 Dp.b Dp.vo

def E88:=en [(30,OO),(70,nG)] []
def A88:Fn [.I, .R, .R, .R, .R, .I, .R, .R, .I, .I] As:=λa b c d e f g h i j=>[aV [.n a, .sh 86 b, .sh 9 c, .sh 9 d, .sh 30 e, .n f, .sh 126 g, .sh 62 h, .n i],aI j]
def k88:Fn [.B] dp:=λa=>⟨[aB a],[]⟩
def T_:=dR A88 k88 GK.c GK.v
theorem XB:FO 88 T_:=fr (E:=E88) (aT TM (aT tW bH)) func88 GK.b GK.vo

def aa1:=en [] []
def aap:Fn [.I, .S, .R] As:=λa b c=>[aV [.n a, .s b, .sh 228 c]]
def ac5:Fn [.I, .S, .R] dp:=λa b c=>⟨[aV [.n a, .s b, .ow 228 ae c]],[]⟩
def Q1:=dR aap ac5 Dn.c Dn.v
theorem Xl:FO 180 Q1:=fh (E:=aa1) bH func180 (it:=λ_=>ln) (λ_=>cW) (λ_=>Dn.b) λx f h=>⟨0,Dn.jX _ x.1 x.2.1 x.2.2.1 h⟩

def U9:=en [(70,nG)] [(2,[1,2,6,7,8])]
def aaq:Fn [.I, .S, .R] As:=λa b c=>[aV [.n a, .s b, .sh 228 c]]
def ac6:Fn [.B] dp:=λa=>⟨[aB a],[]⟩
def tA:Fn [.B, .R, .I, .I, .I, .S, .R] Tb:=λa b c d e f g=>[cP 2 0,cA 4 (.b a),cH 12 228 b,cI 14 c,cI 16 d,oB 1 [.n e, .s f, .sh 228 g]]
def Iy(N:au)(K:Kt R):=qs.l2 N (J tA .ret K) (J tA (.exit 0) K)
def Qh(N:au):It R:=(lp 2 (al tA (λK=>Iy N K N) an) ln)
theorem Oa(N:au):dy U9 (Qh N (R:=R)) (di f181 2):=lq 2 tA (Iy N) λK g=>qs.r2 N g (J tA .ret K) (J tA (.exit 0) K)
def Q2:=dR aaq ac6 qs.c qs.v
theorem Xm:FO 181 Q2:=fq (E:=U9) (aT tW bH) func181 (it:=λN=>Qh N) (λN=>(cz (Oa N) cW)) qs.b qs.vo

def E89:=en [(180,Q1),(181,Q2),(70,nG)] []
def A89:Fn [.I, .S, .R, .S] As:=λa b c d=>[aV [.n a, .s b, .sh 228 c],aS d]
def k89:Fn [.I, .S, .R, .B] dp:=λa b c d=>⟨[aV [.n a, .s b, .ow 228 ae c],aB d],[]⟩
def Yy:=dR A89 k89 H3.c H3.v
theorem ad2:FO 89 Yy:=fr (E:=E89) (aT Xl (aT Xm (aT tW bH))) func89 H3.b H3.vo

def E90:=en [] [(1,[0,1,9,10,11])]
def A90:Fn [.I, .R, .R, .R, .R, .I, .R, .R, .I, .I] As:=λa b c d e f g h i j=>[.pt [.n a, .ow 86 ae b, .ow 9 ae c, .ow 9 ae d, .ow 30 ae e, .n f, .ow 126 ae g, .ow 62 ae h, .n i],aI j]
def k90:Fn [.I, .R, .R, .R, .R, .I, .R, .R, .I] dp:=λa b c d e f g h i=>⟨[],[[.n a, .kp b, .kp c, .kp d, .kp e, .n f, .kp g, .kp h, .n i]]⟩
def E5:Fn [.I, .I, .I, .I, .I, .I, .R, .R, .R, .R, .R, .R] Tb:=λa b c d e f g h i j k l=>[cP 0 900000900,cI 2 a,cA 18 (.own 900000007),cI 20 b,cI 22 c,oB 1800001801 [.n d, .own 900000001, .own 900000002, .own 900000003, .own 900000004, .n e, .own 900000006, .own 900000007, .n f],oR 1800000015 62 g,oR 1800000003 86 h,oR 1800000005 9 i,oR 1800000007 9 j,oR 1800000009 30 k,oR 1800000013 126 l]
def Ps(N:au)(K:Kt R):=H4.l1 N (J E5 (.exit 0) K)
def WN(N:au):It R:=(lp 1 (al E5 (λK=>Ps N K N) an) ln)
theorem TD(N:au):dy E90 (WN N (R:=R)) (di f90 1):=lq 1 E5 (Ps N) λK g=>H4.r1 N g (J E5 (.exit 0) K)
def Yz:=dR A90 k90 H4.c H4.v
theorem ad3:FO 90 Yz:=fq (E:=E90) bH func90 (it:=λN=>WN N) (λN=>(cz (TD N) cW)) H4.b H4.vo

def E27:=en [(75,LI),(88,T_),(89,Yy),(90,Yz)] []
def A27:Fn [.I, .R, .R, .R, .R, .I, .R, .R, .I, .I, .S] As:=λa b c d e f g h i j k=>[aV [.n a, .sh 86 b, .sh 9 c, .sh 9 d, .sh 30 e, .n f, .sh 126 g, .sh 62 h, .n i],aI j,aS k]
def k27:Fn [.I, .R, .R, .R, .R, .I, .R, .R, .I, .B] dp:=λa b c d e f g h i j=>⟨[aV [.n a, .ow 86 ae b, .ow 9 ae c, .ow 9 ae d, .ow 30 ae e, .n f, .ow 126 ae g, .ow 62 ae h, .n i],aB j],[]⟩
def Yi:=dR A27 k27 Jg.c Jg.v
theorem adP:FO 27 Yi:=fr (E:=E27) (aT Ow (aT XB (aT ad2 (aT ad3 bH)))) func27 Jg.b Jg.vo

def E91:=en [] [(1,[0,1,2,11,12,13])]
def A91:Fn [.I, .R, .R, .R, .R, .I, .R, .R, .I, .I, .I] As:=λa b c d e f g h i j k=>[.pt [.n a, .ow 86 ae b, .ow 9 ae c, .ow 9 ae d, .ow 30 ae e, .n f, .ow 126 ae g, .ow 62 ae h, .n i],aI j,aI k]
def k91:Fn [.I, .R, .R, .R, .R, .I, .R, .R, .I] dp:=λa b c d e f g h i=>⟨[],[[.n a, .kp b, .kp c, .kp d, .kp e, .n f, .kp g, .kp h, .n i]]⟩
def E6:Fn [.I, .I, .I, .I, .I, .I, .I, .R, .R, .R, .R, .R, .R] Tb:=λa b c d e f g h i j k l m=>[cP 0 900000900,cI 2 a,cI 4 b,cA 22 (.own 900000007),cI 24 c,cI 26 d,oB 1800001801 [.n e, .own 900000001, .own 900000002, .own 900000003, .own 900000004, .n f, .own 900000006, .own 900000007, .n g],oR 1800000015 62 h,oR 1800000003 86 i,oR 1800000005 9 j,oR 1800000007 9 k,oR 1800000009 30 l,oR 1800000013 126 m]
def Pt(N:au)(K:Kt R):=H5.l1 N (J E6 (.exit 0) K)
def WO(N:au):It R:=(lp 1 (al E6 (λK=>Pt N K N) an) ln)
theorem TE(N:au):dy E91 (WO N (R:=R)) (di f91 1):=lq 1 E6 (Pt N) λK g=>H5.r1 N g (J E6 (.exit 0) K)
def YA:=dR A91 k91 H5.c H5.v
theorem ad4:FO 91 YA:=fq (E:=E91) bH func91 (it:=λN=>WO N) (λN=>(cz (TE N) cW)) H5.b H5.vo

def TY:HR:=⟨λn=>bif a_ n 22 then 160 else bif a_ n 29 then 217 else 218,λn=>bif a_ n 24 then 28 else bif a_ n 9 then 86 else bif a_ n 3 then 3 else bif a_ n 4 then 4 else n,λn=>n⟩
def QU:ak dO->ar (aL×dp):=Ins.si 86 48
theorem Tj:Ins.L Try.prog TY "slices.Insert[[]loop.example/g00245/impl.Entry,loop.example/g00245/impl.Entry]" 4 where
 mixed:=hM
 f22:=func160.trans (by kernel_rfl)
 t3:=by kernel_rfl
 a3:=Ins.lQ (P:=Try.prog) (t:=3) (d:= .int .i64) (by kernel_rfl) rfl
 t4:=by kernel_rfl
 a4:=Ins.lQ (P:=Try.prog) (t:=4) (d:= .bool) (by kernel_rfl) rfl
 t24:=by kernel_rfl
 a24:=Ins.lQ (P:=Try.prog) (t:=28) (d:= .slice 86) (by kernel_rfl) rfl
 z9:=Ins.Gb hE (t:=86) (ti:=⟨ae,[.s, .i .i64, .i .i64, .s],48⟩) (by kernel_rfl)
theorem Xe:FO 160 QU:=
 Ins.ze (e:=86) (te:=⟨ae,[.s, .i .i64, .i .i64, .s],48⟩) (by kernel_rfl) rfl (by kernel_rfl) hE Tj
  (λargs w=>run_callFunc_extern (e:=eZ #[28,28] #[4]) func217 (by kernel_rfl) (by kernel_rfl) (by kernel_rfl) (by kernel_rfl) args w)
  ⟨_,func160,by kernel_rfl,by kernel_rfl⟩

def E69:=en [(85,OQ),(160,QU)] [(3,[3,5,6])]
def A69:Fn [.R, .S, .I, .I, .S] As:=λa b c d e=>[aH 86 a,aV [.s b, .n c, .n d, .s e]]
def k69:Fn [.R] dp:=λa=>⟨[aO 86 a],[]⟩
def E1:Fn [.I, .S, .I, .I, .S, .R] Tb:=λa b c d e f=>[cP 6 0,cA 10 (.own 1),cI 12 a,oB 1 [.s b, .n c, .n d, .s e],oR 3 86 f]
def Po(N:au)(K:Kt R):=E9.l3 N (J E1 (.exit 0) K)
def WL(N:au):It R:=(lp 3 (al E1 (λK=>Po N K N) an) ln)
theorem TA(N:au):dy E69 (WL N (R:=R)) (di f69 3):=lq 3 E1 (Po N) λK g=>E9.r3 N g (J E1 (.exit 0) K)
def T7:=dR A69 k69 E9.c E9.v
theorem adU:FO 69 T7:=fq (E:=E69) (aT TN (aT Xe bH)) func69 (it:=λN=>WL N) (λN=>(cz (TA N) cW)) E9.b E9.vo

def E92:=en [(34,T2),(85,OQ),(182,Ly),(69,T7)] []
def A92:Fn [.I, .R, .R, .R, .R, .I, .R, .R, .I, .S, .I, .I, .S] As:=λa b c d e f g h i j k l m=>[.pt [.n a, .ow 86 ae b, .ow 9 ae c, .ow 9 ae d, .ow 30 ae e, .n f, .ow 126 ae g, .ow 62 ae h, .n i],aV [.s j, .n k, .n l, .s m]]
def k92:Fn [.I, .R, .R, .R, .R, .I, .R, .R, .I] dp:=λa b c d e f g h i=>⟨[],[[.n a, .ow 86 ae b, .ow 9 ae c, .ow 9 ae d, .ow 30 ae e, .n f, .kp g, .kp h, .n i]]⟩
def YB:=dR A92 k92 Mi.c Mi.v
theorem ad5:FO 92 YB:=fr (E:=E92) (aT Xx (aT TN (aT Qz (aT adU bH)))) func92 Mi.b Mi.vo

def E28:=en [(75,LI),(88,T_),(70,nG),(91,YA),(92,YB)] []
def A28:Fn [.I, .R, .R, .R, .R, .I, .R, .R, .I, .I, .I] As:=λa b c d e f g h i j k=>[aV [.n a, .sh 86 b, .sh 9 c, .sh 9 d, .sh 30 e, .n f, .sh 126 g, .sh 62 h, .n i],aI j,aI k]
def k28:Fn [.I, .R, .R, .R, .R, .I, .R, .R, .I, .B] dp:=λa b c d e f g h i j=>⟨[aV [.n a, .ow 86 ae b, .ow 9 ae c, .ow 9 ae d, .ow 30 ae e, .n f, .ow 126 ae g, .ow 62 ae h, .n i],aB j],[]⟩
def Yj:=dR A28 k28 Jh.c Jh.v
theorem adQ:FO 28 Yj:=fr (E:=E28) (aT Ow (aT XB (aT tW (aT ad4 (aT ad5 bH))))) func28 Jh.b Jh.vo

def E29:=en [] [(2,[1,2,4,5,6])]
def A29:Fn [.I, .R, .R, .R, .R, .I, .R, .R, .I, .I] As:=λa b c d e f g h i j=>[aV [.n a, .sh 86 b, .sh 9 c, .sh 9 d, .sh 30 e, .n f, .sh 126 g, .sh 62 h, .n i],aI j]
def k29:Fn [.I, .S, .I, .I, .I, .S, .I, .B] dp:=λa b c d e f g h=>⟨[aV [.n a, .s b, .n c, .n d, .n e, .s f, .n g],aB h],[]⟩
def yI:Fn [.I, .B, .I, .I, .R, .R, .R, .R, .I, .R, .R, .I, .I, .S, .I, .I, .I, .S, .I] Tb:=λa b c d e f g h i j k l m o p q r s t=>[cI 2 a,cP 4 0,cP 8 1,cA 10 (.b b),cI 12 c,oB 1 [.n d, .sh 86 e, .sh 9 f, .sh 9 g, .sh 30 h, .n i, .sh 126 j, .sh 62 k, .n l],oB 3 [.n m, .s o, .n p, .n q, .n r, .s s, .n t]]
def Pm(N:au)(K:Kt R):=HZ.l2 N (J yI .ret K) (J yI (.exit 0) K)
def WJ(N:au):It R:=(lp 2 (al yI (λK=>Pm N K N) an) ln)
theorem Ty(N:au):dy E29 (WJ N (R:=R)) (di f29 2):=lq 2 yI (Pm N) λK g=>HZ.r2 N g (J yI .ret K) (J yI (.exit 0) K)
def Yk:=dR A29 k29 HZ.c HZ.v
theorem adR:FO 29 Yk:=fq (E:=E29) bH func29 (it:=λN=>WJ N) (λN=>(cz (Ty N) cW)) HZ.b HZ.vo

def E4:=en [(11,XW),(14,XZ),(25,Yg),(24,Yf),(26,Yh),(27,Yi),(28,Yj),(29,Yk),(30,OO)] []
def A4:Fn [.R] As:=λa=>[aH 5 a]
def k4:Fn [.B] dp:=λa=>⟨[aB a],[]⟩
def sp4:=dR A4 k4 U4.c U4.v
theorem ok4:FO 4 sp4:=fr (E:=E4) (aT adK (aT adL (aT adN (aT adM (aT adO (aT adP (aT adQ (aT adR (aT TM bH))))))))) func4 U4.b U4.vo

def ag6:=en [] [(2,[0,1,4,5])]
def ZI:Fn [.R, .S] As:=λa b=>[aH 9 a,aS b]
def ack:Fn [.B] dp:=λa=>⟨[aB a],[]⟩
def Dd:Fn [.R, .S, .B, .I] Tb:=λa b c d=>[cH 0 9 a,cA 2 (.s b),cA 8 (.b c),cI 10 d]
def RG(N:au)(K:Kt R):=fC.l2 N (J Dd .ret K) (J Dd (.exit 0) K)
def afp(N:au):It R:=(lp 2 (al Dd (λK=>RG N K N) an) ln)
def Lk:=dR ZI ack fC.c fC.v

def ag_:=en [] []
def ZQ:Fn [.I, .I, .I] As:=λa b c=>[aI a,aI b,aI c]
def acv:Fn [.B] dp:=λa=>⟨[aB a],[]⟩
def sL:=dR ZQ acv (ct _) fX.v

def ag4:=en [(122,sL)] []
def ZG:Fn [.S] As:=λa=>[aS a]
def aci:Fn [.B] dp:=λa=>⟨[aB a],[]⟩
def CN:=dR ZG aci (ct _) tG.v

def ahy:=en [(122,sL)] [(4,[1,2,3]),(9,[1,2,3,4])]
def aav:Fn [.R, .I] As:=λa b=>[aV [.sh 30 a, .n b]]
def ada:Fn [.B] dp:=λa=>⟨[aB a],[]⟩
def Dk:Fn [.B, .I, .R, .I] Tb:=λa b c d=>[cP 2 0,cA 4 (.b a),cI 6 b,oB 1 [.sh 30 c, .n d]]
def Dl:Fn [.B, .I, .I, .R, .I] Tb:=λa b c d e=>[cP 2 0,cA 4 (.b a),cI 6 b,cI 8 c,oB 1 [.sh 30 d, .n e]]
def RS(N:au)(K:Kt R):=e_.l4 N (J Dk .ret K) (J Dk (.exit 0) K)
def RT(N:au)(K:Kt R):=e_.l9 N (J Dl .ret K) (J Dl (.exit 2) K)
def afA(N:au):It R:=(lp 4 (al Dk (λK=>RS N K N) an) (lp 9 (al Dl (λK=>RT N K N) an) ln))
def LA:=dR aav ada e_.c e_.v

def ag3:=en [(101,CN),(103,Lk),(187,LA)] [(3,[1,2,3,4])]
def ZF:Fn [.R, .R, .R, .I] As:=λa b c d=>[aV [.sh 9 a, .sh 9 b, .sh 30 c, .n d]]
def ach:Fn [.B] dp:=λa=>⟨[aB a],[]⟩
def Dc:Fn [.B, .I, .R, .R, .R, .I, .R] Tb:=λa b c d e f g=>[cP 2 0,cA 4 (.b a),cA 6 (.own 1),cI 8 b,oB 1 [.sh 9 c, .sh 9 d, .sh 30 e, .n f],oR 3 9 g]
def RE(N:au)(K:Kt R):=jW.l3 N (J Dc .ret K) (J Dc (.exit 0) K)
def afn(N:au):It R:=(lp 3 (al Dc (λK=>RE N K N) an) ln)
def QL:=dR ZF ach jW.c jW.v

def ahk:=en [(101,CN),(122,sL)] []
def Z2:Fn [.S, .I, .I, .S] As:=λa b c d=>[aV [.s a, .n b, .n c, .s d]]
def acH:Fn [.B] dp:=λa=>⟨[aB a],[]⟩
def QQ:=dR Z2 acH (ct _) jD.v

def ahA:=en [(103,Lk)] []
def aaB:Fn [.R, .R, .R, .I, .S] As:=λa b c d e=>[aV [.sh 9 a, .sh 9 b, .sh 30 c, .n d],aS e]
def adi:Fn [.B] dp:=λa=>⟨[aB a],[]⟩
def X_:=dR aaB adi zZ.c zZ.v

def aha:=en [(149,QQ),(201,X_),(100,QL)] [(2,[1,2,3])]
def ZR:Fn [.I, .R, .R, .R, .R, .I, .R, .R, .I] As:=λa b c d e f g h i=>[aV [.n a, .sh 86 b, .sh 9 c, .sh 9 d, .sh 30 e, .n f, .sh 126 g, .sh 62 h, .n i]]
def acw:Fn [.B] dp:=λa=>⟨[aB a],[]⟩
def De:Fn [.B, .I, .I, .R, .R, .R, .R, .I, .R, .R, .I] Tb:=λa b c d e f g h i j k=>[cP 2 0,cA 4 (.b a),cI 6 b,oB 1 [.n c, .sh 86 d, .sh 9 e, .sh 9 f, .sh 30 g, .n h, .sh 126 i, .sh 62 j, .n k]]
def RJ(N:au)(K:Kt R):=mH.l2 N (J De .ret K) (J De (.exit 0) K)
def afs(N:au):It R:=(lp 2 (al De (λK=>RJ N K N) an) ln)
def XX:=dR ZR acw mH.c mH.v

def ahb:=en [(101,CN),(122,sL)] [(5,[1,2,4,5,6])]
def ZS:Fn [.I, .R, .R, .R, .R, .I, .R, .R, .I, .I] As:=λa b c d e f g h i j=>[aV [.n a, .sh 86 b, .sh 9 c, .sh 9 d, .sh 30 e, .n f, .sh 126 g, .sh 62 h, .n i],aI j]
def acx:Fn [.B] dp:=λa=>⟨[aB a],[]⟩
def Df:Fn [.I, .B, .I, .I, .R, .R, .R, .R, .I, .R, .R, .I, .S, .S, .I, .I, .I] Tb:=λa b c d e f g h i j k l m o p q r=>[cI 2 a,cP 4 0,cA 8 (.b b),cP 10 1,cI 12 c,oB 1 [.n d, .sh 86 e, .sh 9 f, .sh 9 g, .sh 30 h, .n i, .sh 126 j, .sh 62 k, .n l],oB 3 [.s m, .s o, .n p, .n q, .n r]]
def RK(N:au)(K:Kt R):=nV.l5 N (J Df .ret K) (J Df (.exit 0) K)
def aft(N:au):It R:=(lp 5 (al Df (λK=>RK N K N) an) ln)
def XY:=dR ZS acx nV.c nV.v

def E39:=en [(122,sL),(123,XX),(124,XY),(101,CN)] [(4,[1,2,3]),(9,[1,2,4])]
def A39:Fn [.I, .R, .R, .R, .R, .I, .R, .R, .I] As:=λa b c d e f g h i=>[aV [.n a, .sh 86 b, .sh 9 c, .sh 9 d, .sh 30 e, .n f, .sh 126 g, .sh 62 h, .n i]]
def k39:Fn [.B] dp:=λa=>⟨[aB a],[]⟩
def I8:Fn [.B, .I, .I, .R, .R, .R, .R, .I, .R, .R, .I] Tb:=λa b c d e f g h i j k=>[cP 2 0,cA 4 (.b a),cI 6 b,oB 1 [.n c, .sh 86 d, .sh 9 e, .sh 9 f, .sh 30 g, .n h, .sh 126 i, .sh 62 j, .n k]]
def I9:Fn [.B, .I, .I, .R, .R, .R, .R, .I, .R, .R, .I] Tb:=λa b c d e f g h i j k=>[cP 2 0,cA 4 (.b a),cI 8 b,oB 1 [.n c, .sh 86 d, .sh 9 e, .sh 9 f, .sh 30 g, .n h, .sh 126 i, .sh 62 j, .n k]]
def Vp(N:au)(K:Kt R):=sW.l4 N (J I8 .ret K) (J I8 (.exit 0) K)
def Vq(N:au)(K:Kt R):=sW.l9 N (J I9 .ret K) (J I9 (.exit 2) K)
def ajx(N:au):It R:=(lp 4 (al I8 (λK=>Vp N K N) an) (lp 9 (al I9 (λK=>Vq N K N) an) ln))
def akU:=dR A39 k39 sW.c sW.v

def E57:=en [] [(3,[0,3,5,6]),(9,[0,3,5,7])]
def A57:Fn [.R, .S, .I, .I, .S] As:=λa b c d e=>[aH 86 a,aV [.s b, .n c, .n d, .s e]]
def k57:Fn [.R] dp:=λa=>⟨[aO 86 a],[]⟩
def PH:Fn [.R, .I, .S, .I, .I, .S, .R] Tb:=λa b c d e f g=>[cH 0 86 a,cP 6 0,cA 10 (.own 1),cI 12 b,oB 1 [.s c, .n d, .n e, .s f],oR 3 86 g]
def PI:Fn [.R, .I, .S, .I, .I, .S, .R] Tb:=λa b c d e f g=>[cH 0 86 a,cP 6 0,cA 10 (.own 1),cI 14 b,oB 1 [.s c, .n d, .n e, .s f],oR 3 86 g]
def Vu(N:au)(K:Kt R):=k9.l3 N (J PH (.exit 0) K)
def Vv(N:au)(K:Kt R):=k9.l9 N (J PI (.exit 2) K)
def ajB(N:au):It R:=(lp 3 (al PH (λK=>Vu N K N) an) (lp 9 (al PI (λK=>Vv N K N) an) ln))
def ael:=dR A57 k57 k9.c k9.v

def ahd:=en [(122,sL)] []
def ZV:Fn [.S] As:=λa=>[aS a]
def acA:Fn [.B] dp:=λa=>⟨[aB a],[]⟩
def X0:=dR ZV acA (ct _) R0.v

def E53:=en [(142,X0),(122,sL)] [(4,[1,2,3])]
def A53:Fn [.R] As:=λa=>[aV [.sh 159 a]]
def k53:Fn [.B] dp:=λa=>⟨[aB a],[]⟩
def I_:Fn [.B, .I, .R] Tb:=λa b c=>[cP 2 0,cA 4 (.b a),cI 6 b,oB 1 [.sh 159 c]]
def Vs(N:au)(K:Kt R):=rQ.l4 N (J I_ .ret K) (J I_ (.exit 0) K)
def ajz(N:au):It R:=(lp 4 (al I_ (λK=>Vs N K N) an) ln)
def Ym:=dR A53 k53 rQ.c rQ.v

def ahD:=en [] []
def aaE:Fn [.S, .S, .I, .S] As:=λa b c d=>[aV [.s a, .s b, .n c], .fb [.s d]]
def adm:Fn [.B] dp:=λa=>⟨[aB a],[]⟩
def Yb:=dR aaE adm (ct _) Jf.v

def aeB:=en [(211,Yb)] [(2,[0,1,4,7,8])]
def UZ:Fn [.R, .S] As:=λa b=>[aH 159 a, .v ah [.fn 211 [[.s b]]]]
def WV:Fn [.I] dp:=λa=>⟨[aI a],[]⟩
def zR:Fn [.R, .S, .I, .I, .I] Tb:=λa b c d e=>[cH 0 159 a,cA 2 (.fn 211 [[.s b]]),cI 8 c,cI 14 d,cI 16 e]
def MM(N:au)(K:Kt R):=rN.l2 N (J zR .ret K) (J zR (.exit 0) K)
def acf(N:au):It R:=(lp 2 (al zR (λK=>MM N K N) an) ln)
def LF:=dR UZ WV rN.c rN.v

def ahG:=en [] []
def aaH:Fn [.S, .S, .I, .S] As:=λa b c d=>[aV [.s a, .s b, .n c], .fb [.s d]]
def adp:Fn [.B] dp:=λa=>⟨[aB a],[]⟩
def Q8:=dR aaH adp (ct _) yb.v

def aeC:=en [(215,Q8)] [(2,[0,1,4,7,8])]
def U0:Fn [.R, .S] As:=λa b=>[aH 159 a, .v ah [.fn 215 [[.s b]]]]
def WW:Fn [.I] dp:=λa=>⟨[aI a],[]⟩
def zS:Fn [.R, .S, .I, .I, .I] Tb:=λa b c d e=>[cH 0 159 a,cA 2 (.fn 215 [[.s b]]),cI 8 c,cI 14 d,cI 16 e]
def MN(N:au)(K:Kt R):=ma.l2 N (J zS .ret K) (J zS (.exit 0) K)
def acg(N:au):It R:=(lp 2 (al zS (λK=>MN N K N) an) ln)
def LG:=dR U0 WW ma.c ma.v

def ahF:=en [(210,LF),(210,LG),(215,Q8)] [(5,[0,1,5,6])]
def aaG:Fn [.R, .S] As:=λa b=>[aO 159 a, .v ah [.fn 215 [[.s b]]]]
def ado:Fn [.R] dp:=λa=>⟨[aO 159 a],[[.nl]]⟩
def I7:Fn [.S, .I, .I, .R] Tb:=λa b c d=>[cA 0 (.own 900000000),cA 2 (.fn 215 [[.s a]]),cI 10 b,cI 12 c,oR 1800000001 159 d]
def RX(N:au)(K:Kt R):=v_.l5 N (J I7 (.exit 0) K)
def afD(N:au):It R:=(lp 5 (al I7 (λK=>RX N K N) an) ln)
def Ye:=dR aaG ado v_.c v_.v

def ahl:=en [] [(2,[0,3])]
def Z3:Fn [.I] As:=λa=>[aI a]
def acI:Fn [.S] dp:=λa=>⟨[aS a],[]⟩
def IX:Fn [.I, .R] Tb:=λa b=>[cI 0 a,cA 6 (.own 0),oR 1 5 b]
def RO(N:au)(K:Kt R):=ko.l2 N (J IX (.exit 0) K)
def afw(N:au):It R:=(lp 2 (al IX (λK=>RO N K N) an) ln)
def Lp:=dR Z3 acI ko.c ko.v

def ahE:=en [] [(2,[0,1,5]),(6,[0,1,5,6])]
def aaF:Fn [.I, .S] As:=λa b=>[.v ah [.i .u32 a],aS b]
def adn:Fn [.I] dp:=λa=>⟨[.v ah [.i .u32 a]],[]⟩
def I5:Fn [.I, .S, .I] Tb:=λa b c=>[cA 0 (.i .u32 a),cA 2 (.s b),cI 10 c]
def I6:Fn [.I, .S, .I, .I] Tb:=λa b c d=>[cA 0 (.i .u32 a),cA 2 (.s b),cI 10 c,cI 12 d]
def RV(N:au)(K:Kt R):=iw.l2 N (J I5 (.exit 0) K)
def RW(N:au)(K:Kt R):=iw.l6 N (J I6 (.exit 2) K)
def afC(N:au):It R:=(lp 2 (al I5 (λK=>RV N K N) an) (lp 6 (al I6 (λK=>RW N K N) an) ln))
def Yc:=dR aaF adn iw.c iw.v

def ahn:=en [(212,Yc)] []
def Z5:Fn [.S] As:=λa=>[aS a]
def acK:Fn [.I] dp:=λa=>⟨[.v ah [.i .u32 a]],[]⟩
def QR:=dR Z5 acK tH.c tH.v

def ahm:=en [] []
def Z4:Fn [.I] As:=λa=>[.v ah [.i .u32 a]]
def acJ:Fn [.S] dp:=λa=>⟨[aS a],[]⟩
def X5:=dR Z4 acJ (ct _) nW.v

def E64:=en [(122,sL),(150,Lp),(152,QR),(151,X5)] []
def A64:Fn [.S] As:=λa=>[aS a]
def k64:Fn [.S, .B] dp:=λa b=>⟨[aS a,aB b],[]⟩
def Yp:=dR A64 k64 nX.c nX.v

def ahf:=en [(122,sL),(150,Lp)] [(6,[0,1,4,5,6,7,8,9])]
def ZX:Fn [.S, .I] As:=λa b=>[aS a,aI b]
def acC:Fn [.I, .I, .B] dp:=λa b c=>⟨[aI a,aI b,aB c],[]⟩
def Dh:Fn [.S, .I, .I, .I, .B, .I, .I, .I] Tb:=λa b c d e f g h=>[cA 0 (.s a),cI 2 b,cI 8 c,cI 10 d,cA 12 (.b e),cI 14 f,cI 16 g,cI 18 h]
def RN(N:au)(K:Kt R):=eG.l6 N (J Dh .ret K) (J Dh (.exit 0) K)
def afv(N:au):It R:=(lp 6 (al Dh (λK=>RN N K N) an) ln)
def Ln:=dR ZX acC (ct _) eG.v

def ahg:=en [(144,Ln)] []
def ZY:Fn [.S, .I] As:=λa b=>[aS a,aI b]
def acD:Fn [.S, .I, .B] dp:=λa b c=>⟨[aS a,aI b,aB c],[]⟩
def X2:=dR ZY acD (ct _) oT.v

def E63:=en [(149,QQ),(150,Lp)] []
def A63:Fn [.S, .I, .I, .S] As:=λa b c d=>[aV [.s a, .n b, .n c, .s d]]
def k63:Fn [.S, .B] dp:=λa b=>⟨[aS a,aB b],[]⟩
def Yo:=dR A63 k63 (ct _) Dq.v

def E56:=en [(145,X2),(144,Ln),(63,Yo)] []
def A56:Fn [.S] As:=λa=>[aS a]
def k56:Fn [.S, .I, .I, .S, .B] dp:=λa b c d e=>⟨[aV [.s a, .n b, .n c, .s d],aB e],[]⟩
def aek:=dR A56 k56 (ct _) z6.v

def ahr:=en [(70,nG)] [(5,[0,1,4,5,6,7,8])]
def Z9:Fn [.S, .I] As:=λa b=>[aS a,aI b]
def acO:Fn [.I, .I, .B] dp:=λa b c=>⟨[aI a,aI b,aB c],[]⟩
def Di:Fn [.S, .I, .I, .I, .B, .I, .I] Tb:=λa b c d e f g=>[cA 0 (.s a),cI 2 b,cI 8 c,cI 10 d,cA 12 (.b e),cI 14 f,cI 16 g]
def RQ(N:au)(K:Kt R):=eW.l5 N (J Di .ret K) (J Di (.exit 0) K)
def afy(N:au):It R:=(lp 5 (al Di (λK=>RQ N K N) an) ln)
def Lq:=dR Z9 acO (ct _) eW.v

def ahs:=en [(216,LH)] []
def Z_:Fn [.S] As:=λa=>[aS a]
def acP:Fn [.S] dp:=λa=>⟨[aS a],[]⟩
def QT:=dR Z_ acP tI.c tI.v

def E67:=en [(156,Lq),(70,nG),(157,QT)] [(3,[0,4,5])]
def A67:Fn [.S] As:=λa=>[aS a]
def k67:Fn [.R, .I] dp:=λa b=>⟨[aO 9 a,aI b],[]⟩
def PJ:Fn [.S, .I, .R] Tb:=λa b c=>[cA 0 (.s a),cA 8 (.own 0),cI 10 b,oR 1 9 c]
def Vx(N:au)(K:Kt R):=U67.l3 N (J PJ (.exit 0) K)
def ajD(N:au):It R:=(lp 3 (al PJ (λK=>Vx N K N) an) ln)
def aeo:=dR A67 k67 U67.c U67.v

def E55:=en [(144,Ln),(64,Yp)] [(5,[0,2,3,4,5])]
def A55:Fn [.S] As:=λa=>[aS a]
def k55:Fn [.R, .I] dp:=λa b=>⟨[aO 9 a,aI b],[]⟩
def PG:Fn [.S, .I, .I, .R] Tb:=λa b c d=>[cA 0 (.s a),cA 4 .nl,cI 6 b,cA 8 (.own 0),cI 10 c,oR 1 9 d]
def MU:Fn [.S, .I, .I, .R] Tb:=λa b c d=>[cA 0 (.s a),cA 4 (.own 0),cI 6 b,cA 8 (.own 0),cI 10 c,oR 1 9 d]
def Vt(N:au)(K:Kt R):=E8.l5 N (J MU .ret K) (J PG (.exit 0) K)
def ajA(N:au):It R:=(lp 5 (al PG (λK=>Vt N K N) an) ln)
def aej:=dR A55 k55 E8.c E8.v

def ahC:=en [(70,nG)] [(4,[0,4])]
def aaD:Fn [.I] As:=λa=>[aI a]
def adl:Fn [.S, .B] dp:=λa b=>⟨[aS a,aB b],[]⟩
def IZ:Fn [.I, .R] Tb:=λa b=>[cI 0 a,cA 8 (.own 0),oR 1 5 b]
def RU(N:au)(K:Kt R):=qT.l4 N (J IZ (.exit 0) K)
def afB(N:au):It R:=(lp 4 (al IZ (λK=>RU N K N) an) ln)
def LD:=dR aaD adl (ct _) qT.v

def ahB:=en [(209,LD)] []
def aaC:Fn [.S] As:=λa=>[aS a]
def adk:Fn [.S, .B] dp:=λa b=>⟨[aS a,aB b],[]⟩
def Ya:=dR aaC adk (ct _) GH.v

def ahh:=en [(159,CO),(208,Ya),(209,LD)] []
def ZZ:Fn [.S, .I, .I, .S] As:=λa b c d=>[aV [.s a, .n b, .n c, .s d]]
def acE:Fn [.S, .B] dp:=λa b=>⟨[aS a,aB b],[]⟩
def X3:=dR ZZ acE (ct _) GG.v

def ahi:=en [(70,nG),(209,LD),(157,QT)] []
def Z0:Fn [.S] As:=λa=>[aS a]
def acF:Fn [.S, .B] dp:=λa b=>⟨[aS a,aB b],[]⟩
def X4:=dR Z0 acF Bt.c Bt.v

def E61:=en [(146,X3),(147,X4)] []
def A61:Fn [.S, .I, .I, .S] As:=λa b c d=>[aV [.s a, .n b, .n c, .s d]]
def k61:Fn [.S, .B] dp:=λa b=>⟨[aS a,aB b],[]⟩
def aem:=dR A61 k61 PM.c PM.v

def ahe:=en [] [(2,[1,2,4,5])]
def ZW:Fn [.R, .S] As:=λa b=>[aV [.sh 159 a],aS b]
def acB:Fn [.I] dp:=λa=>⟨[aI a],[]⟩
def Dg:Fn [.S, .I, .I, .R] Tb:=λa b c d=>[cA 2 (.s a),cP 4 0,cI 8 b,cI 10 c,oB 1 [.sh 159 d]]
def RM(N:au)(K:Kt R):=l8.l2 N (J Dg .ret K) (J Dg (.exit 0) K)
def afu(N:au):It R:=(lp 2 (al Dg (λK=>RM N K N) an) ln)
def X1:=dR ZW acB l8.c l8.v

def E54:=en [(143,X1)] []
def A54:Fn [.R, .S] As:=λa b=>[aV [.sh 159 a],aS b]
def k54:Fn [.S, .B] dp:=λa b=>⟨[aS a,aB b],[]⟩
def Yn:=dR A54 k54 Ji.c Ji.v

def ahj:=en [(210,LF),(210,LG)] []
def Z1:Fn [.R, .S] As:=λa b=>[aV [.sh 159 a],aS b]
def acG:Fn [.I] dp:=λa=>⟨[aI a],[]⟩
def QP:=dR Z1 acG fG.c fG.v

def E60:=en [(70,nG)] [(2,[1,2,6,7,8])]
def A60:Fn [.R] As:=λa=>[aV [.sh 159 a]]
def k60:Fn [.B] dp:=λa=>⟨[aB a],[]⟩
def Ja:Fn [.B, .R, .I, .I, .R] Tb:=λa b c d e=>[cP 2 0,cA 4 (.b a),cH 12 159 b,cI 14 c,cI 16 d,oB 1 [.sh 159 e]]
def Vw(N:au)(K:Kt R):=qV.l2 N (J Ja .ret K) (J Ja (.exit 0) K)
def ajC(N:au):It R:=(lp 2 (al Ja (λK=>Vw N K N) an) ln)
def T6:=dR A60 k60 qV.c qV.v

def aho:=en [(70,nG)] []
def Z6:Fn [.I, .S, .S, .S] As:=λa b c d=>[aV [.n a, .s b, .s c, .s d]]
def acL:Fn [.B] dp:=λa=>⟨[aB a],[]⟩
def X6:=dR Z6 acL (ct _) Jc.v

def E65:=en [] []
def A65:Fn [.R] As:=λa=>[aV [.sh 159 a]]
def k65:Fn [.R] dp:=λa=>⟨[aV [.ow 159 ae a]],[]⟩
def Yq:=dR A65 k65 Jj.c Jj.v

def ahq:=en [(65,Yq),(214,Ye)] []
def Z8:Fn [.R, .S] As:=λa b=>[aV [.sh 159 a],aS b]
def acN:Fn [.R] dp:=λa=>⟨[aV [.ow 159 ae a]],[]⟩
def QS:=dR Z8 acN kq.c kq.v

def aed:HR:=⟨λn=>bif a_ n 22 then 213 else bif a_ n 29 then 229 else 230,λn=>bif a_ n 24 then 24 else bif a_ n 9 then 159 else bif a_ n 3 then 3 else bif a_ n 4 then 4 else n,λn=>n⟩
def Yd:ak dO->ar (aL×dp):=Ins.si 159 40

def ahp:=en [(155,QS),(213,Yd)] [(3,[3,4,5,6])]
def Z7:Fn [.R, .S, .S, .I] As:=λa b c d=>[aV [.sh 159 a],aV [.s b, .s c, .n d]]
def acM:Fn [.R] dp:=λa=>⟨[aV [.ow 159 ae a]],[]⟩
def IY:Fn [.I, .S, .S, .I, .R] Tb:=λa b c d e=>[cP 6 0,cP 8 1,cP 10 2,cI 12 a,oB 1 [.s b, .s c, .n d],oB 3 [.nl],oB 5 [.own 3],oR 7 159 e]
def RP(N:au)(K:Kt R):=jE.l3 N (J IY (.exit 0) K)
def afx(N:au):It R:=(lp 3 (al IY (λK=>RP N K N) an) ln)
def X7:=dR Z7 acM jE.c jE.v

def E66:=en [(148,QP),(60,T6),(153,X6),(154,X7),(155,QS)] []
def A66:Fn [.R, .I, .S, .S, .S] As:=λa b c d e=>[aV [.sh 159 a],aV [.n b, .s c, .s d, .s e]]
def k66:Fn [.R, .B] dp:=λa b=>⟨[aV [.ow 159 ae a],aB b],[]⟩
def akY:=dR A66 k66 VB.c VB.v

def E62:=en [(148,QP)] []
def A62:Fn [.R, .S] As:=λa b=>[aV [.sh 159 a],aS b]
def k62:Fn [.S, .B] dp:=λa b=>⟨[aS a,aB b],[]⟩
def aen:=dR A62 k62 MS.c MS.v

def aht:=en [(156,Lq)] []
def aaa:Fn [.S, .I] As:=λa b=>[aS a,aI b]
def acQ:Fn [.S, .I, .B] dp:=λa b c=>⟨[aS a,aI b,aB c],[]⟩
def X8:=dR aaa acQ (ct _) rJ.v

def E68:=en [(158,X8),(156,Lq),(159,CO)] []
def A68:Fn [.S] As:=λa=>[aS a]
def k68:Fn [.S, .I, .I, .S, .B] dp:=λa b c d e=>⟨[aV [.s a, .n b, .n c, .s d],aB e],[]⟩
def aep:=dR A68 k68 (ct _) Jk.v

def E20:=en [(60,T6),(62,aen),(67,aeo),(68,aep),(69,T7)] [(7,[3,27,28,29])]
def A20:Fn [.R] As:=λa=>[aV [.sh 159 a]]
def k20:Fn [.R] dp:=λa=>⟨[aO 86 a],[]⟩
def PE:Fn [.I, .I, .R, .R] Tb:=λa b c d=>[cA 6 (.own 0),cA 54 (.own 1),cI 56 a,cI 58 b,oR 1 86 c,oR 3 9 d]
def Vo(N:au)(K:Kt R):=Y0.l7 N (J PE (.exit 0) K)
def ajw(N:au):It R:=(lp 7 (al PE (λK=>Vo N K N) an) ln)
def akS:=dR A20 k20 Y0.c Y0.v

def E13:=en [(53,Ym),(54,Yn),(55,aej),(56,aek),(57,ael)] [(7,[3,6,8])]
def A13:Fn [.R] As:=λa=>[aV [.sh 159 a]]
def k13:Fn [.R] dp:=λa=>⟨[aO 86 a],[]⟩
def PC:Fn [.I, .R, .R] Tb:=λa b c=>[cA 6 (.own 0),cA 12 (.own 1),cI 16 a,oR 1 86 b,oR 3 9 c]
def Vm(N:au)(K:Kt R):=Ut.l7 N (J PC (.exit 0) K)
def aju(N:au):It R:=(lp 7 (al PC (λK=>Vm N K N) an) ln)
def akQ:=dR A13 k13 Ut.c Ut.v

def E43:=en [(61,aem)] []
def A43:Fn [.S, .I, .I, .S] As:=λa b c d=>[aV [.s a, .n b, .n c, .s d]]
def k43:Fn [.R, .B] dp:=λa b=>⟨[aO 106 a,aB b],[]⟩
def akV:=dR A43 k43 VA.c VA.v

def ahx:=en [] [(3,[1,2,3,4])]
def aau:Fn [.R, .I] As:=λa b=>[aV [.sh 30 a, .n b]]
def ac_:Fn [.R, .I] dp:=λa b=>⟨[aV [.ow 30 ae a, .n b]],[]⟩
def Dj:Fn [.I, .R, .I, .I, .I] Tb:=λa b c d e=>[cP 2 0,cP 4 1,cP 6 2,cI 8 a,oB 1 [.sh 30 b, .n c],oB 3 [.nl, .n d],oB 5 [.nl, .n e]]
def zP:Fn [.I, .R, .I, .I, .I, .R] Tb:=λa b c d e f=>[cP 2 0,cP 4 1,cP 6 2,cI 8 a,oB 1 [.sh 30 b, .n c],oB 3 [.nl, .n d],oB 5 [.own 3, .n e],oR 7 30 f]
def RR(N:au)(K:Kt R):=qt.l3 N (J Dj (.exit 0) K) (J zP (.exit 0) K)
def ML(N:au)(K:Kt R):=qt.Ce N (J Dj (.exit 0) K) (J zP (.exit 0) K)
def afz(N:au):It R:=(lp 3 (al Dj (λK=>RR N K N) (al zP (λK=>ML N K N) an)) ln)
def Q4:=dR aau ac_ qt.c qt.v

def E99:=en [(186,Q4)] []
def A99:Fn [.R, .R, .R, .I] As:=λa b c d=>[aV [.sh 9 a, .sh 9 b, .sh 30 c, .n d]]
def k99:Fn [.R, .R, .R, .I] dp:=λa b c d=>⟨[aV [.ow 9 ae a, .ow 9 ae b, .ow 30 ae c, .n d]],[]⟩
def YF:=dR A99 k99 jQ.c jQ.v

def ahz:=en [(152,QR)] []
def aaw:Fn [.I, .S] As:=λa b=>[aI a,aS b]
def adb:Fn [.I] dp:=λa=>⟨[aI a],[]⟩
def Q5:=dR aaw adb fu.c fu.v

def ag5:=en [(186,Q4),(187,LA),(188,Q5)] [(5,[1,4,5,6]),(14,[4,5,8]),(17,[4,5,8,9])]
def ZH:Fn [.R, .I, .S] As:=λa b c=>[aV [.sh 30 a, .n b],aS c]
def acj:Fn [.R, .I] dp:=λa b=>⟨[aV [.ow 30 ae a, .n b]],[]⟩
def IU:Fn [.S, .I, .I, .I, .R] Tb:=λa b c d e=>[cA 2 (.s a),cP 8 0,cP 10 1,cI 12 b,oB 1 [.nl, .n c],oB 3 [.own 2, .n d],oR 5 30 e]
def EX:Fn [.I, .I, .I, .R] Tb:=λa b c d=>[cP 8 0,cP 10 1,cI 16 a,oB 1 [.nl, .n b],oB 3 [.own 2, .n c],oR 5 30 d]
def EY:Fn [.I, .I, .I, .I, .R] Tb:=λa b c d e=>[cP 8 0,cP 10 1,cI 16 a,cI 18 b,oB 1 [.nl, .n c],oB 3 [.own 2, .n d],oR 5 30 e]
def RF(N:au)(K:Kt R):=dm.l5 N (J IU (.exit 0) K)
def MJ(N:au)(K:Kt R):=dm.Tq N (J EX (.exit 2) K)
def MK(N:au)(K:Kt R):=dm.Tt N (J EY (.exit 4) K)
def afo(N:au):It R:=(lp 5 (al IU (λK=>RF N K N) an) (lp 14 (al EX (λK=>MJ N K N) an) (lp 17 (al EY (λK=>MK N K N) an) ln)))
def XT:=dR ZH acj dm.c dm.v

def ag7:=en [] [(3,[0,1,5,6])]
def ZJ:Fn [.R, .S] As:=λa b=>[aH 9 a,aS b]
def acm:Fn [.R] dp:=λa=>⟨[aO 9 a],[]⟩
def IV:Fn [.R, .S, .I, .R] Tb:=λa b c d=>[cH 0 9 a,cA 2 (.s b),cA 10 (.own 0),cI 12 c,oR 1 9 d]
def RH(N:au)(K:Kt R):=uP.l3 N (J IV (.exit 0) K)
def afq(N:au):It R:=(lp 3 (al IV (λK=>RH N K N) an) ln)
def XU:=dR ZJ acm uP.c uP.v

def ag8:=en [(187,LA),(188,Q5)] [(5,[1,2,5,6])]
def ZK:Fn [.R, .I, .S] As:=λa b c=>[aV [.sh 30 a, .n b],aS c]
def acn:Fn [.I] dp:=λa=>⟨[aI a],[]⟩
def IW:Fn [.S, .I, .I, .R, .I] Tb:=λa b c d e=>[cA 2 (.s a),cP 4 0,cI 10 b,cI 12 c,oB 1 [.sh 30 d, .n e]]
def RI(N:au)(K:Kt R):=lY.l5 N (J IW (.exit 0) K)
def afr(N:au):It R:=(lp 5 (al IW (λK=>RI N K N) an) ln)
def XV:=dR ZK acn lY.c lY.v

def E32:=en [(99,YF),(100,QL),(101,CN),(102,XT),(103,Lk),(104,XU),(105,XV)] []
def A32:Fn [.R, .R, .R, .I, .S] As:=λa b c d e=>[aV [.sh 9 a, .sh 9 b, .sh 30 c, .n d],aS e]
def k32:Fn [.R, .R, .R, .I, .S] dp:=λa b c d e=>⟨[aV [.ow 9 ae a, .ow 9 ae b, .ow 30 ae c, .n d],aS e],[]⟩
def akT:=dR A32 k32 iy.c iy.v

def E71:=en [(60,T6),(65,Yq)] [(5,[1,4,6,17,18,19])]
def A71:Fn [.R, .R] As:=λa b=>[aV [.sh 159 a],aH 3 b]
def k71:Fn [.R, .B] dp:=λa b=>⟨[aV [.ow 159 ae a],aB b],[]⟩
def PK:Fn [.R, .R, .I, .I, .R] Tb:=λa b c d e=>[cH 2 3 a,cP 8 0,cP 12 1,cH 34 159 b,cI 36 c,cI 38 d,oB 1 [.nl],oB 3 [.own 2],oR 5 159 e]
def Vy(N:au)(K:Kt R):=PN.l5 N (J PK (.exit 0) K)
def ajE(N:au):It R:=(lp 5 (al PK (λK=>Vy N K N) an) ln)
def akZ:=dR A71 k71 PN.c PN.v

def E16:=en [(53,Ym),(54,Yn),(63,Yo),(64,Yp)] [(9,[1,4,5,6,9,10])]
def A16:Fn [.R, .R] As:=λa b=>[aV [.sh 159 a],aH 86 b]
def k16:Fn [.R, .B] dp:=λa b=>⟨[aO 106 a,aB b],[]⟩
def PD:Fn [.R, .B, .S, .I, .R] Tb:=λa b c d e=>[cH 2 86 a,cA 8 .nl,cA 10 (.b b),cA 12 (.own 0),cA 18 (.s c),cI 20 d,oR 1 106 e]
def MT:Fn [.R, .B, .S, .I, .R, .R] Tb:=λa b c d e f=>[cH 2 86 a,cA 8 (.own 0),cA 10 (.b b),cA 12 (.own 1),cA 18 (.s c),cI 20 d,oR 1 106 e,oR 3 106 f]
def Vn(N:au)(K:Kt R):=Uu.l9 N (J MT .ret K) (J PD (.exit 0) K)
def ajv(N:au):It R:=(lp 9 (al PD (λK=>Vn N K N) an) ln)
def akR:=dR A16 k16 Uu.c Uu.v

def ahc:=en [(99,YF)] []
def ZT:Fn [.I, .R, .R, .R, .R, .I, .R, .R, .I] As:=λa b c d e f g h i=>[aV [.n a, .sh 86 b, .sh 9 c, .sh 9 d, .sh 30 e, .n f, .sh 126 g, .sh 62 h, .n i]]
def acy:Fn [.I, .R, .R, .R, .R, .I, .R, .R, .I] dp:=λa b c d e f g h i=>⟨[aV [.n a, .ow 86 ae b, .ow 9 ae c, .ow 9 ae d, .ow 30 ae e, .n f, .ow 126 ae g, .ow 62 ae h, .n i]],[]⟩
def QN:=dR ZT acy fF.c fF.v

def E46:=en [(131,QN)] []
def A46:Fn [.I, .R, .R, .R, .R, .I, .R, .R, .I, .I] As:=λa b c d e f g h i j=>[aV [.n a, .sh 86 b, .sh 9 c, .sh 9 d, .sh 30 e, .n f, .sh 126 g, .sh 62 h, .n i],aI j]
def k46:Fn [.I, .R, .R, .R, .R, .I, .R, .R, .I] dp:=λa b c d e f g h i=>⟨[aV [.n a, .ow 86 ae b, .ow 9 ae c, .ow 9 ae d, .ow 30 ae e, .n f, .ow 126 ae g, .ow 62 ae h, .n i]],[]⟩
def akW:=dR A46 k46 z5.c z5.v

def E49:=en [(131,QN)] [(4,[1,2,4,5,6])]
def A49:Fn [.I, .R, .R, .R, .R, .I, .R, .R, .I, .I] As:=λa b c d e f g h i j=>[aV [.n a, .sh 86 b, .sh 9 c, .sh 9 d, .sh 30 e, .n f, .sh 126 g, .sh 62 h, .n i],aI j]
def k49:Fn [.I, .R, .R, .R, .R, .I, .R, .R, .I] dp:=λa b c d e f g h i=>⟨[aV [.n a, .ow 86 ae b, .ow 9 ae c, .ow 9 ae d, .ow 30 ae e, .n f, .ow 126 ae g, .ow 62 ae h, .n i]],[]⟩
def PF:Fn [.I, .I, .I, .R, .R, .R, .R, .I, .R, .R, .I, .I, .I, .I, .I, .I, .I, .R, .R, .R, .R, .R, .R] Tb:=λa b c d e f g h i j k l m o p q r s t u v w x=>[cI 2 a,cP 4 0,cP 8 1,cP 10 2,cI 12 b,oB 1 [.n c, .sh 86 d, .sh 9 e, .sh 9 f, .sh 30 g, .n h, .sh 126 i, .sh 62 j, .n k],oB 3 [.n l, .nl, .nl, .nl, .nl, .n m, .nl, .nl, .n o],oB 5 [.n p, .own 3, .own 4, .own 5, .own 6, .n q, .own 7, .own 8, .n r],oR 7 86 s,oR 9 9 t,oR 11 9 u,oR 13 30 v,oR 15 126 w,oR 17 62 x]
def Vr(N:au)(K:Kt R):=R2.l4 N (J PF (.exit 0) K)
def ajy(N:au):It R:=(lp 4 (al PF (λK=>Vr N K N) an) ln)
def akX:=dR A49 k49 R2.c R2.v

def ahv:=en [(59,OP)] []
def aad:Fn [.R, .I, .I, .R] As:=λa b c d=>[.pt [.sh 5 a, .n b, .n c],aO 3 d]
def acT:Fn [.I, .R, .I, .I, .R] dp:=λa b c d e=>⟨[aI a],[[.sh 5 b, .n c, .n d],[.kp e]]⟩
def afS:=dR aad acT Je.c Je.v

def ahw:=en [(59,OP)] []
def aae:Fn [.R, .I, .I, .R] As:=λa b c d=>[.pt [.sh 5 a, .n b, .n c],aO 9 d]
def acU:Fn [.S, .R, .I, .I, .R] dp:=λa b c d e=>⟨[aS a],[[.sh 5 b, .n c, .n d],[.kp e]]⟩
def X9:=dR aae acU ya.c ya.v

def ahu:=en [(164,X9)] []
def aac:Fn [.R, .I, .I] As:=λa b c=>[.pt [.sh 5 a, .n b, .n c]]
def acS:Fn [.S, .R, .I, .I] dp:=λa b c d=>⟨[aS a],[[.sh 5 b, .n c, .n d]]⟩
def afR:=dR aac acS Jd.c Jd.v

end Go.FG.Se
