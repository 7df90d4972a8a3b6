/- Plain facts on numbers, texts and lists. No condition. -/
import Derived.Test.YtjejmgffiilmlaaGreatCorec
set_option linter.unusedVariables false
set_option linter.unusedSimpArgs false
set_option maxRecDepth 100000
open Bool renaming true->ai,false->ak,true_and->bG,and_eq_true->aF,and_true->qT
open Go.IntKind renaming i64->ao
open List renaming beq->c6,takeWhile_cons_of_pos->oH,takeWhile_cons_of_neg->oG,length_cons->cS,length_nil->iT,length->bT,takeWhile_append_dropWhile->ma,length_append->bX,filter_cons_of_pos->de,filter_cons_of_neg->ca,drop_length->dg,range->cz,range'->mv,all_cons->rh,range_succ->Rj,all_append->zj,drop_eq_getElem_cons->dA,getD->jm,getElem_of_mem->dr,getElem_mem->bD,set->aw,take_succ_eq_append_getElem->dq,map_append->c8,getElem?_append_right->cW,getElem?_eq_getElem->lD,append_assoc->cf,append_nil->dH,take_of_length_le->ir,drop_zero->fA,pairwise_cons->lE,filter_eq_self->gb
open Nat renaming zero_le->bm,sub_self->YY,le_trans->cZ,blt->o0,beq->bh,le_refl->cm
open Option renaming some->ah,isSome->mw,getD->VS
open Option.some renaming inj->aD
open _root_ renaming Nat->aE,Option->aA,Int->az,ByteArray->aq,List->ax,Bool->aW,congrArg->kl,cond_true->ay,cond_false->aC,absurd->cw
namespace Go.FG.Lib
theorem wH{σ β:Type}(F:aE->σ->aA β)(mu:σ->aE)(inv:σ->Prop)(post:β->Prop)
  (step:∀n s,inv s->(∃b,F (n+1) s=ah b/\post b)\/∃s',inv s'/\mu s'<mu s/\F (n+1) s=F n s'):∀n s,inv s->mu s<n->∃b,F n s=ah b/\post b:=by
 intro n;induction n with
 |zero=>intro s _ h;omega
 |succ n ih=>
  intro s hi hm;rcases step n s hi with h|⟨s',h1,h2,h4⟩
  ·exact h
  ·rw[h4];exact ih s' h1 (by omega)
theorem cJ{n:aE}(h:n<=9223372036854775807):n<cR:=by unfold cR;omega
theorem cX{x:az}(h1: -9223372036854775808<=x)(h2:x<=9223372036854775807):bE x=x:=jL h1 h2
theorem ap_{x:az}(h0: -9223372036854775808<=x:=by omega)(h1:x<=9223372036854775807:=by omega):bE x=x:=cX h0 h1
theorem jE(a:aq):c6 a.toList a.toList=true:=pc _
theorem AJ(x:CV):(bytesOf [[x]]).size=1:=by rw[gX];rfl
theorem Yg(p:ax CV->aW):∀(r:aU) (i:aE),i<(r.takeWhile p).length->∃h:i<r.length,p r[i]=ai
 |[],i,h=>by simp at h
 |y::r,i,h=>by
  by_cases hp:p y=ai
  ·rw[oH hp]at h;cases i with
   |zero=>exact⟨by simp,hp⟩
   |succ i=>obtain⟨h1,h2⟩:=Yg p r i (by simpa using h);exact⟨by simpa using h1,by simpa using h2⟩
  ·rw[oG hp]at h;simp at h
theorem Yf(p:ax CV->aW):∀(r:aU) (h:(r.takeWhile p).length<r.length),p r[(r.takeWhile p).length]=ak
 |[],h=>by simp at h
 |y::r,h=>by
  by_cases hp:p y=ai
  ·have e:=oH (l:=r) hp;have h':(r.takeWhile p).length<r.length:=by rw[e]at h;simpa using h
   have:=Yf p r h';simp only[e,cS,List.getElem_cons_succ];exact this
  ·have e:=oG (l:=r) hp;simp only[e,iT,List.getElem_cons_zero];simpa using hp
theorem Ks(p:ax CV->aW)(r:aU):(r.takeWhile p).length<=r.length:=by have:=kl bT (ma (p:=p) (l:=r));rw[bX]at this;omega
theorem yW(p:ax CV->aW)(r:aU):r.take (r.takeWhile p).length=r.takeWhile p:=by have e:=ma (p:=p) (l:=r);have:=List.take_left (l₁:=r.takeWhile p) (l₂:=r.dropWhile p);rw[e]at this;exact this
theorem yJ(p:ax CV->aW)(r:aU):r.drop (r.takeWhile p).length=r.dropWhile p:=by have e:=ma (p:=p) (l:=r);have:=List.drop_left (l₁:=r.takeWhile p) (l₂:=r.dropWhile p);rw[e]at this;exact this
theorem AM{R:Type}(p:ax CV->aW)(r:aU)(F:aE->aE->aA R)(K:aE->aA R)
  (hT:∀m i (h:i<r.length),p r[i]=ai->F (m+1) i=F m (i+1)) (hF:∀m i (h:i<r.length),p r[i]=ak->F (m+1) i=K i) (hE:∀m,F (m+1) r.length=K r.length)
  (n:aE) (hn:r.length<n):F n 0=K (r.takeWhile p).length:=by
 refine gv F (λi=>r.length-i) (λi=>i<=(r.takeWhile p).length) (λ_=>K (r.takeWhile p).length) (λm i hi=> ?_) n 0 (bm _) (by omega);have hl:=Ks p r;by_cases h:i<(r.takeWhile p).length
 ·obtain⟨h1,h2⟩:=Yg p r i h;exact .inr ⟨i+1,h,by omega,rfl,hT m i h1 h2⟩
 ·left;have km:i=(r.takeWhile p).length:=by omega
  subst km;by_cases h2:(r.takeWhile p).length<r.length
  ·exact hF m _ h2 (Yf p r h2)
  ·have h3:(r.takeWhile p).length=r.length:=by omega
   rw[h3];exact hE m
theorem uM{R:Type}(p:ax CV->aW)(f:ax CV->ax CV)(r:aU)(m0:aE)(F:aE->aE->aU->aA R)(K:aU->aA R)
  (hT:∀m i acc (h:i<r.length),acc.length<=m0+i->p r[i]=ai->F (m+1) i acc=F m (i+1) (acc++[f r[i]])) (hF:∀m i acc (h:i<r.length),acc.length<=m0+i->p r[i]=ak->F (m+1) i acc=F m (i+1) acc)
  (hE:∀m acc,F (m+1) r.length acc=K acc) (n:aE) (acc:aU) (ha:acc.length<=m0) (hn:r.length<n):F n 0 acc=K (acc++(r.filter p).map f):=by
 have:=gv (λn (s:aE×aU)=>F n s.1 s.2) (λs=>r.length-s.1) (λs=>s.1<=r.length/\s.2.length<=m0+s.1) (λs=>K (s.2++((r.drop s.1).filter p).map f)) (λm s hs=>by
  obtain⟨i,acc⟩:=s;obtain⟨h1,h2⟩:=hs;dsimp only at h1 h2⊢;by_cases h:i<r.length
  ·right;rw[gV h];cases hp:p r[i]with
   |true=>exact⟨(i+1,acc++[f r[i]]),⟨h,by simp;omega⟩,by dsimp only;omega,by rw[de hp];simp,hT m i acc h h2 hp⟩
   |false=>exact⟨(i+1,acc),⟨h,by dsimp only;omega⟩,by dsimp only;omega,by rw[ca (by simp[hp])],hF m i acc h h2 hp⟩
  ·left;have hi:i=r.length:=by omega
   subst hi;rw[dg];simpa using hE m acc) n (0,acc) ⟨bm _,by dsimp only;omega⟩ (by dsimp only;omega)
 simpa using this
theorem js{R:Type}(g:aE->aW)(len:aE)(F:aE->aE->aA R)(kf kt:aA R)(hT:∀m i,i<len->g i=ai->F (m+1) i=F m (i+1))(hF:∀m i,i<len->g i=ak->F (m+1) i=kf)(hE:∀m,F (m+1) len=kt)(n:aE)(hn:len<n):F n 0=bif(cz len).all g then kt else kf:=by
 have:=gv F (λi=>len-i) (λi=>i<=len) (λi=>bif(mv i (len-i)).all g then kt else kf) (λm i hi=>by
  by_cases h:i<len
  ·have e:(mv i (len-i)).all g=(g i&&(mv (i+1) (len-(i+1))).all g):=by rw[show len-i=(len-(i+1))+1 by omega,List.range'_succ,rh]
   cases hp:g i with
   |true=>right;exact⟨i+1,h,by omega,by rw[e,hp,bG],hT m i h hp⟩
   |false=>left;rw[e,hp,hF m i h hp];rfl
  ·left;have:i=len:=by omega
   subst this;rw[hE,YY];rfl) n 0 (bm _) (by omega)
 rw[this,Nat.sub_zero,<-List.range_eq_range']
theorem oP{R:Type}(p:aE->aW)(len:aE)(F:aE->aE->aA R)(kr:az->aA R)(h1:∀m i,i<len->p i=ai->F (m+1) i=kr i)(h2:∀m i,i<len->p i=ak->F (m+1) i=F m (i+1))(h3:∀m,F (m+1) len=kr (-1))(n:aE)(hn:len<n):F n 0=kr (fi p len 0):=by
 have:=gv F (λi=>len-i) (λi=>i<=len) (λi=>kr (fi p (len-i) i)) (λm i hi=>by
  by_cases h:i<len
  ·have e:len-i=(len-(i+1))+1:=by omega
   cases hp:p i with
   |true=>left;rw[h1 m i h hp,e];simp[fi,hp]
   |false=>right;exact⟨i+1,h,by omega,by rw[e];simp[fi,hp],h2 m i h hp⟩
  ·left;have:i=len:=by omega
   subst this;rw[h3,YY];rfl) n 0 (by omega) (by omega)
 simpa using this
theorem all_congr{g h:aE->aW}{n:aE}(e:∀i,i<n->g i=h i):(cz n).all g=(cz n).all h:=by
 induction n with
 |zero=>rfl
 |succ n ih=>rw[Rj,zj,zj,ih (λi hi=>e i (by omega))];simp[e n (by omega)]
theorem Fj{T:Tab}(hT:∀e ti,T.ty e=ah ti->0<ti.bytes):∀y,pR T y->Fit y
 |_, .i k n _=>Fit.i k n
 |_, .b x=>Fit.b x
 |_, .s x h=>Fit.s x (cZ h (by omega))
 |_, .l e xs ti h h1 h2 h3=>by
  have hp:=hT e ti h;have hle:xs.length*1<=xs.length*ti.bytes:=Nat.mul_le_mul_left _ hp;exact Fit.l e xs (by omega) (λy hy x hx=>Fj hT x (h3 y hy x hx))
theorem PS:∀{rows:ax oh},rows.all (λr=>o0 0 r.ti.bytes)=ai->∀e ti,yw rows e=ah ti->0<ti.bytes
 |[],_,_,_,h=>by cases h
 |r::rs,h,e,ti,h2=>by
  rw[rh,aF]at h;unfold yw at h2;cases hb:bh e r.t with
  |true=>rw[hb,ay]at h2;obtain rfl:=aD h2;have h1:=h.1;simp[o0]at h1;omega
  |false=>rw[hb,aC]at h2;exact PS h.2 e ti h2
theorem V2{rows:ax oh}{T:Tab}(hT:T.ty=yw rows)(h:rows.all (λr=>o0 0 r.ti.bytes)=ai){e:aE}{xs:aU}(hf:pR T (.l e xs)):vS xs:=by
 cases Fj (λe ti he=>PS h e ti (by rw[<-hT];exact he)) _ hf with
 |l _ _ h1 h2=>exact⟨h1,h2⟩
end Go.FG.Lib

namespace Go.FG.Lib
theorem lI{σ R:Type}(len:aE)(F:aE->aE->σ->aA R)(st:aE->σ)(res:aA R)
  (hS:∀m i,i<len->F (m+1) i (st i)=F m (i+1) (st (i+1))) (hE:∀m,F (m+1) len (st len)=res) (n i0:aE) (h0:i0<=len) (hn:len-i0<n):F n i0 (st i0)=res:=by
 refine gv (λn i=>F n i (st i)) (λi=>len-i) (λi=>i<=len) (λ_=>res) (λm i hi=> ?_) n i0 h0 hn;by_cases h:i<len
 ·exact .inr ⟨i+1,h,by omega,rfl,hS m i h⟩
 ·left;have:i=len:=by omega
  subst this;exact hE m
theorem nM{α R:Type}(l:ax α)(p:α->aW)(F:aE->aE->aA R)(kf kt:aA R)
  (hT:∀m i (h:i<l.length),p l[i]=ai->F (m+1) i=F m (i+1)) (hF:∀m i (h:i<l.length),p l[i]=ak->F (m+1) i=kf) (hE:∀m,F (m+1) l.length=kt) (n:aE) (hn:l.length<n):F n 0=bif l.all p then kt else kf:=by
 have:=gv F (λi=>l.length-i) (λi=>i<=l.length) (λi=>bif(l.drop i).all p then kt else kf) (λm i hi=>by
  by_cases h:i<l.length
  ·have e:(l.drop i).all p=(p l[i]&&(l.drop (i+1)).all p):=by rw[dA h,rh]
   cases hp:p l[i]with
   |true=>right;exact⟨i+1,h,by omega,by rw[e,hp,bG],hT m i h hp⟩
   |false=>left;rw[e,hp,hF m i h hp];rfl
  ·left;have:i=l.length:=by omega
   subst this;rw[hE,dg];rfl) n 0 (bm _) (by omega)
 simpa using this
theorem zw{α R:Type}(l:ax α)(p:α->aW)(F:aE->aE->aA R)(kt kf:aA R)
  (hT:∀m i (h:i<l.length),p l[i]=ai->F (m+1) i=kt) (hF:∀m i (h:i<l.length),p l[i]=ak->F (m+1) i=F m (i+1)) (hE:∀m,F (m+1) l.length=kf) (n:aE) (hn:l.length<n):F n 0=bif l.any p then kt else kf:=by have h:=nM l (λx=> !p x) F kt kf (λm i h hp=>hF m i h (by simpa using hp)) (λm i h hp=>hT m i h (by simpa using hp)) hE n hn;rw[h,List.any_eq_not_all_not];cases l.all λx=> !p x<;>rfl
theorem getD_map'{α:Type}(f:α->ax CV)(l:ax α)(i:aE)(h:i<l.length):(l.map f).getD i []=f l[i]:=by simp[jm,h]
theorem fJ{α:Type}(f:α->ax CV)(l:ax α)(i j:aE)(h:i<l.length):ar (l.map f) i j=(f l[i]).getD j (.b ak):=by unfold ar;rw[getD_map' f l i h]
theorem Hl{α:Type}(l:ax α)(p:α->aW)(q:aE->aW)(h:∀i (hi:i<l.length),q i=p l[i]):decide (fi q l.length 0≥0)=l.any p:=by
 rcases rI q l.length 0 with ⟨h1,h2⟩|⟨k,_,hk,h3,h4,_⟩
 ·rw[h1];symm;rw[show decide ((-1:az)≥0)=ak by decide,List.any_eq_false];intro x hx;obtain⟨i,hi,rfl⟩:=dr hx;have:=h2 i (bm _) (by omega);rw[h i hi]at this;simp[this]
 ·rw[h3];symm;rw[show decide ((k:az)≥0)=ai by simp,List.any_eq_true];exact⟨l[k]'(by omega),bD _,by rw[<-h k (by omega)];exact h4⟩
theorem oV(ks:ax Ck)(y:ax CV):aw (aN ks 1) 0 y=[y]:=rfl
theorem nF{α β:Type}(f:α->β)(l:ax α)(i:aE)(h:i<l.length):(l.take i).map f++[f l[i]]=(l.take (i+1)).map f:=by rw[dq h,c8];rfl
def rs(l:ax aq):aU:=l.map λk=>[CV.s k]
def ri(l:ax az):aU:=l.map λn=>[CV.i ao n]
def rr(l:ax (ax az)):aU:=l.map λq=>[CV.l 3 (ri q)]
structure En where
 k:aq
 st:az
 li:az
 bo:aq
 deriving DecidableEq
def En.row(e:En):ax CV:=[CV.s e.k,CV.i ao e.st,CV.i ao e.li,CV.s e.bo]
def re(l:ax En):aU:=l.map En.row
structure Fe where
 k:aq
 t:aq
 sta:az
 li:az
 st:az
 deriving DecidableEq
def Fe.row(e:Fe):ax CV:=[CV.s e.k,CV.s e.t,CV.i ao e.sta,CV.i ao e.li,CV.i ao e.st]
def rf(l:ax Fe):aU:=l.map Fe.row
structure Cl where
 id:az
 k:aq
 fe:az
 fr:az
 sta:az
 got:aq
 age:az
 deriving DecidableEq
def Cl.row(e:Cl):ax CV:=[CV.i ao e.id,CV.s e.k,CV.i ao e.fe,CV.i ao e.fr,CV.i ao e.sta,CV.s e.got,CV.i ao e.age]
def rc(l:ax Cl):aU:=l.map Cl.row
structure Fi where
 n:aq
 t:aq
 kp:az
 deriving DecidableEq
def Fi.row(e:Fi):ax CV:=[CV.s e.n,CV.s e.t,CV.i ao e.kp]
def rd(l:ax Fi):aU:=l.map Fi.row
theorem er(l):(rs l).length=l.length:=by unfold rs;simp
theorem fV(l):(ri l).length=l.length:=by unfold ri;simp
theorem gk(l):(rr l).length=l.length:=by unfold rr;simp
theorem ej(l):(re l).length=l.length:=by unfold re;simp
theorem eu(l):(rf l).length=l.length:=by unfold rf;simp
theorem eI(l):(rc l).length=l.length:=by unfold rc;simp
theorem fM(l):(rd l).length=l.length:=by unfold rd;simp
theorem RE{l:ax aq}{i:aE}(h:i<l.length):ar (rs l) i 0=CV.s l[i]:=fJ _ l i 0 h
theorem Qa{l:ax az}{i:aE}(h:i<l.length):ar (ri l) i 0=CV.i ao l[i]:=fJ _ l i 0 h
theorem Ew{l:ax (ax az)}{i:aE}(h:i<l.length):ar (rr l) i 0=CV.l 3 (ri l[i]):=fJ _ l i 0 h
theorem rc0{l:ax Cl}{i:aE}(h:i<l.length):ar (rc l) i 0=CV.i ao l[i].id:=fJ _ l i 0 h
theorem rc1{l:ax Cl}{i:aE}(h:i<l.length):ar (rc l) i 1=CV.s l[i].k:=fJ _ l i 1 h
theorem rc2{l:ax Cl}{i:aE}(h:i<l.length):ar (rc l) i (1+1)=CV.i ao l[i].fe:=fJ _ l i 2 h
theorem rc3{l:ax Cl}{i:aE}(h:i<l.length):ar (rc l) i (1+1+1)=CV.i ao l[i].fr:=fJ _ l i 3 h
theorem rc4{l:ax Cl}{i:aE}(h:i<l.length):ar (rc l) i (1+1+1+1)=CV.i ao l[i].sta:=fJ _ l i 4 h
theorem rc5{l:ax Cl}{i:aE}(h:i<l.length):ar (rc l) i (1+1+1+1+1)=CV.s l[i].got:=fJ _ l i 5 h
theorem rc6{l:ax Cl}{i:aE}(h:i<l.length):ar (rc l) i (1+1+1+1+1+1)=CV.i ao l[i].age:=fJ _ l i 6 h
theorem H5{l:ax Fi}{i:aE}(h:i<l.length):ar (rd l) i 0=CV.s l[i].n:=fJ _ l i 0 h
theorem Xi{l:ax Fi}{i:aE}(h:i<l.length):ar (rd l) i 1=CV.s l[i].t:=fJ _ l i 1 h
theorem Xj{l:ax Fi}{i:aE}(h:i<l.length):ar (rd l) i (1+1)=CV.i ao l[i].kp:=fJ _ l i 2 h
end Go.FG.Lib
namespace Go.FG.Lib
theorem lN{α:Type}(f:α->ax CV)(l:ax α)(i j:aE)(ys:ax CV)(y:α)(h:i<l.length)(hs:iH (f l[i]) j ys=f y):eA (l.map f) i j ys=(l.set i y).map f:=by unfold eA;rw[getD_map' f l i h,hs,List.map_set]
def mX{α:Type}(l:ax α)(g:aE->α->α)(i:aE):ax α:=(l.mapIdx g).take i++l.drop i
theorem pC{α:Type}(l:ax α)(g:aE->α->α)(i:aE)(h:i<=l.length):(mX l g i).length=l.length:=by unfold mX;simp;omega
theorem vn{α:Type}(l:ax α)(g:aE->α->α)(i:aE)(h:i<l.length)(h2:i<(mX l g i).length):(mX l g i)[i]=l[i]:=by
 have e:(mX l g i)[i]? =ah l[i]:=by unfold mX;rw[cW (by simp;omega)];simp[show min i l.length=i by omega]
 rw[lD h2]at e;exact aD e
theorem rU{α:Type}(l:ax α)(g:aE->α->α)(i:aE)(h:i<l.length):(mX l g i).set i (g i l[i])=mX l g (i+1):=by
 unfold mX;have hl:((l.mapIdx g).take i).length=i:=by simp;omega
 rw[List.set_append_right _ _ (by omega),hl,YY,dA h,List.set_cons_zero,dq (by simpa using h),cf];simp
theorem AQ{α:Type}(l:ax α)(g:aE->α->α):mX l g 0=l:=by unfold mX;simp
theorem pB{α:Type}(l:ax α)(g:aE->α->α):mX l g l.length=l.mapIdx g:=by unfold mX;rw[dg,dH,ir (by simp)]
theorem qt{α R:Type}(f:α->ax CV)(l:ax α)(g:aE->α->α)(F:aE->aE->aU->aA R)(K:aU->aA R)
  (hS:∀m i (L:ax α) (h:i<l.length) (h2:i<L.length),L.length=l.length->L[i]=l[i]->F (m+1) i (L.map f)=F m (i+1) ((L.set i (g i l[i])).map f))
  (hE:∀m (L:ax α),L.length=l.length->F (m+1) l.length (L.map f)=K (L.map f)) (n:aE) (hn:l.length<n):F n 0 (l.map f)=K ((l.mapIdx g).map f):=by
 have:=lI l.length F (λi=>(mX l g i).map f) (K ((l.mapIdx g).map f)) (λm i h=>by
  have h1:=pC l g i (by omega);rw[hS m i (mX l g i) h (by omega) h1 (vn l g i h (by omega)),rU l g i h]) (λm=>by
  rw[hE m _ (pC l g _ (cm _)),pB]) n 0 (bm _) (by omega)
 rw[show l.map f=(mX l g 0).map f by rw[AQ]];exact this
end Go.FG.Lib

namespace Go.FG.Lib
instance:Inhabited En:=⟨⟨⟨#[]⟩,0,0,⟨#[]⟩⟩⟩
instance:Inhabited Fe:=⟨⟨⟨#[]⟩,⟨#[]⟩,0,0,0⟩⟩
instance:Inhabited Cl:=⟨⟨0,⟨#[]⟩,0,0,0,⟨#[]⟩,0⟩⟩
instance:Inhabited Fi:=⟨⟨⟨#[]⟩,⟨#[]⟩,0⟩⟩
def el{α:Type}[Inhabited α](l:ax α)(i:aE):α:=l.getD i default
theorem fc{α:Type}[Inhabited α]{l:ax α}{i:aE}(h:i<l.length):el l i=l[i]:=by unfold el;simp[jm,h]
theorem qe{α:Type}[Inhabited α]{l:ax α}{i:aE}(h:i<l.length):el l i∈l:=by rw[fc h];exact bD h
theorem gj{α:Type}[Inhabited α](f:α->ax CV)(l:ax α)(i j:aE)(h:i<l.length):ar (l.map f) i j=(f (el l i)).getD j (.b ak):=by rw[fJ f l i j h,fc h]
theorem rX{l:ax En}{i:aE}(h:i<l.length):ar (re l) i 0=CV.s (el l i).k:=gj _ l i 0 h
theorem vt{l:ax En}{i:aE}(h:i<l.length):ar (re l) i 1=CV.i ao (el l i).st:=gj _ l i 1 h
theorem vu{l:ax En}{i:aE}(h:i<l.length):ar (re l) i (1+1)=CV.i ao (el l i).li:=gj _ l i 2 h
theorem vv{l:ax En}{i:aE}(h:i<l.length):ar (re l) i (1+1+1)=CV.s (el l i).bo:=gj _ l i 3 h
theorem Iq{l:ax Fe}{i:aE}(h:i<l.length):ar (rf l) i 0=CV.s (el l i).k:=gj _ l i 0 h
theorem Ma{l:ax Fe}{i:aE}(h:i<l.length):ar (rf l) i 1=CV.s (el l i).t:=gj _ l i 1 h
theorem Yj{l:ax Fe}{i:aE}(h:i<l.length):ar (rf l) i (1+1)=CV.i ao (el l i).sta:=gj _ l i 2 h
theorem BJ{l:ax Fe}{i:aE}(h:i<l.length):ar (rf l) i 2=CV.i ao (el l i).sta:=gj _ l i 2 h
theorem RG{l:ax Fe}{i:aE}(h:i<l.length):ar (rf l) i (1+1+1)=CV.i ao (el l i).li:=gj _ l i 3 h
theorem RH{l:ax Fe}{i:aE}(h:i<l.length):ar (rf l) i (1+1+1+1)=CV.i ao (el l i).st:=gj _ l i 4 h
theorem KC{l:ax Cl}{i:aE}(h:i<l.length):ar (rc l) i 0=CV.i ao (el l i).id:=gj _ l i 0 h
theorem QS{l:ax Cl}{i:aE}(h:i<l.length):ar (rc l) i 1=CV.s (el l i).k:=gj _ l i 1 h
theorem QT{l:ax Cl}{i:aE}(h:i<l.length):ar (rc l) i (1+1)=CV.i ao (el l i).fe:=gj _ l i 2 h
theorem QU{l:ax Cl}{i:aE}(h:i<l.length):ar (rc l) i (1+1+1)=CV.i ao (el l i).fr:=gj _ l i 3 h
theorem QV{l:ax Cl}{i:aE}(h:i<l.length):ar (rc l) i (1+1+1+1)=CV.i ao (el l i).sta:=gj _ l i 4 h
theorem QW{l:ax Cl}{i:aE}(h:i<l.length):ar (rc l) i (1+1+1+1+1)=CV.s (el l i).got:=gj _ l i 5 h
theorem QX{l:ax Cl}{i:aE}(h:i<l.length):ar (rc l) i (1+1+1+1+1+1)=CV.i ao (el l i).age:=gj _ l i 6 h
theorem wd0{l:ax Fi}{i:aE}(h:i<l.length):ar (rd l) i 0=CV.s (el l i).n:=gj _ l i 0 h
theorem wd1{l:ax Fi}{i:aE}(h:i<l.length):ar (rd l) i 1=CV.s (el l i).t:=gj _ l i 1 h
theorem wd2{l:ax Fi}{i:aE}(h:i<l.length):ar (rd l) i (1+1)=CV.i ao (el l i).kp:=gj _ l i 2 h
structure Px where
 now:az
 en:ax En
 w:ax aq
 m:ax aq
 s:ax (ax az)
 a:az
 fe:ax Fe
 cl:ax Cl
 hits:az
structure Px.Fit (p:Px) (n:aE):Prop where
 en:p.en.length<=n
 w:p.w.length<=n
 m:p.m.length<=n
 s:p.s.length<=n/\(∀q∈p.s,q.length<=n)/\(p.s.map bT).sum<=n
 fe:p.fe.length<=n
 cl:p.cl.length<=n
theorem Px.Fit.le{p:Px}{n m:aE}(h:p.Fit n)(hm:n<=m):p.Fit m:=⟨cZ h.en hm,cZ h.w hm,cZ h.m hm,⟨cZ h.s.1 hm,λq hq=>cZ (h.s.2.1 q hq) hm,cZ h.s.2.2 hm⟩,cZ h.fe hm,cZ h.cl hm⟩
theorem kG{i:aE}(h:0<i)(h2:i<=9223372036854775807):bE ((i:az)-1)=((i-1:aE):az):=by rw[cX (by omega) (by omega)];omega
theorem Dm{n:aE}(f g:aE->aW):((cz n).all λi=>f i&&g i)=((cz n).all f&&(cz n).all g):=by
 induction n with
 |zero=>rfl
 |succ n ih=>simp only[Rj,zj,rh,List.all_nil,qT,ih];cases (cz n).all f<;>cases (cz n).all g<;>cases f n<;>cases g n<;>rfl
end Go.FG.Lib

namespace Go.FG
namespace Lib
def ap{α β:Type}(f:α->β)(x:α):β:=f x
theorem bq{α R:Type}{o:aA α}{d:α}{g:aA R}{k:α->aA R}(hc:mw o=ai)(h:g=Option.bind o k):g=ap k (VS o d):=by rw[h,some_ hc (d:=d)];rfl
end Lib
end Go.FG

namespace Go.FG.Lib
theorem Jv{α R:Type}(l:ax α)(p:α->aW)(F0:aE->aE->aA R)(F1:aE->aE->ax α->aA R)(res:ax α->aA R)
  (a1:∀m i (h:i<l.length),p l[i]=ai->F0 (m+1) i=F1 m (i+1) [l[i]]) (a2:∀m i (h:i<l.length),p l[i]=ak->F0 (m+1) i=F0 m (i+1)) (a3:∀m,F0 (m+1) l.length=res [])
  (b1:∀m i acc (h:i<l.length),acc.length<=i->p l[i]=ai->F1 (m+1) i acc=F1 m (i+1) (acc++[l[i]])) (b2:∀m i acc (h:i<l.length),p l[i]=ak->F1 (m+1) i acc=F1 m (i+1) acc) (b3:∀m acc,F1 (m+1) l.length acc=res acc)
  (n:aE) (hn:l.length<n):F0 n 0=res (l.filter p):=by
 have k1:∀d i acc m,l.length-i<=d->i<=l.length->acc.length<=i->d<m->F1 m i acc=res (acc++(l.drop i).filter p):=by
  intro d;induction d with
  |zero=>
   intro i acc m h1 h2 h3 h4;obtain⟨m,rfl⟩:∃m',m=m'+1:=⟨m-1,by omega⟩
   have:i=l.length:=by omega
   subst this;rw[b3,dg];simp
  |succ d ih=>
   intro i acc m h1 h2 h3 h4;obtain⟨m,rfl⟩:∃m',m=m'+1:=⟨m-1,by omega⟩
   by_cases hi:i<l.length
   ·rw[dA hi];cases hp:p l[i]with
    |true=>rw[b1 m i acc hi h3 hp,ih (i+1) _ m (by omega) hi (by simp;omega) (by omega),de hp];simp
    |false=>rw[b2 m i acc hi hp,ih (i+1) _ m (by omega) hi (by omega) (by omega),ca (by simp[hp])]
   ·have:i=l.length:=by omega
    subst this;rw[b3,dg];simp
 have k0:∀d i m,l.length-i<=d->i<=l.length->d<m->F0 m i=res ((l.drop i).filter p):=by
  intro d;induction d with
  |zero=>
   intro i m h1 h2 h4;obtain⟨m,rfl⟩:∃m',m=m'+1:=⟨m-1,by omega⟩
   have:i=l.length:=by omega
   subst this;rw[a3,dg];rfl
  |succ d ih=>
   intro i m h1 h2 h4;obtain⟨m,rfl⟩:∃m',m=m'+1:=⟨m-1,by omega⟩
   by_cases hi:i<l.length
   ·rw[dA hi];cases hp:p l[i]with
    |true=>rw[a1 m i hi hp,k1 d (i+1) _ m (by omega) hi (by simp) (by omega),de hp];simp
    |false=>rw[a2 m i hi hp,ih (i+1) m (by omega) hi (by omega),ca (by simp[hp])]
   ·have:i=l.length:=by omega
    subst this;rw[a3,dg];rfl
 have:=k0 l.length 0 n (by omega) (bm _) hn;rwa[fA]at this
theorem Cd{α R:Type}(l:ax α)(p:α->aW)(F1:aE->aE->ax α->aA R)(res:ax α->aA R)(c0:ax α)
  (b1:∀m i acc (h:i<l.length),acc.length<=c0.length+i->p l[i]=ai->F1 (m+1) i acc=F1 m (i+1) (acc++[l[i]])) (b2:∀m i acc (h:i<l.length),p l[i]=ak->F1 (m+1) i acc=F1 m (i+1) acc) (b3:∀m acc,F1 (m+1) l.length acc=res acc)
  (n:aE) (hn:l.length<n):F1 n 0 c0=res (c0++l.filter p):=by
 have k1:∀d i acc m,l.length-i<=d->i<=l.length->acc.length<=c0.length+i->d<m->F1 m i acc=res (acc++(l.drop i).filter p):=by
  intro d;induction d with
  |zero=>
   intro i acc m h1 h2 h3 h4;obtain⟨m,rfl⟩:∃m',m=m'+1:=⟨m-1,by omega⟩
   have:i=l.length:=by omega
   subst this;rw[b3,dg];simp
  |succ d ih=>
   intro i acc m h1 h2 h3 h4;obtain⟨m,rfl⟩:∃m',m=m'+1:=⟨m-1,by omega⟩
   by_cases hi:i<l.length
   ·rw[dA hi];cases hp:p l[i]with
    |true=>rw[b1 m i acc hi h3 hp,ih (i+1) _ m (by omega) hi (by simp;omega) (by omega),de hp];simp
    |false=>rw[b2 m i acc hi hp,ih (i+1) _ m (by omega) hi (by omega) (by omega),ca (by simp[hp])]
   ·have:i=l.length:=by omega
    subst this;rw[b3,dg];simp
 have:=k1 l.length 0 c0 n (by omega) (bm _) (by omega) hn;rwa[fA]at this
theorem AP{α:Type}(p q:α->aW):∀r:ax α,(∀y∈r,q y= !p y)->r.Pairwise (λy z=>p z=ai->p y=ai)->r.takeWhile p=r.filter p/\r.dropWhile p=r.filter q
 |[],_,_=>⟨rfl,rfl⟩
 |y::r,hq,h=>by
  rw[lE]at h;have hy:=hq y (by simp);cases hp:p y with
  |true=>rw[hp]at hy;obtain⟨i1,i2⟩:=AP p q r (λz hz=>hq z (by simp[hz])) h.2;rw[oH hp,de hp,List.dropWhile_cons_of_pos hp,ca (by rw[hy];simp),i1,i2];exact⟨rfl,rfl⟩
  |false=>
   rw[hp]at hy;have hn:¬p y=true:=by rw[hp];simp
   have ha:∀z∈r,p z=false:=λz hz=>by
    cases Bz:p z with
    |false=>rfl
    |true=>exact cw (h.1 z hz Bz) hn
   rw[oG hn,ca hn,List.dropWhile_cons_of_neg hn,de (by rw[hy];rfl)];refine⟨?_, ?_⟩
   ·symm;rw[List.filter_eq_nil_iff];intro z hz;rw[ha z hz];simp
   ·congr 1;symm;rw[gb];intro z hz;rw[hq z (by simp[hz]),ha z hz];rfl
end Go.FG.Lib

