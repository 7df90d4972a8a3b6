/- Plain facts on numbers, texts and lists. No condition. -/
import Derived.Test.YtjejmgffiilmlaaGreatCorec
set_option linter.unusedVariables false
set_option linter.unusedSimpArgs false
set_option maxRecDepth 100000
open Bool renaming true->ai,false->ak,true_and->bj,and_eq_true->aJ,and_true->o0
open Go.IntKind renaming i64->ao
open List renaming beq->db,takeWhile_cons_of_pos->pA,takeWhile_cons_of_neg->pz,length_cons->cY,length_nil->jo,length->bP,takeWhile_append_dropWhile->mI,length_append->bW,filter_cons_of_pos->dn,filter_cons_of_neg->cj,drop_length->dh,range->cJ,range'->lI,all_cons->sb,range_eq_range'->PC,range_succ->Tt,all_append->Aq,drop_eq_getElem_cons->dG,getD->jH,any_eq_false->XZ,getElem_of_mem->dy,getElem_mem->bC,set->ax,take_succ_eq_append_getElem->dx,map_append->c8,getElem?_append_right->cX,getElem?_eq_getElem->eF,append_assoc->ch,append_nil->dN,take_of_length_le->gH,drop_zero->gd,pairwise_cons->pQ,filter_eq_self->gK
open Nat renaming zero_le->bz,sub_zero->Cm,le_trans->c6,blt->pO,beq->bn,le_refl->cu
open Option renaming some->ah,isSome->mT,getD->X4
open Option.some renaming inj->aD
open _root_ renaming Nat->aE,Option->aC,Int->az,ByteArray->aq,List->ay,Bool->aW,congrArg->kX,cond_true->au,cond_false->aA,absurd->cE
namespace Go.FG.Lib
theorem tl{σ β:Type}(F:aE->σ->aC β)(mu:σ->aE)(inv:σ->Prop)(post:β->Prop)
  (step:∀n s,inv s->(∃b,F (n+1) s=ah b/\post b)\/∃s',inv s'/\mu s'<mu s/\F (n+1) s=F n s'):∀n s,inv s->mu s<n->∃b,F n s=ah b/\post b:=by
 intro n;induction n with
 |zero=>intro s _ h;omega
 |succ n ih=>
  intro s hi hm;rcases step n s hi with h|⟨s',h1,h2,h4⟩
  ·exact h
  ·rw[h4];exact ih s' h1 (by omega)
theorem cK{n:aE}(h:n<=9223372036854775807):n<cW:=by unfold cW;omega
theorem c5{x:az}(h1: -9223372036854775808<=x)(h2:x<=9223372036854775807):bJ x=x:=jN h1 h2
theorem asu{x:az}(h0: -9223372036854775808<=x:=by omega)(h1:x<=9223372036854775807:=by omega):bJ x=x:=c5 h0 h1
theorem jZ(a:aq):db a.toList a.toList=true:=pV _
theorem BQ(x:CV):(bytesOf [[x]]).size=1:=by rw[gX];rfl
theorem aaG(p:ay CV->aW):∀(r:aU) (i:aE),i<(r.takeWhile p).length->∃h:i<r.length,p r[i]=ai
 |[],i,h=>by simp at h
 |y::r,i,h=>by
  by_cases hp:p y=ai
  ·rw[pA hp]at h;cases i with
   |zero=>exact⟨by simp,hp⟩
   |succ i=>obtain⟨h1,h2⟩:=aaG p r i (by simpa using h);exact⟨by simpa using h1,by simpa using h2⟩
  ·rw[pz hp]at h;simp at h
theorem aaF(p:ay CV->aW):∀(r:aU) (h:(r.takeWhile p).length<r.length),p r[(r.takeWhile p).length]=ak
 |[],h=>by simp at h
 |y::r,h=>by
  by_cases hp:p y=ai
  ·have e:=pA (l:=r) hp;have h':(r.takeWhile p).length<r.length:=by rw[e]at h;simpa using h
   have:=aaF p r h';simp only[e,cY,List.getElem_cons_succ];exact this
  ·have e:=pz (l:=r) hp;simp only[e,jo,List.getElem_cons_zero];simpa using hp
theorem H6(p:ay CV->aW)(r:aU):(r.takeWhile p).length<=r.length:=by have:=kX bP (mI (p:=p) (l:=r));rw[bW]at this;omega
theorem Ad(p:ay CV->aW)(r:aU):r.take (r.takeWhile p).length=r.takeWhile p:=by have e:=mI (p:=p) (l:=r);have:=List.take_left (l₁:=r.takeWhile p) (l₂:=r.dropWhile p);rw[e]at this;exact this
theorem zR(p:ay CV->aW)(r:aU):r.drop (r.takeWhile p).length=r.dropWhile p:=by have e:=mI (p:=p) (l:=r);have:=List.drop_left (l₁:=r.takeWhile p) (l₂:=r.dropWhile p);rw[e]at this;exact this
theorem wz{R:Type}(p:ay CV->aW)(r:aU)(F:aE->aE->aC R)(K:aE->aC R)
  (hT:∀m i (h:i<r.length),p r[i]=ai->F (m+1) i=F m (i+1)) (hF:∀m i (h:i<r.length),p r[i]=ak->F (m+1) i=K i) (hE:∀m,F (m+1) r.length=K r.length)
  (n:aE) (hn:r.length<n):F n 0=K (r.takeWhile p).length:=by
 refine gn F (λi=>r.length-i) (λi=>i<=(r.takeWhile p).length) (λ_=>K (r.takeWhile p).length) (λm i hi=> ?_) n 0 (bz _) (by omega);have hl:=H6 p r;by_cases h:i<(r.takeWhile p).length
 ·obtain⟨h1,h2⟩:=aaG p r i h;exact .inr ⟨i+1,h,by omega,rfl,hT m i h1 h2⟩
 ·left;have kZ:i=(r.takeWhile p).length:=by omega
  subst kZ;by_cases h2:(r.takeWhile p).length<r.length
  ·exact hF m _ h2 (aaF p r h2)
  ·have h3:(r.takeWhile p).length=r.length:=by omega
   rw[h3];exact hE m
theorem vT{R:Type}(p:ay CV->aW)(f:ay CV->ay CV)(r:aU)(m0:aE)(F:aE->aE->aU->aC R)(K:aU->aC R)
  (hT:∀m i acc (h:i<r.length),acc.length<=m0+i->p r[i]=ai->F (m+1) i acc=F m (i+1) (acc++[f r[i]])) (hF:∀m i acc (h:i<r.length),acc.length<=m0+i->p r[i]=ak->F (m+1) i acc=F m (i+1) acc)
  (hE:∀m acc,F (m+1) r.length acc=K acc) (n:aE) (acc:aU) (ha:acc.length<=m0) (hn:r.length<n):F n 0 acc=K (acc++(r.filter p).map f):=by
 have:=gn (λn (s:aE×aU)=>F n s.1 s.2) (λs=>r.length-s.1) (λs=>s.1<=r.length/\s.2.length<=m0+s.1) (λs=>K (s.2++((r.drop s.1).filter p).map f)) (λm s hs=>by
  obtain⟨i,acc⟩:=s;obtain⟨h1,h2⟩:=hs;dsimp only at h1 h2⊢;by_cases h:i<r.length
  ·right;rw[iu h];cases hp:p r[i]with
   |true=>exact⟨(i+1,acc++[f r[i]]),⟨h,by simp;omega⟩,by dsimp only;omega,by rw[dn hp];simp,hT m i acc h h2 hp⟩
   |false=>exact⟨(i+1,acc),⟨h,by dsimp only;omega⟩,by dsimp only;omega,by rw[cj (by simp[hp])],hF m i acc h h2 hp⟩
  ·left;have hi:i=r.length:=by omega
   subst hi;rw[dh];simpa using hE m acc) n (0,acc) ⟨bz _,by dsimp only;omega⟩ (by dsimp only;omega)
 simpa using this
theorem jO{R:Type}(g:aE->aW)(len:aE)(F:aE->aE->aC R)(kf kt:aC R)(hT:∀m i,i<len->g i=ai->F (m+1) i=F m (i+1))(hF:∀m i,i<len->g i=ak->F (m+1) i=kf)(hE:∀m,F (m+1) len=kt)(n:aE)(hn:len<n):F n 0=bif(cJ len).all g then kt else kf:=by
 have:=gn F (λi=>len-i) (λi=>i<=len) (λi=>bif(lI i (len-i)).all g then kt else kf) (λm i hi=>by
  by_cases h:i<len
  ·have e:(lI i (len-i)).all g=(g i&&(lI (i+1) (len-(i+1))).all g):=by rw[show len-i=(len-(i+1))+1 by omega,List.range'_succ,sb]
   cases hp:g i with
   |true=>right;exact⟨i+1,h,by omega,by rw[e,hp,bj],hT m i h hp⟩
   |false=>left;rw[e,hp,hF m i h hp];rfl
  ·left;have:i=len:=by omega
   subst this;rw[hE,Nat.sub_self];rfl) n 0 (bz _) (by omega)
 rw[this,Cm,<-PC]
theorem pG{R:Type}(p:aE->aW)(len:aE)(F:aE->aE->aC R)(kr:az->aC R)(h1:∀m i,i<len->p i=ai->F (m+1) i=kr i)(h2:∀m i,i<len->p i=ak->F (m+1) i=F m (i+1))(h3:∀m,F (m+1) len=kr (-1))(n:aE)(hn:len<n):F n 0=kr (fi p len 0):=by
 have:=gn F (λi=>len-i) (λi=>i<=len) (λi=>kr (fi p (len-i) i)) (λm i hi=>by
  by_cases h:i<len
  ·have e:len-i=(len-(i+1))+1:=by omega
   cases hp:p i with
   |true=>left;rw[h1 m i h hp,e];simp[fi,hp]
   |false=>right;exact⟨i+1,h,by omega,by rw[e];simp[fi,hp],h2 m i h hp⟩
  ·left;have:i=len:=by omega
   subst this;rw[h3,Nat.sub_self];rfl) n 0 (by omega) (by omega)
 simpa using this
theorem all_congr{g h:aE->aW}{n:aE}(e:∀i,i<n->g i=h i):(cJ n).all g=(cJ n).all h:=by
 induction n with
 |zero=>rfl
 |succ n ih=>rw[Tt,Aq,Aq,ih (λi hi=>e i (by omega))];simp[e n (by omega)]
theorem G6{T:Tab}(hT:∀e ti,T.ty e=ah ti->0<ti.bytes):∀y,qy T y->Fit y
 |_, .i k n _=>Fit.i k n
 |_, .b x=>Fit.b x
 |_, .s x h=>Fit.s x (c6 h (by omega))
 |_, .l e xs ti h h1 h2 h3=>by
  have hp:=hT e ti h;have hle:xs.length*1<=xs.length*ti.bytes:=Nat.mul_le_mul_left _ hp;exact Fit.l e xs (by omega) (λy hy x hx=>G6 hT x (h3 y hy x hx))
theorem RN:∀{rows:ay o8},rows.all (λr=>pO 0 r.ti.bytes)=ai->∀e ti,zF rows e=ah ti->0<ti.bytes
 |[],_,_,_,h=>by cases h
 |r::rs,h,e,ti,h2=>by
  rw[sb,aJ]at h;unfold zF at h2;cases hb:bn e r.t with
  |true=>rw[hb,au]at h2;obtain rfl:=aD h2;have h1:=h.1;simp[pO]at h1;omega
  |false=>rw[hb,aA]at h2;exact RN h.2 e ti h2
theorem Yb{rows:ay o8}{T:Tab}(hT:T.ty=zF rows)(h:rows.all (λr=>pO 0 r.ti.bytes)=ai){e:aE}{xs:aU}(hf:qy T (.l e xs)):uD xs:=by
 cases G6 (λe ti he=>RN h e ti (by rw[<-hT];exact he)) _ hf with
 |l _ _ h1 h2=>exact⟨h1,h2⟩
end Go.FG.Lib

namespace Go.FG.Lib
theorem me{σ R:Type}(len:aE)(F:aE->aE->σ->aC R)(st:aE->σ)(res:aC R)
  (hS:∀m i,i<len->F (m+1) i (st i)=F m (i+1) (st (i+1))) (hE:∀m,F (m+1) len (st len)=res) (n i0:aE) (h0:i0<=len) (hn:len-i0<n):F n i0 (st i0)=res:=by
 refine gn (λn i=>F n i (st i)) (λi=>len-i) (λi=>i<=len) (λ_=>res) (λm i hi=> ?_) n i0 h0 hn;by_cases h:i<len
 ·exact .inr ⟨i+1,h,by omega,rfl,hS m i h⟩
 ·left;have:i=len:=by omega
  subst this;exact hE m
theorem ox{α R:Type}(l:ay α)(p:α->aW)(F:aE->aE->aC R)(kf kt:aC R)
  (hT:∀m i (h:i<l.length),p l[i]=ai->F (m+1) i=F m (i+1)) (hF:∀m i (h:i<l.length),p l[i]=ak->F (m+1) i=kf) (hE:∀m,F (m+1) l.length=kt) (n:aE) (hn:l.length<n):F n 0=bif l.all p then kt else kf:=by
 have:=gn F (λi=>l.length-i) (λi=>i<=l.length) (λi=>bif(l.drop i).all p then kt else kf) (λm i hi=>by
  by_cases h:i<l.length
  ·have e:(l.drop i).all p=(p l[i]&&(l.drop (i+1)).all p):=by rw[dG h,sb]
   cases hp:p l[i]with
   |true=>right;exact⟨i+1,h,by omega,by rw[e,hp,bj],hT m i h hp⟩
   |false=>left;rw[e,hp,hF m i h hp];rfl
  ·left;have:i=l.length:=by omega
   subst this;rw[hE,dh];rfl) n 0 (bz _) (by omega)
 simpa using this
theorem AH{α R:Type}(l:ay α)(p:α->aW)(F:aE->aE->aC R)(kt kf:aC R)
  (hT:∀m i (h:i<l.length),p l[i]=ai->F (m+1) i=kt) (hF:∀m i (h:i<l.length),p l[i]=ak->F (m+1) i=F m (i+1)) (hE:∀m,F (m+1) l.length=kf) (n:aE) (hn:l.length<n):F n 0=bif l.any p then kt else kf:=by have h:=ox l (λx=> !p x) F kt kf (λm i h hp=>hF m i h (by simpa using hp)) (λm i h hp=>hT m i h (by simpa using hp)) hE n hn;rw[h,List.any_eq_not_all_not];cases l.all λx=> !p x<;>rfl
theorem getD_map'{α:Type}(f:α->ay CV)(l:ay α)(i:aE)(h:i<l.length):(l.map f).getD i []=f l[i]:=by simp[jH,h]
theorem eZ{α:Type}(f:α->ay CV)(l:ay α)(i j:aE)(h:i<l.length):ar (l.map f) i j=(f l[i]).getD j (.b ak):=by unfold ar;rw[getD_map' f l i h]
theorem Jk{α:Type}(l:ay α)(p:α->aW)(q:aE->aW)(h:∀i (hi:i<l.length),q i=p l[i]):decide (fi q l.length 0≥0)=l.any p:=by
 rcases qN q l.length 0 with ⟨h1,h2⟩|⟨k,_,hk,h3,h4,_⟩
 ·rw[h1];symm;rw[show decide ((-1:az)≥0)=ak by decide,XZ];intro x hx;obtain⟨i,hi,rfl⟩:=dy hx;have:=h2 i (bz _) (by omega);rw[h i hi]at this;simp[this]
 ·rw[h3];symm;rw[show decide ((k:az)≥0)=ai by simp,List.any_eq_true];exact⟨l[k]'(by omega),bC _,by rw[<-h k (by omega)];exact h4⟩
theorem oZ(ks:ay Ck)(y:ay CV):ax (aN ks 1) 0 y=[y]:=rfl
theorem od{α β:Type}(f:α->β)(l:ay α)(i:aE)(h:i<l.length):(l.take i).map f++[f l[i]]=(l.take (i+1)).map f:=by rw[dx h,c8];rfl
def rs(l:ay aq):aU:=l.map λk=>[CV.s k]
def ri(l:ay az):aU:=l.map λn=>[CV.i ao n]
def rr(l:ay (ay az)):aU:=l.map λq=>[CV.l 3 (ri q)]
structure En where
 k:aq
 st:az
 li:az
 bo:aq
 deriving DecidableEq
def En.row(e:En):ay CV:=[CV.s e.k,CV.i ao e.st,CV.i ao e.li,CV.s e.bo]
def re(l:ay En):aU:=l.map En.row
structure Fe where
 k:aq
 t:aq
 sta:az
 li:az
 st:az
 deriving DecidableEq
def Fe.row(e:Fe):ay CV:=[CV.s e.k,CV.s e.t,CV.i ao e.sta,CV.i ao e.li,CV.i ao e.st]
def rf(l:ay Fe):aU:=l.map Fe.row
structure Cl where
 id:az
 k:aq
 fe:az
 fr:az
 sta:az
 got:aq
 age:az
 deriving DecidableEq
def Cl.row(e:Cl):ay CV:=[CV.i ao e.id,CV.s e.k,CV.i ao e.fe,CV.i ao e.fr,CV.i ao e.sta,CV.s e.got,CV.i ao e.age]
def rc(l:ay Cl):aU:=l.map Cl.row
structure Fi where
 n:aq
 t:aq
 kp:az
 deriving DecidableEq
def Fi.row(e:Fi):ay CV:=[CV.s e.n,CV.s e.t,CV.i ao e.kp]
def rd(l:ay Fi):aU:=l.map Fi.row
theorem dZ(l):(rs l).length=l.length:=by unfold rs;simp
theorem fU(l):(ri l).length=l.length:=by unfold ri;simp
theorem gg(l):(rr l).length=l.length:=by unfold rr;simp
theorem dO(l):(re l).length=l.length:=by unfold re;simp
theorem dC(l):(rf l).length=l.length:=by unfold rf;simp
theorem eO(l):(rc l).length=l.length:=by unfold rc;simp
theorem gq(l):(rd l).length=l.length:=by unfold rd;simp
theorem TS{l:ay aq}{i:aE}(h:i<l.length):ar (rs l) i 0=CV.s l[i]:=eZ _ l i 0 h
theorem N7{l:ay az}{i:aE}(h:i<l.length):ar (ri l) i 0=CV.i ao l[i]:=eZ _ l i 0 h
theorem FH{l:ay (ay az)}{i:aE}(h:i<l.length):ar (rr l) i 0=CV.l 3 (ri l[i]):=eZ _ l i 0 h
theorem rc0{l:ay Cl}{i:aE}(h:i<l.length):ar (rc l) i 0=CV.i ao l[i].id:=eZ _ l i 0 h
theorem rc1{l:ay Cl}{i:aE}(h:i<l.length):ar (rc l) i 1=CV.s l[i].k:=eZ _ l i 1 h
theorem rc2{l:ay Cl}{i:aE}(h:i<l.length):ar (rc l) i (1+1)=CV.i ao l[i].fe:=eZ _ l i 2 h
theorem rc3{l:ay Cl}{i:aE}(h:i<l.length):ar (rc l) i (1+1+1)=CV.i ao l[i].fr:=eZ _ l i 3 h
theorem rc4{l:ay Cl}{i:aE}(h:i<l.length):ar (rc l) i (1+1+1+1)=CV.i ao l[i].sta:=eZ _ l i 4 h
theorem rc5{l:ay Cl}{i:aE}(h:i<l.length):ar (rc l) i (1+1+1+1+1)=CV.s l[i].got:=eZ _ l i 5 h
theorem rc6{l:ay Cl}{i:aE}(h:i<l.length):ar (rc l) i (1+1+1+1+1+1)=CV.i ao l[i].age:=eZ _ l i 6 h
theorem J0{l:ay Fi}{i:aE}(h:i<l.length):ar (rd l) i 0=CV.s l[i].n:=eZ _ l i 0 h
theorem ZI{l:ay Fi}{i:aE}(h:i<l.length):ar (rd l) i 1=CV.s l[i].t:=eZ _ l i 1 h
theorem ZJ{l:ay Fi}{i:aE}(h:i<l.length):ar (rd l) i (1+1)=CV.i ao l[i].kp:=eZ _ l i 2 h
end Go.FG.Lib
namespace Go.FG.Lib
theorem jD{α:Type}(f:α->ay CV)(l:ay α)(i j:aE)(ys:ay CV)(y:α)(h:i<l.length)(hs:jb (f l[i]) j ys=f y):dV (l.map f) i j ys=(l.set i y).map f:=by unfold dV;rw[getD_map' f l i h,hs,List.map_set]
def nE{α:Type}(l:ay α)(g:aE->α->α)(i:aE):ay α:=(l.mapIdx g).take i++l.drop i
theorem qi{α:Type}(l:ay α)(g:aE->α->α)(i:aE)(h:i<=l.length):(nE l g i).length=l.length:=by unfold nE;simp;omega
theorem wB{α:Type}(l:ay α)(g:aE->α->α)(i:aE)(h:i<l.length)(h2:i<(nE l g i).length):(nE l g i)[i]=l[i]:=by
 have e:(nE l g i)[i]? =ah l[i]:=by unfold nE;rw[cX (by simp;omega)];simp[show min i l.length=i by omega]
 rw[eF h2]at e;exact aD e
theorem sR{α:Type}(l:ay α)(g:aE->α->α)(i:aE)(h:i<l.length):(nE l g i).set i (g i l[i])=nE l g (i+1):=by
 unfold nE;have hl:((l.mapIdx g).take i).length=i:=by simp;omega
 rw[List.set_append_right _ _ (by omega),hl,Nat.sub_self,dG h,List.set_cons_zero,dx (by simpa using h),ch];simp
theorem BW{α:Type}(l:ay α)(g:aE->α->α):nE l g 0=l:=by unfold nE;simp
theorem qh{α:Type}(l:ay α)(g:aE->α->α):nE l g l.length=l.mapIdx g:=by unfold nE;rw[dh,dN,gH (by simp)]
theorem nZ{α R:Type}(f:α->ay CV)(l:ay α)(g:aE->α->α)(F:aE->aE->aU->aC R)(K:aU->aC R)
  (hS:∀m i (L:ay α) (h:i<l.length) (h2:i<L.length),L.length=l.length->L[i]=l[i]->F (m+1) i (L.map f)=F m (i+1) ((L.set i (g i l[i])).map f))
  (hE:∀m (L:ay α),L.length=l.length->F (m+1) l.length (L.map f)=K (L.map f)) (n:aE) (hn:l.length<n):F n 0 (l.map f)=K ((l.mapIdx g).map f):=by
 have:=me l.length F (λi=>(nE l g i).map f) (K ((l.mapIdx g).map f)) (λm i h=>by
  have h1:=qi l g i (by omega);rw[hS m i (nE l g i) h (by omega) h1 (wB l g i h (by omega)),sR l g i h]) (λm=>by
  rw[hE m _ (qi l g _ (cu _)),qh]) n 0 (bz _) (by omega)
 rw[show l.map f=(nE l g 0).map f by rw[BW]];exact this
end Go.FG.Lib

namespace Go.FG.Lib
instance:Inhabited En:=⟨⟨⟨#[]⟩,0,0,⟨#[]⟩⟩⟩
instance:Inhabited Fe:=⟨⟨⟨#[]⟩,⟨#[]⟩,0,0,0⟩⟩
instance:Inhabited Cl:=⟨⟨0,⟨#[]⟩,0,0,0,⟨#[]⟩,0⟩⟩
instance:Inhabited Fi:=⟨⟨⟨#[]⟩,⟨#[]⟩,0⟩⟩
def el{α:Type}[Inhabited α](l:ay α)(i:aE):α:=l.getD i default
theorem fQ{α:Type}[Inhabited α]{l:ay α}{i:aE}(h:i<l.length):el l i=l[i]:=by unfold el;simp[jH,h]
theorem qM{α:Type}[Inhabited α]{l:ay α}{i:aE}(h:i<l.length):el l i∈l:=by rw[fQ h];exact bC h
theorem gP{α:Type}[Inhabited α](f:α->ay CV)(l:ay α)(i j:aE)(h:i<l.length):ar (l.map f) i j=(f (el l i)).getD j (.b ak):=by rw[eZ f l i j h,fQ h]
theorem qo{l:ay En}{i:aE}(h:i<l.length):ar (re l) i 0=CV.s (el l i).k:=gP _ l i 0 h
theorem t_{l:ay En}{i:aE}(h:i<l.length):ar (re l) i 1=CV.i ao (el l i).st:=gP _ l i 1 h
theorem ua{l:ay En}{i:aE}(h:i<l.length):ar (re l) i (1+1)=CV.i ao (el l i).li:=gP _ l i 2 h
theorem ub{l:ay En}{i:aE}(h:i<l.length):ar (re l) i (1+1+1)=CV.s (el l i).bo:=gP _ l i 3 h
theorem H_{l:ay Fe}{i:aE}(h:i<l.length):ar (rf l) i 0=CV.s (el l i).k:=gP _ l i 0 h
theorem Gh{l:ay Fe}{i:aE}(h:i<l.length):ar (rf l) i 1=CV.s (el l i).t:=gP _ l i 1 h
theorem Xm{l:ay Fe}{i:aE}(h:i<l.length):ar (rf l) i (1+1)=CV.i ao (el l i).sta:=gP _ l i 2 h
theorem yK{l:ay Fe}{i:aE}(h:i<l.length):ar (rf l) i 2=CV.i ao (el l i).sta:=gP _ l i 2 h
theorem TT{l:ay Fe}{i:aE}(h:i<l.length):ar (rf l) i (1+1+1)=CV.i ao (el l i).li:=gP _ l i 3 h
theorem TU{l:ay Fe}{i:aE}(h:i<l.length):ar (rf l) i (1+1+1+1)=CV.i ao (el l i).st:=gP _ l i 4 h
theorem NM{l:ay Cl}{i:aE}(h:i<l.length):ar (rc l) i 0=CV.i ao (el l i).id:=gP _ l i 0 h
theorem wc1{l:ay Cl}{i:aE}(h:i<l.length):ar (rc l) i 1=CV.s (el l i).k:=gP _ l i 1 h
theorem wc2{l:ay Cl}{i:aE}(h:i<l.length):ar (rc l) i (1+1)=CV.i ao (el l i).fe:=gP _ l i 2 h
theorem wc3{l:ay Cl}{i:aE}(h:i<l.length):ar (rc l) i (1+1+1)=CV.i ao (el l i).fr:=gP _ l i 3 h
theorem wc4{l:ay Cl}{i:aE}(h:i<l.length):ar (rc l) i (1+1+1+1)=CV.i ao (el l i).sta:=gP _ l i 4 h
theorem wc5{l:ay Cl}{i:aE}(h:i<l.length):ar (rc l) i (1+1+1+1+1)=CV.s (el l i).got:=gP _ l i 5 h
theorem wc6{l:ay Cl}{i:aE}(h:i<l.length):ar (rc l) i (1+1+1+1+1+1)=CV.i ao (el l i).age:=gP _ l i 6 h
theorem wd0{l:ay Fi}{i:aE}(h:i<l.length):ar (rd l) i 0=CV.s (el l i).n:=gP _ l i 0 h
theorem wd1{l:ay Fi}{i:aE}(h:i<l.length):ar (rd l) i 1=CV.s (el l i).t:=gP _ l i 1 h
theorem wd2{l:ay Fi}{i:aE}(h:i<l.length):ar (rd l) i (1+1)=CV.i ao (el l i).kp:=gP _ l i 2 h
structure Px where
 now:az
 en:ay En
 w:ay aq
 m:ay aq
 s:ay (ay az)
 a:az
 fe:ay Fe
 cl:ay Cl
 hits:az
structure Px.Fit (p:Px) (n:aE):Prop where
 en:p.en.length<=n
 w:p.w.length<=n
 m:p.m.length<=n
 s:p.s.length<=n/\(∀q∈p.s,q.length<=n)/\(p.s.map bP).sum<=n
 fe:p.fe.length<=n
 cl:p.cl.length<=n
theorem Px.Fit.le{p:Px}{n m:aE}(h:p.Fit n)(hm:n<=m):p.Fit m:=⟨c6 h.en hm,c6 h.w hm,c6 h.m hm,⟨c6 h.s.1 hm,λq hq=>c6 (h.s.2.1 q hq) hm,c6 h.s.2.2 hm⟩,c6 h.fe hm,c6 h.cl hm⟩
theorem lu{i:aE}(h:0<i)(h2:i<=9223372036854775807):bJ ((i:az)-1)=((i-1:aE):az):=by rw[c5 (by omega) (by omega)];omega
theorem EJ{n:aE}(f g:aE->aW):((cJ n).all λi=>f i&&g i)=((cJ n).all f&&(cJ n).all g):=by
 induction n with
 |zero=>rfl
 |succ n ih=>simp only[Tt,Aq,sb,List.all_nil,o0,ih];cases (cJ n).all f<;>cases (cJ n).all g<;>cases f n<;>cases g n<;>rfl
end Go.FG.Lib

namespace Go.FG
namespace Lib
def ap{α β:Type}(f:α->β)(x:α):β:=f x
theorem bq{α R:Type}{o:aC α}{d:α}{g:aC R}{k:α->aC R}(hc:mT o=ai)(h:g=Option.bind o k):g=ap k (X4 o d):=by rw[h,some_ hc (d:=d)];rfl
end Lib
end Go.FG

namespace Go.FG.Lib
theorem La{α R:Type}(l:ay α)(p:α->aW)(F0:aE->aE->aC R)(F1:aE->aE->ay α->aC R)(res:ay α->aC R)
  (a1:∀m i (h:i<l.length),p l[i]=ai->F0 (m+1) i=F1 m (i+1) [l[i]]) (a2:∀m i (h:i<l.length),p l[i]=ak->F0 (m+1) i=F0 m (i+1)) (a3:∀m,F0 (m+1) l.length=res [])
  (b1:∀m i acc (h:i<l.length),acc.length<=i->p l[i]=ai->F1 (m+1) i acc=F1 m (i+1) (acc++[l[i]])) (b2:∀m i acc (h:i<l.length),p l[i]=ak->F1 (m+1) i acc=F1 m (i+1) acc) (b3:∀m acc,F1 (m+1) l.length acc=res acc)
  (n:aE) (hn:l.length<n):F0 n 0=res (l.filter p):=by
 have k1:∀d i acc m,l.length-i<=d->i<=l.length->acc.length<=i->d<m->F1 m i acc=res (acc++(l.drop i).filter p):=by
  intro d;induction d with
  |zero=>
   intro i acc m h1 h2 h3 h4;obtain⟨m,rfl⟩:∃m',m=m'+1:=⟨m-1,by omega⟩
   have:i=l.length:=by omega
   subst this;rw[b3,dh];simp
  |succ d ih=>
   intro i acc m h1 h2 h3 h4;obtain⟨m,rfl⟩:∃m',m=m'+1:=⟨m-1,by omega⟩
   by_cases hi:i<l.length
   ·rw[dG hi];cases hp:p l[i]with
    |true=>rw[b1 m i acc hi h3 hp,ih (i+1) _ m (by omega) hi (by simp;omega) (by omega),dn hp];simp
    |false=>rw[b2 m i acc hi hp,ih (i+1) _ m (by omega) hi (by omega) (by omega),cj (by simp[hp])]
   ·have:i=l.length:=by omega
    subst this;rw[b3,dh];simp
 have k0:∀d i m,l.length-i<=d->i<=l.length->d<m->F0 m i=res ((l.drop i).filter p):=by
  intro d;induction d with
  |zero=>
   intro i m h1 h2 h4;obtain⟨m,rfl⟩:∃m',m=m'+1:=⟨m-1,by omega⟩
   have:i=l.length:=by omega
   subst this;rw[a3,dh];rfl
  |succ d ih=>
   intro i m h1 h2 h4;obtain⟨m,rfl⟩:∃m',m=m'+1:=⟨m-1,by omega⟩
   by_cases hi:i<l.length
   ·rw[dG hi];cases hp:p l[i]with
    |true=>rw[a1 m i hi hp,k1 d (i+1) _ m (by omega) hi (by simp) (by omega),dn hp];simp
    |false=>rw[a2 m i hi hp,ih (i+1) m (by omega) hi (by omega),cj (by simp[hp])]
   ·have:i=l.length:=by omega
    subst this;rw[a3,dh];rfl
 have:=k0 l.length 0 n (by omega) (bz _) hn;rwa[gd]at this
theorem Dm{α R:Type}(l:ay α)(p:α->aW)(F1:aE->aE->ay α->aC R)(res:ay α->aC R)(c0:ay α)
  (b1:∀m i acc (h:i<l.length),acc.length<=c0.length+i->p l[i]=ai->F1 (m+1) i acc=F1 m (i+1) (acc++[l[i]])) (b2:∀m i acc (h:i<l.length),p l[i]=ak->F1 (m+1) i acc=F1 m (i+1) acc) (b3:∀m acc,F1 (m+1) l.length acc=res acc)
  (n:aE) (hn:l.length<n):F1 n 0 c0=res (c0++l.filter p):=by
 have k1:∀d i acc m,l.length-i<=d->i<=l.length->acc.length<=c0.length+i->d<m->F1 m i acc=res (acc++(l.drop i).filter p):=by
  intro d;induction d with
  |zero=>
   intro i acc m h1 h2 h3 h4;obtain⟨m,rfl⟩:∃m',m=m'+1:=⟨m-1,by omega⟩
   have:i=l.length:=by omega
   subst this;rw[b3,dh];simp
  |succ d ih=>
   intro i acc m h1 h2 h3 h4;obtain⟨m,rfl⟩:∃m',m=m'+1:=⟨m-1,by omega⟩
   by_cases hi:i<l.length
   ·rw[dG hi];cases hp:p l[i]with
    |true=>rw[b1 m i acc hi h3 hp,ih (i+1) _ m (by omega) hi (by simp;omega) (by omega),dn hp];simp
    |false=>rw[b2 m i acc hi hp,ih (i+1) _ m (by omega) hi (by omega) (by omega),cj (by simp[hp])]
   ·have:i=l.length:=by omega
    subst this;rw[b3,dh];simp
 have:=k1 l.length 0 c0 n (by omega) (bz _) (by omega) hn;rwa[gd]at this
theorem BV{α:Type}(p q:α->aW):∀r:ay α,(∀y∈r,q y= !p y)->r.Pairwise (λy z=>p z=ai->p y=ai)->r.takeWhile p=r.filter p/\r.dropWhile p=r.filter q
 |[],_,_=>⟨rfl,rfl⟩
 |y::r,hq,h=>by
  rw[pQ]at h;have hy:=hq y (by simp);cases hp:p y with
  |true=>rw[hp]at hy;obtain⟨i1,i2⟩:=BV p q r (λz hz=>hq z (by simp[hz])) h.2;rw[pA hp,dn hp,List.dropWhile_cons_of_pos hp,cj (by rw[hy];simp),i1,i2];exact⟨rfl,rfl⟩
  |false=>
   rw[hp]at hy;have hn:¬p y=true:=by rw[hp];simp
   have ha:∀z∈r,p z=false:=λz hz=>by
    cases CJ:p z with
    |false=>rfl
    |true=>exact cE (h.1 z hz CJ) hn
   rw[pz hn,cj hn,List.dropWhile_cons_of_neg hn,dn (by rw[hy];rfl)];refine⟨?_, ?_⟩
   ·symm;rw[List.filter_eq_nil_iff];intro z hz;rw[ha z hz];simp
   ·congr 1;symm;rw[gK];intro z hz;rw[hq z (by simp[hz]),ha z hz];rfl
end Go.FG.Lib

