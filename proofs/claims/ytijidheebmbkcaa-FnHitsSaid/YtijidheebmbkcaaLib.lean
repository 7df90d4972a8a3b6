/- Plain facts on numbers, texts and lists. No condition. -/
import Derived.Test.YtijidheebmbkcaaCorec
set_option linter.unusedVariables false
set_option linter.unusedSimpArgs false
set_option maxRecDepth 100000
open Bool renaming false->ah,true->ae,true_and->bA,and_eq_true->az,and_true->j9
open Go.IntKind renaming i64->aj
open List renaming getD->gW,beq->cC,takeWhile_cons_of_pos->m8,takeWhile_cons_of_neg->m7,length_cons->cE,length_nil->gX,length->cq,takeWhile_append_dropWhile->kl,length_append->b8,range->cy,range'->oH,all_cons->oP,range_succ->Me,all_append->v5,drop_eq_getElem_cons->nR,drop_length->MP,any_eq_false->Mc,getElem_of_mem->cu,getElem_mem->bk,set->aF,take_succ_eq_append_getElem->dB,map_append->fw,getElem?_append_right->cm,getElem?_eq_getElem->dV,append_assoc->bR,append_nil->da,take_of_length_le->km,pairwise_cons->tl,filter_cons_of_pos->eQ,filter_cons_of_neg->dI,filter_eq_self->ew
open Nat renaming zero_le->bT,sub_self->Mg,sub_zero->tp,le_trans->c5,blt->nk,beq->a_,le_refl->cD
open Option renaming some->ab,isSome->kJ,getD->PA
open Option.some renaming inj->aq
open _root_ renaming Nat->au,Option->ar,Int->ax,List->ak,ByteArray->ai,Bool->aL,congrArg->o6,cond_true->aw,cond_false->aC,absurd->bS
namespace Go.FG.Lib
theorem tT{σ β:Type}(F:au->σ->ar β)(mu:σ->au)(inv:σ->Prop)(post:β->Prop)
  (step:∀n s,inv s->(∃b,F (n+1) s=ab b/\post b)\/∃s',inv s'/\mu s'<mu s/\F (n+1) s=F n s'):∀n s,inv s->mu s<n->∃b,F n s=ab b/\post b:=by
 intro n;induction n with
 |zero=>intro s _ h;omega
 |succ n ih=>
  intro s hi hm;rcases step n s hi with h|⟨s',h1,h2,h4⟩
  ·exact h
  ·rw[h4];exact ih s' h1 (by omega)
theorem du{n:au}(h:n<=9223372036854775807):n<dE:=by unfold dE;omega
theorem cY{x:ax}(h1: -9223372036854775808<=x)(h2:x<=9223372036854775807):bE x=x:=pP h1 h2
theorem afX{x:ax}(h0: -9223372036854775808<=x:=by omega)(h1:x<=9223372036854775807:=by omega):bE x=x:=cY h0 h1
theorem wu(A:aY)(y:ak CV)(B:aY)(i j:au)(h:A.length=i):ao (A++y::B) i j=y.getD j (.b ah):=by
 subst h;unfold ao;have:(A++y::B).getD A.length []=y:=by simp[gW]
 rw[this]
theorem o_(a:ai):cC a.toList a.toList=true:=pb _
theorem AY(x:CV):(bytesOf [[x]]).size=1:=by rw[fQ];rfl
theorem Ri(p:ak CV->aL):∀(r:aY) (i:au),i<(r.takeWhile p).length->∃h:i<r.length,p r[i]=ae
 |[],i,h=>by simp at h
 |y::r,i,h=>by
  by_cases hp:p y=ae
  ·rw[m8 hp]at h;cases i with
   |zero=>exact⟨by simp,hp⟩
   |succ i=>obtain⟨h1,h2⟩:=Ri p r i (by simpa using h);exact⟨by simpa using h1,by simpa using h2⟩
  ·rw[m7 hp]at h;simp at h
theorem Rh(p:ak CV->aL):∀(r:aY) (h:(r.takeWhile p).length<r.length),p r[(r.takeWhile p).length]=ah
 |[],h=>by simp at h
 |y::r,h=>by
  by_cases hp:p y=ae
  ·have e:=m8 (l:=r) hp;have h':(r.takeWhile p).length<r.length:=by rw[e]at h;simpa using h
   have:=Rh p r h';simp only[e,cE,List.getElem_cons_succ];exact this
  ·have e:=m7 (l:=r) hp;simp only[e,gX,List.getElem_cons_zero];simpa using hp
theorem CR(p:ak CV->aL)(r:aY):(r.takeWhile p).length<=r.length:=by have:=o6 cq (kl (p:=p) (l:=r));rw[b8]at this;omega
theorem vI(p:ak CV->aL)(r:aY):r.take (r.takeWhile p).length=r.takeWhile p:=by have e:=kl (p:=p) (l:=r);have:=List.take_left (l₁:=r.takeWhile p) (l₂:=r.dropWhile p);rw[e]at this;exact this
theorem vp(p:ak CV->aL)(r:aY):r.drop (r.takeWhile p).length=r.dropWhile p:=by have e:=kl (p:=p) (l:=r);have:=List.drop_left (l₁:=r.takeWhile p) (l₂:=r.dropWhile p);rw[e]at this;exact this
theorem sM{R:Type}(p:ak CV->aL)(r:aY)(F:au->au->ar R)(K:au->ar R)
  (hT:∀m i (h:i<r.length),p r[i]=ae->F (m+1) i=F m (i+1)) (hF:∀m i (h:i<r.length),p r[i]=ah->F (m+1) i=K i) (hE:∀m,F (m+1) r.length=K r.length)
  (n:au) (hn:r.length<n):F n 0=K (r.takeWhile p).length:=by
 refine j5 F (λi=>r.length-i) (λi=>i<=(r.takeWhile p).length) (λ_=>K (r.takeWhile p).length) (λm i hi=> ?_) n 0 (bT _) (by omega);have hl:=CR p r;by_cases h:i<(r.takeWhile p).length
 ·obtain⟨h1,h2⟩:=Ri p r i h;exact .inr ⟨i+1,h,by omega,rfl,hT m i h1 h2⟩
 ·left;have jw:i=(r.takeWhile p).length:=by omega
  subst jw;by_cases h2:(r.takeWhile p).length<r.length
  ·exact hF m _ h2 (Rh p r h2)
  ·have h3:(r.takeWhile p).length=r.length:=by omega
   rw[h3];exact hE m
theorem nY{R:Type}(g:au->aL)(len:au)(F:au->au->ar R)(kf kt:ar R)(hT:∀m i,i<len->g i=ae->F (m+1) i=F m (i+1))(hF:∀m i,i<len->g i=ah->F (m+1) i=kf)(hE:∀m,F (m+1) len=kt)(n:au)(hn:len<n):F n 0=bif(cy len).all g then kt else kf:=by
 have:=j5 F (λi=>len-i) (λi=>i<=len) (λi=>bif(oH i (len-i)).all g then kt else kf) (λm i hi=>by
  by_cases h:i<len
  ·have e:(oH i (len-i)).all g=(g i&&(oH (i+1) (len-(i+1))).all g):=by rw[show len-i=(len-(i+1))+1 by omega,List.range'_succ,oP]
   cases hp:g i with
   |true=>right;exact⟨i+1,h,by omega,by rw[e,hp,bA],hT m i h hp⟩
   |false=>left;rw[e,hp,hF m i h hp];rfl
  ·left;have:i=len:=by omega
   subst this;rw[hE,Mg];rfl) n 0 (bT _) (by omega)
 rw[this,tp,<-List.range_eq_range']
theorem n9{R:Type}(p:au->aL)(len:au)(F:au->au->ar R)(kr:ax->ar R)(h1:∀m i,i<len->p i=ae->F (m+1) i=kr i)(h2:∀m i,i<len->p i=ah->F (m+1) i=F m (i+1))(h3:∀m,F (m+1) len=kr (-1))(n:au)(hn:len<n):F n 0=kr (fi p len 0):=by
 have:=j5 F (λi=>len-i) (λi=>i<=len) (λi=>kr (fi p (len-i) i)) (λm i hi=>by
  by_cases h:i<len
  ·have e:len-i=(len-(i+1))+1:=by omega
   cases hp:p i with
   |true=>left;rw[h1 m i h hp,e];simp[fi,hp]
   |false=>right;exact⟨i+1,h,by omega,by rw[e];simp[fi,hp],h2 m i h hp⟩
  ·left;have:i=len:=by omega
   subst this;rw[h3,Mg];rfl) n 0 (by omega) (by omega)
 simpa using this
theorem all_congr{g h:au->aL}{n:au}(e:∀i,i<n->g i=h i):(cy n).all g=(cy n).all h:=by
 induction n with
 |zero=>rfl
 |succ n ih=>rw[Me,v5,v5,ih (λi hi=>e i (by omega))];simp[e n (by omega)]
theorem BU{T:Tab}(hT:∀e ti,T.ty e=ab ti->0<ti.bytes):∀y,nQ T y->Fit y
 |_, .i k n _=>Fit.i k n
 |_, .b x=>Fit.b x
 |_, .s x h=>Fit.s x (c5 h (by omega))
 |_, .l e xs ti h h1 h2 h3=>by
  have hp:=hT e ti h;have hle:xs.length*1<=xs.length*ti.bytes:=Nat.mul_le_mul_left _ hp;exact Fit.l e xs (by omega) (λy hy x hx=>BU hT x (h3 y hy x hx))
theorem K2:∀{rows:ak mN},rows.all (λr=>nk 0 r.ti.bytes)=ae->∀e ti,u6 rows e=ab ti->0<ti.bytes
 |[],_,_,_,h=>by cases h
 |r::rs,h,e,ti,h2=>by
  rw[oP,az]at h;unfold u6 at h2;cases hb:a_ e r.t with
  |true=>rw[hb,aw]at h2;obtain rfl:=aq h2;have h1:=h.1;simp[nk]at h1;omega
  |false=>rw[hb,aC]at h2;exact K2 h.2 e ti h2
theorem PW{rows:ak mN}{T:Tab}(hT:T.ty=u6 rows)(h:rows.all (λr=>nk 0 r.ti.bytes)=ae){e:au}{xs:aY}(hf:nQ T (.l e xs)):vW xs:=by
 cases BU (λe ti he=>K2 h e ti (by rw[<-hT];exact he)) _ hf with
 |l _ _ h1 h2=>exact⟨h1,h2⟩
end Go.FG.Lib

namespace Go.FG.Lib
theorem pZ{σ R:Type}(len:au)(F:au->au->σ->ar R)(st:au->σ)(res:ar R)
  (hS:∀m i,i<len->F (m+1) i (st i)=F m (i+1) (st (i+1))) (hE:∀m,F (m+1) len (st len)=res) (n i0:au) (h0:i0<=len) (hn:len-i0<n):F n i0 (st i0)=res:=by
 refine j5 (λn i=>F n i (st i)) (λi=>len-i) (λi=>i<=len) (λ_=>res) (λm i hi=> ?_) n i0 h0 hn;by_cases h:i<len
 ·exact .inr ⟨i+1,h,by omega,rfl,hS m i h⟩
 ·left;have:i=len:=by omega
  subst this;exact hE m
theorem o9{α R:Type}(l:ak α)(p:α->aL)(F:au->au->ar R)(kf kt:ar R)
  (hT:∀m i (h:i<l.length),p l[i]=ae->F (m+1) i=F m (i+1)) (hF:∀m i (h:i<l.length),p l[i]=ah->F (m+1) i=kf) (hE:∀m,F (m+1) l.length=kt) (n:au) (hn:l.length<n):F n 0=bif l.all p then kt else kf:=by
 have:=j5 F (λi=>l.length-i) (λi=>i<=l.length) (λi=>bif(l.drop i).all p then kt else kf) (λm i hi=>by
  by_cases h:i<l.length
  ·have e:(l.drop i).all p=(p l[i]&&(l.drop (i+1)).all p):=by rw[nR h,oP]
   cases hp:p l[i]with
   |true=>right;exact⟨i+1,h,by omega,by rw[e,hp,bA],hT m i h hp⟩
   |false=>left;rw[e,hp,hF m i h hp];rfl
  ·left;have:i=l.length:=by omega
   subst this;rw[hE,MP];rfl) n 0 (bT _) (by omega)
 simpa using this
theorem getD_map'{α:Type}(f:α->ak CV)(l:ak α)(i:au)(h:i<l.length):(l.map f).getD i []=f l[i]:=by simp[gW,h]
theorem gT{α:Type}(f:α->ak CV)(l:ak α)(i j:au)(h:i<l.length):ao (l.map f) i j=(f l[i]).getD j (.b ah):=by unfold ao;rw[getD_map' f l i h]
theorem DH{α:Type}(l:ak α)(p:α->aL)(q:au->aL)(h:∀i (hi:i<l.length),q i=p l[i]):decide (fi q l.length 0≥0)=l.any p:=by
 rcases n_ q l.length 0 with ⟨h1,h2⟩|⟨k,_,hk,h3,h4,_⟩
 ·rw[h1];symm;rw[show decide ((-1:ax)≥0)=ah by decide,Mc];intro x hx;obtain⟨i,hi,rfl⟩:=cu hx;have:=h2 i (bT _) (by omega);rw[h i hi]at this;simp[this]
 ·rw[h3];symm;rw[show decide ((k:ax)≥0)=ae by simp,List.any_eq_true];exact⟨l[k]'(by omega),bk _,by rw[<-h k (by omega)];exact h4⟩
theorem CL(ks:ak Ck)(y:ak CV):aF (aM ks 1) 0 y=[y]:=rfl
theorem nH{α β:Type}(f:α->β)(l:ak α)(i:au)(h:i<l.length):(l.take i).map f++[f l[i]]=(l.take (i+1)).map f:=by rw[dB h,fw];rfl
def rs(l:ak ai):aY:=l.map λk=>[CV.s k]
def ri(l:ak ax):aY:=l.map λn=>[CV.i aj n]
def rr(l:ak (ak ax)):aY:=l.map λq=>[CV.l 3 (ri q)]
structure En where
 k:ai
 st:ax
 li:ax
 bo:ai
 deriving DecidableEq
def En.row(e:En):ak CV:=[CV.s e.k,CV.i aj e.st,CV.i aj e.li,CV.s e.bo]
def re(l:ak En):aY:=l.map En.row
structure Fe where
 k:ai
 t:ai
 sta:ax
 li:ax
 st:ax
 deriving DecidableEq
def Fe.row(e:Fe):ak CV:=[CV.s e.k,CV.s e.t,CV.i aj e.sta,CV.i aj e.li,CV.i aj e.st]
def rf(l:ak Fe):aY:=l.map Fe.row
structure Cl where
 id:ax
 k:ai
 fe:ax
 fr:ax
 sta:ax
 got:ai
 age:ax
 deriving DecidableEq
def Cl.row(e:Cl):ak CV:=[CV.i aj e.id,CV.s e.k,CV.i aj e.fe,CV.i aj e.fr,CV.i aj e.sta,CV.s e.got,CV.i aj e.age]
def rc(l:ak Cl):aY:=l.map Cl.row
structure Fi where
 n:ai
 t:ai
 kp:ax
 deriving DecidableEq
def Fi.row(e:Fi):ak CV:=[CV.s e.n,CV.s e.t,CV.i aj e.kp]
def rd(l:ak Fi):aY:=l.map Fi.row
theorem iu(l):(rs l).length=l.length:=by unfold rs;simp
theorem f_(l):(ri l).length=l.length:=by unfold ri;simp
theorem fJ(l):(rr l).length=l.length:=by unfold rr;simp
theorem fZ(l):(re l).length=l.length:=by unfold re;simp
theorem fa(l):(rf l).length=l.length:=by unfold rf;simp
theorem jd(l):(rc l).length=l.length:=by unfold rc;simp
theorem kG(l):(rd l).length=l.length:=by unfold rd;simp
theorem Zw{l:ak ai}{i:au}(h:i<l.length):ao (rs l) i 0=CV.s l[i]:=gT _ l i 0 h
theorem Ms{l:ak ax}{i:au}(h:i<l.length):ao (ri l) i 0=CV.i aj l[i]:=gT _ l i 0 h
theorem Ga{l:ak (ak ax)}{i:au}(h:i<l.length):ao (rr l) i 0=CV.l 3 (ri l[i]):=gT _ l i 0 h
theorem Zv{l:ak Fi}{i:au}(h:i<l.length):ao (rd l) i 0=CV.s l[i].n:=gT _ l i 0 h
theorem rd1{l:ak Fi}{i:au}(h:i<l.length):ao (rd l) i 1=CV.s l[i].t:=gT _ l i 1 h
theorem rd2{l:ak Fi}{i:au}(h:i<l.length):ao (rd l) i (1+1)=CV.i aj l[i].kp:=gT _ l i 2 h
end Go.FG.Lib
namespace Go.FG.Lib
theorem mo{α:Type}(f:α->ak CV)(l:ak α)(i j:au)(ys:ak CV)(y:α)(h:i<l.length)(hs:gb (f l[i]) j ys=f y):dP (l.map f) i j ys=(l.set i y).map f:=by unfold dP;rw[getD_map' f l i h,hs,List.map_set]
def lN{α:Type}(l:ak α)(g:au->α->α)(i:au):ak α:=(l.mapIdx g).take i++l.drop i
theorem pM{α:Type}(l:ak α)(g:au->α->α)(i:au)(h:i<=l.length):(lN l g i).length=l.length:=by unfold lN;simp;omega
theorem vK{α:Type}(l:ak α)(g:au->α->α)(i:au)(h:i<l.length)(h2:i<(lN l g i).length):(lN l g i)[i]=l[i]:=by
 have e:(lN l g i)[i]? =ab l[i]:=by unfold lN;rw[cm (by simp;omega)];simp[show min i l.length=i by omega]
 rw[dV h2]at e;exact aq e
theorem sO{α:Type}(l:ak α)(g:au->α->α)(i:au)(h:i<l.length):(lN l g i).set i (g i l[i])=lN l g (i+1):=by
 unfold lN;have hl:((l.mapIdx g).take i).length=i:=by simp;omega
 rw[List.set_append_right _ _ (by omega),hl,Mg,nR h,List.set_cons_zero,dB (by simpa using h),bR];simp
theorem A5{α:Type}(l:ak α)(g:au->α->α):lN l g 0=l:=by unfold lN;simp
theorem pL{α:Type}(l:ak α)(g:au->α->α):lN l g l.length=l.mapIdx g:=by unfold lN;rw[MP,da,km (by simp)]
theorem oD{α R:Type}(f:α->ak CV)(l:ak α)(g:au->α->α)(F:au->au->aY->ar R)(K:aY->ar R)
  (hS:∀m i (L:ak α) (h:i<l.length) (h2:i<L.length),L.length=l.length->L[i]=l[i]->F (m+1) i (L.map f)=F m (i+1) ((L.set i (g i l[i])).map f))
  (hE:∀m (L:ak α),L.length=l.length->F (m+1) l.length (L.map f)=K (L.map f)) (n:au) (hn:l.length<n):F n 0 (l.map f)=K ((l.mapIdx g).map f):=by
 have:=pZ l.length F (λi=>(lN l g i).map f) (K ((l.mapIdx g).map f)) (λm i h=>by
  have h1:=pM l g i (by omega);rw[hS m i (lN l g i) h (by omega) h1 (vK l g i h (by omega)),sO l g i h]) (λm=>by
  rw[hE m _ (pM l g _ (cD _)),pL]) n 0 (bT _) (by omega)
 rw[show l.map f=(lN l g 0).map f by rw[A5]];exact this
end Go.FG.Lib

namespace Go.FG.Lib
instance:Inhabited En:=⟨⟨⟨#[]⟩,0,0,⟨#[]⟩⟩⟩
instance:Inhabited Fe:=⟨⟨⟨#[]⟩,⟨#[]⟩,0,0,0⟩⟩
instance:Inhabited Cl:=⟨⟨0,⟨#[]⟩,0,0,0,⟨#[]⟩,0⟩⟩
instance:Inhabited Fi:=⟨⟨⟨#[]⟩,⟨#[]⟩,0⟩⟩
def el{α:Type}[Inhabited α](l:ak α)(i:au):α:=l.getD i default
theorem fg{α:Type}[Inhabited α]{l:ak α}{i:au}(h:i<l.length):el l i=l[i]:=by unfold el;simp[gW,h]
theorem wA{α:Type}[Inhabited α]{l:ak α}{i:au}(h:i<l.length):el l i∈l:=by rw[fg h];exact bk h
theorem gU{α:Type}[Inhabited α](f:α->ak CV)(l:ak α)(i j:au)(h:i<l.length):ao (l.map f) i j=(f (el l i)).getD j (.b ah):=by rw[gT f l i j h,fg h]
theorem Bh{l:ak En}{i:au}(h:i<l.length):ao (re l) i 0=CV.s (el l i).k:=gU _ l i 0 h
theorem Gl{l:ak En}{i:au}(h:i<l.length):ao (re l) i 1=CV.i aj (el l i).st:=gU _ l i 1 h
theorem Gm{l:ak En}{i:au}(h:i<l.length):ao (re l) i (1+1)=CV.i aj (el l i).li:=gU _ l i 2 h
theorem Gn{l:ak En}{i:au}(h:i<l.length):ao (re l) i (1+1+1)=CV.s (el l i).bo:=gU _ l i 3 h
theorem OV{l:ak Fe}{i:au}(h:i<l.length):ao (rf l) i 0=CV.s (el l i).k:=gU _ l i 0 h
theorem Mv{l:ak Fe}{i:au}(h:i<l.length):ao (rf l) i 1=CV.s (el l i).t:=gU _ l i 1 h
theorem UQ{l:ak Fe}{i:au}(h:i<l.length):ao (rf l) i (1+1)=CV.i aj (el l i).sta:=gU _ l i 2 h
theorem EE{l:ak Fe}{i:au}(h:i<l.length):ao (rf l) i 2=CV.i aj (el l i).sta:=gU _ l i 2 h
theorem Zy{l:ak Fe}{i:au}(h:i<l.length):ao (rf l) i (1+1+1)=CV.i aj (el l i).li:=gU _ l i 3 h
theorem Zz{l:ak Fe}{i:au}(h:i<l.length):ao (rf l) i (1+1+1+1)=CV.i aj (el l i).st:=gU _ l i 4 h
theorem Mu{l:ak Cl}{i:au}(h:i<l.length):ao (rc l) i 0=CV.i aj (el l i).id:=gU _ l i 0 h
theorem Ue{l:ak Cl}{i:au}(h:i<l.length):ao (rc l) i 1=CV.s (el l i).k:=gU _ l i 1 h
theorem Uf{l:ak Cl}{i:au}(h:i<l.length):ao (rc l) i (1+1)=CV.i aj (el l i).fe:=gU _ l i 2 h
theorem Ug{l:ak Cl}{i:au}(h:i<l.length):ao (rc l) i (1+1+1)=CV.i aj (el l i).fr:=gU _ l i 3 h
theorem Uh{l:ak Cl}{i:au}(h:i<l.length):ao (rc l) i (1+1+1+1)=CV.i aj (el l i).sta:=gU _ l i 4 h
theorem Ui{l:ak Cl}{i:au}(h:i<l.length):ao (rc l) i (1+1+1+1+1)=CV.s (el l i).got:=gU _ l i 5 h
theorem Uj{l:ak Cl}{i:au}(h:i<l.length):ao (rc l) i (1+1+1+1+1+1)=CV.i aj (el l i).age:=gU _ l i 6 h
theorem wd0{l:ak Fi}{i:au}(h:i<l.length):ao (rd l) i 0=CV.s (el l i).n:=gU _ l i 0 h
theorem wd1{l:ak Fi}{i:au}(h:i<l.length):ao (rd l) i 1=CV.s (el l i).t:=gU _ l i 1 h
theorem wd2{l:ak Fi}{i:au}(h:i<l.length):ao (rd l) i (1+1)=CV.i aj (el l i).kp:=gU _ l i 2 h
structure Px where
 now:ax
 en:ak En
 w:ak ai
 m:ak ai
 s:ak (ak ax)
 a:ax
 fe:ak Fe
 cl:ak Cl
 hits:ax
structure Px.Fit (p:Px) (n:au):Prop where
 en:p.en.length<=n
 w:p.w.length<=n
 m:p.m.length<=n
 s:p.s.length<=n/\(∀q∈p.s,q.length<=n)/\(p.s.map cq).sum<=n
 fe:p.fe.length<=n
 cl:p.cl.length<=n
theorem Px.Fit.le{p:Px}{n m:au}(h:p.Fit n)(hm:n<=m):p.Fit m:=⟨c5 h.en hm,c5 h.w hm,c5 h.m hm,⟨c5 h.s.1 hm,λq hq=>c5 (h.s.2.1 q hq) hm,c5 h.s.2.2 hm⟩,c5 h.fe hm,c5 h.cl hm⟩
theorem pF{i:au}(h:0<i)(h2:i<=9223372036854775807):bE ((i:ax)-1)=((i-1:au):ax):=by rw[cY (by omega) (by omega)];omega
theorem Fb{n:au}(f g:au->aL):((cy n).all λi=>f i&&g i)=((cy n).all f&&(cy n).all g):=by
 induction n with
 |zero=>rfl
 |succ n ih=>simp only[Me,v5,oP,List.all_nil,j9,ih];cases (cy n).all f<;>cases (cy n).all g<;>cases f n<;>cases g n<;>rfl
end Go.FG.Lib

namespace Go.FG
namespace Lib
def ap{α β:Type}(f:α->β)(x:α):β:=f x
theorem bq{α R:Type}{o:ar α}{d:α}{g:ar R}{k:α->ar R}(hc:kJ o=ae)(h:g=Option.bind o k):g=ap k (PA o d):=by rw[h,some_ hc (d:=d)];rfl
end Lib
end Go.FG

namespace Go.FG.Lib
theorem uf{α:Type}(p q:α->aL):∀r:ak α,(∀y∈r,q y= !p y)->r.Pairwise (λy z=>p z=ae->p y=ae)->r.takeWhile p=r.filter p/\r.dropWhile p=r.filter q
 |[],_,_=>⟨rfl,rfl⟩
 |y::r,hq,h=>by
  rw[tl]at h;have hy:=hq y (by simp);cases hp:p y with
  |true=>rw[hp]at hy;obtain⟨i1,i2⟩:=uf p q r (λz hz=>hq z (by simp[hz])) h.2;rw[m8 hp,eQ hp,List.dropWhile_cons_of_pos hp,dI (by rw[hy];simp),i1,i2];exact⟨rfl,rfl⟩
  |false=>
   rw[hp]at hy;have hn:¬p y=true:=by rw[hp];simp
   have ha:∀z∈r,p z=false:=λz hz=>by
    cases yo:p z with
    |false=>rfl
    |true=>exact bS (h.1 z hz yo) hn
   rw[m7 hn,dI hn,List.dropWhile_cons_of_neg hn,eQ (by rw[hy];rfl)];refine⟨?_, ?_⟩
   ·symm;rw[List.filter_eq_nil_iff];intro z hz;rw[ha z hz];simp
   ·congr 1;symm;rw[ew];intro z hz;rw[hq z (by simp[hz]),ha z hz];rfl
end Go.FG.Lib

