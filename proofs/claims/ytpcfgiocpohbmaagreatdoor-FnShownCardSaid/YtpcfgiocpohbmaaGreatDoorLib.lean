/- Plain facts on numbers, texts and lists. No condition. -/
import Derived.Test.YtpcfgiocpohbmaaGreatDoorCorec
import Derived.Lib.ItoaNum
import Derived.Lib.SplitLaws
import Derived.Lib.AtoiTie
import Derived.Lib.ItoaLen
set_option linter.unusedVariables false
set_option linter.unusedSimpArgs false
set_option maxRecDepth 100000
open Bool renaming true->aj,false->ao,true_and->bK,and_eq_true->aJ
open Go.IntKind renaming i64->ar
open List renaming takeWhile_cons_of_pos->oL,takeWhile_cons_of_neg->oK,length_cons->bU,length_nil->lP,length->bI,takeWhile_append_dropWhile->lV,length_append->bW,filter_cons_of_pos->db,filter_cons_of_neg->bX,drop_length->cU,range->ej,range'->ml,all_cons->mv,drop_eq_getElem_cons->cQ,getD->e6,set->aF,take_succ_eq_append_getElem->cj,map_append->c7,getElem?_append_right->cT,getElem?_eq_getElem->qD,append_assoc->bY,append_nil->dv,take_of_length_le->gb,getElem_mem->bH,drop_zero->eB,pairwise_cons->lu,filter_eq_self->fX
open Nat renaming zero_le->bC,sub_self->Ye,sub_zero->Eh,le_trans->cm,blt->o9,beq->bA,le_refl->bR
open Option renaming some->ah,isSome->mm,getD->Vd
open Option.some renaming inj->aD
open _root_ renaming Nat->aG,Option->aA,Int->ay,List->ax,Bool->aU,congrArg->je,cond_true->aw,cond_false->az,ByteArray->aq,absurd->b_
namespace Go.FG.Lib
theorem wu{σ β:Type}(F:aG->σ->aA β)(mu:σ->aG)(inv:σ->Prop)(post:β->Prop)
  (step:∀n s,inv s->(∃b,F (n+1) s=ah b/\post b)\/∃s',inv s'/\mu s'<mu s/\F (n+1) s=F n s'):∀n s,inv s->mu s<n->∃b,F n s=ah b/\post b:=by
 intro n;induction n with
 |zero=>intro s _ h;omega
 |succ n ih=>
  intro s hi hm;rcases step n s hi with h|⟨s',h1,h2,h4⟩
  ·exact h
  ·rw[h4];exact ih s' h1 (by omega)
theorem c6{n:aG}(h:n<=9223372036854775807):n<cR:=by unfold cR;omega
theorem dj{x:ay}(h1: -9223372036854775808<=x)(h2:x<=9223372036854775807):bN x=x:=jH h1 h2
theorem apn{x:ay}(h0: -9223372036854775808<=x:=by omega)(h1:x<=9223372036854775807:=by omega):bN x=x:=dj h0 h1
theorem D0(x:CV):(bytesOf [[x]]).size=1:=by rw[gM];rfl
theorem Xk(p:ax CV->aU):∀(r:Row) (i:aG),i<(r.takeWhile p).length->∃h:i<r.length,p r[i]=aj
 |[],i,h=>by simp at h
 |y::r,i,h=>by
  by_cases hp:p y=aj
  ·rw[oL hp]at h;cases i with
   |zero=>exact⟨by simp,hp⟩
   |succ i=>obtain⟨h1,h2⟩:=Xk p r i (by simpa using h);exact⟨by simpa using h1,by simpa using h2⟩
  ·rw[oK hp]at h;simp at h
theorem Xj(p:ax CV->aU):∀(r:Row) (h:(r.takeWhile p).length<r.length),p r[(r.takeWhile p).length]=ao
 |[],h=>by simp at h
 |y::r,h=>by
  by_cases hp:p y=aj
  ·have e:=oL (l:=r) hp;have h':(r.takeWhile p).length<r.length:=by rw[e]at h;simpa using h
   have:=Xj p r h';simp only[e,bU,List.getElem_cons_succ];exact this
  ·have e:=oK (l:=r) hp;simp only[e,lP,List.getElem_cons_zero];simpa using hp
theorem Gl(p:ax CV->aU)(r:Row):(r.takeWhile p).length<=r.length:=by have:=je bI (lV (p:=p) (l:=r));rw[bW]at this;omega
theorem yR(p:ax CV->aU)(r:Row):r.take (r.takeWhile p).length=r.takeWhile p:=by have e:=lV (p:=p) (l:=r);have:=List.take_left (l₁:=r.takeWhile p) (l₂:=r.dropWhile p);rw[e]at this;exact this
theorem yF(p:ax CV->aU)(r:Row):r.drop (r.takeWhile p).length=r.dropWhile p:=by have e:=lV (p:=p) (l:=r);have:=List.drop_left (l₁:=r.takeWhile p) (l₂:=r.dropWhile p);rw[e]at this;exact this
theorem vd{R:Type}(p:ax CV->aU)(r:Row)(F:aG->aG->aA R)(K:aG->aA R)
  (hT:∀m i (h:i<r.length),p r[i]=aj->F (m+1) i=F m (i+1)) (hF:∀m i (h:i<r.length),p r[i]=ao->F (m+1) i=K i) (hE:∀m,F (m+1) r.length=K r.length)
  (n:aG) (hn:r.length<n):F n 0=K (r.takeWhile p).length:=by
 refine iL F (λi=>r.length-i) (λi=>i<=(r.takeWhile p).length) (λ_=>K (r.takeWhile p).length) (λm i hi=> ?_) n 0 (bC _) (by omega);have hl:=Gl p r;by_cases h:i<(r.takeWhile p).length
 ·obtain⟨h1,h2⟩:=Xk p r i h;exact .inr ⟨i+1,h,by omega,rfl,hT m i h1 h2⟩
 ·left;have j_:i=(r.takeWhile p).length:=by omega
  subst j_;by_cases h2:(r.takeWhile p).length<r.length
  ·exact hF m _ h2 (Xj p r h2)
  ·have h3:(r.takeWhile p).length=r.length:=by omega
   rw[h3];exact hE m
theorem uF{R:Type}(p:ax CV->aU)(f:ax CV->ax CV)(r:Row)(m0:aG)(F:aG->aG->Row->aA R)(K:Row->aA R)
  (hT:∀m i acc (h:i<r.length),acc.length<=m0+i->p r[i]=aj->F (m+1) i acc=F m (i+1) (acc++[f r[i]])) (hF:∀m i acc (h:i<r.length),acc.length<=m0+i->p r[i]=ao->F (m+1) i acc=F m (i+1) acc)
  (hE:∀m acc,F (m+1) r.length acc=K acc) (n:aG) (acc:Row) (ha:acc.length<=m0) (hn:r.length<n):F n 0 acc=K (acc++(r.filter p).map f):=by
 have:=iL (λn (s:aG×Row)=>F n s.1 s.2) (λs=>r.length-s.1) (λs=>s.1<=r.length/\s.2.length<=m0+s.1) (λs=>K (s.2++((r.drop s.1).filter p).map f)) (λm s hs=>by
  obtain⟨i,acc⟩:=s;obtain⟨h1,h2⟩:=hs;dsimp only at h1 h2⊢;by_cases h:i<r.length
  ·right;rw[gK h];cases hp:p r[i]with
   |true=>exact⟨(i+1,acc++[f r[i]]),⟨h,by simp;omega⟩,by dsimp only;omega,by rw[db hp];simp,hT m i acc h h2 hp⟩
   |false=>exact⟨(i+1,acc),⟨h,by dsimp only;omega⟩,by dsimp only;omega,by rw[bX (by simp[hp])],hF m i acc h h2 hp⟩
  ·left;have hi:i=r.length:=by omega
   subst hi;rw[cU];simpa using hE m acc) n (0,acc) ⟨bC _,by dsimp only;omega⟩ (by dsimp only;omega)
 simpa using this
theorem nh{R:Type}(g:aG->aU)(len:aG)(F:aG->aG->aA R)(kf kt:aA R)(hT:∀m i,i<len->g i=aj->F (m+1) i=F m (i+1))(hF:∀m i,i<len->g i=ao->F (m+1) i=kf)(hE:∀m,F (m+1) len=kt)(n:aG)(hn:len<n):F n 0=bif(ej len).all g then kt else kf:=by
 have:=iL F (λi=>len-i) (λi=>i<=len) (λi=>bif(ml i (len-i)).all g then kt else kf) (λm i hi=>by
  by_cases h:i<len
  ·have e:(ml i (len-i)).all g=(g i&&(ml (i+1) (len-(i+1))).all g):=by rw[show len-i=(len-(i+1))+1 by omega,List.range'_succ,mv]
   cases hp:g i with
   |true=>right;exact⟨i+1,h,by omega,by rw[e,hp,bK],hT m i h hp⟩
   |false=>left;rw[e,hp,hF m i h hp];rfl
  ·left;have:i=len:=by omega
   subst this;rw[hE,Ye];rfl) n 0 (bC _) (by omega)
 rw[this,Eh,<-List.range_eq_range']
theorem wh{R:Type}(p:aG->aU)(len:aG)(F:aG->aG->aA R)(kr:ay->aA R)(h1:∀m i,i<len->p i=aj->F (m+1) i=kr i)(h2:∀m i,i<len->p i=ao->F (m+1) i=F m (i+1))(h3:∀m,F (m+1) len=kr (-1))(n:aG)(hn:len<n):F n 0=kr (fi p len 0):=by
 have:=iL F (λi=>len-i) (λi=>i<=len) (λi=>kr (fi p (len-i) i)) (λm i hi=>by
  by_cases h:i<len
  ·have e:len-i=(len-(i+1))+1:=by omega
   cases hp:p i with
   |true=>left;rw[h1 m i h hp,e];simp[fi,hp]
   |false=>right;exact⟨i+1,h,by omega,by rw[e];simp[fi,hp],h2 m i h hp⟩
  ·left;have:i=len:=by omega
   subst this;rw[h3,Ye];rfl) n 0 (by omega) (by omega)
 simpa using this
theorem Fh{T:Tab}(hT:∀e ti,T.ty e=ah ti->0<ti.bytes):∀y,pP T y->Fit y
 |_, .i k n _=>Fit.i k n
 |_, .b x=>Fit.b x
 |_, .s x h=>Fit.s x (cm h (by omega))
 |_, .l e xs ti h h1 h2 h3=>by
  have hp:=hT e ti h;have hle:xs.length*1<=xs.length*ti.bytes:=Nat.mul_le_mul_left _ hp;exact Fit.l e xs (by omega) (λy hy x hx=>Fh hT x (h3 y hy x hx))
theorem PH:∀{rows:ax ou},rows.all (λr=>o9 0 r.ti.bytes)=aj->∀e ti,xW rows e=ah ti->0<ti.bytes
 |[],_,_,_,h=>by cases h
 |r::rs,h,e,ti,h2=>by
  rw[mv,aJ]at h;unfold xW at h2;cases hb:bA e r.t with
  |true=>rw[hb,aw]at h2;obtain rfl:=aD h2;have h1:=h.1;simp[o9]at h1;omega
  |false=>rw[hb,az]at h2;exact PH h.2 e ti h2
theorem Vn{rows:ax ou}{T:Tab}(hT:T.ty=xW rows)(h:rows.all (λr=>o9 0 r.ti.bytes)=aj){e:aG}{xs:Row}(hf:pP T (.l e xs)):xG xs:=by
 cases Fh (λe ti he=>PH h e ti (by rw[<-hT];exact he)) _ hf with
 |l _ _ h1 h2=>exact⟨h1,h2⟩
end Go.FG.Lib

namespace Go.FG.Lib
theorem jO{σ R:Type}(len:aG)(F:aG->aG->σ->aA R)(st:aG->σ)(res:aA R)
  (hS:∀m i,i<len->F (m+1) i (st i)=F m (i+1) (st (i+1))) (hE:∀m,F (m+1) len (st len)=res) (n i0:aG) (h0:i0<=len) (hn:len-i0<n):F n i0 (st i0)=res:=by
 refine iL (λn i=>F n i (st i)) (λi=>len-i) (λi=>i<=len) (λ_=>res) (λm i hi=> ?_) n i0 h0 hn;by_cases h:i<len
 ·exact .inr ⟨i+1,h,by omega,rfl,hS m i h⟩
 ·left;have:i=len:=by omega
  subst this;exact hE m
theorem qV{α R:Type}(l:ax α)(p:α->aU)(F:aG->aG->aA R)(kf kt:aA R)
  (hT:∀m i (h:i<l.length),p l[i]=aj->F (m+1) i=F m (i+1)) (hF:∀m i (h:i<l.length),p l[i]=ao->F (m+1) i=kf) (hE:∀m,F (m+1) l.length=kt) (n:aG) (hn:l.length<n):F n 0=bif l.all p then kt else kf:=by
 have:=iL F (λi=>l.length-i) (λi=>i<=l.length) (λi=>bif(l.drop i).all p then kt else kf) (λm i hi=>by
  by_cases h:i<l.length
  ·have e:(l.drop i).all p=(p l[i]&&(l.drop (i+1)).all p):=by rw[cQ h,mv]
   cases hp:p l[i]with
   |true=>right;exact⟨i+1,h,by omega,by rw[e,hp,bK],hT m i h hp⟩
   |false=>left;rw[e,hp,hF m i h hp];rfl
  ·left;have:i=l.length:=by omega
   subst this;rw[hE,cU];rfl) n 0 (bC _) (by omega)
 simpa using this
theorem zj{α R:Type}(l:ax α)(p:α->aU)(F:aG->aG->aA R)(kt kf:aA R)
  (hT:∀m i (h:i<l.length),p l[i]=aj->F (m+1) i=kt) (hF:∀m i (h:i<l.length),p l[i]=ao->F (m+1) i=F m (i+1)) (hE:∀m,F (m+1) l.length=kf) (n:aG) (hn:l.length<n):F n 0=bif l.any p then kt else kf:=by have h:=qV l (λx=> !p x) F kt kf (λm i h hp=>hF m i h (by simpa using hp)) (λm i h hp=>hT m i h (by simpa using hp)) hE n hn;rw[h,List.any_eq_not_all_not];cases l.all λx=> !p x<;>rfl
theorem getD_map'{α:Type}(f:α->ax CV)(l:ax α)(i:aG)(h:i<l.length):(l.map f).getD i []=f l[i]:=by simp[e6,h]
theorem fF{α:Type}(f:α->ax CV)(l:ax α)(i j:aG)(h:i<l.length):au (l.map f) i j=(f l[i]).getD j (.b ao):=by unfold au;rw[getD_map' f l i h]
theorem pD(ks:ax Ck)(y:ax CV):aF (aR ks 1) 0 y=[y]:=rfl
theorem nD{α β:Type}(f:α->β)(l:ax α)(i:aG)(h:i<l.length):(l.take i).map f++[f l[i]]=(l.take (i+1)).map f:=by rw[cj h,c7];rfl
def rs(l:ax aq):Row:=l.map λk=>[CV.s k]
def ri(l:ax ay):Row:=l.map λn=>[CV.i ar n]
def rr(l:ax (ax ay)):Row:=l.map λq=>[CV.l 3 (ri q)]
structure En where
 k:aq
 st:ay
 li:ay
 bo:aq
 deriving DecidableEq
def En.row(e:En):ax CV:=[CV.s e.k,CV.i ar e.st,CV.i ar e.li,CV.s e.bo]
def re(l:ax En):Row:=l.map En.row
structure Fe where
 k:aq
 t:aq
 sta:ay
 li:ay
 st:ay
 deriving DecidableEq
def Fe.row(e:Fe):ax CV:=[CV.s e.k,CV.s e.t,CV.i ar e.sta,CV.i ar e.li,CV.i ar e.st]
def rf(l:ax Fe):Row:=l.map Fe.row
structure Cl where
 id:ay
 k:aq
 fe:ay
 fr:ay
 sta:ay
 got:aq
 age:ay
 deriving DecidableEq
def Cl.row(e:Cl):ax CV:=[CV.i ar e.id,CV.s e.k,CV.i ar e.fe,CV.i ar e.fr,CV.i ar e.sta,CV.s e.got,CV.i ar e.age]
def rc(l:ax Cl):Row:=l.map Cl.row
structure Fi where
 n:aq
 t:aq
 kp:ay
 deriving DecidableEq
def Fi.row(e:Fi):ax CV:=[CV.s e.n,CV.s e.t,CV.i ar e.kp]
def rd(l:ax Fi):Row:=l.map Fi.row
theorem dG(l):(rs l).length=l.length:=by unfold rs;simp
theorem j8(l):(ri l).length=l.length:=by unfold ri;simp
theorem iW(l):(rr l).length=l.length:=by unfold rr;simp
theorem ff(l):(re l).length=l.length:=by unfold re;simp
theorem gf(l):(rf l).length=l.length:=by unfold rf;simp
theorem fc(l):(rc l).length=l.length:=by unfold rc;simp
theorem eh(l):(rd l).length=l.length:=by unfold rd;simp
theorem Z1{l:ax aq}{i:aG}(h:i<l.length):au (rs l) i 0=CV.s l[i]:=fF _ l i 0 h
theorem Z0{l:ax ay}{i:aG}(h:i<l.length):au (ri l) i 0=CV.i ar l[i]:=fF _ l i 0 h
theorem LX{l:ax (ax ay)}{i:aG}(h:i<l.length):au (rr l) i 0=CV.l 3 (ri l[i]):=fF _ l i 0 h
theorem ZY{l:ax Cl}{i:aG}(h:i<l.length):au (rc l) i 0=CV.i ar l[i].id:=fF _ l i 0 h
theorem rc1{l:ax Cl}{i:aG}(h:i<l.length):au (rc l) i 1=CV.s l[i].k:=fF _ l i 1 h
theorem rc2{l:ax Cl}{i:aG}(h:i<l.length):au (rc l) i (1+1)=CV.i ar l[i].fe:=fF _ l i 2 h
theorem rc3{l:ax Cl}{i:aG}(h:i<l.length):au (rc l) i (1+1+1)=CV.i ar l[i].fr:=fF _ l i 3 h
theorem rc4{l:ax Cl}{i:aG}(h:i<l.length):au (rc l) i (1+1+1+1)=CV.i ar l[i].sta:=fF _ l i 4 h
theorem rc5{l:ax Cl}{i:aG}(h:i<l.length):au (rc l) i (1+1+1+1+1)=CV.s l[i].got:=fF _ l i 5 h
theorem rc6{l:ax Cl}{i:aG}(h:i<l.length):au (rc l) i (1+1+1+1+1+1)=CV.i ar l[i].age:=fF _ l i 6 h
theorem H7{l:ax Fi}{i:aG}(h:i<l.length):au (rd l) i 0=CV.s l[i].n:=fF _ l i 0 h
theorem Ww{l:ax Fi}{i:aG}(h:i<l.length):au (rd l) i 1=CV.s l[i].t:=fF _ l i 1 h
theorem Wx{l:ax Fi}{i:aG}(h:i<l.length):au (rd l) i (1+1)=CV.i ar l[i].kp:=fF _ l i 2 h
end Go.FG.Lib
namespace Go.FG.Lib
theorem n5{α:Type}(f:α->ax CV)(l:ax α)(i j:aG)(ys:ax CV)(y:α)(h:i<l.length)(hs:iB (f l[i]) j ys=f y):eN (l.map f) i j ys=(l.set i y).map f:=by unfold eN;rw[getD_map' f l i h,hs,List.map_set]
def oq{α:Type}(l:ax α)(g:aG->α->α)(i:aG):ax α:=(l.mapIdx g).take i++l.drop i
theorem rJ{α:Type}(l:ax α)(g:aG->α->α)(i:aG)(h:i<=l.length):(oq l g i).length=l.length:=by unfold oq;simp;omega
theorem yT{α:Type}(l:ax α)(g:aG->α->α)(i:aG)(h:i<l.length)(h2:i<(oq l g i).length):(oq l g i)[i]=l[i]:=by
 have e:(oq l g i)[i]? =ah l[i]:=by unfold oq;rw[cT (by simp;omega)];simp[show min i l.length=i by omega]
 rw[qD h2]at e;exact aD e
theorem vg{α:Type}(l:ax α)(g:aG->α->α)(i:aG)(h:i<l.length):(oq l g i).set i (g i l[i])=oq l g (i+1):=by
 unfold oq;have hl:((l.mapIdx g).take i).length=i:=by simp;omega
 rw[List.set_append_right _ _ (by omega),hl,Ye,cQ h,List.set_cons_zero,cj (by simpa using h),bY];simp
theorem Ea{α:Type}(l:ax α)(g:aG->α->α):oq l g 0=l:=by unfold oq;simp
theorem rI{α:Type}(l:ax α)(g:aG->α->α):oq l g l.length=l.mapIdx g:=by unfold oq;rw[cU,dv,gb (by simp)]
theorem vh{α R:Type}(f:α->ax CV)(l:ax α)(g:aG->α->α)(F:aG->aG->Row->aA R)(K:Row->aA R)
  (hS:∀m i (L:ax α) (h:i<l.length) (h2:i<L.length),L.length=l.length->L[i]=l[i]->F (m+1) i (L.map f)=F m (i+1) ((L.set i (g i l[i])).map f))
  (hE:∀m (L:ax α),L.length=l.length->F (m+1) l.length (L.map f)=K (L.map f)) (n:aG) (hn:l.length<n):F n 0 (l.map f)=K ((l.mapIdx g).map f):=by
 have:=jO l.length F (λi=>(oq l g i).map f) (K ((l.mapIdx g).map f)) (λm i h=>by
  have h1:=rJ l g i (by omega);rw[hS m i (oq l g i) h (by omega) h1 (yT l g i h (by omega)),vg l g i h]) (λm=>by
  rw[hE m _ (rJ l g _ (bR _)),rI]) n 0 (bC _) (by omega)
 rw[show l.map f=(oq l g 0).map f by rw[Ea]];exact this
end Go.FG.Lib

namespace Go.FG.Lib
instance:Inhabited En:=⟨⟨⟨#[]⟩,0,0,⟨#[]⟩⟩⟩
instance:Inhabited Fe:=⟨⟨⟨#[]⟩,⟨#[]⟩,0,0,0⟩⟩
instance:Inhabited Cl:=⟨⟨0,⟨#[]⟩,0,0,0,⟨#[]⟩,0⟩⟩
instance:Inhabited Fi:=⟨⟨⟨#[]⟩,⟨#[]⟩,0⟩⟩
def el{α:Type}[Inhabited α](l:ax α)(i:aG):α:=l.getD i default
theorem fy{α:Type}[Inhabited α]{l:ax α}{i:aG}(h:i<l.length):el l i=l[i]:=by unfold el;simp[e6,h]
theorem kO{α:Type}[Inhabited α]{l:ax α}{i:aG}(h:i<l.length):el l i∈l:=by rw[fy h];exact bH h
theorem fQ{α:Type}[Inhabited α](f:α->ax CV)(l:ax α)(i j:aG)(h:i<l.length):au (l.map f) i j=(f (el l i)).getD j (.b ao):=by rw[fF f l i j h,fy h]
theorem xX{l:ax En}{i:aG}(h:i<l.length):au (re l) i 0=CV.s (el l i).k:=fQ _ l i 0 h
theorem AQ{l:ax En}{i:aG}(h:i<l.length):au (re l) i 1=CV.i ar (el l i).st:=fQ _ l i 1 h
theorem AR{l:ax En}{i:aG}(h:i<l.length):au (re l) i (1+1)=CV.i ar (el l i).li:=fQ _ l i 2 h
theorem AU{l:ax En}{i:aG}(h:i<l.length):au (re l) i (1+1+1)=CV.s (el l i).bo:=fQ _ l i 3 h
theorem Ru{l:ax Fe}{i:aG}(h:i<l.length):au (rf l) i 0=CV.s (el l i).k:=fQ _ l i 0 h
theorem Rv{l:ax Fe}{i:aG}(h:i<l.length):au (rf l) i 1=CV.s (el l i).t:=fQ _ l i 1 h
theorem wf2{l:ax Fe}{i:aG}(h:i<l.length):au (rf l) i (1+1)=CV.i ar (el l i).sta:=fQ _ l i 2 h
theorem Iq{l:ax Fe}{i:aG}(h:i<l.length):au (rf l) i 2=CV.i ar (el l i).sta:=fQ _ l i 2 h
theorem wf3{l:ax Fe}{i:aG}(h:i<l.length):au (rf l) i (1+1+1)=CV.i ar (el l i).li:=fQ _ l i 3 h
theorem wf4{l:ax Fe}{i:aG}(h:i<l.length):au (rf l) i (1+1+1+1)=CV.i ar (el l i).st:=fQ _ l i 4 h
theorem Rt{l:ax Cl}{i:aG}(h:i<l.length):au (rc l) i 0=CV.i ar (el l i).id:=fQ _ l i 0 h
theorem wc1{l:ax Cl}{i:aG}(h:i<l.length):au (rc l) i 1=CV.s (el l i).k:=fQ _ l i 1 h
theorem wc2{l:ax Cl}{i:aG}(h:i<l.length):au (rc l) i (1+1)=CV.i ar (el l i).fe:=fQ _ l i 2 h
theorem wc3{l:ax Cl}{i:aG}(h:i<l.length):au (rc l) i (1+1+1)=CV.i ar (el l i).fr:=fQ _ l i 3 h
theorem UD{l:ax Cl}{i:aG}(h:i<l.length):au (rc l) i (1+1+1+1)=CV.i ar (el l i).sta:=fQ _ l i 4 h
theorem UE{l:ax Cl}{i:aG}(h:i<l.length):au (rc l) i (1+1+1+1+1)=CV.s (el l i).got:=fQ _ l i 5 h
theorem UF{l:ax Cl}{i:aG}(h:i<l.length):au (rc l) i (1+1+1+1+1+1)=CV.i ar (el l i).age:=fQ _ l i 6 h
theorem wd0{l:ax Fi}{i:aG}(h:i<l.length):au (rd l) i 0=CV.s (el l i).n:=fQ _ l i 0 h
theorem wd1{l:ax Fi}{i:aG}(h:i<l.length):au (rd l) i 1=CV.s (el l i).t:=fQ _ l i 1 h
theorem wd2{l:ax Fi}{i:aG}(h:i<l.length):au (rd l) i (1+1)=CV.i ar (el l i).kp:=fQ _ l i 2 h
structure Px where
 now:ay
 en:ax En
 w:ax aq
 m:ax aq
 s:ax (ax ay)
 a:ay
 fe:ax Fe
 cl:ax Cl
 hits:ay
structure Px.Fit (p:Px) (n:aG):Prop where
 en:p.en.length<=n
 w:p.w.length<=n
 m:p.m.length<=n
 s:p.s.length<=n/\(∀q∈p.s,q.length<=n)/\(p.s.map bI).sum<=n
 fe:p.fe.length<=n
 cl:p.cl.length<=n
theorem Px.Fit.le{p:Px}{n m:aG}(h:p.Fit n)(hm:n<=m):p.Fit m:=⟨cm h.en hm,cm h.w hm,cm h.m hm,⟨cm h.s.1 hm,λq hq=>cm (h.s.2.1 q hq) hm,cm h.s.2.2 hm⟩,cm h.fe hm,cm h.cl hm⟩
theorem pz{i:aG}(h:0<i)(h2:i<=9223372036854775807):bN ((i:ay)-1)=((i-1:aG):ay):=by rw[dj (by omega) (by omega)];omega
end Go.FG.Lib

namespace Go.FG
namespace Lib
def ap{α β:Type}(f:α->β)(x:α):β:=f x
theorem bq{α R:Type}{o:aA α}{d:α}{g:aA R}{k:α->aA R}(hc:mm o=aj)(h:g=Option.bind o k):g=ap k (Vd o d):=by rw[h,some_ hc (d:=d)];rfl
end Lib
end Go.FG

namespace Go.FG.Lib
theorem Jo{α R:Type}(l:ax α)(p:α->aU)(F0:aG->aG->aA R)(F1:aG->aG->ax α->aA R)(res:ax α->aA R)
  (a1:∀m i (h:i<l.length),p l[i]=aj->F0 (m+1) i=F1 m (i+1) [l[i]]) (a2:∀m i (h:i<l.length),p l[i]=ao->F0 (m+1) i=F0 m (i+1)) (a3:∀m,F0 (m+1) l.length=res [])
  (b1:∀m i acc (h:i<l.length),acc.length<=i->p l[i]=aj->F1 (m+1) i acc=F1 m (i+1) (acc++[l[i]])) (b2:∀m i acc (h:i<l.length),p l[i]=ao->F1 (m+1) i acc=F1 m (i+1) acc) (b3:∀m acc,F1 (m+1) l.length acc=res acc)
  (n:aG) (hn:l.length<n):F0 n 0=res (l.filter p):=by
 have k1:∀d i acc m,l.length-i<=d->i<=l.length->acc.length<=i->d<m->F1 m i acc=res (acc++(l.drop i).filter p):=by
  intro d;induction d with
  |zero=>
   intro i acc m h1 h2 h3 h4;obtain⟨m,rfl⟩:∃m',m=m'+1:=⟨m-1,by omega⟩
   have:i=l.length:=by omega
   subst this;rw[b3,cU];simp
  |succ d ih=>
   intro i acc m h1 h2 h3 h4;obtain⟨m,rfl⟩:∃m',m=m'+1:=⟨m-1,by omega⟩
   by_cases hi:i<l.length
   ·rw[cQ hi];cases hp:p l[i]with
    |true=>rw[b1 m i acc hi h3 hp,ih (i+1) _ m (by omega) hi (by simp;omega) (by omega),db hp];simp
    |false=>rw[b2 m i acc hi hp,ih (i+1) _ m (by omega) hi (by omega) (by omega),bX (by simp[hp])]
   ·have:i=l.length:=by omega
    subst this;rw[b3,cU];simp
 have k0:∀d i m,l.length-i<=d->i<=l.length->d<m->F0 m i=res ((l.drop i).filter p):=by
  intro d;induction d with
  |zero=>
   intro i m h1 h2 h4;obtain⟨m,rfl⟩:∃m',m=m'+1:=⟨m-1,by omega⟩
   have:i=l.length:=by omega
   subst this;rw[a3,cU];rfl
  |succ d ih=>
   intro i m h1 h2 h4;obtain⟨m,rfl⟩:∃m',m=m'+1:=⟨m-1,by omega⟩
   by_cases hi:i<l.length
   ·rw[cQ hi];cases hp:p l[i]with
    |true=>rw[a1 m i hi hp,k1 d (i+1) _ m (by omega) hi (by simp) (by omega),db hp];simp
    |false=>rw[a2 m i hi hp,ih (i+1) m (by omega) hi (by omega),bX (by simp[hp])]
   ·have:i=l.length:=by omega
    subst this;rw[a3,cU];rfl
 have:=k0 l.length 0 n (by omega) (bC _) hn;rwa[eB]at this
theorem BU{α R:Type}(l:ax α)(p:α->aU)(F1:aG->aG->ax α->aA R)(res:ax α->aA R)(c0:ax α)
  (b1:∀m i acc (h:i<l.length),acc.length<=c0.length+i->p l[i]=aj->F1 (m+1) i acc=F1 m (i+1) (acc++[l[i]])) (b2:∀m i acc (h:i<l.length),p l[i]=ao->F1 (m+1) i acc=F1 m (i+1) acc) (b3:∀m acc,F1 (m+1) l.length acc=res acc)
  (n:aG) (hn:l.length<n):F1 n 0 c0=res (c0++l.filter p):=by
 have k1:∀d i acc m,l.length-i<=d->i<=l.length->acc.length<=c0.length+i->d<m->F1 m i acc=res (acc++(l.drop i).filter p):=by
  intro d;induction d with
  |zero=>
   intro i acc m h1 h2 h3 h4;obtain⟨m,rfl⟩:∃m',m=m'+1:=⟨m-1,by omega⟩
   have:i=l.length:=by omega
   subst this;rw[b3,cU];simp
  |succ d ih=>
   intro i acc m h1 h2 h3 h4;obtain⟨m,rfl⟩:∃m',m=m'+1:=⟨m-1,by omega⟩
   by_cases hi:i<l.length
   ·rw[cQ hi];cases hp:p l[i]with
    |true=>rw[b1 m i acc hi h3 hp,ih (i+1) _ m (by omega) hi (by simp;omega) (by omega),db hp];simp
    |false=>rw[b2 m i acc hi hp,ih (i+1) _ m (by omega) hi (by omega) (by omega),bX (by simp[hp])]
   ·have:i=l.length:=by omega
    subst this;rw[b3,cU];simp
 have:=k1 l.length 0 c0 n (by omega) (bC _) (by omega) hn;rwa[eB]at this
theorem AB{α:Type}(p q:α->aU):∀r:ax α,(∀y∈r,q y= !p y)->r.Pairwise (λy z=>p z=aj->p y=aj)->r.takeWhile p=r.filter p/\r.dropWhile p=r.filter q
 |[],_,_=>⟨rfl,rfl⟩
 |y::r,hq,h=>by
  rw[lu]at h;have hy:=hq y (by simp);cases hp:p y with
  |true=>rw[hp]at hy;obtain⟨i1,i2⟩:=AB p q r (λz hz=>hq z (by simp[hz])) h.2;rw[oL hp,db hp,List.dropWhile_cons_of_pos hp,bX (by rw[hy];simp),i1,i2];exact⟨rfl,rfl⟩
  |false=>
   rw[hp]at hy;have hn:¬p y=true:=by rw[hp];simp
   have ha:∀z∈r,p z=false:=λz hz=>by
    cases Bn:p z with
    |false=>rfl
    |true=>exact b_ (h.1 z hz Bn) hn
   rw[oK hn,bX hn,List.dropWhile_cons_of_neg hn,db (by rw[hy];rfl)];refine⟨?_, ?_⟩
   ·symm;rw[List.filter_eq_nil_iff];intro z hz;rw[ha z hz];simp
   ·congr 1;symm;rw[fX];intro z hz;rw[hq z (by simp[hz]),ha z hz];rfl
end Go.FG.Lib

