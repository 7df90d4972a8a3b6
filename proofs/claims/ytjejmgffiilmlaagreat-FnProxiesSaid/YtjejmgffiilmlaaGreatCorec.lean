/- An evaluator for the part of the language that this program uses, proved sound over the model: states told as values and lists; what an evaluation tells, the call does. No condition. -/
import Derived.Calls
import Derived.Orders
import Derived.Below
import Derived.Laws.AppendOwn
import Derived.Laws.Slices
import Derived.Laws.StructEq
import Derived.Laws.Tables
import Derived.Laws.MakeOwn
import Derived.Laws.IdiomStrings
import Derived.Laws.BytesArg
import Derived.Laws.NewFold
import Derived.SizedLaws
import Derived.Carry
import Derived.ProofKit
import Derived.KernelRfl
import Derived.Laws.Strings
import Derived.Test.YtjejmgffiilmlaaGreatCoreb
set_option linter.unusedVariables false
set_option linter.unusedSimpArgs false
set_option maxRecDepth 100000
open Array renaming length_toList->dm,getElem?_eq_some_iff->dL,toList_extract->g7,getElem?_toList->cF,getD_eq_getD_getElem?->ej,toList_append->uw
open Bool renaming true->ai,and_eq_true->aJ,false->ak,false_eq_true->dg,not_eq_true'->dz,and_true->o0,not_true->aY,not_false->bV
open ByteArray renaming size->gj,size_append->dv,data_extract->fW,size_extract->wG,extract->bR,data_append->lN
open Go renaming Program->cM,Value->bf,World->bD
open Go.ByteArray renaming toList_eq->jQ
open Go.DataW renaming weightsAll->yO,trod->B2,weights->uE,TrodAll->C3,weightsEach->mm
open Go.IntKind renaming i64->ao,u8->bg,wrap->bI
open Go.Value renaming okWide->rq
open Int renaming toNat->aZ,tmod->bL,tdiv->cS,tdiv_eq_ediv_of_nonneg->gF,mul_le_mul_of_nonneg_left->Ap,pow_succ->tK,tmod_eq_emod_of_nonneg->sa
open List renaming getElem?_append_left->dr,getElem?_append_right->cX,getElem?_eq_none->km,mem_singleton->aX,mem_append->a_,length_append->bW,length_take->er,length_drop->eL,length_map->bN,map_append->c8,getElem?_take->dR,getElem?_drop->dJ,getElem?_eq_getElem->eF,mem_cons->cz,getElem?_eq_some_iff->aT,getElem?_of_mem->bX,eq_nil_of_length_eq_zero->fV,getElem?_map->bF,length_eq_one_iff->gG,all_cons->sb,mem_append_left->bU,mem_append_right->bK,append_nil->dN,all_eq_true->bu,append_assoc->ch,map_cons->eW,mem_cons_self->dA,mem_cons_of_mem->cU,getD->jH,drop_eq_getElem_cons->dG,set->ax,length_singleton->bB,beq->db,range'->lI,ext_getElem?->Ts,extract_eq_take_drop->gQ,length->bP,take_add->X3,drop_drop->uF,drop_zero->gd,take_of_length_le->gH
open List.cons renaming injEq->X0,inj->ru
open Nat renaming beq->bn,blt->pO,add_assoc->lB,lt_or_ge->ql,eq_zero_or_pos->B5,eq_of_beq_eq_true->aR,zero_add->bT,blt_eq->zn,mul_le_mul_right->bY,le_trans->c6,ble->e9,le_of_ble_eq_true->cD,add_zero->wY,sub_zero->Cm
open Option renaming some->ah,none->aj,isSome->mT,getD->X4,map_some->h_
open Option.some renaming inj->aD
open Prod.mk renaming inj->bS,injEq->iU
open _root_ renaming ByteArray->aq,Nat->aE,Option->aC,List->ay,cond_true->au,if_pos->bw,Bool->aW,absurd->cE,Array->c_,Int->az,decide_eq_true_eq->bc,of_decide_eq_true->cg,cond_false->aA,decide_eq_true->aF,if_neg->bH,congrArg->kX,decide_eq_decide->cf,UInt8->F_,decide_eq_false->aK
namespace Go.FG
open Go.RowKit Go.ChangeShapes
inductive qy (T:Tab):CV->Prop
 |i (k n):(Lit.int k n).wf=ai->qy T (.i k n)
 |b (x):qy T (.b x)
 |s (x:aq):x.size<=140737488351232->qy T (.s x)
 |l (e xs ti):T.ty e=ah ti->xs.length*ti.bytes<=140737488351232->(∀y∈xs,y.map CV.kd=ti.ks)->(∀y∈xs,∀x∈y,qy T x)->qy T (.l e xs)
def Nf(P:cM)(g:aE->aC (ay Ck)):ay Field->aE->aC (ay Ck)
 |[],_=>ah []
 |f::r,off=>match g f.type with
  |some ks=>bif bn f.offset off&&bn (P.cellsOf f.type) ks.length then(match Nf P g r (off+ks.length)with|some l=>ah (ks++l)|none=>aj)else aj
  |none=>aj
def Nd(P:cM)(T:Tab):aE->aE->aC (ay Ck)
 |0,_=>aj
 |n+1,t=>match P.underlying t with
  |some (.int k)=>ah [.i k]
  |some .bool=>ah [.b]
  |some .string=>ah [.s]
  |some (.slice e)=>match T.ty e,Nd P T n e with
   |some te,ah ks=>bif pF ks te.ks&&bn te.bytes (P.bytesOf e)&&bn (P.cellsOf e) ks.length&&pO 0 ks.length then ah [.l e]else aj
   |_,_=>aj
  |some (.struct fs)=>match Nf P (Nd P T n) fs.toList 0 with
   |some ks=>bif bn (P.cellsOf t) ks.length then ah ks else aj
   |none=>aj
  |_=>aj
def Gy:CV->AA
 | .i k n=> .i k n| .b x=> .b x| .s x=> .s x| .l e xs=> .sh e xs
section
variable {H:Type} {enc:TypeId×bf->H} {P:cM} {T:Tab} {w:bD}
def Ah(w:bD):aE->Prop:=λb=>b<w.heap.size
structure vq (T:Tab) (w:bD) (cs:ay bf) (off:aE) (ys:ay CV) (ks:ay Ck):Prop where
 kd:ys.map CV.kd=ks
 at_:∀(j:aE) (y:CV),ys[j]? =ah y->∃v,cs[off+j]? =ah v/\cT T w (Ah w) v y
 fine:∀y∈ys,qy T y
theorem PN(a:Addr)(m k:aE):(a.add m).add k=a.add (m+k):=by
 unfold Addr.add;by_cases h1:m=0<;>by_cases h2:k=0
 ·simp[h1,h2]
 ·simp[h1,h2]
 ·simp[h1,h2]
 ·simp[h1,h2,lB]
theorem abj(b o n:aE):(ad b o).add n=ad b (o+n):=by unfold Addr.add;by_cases h:n=0<;>simp[h]
theorem yT{α:Type}{p:aE->α->Prop}:∀n:aE,(∀i,i<n->∃y,p i y)->∃xs:ay α,xs.length=n/\∀(i:aE) (y:α),xs[i]? =ah y->p i y
 |0,_=>⟨[],rfl,λi y h=>by simp at h⟩
 |n+1,h=>by
  obtain⟨xs,h1,h2⟩:=yT n (λi hi=>h i (by omega));obtain⟨y,hy⟩:=h n (by omega);refine⟨xs++[y],by simp[h1],λi z hz=> ?_⟩
  rcases ql i xs.length with hi|hi
  ·rw[dr hi]at hz;exact h2 i z hz
  ·rw[cX hi]at hz;have:i-xs.length=0:=by
    rcases B5 (i-xs.length)with h|h
    ·exact h
    ·rw[km (by simp;omega)]at hz;cases hz
   rw[this]at hz;cases hz;have:i=n:=by omega
   subst this;exact hy
theorem sJ{v:bf}{y:CV}{k:Ck}(hk:y.kd=k)(hh:cT T w (Ah w) v y)(hf:qy T y):vq T w [v] 0 [y] [k] where
 kd:=by simp[hk]
 at_ j y' hj:=by
  cases j with
  |zero=>cases hj;exact⟨v,rfl,hh⟩
  |succ j=>simp at hj
 fine y' hy:=by rw[aX]at hy;subst hy;exact hf
theorem sV{e:TypeId}:∀{ds:ay (DataW H)} {i:aE} {d:DataW H},ds[i]? =ah d->∀n∈d.weights P e,n∈yO P e ds
 |[],_,_,h,_,_=>by simp at h
 |d0::ds,0,d,h,n,hn=>by cases h;simp only[yO,a_];exact .inl hn
 |d0::ds,i+1,d,h,n,hn=>by simp only[yO,a_];exact .inr (sV (ds:=ds) (i:=i) h n hn)
theorem MS{g:aE->aC (ay Ck)}{cs:ay bf}
  (hg:∀t ks,g t=ah ks->∀(fuel:aE) (cs:ay bf) (x:DataW H×ay MemPlace) sp hd,B2 enc P w 0 sp hd fuel t cs=ah x->(∀m∈x.1.weights P t,m<=reachBytes)->cs.length=P.cellsOf t->∃ys,vq T w cs 0 ys ks):
  ∀(fs:ay Field) (off:aE) (ks:ay Ck),Nf P g fs off=ah ks->off+ks.length<=cs.length->∀(xs:ay (DataW H×ay MemPlace)) (fuel:aE) sp hd,xs.length=fs.length->
   (∀(i:aE) (f:Field),fs[i]? =ah f->B2 enc P w 0 sp hd fuel f.type ((cs.drop f.offset).take (P.cellsOf f.type))=xs[i]?)->
   (∀(i:aE) (f:Field) x,fs[i]? =ah f->xs[i]? =ah x->∀m∈x.1.weights P f.type,m<=reachBytes)->∃ys,vq T w cs off ys ks:=by
 intro fs;induction fs with
 |nil=>intro off ks h _ xs fuel sp hd _ _ _;cases h;exact⟨[],⟨rfl,λj y hj=>by simp at hj,λy hy=>by cases hy⟩⟩
 |cons f fs ih=>
  intro off ks h hlen xs fuel sp hd Vd N4 hwt;unfold Nf at h;cases hgf:g f.type with
  |none=>rw[hgf]at h;cases h
  |some k1=>
   rw[hgf]at h;dsimp only at h;cases hb:(bn f.offset off&&bn (P.cellsOf f.type) k1.length)with
   |false=>rw[hb]at h;cases h
   |true=>
    rw[hb,au]at h;simp only[aJ]at hb;have e1:=aR hb.1;have e2:=aR hb.2;cases hr:Nf P g fs (off+k1.length)with
    |none=>rw[hr]at h;cases h
    |some k2=>
     rw[hr]at h;have h:k1++k2=ks:=by injection h
     subst h;rw[bW]at hlen;cases xs with
     |nil=>simp at Vd
     |cons x xs=>
      have h0:=N4 0 f rfl;rw[show(x::xs)[0]? =ah x from rfl]at h0;obtain⟨y1,c1⟩:=hg _ _ hgf fuel _ x sp hd h0 (hwt 0 f x rfl rfl) (by rw[er,eL];omega);obtain⟨y2,c2⟩:=ih (off+k1.length) k2 hr (by omega) xs fuel sp hd (by simpa using Vd) (λi f' hf=>N4 (i+1) f' hf) (λi f' x' hf hx=>hwt (i+1) f' x' hf hx);have Lm:y1.length=k1.length:=by rw[<-c1.kd,bN]
      refine⟨y1++y2,⟨by rw[c8,c1.kd,c2.kd],λj y hj=> ?_,λy hy=> ?_⟩⟩
      ·rcases ql j y1.length with js|js
       ·rw[dr js]at hj;obtain⟨v,hv,hh⟩:=c1.at_ j y hj;refine⟨v, ?_,hh⟩
        rw[bT,dR,bw (by omega),dJ,e1]at hv;exact hv
       ·rw[cX js]at hj;obtain⟨v,hv,hh⟩:=c2.at_ _ y hj;refine⟨v, ?_,hh⟩
        rw[show off+k1.length+(j-y1.length)=off+j by omega]at hv;exact hv
      ·rcases a_.1 hy with hy|hy
       ·exact c1.fine y hy
       ·exact c2.fine y hy
theorem Bv(hE:d_ P T):∀(n t:aE) (ks:ay Ck),Nd P T n t=ah ks->∀(fuel:aE) (cs:ay bf) (x:DataW H×ay MemPlace) sp hd,B2 enc P w 0 sp hd fuel t cs=ah x->(∀m∈x.1.weights P t,m<=reachBytes)->cs.length=P.cellsOf t->∃ys,vq T w cs 0 ys ks:=by
 intro n;induction n with
 |zero=>intro t ks h;cases h
 |succ n ih=>
  intro t ks h fuel cs x sp hd N4 hwt nM;unfold Nd at h;split at h
  ·rename_i k hu;cases h;obtain⟨m,rfl,rfl,hwf⟩:=DataW.trod_int hu N4;exact⟨[.i k m],sJ rfl (.i _ _) (.i _ _ hwf)⟩
  ·rename_i hu;cases h;obtain⟨m,rfl,rfl⟩:=DataW.trod_bool hu N4;exact⟨[.b m],sJ rfl (.b _) (.b _)⟩
  ·rename_i hu;cases h;obtain⟨m,rfl,rfl,hmx⟩:=DataW.trod_string hu N4;have hz:m.size<=140737488351232:=by have:=hwt m.data.toList.length (by simp[uE]);rw[dm]at this;exact this
   exact⟨[.s m],sJ rfl (.s _ (show m.size<=4611686018427387904 by omega)) (.s _ hz)⟩
  ·rename_i e hu;split at h
   ·rename_i te ke JB hke;cases hb:(pF ke te.ks&&bn te.bytes (P.bytesOf e)&&bn (P.cellsOf e) ke.length&&pO 0 ke.length)with
    |false=>rw[hb]at h;cases h
    |true=>
     rw[hb]at h;cases h;simp only[aJ]at hb;obtain⟨⟨⟨b1,b2⟩,b3⟩,b4⟩:=hb;have e1:=nc b1;have e2:=aR b2;have e3:=aR b3;have e4:0<ke.length:=by simpa [zn]using b4
     subst e1;rcases DataW.trod_slice hu N4 with ⟨rfl,rfl⟩|⟨a,len,cap,elems,rest,m,rfl,rfl,rfl,_,hlc,UX,TL,fG,_,_⟩
     ·exact⟨[.l e []],sJ rfl (.nl _ _ _) (.l e [] te JB (by simp) (λy hy=>by cases hy) (λy hy=>by cases hy))⟩
     ·have hwl:len*te.bytes<=140737488351232:=by have:=hwt ((elems.length+rest.length)*P.bytesOf e) (by simp[uE,hu]);rw[<-e2,TL]at this;have h2:len*te.bytes<=(len+rest.length)*te.bytes:=bY _ (by omega);exact c6 h2 this
      have one:∀i,i<len->∃ys:ay CV,(∀(j:aE) (y:CV),ys[j]? =ah y->∃v,w.cell? (a.add (i*te.ks.length+j))=ah v/\cT T w (Ah w) v y)/\ys.map CV.kd=te.ks/\∀y∈ys,qy T y:=by
       intro i hi;have h1:=fG i hi;have kZ:i<elems.length:=by omega
       rw[eF kZ]at h1;cases hc:w.cells? 0 (a.add (i*P.cellsOf e)) (P.cellsOf e)with
       |none=>rw[hc]at h1;cases h1
       |some cs=>
        rw[hc]at h1;have h1:B2 enc P w 0 sp hd m e cs=ah elems[i]:=h1;obtain⟨_,nM,hcell⟩:=World.cells?_some hc;obtain⟨ys,c⟩:=ih e te.ks hke m cs _ sp hd h1 (λz hz=>hwt z (by simp only[uE,hu,cz,a_];exact .inr (.inl (sV (i:=i) (d:=elems[i].1) (by simp[kZ]) z hz)))) nM;refine⟨ys,λj y hj=> ?_,c.kd,c.fine⟩
        obtain⟨v,hv,hh⟩:=c.at_ j y hj;rw[bT]at hv;have js:=(aT.1 hv).1;have:=hcell j (by omega);rw[hv]at this;refine⟨v, ?_,hh⟩
        rw[<-e3];rw[<-PN];exact this
      obtain⟨xs,Vd,hx⟩:=yT len one;have afM:qy T (.l e xs):=by
       refine .l e xs te JB (by rw[Vd];exact hwl) (λy hy=> ?_) (λy hy=> ?_)
       ·obtain⟨i,hi⟩:=bX hy;exact(hx i y hi).2.1
       ·obtain⟨i,hi⟩:=bX hy;exact(hx i y hi).2.2
      refine⟨[.l e xs],sJ rfl ?_ afM⟩
      rcases B5 len with h0|h0
      ·have:xs=[]:=fV (by omega);subst this;rw[h0];exact .nl _ _ _
      ·have hx0:xs[0]? =ah xs[0]:=by rw[eF (by omega)]
       obtain⟨c0,k0,_⟩:=hx 0 _ hx0;have hy0:0<(xs[0]).length:=by rw[<-bN (f:=CV.kd),k0];exact e4
       obtain⟨v0,N5,_⟩:=c0 0 _ (eF hy0);obtain⟨b,o,s⟩:=a;have hs:s=aj/\b<w.heap.size:=by
        unfold World.cell? at N5;have e0:(Addr.mk b o s).add (0*te.ks.length+0)=⟨b,o,s⟩:=by simp[Addr.add]
        rw[e0]at N5;split at N5
        ·rename_i hh;refine⟨?_,(dL.1 hh).1⟩
         cases s with
         |none=>rfl
         |some s=>simp at N5
        ·cases N5
       obtain⟨rfl,hbl⟩:=hs;let U:aE->aE->bf:=λi j=>(w.cell? (ad b (o+i*te.ks.length+j))).getD undef;have ar:∀i j y z,xs[i]? =ah y->y[j]? =ah z->w.cell? (ad b (o+i*te.ks.length+j))=ah (U i j)/\cT T w (Ah w) (U i j) z:=by
        intro i j y z hi hj;obtain⟨v,hv,hh⟩:=(hx i y hi).1 j z hj;have hv:w.cell? ((ad b o).add (i*te.ks.length+j))=ah v:=hv;rw[abj,<-lB]at hv;have:U i j=v:=by simp only[U,hv];rfl
        rw[this];exact⟨hv,hh⟩
       rw[<-Vd];exact .l e xs b o cap te U JB (by omega) UX hbl (λy hy=>by obtain⟨i,hi⟩:=bX hy;exact(hx i y hi).2.1) (λi j y z hi hj=>(ar i j y z hi hj).1) (λi j y z hi hj=>(ar i j y z hi hj).2)
   ·cases h
  ·rename_i fs hu;obtain⟨xs,m,rfl,rfl,ab0,Vd,hf⟩:=DataW.trod_struct hu N4;cases hlf:Nf P (Nd P T n) fs.toList 0 with
   |none=>rw[hlf]at h;cases h
   |some ks'=>
    rw[hlf]at h;obtain⟨hb,rfl⟩:=Df h;refine MS ih fs.toList 0 _ hlf ?_ xs m sp hd (by simpa using Vd) (λi f hi=>hf i f (by simpa using hi)) (λi f x hi hx z hz=>hwt z ?_)
    ·have:=aR hb;omega
    ·simp only[uE,hu];refine DataW.weights_mem_each (j:=i) (t:=f.type) (d:=x.1) ?_ ?_ z hz
     ·rw[bF,hi];rfl
     ·rw[bF,hx];rfl
  ·cases h
end
end Go.FG

namespace Go.FG
open Go.RowKit Go.ChangeShapes
def nz(T:Tab):ay aE->ay (ay CV)->ay eQ
 |t::ts,ys::rh=>eQ.v (match T.ty t with|some ti=>ti.agg|none=>ak) (ys.map Gy)::nz T ts rh
 |_,_=>[]
def oq(T:Tab):ay aE->ay (ay CV)->Prop
 |[],[]=>True
 |t::ts,ys::rh=>(∃ti,T.ty t=ah ti/\ys.map CV.kd=ti.ks)/\(∀y∈ys,qy T y)/\oq T ts rh
 |_,_=>False
def Nv(P:cM)(T:Tab)(n:aE)(t:aE):aW:=
 match T.ty t,Nd P T n t,P.underlying t with
 |some ti,ah ks,ah d=>pF ks ti.ks&&(match d with| .struct _=>ti.agg| .array _ _=>ak|_=> !ti.agg)&&P.readableRec t&&decide (t<P.types.size)
 |_,_,_=>ak
theorem abh{T:Tab}{w:bD}{c:eJ}(hc:∀b,Ah w b->c.K b){v:bf}{y:CV}(h:cT T w (Ah w) v y)(nm:aE):ea T w c (kK nm (Gy y)) v:=by
 have h:cT T w c.K v y:=h.frame (λ_ _=>rfl) hc;cases y with
 |i k n=>cases h;rfl
 |b x=>cases h;rfl
 |s x=>cases h with|s _ ho=>exact⟨rfl,ho⟩
 |l e xs=>exact h
section
variable {H:Type} {enc:TypeId×bf->H} {P:cM} {T:Tab} {w:bD}
theorem abr(hE:d_ P T){n t:aE}(hp:Nv P T n t=ai){v:bf}{d:DataW H}{ps:ay MemPlace}{sp:aE->aW}{hd:aW}{base:aE}(hv:rq P w .any base t v)(h:DataW.Trod enc P w 0 sp hd t v d ps)(hw:∀m∈d.weights P t,m<=reachBytes):
  ∃ys:ay CV,(∃ti,T.ty t=ah ti/\ys.map CV.kd=ti.ks)/\(∀y∈ys,qy T y)/\∀c:eJ,(∀b,Ah w b->c.K b)->∀p,iW T w c (sF p (eQ.v (match T.ty t with|some ti=>ti.agg|none=>ak) (ys.map Gy))) v:=by
 unfold Nv at hp;split at hp
 ·rename_i ti ks dd ht hl hu;simp only[aJ]at hp;obtain⟨⟨⟨h1,h2⟩,_⟩,_⟩:=hp;have e1:=nc h1;subst e1;obtain⟨fuel,N4⟩:=h;obtain⟨inf,hi,fH,_⟩:=hE.info t ti ht;have hct:P.cellsOf t=ti.ks.length:=by unfold Program.cellsOf;rw[hi];exact fH
  have cell:∀(ys:ay CV) (cs:ay bf),vq T w cs 0 ys ti.ks->∀c:eJ,(∀b,Ah w b->c.K b)->∀(p j:aE) (a:AV),(gf (dK p 0) (ys.map Gy))[j]? =ah a->∃u:bf,cs[j]? =ah u/\ea T w c a u:=by
   intro ys cs hc c hK p j a hj;rw[ie,bF]at hj;cases hy:ys[j]? with
   |none=>rw[hy]at hj;cases hj
   |some y=>rw[hy]at hj;cases hj;obtain⟨u,rA,hh⟩:=hc.at_ j y hy;rw[bT]at rA;exact⟨u,rA,abh hK hh _⟩
  cases td:ti.agg with
  |true=>
   have Jz:∃fs,dd= .struct fs:=by cases dd<;>simp[td]at h2;exact⟨_,rfl⟩
   obtain⟨fs,rfl⟩:=Jz;unfold rq at hv;rw[hu]at hv;obtain⟨cs,rfl,B_,_⟩:=hv;obtain⟨ys,hc⟩:=Bv hE n t ti.ks hl fuel cs.toList (d,ps) sp hd N4 hw (by simpa using B_);refine⟨ys,⟨ti,ht,hc.kd⟩,hc.fine,λc hK p=> ?_⟩
   rw[ht];show pD T w c ti.agg (gf (dK p 0) (ys.map Gy)) _;rw[td];refine⟨cs,rfl, ?_,λj a hj=> ?_⟩
   ·rw[iB,bN,B_,hct,<-hc.kd,bN]
   ·obtain⟨u,rA,ha⟩:=cell ys cs.toList hc c hK p j a hj;exact⟨u,by simpa using rA,ha⟩
  |false=>
   have Jz:∀fs,dd≠ .struct fs:=by intro fs he;subst he;simp[td]at h2
   have har:∀m e,dd≠ .array m e:=by intro m e he;subst he;cases h2
   have hcell:Cell.okWide P w .any base t v:=by
    unfold rq at hv;rw[hu]at hv;split at hv
    ·rename_i fs he;cases he;exact cE rfl (Jz fs)
    ·rename_i m e he;cases he;exact cE rfl (har m e)
    ·exact hv
   have v5:v.cells= #[v]:=by
    cases v<;>first|rfl|skip
    rename_i cs;exfalso;unfold Cell.okWide at hcell;rw[hu]at hcell;cases dd<;>simp[Cell.ok,hu]at hcell
   obtain⟨dd',hu2,_,hn⟩:=hE.desc t ti ht;have h1:ti.ks.length=1:=by rcases hn td with ⟨k,h,_⟩|⟨h,_⟩|⟨h,_⟩|⟨e',h,_⟩|⟨h,_⟩<;>simp[h]
   rw[v5]at N4;obtain⟨ys,hc⟩:=Bv hE n t ti.ks hl fuel [v] (d,ps) sp hd N4 hw (by rw[hct,h1];rfl);have Fc:ys.length=1:=by rw[<-bN (f:=CV.kd),hc.kd,h1]
   obtain⟨y,rfl⟩:=gG.1 Fc;refine⟨[y],⟨ti,ht,hc.kd⟩,hc.fine,λc hK p=> ?_⟩
   rw[ht];show pD T w c ti.agg [kK (dK p 0) (Gy y)] _;rw[td];obtain⟨u,rA,ha⟩:=cell [y] [v] hc c hK p 0 _ rfl;cases rA;exact ha
 ·cases hp
theorem Ut(hE:d_ P T){n:aE}{sp:aE->aW}{hd:aW}{base:aE}:∀{ts:ay aE} {vs:ay bf} {ds:ay (DataW H)} {ps:ay MemPlace},ts.all (Nv P T n)=ai->
  C3 enc P w 0 sp hd ts vs ds ps->(∀(j:aE) t v,ts[j]? =ah t->vs[j]? =ah v->rq P w .any base t v)->(∀m∈mm P ts ds,m<=reachBytes)->
  ∃rh,oq T ts rh/\vs.length=(nz T ts rh).length/\ds.length=ts.length/\∀c:eJ,(∀b,Ah w b->c.K b)->∀(q p:aE) (x:eQ),(nz T ts rh)[p]? =ah x->∃v,vs[p]? =ah v/\iW T w c (sF (q+p) x) v:=by
 intro ts;induction ts with
 |nil=>intro vs ds ps _ h _ _;obtain⟨rfl,rfl,rfl⟩:=trodAll_nil h;exact⟨[],trivial,rfl,rfl,λc _ q p x h=>by simp[nz]at h⟩
 |cons t ts ih=>
  intro vs ds ps hp h b7 hw;simp only[sb,aJ]at hp;obtain⟨v,vs,d,ds,p,q,rfl,rfl,rfl,h0,r0⟩:=trodAll_cons h;obtain⟨ys,y1,y2,y3⟩:=abr hE hp.1 (b7 0 t v rfl rfl) h0 (λm hm=>hw m (by simp only[mm,a_];exact .inl hm));obtain⟨rh,z1,z2,z4,z3⟩:=ih hp.2 r0 (λj t v hj hv=>b7 (j+1) t v hj hv) (λm hm=>hw m (by simp only[mm,a_];exact .inr hm));refine⟨ys::rh,⟨y1,y2,z1⟩,by simp[nz,z2],by simp[z4],λc hK q p x hx=> ?_⟩
  cases p with
  |zero=>cases hx;exact⟨v,rfl,y3 c hK q⟩
  |succ p=>obtain⟨v',h1,h2⟩:=z3 c hK (q+1) p x hx;exact⟨v',h1,by rw[show q+(p+1)=q+1+p by omega];exact h2⟩
theorem nb{m:aE}{ob:Obj}:∀{ts:ay aE} {rh:ay (ay CV)},inj (nz T ts rh) (cR m)≠ .o ob:=by
 intro ts rh h;obtain⟨p,a,h0,hh⟩:=zY h;have:∀(ts:ay aE) (rh:ay (ay CV)) (p:aE) (a:eQ),(nz T ts rh)[p]? =ah a->∃(g:aW) (ys:ay CV),a= .v g (ys.map Gy):=by
  intro ts;induction ts with
  |nil=>intro rh p a h;simp[nz]at h
  |cons t ts ih=>
   intro rh p a h;cases rh with
   |nil=>simp[nz]at h
   |cons ys rh=>
    cases p with
    |zero=>cases h;exact⟨_,ys,rfl⟩
    |succ p=>exact ih rh p a h
 obtain⟨g,ys,rfl⟩:=this _ _ _ _ h0;rcases hh with ⟨xs,h1,_⟩|⟨xs,j,e,ex,zs,h1,h2,_⟩
 ·cases h1
 ·have h1:ys.map Gy=xs:=by rcases h1 with ⟨g',h1⟩|h1<;>cases h1;rfl
  subst h1;rw[bF]at h2;cases hy:ys[j]? with
  |none=>rw[hy]at h2;cases h2
  |some y=>rw[hy]at h2;cases y<;>cases h2
theorem FP(hl:laidOutB P=ai){W':bD}(hb:Below w.heap.size w W'){n:aE}:∀{ts:ay aE} {vs:ay bf} {ds:ay (DataW H)} {ps:ay MemPlace},ts.all (Nv P T n)=ai->C3 enc P w 0 (λ_=>ai) ai ts vs ds ps->(∀x∈ps,x.block<w.heap.size)->
  C3 enc P W' 0 (λb=>decide (b<w.heap.size)) ai ts vs ds ps:=by
 intro ts;induction ts with
 |nil=>intro vs ds ps _ h _;obtain⟨rfl,rfl,rfl⟩:=trodAll_nil h;exact h
 |cons t ts ih=>
  intro vs ds ps hp h jt;simp only[sb,aJ]at hp;obtain⟨v,vs,d,ds,p,q,rfl,rfl,rfl,h0,r0⟩:=trodAll_cons h;have M_:=hp.1;unfold Nv at M_;split at M_
  ·simp only[aJ]at M_;exact⟨p,q,Below.trod hl M_.1.2 (by simpa using M_.2) h0 hb (λx hx=>jt x (bU _ hx)),ih hp.2 r0 (λx hx=>jt x (bK _ hx)),rfl⟩
  ·cases M_
end
theorem Fj{H:Type}{enc:TypeId×bf->H}{C:Checked}{T:Tab}(hE:d_ C.prog T)(hl:laidOutB C.prog=ai){g tb n:aE}{fn:Func}{spec:ay eQ->aC (aW×dE)}(hF:k_ C.prog T g spec){s:ChangeSpec}
  (af7:fn.params.toList.all (Nv C.prog T n)=ai) (an5:fn.resultTypes= #[tb]) (htb:C.prog.underlying tb=ah .bool) (QF:s.vars=[])
  (hfn:∀ds:ay (DataW H),ds.length=fn.params.toList.length->s.fn H ds={results:=[.lit (.bool ai)],args:=ds})
  (claim:∀rh,oq T fn.params.toList rh->spec (nz T fn.params.toList rh)=ah (ai,⟨[.v ak [.b ai]],[]⟩))
  (W:bD) (base:aE) (args:c_ bf) (ds gs:ay (DataW H)) (before:ay MemPlace)
  (hval:∀(j:aE) t v,fn.params[j]? =ah t->args[j]? =ah v->rq C.prog W .any base t v)
  (hW:DataW.Whole enc C.prog fn.params.toList s.vars ak W args.toList ds gs before)
  (fH:(mm C.prog (fn.params.toList++s.plain.varTypes C.prog) (ds++gs)).all (·<=reachBytes)=ai) (hgp:T.gp.f W (Ah W)):
  Calls C.prog g args W λe W'=>∃v,e= .returned v/\s.post enc C.prog fn ak ai ak ak W args v W':=by
 have hW':=hW;obtain⟨p,q,hA,hV,rfl,hfz,Hh⟩:=hW;have jt:=hW'.lt;rw[QF]at hV;have hgs:gs=[]/\q=[]:=by
  cases gs with
  |nil=>exact⟨rfl,hV⟩
  |cons=>exact hV.elim
 obtain⟨rfl,rfl⟩:=hgs;have hw:∀m∈mm C.prog fn.params.toList ds,m<=reachBytes:=by
  intro m hm;rw[dN]at fH;have e:s.plain.varTypes C.prog=[]:=by unfold DataSpec.varTypes ChangeSpec.plain;simp[QF]
  rw[e,dN]at fH;have:=bu.1 fH m hm;simpa using this
 obtain⟨rh,U_,hlen,hdl,ry⟩:=Ut hE af7 hA (λj t v hj hv=>hval j t v (by simpa using hj) (by simpa using hv)) hw;let nl:Pl:=⟨ai,0,0,0,0,0⟩
 let c1:eJ:=⟨λ_=>nl,λ_ _ _=>nl,Ah W⟩
 have b7:Ok T (inj (nz T fn.params.toList rh)) W c1:=⟨λnm o h=>cE h nb,λnm o wb o' b h=>cE h nb,λnm o b h=>cE h nb,λb hb=>hb,λnm xs h=>cE h nb,hgp⟩
 obtain⟨_,hc⟩:=hF _ _ (claim rh U_) W c1 args b7 (by rw[<-hlen];simp) (λp x hx=>by obtain⟨v,h1,h2⟩:=ry c1 (λ_ h=>h) 0 p x hx;rw[bT]at h2;exact⟨v,by simpa using h1,h2⟩);refine hc.mono λe W' hR=> ?_;cases e with
 |panicked=>exact hR.elim
 |outgrown=>exact hR.elim
 |returned v=>
  obtain⟨c3,_,wL,_,wN⟩:=hR;have hv:v= .bool true:=wN;subst hv;have hb:Below W.heap.size W W':=⟨wL.os,wL.tape,wL.output,wL.size,λk hk=>wL.same k hk (λ⟨nm,o,h,_⟩=>nb h)⟩
  have QD:=hfn ds hdl;refine⟨_,rfl,ds,[],_,[],p,[],hW', ?_, ?_, ?_,hb.frame _,λh=>by cases h⟩
  ·rw[dN,QD,an5];exact trodAll_mk1 (shut_bool htb _)
  ·rw[dN,QD];exact FP hl hb af7 hA (λx hx=>jt x (bU _ hx))
  ·rw[dN,QD,QF];rfl
end Go.FG

namespace Go.FG
def iL(s:aq)(i:aE):aE:=(s.data.getD i 0).toNat
abbrev bJ(x:az):az:=ao.wrap x
inductive gu where
 |I (n:az)|B (x:aW)|S (x:aq)|R (xs:aU)|N (n:aE)
def gI:ay gu->az| .I n::_=>n|_=>0
def gB:ay gu->aW| .B n::_=>n|_=>ak
def gS:ay gu->aq| .S n::_=>n|_=>⟨#[]⟩
def gR:ay gu->aU| .R n::_=>n|_=>[]
def gN:ay gu->aE| .N n::_=>n|_=>0
def hCV:CV->ay gu
 | .i _ n=>[.I n]| .b x=>[.B x]| .s x=>[.S x]| .l _ xs=>[.R xs]
def sCV:CV->CV->aW
 | .i k _, .i k' _=>decide (k=k')| .b _, .b _=>ai| .s _, .s _=>ai| .l e _, .l e' _=>bn e e'|_,_=>ak
def fCV(s:CV)(l:ay gu):CV×ay gu:=
 match s with
 | .i k _=>(.i k (gI l),l.tail)| .b _=>(.b (gB l),l.tail)| .s _=>(.s (gS l),l.tail)| .l e _=>(.l e (gR l),l.tail)
def G9:ay CV->ay gu|[]=>[]|a::r=>hCV a++G9 r
def FI:ay CV->ay CV->aW|[],[]=>ai|a::r,b::t=>sCV a b&&FI r t|_,_=>ak
def yo:ay CV->ay gu->ay CV×ay gu
 |[],l=>([],l)|a::r,l=>((fCV a l).1::(yo r (fCV a l).2).1,(yo r (fCV a l).2).2)
def Dv:ay (ay CV)->ay gu|[]=>[]|a::r=>G9 a++Dv r
def DM:ay (ay CV)->ay (ay CV)->aW|[],[]=>ai|a::r,b::t=>FI a b&&DM r t|_,_=>ak
def yW:ay (ay CV)->ay gu->ay (ay CV)×ay gu
 |[],l=>([],l)|a::r,l=>((yo a l).1::(yW r (yo a l).2).1,(yW r (yo a l).2).2)
theorem abK{s a:CV}(h:sCV s a=ai)(l:ay gu):fCV s (hCV a++l)=(a,l):=by
 cases s<;>cases a<;>simp only[sCV,bc,dg,Nat.beq_eq]at h<;>first|exact h.elim|skip
 all_goals first|(subst h;rfl)|rfl
theorem vR:∀{s a:ay CV},FI s a=ai->∀l,yo s (G9 a++l)=(a,l)
 |[],[],_,l=>rfl
 |s::ss,a::as,h,l=>by
  simp only[FI,aJ]at h;simp only[yo,G9,ch,abK h.1,vR h.2]
 |[],_::_,h,_=>by cases h
 |_::_,[],h,_=>by cases h
theorem A4:∀{s a:ay (ay CV)},DM s a=ai->∀l,yW s (Dv a++l)=(a,l)
 |[],[],_,l=>rfl
 |s::ss,a::as,h,l=>by
  simp only[DM,aJ]at h;simp only[yW,Dv,ch,vR h.1,A4 h.2]
 |[],_::_,h,_=>by cases h
 |_::_,[],h,_=>by cases h
def hAV:AV->ay gu
 | .i _ n=>[.I n]| .b x=>[.B x]| .s x=>[.S x]| .sh _ xs=>[.R xs]| .vw _ lo hi=>[.N lo, .N hi]| .rp _ i _=>[.N i]
 | .sp _ xs i _=>[.R xs, .N i]| .inn _ i _=>[.N i]| .ip _ i _ i2 _=>[.N i, .N i2]| .fn _ iC=>Dv iC| .fp xs _=>G9 xs|_=>[]
def W7:AV->AV->aW
 | .i k _, .i k' _=>decide (k=k')| .b _, .b _=>ai| .s _, .s _=>ai| .sh e _, .sh e' _=>bn e e'| .nl, .nl=>ai
 | .own n, .own n'=>bn n n'| .vw n _ _, .vw n' _ _=>bn n n'| .bp n j, .bp n' j'=>bn n n'&&bn j j'| .rp n _ j, .rp n' _ j'=>bn n n'&&bn j j'
 | .sp e _ _ j, .sp e' _ _ j'=>bn e e'&&bn j j'| .inn n _ j, .inn n' _ j'=>bn n n'&&bn j j'
 | .ip n _ j _ q, .ip n' _ j' _ q'=>bn n n'&&bn j j'&&bn q q'| .fn f c, .fn f' c'=>bn f f'&&DM c c'| .fp c j, .fp c' j'=>bn j j'&&FI c c'
 |_,_=>ak
def fAV(s:AV)(l:ay gu):AV×ay gu:=
 match s with
 | .i k _=>(.i k (gI l),l.tail)| .b _=>(.b (gB l),l.tail)| .s _=>(.s (gS l),l.tail)| .sh e _=>(.sh e (gR l),l.tail)
 | .vw n _ _=>(.vw n (gN l) (gN l.tail),l.tail.tail)| .rp n _ j=>(.rp n (gN l) j,l.tail)| .sp e _ _ j=>(.sp e (gR l) (gN l.tail) j,l.tail.tail)
 | .inn n _ j=>(.inn n (gN l) j,l.tail)| .ip n _ j _ q=>(.ip n (gN l) j (gN l.tail) q,l.tail.tail)| .fn f c=>(.fn f (yW c l).1,(yW c l).2)| .fp c j=>(.fp (yo c l).1 j,(yo c l).2)
 |a=>(a,l)
def MY:ay AV->ay gu|[]=>[]|a::r=>hAV a++MY r
def J8:ay AV->ay AV->aW|[],[]=>ai|a::r,b::t=>W7 a b&&J8 r t|_,_=>ak
def A3:ay AV->ay gu->ay AV×ay gu
 |[],l=>([],l)|a::r,l=>((fAV a l).1::(A3 r (fAV a l).2).1,(A3 r (fAV a l).2).2)
def UH(a b:aW):aW:=bif a then b else !b
def UT:ay (aW×ay AV)->ay gu|[]=>[]|(_,xs)::r=>MY xs++UT r
def R8:ay (aW×ay AV)->ay (aW×ay AV)->aW
 |[],[]=>ai|(g,xs)::r,(g',ys)::t=>UH g g'&&J8 xs ys&&R8 r t|_,_=>ak
def MR:ay (aW×ay AV)->ay gu->ay (aW×ay AV)×ay gu
 |[],l=>([],l)|(g,xs)::r,l=>((g,(A3 xs l).1)::(MR r (A3 xs l).2).1,(MR r (A3 xs l).2).2)
def MZ:eA->ay gu
 | .v (.v _ xs)=>MY xs| .v (.jE l)=>UT l| .o (.box xs)=>MY xs| .o (.nB cs)=>G9 cs| .o (.row _ _ xs)=>[.R xs]| .o (.fE _ xs)=>[.R xs]|_=>[]
def W9:eA->eA->aW
 | .v (.v g xs), .v (.v g' ys)=>UH g g'&&J8 xs ys| .v (.jE l), .v (.jE r)=>R8 l r| .v .un, .v .un=>ai
 | .o (.box xs), .o (.box ys)=>J8 xs ys| .o (.nB c), .o (.nB c')=>FI c c'| .o (.row e x _), .o (.row e' x' _)=>bn e e'&&UH x x'| .o (.fE e _), .o (.fE e' _)=>bn e e'
 | .o .dead, .o .dead=>ai| .jq, .jq=>ai|_,_=>ak
def Jh(c:eA)(l:ay gu):eA×ay gu:=
 match c with
 | .v (.v g xs)=>(.v (.v g (A3 xs l).1),(A3 xs l).2)| .v (.jE r)=>(.v (.jE (MR r l).1),(MR r l).2)
 | .o (.box xs)=>(.o (.box (A3 xs l).1),(A3 xs l).2)| .o (.nB c)=>(.o (.nB (yo c l).1),(yo c l).2)| .o (.row e x _)=>(.o (.row e x (gR l)),l.tail)| .o (.fE e _)=>(.o (.fE e (gR l)),l.tail)
 |c=>(c,l)
def Hi:ay (aE×eA)->ay gu|[]=>[]|(_,c)::r=>MZ c++Hi r
def yD:ay (aE×eA)->ay (aE×eA)->aW
 |[],[]=>ai|(k,c)::r,(k',c')::t=>bn k k'&&W9 c c'&&yD r t|_,_=>ak
def K9:ay (aE×eA)->ay gu->ay (aE×eA)
 |[],_=>[]|(k,c)::r,l=>(k,(Jh c l).1)::K9 r (Jh c l).2
theorem A0{a b:aW}(h:UH a b=ai):a=b:=by cases a<;>cases b<;>first|rfl|cases h
theorem abJ{s a:AV}(h:W7 s a=ai)(l:ay gu):fAV s (hAV a++l)=(a,l):=by
 match s,a,h with
 | .fn f c, .fn f' c',h=>simp only[W7,aJ]at h;have h1:=aR h.1;subst h1;simp only[fAV,hAV,A4 h.2]
 | .fp c j, .fp c' j',h=>simp only[W7,aJ]at h;have h1:=aR h.1;subst h1;simp only[fAV,hAV,vR h.2]
 | .i k _, .i k' _,h=>have h1:=cg (show decide (k=k')=ai from h);subst h1;rfl
 | .b _, .b _,_=>rfl
 | .s _, .s _,_=>rfl
 | .sh e _, .sh e' _,h=>have h1:=aR (show bn e e'=ai from h);subst h1;rfl
 | .nl, .nl,_=>rfl
 | .own n, .own n',h=>have h1:=aR (show bn n n'=ai from h);subst h1;rfl
 | .vw n _ _, .vw n' _ _,h=>have h1:=aR (show bn n n'=ai from h);subst h1;rfl
 | .bp n j, .bp n' j',h=>simp only[W7,aJ]at h;have h1:=aR h.1;have h2:=aR h.2;subst h1;subst h2;rfl
 | .rp n _ j, .rp n' _ j',h=>simp only[W7,aJ]at h;have h1:=aR h.1;have h2:=aR h.2;subst h1;subst h2;rfl
 | .sp n _ _ j, .sp n' _ _ j',h=>simp only[W7,aJ]at h;have h1:=aR h.1;have h2:=aR h.2;subst h1;subst h2;rfl
 | .inn n _ j, .inn n' _ j',h=>simp only[W7,aJ]at h;have h1:=aR h.1;have h2:=aR h.2;subst h1;subst h2;rfl
 | .ip n _ j _ q, .ip n' _ j' _ q',h=>simp only[W7,aJ]at h;have h1:=aR h.1.1;have h2:=aR h.1.2;have h3:=aR h.2;subst h1;subst h2;subst h3;rfl
theorem zS:∀{s a:ay AV},J8 s a=ai->∀l,A3 s (MY a++l)=(a,l)
 |[],[],_,l=>rfl
 |s::ss,a::as,h,l=>by
  simp only[J8,aJ]at h;simp only[A3,MY,ch,abJ h.1,zS h.2]
 |[],_::_,h,_=>by cases h
 |_::_,[],h,_=>by cases h
theorem K7:∀{s a:ay (aW×ay AV)},R8 s a=ai->∀l,MR s (UT a++l)=(a,l)
 |[],[],_,l=>rfl
 |(g,xs)::ss,(g',ys)::as,h,l=>by
  simp only[R8,aJ]at h;obtain⟨⟨h1,h2⟩,h3⟩:=h;have h1:=A0 h1;subst h1;simp only[MR,UT,ch,zS h2,K7 h3]
 |[],_::_,h,_=>by cases h
 |_::_,[],h,_=>by cases h
theorem UM{s c:eA}(h:W9 s c=ai)(l:ay gu):Jh s (MZ c++l)=(c,l):=by
 match s,c,h with
 | .v (.v g xs), .v (.v g' ys),h=>simp only[W9,aJ]at h;have h1:=A0 h.1;subst h1;simp only[Jh,MZ,zS h.2]
 | .v (.jE r), .v (.jE r'),h=>simp only[Jh,MZ,K7 (show R8 r r'=ai from h)]
 | .v .un, .v .un,_=>rfl
 | .o (.box xs), .o (.box ys),h=>simp only[Jh,MZ,zS (show J8 xs ys=ai from h)]
 | .o (.nB c), .o (.nB c'),h=>simp only[Jh,MZ,vR (show FI c c'=ai from h)]
 | .o (.row e x _), .o (.row e' x' _),h=>simp only[W9,aJ]at h;have h1:=A0 h.2;have h2:=aR h.1;subst h1;subst h2;rfl
 | .o (.fE e _), .o (.fE e' _),h=>have h2:=aR h;subst h2;rfl
 | .o .dead, .o .dead,_=>rfl
 | .jq, .jq,_=>rfl
theorem G2:∀{S L:ay (aE×eA)},yD S L=ai->K9 S (Hi L)=L
 |[],[],_=>rfl
 |(k,s)::S,(k',c)::L,h=>by
  simp only[yD,aJ]at h;obtain⟨⟨h1,h2⟩,h3⟩:=h;have h1:=aR h1;subst h1;simp only[K9,Hi,UM h2,G2 h3]
 |[],_::_,h=>by cases h
 |_::_,[],h=>by cases h
def tell{R:Type}(S:ay (aE×eA))(H:ay gu->aC R)(L:ay (aE×eA))(other:aC R):aC R:=bif yD S L then H (Hi L)else other
def QX:ay (aE×ay aE)->aE->ay aE
 |[],_=>[]|(k,l)::r,n=>bif bn n k then l else QX r n
def ahR:ay (aE×aE×Om)->aE->aE->Om
 |[],_,_=> .nat|(q,j,o)::r,n,m=>bif bn n q&&bn m j then o else ahR r n m
def Q9:ay (aE×aE)->aE->aE->aW
 |[],_,_=>ak|(f,p)::r,n,m=>(bn n f&&bn m p)||Q9 r n m
def ahW:ay (aE×aE)->aE->aC aE
 |[],_=>aj|(k,e)::r,n=>bif bn n k then ah e else ahW r n
theorem bM{p:Code->Prop}:∀c∈([]:ay Code),p c:=λc h=>by cases h
theorem bk{p:Code->Prop}{c:Code}{l:ay Code}(h:p c)(hl:∀d∈l,p d):∀d∈c::l,p d:=λd hd=>by
 rcases cz.1 hd with rfl|hd
 ·exact h
 ·exact hl d hd
def pE:ay (aE×(ay eQ->aC (aW×dE)))->aE->ay eQ->aC (aW×dE)
 |[],_,_=>aj
 |(k,s)::r,g,a=>bif bn g k then(match s a with|some x=>ah x|none=>pE r g a)else pE r g a
theorem ba{P:cM}{T:Tab}:∀g,k_ P T g (pE [] g):=λg=>MT λ_=>rfl
theorem aG{P:cM}{T:Tab}{k:aE}{s:ay eQ->aC (aW×dE)}{L:ay (aE×(ay eQ->aC (aW×dE)))}(h:k_ P T k s)(hl:∀g,k_ P T g (pE L g)):∀g,k_ P T g (pE ((k,s)::L) g):=by
 intro g;cases hb:bn g k with
 |true=>
  have:=aR hb;subst this;intro args r hr;unfold pE at hr;rw[hb,au]at hr;cases hs:s args with
  |some x=>rw[hs]at hr;exact h args r (hs.trans hr)
  |none=>rw[hs]at hr;exact hl g args r hr
 |false=>
  have e:pE ((k,s)::L) g=pE L g:=by funext a;simp only[pE,hb,aA]
  rw[e];exact hl g
def WA(T:Tab)(md:ay (aE×aE))(cs:ay (aE×(ay eQ->aC (aW×dE))))(ks:ay (aE×ay aE))(tk:ay aE)(om:ay (aE×aE×Om)):fm:={toTab:=T,call:=pE cs,mode:=Q9 md,keep:=QX ks,tk:=λn=>lX n tk,om:=ahR om}
end Go.FG

namespace Go.FG
theorem Kf{T:Tab}{t:aE}{ts:ay aE}{rh:ay (ay CV)}(h:oq T (t::ts) rh):∃ys ai7,rh=ys::ai7/\(∃ti,T.ty t=ah ti/\ys.map CV.kd=ti.ks)/\(∀y∈ys,qy T y)/\oq T ts ai7:=by
 cases rh with
 |nil=>exact h.elim
 |cons ys rh=>exact⟨ys,rh,rfl,h.1,h.2.1,h.2.2⟩
theorem NL{T:Tab}{rh:ay (ay CV)}(h:oq T [] rh):rh=[]:=by
 cases rh with
 |nil=>rfl
 |cons=>exact h.elim
theorem Vs{T:Tab}{k:Ck}{ks:ay Ck}{ys:ay CV}(h:ys.map CV.kd=k::ks)(hf:∀y∈ys,qy T y):∃y Ce,ys=y::Ce/\y.kd=k/\qy T y/\Ce.map CV.kd=ks/\∀y∈Ce,qy T y:=by
 cases ys with
 |nil=>cases h
 |cons y ys=>rw[eW,X0]at h;exact⟨y,ys,rfl,h.1,hf y (dA ..),h.2,λz hz=>hf z (cU _ hz)⟩
theorem acy{ys:ay CV}(h:ys.map CV.kd=[]):ys=[]:=by simpa using h
theorem aqe{T:Tab}{e:aE}{y:CV}(h:y.kd= .l e)(hf:qy T y):∃xs,y= .l e xs/\qy T (.l e xs):=by cases y<;>simp[CV.kd]at h;subst h;exact⟨_,rfl,hf⟩
theorem jN{x:az}(h1: -9223372036854775808<=x)(h2:x<=9223372036854775807):bJ x=x:=by
 have e:bJ x=if(decide (x%18446744073709551616≥9223372036854775808))=ai then x%18446744073709551616-18446744073709551616 else x%18446744073709551616:=rfl
 rw[e];by_cases h:x%18446744073709551616≥9223372036854775808
 ·rw[bw (aF h)];omega
 ·rw[bH (by simpa using h)];omega
end Go.FG

namespace Go.FG
inductive Ho where|I|B|S|R|N
abbrev den:Ho->Type
 | .I=>az| .B=>aW| .S=>aq| .R=>aU| .N=>aE
abbrev Fn:ay Ho->Type->Type
 |[],A=>A|h::s,A=>den h->Fn s A
abbrev Tu:ay Ho->Type
 |[]=>Unit|h::s=>den h×Tu s
abbrev Pr:ay Ho->Type
 |[]=>Unit|[h]=>den h|h::s=>den h×Pr s
def df:(h:Ho)->den h
 | .I=>(0:az)| .B=>ak| .S=>(⟨#[]⟩:aq)| .R=>([]:aU)| .N=>(0:aE)
def lf:(h:Ho)->den h->gu
 | .I,x=> .I x| .B,x=> .B x| .S,x=> .S x| .R,x=> .R x| .N,x=> .N x
def ap{A:Type}:(s:ay Ho)->Fn s A->Tu s->A
 |[],f,_=>f|_::s,f,x=>ap s (f x.1) x.2
def cmp{A B:Type}:(s:ay Ho)->Fn s A->(A->B)->Fn s B
 |[],f,g=>g f|_::s,f,g=>λy=>cmp s (f y) g
def K2{A:Type}:(s:ay Ho)->Fn s A->A
 |[],f=>f|h::s,f=>K2 s (f (df h))
def lv:(s:ay Ho)->Tu s->ay gu
 |[],_=>[]|h::s,x=>lf h x.1::lv s x.2
def Uq{A:Type}:(s:ay Ho)->Fn s (aC A)->ay gu->aC A
 |[],f,[]=>f
 | .I::s,f, .I x::l=>Uq s (f x) l| .B::s,f, .B x::l=>Uq s (f x) l| .S::s,f, .S x::l=>Uq s (f x) l
 | .R::s,f, .R x::l=>Uq s (f x) l| .N::s,f, .N x::l=>Uq s (f x) l
 |_,_,_=>aj
def jE:(s:ay Ho)->Fn s (Pr s)
 |[]=>()|[_]=>λx=>x|_::h::s=>λx=>cmp (h::s) (jE (h::s)) λp=>(x,p)
def apP{A:Type}:(s:ay Ho)->Fn s A->Pr s->A
 |[],f,_=>f|[_],f,p=>f p|_::h::s,f,p=>apP (h::s) (f p.1) p.2
theorem AJ{A:Type}{s:ay Ho}{f:Fn s (aC A)}{l:ay gu}{a:A}(h:Uq s f l=ah a):∃x,l=lv s x/\ap s f x=ah a:=by
 induction s generalizing l with
 |nil=>cases l with
  |nil=>exact⟨(),rfl,h⟩
  |cons=>cases h
 |cons k s ih=>
  cases l with
  |nil=>cases k<;>cases h
  |cons y l=>cases k<;>cases y<;>first|(obtain⟨x,rfl,hx⟩:=ih h;exact⟨(_,x),rfl,hx⟩)|cases h
theorem AK{A B:Type}{s:ay Ho}(f:Fn s A)(g:A->B)(x:Tu s):ap s (cmp s f g) x=g (ap s f x):=by
 induction s with
 |nil=>rfl
 |cons k s ih=>exact ih _ _
theorem abo{A:Type}{s:ay Ho}{f g:Fn s A}(h:∀x,ap s f x=ap s g x):f=g:=by
 induction s with
 |nil=>exact h ()
 |cons k s ih=>exact funext λy=>ih λx=>h (y,x)
theorem Ur{A:Type}{s:ay Ho}(f:Fn s A)(x:Tu s):apP s f (ap s (jE s) x)=ap s f x:=by
 induction s with
 |nil=>rfl
 |cons k s ih=>
  cases s with
  |nil=>rfl
  |cons h s=>exact(kX (apP (k::h::s) f) (AK ..)).trans (ih ..)
def hAA:AA->ay gu
 | .i _ n=>[.I n]| .b x=>[.B x]| .s x=>[.S x]| .sh _ xs=>[.R xs]| .ow _ _ xs=>[.R xs]| .kp xs=>[.R xs]| .fn _ c=>Dv c| .nl=>[]
def sAA:AA->AA->aW
 | .i k _, .i k' _=>decide (k=k')| .b _, .b _=>ai| .s _, .s _=>ai| .sh e _, .sh e' _=>bn e e'| .ow e x _, .ow e' x' _=>bn e e'&&UH x x'
 | .kp _, .kp _=>ai| .fn f c, .fn f' c'=>bn f f'&&DM c c'| .nl, .nl=>ai|_,_=>ak
def fAA(s:AA)(l:ay gu):AA×ay gu:=
 match s with
 | .i k _=>(.i k (gI l),l.tail)| .b _=>(.b (gB l),l.tail)| .s _=>(.s (gS l),l.tail)| .sh e _=>(.sh e (gR l),l.tail)| .ow e x _=>(.ow e x (gR l),l.tail)
 | .kp _=>(.kp (gR l),l.tail)| .fn f c=>(.fn f (yW c l).1,(yW c l).2)| .nl=>(.nl,l)
def Jt:ay AA->ay gu|[]=>[]|a::r=>hAA a++Jt r
def J7:ay AA->ay AA->aW|[],[]=>ai|a::r,b::t=>sAA a b&&J7 r t|_,_=>ak
def G1:ay AA->ay gu->ay AA×ay gu
 |[],l=>([],l)|a::r,l=>((fAA a l).1::(G1 r (fAA a l).2).1,(G1 r (fAA a l).2).2)
def Ju:eQ->ay gu
 | .v _ xs=>Jt xs| .pt xs=>Jt xs| .fb xs=>G9 xs
def NJ:eQ->eQ->aW
 | .v g xs, .v g' ys=>UH g g'&&J7 xs ys| .pt xs, .pt ys=>J7 xs ys| .fb xs, .fb ys=>FI xs ys|_,_=>ak
def Jg(s:eQ)(l:ay gu):eQ×ay gu:=
 match s with
 | .v g xs=>(.v g (G1 xs l).1,(G1 xs l).2)| .pt xs=>(.pt (G1 xs l).1,(G1 xs l).2)| .fb xs=>(.fb (yo xs l).1,(yo xs l).2)
def hAr:ay eQ->ay gu|[]=>[]|a::r=>Ju a++hAr r
def W8:ay eQ->ay eQ->aW|[],[]=>ai|a::r,b::t=>NJ a b&&W8 r t|_,_=>ak
def UK:ay eQ->ay gu->ay eQ×ay gu
 |[],l=>([],l)|a::r,l=>((Jg a l).1::(UK r (Jg a l).2).1,(UK r (Jg a l).2).2)
def HG(l:ay (ay AA)):ay eQ:=l.map (.v ai)
theorem abI{s a:AA}(h:sAA s a=ai)(l:ay gu):fAA s (hAA a++l)=(a,l):=by
 cases s<;>cases a<;>simp only[sAA,bc,dg,Nat.beq_eq,aJ]at h<;>first|exact h.elim|skip
 all_goals first|rfl|(subst h;rfl)|(obtain⟨rfl,h⟩:=h;first|(obtain rfl:=A0 h;rfl)|(simp only[fAA,hAA,A4 h]))
theorem EU:∀{s a:ay AA},J7 s a=ai->∀l,G1 s (Jt a++l)=(a,l)
 |[],[],_,l=>rfl
 |s::ss,a::as,h,l=>by
  simp only[J7,aJ]at h;simp only[G1,Jt,ch,abI h.1,EU h.2]
theorem UL{s a:eQ}(h:NJ s a=ai)(l:ay gu):Jg s (Ju a++l)=(a,l):=by
 cases s<;>cases a<;>simp only[NJ,dg,aJ]at h
 ·obtain⟨h1,h⟩:=h;obtain rfl:=A0 h1;simp only[Jg,Ju,EU h]
 ·simp only[Jg,Ju,EU h]
 ·simp only[Jg,Ju,vR h]
theorem Jf:∀{s a:ay eQ},W8 s a=ai->∀l,UK s (hAr a++l)=(a,l)
 |[],[],_,l=>rfl
 |s::ss,a::as,h,l=>by
  simp only[W8,aJ]at h;simp only[UK,hAr,ch,UL h.1,Jf h.2]
theorem Qa{s a:ay eQ}(h:W8 s a=ai):(UK s (hAr a)).1=a:=by have:=Jf h [];rw[dN]at this;rw[this]
def xAA{B:Type}(s a:AA)(k:ay gu->aC B):aC B:=
 match s,a with
 | .i k1 _, .i k2 n=>bif decide (k1=k2)then k [.I n]else aj
 | .b _, .b n=>k [.B n]
 | .s _, .s n=>k [.S n]
 | .sh e _, .sh e' n=>bif bn e e' then k [.R n]else aj
 | .ow e x _, .ow e' x' n=>bif bn e e'&&UH x x' then k [.R n]else aj
 | .kp _, .kp n=>k [.R n]
 | .fn f c, .fn f' c'=>bif bn f f'&&DM c c' then k (Dv c')else aj
 | .nl, .nl=>k []
 |_,_=>aj
def Ta{B:Type}:ay AA->ay AA->(ay gu->aC B)->aC B
 |[],[],k=>k []|s::ss,a::as,k=>xAA s a λl=>Ta ss as λr=>k (l++r)|_,_,_=>aj
def adL{B:Type}(s a:eQ)(k:ay gu->aC B):aC B:=
 match s,a with
 | .v g xs, .v g' ys=>bif UH g g' then Ta xs ys k else aj
 | .pt xs, .pt ys=>Ta xs ys k
 | .fb xs, .fb ys=>bif FI xs ys then k (G9 ys)else aj
 |_,_=>aj
def xAr{B:Type}:ay eQ->ay eQ->(ay gu->aC B)->aC B
 |[],[],k=>k []|s::ss,a::as,k=>adL s a λl=>xAr ss as λr=>k (l++r)|_,_,_=>aj
theorem adK{B:Type}(s a:AA)(k:ay gu->aC B):xAA s a k=bif sAA s a then k (hAA a)else none:=by cases s<;>cases a<;>rfl
theorem Mk{B:Type}:∀(s a:ay AA) (k:ay gu->aC B),Ta s a k=bif J7 s a then k (Jt a)else aj
 |[],[],_=>rfl
 |s::ss,a::as,k=>by
  simp only[Ta,adK,Mk ss as,J7,Jt];cases sAA s a<;>rfl
 |[],_::_,_=>rfl
 |_::_,[],_=>rfl
theorem Xp{B:Type}(s a:eQ)(k:ay gu->aC B):adL s a k=bif NJ s a then k (Ju a)else none:=by
 cases s<;>cases a<;>simp only[adL,NJ,Ju,Mk]<;>try rfl
 rename_i g xs g' ys;cases UH g g'<;>rfl
theorem FU{B:Type}:∀(s a:ay eQ) (k:ay gu->aC B),xAr s a k=bif W8 s a then k (hAr a)else aj
 |[],[],_=>rfl
 |s::ss,a::as,k=>by
  simp only[xAr,Xp,FU ss as,W8,hAr];cases NJ s a<;>rfl
 |[],_::_,_=>rfl
 |_::_,[],_=>rfl
def aaD{A:Type}(s:ay Ho)(T:Fn s (ay eQ))(f:Fn s (aC A))(a:ay eQ):aC A:=xAr (K2 s T) a (Uq s f)
def adU(s t:ay Ho)(k:Fn t dE)(c:Fn s aW)(v:Fn s (Pr t)):Fn s (aC (aW×dE)):=
 match s with
 |[]=>ah (c,apP t k v)
 |_::s=>λx=>adU s t k (c x) (v x)
theorem Xx{s t:ay Ho}{k:Fn t dE}{c:Fn s aW}{v:Fn s (Pr t)}(x:Tu s):ap s (adU s t k c v) x=ah (ap s c x,apP t k (ap s v x)):=by
 induction s with
 |nil=>rfl
 |cons h s ih=>exact ih _
def eg{s t:ay Ho}(A:Fn s (ay eQ))(k:Fn t dE)(c:Fn s aW)(v:Fn s (Pr t)):ay eQ->aC (aW×dE):=aaD s A (adU s t k c v)
def Uz{t:ay Ho}(k:Fn t dE)(r:dE):aC (Pr t):=
 xAr (K2 t k).rs r.rs λl=>xAr (HG (K2 t k).outs) (HG r.outs) λm=>Uq t (cmp t (jE t) ah) (l++m)
def okA{s:ay Ho}(A:Fn s (ay eQ)):Prop:=∀x,(UK (K2 s A) (lv s x)).1=ap s A x
def okK{t:ay Ho}(k:Fn t dE):Prop:=∀x,(⟨(UK (K2 t k).rs (lv t x)).1,(UK (HG (K2 t k).outs) (UK (K2 t k).rs (lv t x)).2).1⟩:ay eQ×ay eQ)=⟨(ap t k x).rs,HG (ap t k x).outs⟩
def okT{s:ay Ho}(T:Fn s (ay (aE×eA))):Prop:=∀x,K9 (K2 s T) (lv s x)=ap s T x
theorem HH:∀{a b:ay (ay AA)},HG a=HG b->a=b
 |[],[],_=>rfl
 |_::_,_::_,h=>by
  obtain⟨h1,h2⟩:=ru h;obtain⟨_,rfl⟩:=eQ.v.inj h1;rw[HH h2]
 |[],_::_,h=>by cases h
 |_::_,[],h=>by cases h
theorem MM{t:ay Ho}{k:Fn t dE}(hk:okK k){r:dE}{p:Pr t}(h:Uz k r=ah p):r=apP t k p:=by
 unfold Uz at h;rw[FU]at h;cases hb:W8 (K2 t k).rs r.rs with
 |false=>rw[hb]at h;cases h
 |true=>
  rw[hb,au,FU]at h;cases hc:W8 (HG (K2 t k).outs) (HG r.outs)with
  |false=>rw[hc]at h;cases h
  |true=>rw[hc,au]at h;obtain⟨x,h1,h2⟩:=AJ h;rw[AK]at h2;obtain rfl:=aD h2;rw[Ur];have hx:=hk x;rw[<-h1,Jf hb,Qa hc]at hx;obtain⟨e1,e2⟩:=bS hx;have e3:=HH e2;cases r;cases hr:ap t k x;rw[hr]at e1 e3;cases e1;cases e3;rfl
theorem H5{s t:ay Ho}{A:Fn s (ay eQ)}(hA:okA A){k:Fn t dE}{c:Fn s aW}{v:Fn s (Pr t)}{args:ay eQ}{r:aW×dE}(h:eg A k c v args=ah r):∃x,args=ap s A x/\r=(ap s c x,apP t k (ap s v x)):=by
 unfold eg aaD at h;rw[FU]at h;cases hb:W8 (K2 s A) args with
 |false=>rw[hb]at h;cases h
 |true=>rw[hb,au]at h;obtain⟨x,h1,h2⟩:=AJ h;rw[Xx]at h2;exact⟨x,by rw[<-hA x,<-h1,Qa hb],(aD h2).symm⟩
def AQ{t:ay Ho}(E:fm)(it:It (Pr t))(F:Func)(k:Fn t dE)(args:ay eQ):aC (Pr t):=
 match F.body with
 |some c=>sA E it c (inj args) λe σ=>(fin E F args e σ).bind (Uz k)
 |none=>aj
def GO(F:Func)(A:ay eQ):aW:=
 (match F.body with|some c=> !(F.name== "runtime.NumGoroutine")&&sr F.ntmps c|none=>ak)&&yE A&&e9 A.length F.ntmps
theorem flh{P:cM}{E:fm}(hE:d_ P E)(hm:P.follows .mixedOrders=ai)(hF:∀g,k_ P E g (E.call g)){g:aE}{F:Func}(hf:P.funcs[g]? =ah F){s t:ay Ho}{A:Fn s (ay eQ)}{k:Fn t dE}{it:aE->It (Pr t)}
  (hc:∀x,GO F (ap s A x)=ai) {l:ay Code} (hl:jv (F.body.getD .skip)=l) (Be:∀N,∀c∈l,cq E (it N) c) (hA:okA A) (hk:okK k)
  {c:Fn s aW} {v:Fn s (Pr t)} (h:∀x,vU (ap s A x)->ap s c x=ai->∃N,AQ E (it N) F k (ap s A x)=ah (ap s v x)):k_ P E g (eg A k c v):=by
 intro args r hr;obtain⟨x,rfl,_⟩:=H5 hA hr;have hx:=hc x;unfold GO at hx;cases hb:F.body with
 |none=>rw[hb]at hx;cases hx
 |some code=>
  rw[hb]at hl hx;have hl:jv code=l:=hl;simp only[aJ,dz]at hx;refine abM hE hF hm hf hb (by rw[hx.1.1.1,hx.1.1.2];rfl) (λargs r hr=> ?_) _ r hr;obtain⟨x,rfl,hq⟩:=H5 hA hr;obtain⟨h1,rfl⟩:=bS hq;have hx:=hc x;unfold GO at hx;simp only[aJ]at hx;refine⟨hx.1.2,λhf=> ?_⟩
  obtain⟨N,h⟩:=h x hf h1.symm;refine⟨cD hx.2,Pr t,it N,λe σ=>(fin E F (ap s A x) e σ).bind (Uz k),ap s v x,by rw[hl];exact Be N, ?_,λe σ he=> ?_⟩
  ·unfold AQ at h;rw[hb]at h;exact h
  ·obtain⟨r,hr,hd⟩:=Option.bind_eq_some_iff.1 he;rw[hr,MM hk hd]
theorem abp{s t:ay Ho}{c:Fn s aW}{v:Fn s (Pr t)}{w:Fn s (aC (Pr t))}{d:Pr t}(hc:cmp s w mT=c)(hv:cmp s w (λo=>o.getD d)=v)(x:Tu s)(h:ap s c x=ai):ap s w x=ah (ap s v x):=by
 subst hc hv;rw[AK]at h;rw[AK];cases hw:ap s w x with
 |none=>rw[hw]at h;cases h
 |some y=>rfl
theorem fl{P:cM}{E:fm}(hE:d_ P E)(hm:P.follows .mixedOrders=ai)(hF:∀g,k_ P E g (E.call g)){g:aE}{F:Func}(hf:P.funcs[g]? =ah F){s t:ay Ho}{A:Fn s (ay eQ)}{k:Fn t dE}{it:aE->It (Pr t)}
  (hc:∀x,GO F (ap s A x)=ai) {l:ay Code} (hl:jv (F.body.getD .skip)=l) (Be:∀N,∀c∈l,cq E (it N) c) (hA:okA A) (hk:okK k)
  {c:Fn s aW} {v:Fn s (Pr t)} {w:aE->Fn s (aC (Pr t))} {u:Fn s (aC (Pr t))} {d:Pr t} (N:aE) (h:∀N x,AQ E (it N) F k (ap s A x)=ap s (w N) x) (hw:w N=u) (h1:cmp s u mT=c) (h2:cmp s u (λo=>o.getD d)=v):k_ P E g (eg A k c v):=
 flh hE hm hF hf hc hl Be hA hk λx _ hx=>⟨N,(h N x).trans (by rw[hw];exact abp h1 h2 x hx)⟩
def ct:(s:ay Ho)->Fn s aW
 |[]=>ai|_::s=>λ_=>ct s
abbrev Kt(R:Type):=Ex->St->aC R
abbrev Tb:=ay (aE×eA)
def J{R:Type}{s:ay Ho}(T:Fn s Tb)(e:Ex)(K:Kt R):Fn s (aC R):=cmp s T λt=>K e (fN t)
def al{R:Type}{s:ay Ho}(T:Fn s Tb)(f:Kt R->Fn s (aC R))(o:Tb->Kt R->aC R):Tb->Kt R->aC R:=λL K=>bif yD (K2 s T) L then Uq s (f K) (Hi L)else o L K
def an{R:Type}:Tb->Kt R->aC R:=λ_ _=>aj
def lp{R:Type}(n:aE)(a:Tb->Kt R->aC R)(o:It R):It R:=λnD f cn L K=>bif bn nD n then a L K else o nD f cn L K
def ln{R:Type}:It R:=λ_ _ _ _ _=>aj
theorem Uo{R:Type}{s:ay Ho}{T:Fn s Tb}(hT:okT T){f:Kt R->Fn s (aC R)}{o:Tb->Kt R->aC R}{L:Tb}{K:Kt R}{r:R}(h:al T f o L K=ah r):(∃x,L=ap s T x/\ap s (f K) x=ah r)\/o L K=ah r:=by
 unfold al at h;cases hb:yD (K2 s T) L with
 |false=>rw[hb]at h;exact .inr h
 |true=>rw[hb]at h;obtain⟨x,h1,h2⟩:=AJ h;exact .inl ⟨x,by rw[<-hT x,<-h1,G2 hb],h2⟩
section
variable {R:Type} {E:fm} {it:It R} {C:Code} {n:aE}
def Good(E:fm)(it:It R)(C:Code)(n:aE)(a:Tb->Kt R->aC R):Prop:=∀L K r,a L K=ah r->∃m,iter (sA E it C) (canon (E.y_ n)) m (fN L) K=ah r
def Wd(E:fm)(it:It R)(C:Code)(n:aE)(K:Kt R){s:ay Ho}(T:Fn s Tb)(l:aE->Fn s (aC R)):Prop:=∀m x,iter (sA E it C) (canon (E.y_ n)) m (fN (ap s T x)) K=ap s (l m) x
theorem pb:Good E it C n an:=λ_ _ _ h=>by cases h
theorem Lh{s:ay Ho}{T:Fn s Tb}(hT:okT T){l:Kt R->aE->Fn s (aC R)}{N:aE}{o:Tb->Kt R->aC R}(h:∀K,Wd E it C n K T (l K))(ho:Good E it C n o):Good E it C n (al T (λK=>l K N) o):=by
 intro L K r hq;rcases Uo hT hq with ⟨x,rfl,hx⟩|hq
 ·exact⟨N,(h K N x).trans hx⟩
 ·exact ho L K r hq
theorem lom(n:aE)(hr:gk C=n){a:Tb->Kt R->aC R}(hi:∀L K,it n (sA E it C) (canon (E.y_ n)) L K=a L K)(h:Good E it C n a):cq E it C:=by intro L K q;rw[hr,hi];exact h L K q
theorem wf{K:Kt R}{s:ay Ho}{T:Fn s Tb}{l:aE->Fn s (aC R)}{m:aE}(h:∀x,iter (sA E it C) (canon (E.y_ n)) m (fN (ap s T x)) K=ap s (l m) x):cmp s T (λt=>iter (sA E it C) (canon (E.y_ n)) m (fN t) K)=l m:=
 abo λy=>by rw[AK,h]
theorem wl{K:Kt R}{s:ay Ho}{T:Fn s Tb}{l:aE->Fn s (aC R)}(r:(St->aC R)->Fn s (aC R))(h0:∀x,ap s (l 0) x=aj)
  (h1:∀m,(∀x,iter (sA E it C) (canon (E.y_ n)) m (fN (ap s T x)) K=ap s (l m) x)->r (λσ=>iter (sA E it C) (canon (E.y_ n)) m σ K)=l (m+1))
  (h:∀g x,sA E it C (fN (ap s T x)) (DA g (canon (E.y_ n)) K)=ap s (r g) x):Wd E it C n K T l:=by
 intro m;induction m with
 |zero=>intro x;rw[h0];rfl
 |succ m ih=>intro x;rw[Nb,h,h1 m ih]
theorem lo1(n:aE){s:ay Ho}(T:Fn s Tb)(hr:gk C=n)(hT:okT T)(l:Kt R->aE->Fn s (aC R))(r:Kt R->Fn s (aC R)->Fn s (aC R)){N:aE}
  (hi:∀L K,it n (sA E it C) (canon (E.y_ n)) L K=al T (λK=>l K N) an L K) (h0:∀K x,ap s (l K 0) x=aj) (h1:∀K n,l K (n+1)=r K (l K n))
  (h:∀K g x,sA E it C (fN (ap s T x)) (DA g (canon (E.y_ n)) K)=ap s (r K (cmp s T λt=>g (fN t))) x):cq E it C:=
 lom n hr hi (Lh hT (λK=>wl (λg=>r K (cmp s T λt=>g (fN t))) (h0 K) (λm i=>by rw[h1];exact kX (r K) (wf i)) (h K)) pb)
end
end Go.FG

namespace Go.FG.Lib
def cW:aE:=18446744073709551616
def lt{α β:Type}(a:α)(f:α->β):β:=f a
theorem dc{α:Type}{o:aC α}{x d:α}(h:o=ah x):mT o=ai/\X4 o d=x:=by rw[h];exact⟨rfl,rfl⟩
theorem some_{α:Type}{o:aC α}{d:α}(h:mT o=ai):o=ah (X4 o d):=by
 cases o with
 |none=>cases h
 |some x=>rfl
theorem gn{σ β:Type}(F:aE->σ->β)(mu:σ->aE)(inv:σ->Prop)(res:σ->β)
  (step:∀n s,inv s->F (n+1) s=res s\/∃s',inv s'/\mu s'<mu s/\res s'=res s/\F (n+1) s=F n s'):∀n s,inv s->mu s<n->F n s=res s:=by
 intro n;induction n with
 |zero=>intro s _ h;omega
 |succ n ih=>
  intro s hi hm;rcases step n s hi with h|⟨s',h1,h2,h3,h4⟩
  ·exact h
  ·rw[h4,<-h3];exact ih s' h1 (by omega)
theorem du(i n:aE):decide ((i:az)<(n:az))=decide (i<n):=by rw[cf];omega
theorem cQ(i:aE):decide (0<=(i:az))=true:=by simp
theorem P8{i n:aE}(h:i<n):decide ((i:az)<(n:az))=true:=by simp;omega
theorem X9{i n:aE}(h:¬i<n):decide ((i:az)<(n:az))=false:=by simp;omega
theorem eD(i:aE):aZ (i:az)=i:=rfl
theorem di{i n:aE}(h:i<n)(hn:n<=9223372036854775807):bJ ((i:az)+1)=((i+1:aE):az):=by rw[jN (by omega) (by omega)];omega
theorem nW{xs:aU}{i:aE}(h:i<xs.length):xs.getD i []=xs[i]:=by simp[jH,h]
theorem dF{xs:aU}{i j:aE}(h:i<xs.length):ar xs i j=xs[i].getD j (.b ak):=by unfold ar;rw[nW h]
theorem iX(xs:aU)(i j:aE)(ys:ay CV):(dV xs i j ys).length=xs.length:=by unfold dV;simp
theorem qP(ks:ay Ck)(n:aE):(aN ks n).length=n:=by unfold aN;simp
theorem cC{n b:aE}(h:n*b<=140737488355328)(h2:n<=9223372036854775807):cB n b=true:=by unfold cB;simp;omega
theorem LQ{xs:aU}{i j:aE}{ys:ay CV}(h:i<xs.length):dV xs i j ys=xs.set i (jb xs[i] j ys):=by unfold dV;rw[nW h]
theorem iu{x:aU}{i:aE}(h:i<x.length):x.drop i=x[i]::x.drop (i+1):=dG h
def up:az->aE->az|k,0=>k|k,n+1=>up (bJ (k+1)) n
theorem Kk{x:az}(h:0<=x):bJ x<=x:=by
 have e:bJ x=if(decide (x%18446744073709551616≥9223372036854775808))=ai then x%18446744073709551616-18446744073709551616 else x%18446744073709551616:=rfl
 rw[e];split<;>omega
def vb(x:az):aU:=
 if x>127 then [CV.i bg (bI bg (bJ (bL x 128+128)))]::vb (bJ (cS x 128))else [[CV.i bg (bI bg x)]]
termination_by x.toNat
decreasing_by
 rename_i h
 have h1:cS x 128=x/128:=gF (by omega)
 have h2:=Kk (x:=cS x 128) (by omega)
 omega
theorem vg{x:az}(h:x>127):vb x=[CV.i bg (bI bg (bJ (bL x 128+128)))]::vb (bJ (cS x 128)):=by rw[vb,bw h]
theorem ml{x:az}(h:¬x>127):vb x=[[CV.i bg (bI bg x)]]:=by rw[vb,bH h]
theorem J5{n:aE}(h:n<=140737488355328):cB n 1=true:=cC (by omega) (by omega)
theorem j8(y:ay CV)(ks:ay Ck):(ax (aN ks 1) 0 y)=[y]:=rfl
theorem Xl{R:Type}(F:aE->az->aU->aC R)(k:aq->aC R)
  (h1:∀n x acc,x>127->acc.length<=100->F (n+1) x acc=F n (bJ (cS x 128)) (acc++[[CV.i bg (bI bg (bJ (bL x 128+128)))]]))
  (h2:∀n x acc,¬x>127->acc.length<=100->F (n+1) x acc=k (bytesOf (acc++[[CV.i bg (bI bg x)]]))) (x:az) (hx:x<=9223372036854775807):F (x.toNat+1) x []=k (bytesOf (vb x)):=by
 have:=gn (λn (s:az×aU)=>F n s.1 s.2) (λs=>s.1.toNat) (λs=>s.2.length<=100/\(1<=s.1->2^s.2.length*s.1<=9223372036854775808)) (λs=>k (bytesOf (s.2++vb s.1))) (λn s hs=>by
  obtain⟨x,acc⟩:=s;obtain⟨hl,hb⟩:=hs;dsimp only at hl hb⊢;by_cases h:x>127
  ·right;have e1:cS x 128=x/128:=gF (by omega);have hp:(1:az)<=2^acc.length:=by
    have:(0:az)<2^acc.length:=by exact Int.pow_pos (by omega)
    omega
   have hxb:x<=9223372036854775808:=by have h3:=hb (by omega);have:1*x<=2^acc.length*x:=Int.mul_le_mul_of_nonneg_right hp (by omega);omega
   have e2:bJ (cS x 128)=x/128:=by rw[e1,jN (by omega) (by omega)]
   have h64:acc.length<64:=by
    rcases ql acc.length 64 with h5|h5
    ·exact h5
    ·exfalso;have h6:(2:az)^64<=2^acc.length:=by have:=Nat.pow_le_pow_right (n:=2) (by omega) h5;exact_mod_cast this
     have h7:=hb (by omega);have h8:(2:az)^acc.length*1<=2^acc.length*x:=Ap (by omega) (by omega);have:(2:az)^64=18446744073709551616:=by decide
     omega
   refine⟨(bJ (cS x 128),acc++[[CV.i bg (bI bg (bJ (bL x 128+128)))]]),⟨by simp;omega,λ_=> ?_⟩,by dsimp only;omega, ?_,h1 n x acc h hl⟩
   ·dsimp only;rw[e2,bW,bB,tK];have h7:=hb (by omega);have h9:2*(x/128)<=x:=by omega
    have h8:(2:az)^acc.length*(2*(x/128))<=2^acc.length*x:=Ap h9 (by omega);rw[Int.mul_assoc];omega
   ·dsimp only;rw[vg h,ch];rfl
  ·left;rw[ml h];exact h2 n x acc h hl) (x.toNat+1) (x,[]) ⟨by simp,λh=>by simp;omega⟩ (by dsimp only;omega)
 simpa using this
theorem afw{a b c:aE}{inst:Decidable (a+b<=c)}(h:a+b<=c): @decide (a+b<=c) inst=true:=aF h
theorem adB:∀(n:aE) (x:az),x<2^n->(vb x).length<=n+1:=by
 intro n;induction n with
 |zero=>intro x hx;rw[ml (by omega)];simp
 |succ n ih=>
  intro x hx;by_cases h:x>127
  ·have e1:cS x 128=x/128:=gF (by omega);have h2:=Kk (x:=cS x 128) (by omega);rw[vg h];have h3:bJ (cS x 128)<2^n:=by rw[tK]at hx;omega
   have:=ih _ h3;simp;omega
  ·rw[ml h];simp
theorem gX(xs:aU):(bytesOf xs).size=xs.length:=by unfold bytesOf;simp[gj]
theorem nr{x:az}(h:x<=9223372036854775807):(bytesOf (vb x)).size<=64:=by
 rw[gX];exact adB 63 x (by have:(2:az)^63=9223372036854775808:=by decide
                           omega)
theorem lx(a b:aq):(a++b).size=a.size+b.size:=dv
theorem pV(l:ay F_):db l l=true:=by
 induction l with
 |nil=>rfl
 |cons a l ih=>simp only[db,ih,o0];exact beq_self_eq_true a
theorem IY(s:aq)(i:aE):iL s i<256:=(s.data.getD i 0).toNat_lt
def rv(t:aq)(a:aE):aE->aE->az->az×az×aW
 |0,_,_=>(0,0,ak)
 |f+1,j,n=>
  if a+j<t.size then
   (if(iL t (a+j):az)>127 then rv t a f (j+1) (n+(iL t (a+j):az)%128*128^j)
   else if(j>0/\iL t (a+j)=0)\/n+(iL t (a+j):az)%128*128^j>1000000000 then(0,0,ak)
   else(n+(iL t (a+j):az)%128*128^j,((a+j+1:aE):az),ai))
  else(0,0,ak)
theorem AP{α:Type}{c:aW}{x y:α}(h:c=ai):(bif c then x else y)=x:=by rw[h];rfl
theorem PW{α:Type}{c:aW}{x y:α}(h:c=ak):(bif c then x else y)=y:=by rw[h];rfl
theorem AY{p:Prop}{inst:Decidable p}(h:p): @decide p inst=true:=aF h
theorem GV{p:Prop}{inst:Decidable p}(h:¬p): @decide p inst=false:=aK h
def num(t:aq):aE->aE->az
 |_,0=>0
 |a,k+1=>(iL t a:az)%128+128*num t (a+1) k
theorem z7(t:aq):∀(k a:aE),0<=num t a k/\num t a k<128^k
 |0,a=>by simp[num]
 |k+1,a=>by
  have:=z7 t k (a+1);simp only[num,tK];omega
theorem wc(t:aq):∀(k a:aE),num t a (k+1)=num t a k+(iL t (a+k):az)%128*128^k
 |0,a=>by simp[num]
 |k+1,a=>by
  rw[num,wc t k (a+1),num,show a+1+k=a+(k+1)by omega,tK];rw[Int.mul_add,<-Int.add_assoc];congr 1;rw[Int.mul_comm 128,Int.mul_assoc]
theorem LF(t:aq):∀(k a:aE),(iL t (a+k):az)%128≠0->1<=num t a (k+1)
 |0,a,h=>by simp[num]at h⊢;omega
 |k+1,a,h=>by
  rw[num];have:=LF t k (a+1) (by rw[show a+1+k=a+(k+1)by omega];exact h);omega
theorem S8(t:aq):∀(k a:aE),(∀i,i<k->128<=iL t (a+i))->iL t (a+k)<128->(k=0\/iL t (a+k)≠0)->num t a (k+1)<=9223372036854775807->vb (num t a (k+1))=(lI a (k+1)).map λi=>[CV.i bg (iL t i:az)]
 |0,a,_,h2,_,_=>by
  have e:num t a 1=(iL t a:az):=by simp[num]at h2⊢;omega
  simp only[wY]at h2;rw[e,ml (by omega)];have hw:bI bg (iL t a:az)=(iL t a:az):=by show(iL t a:az)%256=_;omega
  rw[hw];rfl
 |k+1,a,h1,h2,h3,h4=>by
  have hb:=IY t a;have h0:=h1 0 (by omega);rw[wY]at h0;have il:iL t (a+(k+1))≠0:=by rcases h3 with h3|h3;(·omega);exact h3
  have kC:=LF t k (a+1) (by rw[show a+1+k=a+(k+1)by omega];omega);have e:num t a (k+1+1)=(iL t a:az)%128+128*num t (a+1) (k+1):=rfl;rw[e]at h4⊢;have e1:bL ((iL t a:az)%128+128*num t (a+1) (k+1)) 128=(iL t a:az)%128:=by rw[sa (by omega)];omega
  have e2:cS ((iL t a:az)%128+128*num t (a+1) (k+1)) 128=num t (a+1) (k+1):=by rw[gF (by omega)];omega
  have e3:bJ ((iL t a:az)%128+128)=(iL t a:az):=by rw[jN (by omega) (by omega)];omega
  have hw:bI bg (iL t a:az)=(iL t a:az):=by show(iL t a:az)%256=_;omega
  rw[vg (by omega),e1,e2,e3,hw,jN (by omega) (by omega),S8 t k (a+1) (λi hi=>by rw[show a+1+i=a+(i+1)by omega];exact h1 (i+1) (by omega)) (by rw[show a+1+k=a+(k+1)by omega];exact h2) (by rw[show a+1+k=a+(k+1)by omega];exact .inr il) (by omega)];rfl
theorem Ag:∀(k:aE) (x:az),x<128^(k+1)->(vb x).length<=k+1
 |0,x,h=>by rw[ml (by simp at h;omega)];simp
 |k+1,x,h=>by
  by_cases hx:x>127
  ·have e1:cS x 128=x/128:=gF (by omega);have h2:=Kk (x:=cS x 128) (by omega);rw[vg hx];have h3:bJ (cS x 128)<128^(k+1):=by rw[tK]at h;omega
   have:=Ag k _ h3;simp;omega
  ·rw[ml hx];simp
theorem GG{t:aq}{a m:aE}(h:a+m<=t.size):(bytesOf ((lI a m).map λi=>[CV.i bg (iL t i:az)])).data.toList=(t.extract a (a+m)).data.toList:=by
 have h1:(bytesOf ((lI a m).map λi=>[CV.i bg (iL t i:az)])).data.toList=(lI a m).map λi=>t.data.getD i 0:=by unfold bytesOf;simp[bZ,iL]
 rw[h1];apply Ts;intro i;have hs:t.size=t.data.size:=rfl;have Ln:a+m<=t.data.size:=by rw[<-hs];exact h
 simp only[fW,g7,gQ];by_cases hi:i<m
 ·have h3:a+i<t.data.size:=by omega
  rw[bF,List.getElem?_range' hi,dR,bw (by omega),dJ];simp only[h_,Nat.one_mul,cF,ej];rw[Array.getElem?_eq_getElem h3];rfl
 ·rw[km (by simp;omega),km (by simp;omega)]
theorem beq_iff{l r:ay F_}:db l r=ai↔l=r:=by
 constructor
 ·intro h;induction l generalizing r with
  |nil=>cases r with|nil=>rfl|cons=>cases h
  |cons a l ih=>
   cases r with
   |nil=>cases h
   |cons b r=>simp only[db,aJ]at h;rw[eq_of_beq h.1,ih h.2]
 ·rintro rfl;exact pV l
theorem canon(t:aq)(k a:aE)(h:a+(k+1)<=t.size)(h1:∀i,i<k->128<=iL t (a+i))(h2:iL t (a+k)<128)(h4:num t a (k+1)<=9223372036854775807):
  db (bytesOf (vb (num t a (k+1)))).toList (t.extract a (a+(k+1))).toList= !decide (k>0/\iL t (a+k)=0):=by
 rw[jQ,jQ];by_cases hc:k>0/\iL t (a+k)=0
 ·rw[aF hc,aY];obtain⟨k',rfl⟩:∃k',k=k'+1:=⟨k-1,by omega⟩
  cases hb:db (bytesOf (vb (num t a (k'+1+1)))).data.toList (t.extract a (a+(k'+1+1))).data.toList with
  |false=>rfl
  |true=>
   exfalso;have he:=kX bP (beq_iff.1 hb);have e:num t a (k'+1+1)=num t a (k'+1):=by rw[wc,hc.2];simp
   have hl:=Ag k' (num t a (k'+1)) (z7 t (k'+1) a).2;rw[e]at he;have h5:(bytesOf (vb (num t a (k'+1)))).data.toList.length=(vb (num t a (k'+1))).length:=gX _;have h6:(t.extract a (a+(k'+1+1))).data.toList.length=k'+1+1:=by show(t.extract a (a+(k'+1+1))).size=_;rw[wG];omega
   omega
 ·rw[aK hc,bV];have:=S8 t k a h1 h2 (by omega) h4;rw[this];exact beq_iff.2 (GG h)
theorem si{a b:aq}(h:a.data.toList=b.data.toList):a=b:=by obtain⟨⟨a⟩⟩:=a;obtain⟨⟨b⟩⟩:=b;simp at h;rw[h]
theorem fB{a b:aq}:db a.toList b.toList=decide (a=b):=by
 rw[jQ,jQ];by_cases h:a=b
 ·subst h;rw[aF rfl];exact pV _
 ·rw[aK h];cases hb:db a.data.toList b.data.toList with
  |false=>rfl
  |true=>exact cE (si (beq_iff.1 hb)) h
theorem ZK(t:aq)(a:aE):∀(f j:aE) (n:az) (m x:az),rv t a f j n=(m,x,ai)->n=num t a j->(∀i,i<j->128<=iL t (a+i))->
  ∃k,x=((a+(k+1):aE):az)/\a+(k+1)<=t.size/\0<=m/\m<=1000000000/\bytesOf (vb m)=t.extract a (a+(k+1))
 |0,j,n,m,x,h,_,_=>by simp[rv]at h
 |f+1,j,n,m,x,h,hn,Yi=>by
  have hb:=IY t (a+j);have U5:n+(iL t (a+j):az)%128*128^j=num t a (j+1):=by rw[wc,<-hn]
  simp only[rv]at h;by_cases g9:a+j<t.size
  ·rw[bw g9]at h;by_cases hc:(iL t (a+j):az)>127
   ·rw[bw hc]at h;refine ZK t a f (j+1) _ m x h U5 (λi hi=> ?_);by_cases M1:i<j
    ·exact Yi i M1
    ·have:i=j:=by omega
     subst this;omega
   ·rw[bH hc]at h;by_cases hz:(j>0/\iL t (a+j)=0)\/n+(iL t (a+j):az)%128*128^j>1000000000
    ·rw[bw hz]at h;simp at h
    ·rw[bH hz]at h;simp only[iU,and_true]at h;obtain⟨rfl,rfl⟩:=h;have hr:=z7 t (j+1) a;rw[<-U5]at hr;refine⟨j,by omega,by omega,hr.1,by omega, ?_⟩
     have:=canon t j a (by omega) Yi (by omega) (by rw[<-U5];omega);rw[fB,show decide (j>0/\iL t (a+j)=0)=ak from aK (λh=>hz (.inl h)),bV,<-U5]at this;exact cg this
  ·rw[bH g9]at h;simp at h
def eB(t:aq)(ic:az):az×az×aW:=if 0<=ic/\ic<=t.size then rv t ic.toNat 5 0 0 else(0,0,ak)
theorem j_{t:aq}{ic m x:az}(h:eB t ic=(m,x,ai)):0<=ic/\ic<x/\x<=t.size/\0<=m/\m<=1000000000/\bytesOf (vb m)=t.extract ic.toNat x.toNat:=by
 unfold eB at h;by_cases hn:0<=ic/\ic<=t.size
 ·rw[bw hn]at h;obtain⟨k,h1,h2,h3,h4,h5⟩:=ZK t ic.toNat 5 0 0 m x h rfl (λi hi=>by omega);exact⟨hn.1,by omega,by omega,h3,h4,by rw[h1];exact h5⟩
 ·rw[bH hn]at h;simp at h
def iE(t:aq)(ic:az):aq×az×aW:=
 match eB t ic with
 |(n,x,ai)=>if n<=20000/\n<=t.size-x then(t.extract x.toNat (x+n).toNat,x+n,ai)else(⟨#[]⟩,0,ak)
 |_=>(⟨#[]⟩,0,ak)
theorem CN{R:Type}{t:aq}(ht:t.size<=4611686018427387904)(ic:az)(kr:aq->az->aW->aC R):
  (bif(!(eB t ic).2.2)then(kr ({data:= #[]}) 0 ak)else(bif(decide ((eB t ic).1>20000))then(kr ({data:= #[]}) 0 ak)else(bif(decide ((eB t ic).1>bJ ((↑(gj t):az)-(eB t ic).2.1)))then(kr ({data:= #[]}) 0 ak)else(bif(iS (eB t ic).2.1 (bJ ((eB t ic).2.1+(eB t ic).1)) (↑(gj t):az))then(kr (bR t (aZ (eB t ic).2.1) (aZ (bJ ((eB t ic).2.1+(eB t ic).1)))) (bJ ((eB t ic).2.1+(eB t ic).1)) ai)else(aj)))))=kr (iE t ic).1 (iE t ic).2.1 (iE t ic).2.2:=by
 unfold iE;cases hr:eB t ic with
 |mk n r=>
  obtain⟨x,ok⟩:=r;cases ok with
  |false=>rfl
  |true=>
   obtain⟨h1,h2,h3,h4,h5,h6⟩:=j_ hr;have e1:bJ ((t.size:az)-x)=t.size-x:=jN (by omega) (by omega);have e2:bJ (x+n)=x+n:=jN (by omega) (by omega);simp only[aY,aA,e1,e2];by_cases hc:n<=20000/\n<=t.size-x
   ·rw[bw hc,PW (GV (by omega)),PW (GV (by omega)),AP (by simp[iS];omega)]
   ·rw[bH hc];by_cases hb:n>20000
    ·rw[AP (AY hb)]
    ·rw[PW (GV hb),AP (AY (by omega))]
theorem FD{t:aq}{ic x:az}{s:aq}(h:iE t ic=(s,x,ai)):0<=ic/\ic<x/\x<=t.size/\s.size<=20000/\bytesOf (vb s.size)++s=t.extract ic.toNat x.toNat:=by
 unfold iE at h;cases hr:eB t ic with
 |mk n r=>
  obtain⟨y,ok⟩:=r;rw[hr]at h;cases ok with
  |false=>simp at h
  |true=>
   dsimp only at h;obtain⟨h1,h2,h3,h4,h5,h6⟩:=j_ hr;split at h
   ·rename_i hc;simp only[iU,and_true]at h;obtain⟨rfl,rfl⟩:=h;have fH:(t.extract y.toNat (y+n).toNat).size=n.toNat:=by rw[wG];omega
    refine⟨h1,by omega,by omega,by rw[fH];omega, ?_⟩
    rw[fH,show((n.toNat:aE):az)=n by omega,h6];apply si;simp only[lN,fW,uw,g7,gQ];rw[show(y+n).toNat-ic.toNat=(y.toNat-ic.toNat)+n.toNat by omega,X3,uF,show ic.toNat+(y.toNat-ic.toNat)=y.toNat by omega,show(y+n).toNat-y.toNat=n.toNat by omega]
   ·simp at h
theorem vQ(t:aq){i j k:aE}(h1:i<=j)(h2:j<=k):t.extract i j++t.extract j k=t.extract i k:=by apply si;simp only[lN,fW,uw,g7,gQ];rw[show k-i=(j-i)+(k-j)by omega,X3,uF,show i+(j-i)=j by omega]
theorem K6(t:aq):t.extract 0 t.size=t:=by apply si;simp only[fW,g7,gQ,gd,Cm];exact gH (by simp)
def fi(p:aE->aW):aE->aE->az
 |0,_=> -1
 |d+1,i=>bif p i then(i:az)else fi p d (i+1)
theorem qN(p:aE->aW):∀d i,fi p d i= -1/\(∀k,i<=k->k<i+d->p k=ak)\/∃k,i<=k/\k<i+d/\fi p d i=(k:az)/\p k=ai/\∀q,i<=q->q<k->p q=ak
 |0,i=> .inl ⟨rfl,λk _ _=>by omega⟩
 |d+1,i=>by
  unfold fi;cases hp:p i with
  |true=>exact .inr ⟨i,by omega,by omega,rfl,hp,λq _ _=>by omega⟩
  |false=>
   rcases qN p d (i+1)with ⟨h1,h2⟩|⟨k,h1,h2,h3,h4,h5⟩
   ·refine .inl ⟨h1,λk hk1 wM=> ?_⟩;by_cases h:k=i
    ·subst h;exact hp
    ·exact h2 k (by omega) (by omega)
   ·refine .inr ⟨k,by omega,by omega,h3,h4,λq hq1 hq2=> ?_⟩;by_cases h:q=i
    ·subst h;exact hp
    ·exact h5 q (by omega) hq2
end Go.FG.Lib
namespace Go.FG.Pu
def yr(xs:aU)(i:aE)(ys:aU):aU:=xs.take i++ys++xs.drop i
end Go.FG.Pu

namespace Go.FG
class PT (P:outParam cM) (T:outParam Tab):Prop where
 e:d_ P T
 m:P.follows .mixedOrders=ai
abbrev As:=ay eQ
abbrev AA.n(x:az):AA:= .i .i64 x
abbrev AV.n(x:az):AV:= .i .i64 x
abbrev CV.n(x:az):CV:= .i .i64 x
abbrev aI(x:az):eQ:= .v ak [.n x]
abbrev aB(x:aW):eQ:= .v ak [.b x]
abbrev aS(x:aq):eQ:= .v ak [.s x]
abbrev aH(e:aE)(x:aU):eQ:= .v ak [.sh e x]
abbrev aO(e:aE)(x:aU):eQ:= .v ak [.ow e ai x]
abbrev aV(l:ay AA):eQ:= .v ai l
abbrev cA(k:aE)(a:AV):aE×eA:=(k, .v (.v ak [a]))
abbrev cV(k:aE)(l:ay AV):aE×eA:=(k, .v (.v ai l))
abbrev cI(k:aE)(x:az):aE×eA:=cA k (.n x)
abbrev cP(k n:aE):aE×eA:=cA k (.bp n 0)
abbrev cH(k e:aE)(x:aU):aE×eA:=cA k (.sh e x)
abbrev oB(k:aE)(l:ay AV):aE×eA:=(k, .o (.box l))
abbrev oR(k e:aE)(x:aU):aE×eA:=(k, .o (.row e ai x))
variable {P:cM} {T:Tab} [i:PT P T] {E:fm} {g:aE} {F:Func} {s t:ay Ho} {A:Fn s As} {k:Fn t dE}
theorem fq(hF:∀g,k_ P T g (E.call g))(hf:P.funcs[g]? =ah F){it:aE->It (Pr t)}{l:ay Code}(Be:∀N,∀c∈l,cq E (it N) c)
  {c:Fn s aW} {v:Fn s (Pr t)} (b:aE->Fn t (aC (Pr t))->Fn s (aC (Pr t))) (u:Fn s (aC (Pr t))) {d:Pr t} (hT:E.toTab=T:=by rfl)
  (hc:∀x,GO F (ap s A x)=true:=by intro x;kernel_rfl) (hl:jv (F.body.getD .skip)=l:=by kernel_rfl) (hA:okA A:=by intro x;rfl) (hk:okK k:=by intro x;rfl)
  (h:∀N x,AQ E (it N) F k (ap s A x)=ap s (b N (cmp t (jE t) ah)) x:=by intro N x;kernel_rfl) (hw:b Lib.cW (cmp t (jE t) ah)=u:=by rfl) (h1:cmp s u mT=c:=by rfl) (h2:cmp s u (λo=>o.getD d)=v:=by rfl):k_ P T g (eg A k c v):=by subst hT;exact fl i.e i.m hF hf hc hl Be hA hk Lib.cW h hw h1 h2
theorem fr(hF:∀g,k_ P T g (E.call g))(hf:P.funcs[g]? =ah F)
  {c:Fn s aW} {v:Fn s (Pr t)} (b:Fn t (aC (Pr t))->Fn s (aC (Pr t))) (u:Fn s (aC (Pr t))) {d:Pr t} (hT:E.toTab=T:=by rfl)
  (hc:∀x,GO F (ap s A x)=true:=by intro x;kernel_rfl) (hl:jv (F.body.getD .skip)=[]:=by kernel_rfl) (hA:okA A:=by intro x;rfl) (hk:okK k:=by intro x;rfl)
  (h:∀x,AQ E ln F k (ap s A x)=ap s (b (cmp t (jE t) ah)) x:=by intro x;kernel_rfl) (hw:b (cmp t (jE t) ah)=u:=by rfl) (h1:cmp s u mT=c:=by rfl) (h2:cmp s u (λo=>o.getD d)=v:=by rfl):k_ P T g (eg A k c v):=by subst hT;exact fl i.e i.m hF hf hc hl (it:=λ_=>ln) (λ_=>bM) hA hk (w:=λ_=>b (cmp t (jE t) ah)) 0 (λ_=>h) hw h1 h2
theorem ft(hF:∀g,k_ P T g (E.call g))(hf:P.funcs[g]? =ah F)
  {v:Fn s (Pr t)} (b:Fn t (aC (Pr t))->Fn s (aC (Pr t))) (hv:∀x,ap s (b (cmp t (jE t) ah)) x=ah (ap s v x)) (hT:E.toTab=T:=by rfl)
  (hc:∀x,GO F (ap s A x)=true:=by intro x;kernel_rfl) (hl:jv (F.body.getD .skip)=[]:=by kernel_rfl) (hA:okA A:=by intro x;rfl) (hk:okK k:=by intro x;rfl)
  (h:∀x,AQ E ln F k (ap s A x)=ap s (b (cmp t (jE t) ah)) x:=by intro x;kernel_rfl):k_ P T g (eg A k (ct s) v):=by subst hT;exact flh i.e i.m hF hf hc hl (it:=λ_=>ln) (λ_=>bM) hA hk λx _ _=>⟨0,(h x).trans (hv x)⟩
theorem fh(hF:∀g,k_ P T g (E.call g))(hf:P.funcs[g]? =ah F){it:aE->It (Pr t)}{l:ay Code}(Be:∀N,∀c∈l,cq E (it N) c)
  {c:Fn s aW} {v:Fn s (Pr t)} (b:aE->Fn t (aC (Pr t))->Fn s (aC (Pr t))) (hv:∀x,vU (ap s A x)->ap s c x=ai->∃N,ap s (b N (cmp t (jE t) ah)) x=ah (ap s v x)) (hT:E.toTab=T:=by rfl)
  (hc:∀x,GO F (ap s A x)=true:=by intro x;kernel_rfl) (hl:jv (F.body.getD .skip)=l:=by kernel_rfl) (hA:okA A:=by intro x;rfl) (hk:okK k:=by intro x;rfl)
  (h:∀N x,AQ E (it N) F k (ap s A x)=ap s (b N (cmp t (jE t) ah)) x:=by intro N x;kernel_rfl):k_ P T g (eg A k c v):=by subst hT;exact flh i.e i.m hF hf hc hl Be hA hk λx f q=>(hv x f q).imp λN e=>(h N x).trans e
section
variable {R:Type} {it:It R} {F:Func}
theorem lq(n:aE){s:ay Ho}(T:Fn s Tb)(l:Kt R->aE->Fn s (aC R))(r:Kt R->Fn s (aC R)->Fn s (aC R)){N:aE}(hr:gk (b8 F n)=n:=by kernel_rfl)(hT:okT T:=by intro x;rfl)
  (hi:∀L K,it n (sA E it (b8 F n)) (canon (E.y_ n)) L K=al T (λK=>l K N) an L K:=by intro L K;rfl) (h0:∀K x,ap s (l K 0) x=none:=by intro K x;rfl) (h1:∀K n,l K (n+1)=r K (l K n):=by intro K n;rfl)
  (h:∀K g x,sA E it (b8 F n) (fN (ap s T x)) (DA g (canon (E.y_ n)) K)=ap s (r K (cmp s T λt=>g (fN t))) x:=by intro K g x;kernel_rfl):cq E it (b8 F n):=
 lo1 n T hr hT l r hi h0 h1 h
theorem lw{n:aE}{K:Kt R}{s:ay Ho}{T:Fn s Tb}{l:aE->Fn s (aC R)}(r:(St->aC R)->Fn s (aC R))
  (h1:∀m,(∀x,iter (sA E it (b8 F n)) (canon (E.y_ n)) m (fN (ap s T x)) K=ap s (l m) x)->r (λσ=>iter (sA E it (b8 F n)) (canon (E.y_ n)) m σ K)=l (m+1)) (h0:∀x,ap s (l 0) x=none:=by intro x;rfl)
  (h:∀g x,sA E it (b8 F n) (fN (ap s T x)) (DA g (canon (E.y_ n)) K)=ap s (r g) x:=by intro g x;kernel_rfl):Wd E it (b8 F n) n K T l:=wl r h0 h1 h
theorem lm(n:aE){a:Tb->Kt R->aC R}(h:Good E it (b8 F n) n a)(hr:gk (b8 F n)=n:=by kernel_rfl)(hi:∀L K,it n (sA E it (b8 F n)) (canon (E.y_ n)) L K=a L K:=by intro L K;rfl):cq E it (b8 F n):=lom n hr hi h
theorem ga{C:Code}{n:aE}{s:ay Ho}(T:Fn s Tb){N:aE}{l:Kt R->aE->Fn s (aC R)}{o:Tb->Kt R->aC R}(h:∀K,Wd E it C n K T (l K))(ho:Good E it C n o)(hT:okT T:=by intro x;rfl):Good E it C n (al T (λK=>l K N) o):=Lh hT h ho
end
end Go.FG

