/- An evaluator for the part of the language that this program uses, proved sound over the model: states told as values and lists; what an evaluation tells, the call does. No condition. -/
import Derived.Calls
import Derived.Orders
import Derived.Below
import Derived.Laws.AppendOwn
import Derived.Laws.Slices
import Derived.Laws.StructEq
import Derived.Laws.Tables
import Derived.Laws.MakeOwn
import Derived.Laws.IdiomStrings
import Derived.Laws.BytesArg
import Derived.Laws.NewFold
import Derived.SizedLaws
import Derived.Carry
import Derived.ProofKit
import Derived.KernelRfl
import Derived.Laws.Strings
import Derived.Test.YtjejmgffiilmlaaGreatCoreb
set_option linter.unusedVariables false
set_option linter.unusedSimpArgs false
set_option maxRecDepth 100000
open Array renaming length_toList->dp,getElem?_eq_some_iff->dF,toList_extract->gC,getElem?_toList->cC,getD_eq_getD_getElem?->dX,toList_append->tl
open Bool renaming true->ai,and_eq_true->aF,false->ak,false_eq_true->cU,not_eq_true'->dt,and_true->qT,not_true->a9,not_false->bS
open ByteArray renaming size->fH,size_append->dn,data_extract->fu,size_extract->vC,extract->bL,data_append->k8
open Go renaming Program->cL,Value->a_,World->bB
open Go.Addr renaming add->Yy
open Go.ByteArray renaming toList_eq->jw
open Go.DataW renaming weightsAll->wX,trod->AY,weights->tu,TrodAll->BS,weightsEach->lP
open Go.IntKind renaming i64->ao,u8->bc,wrap->bC
open Go.Value renaming okWide->qy
open Int renaming toNat->aX,tmod->bI,tdiv->cG,tdiv_eq_ediv_of_nonneg->fZ,mul_le_mul_of_nonneg_left->zi,pow_succ->sO,tmod_eq_emod_of_nonneg->iP
open List renaming getElem?_append_left->dB,getElem?_append_right->cW,getElem?_eq_none->jQ,mem_singleton->aY,mem_append->aZ,length_append->bX,length_take->dU,length_drop->eF,length_map->bP,map_append->c8,getElem?_take->d_,getElem?_drop->dN,getElem?_eq_getElem->lD,mem_cons->cq,getElem?_eq_some_iff->aT,getElem?_of_mem->bV,eq_nil_of_length_eq_zero->fa,getElem?_map->bz,length_eq_one_iff->f_,all_cons->rh,mem_append_left->bR,mem_append_right->bH,append_nil->dH,all_eq_true->bj,append_assoc->cf,map_cons->eK,mem_cons_self->du,mem_cons_of_mem->cM,getD->jm,drop_eq_getElem_cons->dA,set->aw,length_singleton->bQ,beq->c6,range'->mv,ext_getElem?->Ri,extract_eq_take_drop->gm,length->bT,take_add->VR,drop_drop->tv,drop_zero->fA,take_of_length_le->ir
open List.cons renaming injEq->VO,inj->ue
open Nat renaming beq->bh,blt->o0,add_assoc->sb,lt_or_ge->pF,eq_zero_or_pos->xV,eq_of_beq_eq_true->aQ,zero_add->bO,blt_eq->xU,mul_le_mul_right->cN,le_trans->cZ,ble->eL,le_of_ble_eq_true->cu,add_zero->uf
open Option renaming some->ah,none->aj,isSome->mw,getD->VS,map_some->fS
open Option.some renaming inj->aD
open Prod.mk renaming inj->bN,injEq->iw
open _root_ renaming ByteArray->aq,Nat->aE,Option->aA,List->ax,cond_true->ay,if_pos->bu,Bool->aW,absurd->cw,Array->c_,Int->az,decide_eq_true_eq->ba,of_decide_eq_true->cg,cond_false->aC,decide_eq_true->aG,if_neg->bJ,congrArg->kl,decide_eq_decide->b9,UInt8->Em,decide_eq_false->aK
namespace Go.FG
open Go.RowKit Go.ChangeShapes
inductive pR (T:Tab):CV->Prop
 |i (k n):(Lit.int k n).wf=ai->pR T (.i k n)
 |b (x):pR T (.b x)
 |s (x:aq):x.size<=140737488351232->pR T (.s x)
 |l (e xs ti):T.ty e=ah ti->xs.length*ti.bytes<=140737488351232->(∀y∈xs,y.map CV.kd=ti.ks)->(∀y∈xs,∀x∈y,pR T x)->pR T (.l e xs)
def LA(P:cL)(g:aE->aA (ax Ck)):ax Field->aE->aA (ax Ck)
 |[],_=>ah []
 |f::r,off=>match g f.type with
  |some ks=>bif bh f.offset off&&bh (P.cellsOf f.type) ks.length then(match LA P g r (off+ks.length)with|some l=>ah (ks++l)|none=>aj)else aj
  |none=>aj
def Ly(P:cL)(T:Tab):aE->aE->aA (ax Ck)
 |0,_=>aj
 |n+1,t=>match P.underlying t with
  |some (.int k)=>ah [.i k]
  |some .bool=>ah [.b]
  |some .string=>ah [.s]
  |some (.slice e)=>match T.ty e,Ly P T n e with
   |some te,ah ks=>bif oN ks te.ks&&bh te.bytes (P.bytesOf e)&&bh (P.cellsOf e) ks.length&&o0 0 ks.length then ah [.l e]else aj
   |_,_=>aj
  |some (.struct fs)=>match LA P (Ly P T n) fs.toList 0 with
   |some ks=>bif bh (P.cellsOf t) ks.length then ah ks else aj
   |none=>aj
  |_=>aj
def EP:CV->AA
 | .i k n=> .i k n| .b x=> .b x| .s x=> .s x| .l e xs=> .sh e xs
section
variable {H:Type} {enc:TypeId×a_->H} {P:cL} {T:Tab} {w:bB}
def za(w:bB):aE->Prop:=λb=>b<w.heap.size
structure uj (T:Tab) (w:bB) (cs:ax a_) (off:aE) (ys:ax CV) (ks:ax Ck):Prop where
 kd:ys.map CV.kd=ks
 at_:∀(j:aE) (y:CV),ys[j]? =ah y->∃v,cs[off+j]? =ah v/\cQ T w (za w) v y
 fine:∀y∈ys,pR T y
theorem NH(a:Addr)(m k:aE):(a.add m).add k=a.add (m+k):=by
 unfold Yy;by_cases h1:m=0<;>by_cases h2:k=0
 ·simp[h1,h2]
 ·simp[h1,h2]
 ·simp[h1,h2]
 ·simp[h1,h2,sb]
theorem Y5(b o n:aE):(ad b o).add n=ad b (o+n):=by unfold Yy;by_cases h:n=0<;>simp[h]
theorem w8{α:Type}{p:aE->α->Prop}:∀n:aE,(∀i,i<n->∃y,p i y)->∃xs:ax α,xs.length=n/\∀(i:aE) (y:α),xs[i]? =ah y->p i y
 |0,_=>⟨[],rfl,λi y h=>by simp at h⟩
 |n+1,h=>by
  obtain⟨xs,h1,h2⟩:=w8 n (λi hi=>h i (by omega));obtain⟨y,hy⟩:=h n (by omega);refine⟨xs++[y],by simp[h1],λi z hz=> ?_⟩
  rcases pF i xs.length with hi|hi
  ·rw[dB hi]at hz;exact h2 i z hz
  ·rw[cW hi]at hz;have:i-xs.length=0:=by
    rcases xV (i-xs.length)with h|h
    ·exact h
    ·rw[jQ (by simp;omega)]at hz;cases hz
   rw[this]at hz;cases hz;have:i=n:=by omega
   subst this;exact hy
theorem rQ{v:a_}{y:CV}{k:Ck}(hk:y.kd=k)(hh:cQ T w (za w) v y)(hf:pR T y):uj T w [v] 0 [y] [k] where
 kd:=by simp[hk]
 at_ j y' hj:=by
  cases j with
  |zero=>cases hj;exact⟨v,rfl,hh⟩
  |succ j=>simp at hj
 fine y' hy:=by rw[aY]at hy;subst hy;exact hf
theorem rY{e:TypeId}:∀{ds:ax (DataW H)} {i:aE} {d:DataW H},ds[i]? =ah d->∀n∈d.weights P e,n∈wX P e ds
 |[],_,_,h,_,_=>by simp at h
 |d0::ds,0,d,h,n,hn=>by cases h;simp only[wX,aZ];exact .inl hn
 |d0::ds,i+1,d,h,n,hn=>by simp only[wX,aZ];exact .inr (rY (ds:=ds) (i:=i) h n hn)
theorem K7{g:aE->aA (ax Ck)}{cs:ax a_}
  (hg:∀t ks,g t=ah ks->∀(fuel:aE) (cs:ax a_) (x:DataW H×ax MemPlace) sp hd,AY enc P w 0 sp hd fuel t cs=ah x->(∀m∈x.1.weights P t,m<=reachBytes)->cs.length=P.cellsOf t->∃ys,uj T w cs 0 ys ks):
  ∀(fs:ax Field) (off:aE) (ks:ax Ck),LA P g fs off=ah ks->off+ks.length<=cs.length->∀(xs:ax (DataW H×ax MemPlace)) (fuel:aE) sp hd,xs.length=fs.length->
   (∀(i:aE) (f:Field),fs[i]? =ah f->AY enc P w 0 sp hd fuel f.type ((cs.drop f.offset).take (P.cellsOf f.type))=xs[i]?)->
   (∀(i:aE) (f:Field) x,fs[i]? =ah f->xs[i]? =ah x->∀m∈x.1.weights P f.type,m<=reachBytes)->∃ys,uj T w cs off ys ks:=by
 intro fs;induction fs with
 |nil=>intro off ks h _ xs fuel sp hd _ _ _;cases h;exact⟨[],⟨rfl,λj y hj=>by simp at hj,λy hy=>by cases hy⟩⟩
 |cons f fs ih=>
  intro off ks h hlen xs fuel sp hd hxl Mv Z9;unfold LA at h;cases hgf:g f.type with
  |none=>rw[hgf]at h;cases h
  |some k1=>
   rw[hgf]at h;dsimp only at h;cases hb:(bh f.offset off&&bh (P.cellsOf f.type) k1.length)with
   |false=>rw[hb]at h;cases h
   |true=>
    rw[hb,ay]at h;simp only[aF]at hb;have e1:=aQ hb.1;have e2:=aQ hb.2;cases hr:LA P g fs (off+k1.length)with
    |none=>rw[hr]at h;cases h
    |some k2=>
     rw[hr]at h;have h:k1++k2=ks:=by injection h
     subst h;rw[bX]at hlen;cases xs with
     |nil=>simp at hxl
     |cons x xs=>
      have h0:=Mv 0 f rfl;rw[show(x::xs)[0]? =ah x from rfl]at h0;obtain⟨y1,c1⟩:=hg _ _ hgf fuel _ x sp hd h0 (Z9 0 f x rfl rfl) (by rw[dU,eF];omega);obtain⟨y2,c2⟩:=ih (off+k1.length) k2 hr (by omega) xs fuel sp hd (by simpa using hxl) (λi f' hf=>Mv (i+1) f' hf) (λi f' x' hf hx=>Z9 (i+1) f' x' hf hx);have hl1:y1.length=k1.length:=by rw[<-c1.kd,bP]
      refine⟨y1++y2,⟨by rw[c8,c1.kd,c2.kd],λj y hj=> ?_,λy hy=> ?_⟩⟩
      ·rcases pF j y1.length with jt|jt
       ·rw[dB jt]at hj;obtain⟨v,hv,hh⟩:=c1.at_ j y hj;refine⟨v, ?_,hh⟩
        rw[bO,d_,bu (by omega),dN,e1]at hv;exact hv
       ·rw[cW jt]at hj;obtain⟨v,hv,hh⟩:=c2.at_ _ y hj;refine⟨v, ?_,hh⟩
        rw[show off+k1.length+(j-y1.length)=off+j by omega]at hv;exact hv
      ·rcases aZ.1 hy with hy|hy
       ·exact c1.fine y hy
       ·exact c2.fine y hy
theorem Ap(hE:dS P T):∀(n t:aE) (ks:ax Ck),Ly P T n t=ah ks->∀(fuel:aE) (cs:ax a_) (x:DataW H×ax MemPlace) sp hd,AY enc P w 0 sp hd fuel t cs=ah x->(∀m∈x.1.weights P t,m<=reachBytes)->cs.length=P.cellsOf t->∃ys,uj T w cs 0 ys ks:=by
 intro n;induction n with
 |zero=>intro t ks h;cases h
 |succ n ih=>
  intro t ks h fuel cs x sp hd Mv Z9 nT;unfold Ly at h;split at h
  ·rename_i k hu;cases h;obtain⟨m,rfl,rfl,hwf⟩:=DataW.trod_int hu Mv;exact⟨[.i k m],rQ rfl (.i _ _) (.i _ _ hwf)⟩
  ·rename_i hu;cases h;obtain⟨m,rfl,rfl⟩:=DataW.trod_bool hu Mv;exact⟨[.b m],rQ rfl (.b _) (.b _)⟩
  ·rename_i hu;cases h;obtain⟨m,rfl,rfl,hmx⟩:=DataW.trod_string hu Mv;have hz:m.size<=140737488351232:=by have:=Z9 m.data.toList.length (by simp[tu]);rw[dp]at this;exact this
   exact⟨[.s m],rQ rfl (.s _ (show m.size<=4611686018427387904 by omega)) (.s _ hz)⟩
  ·rename_i e hu;split at h
   ·rename_i te ke HE hke;cases hb:(oN ke te.ks&&bh te.bytes (P.bytesOf e)&&bh (P.cellsOf e) ke.length&&o0 0 ke.length)with
    |false=>rw[hb]at h;cases h
    |true=>
     rw[hb]at h;cases h;simp only[aF]at hb;obtain⟨⟨⟨b1,b2⟩,b3⟩,b4⟩:=hb;have e1:=mG b1;have e2:=aQ b2;have e3:=aQ b3;have e4:0<ke.length:=by simpa [xU]using b4
     subst e1;rcases DataW.trod_slice hu Mv with ⟨rfl,rfl⟩|⟨a,len,cap,elems,rest,m,rfl,rfl,rfl,_,hlc,hcm,Ry,fN,_,_⟩
     ·exact⟨[.l e []],rQ rfl (.nl _ _ _) (.l e [] te HE (by simp) (λy hy=>by cases hy) (λy hy=>by cases hy))⟩
     ·have hwl:len*te.bytes<=140737488351232:=by have:=Z9 ((elems.length+rest.length)*P.bytesOf e) (by simp[tu,hu]);rw[<-e2,Ry]at this;have h2:len*te.bytes<=(len+rest.length)*te.bytes:=cN _ (by omega);exact cZ h2 this
      have one:∀i,i<len->∃ys:ax CV,(∀(j:aE) (y:CV),ys[j]? =ah y->∃v,w.cell? (a.add (i*te.ks.length+j))=ah v/\cQ T w (za w) v y)/\ys.map CV.kd=te.ks/\∀y∈ys,pR T y:=by
       intro i hi;have h1:=fN i hi;have km:i<elems.length:=by omega
       rw[lD km]at h1;cases hc:w.cells? 0 (a.add (i*P.cellsOf e)) (P.cellsOf e)with
       |none=>rw[hc]at h1;cases h1
       |some cs=>
        rw[hc]at h1;have h1:AY enc P w 0 sp hd m e cs=ah elems[i]:=h1;obtain⟨_,nT,hcell⟩:=World.cells?_some hc;obtain⟨ys,c⟩:=ih e te.ks hke m cs _ sp hd h1 (λz hz=>Z9 z (by simp only[tu,hu,cq,aZ];exact .inr (.inl (rY (i:=i) (d:=elems[i].1) (by simp[km]) z hz)))) nT;refine⟨ys,λj y hj=> ?_,c.kd,c.fine⟩
        obtain⟨v,hv,hh⟩:=c.at_ j y hj;rw[bO]at hv;have jt:=(aT.1 hv).1;have:=hcell j (by omega);rw[hv]at this;refine⟨v, ?_,hh⟩
        rw[<-e3];rw[<-NH];exact this
      obtain⟨xs,hxl,hx⟩:=w8 len one;have adt:pR T (.l e xs):=by
       refine .l e xs te HE (by rw[hxl];exact hwl) (λy hy=> ?_) (λy hy=> ?_)
       ·obtain⟨i,hi⟩:=bV hy;exact(hx i y hi).2.1
       ·obtain⟨i,hi⟩:=bV hy;exact(hx i y hi).2.2
      refine⟨[.l e xs],rQ rfl ?_ adt⟩
      rcases xV len with h0|h0
      ·have:xs=[]:=fa (by omega);subst this;rw[h0];exact .nl _ _ _
      ·have hx0:xs[0]? =ah xs[0]:=by rw[lD (by omega)]
       obtain⟨c0,k0,_⟩:=hx 0 _ hx0;have hy0:0<(xs[0]).length:=by rw[<-bP (f:=CV.kd),k0];exact e4
       obtain⟨v0,Mw,_⟩:=c0 0 _ (lD hy0);obtain⟨b,o,s⟩:=a;have hs:s=aj/\b<w.heap.size:=by
        unfold World.cell? at Mw;have e0:(Addr.mk b o s).add (0*te.ks.length+0)=⟨b,o,s⟩:=by simp[Yy]
        rw[e0]at Mw;split at Mw
        ·rename_i hh;refine⟨?_,(dF.1 hh).1⟩
         cases s with
         |none=>rfl
         |some s=>simp at Mw
        ·cases Mw
       obtain⟨rfl,hbl⟩:=hs;let U:aE->aE->a_:=λi j=>(w.cell? (ad b (o+i*te.ks.length+j))).getD undef;have ar:∀i j y z,xs[i]? =ah y->y[j]? =ah z->w.cell? (ad b (o+i*te.ks.length+j))=ah (U i j)/\cQ T w (za w) (U i j) z:=by
        intro i j y z hi hj;obtain⟨v,hv,hh⟩:=(hx i y hi).1 j z hj;have hv:w.cell? ((ad b o).add (i*te.ks.length+j))=ah v:=hv;rw[Y5,<-sb]at hv;have:U i j=v:=by simp only[U,hv];rfl
        rw[this];exact⟨hv,hh⟩
       rw[<-hxl];exact .l e xs b o cap te U HE (by omega) hcm hbl (λy hy=>by obtain⟨i,hi⟩:=bV hy;exact(hx i y hi).2.1) (λi j y z hi hj=>(ar i j y z hi hj).1) (λi j y z hi hj=>(ar i j y z hi hj).2)
   ·cases h
  ·rename_i fs hu;obtain⟨xs,m,rfl,rfl,ZM,hxl,hf⟩:=DataW.trod_struct hu Mv;cases hlf:LA P (Ly P T n) fs.toList 0 with
   |none=>rw[hlf]at h;cases h
   |some ks'=>
    rw[hlf]at h;obtain⟨hb,rfl⟩:=B7 h;refine K7 ih fs.toList 0 _ hlf ?_ xs m sp hd (by simpa using hxl) (λi f hi=>hf i f (by simpa using hi)) (λi f x hi hx z hz=>Z9 z ?_)
    ·have:=aQ hb;omega
    ·simp only[tu,hu];refine DataW.weights_mem_each (j:=i) (t:=f.type) (d:=x.1) ?_ ?_ z hz
     ·rw[bz,hi];rfl
     ·rw[bz,hx];rfl
  ·cases h
end
end Go.FG

namespace Go.FG
open Go.RowKit Go.ChangeShapes
def mT(T:Tab):ax aE->ax (ax CV)->ax eC
 |t::ts,ys::qv=>eC.v (match T.ty t with|some ti=>ti.agg|none=>ak) (ys.map EP)::mT T ts qv
 |_,_=>[]
def nK(T:Tab):ax aE->ax (ax CV)->Prop
 |[],[]=>True
 |t::ts,ys::qv=>(∃ti,T.ty t=ah ti/\ys.map CV.kd=ti.ks)/\(∀y∈ys,pR T y)/\nK T ts qv
 |_,_=>False
def LP(P:cL)(T:Tab)(n:aE)(t:aE):aW:=
 match T.ty t,Ly P T n t,P.underlying t with
 |some ti,ah ks,ah d=>oN ks ti.ks&&(match d with| .struct _=>ti.agg| .array _ _=>ak|_=> !ti.agg)&&P.readableRec t&&decide (t<P.types.size)
 |_,_,_=>ak
theorem Y3{T:Tab}{w:bB}{c:eB}(hc:∀b,za w b->c.K b){v:a_}{y:CV}(h:cQ T w (za w) v y)(nm:aE):dP T w c (j8 nm (EP y)) v:=by
 have h:cQ T w c.K v y:=h.frame (λ_ _=>rfl) hc;cases y with
 |i k n=>cases h;rfl
 |b x=>cases h;rfl
 |s x=>cases h with|s _ ho=>exact⟨rfl,ho⟩
 |l e xs=>exact h
section
variable {H:Type} {enc:TypeId×a_->H} {P:cL} {T:Tab} {w:bB}
theorem Zc(hE:dS P T){n t:aE}(hp:LP P T n t=ai){v:a_}{d:DataW H}{ps:ax MemPlace}{sp:aE->aW}{hd:aW}{base:aE}(hv:qy P w .any base t v)(h:DataW.Trod enc P w 0 sp hd t v d ps)(hw:∀m∈d.weights P t,m<=reachBytes):
  ∃ys:ax CV,(∃ti,T.ty t=ah ti/\ys.map CV.kd=ti.ks)/\(∀y∈ys,pR T y)/\∀c:eB,(∀b,za w b->c.K b)->∀p,iA T w c (rL p (eC.v (match T.ty t with|some ti=>ti.agg|none=>ak) (ys.map EP))) v:=by
 unfold LP at hp;split at hp
 ·rename_i ti ks dd ht hl hu;simp only[aF]at hp;obtain⟨⟨⟨h1,h2⟩,_⟩,_⟩:=hp;have e1:=mG h1;subst e1;obtain⟨fuel,Mv⟩:=h;obtain⟨inf,hi,fm,_⟩:=hE.info t ti ht;have hct:P.cellsOf t=ti.ks.length:=by unfold Program.cellsOf;rw[hi];exact fm
  have cell:∀(ys:ax CV) (cs:ax a_),uj T w cs 0 ys ti.ks->∀c:eB,(∀b,za w b->c.K b)->∀(p j:aE) (a:AV),(fC (dI p 0) (ys.map EP))[j]? =ah a->∃u:a_,cs[j]? =ah u/\dP T w c a u:=by
   intro ys cs hc c hK p j a hj;rw[gK,bz]at hj;cases hy:ys[j]? with
   |none=>rw[hy]at hj;cases hj
   |some y=>rw[hy]at hj;cases hj;obtain⟨u,qB,hh⟩:=hc.at_ j y hy;rw[bO]at qB;exact⟨u,qB,Y3 hK hh _⟩
  cases sw:ti.agg with
  |true=>
   have Lq:∃fs,dd= .struct fs:=by cases dd<;>simp[sw]at h2;exact⟨_,rfl⟩
   obtain⟨fs,rfl⟩:=Lq;unfold qy at hv;rw[hu]at hv;obtain⟨cs,rfl,A3,_⟩:=hv;obtain⟨ys,hc⟩:=Ap hE n t ti.ks hl fuel cs.toList (d,ps) sp hd Mv hw (by simpa using A3);refine⟨ys,⟨ti,ht,hc.kd⟩,hc.fine,λc hK p=> ?_⟩
   rw[ht];show o4 T w c ti.agg (fC (dI p 0) (ys.map EP)) _;rw[sw];refine⟨cs,rfl, ?_,λj a hj=> ?_⟩
   ·rw[g6,bP,A3,hct,<-hc.kd,bP]
   ·obtain⟨u,qB,ha⟩:=cell ys cs.toList hc c hK p j a hj;exact⟨u,by simpa using qB,ha⟩
  |false=>
   have Lq:∀fs,dd≠ .struct fs:=by intro fs he;subst he;simp[sw]at h2
   have har:∀m e,dd≠ .array m e:=by intro m e he;subst he;cases h2
   have hcell:Cell.okWide P w .any base t v:=by
    unfold qy at hv;rw[hu]at hv;split at hv
    ·rename_i fs he;cases he;exact cw rfl (Lq fs)
    ·rename_i m e he;cases he;exact cw rfl (har m e)
    ·exact hv
   have Fx:v.cells= #[v]:=by
    cases v<;>first|rfl|skip
    rename_i cs;exfalso;unfold Cell.okWide at hcell;rw[hu]at hcell;cases dd<;>simp[Cell.ok,hu]at hcell
   obtain⟨dd',hu2,_,hn⟩:=hE.desc t ti ht;have h1:ti.ks.length=1:=by rcases hn sw with ⟨k,h,_⟩|⟨h,_⟩|⟨h,_⟩|⟨e',h,_⟩|⟨h,_⟩<;>simp[h]
   rw[Fx]at Mv;obtain⟨ys,hc⟩:=Ap hE n t ti.ks hl fuel [v] (d,ps) sp hd Mv hw (by rw[hct,h1];rfl);have GD:ys.length=1:=by rw[<-bP (f:=CV.kd),hc.kd,h1]
   obtain⟨y,rfl⟩:=f_.1 GD;refine⟨[y],⟨ti,ht,hc.kd⟩,hc.fine,λc hK p=> ?_⟩
   rw[ht];show o4 T w c ti.agg [j8 (dI p 0) (EP y)] _;rw[sw];obtain⟨u,qB,ha⟩:=cell [y] [v] hc c hK p 0 _ rfl;cases qB;exact ha
 ·cases hp
theorem Ss(hE:dS P T){n:aE}{sp:aE->aW}{hd:aW}{base:aE}:∀{ts:ax aE} {vs:ax a_} {ds:ax (DataW H)} {ps:ax MemPlace},ts.all (LP P T n)=ai->
  BS enc P w 0 sp hd ts vs ds ps->(∀(j:aE) t v,ts[j]? =ah t->vs[j]? =ah v->qy P w .any base t v)->(∀m∈lP P ts ds,m<=reachBytes)->
  ∃qv,nK T ts qv/\vs.length=(mT T ts qv).length/\ds.length=ts.length/\∀c:eB,(∀b,za w b->c.K b)->∀(q p:aE) (x:eC),(mT T ts qv)[p]? =ah x->∃v,vs[p]? =ah v/\iA T w c (rL (q+p) x) v:=by
 intro ts;induction ts with
 |nil=>intro vs ds ps _ h _ _;obtain⟨rfl,rfl,rfl⟩:=trodAll_nil h;exact⟨[],trivial,rfl,rfl,λc _ q p x h=>by simp[mT]at h⟩
 |cons t ts ih=>
  intro vs ds ps hp h b7 hw;simp only[rh,aF]at hp;obtain⟨v,vs,d,ds,p,q,rfl,rfl,rfl,h0,r0⟩:=trodAll_cons h;obtain⟨ys,y1,y2,y3⟩:=Zc hE hp.1 (b7 0 t v rfl rfl) h0 (λm hm=>hw m (by simp only[lP,aZ];exact .inl hm));obtain⟨qv,z1,z2,z4,z3⟩:=ih hp.2 r0 (λj t v hj hv=>b7 (j+1) t v hj hv) (λm hm=>hw m (by simp only[lP,aZ];exact .inr hm));refine⟨ys::qv,⟨y1,y2,z1⟩,by simp[mT,z2],by simp[z4],λc hK q p x hx=> ?_⟩
  cases p with
  |zero=>cases hx;exact⟨v,rfl,y3 c hK q⟩
  |succ p=>obtain⟨v',h1,h2⟩:=z3 c hK (q+1) p x hx;exact⟨v',h1,by rw[show q+(p+1)=q+1+p by omega];exact h2⟩
theorem mF{m:aE}{ob:Obj}:∀{ts:ax aE} {qv:ax (ax CV)},inj (mT T ts qv) (cK m)≠ .o ob:=by
 intro ts qv h;obtain⟨p,a,h0,hh⟩:=yP h;have:∀(ts:ax aE) (qv:ax (ax CV)) (p:aE) (a:eC),(mT T ts qv)[p]? =ah a->∃(g:aW) (ys:ax CV),a= .v g (ys.map EP):=by
  intro ts;induction ts with
  |nil=>intro qv p a h;simp[mT]at h
  |cons t ts ih=>
   intro qv p a h;cases qv with
   |nil=>simp[mT]at h
   |cons ys qv=>
    cases p with
    |zero=>cases h;exact⟨_,ys,rfl⟩
    |succ p=>exact ih qv p a h
 obtain⟨g,ys,rfl⟩:=this _ _ _ _ h0;rcases hh with ⟨xs,h1,_⟩|⟨xs,j,e,ex,zs,h1,h2,_⟩
 ·cases h1
 ·have h1:ys.map EP=xs:=by rcases h1 with ⟨g',h1⟩|h1<;>cases h1;rfl
  subst h1;rw[bz]at h2;cases hy:ys[j]? with
  |none=>rw[hy]at h2;cases h2
  |some y=>rw[hy]at h2;cases y<;>cases h2
theorem Ec(hl:laidOutB P=ai){W':bB}(hb:Below w.heap.size w W'){n:aE}:∀{ts:ax aE} {vs:ax a_} {ds:ax (DataW H)} {ps:ax MemPlace},ts.all (LP P T n)=ai->BS enc P w 0 (λ_=>ai) ai ts vs ds ps->(∀x∈ps,x.block<w.heap.size)->
  BS enc P W' 0 (λb=>decide (b<w.heap.size)) ai ts vs ds ps:=by
 intro ts;induction ts with
 |nil=>intro vs ds ps _ h _;obtain⟨rfl,rfl,rfl⟩:=trodAll_nil h;exact h
 |cons t ts ih=>
  intro vs ds ps hp h ji;simp only[rh,aF]at hp;obtain⟨v,vs,d,ds,p,q,rfl,rfl,rfl,h0,r0⟩:=trodAll_cons h;have Lm:=hp.1;unfold LP at Lm;split at Lm
  ·simp only[aF]at Lm;exact⟨p,q,Below.trod hl Lm.1.2 (by simpa using Lm.2) h0 hb (λx hx=>ji x (bR _ hx)),ih hp.2 r0 (λx hx=>ji x (bH _ hx)),rfl⟩
  ·cases Lm
end
theorem DP{H:Type}{enc:TypeId×a_->H}{C:Checked}{T:Tab}(hE:dS C.prog T)(hl:laidOutB C.prog=ai){g tb n:aE}{fn:Func}{spec:ax eC->aA (aW×dz)}(hF:kS C.prog T g spec){s:ChangeSpec}
  (adL:fn.params.toList.all (LP C.prog T n)=ai) (alw:fn.resultTypes= #[tb]) (htb:C.prog.underlying tb=ah .bool) (OE:s.vars=[])
  (hfn:∀ds:ax (DataW H),ds.length=fn.params.toList.length->s.fn H ds={results:=[.lit (.bool ai)],args:=ds})
  (claim:∀qv,nK T fn.params.toList qv->spec (mT T fn.params.toList qv)=ah (ai,⟨[.v ak [.b ai]],[]⟩))
  (W:bB) (base:aE) (args:c_ a_) (ds gs:ax (DataW H)) (before:ax MemPlace)
  (hval:∀(j:aE) t v,fn.params[j]? =ah t->args[j]? =ah v->qy C.prog W .any base t v)
  (hW:DataW.Whole enc C.prog fn.params.toList s.vars ak W args.toList ds gs before)
  (fm:(lP C.prog (fn.params.toList++s.plain.varTypes C.prog) (ds++gs)).all (·<=reachBytes)=ai) (hgp:T.gp.f W (za W)):
  Calls C.prog g args W λe W'=>∃v,e= .returned v/\s.post enc C.prog fn ak ai ak ak W args v W':=by
 have hW':=hW;obtain⟨p,q,hA,hV,rfl,hfz,Fv⟩:=hW;have ji:=hW'.lt;rw[OE]at hV;have hgs:gs=[]/\q=[]:=by
  cases gs with
  |nil=>exact⟨rfl,hV⟩
  |cons=>exact hV.elim
 obtain⟨rfl,rfl⟩:=hgs;have hw:∀m∈lP C.prog fn.params.toList ds,m<=reachBytes:=by
  intro m hm;rw[dH]at fm;have e:s.plain.varTypes C.prog=[]:=by unfold DataSpec.varTypes ChangeSpec.plain;simp[OE]
  rw[e,dH]at fm;have:=bj.1 fm m hm;simpa using this
 obtain⟨qv,Ti,hlen,hdl,qA⟩:=Ss hE adL hA (λj t v hj hv=>hval j t v (by simpa using hj) (by simpa using hv)) hw;let nl:Pl:=⟨ai,0,0,0,0,0⟩
 let c1:eB:=⟨λ_=>nl,λ_ _ _=>nl,za W⟩
 have b7:Ok T (inj (mT T fn.params.toList qv)) W c1:=⟨λnm o h=>cw h mF,λnm o uZ o' b h=>cw h mF,λnm o b h=>cw h mF,λb hb=>hb,λnm xs h=>cw h mF,hgp⟩
 obtain⟨_,hc⟩:=hF _ _ (claim qv Ti) W c1 args b7 (by rw[<-hlen];simp) (λp x hx=>by obtain⟨v,h1,h2⟩:=qA c1 (λ_ h=>h) 0 p x hx;rw[bO]at h2;exact⟨v,by simpa using h1,h2⟩);refine hc.mono λe W' hR=> ?_;cases e with
 |panicked=>exact hR.elim
 |outgrown=>exact hR.elim
 |returned v=>
  obtain⟨c3,_,vI,_,vK⟩:=hR;have hv:v= .bool true:=vK;subst hv;have hb:Below W.heap.size W W':=⟨vI.os,vI.tape,vI.output,vI.size,λk hk=>vI.same k hk (λ⟨nm,o,h,_⟩=>mF h)⟩
  have OB:=hfn ds hdl;refine⟨_,rfl,ds,[],_,[],p,[],hW', ?_, ?_, ?_,hb.frame _,λh=>by cases h⟩
  ·rw[dH,OB,alw];exact trodAll_mk1 (shut_bool htb _)
  ·rw[dH,OB];exact Ec hl hb adL hA (λx hx=>ji x (bR _ hx))
  ·rw[dH,OB,OE];rfl
end Go.FG

namespace Go.FG
def ig(s:aq)(i:aE):aE:=(s.data.getD i 0).toNat
abbrev bE(x:az):az:=ao.wrap x
inductive fO where
 |I (n:az)|B (x:aW)|S (x:aq)|R (xs:aU)|N (n:aE)
def gI:ax fO->az| .I n::_=>n|_=>0
def gB:ax fO->aW| .B n::_=>n|_=>ak
def gS:ax fO->aq| .S n::_=>n|_=>⟨#[]⟩
def gR:ax fO->aU| .R n::_=>n|_=>[]
def gN:ax fO->aE| .N n::_=>n|_=>0
def hCV:CV->ax fO
 | .i _ n=>[.I n]| .b x=>[.B x]| .s x=>[.S x]| .l _ xs=>[.R xs]
def sCV:CV->CV->aW
 | .i k _, .i k' _=>decide (k=k')| .b _, .b _=>ai| .s _, .s _=>ai| .l e _, .l e' _=>bh e e'|_,_=>ak
def fCV(s:CV)(l:ax fO):CV×ax fO:=
 match s with
 | .i k _=>(.i k (gI l),l.tail)| .b _=>(.b (gB l),l.tail)| .s _=>(.s (gS l),l.tail)| .l e _=>(.l e (gR l),l.tail)
def Fm:ax CV->ax fO|[]=>[]|a::r=>hCV a++Fm r
def D7:ax CV->ax CV->aW|[],[]=>ai|a::r,b::t=>sCV a b&&D7 r t|_,_=>ak
def wD:ax CV->ax fO->ax CV×ax fO
 |[],l=>([],l)|a::r,l=>((fCV a l).1::(wD r (fCV a l).2).1,(wD r (fCV a l).2).2)
def Cn:ax (ax CV)->ax fO|[]=>[]|a::r=>Fm a++Cn r
def CE:ax (ax CV)->ax (ax CV)->aW|[],[]=>ai|a::r,b::t=>D7 a b&&CE r t|_,_=>ak
def xB:ax (ax CV)->ax fO->ax (ax CV)×ax fO
 |[],l=>([],l)|a::r,l=>((wD a l).1::(xB r (wD a l).2).1,(xB r (wD a l).2).2)
theorem Zw{s a:CV}(h:sCV s a=ai)(l:ax fO):fCV s (hCV a++l)=(a,l):=by
 cases s<;>cases a<;>simp only[sCV,ba,cU,Nat.beq_eq]at h<;>first|exact h.elim|skip
 all_goals first|(subst h;rfl)|rfl
theorem uK:∀{s a:ax CV},D7 s a=ai->∀l,wD s (Fm a++l)=(a,l)
 |[],[],_,l=>rfl
 |s::ss,a::as,h,l=>by
  simp only[D7,aF]at h;simp only[wD,Fm,cf,Zw h.1,uK h.2]
 |[],_::_,h,_=>by cases h
 |_::_,[],h,_=>by cases h
theorem zP:∀{s a:ax (ax CV)},CE s a=ai->∀l,xB s (Cn a++l)=(a,l)
 |[],[],_,l=>rfl
 |s::ss,a::as,h,l=>by
  simp only[CE,aF]at h;simp only[xB,Cn,cf,uK h.1,zP h.2]
 |[],_::_,h,_=>by cases h
 |_::_,[],h,_=>by cases h
def hAV:AV->ax fO
 | .i _ n=>[.I n]| .b x=>[.B x]| .s x=>[.S x]| .sh _ xs=>[.R xs]| .vw _ lo hi=>[.N lo, .N hi]| .rp _ i _=>[.N i]
 | .sp _ xs i _=>[.R xs, .N i]| .inn _ i _=>[.N i]| .ip _ i _ i2 _=>[.N i, .N i2]| .fn _ g7=>Cn g7| .fp xs _=>Fm xs|_=>[]
def UR:AV->AV->aW
 | .i k _, .i k' _=>decide (k=k')| .b _, .b _=>ai| .s _, .s _=>ai| .sh e _, .sh e' _=>bh e e'| .nl, .nl=>ai
 | .own n, .own n'=>bh n n'| .vw n _ _, .vw n' _ _=>bh n n'| .bp n j, .bp n' j'=>bh n n'&&bh j j'| .rp n _ j, .rp n' _ j'=>bh n n'&&bh j j'
 | .sp e _ _ j, .sp e' _ _ j'=>bh e e'&&bh j j'| .inn n _ j, .inn n' _ j'=>bh n n'&&bh j j'
 | .ip n _ j _ q, .ip n' _ j' _ q'=>bh n n'&&bh j j'&&bh q q'| .fn f c, .fn f' c'=>bh f f'&&CE c c'| .fp c j, .fp c' j'=>bh j j'&&D7 c c'
 |_,_=>ak
def fAV(s:AV)(l:ax fO):AV×ax fO:=
 match s with
 | .i k _=>(.i k (gI l),l.tail)| .b _=>(.b (gB l),l.tail)| .s _=>(.s (gS l),l.tail)| .sh e _=>(.sh e (gR l),l.tail)
 | .vw n _ _=>(.vw n (gN l) (gN l.tail),l.tail.tail)| .rp n _ j=>(.rp n (gN l) j,l.tail)| .sp e _ _ j=>(.sp e (gR l) (gN l.tail) j,l.tail.tail)
 | .inn n _ j=>(.inn n (gN l) j,l.tail)| .ip n _ j _ q=>(.ip n (gN l) j (gN l.tail) q,l.tail.tail)| .fn f c=>(.fn f (xB c l).1,(xB c l).2)| .fp c j=>(.fp (wD c l).1 j,(wD c l).2)
 |a=>(a,l)
def Lc:ax AV->ax fO|[]=>[]|a::r=>hAV a++Lc r
def H9:ax AV->ax AV->aW|[],[]=>ai|a::r,b::t=>UR a b&&H9 r t|_,_=>ak
def zO:ax AV->ax fO->ax AV×ax fO
 |[],l=>([],l)|a::r,l=>((fAV a l).1::(zO r (fAV a l).2).1,(zO r (fAV a l).2).2)
def SJ(a b:aW):aW:=bif a then b else !b
def SY:ax (aW×ax AV)->ax fO|[]=>[]|(_,xs)::r=>Lc xs++SY r
def Qh:ax (aW×ax AV)->ax (aW×ax AV)->aW
 |[],[]=>ai|(g,xs)::r,(g',ys)::t=>SJ g g'&&H9 xs ys&&Qh r t|_,_=>ak
def K6:ax (aW×ax AV)->ax fO->ax (aW×ax AV)×ax fO
 |[],l=>([],l)|(g,xs)::r,l=>((g,(zO xs l).1)::(K6 r (zO xs l).2).1,(K6 r (zO xs l).2).2)
def Ld:dY->ax fO
 | .v (.v _ xs)=>Lc xs| .v (.jh l)=>SY l| .o (.box xs)=>Lc xs| .o (.mU cs)=>Fm cs| .o (.row _ _ xs)=>[.R xs]| .o (.eZ _ xs)=>[.R xs]|_=>[]
def UT:dY->dY->aW
 | .v (.v g xs), .v (.v g' ys)=>SJ g g'&&H9 xs ys| .v (.jh l), .v (.jh r)=>Qh l r| .v .un, .v .un=>ai
 | .o (.box xs), .o (.box ys)=>H9 xs ys| .o (.mU c), .o (.mU c')=>D7 c c'| .o (.row e x _), .o (.row e' x' _)=>bh e e'&&SJ x x'| .o (.eZ e _), .o (.eZ e' _)=>bh e e'
 | .o .dead, .o .dead=>ai| .iU, .iU=>ai|_,_=>ak
def Hj(c:dY)(l:ax fO):dY×ax fO:=
 match c with
 | .v (.v g xs)=>(.v (.v g (zO xs l).1),(zO xs l).2)| .v (.jh r)=>(.v (.jh (K6 r l).1),(K6 r l).2)
 | .o (.box xs)=>(.o (.box (zO xs l).1),(zO xs l).2)| .o (.mU c)=>(.o (.mU (wD c l).1),(wD c l).2)| .o (.row e x _)=>(.o (.row e x (gR l)),l.tail)| .o (.eZ e _)=>(.o (.eZ e (gR l)),l.tail)
 |c=>(c,l)
def Fw:ax (aE×dY)->ax fO|[]=>[]|(_,c)::r=>Ld c++Fw r
def wP:ax (aE×dY)->ax (aE×dY)->aW
 |[],[]=>ai|(k,c)::r,(k',c')::t=>bh k k'&&UT c c'&&wP r t|_,_=>ak
def Jt:ax (aE×dY)->ax fO->ax (aE×dY)
 |[],_=>[]|(k,c)::r,l=>(k,(Hj c l).1)::Jt r (Hj c l).2
theorem zM{a b:aW}(h:SJ a b=ai):a=b:=by cases a<;>cases b<;>first|rfl|cases h
theorem Zv{s a:AV}(h:UR s a=ai)(l:ax fO):fAV s (hAV a++l)=(a,l):=by
 match s,a,h with
 | .fn f c, .fn f' c',h=>simp only[UR,aF]at h;have h1:=aQ h.1;subst h1;simp only[fAV,hAV,zP h.2]
 | .fp c j, .fp c' j',h=>simp only[UR,aF]at h;have h1:=aQ h.1;subst h1;simp only[fAV,hAV,uK h.2]
 | .i k _, .i k' _,h=>have h1:=cg (show decide (k=k')=ai from h);subst h1;rfl
 | .b _, .b _,_=>rfl
 | .s _, .s _,_=>rfl
 | .sh e _, .sh e' _,h=>have h1:=aQ (show bh e e'=ai from h);subst h1;rfl
 | .nl, .nl,_=>rfl
 | .own n, .own n',h=>have h1:=aQ (show bh n n'=ai from h);subst h1;rfl
 | .vw n _ _, .vw n' _ _,h=>have h1:=aQ (show bh n n'=ai from h);subst h1;rfl
 | .bp n j, .bp n' j',h=>simp only[UR,aF]at h;have h1:=aQ h.1;have h2:=aQ h.2;subst h1;subst h2;rfl
 | .rp n _ j, .rp n' _ j',h=>simp only[UR,aF]at h;have h1:=aQ h.1;have h2:=aQ h.2;subst h1;subst h2;rfl
 | .sp n _ _ j, .sp n' _ _ j',h=>simp only[UR,aF]at h;have h1:=aQ h.1;have h2:=aQ h.2;subst h1;subst h2;rfl
 | .inn n _ j, .inn n' _ j',h=>simp only[UR,aF]at h;have h1:=aQ h.1;have h2:=aQ h.2;subst h1;subst h2;rfl
 | .ip n _ j _ q, .ip n' _ j' _ q',h=>simp only[UR,aF]at h;have h1:=aQ h.1.1;have h2:=aQ h.1.2;have h3:=aQ h.2;subst h1;subst h2;subst h3;rfl
theorem yK:∀{s a:ax AV},H9 s a=ai->∀l,zO s (Lc a++l)=(a,l)
 |[],[],_,l=>rfl
 |s::ss,a::as,h,l=>by
  simp only[H9,aF]at h;simp only[zO,Lc,cf,Zv h.1,yK h.2]
 |[],_::_,h,_=>by cases h
 |_::_,[],h,_=>by cases h
theorem Jr:∀{s a:ax (aW×ax AV)},Qh s a=ai->∀l,K6 s (SY a++l)=(a,l)
 |[],[],_,l=>rfl
 |(g,xs)::ss,(g',ys)::as,h,l=>by
  simp only[Qh,aF]at h;obtain⟨⟨h1,h2⟩,h3⟩:=h;have h1:=zM h1;subst h1;simp only[K6,SY,cf,yK h2,Jr h3]
 |[],_::_,h,_=>by cases h
 |_::_,[],h,_=>by cases h
theorem SP{s c:dY}(h:UT s c=ai)(l:ax fO):Hj s (Ld c++l)=(c,l):=by
 match s,c,h with
 | .v (.v g xs), .v (.v g' ys),h=>simp only[UT,aF]at h;have h1:=zM h.1;subst h1;simp only[Hj,Ld,yK h.2]
 | .v (.jh r), .v (.jh r'),h=>simp only[Hj,Ld,Jr (show Qh r r'=ai from h)]
 | .v .un, .v .un,_=>rfl
 | .o (.box xs), .o (.box ys),h=>simp only[Hj,Ld,yK (show H9 xs ys=ai from h)]
 | .o (.mU c), .o (.mU c'),h=>simp only[Hj,Ld,uK (show D7 c c'=ai from h)]
 | .o (.row e x _), .o (.row e' x' _),h=>simp only[UT,aF]at h;have h1:=zM h.2;have h2:=aQ h.1;subst h1;subst h2;rfl
 | .o (.eZ e _), .o (.eZ e' _),h=>have h2:=aQ h;subst h2;rfl
 | .o .dead, .o .dead,_=>rfl
 | .iU, .iU,_=>rfl
theorem Fc:∀{S L:ax (aE×dY)},wP S L=ai->Jt S (Fw L)=L
 |[],[],_=>rfl
 |(k,s)::S,(k',c)::L,h=>by
  simp only[wP,aF]at h;obtain⟨⟨h1,h2⟩,h3⟩:=h;have h1:=aQ h1;subst h1;simp only[Jt,Fw,SP h2,Fc h3]
 |[],_::_,h=>by cases h
 |_::_,[],h=>by cases h
def tell{R:Type}(S:ax (aE×dY))(H:ax fO->aA R)(L:ax (aE×dY))(other:aA R):aA R:=bif wP S L then H (Fw L)else other
def OV:ax (aE×ax aE)->aE->ax aE
 |[],_=>[]|(k,l)::r,n=>bif bh n k then l else OV r n
def afo:ax (aE×aE×Om)->aE->aE->Om
 |[],_,_=> .nat|(q,j,o)::r,n,m=>bif bh n q&&bh m j then o else afo r n m
def O9:ax (aE×aE)->aE->aE->aW
 |[],_,_=>ak|(f,p)::r,n,m=>(bh n f&&bh m p)||O9 r n m
def aft:ax (aE×aE)->aE->aA aE
 |[],_=>aj|(k,e)::r,n=>bif bh n k then ah e else aft r n
theorem bW{p:Code->Prop}:∀c∈([]:ax Code),p c:=λc h=>by cases h
theorem bF{p:Code->Prop}{c:Code}{l:ax Code}(h:p c)(hl:∀d∈l,p d):∀d∈c::l,p d:=λd hd=>by
 rcases cq.1 hd with rfl|hd
 ·exact h
 ·exact hl d hd
def oM:ax (aE×(ax eC->aA (aW×dz)))->aE->ax eC->aA (aW×dz)
 |[],_,_=>aj
 |(k,s)::r,g,a=>bif bh g k then(match s a with|some x=>ah x|none=>oM r g a)else oM r g a
theorem bf{P:cL}{T:Tab}:∀g,kS P T g (oM [] g):=λg=>K8 λ_=>rfl
theorem aL{P:cL}{T:Tab}{k:aE}{s:ax eC->aA (aW×dz)}{L:ax (aE×(ax eC->aA (aW×dz)))}(h:kS P T k s)(hl:∀g,kS P T g (oM L g)):∀g,kS P T g (oM ((k,s)::L) g):=by
 intro g;cases hb:bh g k with
 |true=>
  have:=aQ hb;subst this;intro args r hr;unfold oM at hr;rw[hb,ay]at hr;cases hs:s args with
  |some x=>rw[hs]at hr;exact h args r (hs.trans hr)
  |none=>rw[hs]at hr;exact hl g args r hr
 |false=>
  have e:oM ((k,s)::L) g=oM L g:=by funext a;simp only[oM,hb,aC]
  rw[e];exact hl g
def Us(T:Tab)(md:ax (aE×aE))(cs:ax (aE×(ax eC->aA (aW×dz))))(ks:ax (aE×ax aE))(tk:ax aE)(om:ax (aE×aE×Om)):eP:={toTab:=T,call:=oM cs,mode:=O9 md,keep:=OV ks,tk:=λn=>lx n tk,om:=afo om}
end Go.FG

namespace Go.FG
theorem Ik{T:Tab}{t:aE}{ts:ax aE}{qv:ax (ax CV)}(h:nK T (t::ts) qv):∃ys agS,qv=ys::agS/\(∃ti,T.ty t=ah ti/\ys.map CV.kd=ti.ks)/\(∀y∈ys,pR T y)/\nK T ts agS:=by
 cases qv with
 |nil=>exact h.elim
 |cons ys qv=>exact⟨ys,qv,rfl,h.1,h.2.1,h.2.2⟩
theorem L_{T:Tab}{qv:ax (ax CV)}(h:nK T [] qv):qv=[]:=by
 cases qv with
 |nil=>rfl
 |cons=>exact h.elim
theorem TC{T:Tab}{k:Ck}{ks:ax Ck}{ys:ax CV}(h:ys.map CV.kd=k::ks)(hf:∀y∈ys,pR T y):∃y A7,ys=y::A7/\y.kd=k/\pR T y/\A7.map CV.kd=ks/\∀y∈A7,pR T y:=by
 cases ys with
 |nil=>cases h
 |cons y ys=>rw[eK,VO]at h;exact⟨y,ys,rfl,h.1,hf y (du ..),h.2,λz hz=>hf z (cM _ hz)⟩
theorem aaj{ys:ax CV}(h:ys.map CV.kd=[]):ys=[]:=by simpa using h
theorem anB{T:Tab}{e:aE}{y:CV}(h:y.kd= .l e)(hf:pR T y):∃xs,y= .l e xs/\pR T (.l e xs):=by cases y<;>simp[CV.kd]at h;subst h;exact⟨_,rfl,hf⟩
theorem jL{x:az}(h1: -9223372036854775808<=x)(h2:x<=9223372036854775807):bE x=x:=by
 have e:bE x=if(decide (x%18446744073709551616≥9223372036854775808))=ai then x%18446744073709551616-18446744073709551616 else x%18446744073709551616:=rfl
 rw[e];by_cases h:x%18446744073709551616≥9223372036854775808
 ·rw[bu (aG h)];omega
 ·rw[bJ (by simpa using h)];omega
end Go.FG

namespace Go.FG
inductive Ho where|I|B|S|R|N
abbrev den:Ho->Type
 | .I=>az| .B=>aW| .S=>aq| .R=>aU| .N=>aE
abbrev Fn:ax Ho->Type->Type
 |[],A=>A|h::s,A=>den h->Fn s A
abbrev Tu:ax Ho->Type
 |[]=>Unit|h::s=>den h×Tu s
abbrev Pr:ax Ho->Type
 |[]=>Unit|[h]=>den h|h::s=>den h×Pr s
def df:(h:Ho)->den h
 | .I=>(0:az)| .B=>ak| .S=>(⟨#[]⟩:aq)| .R=>([]:aU)| .N=>(0:aE)
def lf:(h:Ho)->den h->fO
 | .I,x=> .I x| .B,x=> .B x| .S,x=> .S x| .R,x=> .R x| .N,x=> .N x
def ap{A:Type}:(s:ax Ho)->Fn s A->Tu s->A
 |[],f,_=>f|_::s,f,x=>ap s (f x.1) x.2
def cmp{A B:Type}:(s:ax Ho)->Fn s A->(A->B)->Fn s B
 |[],f,g=>g f|_::s,f,g=>λy=>cmp s (f y) g
def Jm{A:Type}:(s:ax Ho)->Fn s A->A
 |[],f=>f|h::s,f=>Jm s (f (df h))
def lv:(s:ax Ho)->Tu s->ax fO
 |[],_=>[]|h::s,x=>lf h x.1::lv s x.2
def Sn{A:Type}:(s:ax Ho)->Fn s (aA A)->ax fO->aA A
 |[],f,[]=>f
 | .I::s,f, .I x::l=>Sn s (f x) l| .B::s,f, .B x::l=>Sn s (f x) l| .S::s,f, .S x::l=>Sn s (f x) l
 | .R::s,f, .R x::l=>Sn s (f x) l| .N::s,f, .N x::l=>Sn s (f x) l
 |_,_,_=>aj
def jh:(s:ax Ho)->Fn s (Pr s)
 |[]=>()|[_]=>λx=>x|_::h::s=>λx=>cmp (h::s) (jh (h::s)) λp=>(x,p)
def Y9{A:Type}:(s:ax Ho)->Fn s A->Pr s->A
 |[],f,_=>f|[_],f,p=>f p|_::h::s,f,p=>Y9 (h::s) (f p.1) p.2
theorem zx{A:Type}{s:ax Ho}{f:Fn s (aA A)}{l:ax fO}{a:A}(h:Sn s f l=ah a):∃x,l=lv s x/\ap s f x=ah a:=by
 induction s generalizing l with
 |nil=>cases l with
  |nil=>exact⟨(),rfl,h⟩
  |cons=>cases h
 |cons k s ih=>
  cases l with
  |nil=>cases k<;>cases h
  |cons y l=>cases k<;>cases y<;>first|(obtain⟨x,rfl,hx⟩:=ih h;exact⟨(_,x),rfl,hx⟩)|cases h
theorem zy{A B:Type}{s:ax Ho}(f:Fn s A)(g:A->B)(x:Tu s):ap s (cmp s f g) x=g (ap s f x):=by
 induction s with
 |nil=>rfl
 |cons k s ih=>exact ih _ _
theorem Y_{A:Type}{s:ax Ho}{f g:Fn s A}(h:∀x,ap s f x=ap s g x):f=g:=by
 induction s with
 |nil=>exact h ()
 |cons k s ih=>exact funext λy=>ih λx=>h (y,x)
theorem Sq{A:Type}{s:ax Ho}(f:Fn s A)(x:Tu s):Y9 s f (ap s (jh s) x)=ap s f x:=by
 induction s with
 |nil=>rfl
 |cons k s ih=>
  cases s with
  |nil=>rfl
  |cons h s=>exact(kl (Y9 (k::h::s) f) (zy ..)).trans (ih ..)
def hAA:AA->ax fO
 | .i _ n=>[.I n]| .b x=>[.B x]| .s x=>[.S x]| .sh _ xs=>[.R xs]| .ow _ _ xs=>[.R xs]| .kp xs=>[.R xs]| .fn _ c=>Cn c| .nl=>[]
def sAA:AA->AA->aW
 | .i k _, .i k' _=>decide (k=k')| .b _, .b _=>ai| .s _, .s _=>ai| .sh e _, .sh e' _=>bh e e'| .ow e x _, .ow e' x' _=>bh e e'&&SJ x x'
 | .kp _, .kp _=>ai| .fn f c, .fn f' c'=>bh f f'&&CE c c'| .nl, .nl=>ai|_,_=>ak
def fAA(s:AA)(l:ax fO):AA×ax fO:=
 match s with
 | .i k _=>(.i k (gI l),l.tail)| .b _=>(.b (gB l),l.tail)| .s _=>(.s (gS l),l.tail)| .sh e _=>(.sh e (gR l),l.tail)| .ow e x _=>(.ow e x (gR l),l.tail)
 | .kp _=>(.kp (gR l),l.tail)| .fn f c=>(.fn f (xB c l).1,(xB c l).2)| .nl=>(.nl,l)
def Hv:ax AA->ax fO|[]=>[]|a::r=>hAA a++Hv r
def H8:ax AA->ax AA->aW|[],[]=>ai|a::r,b::t=>sAA a b&&H8 r t|_,_=>ak
def Fb:ax AA->ax fO->ax AA×ax fO
 |[],l=>([],l)|a::r,l=>((fAA a l).1::(Fb r (fAA a l).2).1,(Fb r (fAA a l).2).2)
def Hw:eC->ax fO
 | .v _ xs=>Hv xs| .pt xs=>Hv xs| .fb xs=>Fm xs
def L7:eC->eC->aW
 | .v g xs, .v g' ys=>SJ g g'&&H8 xs ys| .pt xs, .pt ys=>H8 xs ys| .fb xs, .fb ys=>D7 xs ys|_,_=>ak
def Hi(s:eC)(l:ax fO):eC×ax fO:=
 match s with
 | .v g xs=>(.v g (Fb xs l).1,(Fb xs l).2)| .pt xs=>(.pt (Fb xs l).1,(Fb xs l).2)| .fb xs=>(.fb (wD xs l).1,(wD xs l).2)
def hAr:ax eC->ax fO|[]=>[]|a::r=>Hw a++hAr r
def US:ax eC->ax eC->aW|[],[]=>ai|a::r,b::t=>L7 a b&&US r t|_,_=>ak
def SM:ax eC->ax fO->ax eC×ax fO
 |[],l=>([],l)|a::r,l=>((Hi a l).1::(SM r (Hi a l).2).1,(SM r (Hi a l).2).2)
def FX(l:ax (ax AA)):ax eC:=l.map (.v ai)
theorem Zu{s a:AA}(h:sAA s a=ai)(l:ax fO):fAA s (hAA a++l)=(a,l):=by
 cases s<;>cases a<;>simp only[sAA,ba,cU,Nat.beq_eq,aF]at h<;>first|exact h.elim|skip
 all_goals first|rfl|(subst h;rfl)|(obtain⟨rfl,h⟩:=h;first|(obtain rfl:=zM h;rfl)|(simp only[fAA,hAA,zP h]))
theorem Dx:∀{s a:ax AA},H8 s a=ai->∀l,Fb s (Hv a++l)=(a,l)
 |[],[],_,l=>rfl
 |s::ss,a::as,h,l=>by
  simp only[H8,aF]at h;simp only[Fb,Hv,cf,Zu h.1,Dx h.2]
theorem SN{s a:eC}(h:L7 s a=ai)(l:ax fO):Hi s (Hw a++l)=(a,l):=by
 cases s<;>cases a<;>simp only[L7,cU,aF]at h
 ·obtain⟨h1,h⟩:=h;obtain rfl:=zM h1;simp only[Hi,Hw,Dx h]
 ·simp only[Hi,Hw,Dx h]
 ·simp only[Hi,Hw,uK h]
theorem Hh:∀{s a:ax eC},US s a=ai->∀l,SM s (hAr a++l)=(a,l)
 |[],[],_,l=>rfl
 |s::ss,a::as,h,l=>by
  simp only[US,aF]at h;simp only[SM,hAr,cf,SN h.1,Hh h.2]
theorem N9{s a:ax eC}(h:US s a=ai):(SM s (hAr a)).1=a:=by have:=Hh h [];rw[dH]at this;rw[this]
def xAA{B:Type}(s a:AA)(k:ax fO->aA B):aA B:=
 match s,a with
 | .i k1 _, .i k2 n=>bif decide (k1=k2)then k [.I n]else aj
 | .b _, .b n=>k [.B n]
 | .s _, .s n=>k [.S n]
 | .sh e _, .sh e' n=>bif bh e e' then k [.R n]else aj
 | .ow e x _, .ow e' x' n=>bif bh e e'&&SJ x x' then k [.R n]else aj
 | .kp _, .kp n=>k [.R n]
 | .fn f c, .fn f' c'=>bif bh f f'&&CE c c' then k (Cn c')else aj
 | .nl, .nl=>k []
 |_,_=>aj
def Q0{B:Type}:ax AA->ax AA->(ax fO->aA B)->aA B
 |[],[],k=>k []|s::ss,a::as,k=>xAA s a λl=>Q0 ss as λr=>k (l++r)|_,_,_=>aj
def abr{B:Type}(s a:eC)(k:ax fO->aA B):aA B:=
 match s,a with
 | .v g xs, .v g' ys=>bif SJ g g' then Q0 xs ys k else aj
 | .pt xs, .pt ys=>Q0 xs ys k
 | .fb xs, .fb ys=>bif D7 xs ys then k (Fm ys)else aj
 |_,_=>aj
def xAr{B:Type}:ax eC->ax eC->(ax fO->aA B)->aA B
 |[],[],k=>k []|s::ss,a::as,k=>abr s a λl=>xAr ss as λr=>k (l++r)|_,_,_=>aj
theorem abq{B:Type}(s a:AA)(k:ax fO->aA B):xAA s a k=bif sAA s a then k (hAA a)else none:=by cases s<;>cases a<;>rfl
theorem KD{B:Type}:∀(s a:ax AA) (k:ax fO->aA B),Q0 s a k=bif H8 s a then k (Hv a)else aj
 |[],[],_=>rfl
 |s::ss,a::as,k=>by
  simp only[Q0,abq,KD ss as,H8,Hv];cases sAA s a<;>rfl
 |[],_::_,_=>rfl
 |_::_,[],_=>rfl
theorem Vb{B:Type}(s a:eC)(k:ax fO->aA B):abr s a k=bif L7 s a then k (Hw a)else none:=by
 cases s<;>cases a<;>simp only[abr,L7,Hw,KD]<;>try rfl
 rename_i g xs g' ys;cases SJ g g'<;>rfl
theorem Eg{B:Type}:∀(s a:ax eC) (k:ax fO->aA B),xAr s a k=bif US s a then k (hAr a)else aj
 |[],[],_=>rfl
 |s::ss,a::as,k=>by
  simp only[xAr,Vb,Eg ss as,US,hAr];cases L7 s a<;>rfl
 |[],_::_,_=>rfl
 |_::_,[],_=>rfl
def Yd{A:Type}(s:ax Ho)(T:Fn s (ax eC))(f:Fn s (aA A))(a:ax eC):aA A:=xAr (Jm s T) a (Sn s f)
def abx(s t:ax Ho)(k:Fn t dz)(c:Fn s aW)(v:Fn s (Pr t)):Fn s (aA (aW×dz)):=
 match s with
 |[]=>ah (c,Y9 t k v)
 |_::s=>λx=>abx s t k (c x) (v x)
theorem Vn{s t:ax Ho}{k:Fn t dz}{c:Fn s aW}{v:Fn s (Pr t)}(x:Tu s):ap s (abx s t k c v) x=ah (ap s c x,Y9 t k (ap s v x)):=by
 induction s with
 |nil=>rfl
 |cons h s ih=>exact ih _
def dR{s t:ax Ho}(A:Fn s (ax eC))(k:Fn t dz)(c:Fn s aW)(v:Fn s (Pr t)):ax eC->aA (aW×dz):=Yd s A (abx s t k c v)
def Sz{t:ax Ho}(k:Fn t dz)(r:dz):aA (Pr t):=
 xAr (Jm t k).rs r.rs λl=>xAr (FX (Jm t k).outs) (FX r.outs) λm=>Sn t (cmp t (jh t) ah) (l++m)
def okA{s:ax Ho}(A:Fn s (ax eC)):Prop:=∀x,(SM (Jm s A) (lv s x)).1=ap s A x
def okK{t:ax Ho}(k:Fn t dz):Prop:=∀x,(⟨(SM (Jm t k).rs (lv t x)).1,(SM (FX (Jm t k).outs) (SM (Jm t k).rs (lv t x)).2).1⟩:ax eC×ax eC)=⟨(ap t k x).rs,FX (ap t k x).outs⟩
def okT{s:ax Ho}(T:Fn s (ax (aE×dY))):Prop:=∀x,Jt (Jm s T) (lv s x)=ap s T x
theorem FY:∀{a b:ax (ax AA)},FX a=FX b->a=b
 |[],[],_=>rfl
 |_::_,_::_,h=>by
  obtain⟨h1,h2⟩:=ue h;obtain⟨_,rfl⟩:=eC.v.inj h1;rw[FY h2]
 |[],_::_,h=>by cases h
 |_::_,[],h=>by cases h
theorem KZ{t:ax Ho}{k:Fn t dz}(hk:okK k){r:dz}{p:Pr t}(h:Sz k r=ah p):r=Y9 t k p:=by
 unfold Sz at h;rw[Eg]at h;cases hb:US (Jm t k).rs r.rs with
 |false=>rw[hb]at h;cases h
 |true=>
  rw[hb,ay,Eg]at h;cases hc:US (FX (Jm t k).outs) (FX r.outs)with
  |false=>rw[hc]at h;cases h
  |true=>rw[hc,ay]at h;obtain⟨x,h1,h2⟩:=zx h;rw[zy]at h2;obtain rfl:=aD h2;rw[Sq];have hx:=hk x;rw[<-h1,Hh hb,N9 hc]at hx;obtain⟨e1,e2⟩:=bN hx;have e3:=FY e2;cases r;cases hr:ap t k x;rw[hr]at e1 e3;cases e1;cases e3;rfl
theorem Gn{s t:ax Ho}{A:Fn s (ax eC)}(hA:okA A){k:Fn t dz}{c:Fn s aW}{v:Fn s (Pr t)}{args:ax eC}{r:aW×dz}(h:dR A k c v args=ah r):∃x,args=ap s A x/\r=(ap s c x,Y9 t k (ap s v x)):=by
 unfold dR Yd at h;rw[Eg]at h;cases hb:US (Jm s A) args with
 |false=>rw[hb]at h;cases h
 |true=>rw[hb,ay]at h;obtain⟨x,h1,h2⟩:=zx h;rw[Vn]at h2;exact⟨x,by rw[<-hA x,<-h1,N9 hb],(aD h2).symm⟩
def zF{t:ax Ho}(E:eP)(it:It (Pr t))(F:Func)(k:Fn t dz)(args:ax eC):aA (Pr t):=
 match F.body with
 |some c=>rH E it c (inj args) λe σ=>(fin E F args e σ).bind (Sz k)
 |none=>aj
def EZ(F:Func)(A:ax eC):aW:=
 (match F.body with|some c=> !(F.name== "runtime.NumGoroutine")&&rE F.ntmps c|none=>ak)&&wQ A&&eL A.length F.ntmps
theorem flh{P:cL}{E:eP}(hE:dS P E)(hm:P.follows .mixedOrders=ai)(hF:∀g,kS P E g (E.call g)){g:aE}{F:Func}(hf:P.funcs[g]? =ah F){s t:ax Ho}{A:Fn s (ax eC)}{k:Fn t dz}{it:aE->It (Pr t)}
  (hc:∀x,EZ F (ap s A x)=ai) {l:ax Code} (hl:ja (F.body.getD .skip)=l) (zY:∀N,∀c∈l,cE E (it N) c) (hA:okA A) (hk:okK k)
  {c:Fn s aW} {v:Fn s (Pr t)} (h:∀x,uN (ap s A x)->ap s c x=ai->∃N,zF E (it N) F k (ap s A x)=ah (ap s v x)):kS P E g (dR A k c v):=by
 intro args r hr;obtain⟨x,rfl,_⟩:=Gn hA hr;have hx:=hc x;unfold EZ at hx;cases hb:F.body with
 |none=>rw[hb]at hx;cases hx
 |some code=>
  rw[hb]at hl hx;have hl:ja code=l:=hl;simp only[aF,dt]at hx;refine Zy hE hF hm hf hb (by rw[hx.1.1.1,hx.1.1.2];rfl) (λargs r hr=> ?_) _ r hr;obtain⟨x,rfl,hq⟩:=Gn hA hr;obtain⟨h1,rfl⟩:=bN hq;have hx:=hc x;unfold EZ at hx;simp only[aF]at hx;refine⟨hx.1.2,λhf=> ?_⟩
  obtain⟨N,h⟩:=h x hf h1.symm;refine⟨cu hx.2,Pr t,it N,λe σ=>(fin E F (ap s A x) e σ).bind (Sz k),ap s v x,by rw[hl];exact zY N, ?_,λe σ he=> ?_⟩
  ·unfold zF at h;rw[hb]at h;exact h
  ·obtain⟨r,hr,hd⟩:=Option.bind_eq_some_iff.1 he;rw[hr,KZ hk hd]
theorem Za{s t:ax Ho}{c:Fn s aW}{v:Fn s (Pr t)}{w:Fn s (aA (Pr t))}{d:Pr t}(hc:cmp s w mw=c)(hv:cmp s w (λo=>o.getD d)=v)(x:Tu s)(h:ap s c x=ai):ap s w x=ah (ap s v x):=by
 subst hc hv;rw[zy]at h;rw[zy];cases hw:ap s w x with
 |none=>rw[hw]at h;cases h
 |some y=>rfl
theorem fl{P:cL}{E:eP}(hE:dS P E)(hm:P.follows .mixedOrders=ai)(hF:∀g,kS P E g (E.call g)){g:aE}{F:Func}(hf:P.funcs[g]? =ah F){s t:ax Ho}{A:Fn s (ax eC)}{k:Fn t dz}{it:aE->It (Pr t)}
  (hc:∀x,EZ F (ap s A x)=ai) {l:ax Code} (hl:ja (F.body.getD .skip)=l) (zY:∀N,∀c∈l,cE E (it N) c) (hA:okA A) (hk:okK k)
  {c:Fn s aW} {v:Fn s (Pr t)} {w:aE->Fn s (aA (Pr t))} {u:Fn s (aA (Pr t))} {d:Pr t} (N:aE) (h:∀N x,zF E (it N) F k (ap s A x)=ap s (w N) x) (hw:w N=u) (h1:cmp s u mw=c) (h2:cmp s u (λo=>o.getD d)=v):kS P E g (dR A k c v):=
 flh hE hm hF hf hc hl zY hA hk λx _ hx=>⟨N,(h N x).trans (by rw[hw];exact Za h1 h2 x hx)⟩
def ct:(s:ax Ho)->Fn s aW
 |[]=>ai|_::s=>λ_=>ct s
abbrev Kt(R:Type):=Ex->St->aA R
abbrev Tb:=ax (aE×dY)
def J{R:Type}{s:ax Ho}(T:Fn s Tb)(e:Ex)(K:Kt R):Fn s (aA R):=cmp s T λt=>K e (eO t)
def al{R:Type}{s:ax Ho}(T:Fn s Tb)(f:Kt R->Fn s (aA R))(o:Tb->Kt R->aA R):Tb->Kt R->aA R:=λL K=>bif wP (Jm s T) L then Sn s (f K) (Fw L)else o L K
def an{R:Type}:Tb->Kt R->aA R:=λ_ _=>aj
def lp{R:Type}(n:aE)(a:Tb->Kt R->aA R)(o:It R):It R:=λmW f cn L K=>bif bh mW n then a L K else o mW f cn L K
def ln{R:Type}:It R:=λ_ _ _ _ _=>aj
theorem Sk{R:Type}{s:ax Ho}{T:Fn s Tb}(hT:okT T){f:Kt R->Fn s (aA R)}{o:Tb->Kt R->aA R}{L:Tb}{K:Kt R}{r:R}(h:al T f o L K=ah r):(∃x,L=ap s T x/\ap s (f K) x=ah r)\/o L K=ah r:=by
 unfold al at h;cases hb:wP (Jm s T) L with
 |false=>rw[hb]at h;exact .inr h
 |true=>rw[hb]at h;obtain⟨x,h1,h2⟩:=zx h;exact .inl ⟨x,by rw[<-hT x,<-h1,Fc hb],h2⟩
section
variable {R:Type} {E:eP} {it:It R} {C:Code} {n:aE}
def Good(E:eP)(it:It R)(C:Code)(n:aE)(a:Tb->Kt R->aA R):Prop:=∀L K r,a L K=ah r->∃m,iter (rH E it C) (canon (E.xG n)) m (eO L) K=ah r
def Wd(E:eP)(it:It R)(C:Code)(n:aE)(K:Kt R){s:ax Ho}(T:Fn s Tb)(l:aE->Fn s (aA R)):Prop:=∀m x,iter (rH E it C) (canon (E.xG n)) m (eO (ap s T x)) K=ap s (l m) x
theorem nt:Good E it C n an:=λ_ _ _ h=>by cases h
theorem JC{s:ax Ho}{T:Fn s Tb}(hT:okT T){l:Kt R->aE->Fn s (aA R)}{N:aE}{o:Tb->Kt R->aA R}(h:∀K,Wd E it C n K T (l K))(ho:Good E it C n o):Good E it C n (al T (λK=>l K N) o):=by
 intro L K r hq;rcases Sk hT hq with ⟨x,rfl,hx⟩|hq
 ·exact⟨N,(h K N x).trans hx⟩
 ·exact ho L K r hq
theorem lom(n:aE)(hr:fL C=n){a:Tb->Kt R->aA R}(hi:∀L K,it n (rH E it C) (canon (E.xG n)) L K=a L K)(h:Good E it C n a):cE E it C:=by intro L K q;rw[hr,hi];exact h L K q
theorem wf{K:Kt R}{s:ax Ho}{T:Fn s Tb}{l:aE->Fn s (aA R)}{m:aE}(h:∀x,iter (rH E it C) (canon (E.xG n)) m (eO (ap s T x)) K=ap s (l m) x):cmp s T (λt=>iter (rH E it C) (canon (E.xG n)) m (eO t) K)=l m:=
 Y_ λy=>by rw[zy,h]
theorem wl{K:Kt R}{s:ax Ho}{T:Fn s Tb}{l:aE->Fn s (aA R)}(r:(St->aA R)->Fn s (aA R))(h0:∀x,ap s (l 0) x=aj)
  (h1:∀m,(∀x,iter (rH E it C) (canon (E.xG n)) m (eO (ap s T x)) K=ap s (l m) x)->r (λσ=>iter (rH E it C) (canon (E.xG n)) m σ K)=l (m+1))
  (h:∀g x,rH E it C (eO (ap s T x)) (Cp g (canon (E.xG n)) K)=ap s (r g) x):Wd E it C n K T l:=by
 intro m;induction m with
 |zero=>intro x;rw[h0];rfl
 |succ m ih=>intro x;rw[Lw,h,h1 m ih]
theorem lo1(n:aE){s:ax Ho}(T:Fn s Tb)(hr:fL C=n)(hT:okT T)(l:Kt R->aE->Fn s (aA R))(r:Kt R->Fn s (aA R)->Fn s (aA R)){N:aE}
  (hi:∀L K,it n (rH E it C) (canon (E.xG n)) L K=al T (λK=>l K N) an L K) (h0:∀K x,ap s (l K 0) x=aj) (h1:∀K n,l K (n+1)=r K (l K n))
  (h:∀K g x,rH E it C (eO (ap s T x)) (Cp g (canon (E.xG n)) K)=ap s (r K (cmp s T λt=>g (eO t))) x):cE E it C:=
 lom n hr hi (JC hT (λK=>wl (λg=>r K (cmp s T λt=>g (eO t))) (h0 K) (λm i=>by rw[h1];exact kl (r K) (wf i)) (h K)) nt)
end
end Go.FG

namespace Go.FG.Lib
def cR:aE:=18446744073709551616
def lt{α β:Type}(a:α)(f:α->β):β:=f a
theorem dj{α:Type}{o:aA α}{x d:α}(h:o=ah x):mw o=ai/\VS o d=x:=by rw[h];exact⟨rfl,rfl⟩
theorem some_{α:Type}{o:aA α}{d:α}(h:mw o=ai):o=ah (VS o d):=by
 cases o with
 |none=>cases h
 |some x=>rfl
theorem gv{σ β:Type}(F:aE->σ->β)(mu:σ->aE)(inv:σ->Prop)(res:σ->β)
  (step:∀n s,inv s->F (n+1) s=res s\/∃s',inv s'/\mu s'<mu s/\res s'=res s/\F (n+1) s=F n s'):∀n s,inv s->mu s<n->F n s=res s:=by
 intro n;induction n with
 |zero=>intro s _ h;omega
 |succ n ih=>
  intro s hi hm;rcases step n s hi with h|⟨s',h1,h2,h3,h4⟩
  ·exact h
  ·rw[h4,<-h3];exact ih s' h1 (by omega)
theorem dE(i n:aE):decide ((i:az)<(n:az))=decide (i<n):=by rw[b9];omega
theorem cT(i:aE):decide (0<=(i:az))=true:=by simp
theorem N5{i n:aE}(h:i<n):decide ((i:az)<(n:az))=true:=by simp;omega
theorem V0{i n:aE}(h:¬i<n):decide ((i:az)<(n:az))=false:=by simp;omega
theorem eD(i:aE):aX (i:az)=i:=rfl
theorem dm{i n:aE}(h:i<n)(hn:n<=9223372036854775807):bE ((i:az)+1)=((i+1:aE):az):=by rw[jL (by omega) (by omega)];omega
theorem oj{xs:aU}{i:aE}(h:i<xs.length):xs.getD i []=xs[i]:=by simp[jm,h]
theorem da{xs:aU}{i j:aE}(h:i<xs.length):ar xs i j=xs[i].getD j (.b ak):=by unfold ar;rw[oj h]
theorem iY(xs:aU)(i j:aE)(ys:ax CV):(eA xs i j ys).length=xs.length:=by unfold eA;simp
theorem uW(ks:ax Ck)(n:aE):(aN ks n).length=n:=by unfold aN;simp
theorem cF{n b:aE}(h:n*b<=140737488355328)(h2:n<=9223372036854775807):cy n b=true:=by unfold cy;simp;omega
theorem Ka{xs:aU}{i j:aE}{ys:ax CV}(h:i<xs.length):eA xs i j ys=xs.set i (iH xs[i] j ys):=by unfold eA;rw[oj h]
theorem gV{x:aU}{i:aE}(h:i<x.length):x.drop i=x[i]::x.drop (i+1):=dA h
def up:az->aE->az|k,0=>k|k,n+1=>up (bE (k+1)) n
theorem Ip{x:az}(h:0<=x):bE x<=x:=by
 have e:bE x=if(decide (x%18446744073709551616≥9223372036854775808))=ai then x%18446744073709551616-18446744073709551616 else x%18446744073709551616:=rfl
 rw[e];split<;>omega
def vb(x:az):aU:=
 if x>127 then [CV.i bc (bC bc (bE (bI x 128+128)))]::vb (bE (cG x 128))else [[CV.i bc (bC bc x)]]
termination_by x.toNat
decreasing_by
 rename_i h
 have h1:cG x 128=x/128:=fZ (by omega)
 have h2:=Ip (x:=cG x 128) (by omega)
 omega
theorem ub{x:az}(h:x>127):vb x=[CV.i bc (bC bc (bE (bI x 128+128)))]::vb (bE (cG x 128)):=by rw[vb,bu h]
theorem lO{x:az}(h:¬x>127):vb x=[[CV.i bc (bC bc x)]]:=by rw[vb,bJ h]
theorem Qb{n:aE}(h:n<=140737488355328):cy n 1=true:=cF (by omega) (by omega)
theorem lL(y:ax CV)(ks:ax Ck):(aw (aN ks 1) 0 y)=[y]:=rfl
theorem U8{R:Type}(F:aE->az->aU->aA R)(k:aq->aA R)
  (h1:∀n x acc,x>127->acc.length<=100->F (n+1) x acc=F n (bE (cG x 128)) (acc++[[CV.i bc (bC bc (bE (bI x 128+128)))]]))
  (h2:∀n x acc,¬x>127->acc.length<=100->F (n+1) x acc=k (bytesOf (acc++[[CV.i bc (bC bc x)]]))) (x:az) (hx:x<=9223372036854775807):F (x.toNat+1) x []=k (bytesOf (vb x)):=by
 have:=gv (λn (s:az×aU)=>F n s.1 s.2) (λs=>s.1.toNat) (λs=>s.2.length<=100/\(1<=s.1->2^s.2.length*s.1<=9223372036854775808)) (λs=>k (bytesOf (s.2++vb s.1))) (λn s hs=>by
  obtain⟨x,acc⟩:=s;obtain⟨hl,hb⟩:=hs;dsimp only at hl hb⊢;by_cases h:x>127
  ·right;have e1:cG x 128=x/128:=fZ (by omega);have hp:(1:az)<=2^acc.length:=by
    have:(0:az)<2^acc.length:=by exact Int.pow_pos (by omega)
    omega
   have Z_:x<=9223372036854775808:=by have h3:=hb (by omega);have:1*x<=2^acc.length*x:=Int.mul_le_mul_of_nonneg_right hp (by omega);omega
   have e2:bE (cG x 128)=x/128:=by rw[e1,jL (by omega) (by omega)]
   have h64:acc.length<64:=by
    rcases pF acc.length 64 with h5|h5
    ·exact h5
    ·exfalso;have h6:(2:az)^64<=2^acc.length:=by have:=Nat.pow_le_pow_right (n:=2) (by omega) h5;exact_mod_cast this
     have h7:=hb (by omega);have h8:(2:az)^acc.length*1<=2^acc.length*x:=zi (by omega) (by omega);have:(2:az)^64=18446744073709551616:=by decide
     omega
   refine⟨(bE (cG x 128),acc++[[CV.i bc (bC bc (bE (bI x 128+128)))]]),⟨by simp;omega,λ_=> ?_⟩,by dsimp only;omega, ?_,h1 n x acc h hl⟩
   ·dsimp only;rw[e2,bX,bQ,sO];have h7:=hb (by omega);have h9:2*(x/128)<=x:=by omega
    have h8:(2:az)^acc.length*(2*(x/128))<=2^acc.length*x:=zi h9 (by omega);rw[Int.mul_assoc];omega
   ·dsimp only;rw[ub h,cf];rfl
  ·left;rw[lO h];exact h2 n x acc h hl) (x.toNat+1) (x,[]) ⟨by simp,λh=>by simp;omega⟩ (by dsimp only;omega)
 simpa using this
theorem ac9{a b c:aE}{inst:Decidable (a+b<=c)}(h:a+b<=c): @decide (a+b<=c) inst=true:=aG h
theorem abg:∀(n:aE) (x:az),x<2^n->(vb x).length<=n+1:=by
 intro n;induction n with
 |zero=>intro x hx;rw[lO (by omega)];simp
 |succ n ih=>
  intro x hx;by_cases h:x>127
  ·have e1:cG x 128=x/128:=fZ (by omega);have h2:=Ip (x:=cG x 128) (by omega);rw[ub h];have h3:bE (cG x 128)<2^n:=by rw[sO]at hx;omega
   have:=ih _ h3;simp;omega
  ·rw[lO h];simp
theorem gX(xs:aU):(bytesOf xs).size=xs.length:=by unfold bytesOf;simp[fH]
theorem mO{x:az}(h:x<=9223372036854775807):(bytesOf (vb x)).size<=64:=by
 rw[gX];exact abg 63 x (by have:(2:az)^63=9223372036854775808:=by decide
                           omega)
theorem kH(a b:aq):(a++b).size=a.size+b.size:=dn
theorem pc(l:ax Em):c6 l l=true:=by
 induction l with
 |nil=>rfl
 |cons a l ih=>simp only[c6,ih,qT];exact beq_self_eq_true a
theorem G6(s:aq)(i:aE):ig s i<256:=(s.data.getD i 0).toNat_lt
def rv(t:aq)(a:aE):aE->aE->az->az×az×aW
 |0,_,_=>(0,0,ak)
 |f+1,j,n=>
  if a+j<t.size then
   (if(ig t (a+j):az)>127 then rv t a f (j+1) (n+(ig t (a+j):az)%128*128^j)
   else if(j>0/\ig t (a+j)=0)\/n+(ig t (a+j):az)%128*128^j>1000000000 then(0,0,ak)
   else(n+(ig t (a+j):az)%128*128^j,((a+j+1:aE):az),ai))
  else(0,0,ak)
theorem zE{α:Type}{c:aW}{x y:α}(h:c=ai):(bif c then x else y)=x:=by rw[h];rfl
theorem NP{α:Type}{c:aW}{x y:α}(h:c=ak):(bif c then x else y)=y:=by rw[h];rfl
theorem E5{p:Prop}{inst:Decidable p}(h:p): @decide p inst=true:=aG h
theorem Jk{p:Prop}{inst:Decidable p}(h:¬p): @decide p inst=false:=aK h
def num(t:aq):aE->aE->az
 |_,0=>0
 |a,k+1=>(ig t a:az)%128+128*num t (a+1) k
theorem yR(t:aq):∀(k a:aE),0<=num t a k/\num t a k<128^k
 |0,a=>by simp[num]
 |k+1,a=>by
  have:=yR t k (a+1);simp only[num,sO];omega
theorem u0(t:aq):∀(k a:aE),num t a (k+1)=num t a k+(ig t (a+k):az)%128*128^k
 |0,a=>by simp[num]
 |k+1,a=>by
  rw[num,u0 t k (a+1),num,show a+1+k=a+(k+1)by omega,sO];rw[Int.mul_add,<-Int.add_assoc];congr 1;rw[Int.mul_comm 128,Int.mul_assoc]
theorem JY(t:aq):∀(k a:aE),(ig t (a+k):az)%128≠0->1<=num t a (k+1)
 |0,a,h=>by simp[num]at h⊢;omega
 |k+1,a,h=>by
  rw[num];have:=JY t k (a+1) (by rw[show a+1+k=a+(k+1)by omega];exact h);omega
theorem QR(t:aq):∀(k a:aE),(∀i,i<k->128<=ig t (a+i))->ig t (a+k)<128->(k=0\/ig t (a+k)≠0)->num t a (k+1)<=9223372036854775807->vb (num t a (k+1))=(mv a (k+1)).map λi=>[CV.i bc (ig t i:az)]
 |0,a,_,h2,_,_=>by
  have e:num t a 1=(ig t a:az):=by simp[num]at h2⊢;omega
  simp only[uf]at h2;rw[e,lO (by omega)];have hw:bC bc (ig t a:az)=(ig t a:az):=by show(ig t a:az)%256=_;omega
  rw[hw];rfl
 |k+1,a,h1,h2,h3,h4=>by
  have hb:=G6 t a;have h0:=h1 0 (by omega);rw[uf]at h0;have iq:ig t (a+(k+1))≠0:=by rcases h3 with h3|h3;(·omega);exact h3
  have mh:=JY t k (a+1) (by rw[show a+1+k=a+(k+1)by omega];omega);have e:num t a (k+1+1)=(ig t a:az)%128+128*num t (a+1) (k+1):=rfl;rw[e]at h4⊢;have e1:bI ((ig t a:az)%128+128*num t (a+1) (k+1)) 128=(ig t a:az)%128:=by rw[iP (by omega)];omega
  have e2:cG ((ig t a:az)%128+128*num t (a+1) (k+1)) 128=num t (a+1) (k+1):=by rw[fZ (by omega)];omega
  have e3:bE ((ig t a:az)%128+128)=(ig t a:az):=by rw[jL (by omega) (by omega)];omega
  have hw:bC bc (ig t a:az)=(ig t a:az):=by show(ig t a:az)%256=_;omega
  rw[ub (by omega),e1,e2,e3,hw,jL (by omega) (by omega),QR t k (a+1) (λi hi=>by rw[show a+1+i=a+(i+1)by omega];exact h1 (i+1) (by omega)) (by rw[show a+1+k=a+(k+1)by omega];exact h2) (by rw[show a+1+k=a+(k+1)by omega];exact .inr iq) (by omega)];rfl
theorem yZ:∀(k:aE) (x:az),x<128^(k+1)->(vb x).length<=k+1
 |0,x,h=>by rw[lO (by simp at h;omega)];simp
 |k+1,x,h=>by
  by_cases hx:x>127
  ·have e1:cG x 128=x/128:=fZ (by omega);have h2:=Ip (x:=cG x 128) (by omega);rw[ub hx];have h3:bE (cG x 128)<128^(k+1):=by rw[sO]at h;omega
   have:=yZ k _ h3;simp;omega
  ·rw[lO hx];simp
theorem EV{t:aq}{a m:aE}(h:a+m<=t.size):(bytesOf ((mv a m).map λi=>[CV.i bc (ig t i:az)])).data.toList=(t.extract a (a+m)).data.toList:=by
 have h1:(bytesOf ((mv a m).map λi=>[CV.i bc (ig t i:az)])).data.toList=(mv a m).map λi=>t.data.getD i 0:=by unfold bytesOf;simp[bU,ig]
 rw[h1];apply Ri;intro i;have hs:t.size=t.data.size:=rfl;have Ln:a+m<=t.data.size:=by rw[<-hs];exact h
 simp only[fu,gC,gm];by_cases hi:i<m
 ·have h3:a+i<t.data.size:=by omega
  rw[bz,List.getElem?_range' hi,d_,bu (by omega),dN];simp only[fS,Nat.one_mul,cC,dX];rw[Array.getElem?_eq_getElem h3];rfl
 ·rw[jQ (by simp;omega),jQ (by simp;omega)]
theorem beq_iff{l r:ax Em}:c6 l r=ai↔l=r:=by
 constructor
 ·intro h;induction l generalizing r with
  |nil=>cases r with|nil=>rfl|cons=>cases h
  |cons a l ih=>
   cases r with
   |nil=>cases h
   |cons b r=>simp only[c6,aF]at h;rw[eq_of_beq h.1,ih h.2]
 ·rintro rfl;exact pc l
theorem canon(t:aq)(k a:aE)(h:a+(k+1)<=t.size)(h1:∀i,i<k->128<=ig t (a+i))(h2:ig t (a+k)<128)(h4:num t a (k+1)<=9223372036854775807):
  c6 (bytesOf (vb (num t a (k+1)))).toList (t.extract a (a+(k+1))).toList= !decide (k>0/\ig t (a+k)=0):=by
 rw[jw,jw];by_cases hc:k>0/\ig t (a+k)=0
 ·rw[aG hc,a9];obtain⟨k',rfl⟩:∃k',k=k'+1:=⟨k-1,by omega⟩
  cases hb:c6 (bytesOf (vb (num t a (k'+1+1)))).data.toList (t.extract a (a+(k'+1+1))).data.toList with
  |false=>rfl
  |true=>
   exfalso;have he:=kl bT (beq_iff.1 hb);have e:num t a (k'+1+1)=num t a (k'+1):=by rw[u0,hc.2];simp
   have hl:=yZ k' (num t a (k'+1)) (yR t (k'+1) a).2;rw[e]at he;have h5:(bytesOf (vb (num t a (k'+1)))).data.toList.length=(vb (num t a (k'+1))).length:=gX _;have h6:(t.extract a (a+(k'+1+1))).data.toList.length=k'+1+1:=by show(t.extract a (a+(k'+1+1))).size=_;rw[vC];omega
   omega
 ·rw[aK hc,bS];have:=QR t k a h1 h2 (by omega) h4;rw[this];exact beq_iff.2 (EV h)
theorem rB{a b:aq}(h:a.data.toList=b.data.toList):a=b:=by obtain⟨⟨a⟩⟩:=a;obtain⟨⟨b⟩⟩:=b;simp at h;rw[h]
theorem fB{a b:aq}:c6 a.toList b.toList=decide (a=b):=by
 rw[jw,jw];by_cases h:a=b
 ·subst h;rw[aG rfl];exact pc _
 ·rw[aK h];cases hb:c6 a.data.toList b.data.toList with
  |false=>rfl
  |true=>exact cw (rB (beq_iff.1 hb)) h
theorem Xk(t:aq)(a:aE):∀(f j:aE) (n:az) (m x:az),rv t a f j n=(m,x,ai)->n=num t a j->(∀i,i<j->128<=ig t (a+i))->
  ∃k,x=((a+(k+1):aE):az)/\a+(k+1)<=t.size/\0<=m/\m<=1000000000/\bytesOf (vb m)=t.extract a (a+(k+1))
 |0,j,n,m,x,h,_,_=>by simp[rv]at h
 |f+1,j,n,m,x,h,hn,Wa=>by
  have hb:=G6 t (a+j);have Tf:n+(ig t (a+j):az)%128*128^j=num t a (j+1):=by rw[u0,<-hn]
  simp only[rv]at h;by_cases gO:a+j<t.size
  ·rw[bu gO]at h;by_cases hc:(ig t (a+j):az)>127
   ·rw[bu hc]at h;refine Xk t a f (j+1) _ m x h Tf (λi hi=> ?_);by_cases Lf:i<j
    ·exact Wa i Lf
    ·have:i=j:=by omega
     subst this;omega
   ·rw[bJ hc]at h;by_cases hz:(j>0/\ig t (a+j)=0)\/n+(ig t (a+j):az)%128*128^j>1000000000
    ·rw[bu hz]at h;simp at h
    ·rw[bJ hz]at h;simp only[iw,and_true]at h;obtain⟨rfl,rfl⟩:=h;have hr:=yR t (j+1) a;rw[<-Tf]at hr;refine⟨j,by omega,by omega,hr.1,by omega, ?_⟩
     have:=canon t j a (by omega) Wa (by omega) (by rw[<-Tf];omega);rw[fB,show decide (j>0/\ig t (a+j)=0)=ak from aK (λh=>hz (.inl h)),bS,<-Tf]at this;exact cg this
  ·rw[bJ gO]at h;simp at h
def ea(t:aq)(gJ:az):az×az×aW:=if 0<=gJ/\gJ<=t.size then rv t gJ.toNat 5 0 0 else(0,0,ak)
theorem jJ{t:aq}{gJ m x:az}(h:ea t gJ=(m,x,ai)):0<=gJ/\gJ<x/\x<=t.size/\0<=m/\m<=1000000000/\bytesOf (vb m)=t.extract gJ.toNat x.toNat:=by
 unfold ea at h;by_cases hn:0<=gJ/\gJ<=t.size
 ·rw[bu hn]at h;obtain⟨k,h1,h2,h3,h4,h5⟩:=Xk t gJ.toNat 5 0 0 m x h rfl (λi hi=>by omega);exact⟨hn.1,by omega,by omega,h3,h4,by rw[h1];exact h5⟩
 ·rw[bJ hn]at h;simp at h
def g8(t:aq)(gJ:az):aq×az×aW:=
 match ea t gJ with
 |(n,x,ai)=>if n<=20000/\n<=t.size-x then(t.extract x.toNat (x+n).toNat,x+n,ai)else(⟨#[]⟩,0,ak)
 |_=>(⟨#[]⟩,0,ak)
theorem BD{R:Type}{t:aq}(ht:t.size<=4611686018427387904)(gJ:az)(kr:aq->az->aW->aA R):
  (bif(!(ea t gJ).2.2)then(kr ({data:= #[]}) 0 ak)else(bif(decide ((ea t gJ).1>20000))then(kr ({data:= #[]}) 0 ak)else(bif(decide ((ea t gJ).1>bE ((↑(fH t):az)-(ea t gJ).2.1)))then(kr ({data:= #[]}) 0 ak)else(bif(iy (ea t gJ).2.1 (bE ((ea t gJ).2.1+(ea t gJ).1)) (↑(fH t):az))then(kr (bL t (aX (ea t gJ).2.1) (aX (bE ((ea t gJ).2.1+(ea t gJ).1)))) (bE ((ea t gJ).2.1+(ea t gJ).1)) ai)else(aj)))))=kr (g8 t gJ).1 (g8 t gJ).2.1 (g8 t gJ).2.2:=by
 unfold g8;cases hr:ea t gJ with
 |mk n r=>
  obtain⟨x,ok⟩:=r;cases ok with
  |false=>rfl
  |true=>
   obtain⟨h1,h2,h3,h4,h5,h6⟩:=jJ hr;have e1:bE ((t.size:az)-x)=t.size-x:=jL (by omega) (by omega);have e2:bE (x+n)=x+n:=jL (by omega) (by omega);simp only[a9,aC,e1,e2];by_cases hc:n<=20000/\n<=t.size-x
   ·rw[bu hc,NP (Jk (by omega)),NP (Jk (by omega)),zE (by simp[iy];omega)]
   ·rw[bJ hc];by_cases hb:n>20000
    ·rw[zE (E5 hb)]
    ·rw[NP (Jk hb),zE (E5 (by omega))]
theorem D4{t:aq}{gJ x:az}{s:aq}(h:g8 t gJ=(s,x,ai)):0<=gJ/\gJ<x/\x<=t.size/\s.size<=20000/\bytesOf (vb s.size)++s=t.extract gJ.toNat x.toNat:=by
 unfold g8 at h;cases hr:ea t gJ with
 |mk n r=>
  obtain⟨y,ok⟩:=r;rw[hr]at h;cases ok with
  |false=>simp at h
  |true=>
   dsimp only at h;obtain⟨h1,h2,h3,h4,h5,h6⟩:=jJ hr;split at h
   ·rename_i hc;simp only[iw,and_true]at h;obtain⟨rfl,rfl⟩:=h;have fm:(t.extract y.toNat (y+n).toNat).size=n.toNat:=by rw[vC];omega
    refine⟨h1,by omega,by omega,by rw[fm];omega, ?_⟩
    rw[fm,show((n.toNat:aE):az)=n by omega,h6];apply rB;simp only[k8,fu,tl,gC,gm];rw[show(y+n).toNat-gJ.toNat=(y.toNat-gJ.toNat)+n.toNat by omega,VR,tv,show gJ.toNat+(y.toNat-gJ.toNat)=y.toNat by omega,show(y+n).toNat-y.toNat=n.toNat by omega]
   ·simp at h
theorem uJ(t:aq){i j k:aE}(h1:i<=j)(h2:j<=k):t.extract i j++t.extract j k=t.extract i k:=by apply rB;simp only[k8,fu,tl,gC,gm];rw[show k-i=(j-i)+(k-j)by omega,VR,tv,show i+(j-i)=j by omega]
theorem Jq(t:aq):t.extract 0 t.size=t:=by apply rB;simp only[fu,gC,gm,fA,Nat.sub_zero];exact ir (by simp)
def fi(p:aE->aW):aE->aE->az
 |0,_=> -1
 |d+1,i=>bif p i then(i:az)else fi p d (i+1)
theorem rI(p:aE->aW):∀d i,fi p d i= -1/\(∀k,i<=k->k<i+d->p k=ak)\/∃k,i<=k/\k<i+d/\fi p d i=(k:az)/\p k=ai/\∀q,i<=q->q<k->p q=ak
 |0,i=> .inl ⟨rfl,λk _ _=>by omega⟩
 |d+1,i=>by
  unfold fi;cases hp:p i with
  |true=>exact .inr ⟨i,by omega,by omega,rfl,hp,λq _ _=>by omega⟩
  |false=>
   rcases rI p d (i+1)with ⟨h1,h2⟩|⟨k,h1,h2,h3,h4,h5⟩
   ·refine .inl ⟨h1,λk hk1 xE=> ?_⟩;by_cases h:k=i
    ·subst h;exact hp
    ·exact h2 k (by omega) (by omega)
   ·refine .inr ⟨k,by omega,by omega,h3,h4,λq hq1 hq2=> ?_⟩;by_cases h:q=i
    ·subst h;exact hp
    ·exact h5 q (by omega) hq2
end Go.FG.Lib
namespace Go.FG.Pu
def Lu(xs:aU)(i:aE)(ys:aU):aU:=xs.take i++ys++xs.drop i
end Go.FG.Pu

namespace Go.FG
class PT (P:outParam cL) (T:outParam Tab):Prop where
 e:dS P T
 m:P.follows .mixedOrders=ai
abbrev As:=ax eC
abbrev AA.n(x:az):AA:= .i .i64 x
abbrev AV.n(x:az):AV:= .i .i64 x
abbrev CV.n(x:az):CV:= .i .i64 x
abbrev aI(x:az):eC:= .v ak [.n x]
abbrev aB(x:aW):eC:= .v ak [.b x]
abbrev aS(x:aq):eC:= .v ak [.s x]
abbrev aH(e:aE)(x:aU):eC:= .v ak [.sh e x]
abbrev aO(e:aE)(x:aU):eC:= .v ak [.ow e ai x]
abbrev aV(l:ax AA):eC:= .v ai l
abbrev cA(k:aE)(a:AV):aE×dY:=(k, .v (.v ak [a]))
abbrev cV(k:aE)(l:ax AV):aE×dY:=(k, .v (.v ai l))
abbrev cI(k:aE)(x:az):aE×dY:=cA k (.n x)
abbrev cP(k n:aE):aE×dY:=cA k (.bp n 0)
abbrev cH(k e:aE)(x:aU):aE×dY:=cA k (.sh e x)
abbrev oB(k:aE)(l:ax AV):aE×dY:=(k, .o (.box l))
abbrev oR(k e:aE)(x:aU):aE×dY:=(k, .o (.row e ai x))
variable {P:cL} {T:Tab} [i:PT P T] {E:eP} {g:aE} {F:Func} {s t:ax Ho} {A:Fn s As} {k:Fn t dz}
theorem fq(hF:∀g,kS P T g (E.call g))(hf:P.funcs[g]? =ah F){it:aE->It (Pr t)}{l:ax Code}(zY:∀N,∀c∈l,cE E (it N) c)
  {c:Fn s aW} {v:Fn s (Pr t)} (b:aE->Fn t (aA (Pr t))->Fn s (aA (Pr t))) (u:Fn s (aA (Pr t))) {d:Pr t} (hT:E.toTab=T:=by rfl)
  (hc:∀x,EZ F (ap s A x)=true:=by intro x;kernel_rfl) (hl:ja (F.body.getD .skip)=l:=by kernel_rfl) (hA:okA A:=by intro x;rfl) (hk:okK k:=by intro x;rfl)
  (h:∀N x,zF E (it N) F k (ap s A x)=ap s (b N (cmp t (jh t) ah)) x:=by intro N x;kernel_rfl) (hw:b Lib.cR (cmp t (jh t) ah)=u:=by rfl) (h1:cmp s u mw=c:=by rfl) (h2:cmp s u (λo=>o.getD d)=v:=by rfl):kS P T g (dR A k c v):=by subst hT;exact fl i.e i.m hF hf hc hl zY hA hk Lib.cR h hw h1 h2
theorem fr(hF:∀g,kS P T g (E.call g))(hf:P.funcs[g]? =ah F)
  {c:Fn s aW} {v:Fn s (Pr t)} (b:Fn t (aA (Pr t))->Fn s (aA (Pr t))) (u:Fn s (aA (Pr t))) {d:Pr t} (hT:E.toTab=T:=by rfl)
  (hc:∀x,EZ F (ap s A x)=true:=by intro x;kernel_rfl) (hl:ja (F.body.getD .skip)=[]:=by kernel_rfl) (hA:okA A:=by intro x;rfl) (hk:okK k:=by intro x;rfl)
  (h:∀x,zF E ln F k (ap s A x)=ap s (b (cmp t (jh t) ah)) x:=by intro x;kernel_rfl) (hw:b (cmp t (jh t) ah)=u:=by rfl) (h1:cmp s u mw=c:=by rfl) (h2:cmp s u (λo=>o.getD d)=v:=by rfl):kS P T g (dR A k c v):=by subst hT;exact fl i.e i.m hF hf hc hl (it:=λ_=>ln) (λ_=>bW) hA hk (w:=λ_=>b (cmp t (jh t) ah)) 0 (λ_=>h) hw h1 h2
theorem ft(hF:∀g,kS P T g (E.call g))(hf:P.funcs[g]? =ah F)
  {v:Fn s (Pr t)} (b:Fn t (aA (Pr t))->Fn s (aA (Pr t))) (hv:∀x,ap s (b (cmp t (jh t) ah)) x=ah (ap s v x)) (hT:E.toTab=T:=by rfl)
  (hc:∀x,EZ F (ap s A x)=true:=by intro x;kernel_rfl) (hl:ja (F.body.getD .skip)=[]:=by kernel_rfl) (hA:okA A:=by intro x;rfl) (hk:okK k:=by intro x;rfl)
  (h:∀x,zF E ln F k (ap s A x)=ap s (b (cmp t (jh t) ah)) x:=by intro x;kernel_rfl):kS P T g (dR A k (ct s) v):=by subst hT;exact flh i.e i.m hF hf hc hl (it:=λ_=>ln) (λ_=>bW) hA hk λx _ _=>⟨0,(h x).trans (hv x)⟩
theorem fh(hF:∀g,kS P T g (E.call g))(hf:P.funcs[g]? =ah F){it:aE->It (Pr t)}{l:ax Code}(zY:∀N,∀c∈l,cE E (it N) c)
  {c:Fn s aW} {v:Fn s (Pr t)} (b:aE->Fn t (aA (Pr t))->Fn s (aA (Pr t))) (hv:∀x,uN (ap s A x)->ap s c x=ai->∃N,ap s (b N (cmp t (jh t) ah)) x=ah (ap s v x)) (hT:E.toTab=T:=by rfl)
  (hc:∀x,EZ F (ap s A x)=true:=by intro x;kernel_rfl) (hl:ja (F.body.getD .skip)=l:=by kernel_rfl) (hA:okA A:=by intro x;rfl) (hk:okK k:=by intro x;rfl)
  (h:∀N x,zF E (it N) F k (ap s A x)=ap s (b N (cmp t (jh t) ah)) x:=by intro N x;kernel_rfl):kS P T g (dR A k c v):=by subst hT;exact flh i.e i.m hF hf hc hl zY hA hk λx f q=>(hv x f q).imp λN e=>(h N x).trans e
section
variable {R:Type} {it:It R} {F:Func}
theorem lq(n:aE){s:ax Ho}(T:Fn s Tb)(l:Kt R->aE->Fn s (aA R))(r:Kt R->Fn s (aA R)->Fn s (aA R)){N:aE}(hr:fL (b_ F n)=n:=by kernel_rfl)(hT:okT T:=by intro x;rfl)
  (hi:∀L K,it n (rH E it (b_ F n)) (canon (E.xG n)) L K=al T (λK=>l K N) an L K:=by intro L K;rfl) (h0:∀K x,ap s (l K 0) x=none:=by intro K x;rfl) (h1:∀K n,l K (n+1)=r K (l K n):=by intro K n;rfl)
  (h:∀K g x,rH E it (b_ F n) (eO (ap s T x)) (Cp g (canon (E.xG n)) K)=ap s (r K (cmp s T λt=>g (eO t))) x:=by intro K g x;kernel_rfl):cE E it (b_ F n):=
 lo1 n T hr hT l r hi h0 h1 h
theorem lw{n:aE}{K:Kt R}{s:ax Ho}{T:Fn s Tb}{l:aE->Fn s (aA R)}(r:(St->aA R)->Fn s (aA R))
  (h1:∀m,(∀x,iter (rH E it (b_ F n)) (canon (E.xG n)) m (eO (ap s T x)) K=ap s (l m) x)->r (λσ=>iter (rH E it (b_ F n)) (canon (E.xG n)) m σ K)=l (m+1)) (h0:∀x,ap s (l 0) x=none:=by intro x;rfl)
  (h:∀g x,rH E it (b_ F n) (eO (ap s T x)) (Cp g (canon (E.xG n)) K)=ap s (r g) x:=by intro g x;kernel_rfl):Wd E it (b_ F n) n K T l:=wl r h0 h1 h
theorem lm(n:aE){a:Tb->Kt R->aA R}(h:Good E it (b_ F n) n a)(hr:fL (b_ F n)=n:=by kernel_rfl)(hi:∀L K,it n (rH E it (b_ F n)) (canon (E.xG n)) L K=a L K:=by intro L K;rfl):cE E it (b_ F n):=lom n hr hi h
theorem ga{C:Code}{n:aE}{s:ax Ho}(T:Fn s Tb){N:aE}{l:Kt R->aE->Fn s (aA R)}{o:Tb->Kt R->aA R}(h:∀K,Wd E it C n K T (l K))(ho:Good E it C n o)(hT:okT T:=by intro x;rfl):Good E it C n (al T (λK=>l K N) o):=JC hT h ho
end
end Go.FG

