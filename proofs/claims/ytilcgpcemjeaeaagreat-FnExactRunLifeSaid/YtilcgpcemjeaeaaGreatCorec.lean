/- An evaluator for the part of the language that this program uses, proved sound over the model: states told as values and lists; what an evaluation tells, the call does. No condition. -/
import Derived.Calls
import Derived.Orders
import Derived.Below
import Derived.Laws.AppendOwn
import Derived.Laws.Slices
import Derived.Laws.StructEq
import Derived.Laws.Tables
import Derived.Laws.MakeOwn
import Derived.Laws.IdiomStrings
import Derived.Laws.BytesArg
import Derived.Laws.NewFold
import Derived.SizedLaws
import Derived.Carry
import Derived.ProofKit
import Derived.KernelRfl
import Derived.Laws.Strings
import Derived.Test.YtilcgpcemjeaeaaGreatCoreb
set_option linter.unusedVariables false
set_option linter.unusedSimpArgs false
set_option maxRecDepth 100000
open Array renaming length_toList->dW,getElem?_eq_some_iff->dY,toList_extract->ix,getElem?_toList->cZ,getD_eq_getD_getElem?->eM,toList_append->vE
open Bool renaming true->ai,and_eq_true->aK,false->ak,false_eq_true->dt,not_eq_true'->du,and_true->j4,not_true->aX,not_false->bS
open ByteArray renaming size->b8,size_append->dH,data_extract->gn,size_extract->yX,extract->bP,data_append->ml
open Go renaming Program->c6,Value->bn,World->bJ
open Go.ByteArray renaming toList_eq->kj
open Go.DataW renaming weightsAll->Bi,trod->Ep,weights->vL,TrodAll->FD,weightsEach->mX
open Go.IntKind renaming i64->ao,u8->ba,wrap->bE
open Go.Value renaming okWide->si
open Int renaming toNat->bc,tmod->cT,tdiv->c7,tdiv_eq_ediv_of_nonneg->g7,mul_le_mul_of_nonneg_right->EH,mul_le_mul_of_nonneg_left->CW,pow_succ->uR,tmod_eq_emod_of_nonneg->jD
open List renaming getElem?_append_left->dC,getElem?_append_right->c8,getElem?_eq_none->kS,mem_singleton->aZ,mem_append->bf,length_append->cf,length_take->eE,length_drop->iC,length_map->bR,map_append->cQ,getElem?_take->ea,getElem?_drop->dV,getElem?_eq_getElem->dK,mem_cons->cB,getElem?_eq_some_iff->aT,getElem?_of_mem->b7,eq_nil_of_length_eq_zero->gj,getElem?_map->bI,length_eq_one_iff->gX,all_cons->pQ,mem_append_left->bW,mem_append_right->bO,append_nil->cu,all_eq_true->bA,append_assoc->bU,map_cons->eC,mem_cons_self->dL,mem_cons_of_mem->c9,getD->gg,getD_eq_getElem?_getD->d_,take_zero->Jq,nil_append->gG,drop_eq_nil_of_le->gW,set_append_right->NW,set_cons_zero->Tt,take_succ_eq_append_getElem->bQ,getElem_mem->bu,take_of_length_le->fX,drop_eq_getElem_cons->di,set->aL,length_singleton->bC,beq->cW,range'->iw,ext_getElem?->Xv,extract_eq_take_drop->g8,length->bK,drop_drop->vM,drop_zero->eN
open List.cons renaming inj->ki
open Nat renaming beq->bD,blt->qs,add_assoc->lX,lt_or_ge->qQ,eq_zero_or_pos->Es,eq_of_beq_eq_true->aU,zero_add->bT,blt_eq->BJ,mul_le_mul_right->b_,le_trans->dc,ble->fL,le_of_ble_eq_true->cL,sub_self->vP,zero_le->bk,add_zero->zP,sub_zero->oN
open Option renaming some->ah,none->aj,isSome->nB,map_some->jc
open Option.some renaming inj->aF
open Prod.mk renaming inj->bV,injEq->jd
open _root_ renaming ByteArray->aq,Nat->aC,Option->ay,List->az,cond_true->au,if_pos->bB,Bool->aY,absurd->cS,Array->dp,Int->aw,decide_eq_true_eq->bj,of_decide_eq_true->cF,cond_false->ax,decide_eq_true->aE,if_neg->bH,congrArg->lH,decide_eq_decide->cg,UInt8->Jd,decide_eq_false->aG
namespace Go.FG
open Go.RowKit Go.ChangeShapes
inductive q_ (T:Tab):CV->Prop
 |i (k n):(Lit.int k n).wf=ai->q_ T (.i k n)
 |b (x):q_ T (.b x)
 |s (x:aq):x.size<=140737488351232->q_ T (.s x)
 |l (e xs ti):T.ty e=ah ti->xs.length*ti.bytes<=140737488351232->(∀y∈xs,y.map CV.kd=ti.ks)->(∀y∈xs,∀x∈y,q_ T x)->q_ T (.l e xs)
def QR(P:c6)(g:aC->ay (az Ck)):az Field->aC->ay (az Ck)
 |[],_=>ah []
 |f::r,off=>match g f.type with
  |some ks=>bif bD f.offset off&&bD (P.cellsOf f.type) ks.length then(match QR P g r (off+ks.length)with|some l=>ah (ks++l)|none=>aj)else aj
  |none=>aj
def QQ(P:c6)(T:Tab):aC->aC->ay (az Ck)
 |0,_=>aj
 |n+1,t=>match P.underlying t with
  |some (.int k)=>ah [.i k]
  |some .bool=>ah [.b]
  |some .string=>ah [.s]
  |some (.slice e)=>match T.ty e,QQ P T n e with
   |some te,ah ks=>bif qk ks te.ks&&bD te.bytes (P.bytesOf e)&&bD (P.cellsOf e) ks.length&&qs 0 ks.length then ah [.l e]else aj
   |_,_=>aj
  |some (.struct fs)=>match QR P (QQ P T n) fs.toList 0 with
   |some ks=>bif bD (P.cellsOf t) ks.length then ah ks else aj
   |none=>aj
  |_=>aj
def JB:CV->AA
 | .i k n=> .i k n| .b x=> .b x| .s x=> .s x| .l e xs=> .sh e xs
section
variable {H:Type} {enc:TypeId×bn->H} {P:c6} {T:Tab} {w:bJ}
def EE(w:bJ):aC->Prop:=λb=>b<w.heap.size
structure wN (T:Tab) (w:bJ) (cs:az bn) (off:aC) (ys:az CV) (ks:az Ck):Prop where
 kd:ys.map CV.kd=ks
 at_:∀(j:aC) (y:CV),ys[j]? =ah y->∃v,cs[off+j]? =ah v/\dg T w (EE w) v y
 fine:∀y∈ys,q_ T y
theorem TF(a:Addr)(m k:aC):(a.add m).add k=a.add (m+k):=by
 unfold Addr.add;by_cases h1:m=0<;>by_cases h2:k=0
 ·simp[h1,h2]
 ·simp[h1,h2]
 ·simp[h1,h2]
 ·simp[h1,h2,lX]
theorem agt(b o n:aC):(ad b o).add n=ad b (o+n):=by unfold Addr.add;by_cases h:n=0<;>simp[h]
theorem Bm{α:Type}{p:aC->α->Prop}:∀n:aC,(∀i,i<n->∃y,p i y)->∃xs:az α,xs.length=n/\∀(i:aC) (y:α),xs[i]? =ah y->p i y
 |0,_=>⟨[],rfl,λi y h=>by simp at h⟩
 |n+1,h=>by
  obtain⟨xs,h1,h2⟩:=Bm n (λi hi=>h i (by omega));obtain⟨y,hy⟩:=h n (by omega);refine⟨xs++[y],by simp[h1],λi z hz=> ?_⟩
  rcases qQ i xs.length with hi|hi
  ·rw[dC hi]at hz;exact h2 i z hz
  ·rw[c8 hi]at hz;have:i-xs.length=0:=by
    rcases Es (i-xs.length)with h|h
    ·exact h
    ·rw[kS (by simp;omega)]at hz;cases hz
   rw[this]at hz;cases hz;have:i=n:=by omega
   subst this;exact hy
theorem tJ{v:bn}{y:CV}{k:Ck}(hk:y.kd=k)(hh:dg T w (EE w) v y)(hf:q_ T y):wN T w [v] 0 [y] [k] where
 kd:=by simp[hk]
 at_ j y' hj:=by
  cases j with
  |zero=>cases hj;exact⟨v,rfl,hh⟩
  |succ j=>simp at hj
 fine y' hy:=by rw[aZ]at hy;subst hy;exact hf
theorem ub{e:TypeId}:∀{ds:az (DataW H)} {i:aC} {d:DataW H},ds[i]? =ah d->∀n∈d.weights P e,n∈Bi P e ds
 |[],_,_,h,_,_=>by simp at h
 |d0::ds,0,d,h,n,hn=>by cases h;simp only[Bi,bf];exact .inl hn
 |d0::ds,i+1,d,h,n,hn=>by simp only[Bi,bf];exact .inr (ub (ds:=ds) (i:=i) h n hn)
theorem Qv{g:aC->ay (az Ck)}{cs:az bn}
  (hg:∀t ks,g t=ah ks->∀(fuel:aC) (cs:az bn) (x:DataW H×az MemPlace) sp hd,Ep enc P w 0 sp hd fuel t cs=ah x->(∀m∈x.1.weights P t,m<=reachBytes)->cs.length=P.cellsOf t->∃ys,wN T w cs 0 ys ks):
  ∀(fs:az Field) (off:aC) (ks:az Ck),QR P g fs off=ah ks->off+ks.length<=cs.length->∀(xs:az (DataW H×az MemPlace)) (fuel:aC) sp hd,xs.length=fs.length->
   (∀(i:aC) (f:Field),fs[i]? =ah f->Ep enc P w 0 sp hd fuel f.type ((cs.drop f.offset).take (P.cellsOf f.type))=xs[i]?)->
   (∀(i:aC) (f:Field) x,fs[i]? =ah f->xs[i]? =ah x->∀m∈x.1.weights P f.type,m<=reachBytes)->∃ys,wN T w cs off ys ks:=by
 intro fs;induction fs with
 |nil=>intro off ks h _ xs fuel sp hd _ _ _;cases h;exact⟨[],⟨rfl,λj y hj=>by simp at hj,λy hy=>by cases hy⟩⟩
 |cons f fs ih=>
  intro off ks h hlen xs fuel sp hd Y2 RF hwt;unfold QR at h;cases hgf:g f.type with
  |none=>rw[hgf]at h;cases h
  |some k1=>
   rw[hgf]at h;dsimp only at h;cases hb:(bD f.offset off&&bD (P.cellsOf f.type) k1.length)with
   |false=>rw[hb]at h;cases h
   |true=>
    rw[hb,au]at h;simp only[aK]at hb;have e1:=aU hb.1;have e2:=aU hb.2;cases hr:QR P g fs (off+k1.length)with
    |none=>rw[hr]at h;cases h
    |some k2=>
     rw[hr]at h;have h:k1++k2=ks:=by injection h
     subst h;rw[cf]at hlen;cases xs with
     |nil=>simp at Y2
     |cons x xs=>
      have h0:=RF 0 f rfl;rw[show(x::xs)[0]? =ah x from rfl]at h0;obtain⟨y1,c1⟩:=hg _ _ hgf fuel _ x sp hd h0 (hwt 0 f x rfl rfl) (by rw[eE,iC];omega);obtain⟨y2,c2⟩:=ih (off+k1.length) k2 hr (by omega) xs fuel sp hd (by simpa using Y2) (λi f' hf=>RF (i+1) f' hf) (λi f' x' hf hx=>hwt (i+1) f' x' hf hx);have OO:y1.length=k1.length:=by rw[<-c1.kd,bR]
      refine⟨y1++y2,⟨by rw[cQ,c1.kd,c2.kd],λj y hj=> ?_,λy hy=> ?_⟩⟩
      ·rcases qQ j y1.length with kg|kg
       ·rw[dC kg]at hj;obtain⟨v,hv,hh⟩:=c1.at_ j y hj;refine⟨v, ?_,hh⟩
        rw[bT,ea,bB (by omega),dV,e1]at hv;exact hv
       ·rw[c8 kg]at hj;obtain⟨v,hv,hh⟩:=c2.at_ _ y hj;refine⟨v, ?_,hh⟩
        rw[show off+k1.length+(j-y1.length)=off+j by omega]at hv;exact hv
      ·rcases bf.1 hy with hy|hy
       ·exact c1.fine y hy
       ·exact c2.fine y hy
theorem DS(hE:eH P T):∀(n t:aC) (ks:az Ck),QQ P T n t=ah ks->∀(fuel:aC) (cs:az bn) (x:DataW H×az MemPlace) sp hd,Ep enc P w 0 sp hd fuel t cs=ah x->(∀m∈x.1.weights P t,m<=reachBytes)->cs.length=P.cellsOf t->∃ys,wN T w cs 0 ys ks:=by
 intro n;induction n with
 |zero=>intro t ks h;cases h
 |succ n ih=>
  intro t ks h fuel cs x sp hd RF hwt pD;unfold QQ at h;split at h
  ·rename_i k hu;cases h;obtain⟨m,rfl,rfl,hwf⟩:=DataW.trod_int hu RF;exact⟨[.i k m],tJ rfl (.i _ _) (.i _ _ hwf)⟩
  ·rename_i hu;cases h;obtain⟨m,rfl,rfl⟩:=DataW.trod_bool hu RF;exact⟨[.b m],tJ rfl (.b _) (.b _)⟩
  ·rename_i hu;cases h;obtain⟨m,rfl,rfl,hmx⟩:=DataW.trod_string hu RF;have hz:m.size<=140737488351232:=by have:=hwt m.data.toList.length (by simp[vL]);rw[dW]at this;exact this
   exact⟨[.s m],tJ rfl (.s _ (show m.size<=4611686018427387904 by omega)) (.s _ hz)⟩
  ·rename_i e hu;split at h
   ·rename_i te ke Mx hke;cases hb:(qk ke te.ks&&bD te.bytes (P.bytesOf e)&&bD (P.cellsOf e) ke.length&&qs 0 ke.length)with
    |false=>rw[hb]at h;cases h
    |true=>
     rw[hb]at h;cases h;simp only[aK]at hb;obtain⟨⟨⟨b1,b2⟩,b3⟩,b4⟩:=hb;have e1:=nQ b1;have e2:=aU b2;have e3:=aU b3;have e4:0<ke.length:=by simpa [BJ]using b4
     subst e1;rcases DataW.trod_slice hu RF with ⟨rfl,rfl⟩|⟨a,len,cap,elems,rest,m,rfl,rfl,rfl,_,hlc,YM,Dx,gk,_,_⟩
     ·exact⟨[.l e []],tJ rfl (.nl _ _ _) (.l e [] te Mx (by simp) (λy hy=>by cases hy) (λy hy=>by cases hy))⟩
     ·have hwl:len*te.bytes<=140737488351232:=by have:=hwt ((elems.length+rest.length)*P.bytesOf e) (by simp[vL,hu]);rw[<-e2,Dx]at this;have h2:len*te.bytes<=(len+rest.length)*te.bytes:=b_ _ (by omega);exact dc h2 this
      have one:∀i,i<len->∃ys:az CV,(∀(j:aC) (y:CV),ys[j]? =ah y->∃v,w.cell? (a.add (i*te.ks.length+j))=ah v/\dg T w (EE w) v y)/\ys.map CV.kd=te.ks/\∀y∈ys,q_ T y:=by
       intro i hi;have h1:=gk i hi;have lZ:i<elems.length:=by omega
       rw[dK lZ]at h1;cases hc:w.cells? 0 (a.add (i*P.cellsOf e)) (P.cellsOf e)with
       |none=>rw[hc]at h1;cases h1
       |some cs=>
        rw[hc]at h1;have h1:Ep enc P w 0 sp hd m e cs=ah elems[i]:=h1;obtain⟨_,pD,hcell⟩:=World.cells?_some hc;obtain⟨ys,c⟩:=ih e te.ks hke m cs _ sp hd h1 (λz hz=>hwt z (by simp only[vL,hu,cB,bf];exact .inr (.inl (ub (i:=i) (d:=elems[i].1) (by simp[lZ]) z hz)))) pD;refine⟨ys,λj y hj=> ?_,c.kd,c.fine⟩
        obtain⟨v,hv,hh⟩:=c.at_ j y hj;rw[bT]at hv;have kg:=(aT.1 hv).1;have:=hcell j (by omega);rw[hv]at this;refine⟨v, ?_,hh⟩
        rw[<-e3];rw[<-TF];exact this
      obtain⟨xs,Y2,hx⟩:=Bm len one;have ali:q_ T (.l e xs):=by
       refine .l e xs te Mx (by rw[Y2];exact hwl) (λy hy=> ?_) (λy hy=> ?_)
       ·obtain⟨i,hi⟩:=b7 hy;exact(hx i y hi).2.1
       ·obtain⟨i,hi⟩:=b7 hy;exact(hx i y hi).2.2
      refine⟨[.l e xs],tJ rfl ?_ ali⟩
      rcases Es len with h0|h0
      ·have:xs=[]:=gj (by omega);subst this;rw[h0];exact .nl _ _ _
      ·have hx0:xs[0]? =ah xs[0]:=by rw[dK (by omega)]
       obtain⟨c0,k0,_⟩:=hx 0 _ hx0;have hy0:0<(xs[0]).length:=by rw[<-bR (f:=CV.kd),k0];exact e4
       obtain⟨v0,RG,_⟩:=c0 0 _ (dK hy0);obtain⟨b,o,s⟩:=a;have hs:s=aj/\b<w.heap.size:=by
        unfold World.cell? at RG;have e0:(Addr.mk b o s).add (0*te.ks.length+0)=⟨b,o,s⟩:=by simp[Addr.add]
        rw[e0]at RG;split at RG
        ·rename_i hh;refine⟨?_,(dY.1 hh).1⟩
         cases s with
         |none=>rfl
         |some s=>simp at RG
        ·cases RG
       obtain⟨rfl,hbl⟩:=hs;let U:aC->aC->bn:=λi j=>(w.cell? (ad b (o+i*te.ks.length+j))).getD undef;have ar:∀i j y z,xs[i]? =ah y->y[j]? =ah z->w.cell? (ad b (o+i*te.ks.length+j))=ah (U i j)/\dg T w (EE w) (U i j) z:=by
        intro i j y z hi hj;obtain⟨v,hv,hh⟩:=(hx i y hi).1 j z hj;have hv:w.cell? ((ad b o).add (i*te.ks.length+j))=ah v:=hv;rw[agt,<-lX]at hv;have:U i j=v:=by simp only[U,hv];rfl
        rw[this];exact⟨hv,hh⟩
       rw[<-Y2];exact .l e xs b o cap te U Mx (by omega) YM hbl (λy hy=>by obtain⟨i,hi⟩:=b7 hy;exact(hx i y hi).2.1) (λi j y z hi hj=>(ar i j y z hi hj).1) (λi j y z hi hj=>(ar i j y z hi hj).2)
   ·cases h
  ·rename_i fs hu;obtain⟨xs,m,rfl,rfl,ag_,Y2,hf⟩:=DataW.trod_struct hu RF;cases hlf:QR P (QQ P T n) fs.toList 0 with
   |none=>rw[hlf]at h;cases h
   |some ks'=>
    rw[hlf]at h;obtain⟨hb,rfl⟩:=FY h;refine Qv ih fs.toList 0 _ hlf ?_ xs m sp hd (by simpa using Y2) (λi f hi=>hf i f (by simpa using hi)) (λi f x hi hx z hz=>hwt z ?_)
    ·have:=aU hb;omega
    ·simp only[vL,hu];refine DataW.weights_mem_each (j:=i) (t:=f.type) (d:=x.1) ?_ ?_ z hz
     ·rw[bI,hi];rfl
     ·rw[bI,hx];rfl
  ·cases h
end
end Go.FG

namespace Go.FG
open Go.RowKit Go.ChangeShapes
def n4(T:Tab):az aC->az (az CV)->az fj
 |t::ts,ys::sd=>fj.v (match T.ty t with|some ti=>ti.agg|none=>ak) (ys.map JB)::n4 T ts sd
 |_,_=>[]
def o0(T:Tab):az aC->az (az CV)->Prop
 |[],[]=>True
 |t::ts,ys::sd=>(∃ti,T.ty t=ah ti/\ys.map CV.kd=ti.ks)/\(∀y∈ys,q_ T y)/\o0 T ts sd
 |_,_=>False
def Q5(P:c6)(T:Tab)(n:aC)(t:aC):aY:=
 match T.ty t,QQ P T n t,P.underlying t with
 |some ti,ah ks,ah d=>qk ks ti.ks&&(match d with| .struct _=>ti.agg| .array _ _=>ak|_=> !ti.agg)&&P.readableRec t&&decide (t<P.types.size)
 |_,_,_=>ak
theorem ags{T:Tab}{w:bJ}{c:e9}(hc:∀b,EE w b->c.K b){v:bn}{y:CV}(h:dg T w (EE w) v y)(nm:aC):eL T w c (lk nm (JB y)) v:=by
 have h:dg T w c.K v y:=h.frame (λ_ _=>rfl) hc;cases y with
 |i k n=>cases h;rfl
 |b x=>cases h;rfl
 |s x=>cases h with|s _ ho=>exact⟨rfl,ho⟩
 |l e xs=>exact h
section
variable {H:Type} {enc:TypeId×bn->H} {P:c6} {T:Tab} {w:bJ}
theorem agB(hE:eH P T){n t:aC}(hp:Q5 P T n t=ai){v:bn}{d:DataW H}{ps:az MemPlace}{sp:aC->aY}{hd:aY}{base:aC}(hv:si P w .any base t v)(h:DataW.Trod enc P w 0 sp hd t v d ps)(hw:∀m∈d.weights P t,m<=reachBytes):
  ∃ys:az CV,(∃ti,T.ty t=ah ti/\ys.map CV.kd=ti.ks)/\(∀y∈ys,q_ T y)/\∀c:e9,(∀b,EE w b->c.K b)->∀p,jh T w c (tC p (fj.v (match T.ty t with|some ti=>ti.agg|none=>ak) (ys.map JB))) v:=by
 unfold Q5 at hp;split at hp
 ·rename_i ti ks dd ht hl hu;simp only[aK]at hp;obtain⟨⟨⟨h1,h2⟩,_⟩,_⟩:=hp;have e1:=nQ h1;subst e1;obtain⟨fuel,RF⟩:=h;obtain⟨inf,hi,fZ,_⟩:=hE.info t ti ht;have hct:P.cellsOf t=ti.ks.length:=by unfold Program.cellsOf;rw[hi];exact fZ
  have cell:∀(ys:az CV) (cs:az bn),wN T w cs 0 ys ti.ks->∀c:e9,(∀b,EE w b->c.K b)->∀(p j:aC) (a:AV),(gE (dX p 0) (ys.map JB))[j]? =ah a->∃u:bn,cs[j]? =ah u/\eL T w c a u:=by
   intro ys cs hc c hK p j a hj;rw[iD,bI]at hj;cases hy:ys[j]? with
   |none=>rw[hy]at hj;cases hj
   |some y=>rw[hy]at hj;cases hj;obtain⟨u,sq,hh⟩:=hc.at_ j y hy;rw[bT]at sq;exact⟨u,sq,ags hK hh _⟩
  cases uw:ti.agg with
  |true=>
   have Mv:∃fs,dd= .struct fs:=by cases dd<;>simp[uw]at h2;exact⟨_,rfl⟩
   obtain⟨fs,rfl⟩:=Mv;unfold si at hv;rw[hu]at hv;obtain⟨cs,rfl,Jh,_⟩:=hv;obtain⟨ys,hc⟩:=DS hE n t ti.ks hl fuel cs.toList (d,ps) sp hd RF hw (by simpa using Jh);refine⟨ys,⟨ti,ht,hc.kd⟩,hc.fine,λc hK p=> ?_⟩
   rw[ht];show qi T w c ti.agg (gE (dX p 0) (ys.map JB)) _;rw[uw];refine⟨cs,rfl, ?_,λj a hj=> ?_⟩
   ·rw[iP,bR,Jh,hct,<-hc.kd,bR]
   ·obtain⟨u,sq,ha⟩:=cell ys cs.toList hc c hK p j a hj;exact⟨u,by simpa using sq,ha⟩
  |false=>
   have Mv:∀fs,dd≠ .struct fs:=by intro fs he;subst he;simp[uw]at h2
   have har:∀m e,dd≠ .array m e:=by intro m e he;subst he;cases h2
   have hcell:Cell.okWide P w .any base t v:=by
    unfold si at hv;rw[hu]at hv;split at hv
    ·rename_i fs he;cases he;exact cS rfl (Mv fs)
    ·rename_i m e he;cases he;exact cS rfl (har m e)
    ·exact hv
   have xU:v.cells= #[v]:=by
    cases v<;>first|rfl|skip
    rename_i cs;exfalso;unfold Cell.okWide at hcell;rw[hu]at hcell;cases dd<;>simp[Cell.ok,hu]at hcell
   obtain⟨dd',hu2,_,hn⟩:=hE.desc t ti ht;have h1:ti.ks.length=1:=by rcases hn uw with ⟨k,h,_⟩|⟨h,_⟩|⟨h,_⟩|⟨e',h,_⟩|⟨h,_⟩<;>simp[h]
   rw[xU]at RF;obtain⟨ys,hc⟩:=DS hE n t ti.ks hl fuel [v] (d,ps) sp hd RF hw (by rw[hct,h1];rfl);have Km:ys.length=1:=by rw[<-bR (f:=CV.kd),hc.kd,h1]
   obtain⟨y,rfl⟩:=gX.1 Km;refine⟨[y],⟨ti,ht,hc.kd⟩,hc.fine,λc hK p=> ?_⟩
   rw[ht];show qi T w c ti.agg [lk (dX p 0) (JB y)] _;rw[uw];obtain⟨u,sq,ha⟩:=cell [y] [v] hc c hK p 0 _ rfl;cases sq;exact ha
 ·cases hp
theorem Yn(hE:eH P T){n:aC}{sp:aC->aY}{hd:aY}{base:aC}:∀{ts:az aC} {vs:az bn} {ds:az (DataW H)} {ps:az MemPlace},ts.all (Q5 P T n)=ai->
  FD enc P w 0 sp hd ts vs ds ps->(∀(j:aC) t v,ts[j]? =ah t->vs[j]? =ah v->si P w .any base t v)->(∀m∈mX P ts ds,m<=reachBytes)->
  ∃sd,o0 T ts sd/\vs.length=(n4 T ts sd).length/\ds.length=ts.length/\∀c:e9,(∀b,EE w b->c.K b)->∀(q p:aC) (x:fj),(n4 T ts sd)[p]? =ah x->∃v,vs[p]? =ah v/\jh T w c (tC (q+p) x) v:=by
 intro ts;induction ts with
 |nil=>intro vs ds ps _ h _ _;obtain⟨rfl,rfl,rfl⟩:=trodAll_nil h;exact⟨[],trivial,rfl,rfl,λc _ q p x h=>by simp[n4]at h⟩
 |cons t ts ih=>
  intro vs ds ps hp h cj hw;simp only[pQ,aK]at hp;obtain⟨v,vs,d,ds,p,q,rfl,rfl,rfl,h0,r0⟩:=trodAll_cons h;obtain⟨ys,y1,y2,y3⟩:=agB hE hp.1 (cj 0 t v rfl rfl) h0 (λm hm=>hw m (by simp only[mX,bf];exact .inl hm));obtain⟨sd,z1,z2,z4,z3⟩:=ih hp.2 r0 (λj t v hj hv=>cj (j+1) t v hj hv) (λm hm=>hw m (by simp only[mX,bf];exact .inr hm));refine⟨ys::sd,⟨y1,y2,z1⟩,by simp[n4,z2],by simp[z4],λc hK q p x hx=> ?_⟩
  cases p with
  |zero=>cases hx;exact⟨v,rfl,y3 c hK q⟩
  |succ p=>obtain⟨v',h1,h2⟩:=z3 c hK (q+1) p x hx;exact⟨v',h1,by rw[show q+(p+1)=q+1+p by omega];exact h2⟩
theorem nP{m:aC}{ob:Obj}:∀{ts:az aC} {sd:az (az CV)},inj (n4 T ts sd) (db m)≠ .o ob:=by
 intro ts sd h;obtain⟨p,a,h0,hh⟩:=Cz h;have:∀(ts:az aC) (sd:az (az CV)) (p:aC) (a:fj),(n4 T ts sd)[p]? =ah a->∃(g:aY) (ys:az CV),a= .v g (ys.map JB):=by
  intro ts;induction ts with
  |nil=>intro sd p a h;simp[n4]at h
  |cons t ts ih=>
   intro sd p a h;cases sd with
   |nil=>simp[n4]at h
   |cons ys sd=>
    cases p with
    |zero=>cases h;exact⟨_,ys,rfl⟩
    |succ p=>exact ih sd p a h
 obtain⟨g,ys,rfl⟩:=this _ _ _ _ h0;rcases hh with ⟨xs,h1,_⟩|⟨xs,j,e,ex,zs,h1,h2,_⟩
 ·cases h1
 ·have h1:ys.map JB=xs:=by rcases h1 with ⟨g',h1⟩|h1<;>cases h1;rfl
  subst h1;rw[bI]at h2;cases hy:ys[j]? with
  |none=>rw[hy]at h2;cases h2
  |some y=>rw[hy]at h2;cases y<;>cases h2
theorem IZ(hl:laidOutB P=ai){W':bJ}(hb:Below w.heap.size w W'){n:aC}:∀{ts:az aC} {vs:az bn} {ds:az (DataW H)} {ps:az MemPlace},ts.all (Q5 P T n)=ai->FD enc P w 0 (λ_=>ai) ai ts vs ds ps->(∀x∈ps,x.block<w.heap.size)->
  FD enc P W' 0 (λb=>decide (b<w.heap.size)) ai ts vs ds ps:=by
 intro ts;induction ts with
 |nil=>intro vs ds ps _ h _;obtain⟨rfl,rfl,rfl⟩:=trodAll_nil h;exact h
 |cons t ts ih=>
  intro vs ds ps hp h jb;simp only[pQ,aK]at hp;obtain⟨v,vs,d,ds,p,q,rfl,rfl,rfl,h0,r0⟩:=trodAll_cons h;have QL:=hp.1;unfold Q5 at QL;split at QL
  ·simp only[aK]at QL;exact⟨p,q,Below.trod hl QL.1.2 (by simpa using QL.2) h0 hb (λx hx=>jb x (bW _ hx)),ih hp.2 r0 (λx hx=>jb x (bO _ hx)),rfl⟩
  ·cases QL
end
theorem Ir{H:Type}{enc:TypeId×bn->H}{C:Checked}{T:Tab}(hE:eH C.prog T)(hl:laidOutB C.prog=ai){g tb n:aC}{fn:Func}{spec:az fj->ay (aY×dj)}(hF:bX C.prog T g spec){s:ChangeSpec}
  (alD:fn.params.toList.all (Q5 C.prog T n)=ai) (avT:fn.resultTypes= #[tb]) (htb:C.prog.underlying tb=ah .bool) (Us:s.vars=[])
  (hfn:∀ds:az (DataW H),ds.length=fn.params.toList.length->s.fn H ds={results:=[.lit (.bool ai)],args:=ds})
  (claim:∀sd,o0 T fn.params.toList sd->spec (n4 T fn.params.toList sd)=ah (ai,⟨[.v ak [.b ai]],[]⟩))
  (W:bJ) (base:aC) (args:dp bn) (ds gs:az (DataW H)) (before:az MemPlace)
  (hval:∀(j:aC) t v,fn.params[j]? =ah t->args[j]? =ah v->si C.prog W .any base t v)
  (hW:DataW.Whole enc C.prog fn.params.toList s.vars ak W args.toList ds gs before)
  (fZ:(mX C.prog (fn.params.toList++s.plain.varTypes C.prog) (ds++gs)).all (·<=reachBytes)=ai):
  Calls C.prog g args W λe W'=>∃v,e= .returned v/\s.post enc C.prog fn ak ai ak ak W args v W':=by
 have hW':=hW;obtain⟨p,q,hA,hV,rfl,hfz,Kh⟩:=hW;have jb:=hW'.lt;rw[Us]at hV;have hgs:gs=[]/\q=[]:=by
  cases gs with
  |nil=>exact⟨rfl,hV⟩
  |cons=>exact hV.elim
 obtain⟨rfl,rfl⟩:=hgs;have hw:∀m∈mX C.prog fn.params.toList ds,m<=reachBytes:=by
  intro m hm;rw[cu]at fZ;have e:s.plain.varTypes C.prog=[]:=by unfold DataSpec.varTypes ChangeSpec.plain;simp[Us]
  rw[e,cu]at fZ;have:=bA.1 fZ m hm;simpa using this
 obtain⟨sd,YY,hlen,Uf,sk⟩:=Yn hE alD hA (λj t v hj hv=>hval j t v (by simpa using hj) (by simpa using hv)) hw;let nl:Pl:=⟨ai,0,0,0,0,0⟩
 let c1:e9:=⟨λ_=>nl,λ_ _ _=>nl,EE W⟩
 have cj:Ok T (inj (n4 T fn.params.toList sd)) W c1:=⟨λnm o h=>cS h nP,λnm o x_ o' b h=>cS h nP,λnm o b h=>cS h nP,λb hb=>hb,λnm xs h=>cS h nP⟩
 obtain⟨_,hc⟩:=hF _ _ (claim sd YY) W c1 args cj (by rw[<-hlen];simp) (λp x hx=>by obtain⟨v,h1,h2⟩:=sk c1 (λ_ h=>h) 0 p x hx;rw[bT]at h2;exact⟨v,by simpa using h1,h2⟩);refine hc.mono λe W' hR=> ?_;cases e with
 |panicked=>exact hR.elim
 |outgrown=>exact hR.elim
 |returned v=>
  obtain⟨c3,_,y_,_,zC⟩:=hR;have hv:v= .bool true:=zC;subst hv;have hb:Below W.heap.size W W':=⟨y_.os,y_.tape,y_.output,y_.size,λk hk=>y_.same k hk (λ⟨nm,o,h,_⟩=>nP h)⟩
  have Uq:=hfn ds Uf;refine⟨_,rfl,ds,[],_,[],p,[],hW', ?_, ?_, ?_,hb.frame _,λh=>by cases h⟩
  ·rw[cu,Uq,avT];exact trodAll_mk1 (shut_bool htb _)
  ·rw[cu,Uq];exact IZ hl hb alD hA (λx hx=>jb x (bW _ hx))
  ·rw[cu,Uq,Us];rfl
end Go.FG

namespace Go.FG
def gU(s:aq)(i:aC):aC:=(s.data.getD i 0).toNat
abbrev br(x:aw):aw:=ao.wrap x
inductive gM where
 |I (n:aw)|B (x:aY)|S (x:aq)|R (xs:aQ)|N (n:aC)
def gI:az gM->aw| .I n::_=>n|_=>0
def gB:az gM->aY| .B n::_=>n|_=>ak
def gS:az gM->aq| .S n::_=>n|_=>⟨#[]⟩
def gR:az gM->aQ| .R n::_=>n|_=>[]
def gN:az gM->aC| .N n::_=>n|_=>0
def hCV:CV->az gM
 | .i _ n=>[.I n]| .b x=>[.B x]| .s x=>[.S x]| .l _ xs=>[.R xs]
def sCV:CV->CV->aY
 | .i k _, .i k' _=>decide (k=k')| .b _, .b _=>ai| .s _, .s _=>ai| .l e _, .l e' _=>bD e e'|_,_=>ak
def fCV(s:CV)(l:az gM):CV×az gM:=
 match s with
 | .i k _=>(.i k (gI l),l.tail)| .b _=>(.b (gB l),l.tail)| .s _=>(.s (gS l),l.tail)| .l e _=>(.l e (gR l),l.tail)
def J_:az CV->az gM|[]=>[]|a::r=>hCV a++J_ r
def IM:az CV->az CV->aY|[],[]=>ai|a::r,b::t=>sCV a b&&IM r t|_,_=>ak
def AF:az CV->az gM->az CV×az gM
 |[],l=>([],l)|a::r,l=>((fCV a l).1::(AF r (fCV a l).2).1,(AF r (fCV a l).2).2)
def Gi:az (az CV)->az gM|[]=>[]|a::r=>J_ a++Gi r
def GG:az (az CV)->az (az CV)->aY|[],[]=>ai|a::r,b::t=>IM a b&&GG r t|_,_=>ak
def Bq:az (az CV)->az gM->az (az CV)×az gM
 |[],l=>([],l)|a::r,l=>((AF a l).1::(Bq r (AF a l).2).1,(Bq r (AF a l).2).2)
theorem agU{s a:CV}(h:sCV s a=ai)(l:az gM):fCV s (hCV a++l)=(a,l):=by
 cases s<;>cases a<;>simp only[sCV,bj,dt,Nat.beq_eq]at h<;>first|exact h.elim|skip
 all_goals first|(subst h;rfl)|rfl
theorem xO:∀{s a:az CV},IM s a=ai->∀l,AF s (J_ a++l)=(a,l)
 |[],[],_,l=>rfl
 |s::ss,a::as,h,l=>by
  simp only[IM,aK]at h;simp only[AF,J_,bU,agU h.1,xO h.2]
 |[],_::_,h,_=>by cases h
 |_::_,[],h,_=>by cases h
theorem Dn:∀{s a:az (az CV)},GG s a=ai->∀l,Bq s (Gi a++l)=(a,l)
 |[],[],_,l=>rfl
 |s::ss,a::as,h,l=>by
  simp only[GG,aK]at h;simp only[Bq,Gi,bU,xO h.1,Dn h.2]
 |[],_::_,h,_=>by cases h
 |_::_,[],h,_=>by cases h
def hAV:AV->az gM
 | .i _ n=>[.I n]| .b x=>[.B x]| .s x=>[.S x]| .sh _ xs=>[.R xs]| .vw _ lo hi=>[.N lo, .N hi]| .rp _ i _=>[.N i]
 | .sp _ xs i _=>[.R xs, .N i]| .mU _ i _=>[.N i]| .ip _ i _ i2 _=>[.N i, .N i2]| .fn _ iQ=>Gi iQ| .fp xs _=>J_ xs|_=>[]
def sAV:AV->AV->aY
 | .i k _, .i k' _=>decide (k=k')| .b _, .b _=>ai| .s _, .s _=>ai| .sh e _, .sh e' _=>bD e e'| .nl, .nl=>ai
 | .own n, .own n'=>bD n n'| .vw n _ _, .vw n' _ _=>bD n n'| .bp n j, .bp n' j'=>bD n n'&&bD j j'| .rp n _ j, .rp n' _ j'=>bD n n'&&bD j j'
 | .sp e _ _ j, .sp e' _ _ j'=>bD e e'&&bD j j'| .mU n _ j, .mU n' _ j'=>bD n n'&&bD j j'
 | .ip n _ j _ q, .ip n' _ j' _ q'=>bD n n'&&bD j j'&&bD q q'| .fn f c, .fn f' c'=>bD f f'&&GG c c'| .fp c j, .fp c' j'=>bD j j'&&IM c c'
 |_,_=>ak
def fAV(s:AV)(l:az gM):AV×az gM:=
 match s with
 | .i k _=>(.i k (gI l),l.tail)| .b _=>(.b (gB l),l.tail)| .s _=>(.s (gS l),l.tail)| .sh e _=>(.sh e (gR l),l.tail)
 | .vw n _ _=>(.vw n (gN l) (gN l.tail),l.tail.tail)| .rp n _ j=>(.rp n (gN l) j,l.tail)| .sp e _ _ j=>(.sp e (gR l) (gN l.tail) j,l.tail.tail)
 | .mU n _ j=>(.mU n (gN l) j,l.tail)| .ip n _ j _ q=>(.ip n (gN l) j (gN l.tail) q,l.tail.tail)| .fn f c=>(.fn f (Bq c l).1,(Bq c l).2)| .fp c j=>(.fp (AF c l).1 j,(AF c l).2)
 |a=>(a,l)
def QB:az AV->az gM|[]=>[]|a::r=>hAV a++QB r
def M0:az AV->az AV->aY|[],[]=>ai|a::r,b::t=>sAV a b&&M0 r t|_,_=>ak
def Dm:az AV->az gM->az AV×az gM
 |[],l=>([],l)|a::r,l=>((fAV a l).1::(Dm r (fAV a l).2).1,(Dm r (fAV a l).2).2)
def Yy(a b:aY):aY:=bif a then b else !b
def YK:az (aY×az AV)->az gM|[]=>[]|(_,xs)::r=>QB xs++YK r
def Wm:az (aY×az AV)->az (aY×az AV)->aY
 |[],[]=>ai|(g,xs)::r,(g',ys)::t=>Yy g g'&&M0 xs ys&&Wm r t|_,_=>ak
def Qu:az (aY×az AV)->az gM->az (aY×az AV)×az gM
 |[],l=>([],l)|(g,xs)::r,l=>((g,(Dm xs l).1)::(Qu r (Dm xs l).2).1,(Qu r (Dm xs l).2).2)
def QC:eR->az gM
 | .v (.v _ xs)=>QB xs| .v (.j_ l)=>YK l| .o (.box xs)=>QB xs| .o (.n5 cs)=>J_ cs| .o (.row _ _ xs)=>[.R xs]| .o (.fV _ xs)=>[.R xs]|_=>[]
def aa0:eR->eR->aY
 | .v (.v g xs), .v (.v g' ys)=>Yy g g'&&M0 xs ys| .v (.j_ l), .v (.j_ r)=>Wm l r| .v .un, .v .un=>ai
 | .o (.box xs), .o (.box ys)=>M0 xs ys| .o (.n5 c), .o (.n5 c')=>IM c c'| .o (.row e x _), .o (.row e' x' _)=>bD e e'&&Yy x x'| .o (.fV e _), .o (.fV e' _)=>bD e e'
 | .o .dead, .o .dead=>ai| .jZ, .jZ=>ai|_,_=>ak
def L9(c:eR)(l:az gM):eR×az gM:=
 match c with
 | .v (.v g xs)=>(.v (.v g (Dm xs l).1),(Dm xs l).2)| .v (.j_ r)=>(.v (.j_ (Qu r l).1),(Qu r l).2)
 | .o (.box xs)=>(.o (.box (Dm xs l).1),(Dm xs l).2)| .o (.n5 c)=>(.o (.n5 (AF c l).1),(AF c l).2)| .o (.row e x _)=>(.o (.row e x (gR l)),l.tail)| .o (.fV e _)=>(.o (.fV e (gR l)),l.tail)
 |c=>(c,l)
def Kj:az (aC×eR)->az gM|[]=>[]|(_,c)::r=>QC c++Kj r
def A_:az (aC×eR)->az (aC×eR)->aY
 |[],[]=>ai|(k,c)::r,(k',c')::t=>bD k k'&&aa0 c c'&&A_ r t|_,_=>ak
def Oz:az (aC×eR)->az gM->az (aC×eR)
 |[],_=>[]|(k,c)::r,l=>(k,(L9 c l).1)::Oz r (L9 c l).2
theorem Dk{a b:aY}(h:Yy a b=ai):a=b:=by cases a<;>cases b<;>first|rfl|cases h
theorem agT{s a:AV}(h:sAV s a=ai)(l:az gM):fAV s (hAV a++l)=(a,l):=by
 match s,a,h with
 | .fn f c, .fn f' c',h=>simp only[sAV,aK]at h;have h1:=aU h.1;subst h1;simp only[fAV,hAV,Dn h.2]
 | .fp c j, .fp c' j',h=>simp only[sAV,aK]at h;have h1:=aU h.1;subst h1;simp only[fAV,hAV,xO h.2]
 | .i k _, .i k' _,h=>have h1:=cF (show decide (k=k')=ai from h);subst h1;rfl
 | .b _, .b _,_=>rfl
 | .s _, .s _,_=>rfl
 | .sh e _, .sh e' _,h=>have h1:=aU (show bD e e'=ai from h);subst h1;rfl
 | .nl, .nl,_=>rfl
 | .own n, .own n',h=>have h1:=aU (show bD n n'=ai from h);subst h1;rfl
 | .vw n _ _, .vw n' _ _,h=>have h1:=aU (show bD n n'=ai from h);subst h1;rfl
 | .bp n j, .bp n' j',h=>simp only[sAV,aK]at h;have h1:=aU h.1;have h2:=aU h.2;subst h1;subst h2;rfl
 | .rp n _ j, .rp n' _ j',h=>simp only[sAV,aK]at h;have h1:=aU h.1;have h2:=aU h.2;subst h1;subst h2;rfl
 | .sp n _ _ j, .sp n' _ _ j',h=>simp only[sAV,aK]at h;have h1:=aU h.1;have h2:=aU h.2;subst h1;subst h2;rfl
 | .mU n _ j, .mU n' _ j',h=>simp only[sAV,aK]at h;have h1:=aU h.1;have h2:=aU h.2;subst h1;subst h2;rfl
 | .ip n _ j _ q, .ip n' _ j' _ q',h=>simp only[sAV,aK]at h;have h1:=aU h.1.1;have h2:=aU h.1.2;have h3:=aU h.2;subst h1;subst h2;subst h3;rfl
theorem Ct:∀{s a:az AV},M0 s a=ai->∀l,Dm s (QB a++l)=(a,l)
 |[],[],_,l=>rfl
 |s::ss,a::as,h,l=>by
  simp only[M0,aK]at h;simp only[Dm,QB,bU,agT h.1,Ct h.2]
 |[],_::_,h,_=>by cases h
 |_::_,[],h,_=>by cases h
theorem Ox:∀{s a:az (aY×az AV)},Wm s a=ai->∀l,Qu s (YK a++l)=(a,l)
 |[],[],_,l=>rfl
 |(g,xs)::ss,(g',ys)::as,h,l=>by
  simp only[Wm,aK]at h;obtain⟨⟨h1,h2⟩,h3⟩:=h;have h1:=Dk h1;subst h1;simp only[Qu,YK,bU,Ct h2,Ox h3]
 |[],_::_,h,_=>by cases h
 |_::_,[],h,_=>by cases h
theorem YD{s c:eR}(h:aa0 s c=ai)(l:az gM):L9 s (QC c++l)=(c,l):=by
 match s,c,h with
 | .v (.v g xs), .v (.v g' ys),h=>simp only[aa0,aK]at h;have h1:=Dk h.1;subst h1;simp only[L9,QC,Ct h.2]
 | .v (.j_ r), .v (.j_ r'),h=>simp only[L9,QC,Ox (show Wm r r'=ai from h)]
 | .v .un, .v .un,_=>rfl
 | .o (.box xs), .o (.box ys),h=>simp only[L9,QC,Ct (show M0 xs ys=ai from h)]
 | .o (.n5 c), .o (.n5 c'),h=>simp only[L9,QC,xO (show IM c c'=ai from h)]
 | .o (.row e x _), .o (.row e' x' _),h=>simp only[aa0,aK]at h;have h1:=Dk h.2;have h2:=aU h.1;subst h1;subst h2;rfl
 | .o (.fV e _), .o (.fV e' _),h=>have h2:=aU h;subst h2;rfl
 | .o .dead, .o .dead,_=>rfl
 | .jZ, .jZ,_=>rfl
theorem J4:∀{S L:az (aC×eR)},A_ S L=ai->Oz S (Kj L)=L
 |[],[],_=>rfl
 |(k,s)::S,(k',c)::L,h=>by
  simp only[A_,aK]at h;obtain⟨⟨h1,h2⟩,h3⟩:=h;have h1:=aU h1;subst h1;simp only[Oz,Kj,YD h2,J4 h3]
 |[],_::_,h=>by cases h
 |_::_,[],h=>by cases h
def tell{R:Type}(S:az (aC×eR))(H:az gM->ay R)(L:az (aC×eR))(other:ay R):ay R:=bif A_ S L then H (Kj L)else other
def UR:az (aC×az aC)->aC->az aC
 |[],_=>[]|(k,l)::r,n=>bif bD n k then l else UR r n
def aoi:az (aC×aC×Om)->aC->aC->Om
 |[],_,_=> .nat|(q,j,o)::r,n,m=>bif bD n q&&bD m j then o else aoi r n m
def Ve:az (aC×aC)->aC->aC->aY
 |[],_,_=>ak|(f,p)::r,n,m=>(bD n f&&bD m p)||Ve r n m
def aom:az (aC×aC)->aC->ay aC
 |[],_=>aj|(k,e)::r,n=>bif bD n k then ah e else aom r n
theorem bw{p:Code->Prop}:∀c∈([]:az Code),p c:=λc h=>by cases h
theorem bh{p:Code->Prop}{c:Code}{l:az Code}(h:p c)(hl:∀d∈l,p d):∀d∈c::l,p d:=λd hd=>by
 rcases cB.1 hd with rfl|hd
 ·exact h
 ·exact hl d hd
def qj:az (aC×(az fj->ay (aY×dj)))->aC->az fj->ay (aY×dj)
 |[],_,_=>aj
 |(k,s)::r,g,a=>bif bD g k then(match s a with|some x=>ah x|none=>qj r g a)else qj r g a
theorem aW{P:c6}{T:Tab}:∀g,bX P T g (qj [] g):=λg=>Qw λ_=>rfl
theorem aD{P:c6}{T:Tab}{k:aC}{s:az fj->ay (aY×dj)}{L:az (aC×(az fj->ay (aY×dj)))}(h:bX P T k s)(hl:∀g,bX P T g (qj L g)):∀g,bX P T g (qj ((k,s)::L) g):=by
 intro g;cases hb:bD g k with
 |true=>
  have:=aU hb;subst this;intro args r hr;unfold qj at hr;rw[hb,au]at hr;cases hs:s args with
  |some x=>rw[hs]at hr;exact h args r (hs.trans hr)
  |none=>rw[hs]at hr;exact hl g args r hr
 |false=>
  have e:qj ((k,s)::L) g=qj L g:=by funext a;simp only[qj,hb,ax]
  rw[e];exact hl g
def XQ(T:Tab)(md:az (aC×aC))(cs:az (aC×(az fj->ay (aY×dj))))(ks:az (aC×az aC))(tk:az aC)(om:az (aC×aC×Om)):fS:={toTab:=T,call:=qj cs,mode:=Ve md,keep:=UR ks,tk:=λn=>mC n tk,om:=aoi om}
end Go.FG

namespace Go.FG
theorem Nf{T:Tab}{t:aC}{ts:az aC}{sd:az (az CV)}(h:o0 T (t::ts) sd):∃ys apu,sd=ys::apu/\(∃ti,T.ty t=ah ti/\ys.map CV.kd=ti.ks)/\(∀y∈ys,q_ T y)/\o0 T ts apu:=by
 cases sd with
 |nil=>exact h.elim
 |cons ys sd=>exact⟨ys,sd,rfl,h.1,h.2.1,h.2.2⟩
theorem Rn{T:Tab}{sd:az (az CV)}(h:o0 T [] sd):sd=[]:=by
 cases sd with
 |nil=>rfl
 |cons=>exact h.elim
theorem Zb{T:Tab}{k:Ck}{ks:az Ck}{ys:az CV}(h:ys.map CV.kd=k::ks)(hf:∀y∈ys,q_ T y):∃y ED,ys=y::ED/\y.kd=k/\q_ T y/\ED.map CV.kd=ks/\∀y∈ED,q_ T y:=by
 cases ys with
 |nil=>cases h
 |cons y ys=>rw[eC,List.cons.injEq]at h;exact⟨y,ys,rfl,h.1,hf y (dL ..),h.2,λz hz=>hf z (c9 _ hz)⟩
theorem ahE{ys:az CV}(h:ys.map CV.kd=[]):ys=[]:=by simpa using h
theorem ayD{T:Tab}{e:aC}{y:CV}(h:y.kd= .l e)(hf:q_ T y):∃xs,y= .l e xs/\q_ T (.l e xs):=by cases y<;>simp[CV.kd]at h;subst h;exact⟨_,rfl,hf⟩
theorem ir{x:aw}(h1: -9223372036854775808<=x)(h2:x<=9223372036854775807):br x=x:=by
 have e:br x=if(decide (x%18446744073709551616≥9223372036854775808))=ai then x%18446744073709551616-18446744073709551616 else x%18446744073709551616:=rfl
 rw[e];by_cases h:x%18446744073709551616≥9223372036854775808
 ·rw[bB (aE h)];omega
 ·rw[bH (by simpa using h)];omega
end Go.FG

namespace Go.FG
inductive Ho where|I|B|S|R|N
abbrev den:Ho->Type
 | .I=>aw| .B=>aY| .S=>aq| .R=>aQ| .N=>aC
abbrev Fn:az Ho->Type->Type
 |[],A=>A|h::s,A=>den h->Fn s A
abbrev Tu:az Ho->Type
 |[]=>Unit|h::s=>den h×Tu s
abbrev Pr:az Ho->Type
 |[]=>Unit|[h]=>den h|h::s=>den h×Pr s
def df:(h:Ho)->den h
 | .I=>(0:aw)| .B=>ak| .S=>(⟨#[]⟩:aq)| .R=>([]:aQ)| .N=>(0:aC)
def lf:(h:Ho)->den h->gM
 | .I,x=> .I x| .B,x=> .B x| .S,x=> .S x| .R,x=> .R x| .N,x=> .N x
def ap{A:Type}:(s:az Ho)->Fn s A->Tu s->A
 |[],f,_=>f|_::s,f,x=>ap s (f x.1) x.2
def cmp{A B:Type}:(s:az Ho)->Fn s A->(A->B)->Fn s B
 |[],f,g=>g f|_::s,f,g=>λy=>cmp s (f y) g
def Oo{A:Type}:(s:az Ho)->Fn s A->A
 |[],f=>f|h::s,f=>Oo s (f (df h))
def lv:(s:az Ho)->Tu s->az gM
 |[],_=>[]|h::s,x=>lf h x.1::lv s x.2
def Yk{A:Type}:(s:az Ho)->Fn s (ay A)->az gM->ay A
 |[],f,[]=>f
 | .I::s,f, .I x::l=>Yk s (f x) l| .B::s,f, .B x::l=>Yk s (f x) l| .S::s,f, .S x::l=>Yk s (f x) l
 | .R::s,f, .R x::l=>Yk s (f x) l| .N::s,f, .N x::l=>Yk s (f x) l
 |_,_,_=>aj
def j_:(s:az Ho)->Fn s (Pr s)
 |[]=>()|[_]=>λx=>x|_::h::s=>λx=>cmp (h::s) (j_ (h::s)) λp=>(x,p)
def apP{A:Type}:(s:az Ho)->Fn s A->Pr s->A
 |[],f,_=>f|[_],f,p=>f p|_::h::s,f,p=>apP (h::s) (f p.1) p.2
theorem C_{A:Type}{s:az Ho}{f:Fn s (ay A)}{l:az gM}{a:A}(h:Yk s f l=ah a):∃x,l=lv s x/\ap s f x=ah a:=by
 induction s generalizing l with
 |nil=>cases l with
  |nil=>exact⟨(),rfl,h⟩
  |cons=>cases h
 |cons k s ih=>
  cases l with
  |nil=>cases k<;>cases h
  |cons y l=>cases k<;>cases y<;>first|(obtain⟨x,rfl,hx⟩:=ih h;exact⟨(_,x),rfl,hx⟩)|cases h
theorem Da{A B:Type}{s:az Ho}(f:Fn s A)(g:A->B)(x:Tu s):ap s (cmp s f g) x=g (ap s f x):=by
 induction s with
 |nil=>rfl
 |cons k s ih=>exact ih _ _
theorem agy{A:Type}{s:az Ho}{f g:Fn s A}(h:∀x,ap s f x=ap s g x):f=g:=by
 induction s with
 |nil=>exact h ()
 |cons k s ih=>exact funext λy=>ih λx=>h (y,x)
theorem Yl{A:Type}{s:az Ho}(f:Fn s A)(x:Tu s):apP s f (ap s (j_ s) x)=ap s f x:=by
 induction s with
 |nil=>rfl
 |cons k s ih=>
  cases s with
  |nil=>rfl
  |cons h s=>exact(lH (apP (k::h::s) f) (Da ..)).trans (ih ..)
def hAA:AA->az gM
 | .i _ n=>[.I n]| .b x=>[.B x]| .s x=>[.S x]| .sh _ xs=>[.R xs]| .ow _ _ xs=>[.R xs]| .kp xs=>[.R xs]| .fn _ c=>Gi c| .nl=>[]
def sAA:AA->AA->aY
 | .i k _, .i k' _=>decide (k=k')| .b _, .b _=>ai| .s _, .s _=>ai| .sh e _, .sh e' _=>bD e e'| .ow e x _, .ow e' x' _=>bD e e'&&Yy x x'
 | .kp _, .kp _=>ai| .fn f c, .fn f' c'=>bD f f'&&GG c c'| .nl, .nl=>ai|_,_=>ak
def fAA(s:AA)(l:az gM):AA×az gM:=
 match s with
 | .i k _=>(.i k (gI l),l.tail)| .b _=>(.b (gB l),l.tail)| .s _=>(.s (gS l),l.tail)| .sh e _=>(.sh e (gR l),l.tail)| .ow e x _=>(.ow e x (gR l),l.tail)
 | .kp _=>(.kp (gR l),l.tail)| .fn f c=>(.fn f (Bq c l).1,(Bq c l).2)| .nl=>(.nl,l)
def Mi:az AA->az gM|[]=>[]|a::r=>hAA a++Mi r
def MZ:az AA->az AA->aY|[],[]=>ai|a::r,b::t=>sAA a b&&MZ r t|_,_=>ak
def J3:az AA->az gM->az AA×az gM
 |[],l=>([],l)|a::r,l=>((fAA a l).1::(J3 r (fAA a l).2).1,(J3 r (fAA a l).2).2)
def Mj:fj->az gM
 | .v _ xs=>Mi xs| .pt xs=>Mi xs| .fb xs=>J_ xs
def Ri:fj->fj->aY
 | .v g xs, .v g' ys=>Yy g g'&&MZ xs ys| .pt xs, .pt ys=>MZ xs ys| .fb xs, .fb ys=>IM xs ys|_,_=>ak
def L8(s:fj)(l:az gM):fj×az gM:=
 match s with
 | .v g xs=>(.v g (J3 xs l).1,(J3 xs l).2)| .pt xs=>(.pt (J3 xs l).1,(J3 xs l).2)| .fb xs=>(.fb (AF xs l).1,(AF xs l).2)
def hAr:az fj->az gM|[]=>[]|a::r=>Mj a++hAr r
def sAr:az fj->az fj->aY|[],[]=>ai|a::r,b::t=>Ri a b&&sAr r t|_,_=>ak
def YB:az fj->az gM->az fj×az gM
 |[],l=>([],l)|a::r,l=>((L8 a l).1::(YB r (L8 a l).2).1,(YB r (L8 a l).2).2)
def KG(l:az (az AA)):az fj:=l.map (.v ai)
theorem agS{s a:AA}(h:sAA s a=ai)(l:az gM):fAA s (hAA a++l)=(a,l):=by
 cases s<;>cases a<;>simp only[sAA,bj,dt,Nat.beq_eq,aK]at h<;>first|exact h.elim|skip
 all_goals first|rfl|(subst h;rfl)|(obtain⟨rfl,h⟩:=h;first|(obtain rfl:=Dk h;rfl)|(simp only[fAA,hAA,Dn h]))
theorem H6:∀{s a:az AA},MZ s a=ai->∀l,J3 s (Mi a++l)=(a,l)
 |[],[],_,l=>rfl
 |s::ss,a::as,h,l=>by
  simp only[MZ,aK]at h;simp only[J3,Mi,bU,agS h.1,H6 h.2]
theorem YC{s a:fj}(h:Ri s a=ai)(l:az gM):L8 s (Mj a++l)=(a,l):=by
 cases s<;>cases a<;>simp only[Ri,dt,aK]at h
 ·obtain⟨h1,h⟩:=h;obtain rfl:=Dk h1;simp only[L8,Mj,H6 h]
 ·simp only[L8,Mj,H6 h]
 ·simp only[L8,Mj,xO h]
theorem L7:∀{s a:az fj},sAr s a=ai->∀l,YB s (hAr a++l)=(a,l)
 |[],[],_,l=>rfl
 |s::ss,a::as,h,l=>by
  simp only[sAr,aK]at h;simp only[YB,hAr,bU,YC h.1,L7 h.2]
theorem T2{s a:az fj}(h:sAr s a=ai):(YB s (hAr a)).1=a:=by have:=L7 h [];rw[cu]at this;rw[this]
def xAA{B:Type}(s a:AA)(k:az gM->ay B):ay B:=
 match s,a with
 | .i k1 _, .i k2 n=>bif decide (k1=k2)then k [.I n]else aj
 | .b _, .b n=>k [.B n]
 | .s _, .s n=>k [.S n]
 | .sh e _, .sh e' n=>bif bD e e' then k [.R n]else aj
 | .ow e x _, .ow e' x' n=>bif bD e e'&&Yy x x' then k [.R n]else aj
 | .kp _, .kp n=>k [.R n]
 | .fn f c, .fn f' c'=>bif bD f f'&&GG c c' then k (Gi c')else aj
 | .nl, .nl=>k []
 |_,_=>aj
def Xg{B:Type}:az AA->az AA->(az gM->ay B)->ay B
 |[],[],k=>k []|s::ss,a::as,k=>xAA s a λl=>Xg ss as λr=>k (l++r)|_,_,_=>aj
def ai5{B:Type}(s a:fj)(k:az gM->ay B):ay B:=
 match s,a with
 | .v g xs, .v g' ys=>bif Yy g g' then Xg xs ys k else aj
 | .pt xs, .pt ys=>Xg xs ys k
 | .fb xs, .fb ys=>bif IM xs ys then k (J_ ys)else aj
 |_,_=>aj
def xAr{B:Type}:az fj->az fj->(az gM->ay B)->ay B
 |[],[],k=>k []|s::ss,a::as,k=>ai5 s a λl=>xAr ss as λr=>k (l++r)|_,_,_=>aj
theorem ai4{B:Type}(s a:AA)(k:az gM->ay B):xAA s a k=bif sAA s a then k (hAA a)else none:=by cases s<;>cases a<;>rfl
theorem PX{B:Type}:∀(s a:az AA) (k:az gM->ay B),Xg s a k=bif MZ s a then k (Mi a)else aj
 |[],[],_=>rfl
 |s::ss,a::as,k=>by
  simp only[Xg,ai4,PX ss as,MZ,Mi];cases sAA s a<;>rfl
 |[],_::_,_=>rfl
 |_::_,[],_=>rfl
theorem abj{B:Type}(s a:fj)(k:az gM->ay B):ai5 s a k=bif Ri s a then k (Mj a)else none:=by
 cases s<;>cases a<;>simp only[ai5,Ri,Mj,PX]<;>try rfl
 rename_i g xs g' ys;cases Yy g g'<;>rfl
theorem I3{B:Type}:∀(s a:az fj) (k:az gM->ay B),xAr s a k=bif sAr s a then k (hAr a)else aj
 |[],[],_=>rfl
 |s::ss,a::as,k=>by
  simp only[xAr,abj,I3 ss as,sAr,hAr];cases Ri s a<;>rfl
 |[],_::_,_=>rfl
 |_::_,[],_=>rfl
def afP{A:Type}(s:az Ho)(T:Fn s (az fj))(f:Fn s (ay A))(a:az fj):ay A:=xAr (Oo s T) a (Yk s f)
def ajd(s t:az Ho)(k:Fn t dj)(c:Fn s aY)(v:Fn s (Pr t)):Fn s (ay (aY×dj)):=
 match s with
 |[]=>ah (c,apP t k v)
 |_::s=>λx=>ajd s t k (c x) (v x)
theorem abo{s t:az Ho}{k:Fn t dj}{c:Fn s aY}{v:Fn s (Pr t)}(x:Tu s):ap s (ajd s t k c v) x=ah (ap s c x,apP t k (ap s v x)):=by
 induction s with
 |nil=>rfl
 |cons h s ih=>exact ih _
def dJ{s t:az Ho}(A:Fn s (az fj))(k:Fn t dj)(c:Fn s aY)(v:Fn s (Pr t)):az fj->ay (aY×dj):=afP s A (ajd s t k c v)
def Yr{t:az Ho}(k:Fn t dj)(r:dj):ay (Pr t):=
 xAr (Oo t k).rs r.rs λl=>xAr (KG (Oo t k).outs) (KG r.outs) λm=>Yk t (cmp t (j_ t) ah) (l++m)
def okA{s:az Ho}(A:Fn s (az fj)):Prop:=∀x,(YB (Oo s A) (lv s x)).1=ap s A x
def okK{t:az Ho}(k:Fn t dj):Prop:=∀x,(⟨(YB (Oo t k).rs (lv t x)).1,(YB (KG (Oo t k).outs) (YB (Oo t k).rs (lv t x)).2).1⟩:az fj×az fj)=⟨(ap t k x).rs,KG (ap t k x).outs⟩
def okT{s:az Ho}(T:Fn s (az (aC×eR))):Prop:=∀x,Oz (Oo s T) (lv s x)=ap s T x
theorem KH:∀{a b:az (az AA)},KG a=KG b->a=b
 |[],[],_=>rfl
 |_::_,_::_,h=>by
  obtain⟨h1,h2⟩:=ki h;obtain⟨_,rfl⟩:=fj.v.inj h1;rw[KH h2]
 |[],_::_,h=>by cases h
 |_::_,[],h=>by cases h
theorem Qp{t:az Ho}{k:Fn t dj}(hk:okK k){r:dj}{p:Pr t}(h:Yr k r=ah p):r=apP t k p:=by
 unfold Yr at h;rw[I3]at h;cases hb:sAr (Oo t k).rs r.rs with
 |false=>rw[hb]at h;cases h
 |true=>
  rw[hb,au,I3]at h;cases hc:sAr (KG (Oo t k).outs) (KG r.outs)with
  |false=>rw[hc]at h;cases h
  |true=>rw[hc,au]at h;obtain⟨x,h1,h2⟩:=C_ h;rw[Da]at h2;obtain rfl:=aF h2;rw[Yl];have hx:=hk x;rw[<-h1,L7 hb,T2 hc]at hx;obtain⟨e1,e2⟩:=bV hx;have e3:=KH e2;cases r;cases hr:ap t k x;rw[hr]at e1 e3;cases e1;cases e3;rfl
theorem KZ{s t:az Ho}{A:Fn s (az fj)}(hA:okA A){k:Fn t dj}{c:Fn s aY}{v:Fn s (Pr t)}{args:az fj}{r:aY×dj}(h:dJ A k c v args=ah r):∃x,args=ap s A x/\r=(ap s c x,apP t k (ap s v x)):=by
 unfold dJ afP at h;rw[I3]at h;cases hb:sAr (Oo s A) args with
 |false=>rw[hb]at h;cases h
 |true=>rw[hb,au]at h;obtain⟨x,h1,h2⟩:=C_ h;rw[abo]at h2;exact⟨x,by rw[<-hA x,<-h1,T2 hb],(aF h2).symm⟩
def De{t:az Ho}(E:fS)(it:It (Pr t))(F:Func)(k:Fn t dj)(args:az fj):ay (Pr t):=
 match F.body with
 |some c=>tq E it c (inj args) λe σ=>(fin E F args e σ).bind (Yr k)
 |none=>aj
def JP(F:Func)(A:az fj):aY:=
 (match F.body with|some c=> !(F.name== "runtime.NumGoroutine")&&tn F.ntmps c|none=>ak)&&Ba A&&fL A.length F.ntmps
theorem flh{P:c6}{E:fS}(hE:eH P E)(hm:P.follows .mixedOrders=ai)(hF:∀g,bX P E g (E.call g)){g:aC}{F:Func}(hf:P.funcs[g]? =ah F){s t:az Ho}{A:Fn s (az fj)}{k:Fn t dj}{it:aC->It (Pr t)}
  (hc:∀x,JP F (ap s A x)=ai) {l:az Code} (hl:jV (F.body.getD .skip)=l) (Dz:∀N,∀c∈l,bY E (it N) c) (hA:okA A) (hk:okK k)
  {c:Fn s aY} {v:Fn s (Pr t)} (h:∀x,xR (ap s A x)->ap s c x=ai->∃N,De E (it N) F k (ap s A x)=ah (ap s v x)):bX P E g (dJ A k c v):=by
 intro args r hr;obtain⟨x,rfl,_⟩:=KZ hA hr;have hx:=hc x;unfold JP at hx;cases hb:F.body with
 |none=>rw[hb]at hx;cases hx
 |some code=>
  rw[hb]at hl hx;have hl:jV code=l:=hl;simp only[aK,du]at hx;refine agX hE hF hm hf hb (by rw[hx.1.1.1,hx.1.1.2];rfl) (λargs r hr=> ?_) _ r hr;obtain⟨x,rfl,hq⟩:=KZ hA hr;obtain⟨h1,rfl⟩:=bV hq;have hx:=hc x;unfold JP at hx;simp only[aK]at hx;refine⟨hx.1.2,λhf=> ?_⟩
  obtain⟨N,h⟩:=h x hf h1.symm;refine⟨cL hx.2,Pr t,it N,λe σ=>(fin E F (ap s A x) e σ).bind (Yr k),ap s v x,by rw[hl];exact Dz N, ?_,λe σ he=> ?_⟩
  ·unfold De at h;rw[hb]at h;exact h
  ·obtain⟨r,hr,hd⟩:=Option.bind_eq_some_iff.1 he;rw[hr,Qp hk hd]
theorem agz{s t:az Ho}{c:Fn s aY}{v:Fn s (Pr t)}{w:Fn s (ay (Pr t))}{d:Pr t}(hc:cmp s w nB=c)(hv:cmp s w (λo=>o.getD d)=v)(x:Tu s)(h:ap s c x=ai):ap s w x=ah (ap s v x):=by
 subst hc hv;rw[Da]at h;rw[Da];cases hw:ap s w x with
 |none=>rw[hw]at h;cases h
 |some y=>rfl
theorem fl{P:c6}{E:fS}(hE:eH P E)(hm:P.follows .mixedOrders=ai)(hF:∀g,bX P E g (E.call g)){g:aC}{F:Func}(hf:P.funcs[g]? =ah F){s t:az Ho}{A:Fn s (az fj)}{k:Fn t dj}{it:aC->It (Pr t)}
  (hc:∀x,JP F (ap s A x)=ai) {l:az Code} (hl:jV (F.body.getD .skip)=l) (Dz:∀N,∀c∈l,bY E (it N) c) (hA:okA A) (hk:okK k)
  {c:Fn s aY} {v:Fn s (Pr t)} {w:aC->Fn s (ay (Pr t))} {u:Fn s (ay (Pr t))} {d:Pr t} (N:aC) (h:∀N x,De E (it N) F k (ap s A x)=ap s (w N) x) (hw:w N=u) (h1:cmp s u nB=c) (h2:cmp s u (λo=>o.getD d)=v):bX P E g (dJ A k c v):=
 flh hE hm hF hf hc hl Dz hA hk λx _ hx=>⟨N,(h N x).trans (by rw[hw];exact agz h1 h2 x hx)⟩
def ct:(s:az Ho)->Fn s aY
 |[]=>ai|_::s=>λ_=>ct s
abbrev Kt(R:Type):=Ex->St->ay R
abbrev Tb:=az (aC×eR)
def J{R:Type}{s:az Ho}(T:Fn s Tb)(e:Ex)(K:Kt R):Fn s (ay R):=cmp s T λt=>K e (fN t)
def al{R:Type}{s:az Ho}(T:Fn s Tb)(f:Kt R->Fn s (ay R))(o:Tb->Kt R->ay R):Tb->Kt R->ay R:=λL K=>bif A_ (Oo s T) L then Yk s (f K) (Kj L)else o L K
def an{R:Type}:Tb->Kt R->ay R:=λ_ _=>aj
def lp{R:Type}(n:aC)(a:Tb->Kt R->ay R)(o:It R):It R:=λn9 f cn L K=>bif bD n9 n then a L K else o n9 f cn L K
def ln{R:Type}:It R:=λ_ _ _ _ _=>aj
theorem Yi{R:Type}{s:az Ho}{T:Fn s Tb}(hT:okT T){f:Kt R->Fn s (ay R)}{o:Tb->Kt R->ay R}{L:Tb}{K:Kt R}{r:R}(h:al T f o L K=ah r):(∃x,L=ap s T x/\ap s (f K) x=ah r)\/o L K=ah r:=by
 unfold al at h;cases hb:A_ (Oo s T) L with
 |false=>rw[hb]at h;exact .inr h
 |true=>rw[hb]at h;obtain⟨x,h1,h2⟩:=C_ h;exact .inl ⟨x,by rw[<-hT x,<-h1,J4 hb],h2⟩
section
variable {R:Type} {E:fS} {it:It R} {C:Code} {n:aC}
def Good(E:fS)(it:It R)(C:Code)(n:aC)(a:Tb->Kt R->ay R):Prop:=∀L K r,a L K=ah r->∃m,iter (tq E it C) (canon (E.Bt n)) m (fN L) K=ah r
def Wd(E:fS)(it:It R)(C:Code)(n:aC)(K:Kt R){s:az Ho}(T:Fn s Tb)(l:aC->Fn s (ay R)):Prop:=∀m x,iter (tq E it C) (canon (E.Bt n)) m (fN (ap s T x)) K=ap s (l m) x
theorem oG:Good E it C n an:=λ_ _ _ h=>by cases h
theorem OI{s:az Ho}{T:Fn s Tb}(hT:okT T){l:Kt R->aC->Fn s (ay R)}{N:aC}{o:Tb->Kt R->ay R}(h:∀K,Wd E it C n K T (l K))(ho:Good E it C n o):Good E it C n (al T (λK=>l K N) o):=by
 intro L K r hq;rcases Yi hT hq with ⟨x,rfl,hx⟩|hq
 ·exact⟨N,(h K N x).trans hx⟩
 ·exact ho L K r hq
theorem lom(n:aC)(hr:gH C=n){a:Tb->Kt R->ay R}(hi:∀L K,it n (tq E it C) (canon (E.Bt n)) L K=a L K)(h:Good E it C n a):bY E it C:=by intro L K q;rw[hr,hi];exact h L K q
theorem wf{K:Kt R}{s:az Ho}{T:Fn s Tb}{l:aC->Fn s (ay R)}{m:aC}(h:∀x,iter (tq E it C) (canon (E.Bt n)) m (fN (ap s T x)) K=ap s (l m) x):cmp s T (λt=>iter (tq E it C) (canon (E.Bt n)) m (fN t) K)=l m:=
 agy λy=>by rw[Da,h]
theorem wl{K:Kt R}{s:az Ho}{T:Fn s Tb}{l:aC->Fn s (ay R)}(r:(St->ay R)->Fn s (ay R))(h0:∀x,ap s (l 0) x=aj)
  (h1:∀m,(∀x,iter (tq E it C) (canon (E.Bt n)) m (fN (ap s T x)) K=ap s (l m) x)->r (λσ=>iter (tq E it C) (canon (E.Bt n)) m σ K)=l (m+1))
  (h:∀g x,tq E it C (fN (ap s T x)) (Gn g (canon (E.Bt n)) K)=ap s (r g) x):Wd E it C n K T l:=by
 intro m;induction m with
 |zero=>intro x;rw[h0];rfl
 |succ m ih=>intro x;rw[QN,h,h1 m ih]
theorem lo1(n:aC){s:az Ho}(T:Fn s Tb)(hr:gH C=n)(hT:okT T)(l:Kt R->aC->Fn s (ay R))(r:Kt R->Fn s (ay R)->Fn s (ay R)){N:aC}
  (hi:∀L K,it n (tq E it C) (canon (E.Bt n)) L K=al T (λK=>l K N) an L K) (h0:∀K x,ap s (l K 0) x=aj) (h1:∀K n,l K (n+1)=r K (l K n))
  (h:∀K g x,tq E it C (fN (ap s T x)) (Gn g (canon (E.Bt n)) K)=ap s (r K (cmp s T λt=>g (fN t))) x):bY E it C:=
 lom n hr hi (OI hT (λK=>wl (λg=>r K (cmp s T λt=>g (fN t))) (h0 K) (λm i=>by rw[h1];exact lH (r K) (wf i)) (h K)) oG)
end
end Go.FG

namespace Go.FG.Lib
def cy:aC:=18446744073709551616
def lt{α β:Type}(a:α)(f:α->β):β:=f a
theorem cY{α:Type}{o:ay α}{x d:α}(h:o=ah x):nB o=ai/\Option.getD o d=x:=by rw[h];exact⟨rfl,rfl⟩
theorem some_{α:Type}{o:ay α}{d:α}(h:nB o=ai):o=ah (Option.getD o d):=by
 cases o with
 |none=>cases h
 |some x=>rfl
theorem dB{σ β:Type}(F:aC->σ->β)(mu:σ->aC)(inv:σ->Prop)(res:σ->β)
  (step:∀n s,inv s->F (n+1) s=res s\/∃s',inv s'/\mu s'<mu s/\res s'=res s/\F (n+1) s=F n s'):∀n s,inv s->mu s<n->F n s=res s:=by
 intro n;induction n with
 |zero=>intro s _ h;omega
 |succ n ih=>
  intro s hi hm;rcases step n s hi with h|⟨s',h1,h2,h3,h4⟩
  ·exact h
  ·rw[h4,<-h3];exact ih s' h1 (by omega)
theorem de(i n:aC):decide ((i:aw)<(n:aw))=decide (i<n):=by rw[cg];omega
theorem cz(i:aC):decide (0<=(i:aw))=true:=by simp
theorem Ou{i n:aC}(h:i<n):decide ((i:aw)<(n:aw))=true:=by simp;omega
theorem TY{i n:aC}(h:¬i<n):decide ((i:aw)<(n:aw))=false:=by simp;omega
theorem dU(i:aC):bc (i:aw)=i:=rfl
theorem c5{i n:aC}(h:i<n)(hn:n<=9223372036854775807):br ((i:aw)+1)=((i+1:aC):aw):=by rw[ir (by omega) (by omega)];omega
theorem nD{xs:aQ}{i:aC}(h:i<xs.length):xs.getD i []=xs[i]:=by simp[gg,h]
theorem cG{xs:aQ}{i j:aC}(h:i<xs.length):ar xs i j=xs[i].getD j (.b ak):=by unfold ar;rw[nD h]
theorem fG(xs:aQ)(i j:aC)(ys:az CV):(cK xs i j ys).length=xs.length:=by unfold cK;simp
theorem oI(ks:az Ck)(n:aC):(aN ks n).length=n:=by unfold aN;simp
theorem GH{ks:az Ck}{w:aQ}{i n:aC}(hw:w.length=n)(hi:i<n){y:az CV}(hy:w[i]? =ah y)(hk:y.length=ks.length):cK (w.take i++aN ks (n-i)) i 0 y=w.take (i+1)++aN ks (n-(i+1)):=by
 have hl:(w.take i).length=i:=by simp;omega
 have hz:aN ks (n-i)=ks.map se::aN ks (n-(i+1)):=by unfold aN;rw[show n-i=(n-(i+1))+1 by omega,List.replicate_succ]
 have hg:(w.take i++aN ks (n-i)).getD i []=ks.map se:=by rw[d_,c8 (by omega),hl,vP,hz];rfl
 have hs:dS (ks.map se) 0 y=y:=by unfold dS;rw[Jq,gG,bT,gW (by simp[hk]),cu]
 unfold cK;rw[hg,hs,NW _ _ (by omega),hl,vP,hz,Tt,bQ (by omega),bU];have:w[i]=y:=by rw[dK (by omega)]at hy;injection hy
 rw[this];rfl
theorem cm{n b:aC}(h:n*b<=140737488355328)(h2:n<=9223372036854775807):cC n b=true:=by unfold cC;simp;omega
theorem T4{R:Type}{ks:az Ck}(w:aQ)(n:aC)(hw:w.length=n)(hk:∀y∈w,y.length=ks.length)(F:aC->aC->aQ->ay R)(K:aQ->ay R)
  (h1:∀m,F (m+1) n w=K w) (h2:∀m i,i<n->∀x,x.length=n->F (m+1) i x=F m (i+1) (cK x i 0 (w.getD i []))):F (n+1) 0 (aN ks n)=K w:=by
 have:=dB (λm (i:aC)=>F m i (w.take i++aN ks (n-i))) (λi=>n-i) (λi=>i<=n) (λ_=>K w) (λm i hi=>by
  by_cases h:i<n
  ·right;refine⟨i+1,h,by omega,rfl, ?_⟩
   have hy:w[i]? =ah w[i]:=dK (by omega);have e:=GH hw h hy (hk _ (bu (by omega)));rw[h2 m i h _ (by simp[aN];omega),show w.getD i []=w[i]from by simp[gg,hy],e]
  ·left;have:i=n:=by omega
   subst this;have e1:w.take i=w:=fX (by omega);have e2:aN ks (i-i)=[]:=by unfold aN;simp
   rw[e1,e2,cu];exact h1 m) (n+1) 0 (bk _) (by omega)
 simpa using this
theorem CG{xs:aQ}{i j:aC}{ys:az CV}(h:i<xs.length):cK xs i j ys=xs.set i (dS xs[i] j ys):=by unfold cK;rw[nD h]
theorem dG{x:aQ}{i:aC}(h:i<x.length):x.drop i=x[i]::x.drop (i+1):=di h
def up:aw->aC->aw|k,0=>k|k,n+1=>up (br (k+1)) n
theorem Nk{x:aw}(h:0<=x):br x<=x:=by
 have e:br x=if(decide (x%18446744073709551616≥9223372036854775808))=ai then x%18446744073709551616-18446744073709551616 else x%18446744073709551616:=rfl
 rw[e];split<;>omega
def vb(x:aw):aQ:=
 if x>127 then [CV.i ba (bE ba (br (cT x 128+128)))]::vb (br (c7 x 128))else [[CV.i ba (bE ba x)]]
termination_by x.toNat
decreasing_by
 rename_i h
 have h1:c7 x 128=x/128:=g7 (by omega)
 have h2:=Nk (x:=c7 x 128) (by omega)
 omega
theorem wH{x:aw}(h:x>127):vb x=[CV.i ba (bE ba (br (cT x 128+128)))]::vb (br (c7 x 128)):=by rw[vb,bB h]
theorem mW{x:aw}(h:¬x>127):vb x=[[CV.i ba (bE ba x)]]:=by rw[vb,bH h]
theorem IJ{n:aC}(h:n<=140737488355328):cC n 1=true:=cm (by omega) (by omega)
theorem iU(y:az CV)(ks:az Ck):(aL (aN ks 1) 0 y)=[y]:=rfl
theorem PM{R:Type}(F:aC->aw->aQ->ay R)(k:aq->ay R)
  (h1:∀n x acc,x>127->acc.length<=100->F (n+1) x acc=F n (br (c7 x 128)) (acc++[[CV.i ba (bE ba (br (cT x 128+128)))]]))
  (h2:∀n x acc,¬x>127->acc.length<=100->F (n+1) x acc=k (bytesOf (acc++[[CV.i ba (bE ba x)]]))) (x:aw) (hx:x<=9223372036854775807):F (x.toNat+1) x []=k (bytesOf (vb x)):=by
 have:=dB (λn (s:aw×aQ)=>F n s.1 s.2) (λs=>s.1.toNat) (λs=>s.2.length<=100/\(1<=s.1->2^s.2.length*s.1<=9223372036854775808)) (λs=>k (bytesOf (s.2++vb s.1))) (λn s hs=>by
  obtain⟨x,acc⟩:=s;obtain⟨hl,hb⟩:=hs;dsimp only at hl hb⊢;by_cases h:x>127
  ·right;have e1:c7 x 128=x/128:=g7 (by omega);have hp:(1:aw)<=2^acc.length:=by
    have:(0:aw)<2^acc.length:=by exact Int.pow_pos (by omega)
    omega
   have hxb:x<=9223372036854775808:=by have h3:=hb (by omega);have:1*x<=2^acc.length*x:=EH hp (by omega);omega
   have e2:br (c7 x 128)=x/128:=by rw[e1,ir (by omega) (by omega)]
   have h64:acc.length<64:=by
    rcases qQ acc.length 64 with h5|h5
    ·exact h5
    ·exfalso;have h6:(2:aw)^64<=2^acc.length:=by have:=Nat.pow_le_pow_right (n:=2) (by omega) h5;exact_mod_cast this
     have h7:=hb (by omega);have h8:(2:aw)^acc.length*1<=2^acc.length*x:=CW (by omega) (by omega);have:(2:aw)^64=18446744073709551616:=by decide
     omega
   refine⟨(br (c7 x 128),acc++[[CV.i ba (bE ba (br (cT x 128+128)))]]),⟨by simp;omega,λ_=> ?_⟩,by dsimp only;omega, ?_,h1 n x acc h hl⟩
   ·dsimp only;rw[e2,cf,bC,uR];have h7:=hb (by omega);have h9:2*(x/128)<=x:=by omega
    have h8:(2:aw)^acc.length*(2*(x/128))<=2^acc.length*x:=CW h9 (by omega);rw[Int.mul_assoc];omega
   ·dsimp only;rw[wH h,bU];rfl
  ·left;rw[mW h];exact h2 n x acc h hl) (x.toNat+1) (x,[]) ⟨by simp,λh=>by simp;omega⟩ (by dsimp only;omega)
 simpa using this
theorem LZ{a b c:aC}{inst:Decidable (a+b<=c)}(h:a+b<=c): @decide (a+b<=c) inst=true:=aE h
theorem aiP:∀(n:aC) (x:aw),x<2^n->(vb x).length<=n+1:=by
 intro n;induction n with
 |zero=>intro x hx;rw[mW (by omega)];simp
 |succ n ih=>
  intro x hx;by_cases h:x>127
  ·have e1:c7 x 128=x/128:=g7 (by omega);have h2:=Nk (x:=c7 x 128) (by omega);rw[wH h];have h3:br (c7 x 128)<2^n:=by rw[uR]at hx;omega
   have:=ih _ h3;simp;omega
  ·rw[mW h];simp
theorem ie(xs:aQ):(bytesOf xs).size=xs.length:=by unfold bytesOf;simp[b8]
theorem jL{x:aw}(h:x<=9223372036854775807):(bytesOf (vb x)).size<=64:=by
 rw[ie];exact aiP 63 x (by have:(2:aw)^63=9223372036854775808:=by decide
                           omega)
theorem jK(a b:aq):(a++b).size=a.size+b.size:=dH
theorem qA(l:az Jd):cW l l=true:=by
 induction l with
 |nil=>rfl
 |cons a l ih=>simp only[cW,ih,j4];exact beq_self_eq_true a
theorem PK{L:aw}{n:aC}(h0:0<=L)(h1:L<=1048576)(hn:n<=9223372036854775807):br (L-(n:aw))=L-n:=ir (by omega) (by omega)
theorem H0(s:aq)(i:aC):gU s i<256:=(s.data.getD i 0).toNat_lt
def rv(t:aq)(a:aC):aC->aC->aw->aw×aw×aY
 |0,_,_=>(0,0,ak)
 |f+1,j,n=>
  if a+j<t.size then
   (if(gU t (a+j):aw)>127 then rv t a f (j+1) (n+(gU t (a+j):aw)%128*128^j)
   else if(j>0/\gU t (a+j)=0)\/n+(gU t (a+j):aw)%128*128^j>1000000000 then(0,0,ak)
   else(n+(gU t (a+j):aw)%128*128^j,((a+j+1:aC):aw),ai))
  else(0,0,ak)
theorem qC{α:Type}{c:aY}{x y:α}(h:c=ai):(bif c then x else y)=x:=by rw[h];rfl
theorem TM{α:Type}{c:aY}{x y:α}(h:c=ak):(bif c then x else y)=y:=by rw[h];rfl
theorem Bn{p:Prop}{inst:Decidable p}(h:p): @decide p inst=true:=aE h
theorem JU{p:Prop}{inst:Decidable p}(h:¬p): @decide p inst=false:=aG h
def num(t:aq):aC->aC->aw
 |_,0=>0
 |a,k+1=>(gU t a:aw)%128+128*num t (a+1) k
theorem CC(t:aq):∀(k a:aC),0<=num t a k/\num t a k<128^k
 |0,a=>by simp[num]
 |k+1,a=>by
  have:=CC t k (a+1);simp only[num,uR];omega
theorem yA(t:aq):∀(k a:aC),num t a (k+1)=num t a k+(gU t (a+k):aw)%128*128^k
 |0,a=>by simp[num]
 |k+1,a=>by
  rw[num,yA t k (a+1),num,show a+1+k=a+(k+1)by omega,uR];rw[Int.mul_add,<-Int.add_assoc];congr 1;rw[Int.mul_comm 128,Int.mul_assoc]
theorem O8(t:aq):∀(k a:aC),(gU t (a+k):aw)%128≠0->1<=num t a (k+1)
 |0,a,h=>by simp[num]at h⊢;omega
 |k+1,a,h=>by
  rw[num];have:=O8 t k (a+1) (by rw[show a+1+k=a+(k+1)by omega];exact h);omega
theorem Xd(t:aq):∀(k a:aC),(∀i,i<k->128<=gU t (a+i))->gU t (a+k)<128->(k=0\/gU t (a+k)≠0)->num t a (k+1)<=9223372036854775807->vb (num t a (k+1))=(iw a (k+1)).map λi=>[CV.i ba (gU t i:aw)]
 |0,a,_,h2,_,_=>by
  have e:num t a 1=(gU t a:aw):=by simp[num]at h2⊢;omega
  simp only[zP]at h2;rw[e,mW (by omega)];have hw:bE ba (gU t a:aw)=(gU t a:aw):=by show(gU t a:aw)%256=_;omega
  rw[hw];rfl
 |k+1,a,h1,h2,h3,h4=>by
  have hb:=H0 t a;have h0:=h1 0 (by omega);rw[zP]at h0;have iy:gU t (a+(k+1))≠0:=by rcases h3 with h3|h3;(·omega);exact h3
  have k8:=O8 t k (a+1) (by rw[show a+1+k=a+(k+1)by omega];omega);have e:num t a (k+1+1)=(gU t a:aw)%128+128*num t (a+1) (k+1):=rfl;rw[e]at h4⊢;have e1:cT ((gU t a:aw)%128+128*num t (a+1) (k+1)) 128=(gU t a:aw)%128:=by rw[jD (by omega)];omega
  have e2:c7 ((gU t a:aw)%128+128*num t (a+1) (k+1)) 128=num t (a+1) (k+1):=by rw[g7 (by omega)];omega
  have e3:br ((gU t a:aw)%128+128)=(gU t a:aw):=by rw[ir (by omega) (by omega)];omega
  have hw:bE ba (gU t a:aw)=(gU t a:aw):=by show(gU t a:aw)%256=_;omega
  rw[wH (by omega),e1,e2,e3,hw,ir (by omega) (by omega),Xd t k (a+1) (λi hi=>by rw[show a+1+i=a+(i+1)by omega];exact h1 (i+1) (by omega)) (by rw[show a+1+k=a+(k+1)by omega];exact h2) (by rw[show a+1+k=a+(k+1)by omega];exact .inr iy) (by omega)];rfl
theorem CL:∀(k:aC) (x:aw),x<128^(k+1)->(vb x).length<=k+1
 |0,x,h=>by rw[mW (by simp at h;omega)];simp
 |k+1,x,h=>by
  by_cases hx:x>127
  ·have e1:c7 x 128=x/128:=g7 (by omega);have h2:=Nk (x:=c7 x 128) (by omega);rw[wH hx];have h3:br (c7 x 128)<128^(k+1):=by rw[uR]at h;omega
   have:=CL k _ h3;simp;omega
  ·rw[mW hx];simp
theorem JH{t:aq}{a m:aC}(h:a+m<=t.size):(bytesOf ((iw a m).map λi=>[CV.i ba (gU t i:aw)])).data.toList=(t.extract a (a+m)).data.toList:=by
 have h1:(bytesOf ((iw a m).map λi=>[CV.i ba (gU t i:aw)])).data.toList=(iw a m).map λi=>t.data.getD i 0:=by unfold bytesOf;simp[bF,gU]
 rw[h1];apply Xv;intro i;have hs:t.size=t.data.size:=rfl;have OP:a+m<=t.data.size:=by rw[<-hs];exact h
 simp only[gn,ix,g8];by_cases hi:i<m
 ·have h3:a+i<t.data.size:=by omega
  rw[bI,List.getElem?_range' hi,ea,bB (by omega),dV];simp only[jc,Nat.one_mul,cZ,eM];rw[Array.getElem?_eq_getElem h3];rfl
 ·rw[kS (by simp;omega),kS (by simp;omega)]
theorem beq_iff{l r:az Jd}:cW l r=ai↔l=r:=by
 constructor
 ·intro h;induction l generalizing r with
  |nil=>cases r with|nil=>rfl|cons=>cases h
  |cons a l ih=>
   cases r with
   |nil=>cases h
   |cons b r=>simp only[cW,aK]at h;rw[eq_of_beq h.1,ih h.2]
 ·rintro rfl;exact qA l
theorem canon(t:aq)(k a:aC)(h:a+(k+1)<=t.size)(h1:∀i,i<k->128<=gU t (a+i))(h2:gU t (a+k)<128)(h4:num t a (k+1)<=9223372036854775807):
  cW (bytesOf (vb (num t a (k+1)))).toList (t.extract a (a+(k+1))).toList= !decide (k>0/\gU t (a+k)=0):=by
 rw[kj,kj];by_cases hc:k>0/\gU t (a+k)=0
 ·rw[aE hc,aX];obtain⟨k',rfl⟩:∃k',k=k'+1:=⟨k-1,by omega⟩
  cases hb:cW (bytesOf (vb (num t a (k'+1+1)))).data.toList (t.extract a (a+(k'+1+1))).data.toList with
  |false=>rfl
  |true=>
   exfalso;have he:=lH bK (beq_iff.1 hb);have e:num t a (k'+1+1)=num t a (k'+1):=by rw[yA,hc.2];simp
   have hl:=CL k' (num t a (k'+1)) (CC t (k'+1) a).2;rw[e]at he;have h5:(bytesOf (vb (num t a (k'+1)))).data.toList.length=(vb (num t a (k'+1))).length:=ie _;have h6:(t.extract a (a+(k'+1+1))).data.toList.length=k'+1+1:=by show(t.extract a (a+(k'+1+1))).size=_;rw[yX];omega
   omega
 ·rw[aG hc,bS];have:=Xd t k a h1 h2 (by omega) h4;rw[this];exact beq_iff.2 (JH h)
theorem td{a b:aq}(h:a.data.toList=b.data.toList):a=b:=by obtain⟨⟨a⟩⟩:=a;obtain⟨⟨b⟩⟩:=b;simp at h;rw[h]
theorem fw{a b:aq}:cW a.toList b.toList=decide (a=b):=by
 rw[kj,kj];by_cases h:a=b
 ·subst h;rw[aE rfl];exact qA _
 ·rw[aG h];cases hb:cW a.data.toList b.data.toList with
  |false=>rfl
  |true=>exact cS (td (beq_iff.1 hb)) h
theorem aeb(t:aq)(a:aC):∀(f j:aC) (n:aw) (m x:aw),rv t a f j n=(m,x,ai)->n=num t a j->(∀i,i<j->128<=gU t (a+i))->
  ∃k,x=((a+(k+1):aC):aw)/\a+(k+1)<=t.size/\0<=m/\m<=1000000000/\bytesOf (vb m)=t.extract a (a+(k+1))
 |0,j,n,m,x,h,_,_=>by simp[rv]at h
 |f+1,j,n,m,x,h,hn,hge=>by
  have hb:=H0 t (a+j);have YW:n+(gU t (a+j):aw)%128*128^j=num t a (j+1):=by rw[yA,<-hn]
  simp only[rv]at h;by_cases fP:a+j<t.size
  ·rw[bB fP]at h;by_cases hc:(gU t (a+j):aw)>127
   ·rw[bB hc]at h;refine aeb t a f (j+1) _ m x h YW (λi hi=> ?_);by_cases QF:i<j
    ·exact hge i QF
    ·have:i=j:=by omega
     subst this;omega
   ·rw[bH hc]at h;by_cases hz:(j>0/\gU t (a+j)=0)\/n+(gU t (a+j):aw)%128*128^j>1000000000
    ·rw[bB hz]at h;simp at h
    ·rw[bH hz]at h;simp only[jd,and_true]at h;obtain⟨rfl,rfl⟩:=h;have hr:=CC t (j+1) a;rw[<-YW]at hr;refine⟨j,by omega,by omega,hr.1,by omega, ?_⟩
     have:=canon t j a (by omega) hge (by omega) (by rw[<-YW];omega);rw[fw,show decide (j>0/\gU t (a+j)=0)=ak from aG (λh=>hz (.inl h)),bS,<-YW]at this;exact cF this
  ·rw[bH fP]at h;simp at h
def eG(t:aq)(gT:aw):aw×aw×aY:=if 0<=gT/\gT<=t.size then rv t gT.toNat 5 0 0 else(0,0,ak)
theorem jY{t:aq}{gT m x:aw}(h:eG t gT=(m,x,ai)):0<=gT/\gT<x/\x<=t.size/\0<=m/\m<=1000000000/\bytesOf (vb m)=t.extract gT.toNat x.toNat:=by
 unfold eG at h;by_cases hn:0<=gT/\gT<=t.size
 ·rw[bB hn]at h;obtain⟨k,h1,h2,h3,h4,h5⟩:=aeb t gT.toNat 5 0 0 m x h rfl (λi hi=>by omega);exact⟨hn.1,by omega,by omega,h3,h4,by rw[h1];exact h5⟩
 ·rw[bH hn]at h;simp at h
def g6(t:aq)(gT:aw):aq×aw×aY:=
 match eG t gT with
 |(n,x,ai)=>if n<=20000/\n<=t.size-x then(t.extract x.toNat (x+n).toNat,x+n,ai)else(⟨#[]⟩,0,ak)
 |_=>(⟨#[]⟩,0,ak)
theorem vC{R:Type}{t:aq}(ht:t.size<=4611686018427387904)(gT:aw)(kr:aq->aw->aY->ay R):
  (bif(!(eG t gT).2.2)then(kr ({data:= #[]}) 0 ak)else(bif(decide ((eG t gT).1>20000))then(kr ({data:= #[]}) 0 ak)else(bif(decide ((eG t gT).1>br ((↑(b8 t):aw)-(eG t gT).2.1)))then(kr ({data:= #[]}) 0 ak)else(bif(iA (eG t gT).2.1 (br ((eG t gT).2.1+(eG t gT).1)) (↑(b8 t):aw))then(kr (bP t (bc (eG t gT).2.1) (bc (br ((eG t gT).2.1+(eG t gT).1)))) (br ((eG t gT).2.1+(eG t gT).1)) ai)else(aj)))))=kr (g6 t gT).1 (g6 t gT).2.1 (g6 t gT).2.2:=by
 unfold g6;cases hr:eG t gT with
 |mk n r=>
  obtain⟨x,ok⟩:=r;cases ok with
  |false=>rfl
  |true=>
   obtain⟨h1,h2,h3,h4,h5,h6⟩:=jY hr;have e1:br ((t.size:aw)-x)=t.size-x:=ir (by omega) (by omega);have e2:br (x+n)=x+n:=ir (by omega) (by omega);simp only[aX,ax,e1,e2];by_cases hc:n<=20000/\n<=t.size-x
   ·rw[bB hc,TM (JU (by omega)),TM (JU (by omega)),qC (by simp[iA];omega)]
   ·rw[bH hc];by_cases hb:n>20000
    ·rw[qC (Bn hb)]
    ·rw[TM (JU hb),qC (Bn (by omega))]
theorem II{t:aq}{gT x:aw}{s:aq}(h:g6 t gT=(s,x,ai)):0<=gT/\gT<x/\x<=t.size/\s.size<=20000/\bytesOf (vb s.size)++s=t.extract gT.toNat x.toNat:=by
 unfold g6 at h;cases hr:eG t gT with
 |mk n r=>
  obtain⟨y,ok⟩:=r;rw[hr]at h;cases ok with
  |false=>simp at h
  |true=>
   dsimp only at h;obtain⟨h1,h2,h3,h4,h5,h6⟩:=jY hr;split at h
   ·rename_i hc;simp only[jd,and_true]at h;obtain⟨rfl,rfl⟩:=h;have fZ:(t.extract y.toNat (y+n).toNat).size=n.toNat:=by rw[yX];omega
    refine⟨h1,by omega,by omega,by rw[fZ];omega, ?_⟩
    rw[fZ,show((n.toNat:aC):aw)=n by omega,h6];apply td;simp only[ml,gn,vE,ix,g8];rw[show(y+n).toNat-gT.toNat=(y.toNat-gT.toNat)+n.toNat by omega,List.take_add,vM,show gT.toNat+(y.toNat-gT.toNat)=y.toNat by omega,show(y+n).toNat-y.toNat=n.toNat by omega]
   ·simp at h
theorem xN(t:aq){i j k:aC}(h1:i<=j)(h2:j<=k):t.extract i j++t.extract j k=t.extract i k:=by apply td;simp only[ml,gn,vE,ix,g8];rw[show k-i=(j-i)+(k-j)by omega,List.take_add,vM,show i+(j-i)=j by omega]
theorem H5(t:aq):t.extract 0 t.size=t:=by apply td;simp only[gn,ix,g8,eN,oN];exact fX (by simp)
def fi(p:aC->aY):aC->aC->aw
 |0,_=> -1
 |d+1,i=>bif p i then(i:aw)else fi p d (i+1)
theorem ph(p:aC->aY):∀d i,fi p d i= -1/\(∀k,i<=k->k<i+d->p k=ak)\/∃k,i<=k/\k<i+d/\fi p d i=(k:aw)/\p k=ai/\∀q,i<=q->q<k->p q=ak
 |0,i=> .inl ⟨rfl,λk _ _=>by omega⟩
 |d+1,i=>by
  unfold fi;cases hp:p i with
  |true=>exact .inr ⟨i,by omega,by omega,rfl,hp,λq _ _=>by omega⟩
  |false=>
   rcases ph p d (i+1)with ⟨h1,h2⟩|⟨k,h1,h2,h3,h4,h5⟩
   ·refine .inl ⟨h1,λk AJ zA=> ?_⟩;by_cases h:k=i
    ·subst h;exact hp
    ·exact h2 k (by omega) (by omega)
   ·refine .inr ⟨k,by omega,by omega,h3,h4,λq hq1 hq2=> ?_⟩;by_cases h:q=i
    ·subst h;exact hp
    ·exact h5 q (by omega) hq2
end Go.FG.Lib
namespace Go.FG.Pu
def tD(xs:aQ)(i:aC)(ys:aQ):aQ:=xs.take i++ys++xs.drop i
end Go.FG.Pu

namespace Go.FG
class PT (P:outParam c6) (T:outParam Tab):Prop where
 e:eH P T
 m:P.follows .mixedOrders=ai
abbrev As:=az fj
abbrev AA.n(x:aw):AA:= .i .i64 x
abbrev AV.n(x:aw):AV:= .i .i64 x
abbrev CV.n(x:aw):CV:= .i .i64 x
abbrev aI(x:aw):fj:= .v ak [.n x]
abbrev aB(x:aY):fj:= .v ak [.b x]
abbrev aS(x:aq):fj:= .v ak [.s x]
abbrev aH(e:aC)(x:aQ):fj:= .v ak [.sh e x]
abbrev aO(e:aC)(x:aQ):fj:= .v ak [.ow e ai x]
abbrev aV(l:az AA):fj:= .v ai l
abbrev cA(k:aC)(a:AV):aC×eR:=(k, .v (.v ak [a]))
abbrev cV(k:aC)(l:az AV):aC×eR:=(k, .v (.v ai l))
abbrev cI(k:aC)(x:aw):aC×eR:=cA k (.n x)
abbrev cP(k n:aC):aC×eR:=cA k (.bp n 0)
abbrev cH(k e:aC)(x:aQ):aC×eR:=cA k (.sh e x)
abbrev oB(k:aC)(l:az AV):aC×eR:=(k, .o (.box l))
abbrev oR(k e:aC)(x:aQ):aC×eR:=(k, .o (.row e ai x))
variable {P:c6} {T:Tab} [i:PT P T] {E:fS} {g:aC} {F:Func} {s t:az Ho} {A:Fn s As} {k:Fn t dj}
theorem fq(hF:∀g,bX P T g (E.call g))(hf:P.funcs[g]? =ah F){it:aC->It (Pr t)}{l:az Code}(Dz:∀N,∀c∈l,bY E (it N) c)
  {c:Fn s aY} {v:Fn s (Pr t)} (b:aC->Fn t (ay (Pr t))->Fn s (ay (Pr t))) (u:Fn s (ay (Pr t))) {d:Pr t} (hT:E.toTab=T:=by rfl)
  (hc:∀x,JP F (ap s A x)=true:=by intro x;kernel_rfl) (hl:jV (F.body.getD .skip)=l:=by kernel_rfl) (hA:okA A:=by intro x;rfl) (hk:okK k:=by intro x;rfl)
  (h:∀N x,De E (it N) F k (ap s A x)=ap s (b N (cmp t (j_ t) ah)) x:=by intro N x;kernel_rfl) (hw:b Lib.cy (cmp t (j_ t) ah)=u:=by rfl) (h1:cmp s u nB=c:=by rfl) (h2:cmp s u (λo=>o.getD d)=v:=by rfl):bX P T g (dJ A k c v):=by subst hT;exact fl i.e i.m hF hf hc hl Dz hA hk Lib.cy h hw h1 h2
theorem fr(hF:∀g,bX P T g (E.call g))(hf:P.funcs[g]? =ah F)
  {c:Fn s aY} {v:Fn s (Pr t)} (b:Fn t (ay (Pr t))->Fn s (ay (Pr t))) (u:Fn s (ay (Pr t))) {d:Pr t} (hT:E.toTab=T:=by rfl)
  (hc:∀x,JP F (ap s A x)=true:=by intro x;kernel_rfl) (hl:jV (F.body.getD .skip)=[]:=by kernel_rfl) (hA:okA A:=by intro x;rfl) (hk:okK k:=by intro x;rfl)
  (h:∀x,De E ln F k (ap s A x)=ap s (b (cmp t (j_ t) ah)) x:=by intro x;kernel_rfl) (hw:b (cmp t (j_ t) ah)=u:=by rfl) (h1:cmp s u nB=c:=by rfl) (h2:cmp s u (λo=>o.getD d)=v:=by rfl):bX P T g (dJ A k c v):=by subst hT;exact fl i.e i.m hF hf hc hl (it:=λ_=>ln) (λ_=>bw) hA hk (w:=λ_=>b (cmp t (j_ t) ah)) 0 (λ_=>h) hw h1 h2
theorem ft(hF:∀g,bX P T g (E.call g))(hf:P.funcs[g]? =ah F)
  {v:Fn s (Pr t)} (b:Fn t (ay (Pr t))->Fn s (ay (Pr t))) (hv:∀x,ap s (b (cmp t (j_ t) ah)) x=ah (ap s v x)) (hT:E.toTab=T:=by rfl)
  (hc:∀x,JP F (ap s A x)=true:=by intro x;kernel_rfl) (hl:jV (F.body.getD .skip)=[]:=by kernel_rfl) (hA:okA A:=by intro x;rfl) (hk:okK k:=by intro x;rfl)
  (h:∀x,De E ln F k (ap s A x)=ap s (b (cmp t (j_ t) ah)) x:=by intro x;kernel_rfl):bX P T g (dJ A k (ct s) v):=by subst hT;exact flh i.e i.m hF hf hc hl (it:=λ_=>ln) (λ_=>bw) hA hk λx _ _=>⟨0,(h x).trans (hv x)⟩
theorem fh(hF:∀g,bX P T g (E.call g))(hf:P.funcs[g]? =ah F){it:aC->It (Pr t)}{l:az Code}(Dz:∀N,∀c∈l,bY E (it N) c)
  {c:Fn s aY} {v:Fn s (Pr t)} (b:aC->Fn t (ay (Pr t))->Fn s (ay (Pr t))) (hv:∀x,xR (ap s A x)->ap s c x=ai->∃N,ap s (b N (cmp t (j_ t) ah)) x=ah (ap s v x)) (hT:E.toTab=T:=by rfl)
  (hc:∀x,JP F (ap s A x)=true:=by intro x;kernel_rfl) (hl:jV (F.body.getD .skip)=l:=by kernel_rfl) (hA:okA A:=by intro x;rfl) (hk:okK k:=by intro x;rfl)
  (h:∀N x,De E (it N) F k (ap s A x)=ap s (b N (cmp t (j_ t) ah)) x:=by intro N x;kernel_rfl):bX P T g (dJ A k c v):=by subst hT;exact flh i.e i.m hF hf hc hl Dz hA hk λx f q=>(hv x f q).imp λN e=>(h N x).trans e
section
variable {R:Type} {it:It R} {F:Func}
theorem lq(n:aC){s:az Ho}(T:Fn s Tb)(l:Kt R->aC->Fn s (ay R))(r:Kt R->Fn s (ay R)->Fn s (ay R)){N:aC}(hr:gH (bM F n)=n:=by kernel_rfl)(hT:okT T:=by intro x;rfl)
  (hi:∀L K,it n (tq E it (bM F n)) (canon (E.Bt n)) L K=al T (λK=>l K N) an L K:=by intro L K;rfl) (h0:∀K x,ap s (l K 0) x=none:=by intro K x;rfl) (h1:∀K n,l K (n+1)=r K (l K n):=by intro K n;rfl)
  (h:∀K g x,tq E it (bM F n) (fN (ap s T x)) (Gn g (canon (E.Bt n)) K)=ap s (r K (cmp s T λt=>g (fN t))) x:=by intro K g x;kernel_rfl):bY E it (bM F n):=
 lo1 n T hr hT l r hi h0 h1 h
theorem lw{n:aC}{K:Kt R}{s:az Ho}{T:Fn s Tb}{l:aC->Fn s (ay R)}(r:(St->ay R)->Fn s (ay R))
  (h1:∀m,(∀x,iter (tq E it (bM F n)) (canon (E.Bt n)) m (fN (ap s T x)) K=ap s (l m) x)->r (λσ=>iter (tq E it (bM F n)) (canon (E.Bt n)) m σ K)=l (m+1)) (h0:∀x,ap s (l 0) x=none:=by intro x;rfl)
  (h:∀g x,tq E it (bM F n) (fN (ap s T x)) (Gn g (canon (E.Bt n)) K)=ap s (r g) x:=by intro g x;kernel_rfl):Wd E it (bM F n) n K T l:=wl r h0 h1 h
theorem lm(n:aC){a:Tb->Kt R->ay R}(h:Good E it (bM F n) n a)(hr:gH (bM F n)=n:=by kernel_rfl)(hi:∀L K,it n (tq E it (bM F n)) (canon (E.Bt n)) L K=a L K:=by intro L K;rfl):bY E it (bM F n):=lom n hr hi h
theorem ga{C:Code}{n:aC}{s:az Ho}(T:Fn s Tb){N:aC}{l:Kt R->aC->Fn s (ay R)}{o:Tb->Kt R->ay R}(h:∀K,Wd E it C n K T (l K))(ho:Good E it C n o)(hT:okT T:=by intro x;rfl):Good E it C n (al T (λK=>l K N) o):=OI hT h ho
end
end Go.FG

