/- An evaluator for the part of the language that this program uses, proved sound over the model: states told as values and lists; what an evaluation tells, the call does. No condition. -/
import Derived.Calls
import Derived.Orders
import Derived.Below
import Derived.Laws.AppendOwn
import Derived.Laws.Slices
import Derived.Laws.StructEq
import Derived.Laws.Tables
import Derived.Laws.MakeOwn
import Derived.Laws.IdiomStrings
import Derived.Laws.BytesArg
import Derived.Laws.NewFold
import Derived.SizedLaws
import Derived.Carry
import Derived.ProofKit
import Derived.KernelRfl
import Derived.Laws.Strings
import Derived.Test.YtilcgpcemjeaeaaGreatCoreb
set_option linter.unusedVariables false
set_option linter.unusedSimpArgs false
set_option maxRecDepth 100000
open Array renaming length_toList->dR,getElem?_eq_some_iff->dU,toList_extract->iz,getElem?_toList->cY,getD_eq_getD_getElem?->eP,toList_append->vF
open Bool renaming true->ai,and_eq_true->aL,false->ak,false_eq_true->dx,not_eq_true'->dr,and_true->ju,not_true->a_,not_false->bR
open ByteArray renaming size->cm,size_append->dJ,data_extract->gi,size_extract->yJ,extract->bO,data_append->mE
open Go renaming Program->c5,Value->bk,World->bL
open Go.ByteArray renaming toList_eq->kE
open Go.DataW renaming weightsAll->Ab,trod->Du,weights->vM,TrodAll->Ey,weightsEach->ng
open Go.IntKind renaming i64->ao,u8->bh,wrap->bE
open Go.Value renaming okWide->sq
open Int renaming toNat->aW,tmod->cy,tdiv->cQ,tdiv_eq_ediv_of_nonneg->ie,mul_le_mul_of_nonneg_right->DH,mul_le_mul_of_nonneg_left->BW,pow_succ->uY,tmod_eq_emod_of_nonneg->ir
open List renaming getElem?_append_left->dH,getElem?_append_right->da,getElem?_eq_none->k_,mem_singleton->aZ,mem_append->ba,length_append->bP,length_take->eD,length_drop->iE,length_map->bU,map_append->di,getElem?_take->d_,getElem?_drop->dQ,getElem?_eq_getElem->eV,mem_cons->cB,getElem?_eq_some_iff->aT,getElem?_of_mem->bY,eq_nil_of_length_eq_zero->gd,getElem?_map->bK,length_eq_one_iff->g6,all_cons->td,mem_append_left->bM,mem_append_right->bN,append_nil->dn,all_eq_true->bu,append_assoc->cz,map_cons->fD,mem_cons_self->dq,mem_cons_of_mem->c7,getD->jS,drop_eq_getElem_cons->dE,set->aD,length_singleton->bA,beq->bZ,range'->mw,ext_getElem?->Wj,extract_eq_take_drop->ig,length->bT,drop_drop->vN,drop_zero->e_,take_of_length_le->jf
open List.cons renaming inj->kD
open Nat renaming beq->bD,blt->qE,add_assoc->me,lt_or_ge->q_,eq_zero_or_pos->Dw,eq_of_beq_eq_true->aU,zero_add->bV,blt_eq->AM,mul_le_mul_right->b8,le_trans->dh,ble->fK,le_of_ble_eq_true->cM,add_zero->yX,sub_zero->sr
open Option renaming some->ah,none->aj,isSome->nM,map_some->jh
open Option.some renaming inj->aJ
open Prod.mk renaming inj->bW,injEq->ji
open _root_ renaming ByteArray->aq,Nat->aF,Option->aC,List->az,cond_true->au,if_pos->bz,Bool->aX,absurd->cJ,Array->du,Int->aw,decide_eq_true_eq->bf,of_decide_eq_true->cq,cond_false->ax,decide_eq_true->aE,if_neg->bH,congrArg->lO,decide_eq_decide->cg,UInt8->H0,decide_eq_false->aK
namespace Go.FG
open Go.RowKit Go.ChangeShapes
inductive rB (T:Tab):CV->Prop
 |i (k n):(Lit.int k n).wf=ai->rB T (.i k n)
 |b (x):rB T (.b x)
 |s (x:aq):x.size<=140737488351232->rB T (.s x)
 |l (e xs ti):T.ty e=ah ti->xs.length*ti.bytes<=140737488351232->(∀y∈xs,y.map CV.kd=ti.ks)->(∀y∈xs,∀x∈y,rB T x)->rB T (.l e xs)
def PJ(P:c5)(g:aF->aC (az Ck)):az Field->aF->aC (az Ck)
 |[],_=>ah []
 |f::r,off=>match g f.type with
  |some ks=>bif bD f.offset off&&bD (P.cellsOf f.type) ks.length then(match PJ P g r (off+ks.length)with|some l=>ah (ks++l)|none=>aj)else aj
  |none=>aj
def PI(P:c5)(T:Tab):aF->aF->aC (az Ck)
 |0,_=>aj
 |n+1,t=>match P.underlying t with
  |some (.int k)=>ah [.i k]
  |some .bool=>ah [.b]
  |some .string=>ah [.s]
  |some (.slice e)=>match T.ty e,PI P T n e with
   |some te,ah ks=>bif qt ks te.ks&&bD te.bytes (P.bytesOf e)&&bD (P.cellsOf e) ks.length&&qE 0 ks.length then ah [.l e]else aj
   |_,_=>aj
  |some (.struct fs)=>match PJ P (PI P T n) fs.toList 0 with
   |some ks=>bif bD (P.cellsOf t) ks.length then ah ks else aj
   |none=>aj
  |_=>aj
def Iq:CV->AA
 | .i k n=> .i k n| .b x=> .b x| .s x=> .s x| .l e xs=> .sh e xs
section
variable {H:Type} {enc:TypeId×bk->H} {P:c5} {T:Tab} {w:bL}
def DE(w:bL):aF->Prop:=λb=>b<w.heap.size
structure wD (T:Tab) (w:bL) (cs:az bk) (off:aF) (ys:az CV) (ks:az Ck):Prop where
 kd:ys.map CV.kd=ks
 at_:∀(j:aF) (y:CV),ys[j]? =ah y->∃v,cs[off+j]? =ah v/\c_ T w (DE w) v y
 fine:∀y∈ys,rB T y
theorem Sd(a:Addr)(m k:aF):(a.add m).add k=a.add (m+k):=by
 unfold Addr.add;by_cases h1:m=0<;>by_cases h2:k=0
 ·simp[h1,h2]
 ·simp[h1,h2]
 ·simp[h1,h2]
 ·simp[h1,h2,me]
theorem aey(b o n:aF):(ad b o).add n=ad b (o+n):=by unfold Addr.add;by_cases h:n=0<;>simp[h]
theorem Ag{α:Type}{p:aF->α->Prop}:∀n:aF,(∀i,i<n->∃y,p i y)->∃xs:az α,xs.length=n/\∀(i:aF) (y:α),xs[i]? =ah y->p i y
 |0,_=>⟨[],rfl,λi y h=>by simp at h⟩
 |n+1,h=>by
  obtain⟨xs,h1,h2⟩:=Ag n (λi hi=>h i (by omega));obtain⟨y,hy⟩:=h n (by omega);refine⟨xs++[y],by simp[h1],λi z hz=> ?_⟩
  rcases q_ i xs.length with hi|hi
  ·rw[dH hi]at hz;exact h2 i z hz
  ·rw[da hi]at hz;have:i-xs.length=0:=by
    rcases Dw (i-xs.length)with h|h
    ·exact h
    ·rw[k_ (by simp;omega)]at hz;cases hz
   rw[this]at hz;cases hz;have:i=n:=by omega
   subst this;exact hy
theorem tU{v:bk}{y:CV}{k:Ck}(hk:y.kd=k)(hh:c_ T w (DE w) v y)(hf:rB T y):wD T w [v] 0 [y] [k] where
 kd:=by simp[hk]
 at_ j y' hj:=by
  cases j with
  |zero=>cases hj;exact⟨v,rfl,hh⟩
  |succ j=>simp at hj
 fine y' hy:=by rw[aZ]at hy;subst hy;exact hf
theorem ui{e:TypeId}:∀{ds:az (DataW H)} {i:aF} {d:DataW H},ds[i]? =ah d->∀n∈d.weights P e,n∈Ab P e ds
 |[],_,_,h,_,_=>by simp at h
 |d0::ds,0,d,h,n,hn=>by cases h;simp only[Ab,ba];exact .inl hn
 |d0::ds,i+1,d,h,n,hn=>by simp only[Ab,ba];exact .inr (ui (ds:=ds) (i:=i) h n hn)
theorem Pf{g:aF->aC (az Ck)}{cs:az bk}
  (hg:∀t ks,g t=ah ks->∀(fuel:aF) (cs:az bk) (x:DataW H×az MemPlace) sp hd,Du enc P w 0 sp hd fuel t cs=ah x->(∀m∈x.1.weights P t,m<=reachBytes)->cs.length=P.cellsOf t->∃ys,wD T w cs 0 ys ks):
  ∀(fs:az Field) (off:aF) (ks:az Ck),PJ P g fs off=ah ks->off+ks.length<=cs.length->∀(xs:az (DataW H×az MemPlace)) (fuel:aF) sp hd,xs.length=fs.length->
   (∀(i:aF) (f:Field),fs[i]? =ah f->Du enc P w 0 sp hd fuel f.type ((cs.drop f.offset).take (P.cellsOf f.type))=xs[i]?)->
   (∀(i:aF) (f:Field) x,fs[i]? =ah f->xs[i]? =ah x->∀m∈x.1.weights P f.type,m<=reachBytes)->∃ys,wD T w cs off ys ks:=by
 intro fs;induction fs with
 |nil=>intro off ks h _ xs fuel sp hd _ _ _;cases h;exact⟨[],⟨rfl,λj y hj=>by simp at hj,λy hy=>by cases hy⟩⟩
 |cons f fs ih=>
  intro off ks h hlen xs fuel sp hd X4 QF hwt;unfold PJ at h;cases hgf:g f.type with
  |none=>rw[hgf]at h;cases h
  |some k1=>
   rw[hgf]at h;dsimp only at h;cases hb:(bD f.offset off&&bD (P.cellsOf f.type) k1.length)with
   |false=>rw[hb]at h;cases h
   |true=>
    rw[hb,au]at h;simp only[aL]at hb;have e1:=aU hb.1;have e2:=aU hb.2;cases hr:PJ P g fs (off+k1.length)with
    |none=>rw[hr]at h;cases h
    |some k2=>
     rw[hr]at h;have h:k1++k2=ks:=by injection h
     subst h;rw[bP]at hlen;cases xs with
     |nil=>simp at X4
     |cons x xs=>
      have h0:=QF 0 f rfl;rw[show(x::xs)[0]? =ah x from rfl]at h0;obtain⟨y1,c1⟩:=hg _ _ hgf fuel _ x sp hd h0 (hwt 0 f x rfl rfl) (by rw[eD,iE];omega);obtain⟨y2,c2⟩:=ih (off+k1.length) k2 hr (by omega) xs fuel sp hd (by simpa using X4) (λi f' hf=>QF (i+1) f' hf) (λi f' x' hf hx=>hwt (i+1) f' x' hf hx);have NB:y1.length=k1.length:=by rw[<-c1.kd,bU]
      refine⟨y1++y2,⟨by rw[di,c1.kd,c2.kd],λj y hj=> ?_,λy hy=> ?_⟩⟩
      ·rcases q_ j y1.length with j8|j8
       ·rw[dH j8]at hj;obtain⟨v,hv,hh⟩:=c1.at_ j y hj;refine⟨v, ?_,hh⟩
        rw[bV,d_,bz (by omega),dQ,e1]at hv;exact hv
       ·rw[da j8]at hj;obtain⟨v,hv,hh⟩:=c2.at_ _ y hj;refine⟨v, ?_,hh⟩
        rw[show off+k1.length+(j-y1.length)=off+j by omega]at hv;exact hv
      ·rcases ba.1 hy with hy|hy
       ·exact c1.fine y hy
       ·exact c2.fine y hy
theorem CS(hE:eH P T):∀(n t:aF) (ks:az Ck),PI P T n t=ah ks->∀(fuel:aF) (cs:az bk) (x:DataW H×az MemPlace) sp hd,Du enc P w 0 sp hd fuel t cs=ah x->(∀m∈x.1.weights P t,m<=reachBytes)->cs.length=P.cellsOf t->∃ys,wD T w cs 0 ys ks:=by
 intro n;induction n with
 |zero=>intro t ks h;cases h
 |succ n ih=>
  intro t ks h fuel cs x sp hd QF hwt oe;unfold PI at h;split at h
  ·rename_i k hu;cases h;obtain⟨m,rfl,rfl,hwf⟩:=DataW.trod_int hu QF;exact⟨[.i k m],tU rfl (.i _ _) (.i _ _ hwf)⟩
  ·rename_i hu;cases h;obtain⟨m,rfl,rfl⟩:=DataW.trod_bool hu QF;exact⟨[.b m],tU rfl (.b _) (.b _)⟩
  ·rename_i hu;cases h;obtain⟨m,rfl,rfl,hmx⟩:=DataW.trod_string hu QF;have hz:m.size<=140737488351232:=by have:=hwt m.data.toList.length (by simp[vM]);rw[dR]at this;exact this
   exact⟨[.s m],tU rfl (.s _ (show m.size<=4611686018427387904 by omega)) (.s _ hz)⟩
  ·rename_i e hu;split at h
   ·rename_i te ke Lk hke;cases hb:(qt ke te.ks&&bD te.bytes (P.bytesOf e)&&bD (P.cellsOf e) ke.length&&qE 0 ke.length)with
    |false=>rw[hb]at h;cases h
    |true=>
     rw[hb]at h;cases h;simp only[aL]at hb;obtain⟨⟨⟨b1,b2⟩,b3⟩,b4⟩:=hb;have e1:=nX b1;have e2:=aU b2;have e3:=aU b3;have e4:0<ke.length:=by simpa [AM]using b4
     subst e1;rcases DataW.trod_slice hu QF with ⟨rfl,rfl⟩|⟨a,len,cap,elems,rest,m,rfl,rfl,rfl,_,hlc,XM,Nz,gf,_,_⟩
     ·exact⟨[.l e []],tU rfl (.nl _ _ _) (.l e [] te Lk (by simp) (λy hy=>by cases hy) (λy hy=>by cases hy))⟩
     ·have hwl:len*te.bytes<=140737488351232:=by have:=hwt ((elems.length+rest.length)*P.bytesOf e) (by simp[vM,hu]);rw[<-e2,Nz]at this;have h2:len*te.bytes<=(len+rest.length)*te.bytes:=b8 _ (by omega);exact dh h2 this
      have one:∀i,i<len->∃ys:az CV,(∀(j:aF) (y:CV),ys[j]? =ah y->∃v,w.cell? (a.add (i*te.ks.length+j))=ah v/\c_ T w (DE w) v y)/\ys.map CV.kd=te.ks/\∀y∈ys,rB T y:=by
       intro i hi;have h1:=gf i hi;have mh:i<elems.length:=by omega
       rw[eV mh]at h1;cases hc:w.cells? 0 (a.add (i*P.cellsOf e)) (P.cellsOf e)with
       |none=>rw[hc]at h1;cases h1
       |some cs=>
        rw[hc]at h1;have h1:Du enc P w 0 sp hd m e cs=ah elems[i]:=h1;obtain⟨_,oe,hcell⟩:=World.cells?_some hc;obtain⟨ys,c⟩:=ih e te.ks hke m cs _ sp hd h1 (λz hz=>hwt z (by simp only[vM,hu,cB,ba];exact .inr (.inl (ui (i:=i) (d:=elems[i].1) (by simp[mh]) z hz)))) oe;refine⟨ys,λj y hj=> ?_,c.kd,c.fine⟩
        obtain⟨v,hv,hh⟩:=c.at_ j y hj;rw[bV]at hv;have j8:=(aT.1 hv).1;have:=hcell j (by omega);rw[hv]at this;refine⟨v, ?_,hh⟩
        rw[<-e3];rw[<-Sd];exact this
      obtain⟨xs,X4,hx⟩:=Ag len one;have ai0:rB T (.l e xs):=by
       refine .l e xs te Lk (by rw[X4];exact hwl) (λy hy=> ?_) (λy hy=> ?_)
       ·obtain⟨i,hi⟩:=bY hy;exact(hx i y hi).2.1
       ·obtain⟨i,hi⟩:=bY hy;exact(hx i y hi).2.2
      refine⟨[.l e xs],tU rfl ?_ ai0⟩
      rcases Dw len with h0|h0
      ·have:xs=[]:=gd (by omega);subst this;rw[h0];exact .nl _ _ _
      ·have hx0:xs[0]? =ah xs[0]:=by rw[eV (by omega)]
       obtain⟨c0,k0,_⟩:=hx 0 _ hx0;have hy0:0<(xs[0]).length:=by rw[<-bU (f:=CV.kd),k0];exact e4
       obtain⟨v0,QG,_⟩:=c0 0 _ (eV hy0);obtain⟨b,o,s⟩:=a;have hs:s=aj/\b<w.heap.size:=by
        unfold World.cell? at QG;have e0:(Addr.mk b o s).add (0*te.ks.length+0)=⟨b,o,s⟩:=by simp[Addr.add]
        rw[e0]at QG;split at QG
        ·rename_i hh;refine⟨?_,(dU.1 hh).1⟩
         cases s with
         |none=>rfl
         |some s=>simp at QG
        ·cases QG
       obtain⟨rfl,hbl⟩:=hs;let U:aF->aF->bk:=λi j=>(w.cell? (ad b (o+i*te.ks.length+j))).getD undef;have ar:∀i j y z,xs[i]? =ah y->y[j]? =ah z->w.cell? (ad b (o+i*te.ks.length+j))=ah (U i j)/\c_ T w (DE w) (U i j) z:=by
        intro i j y z hi hj;obtain⟨v,hv,hh⟩:=(hx i y hi).1 j z hj;have hv:w.cell? ((ad b o).add (i*te.ks.length+j))=ah v:=hv;rw[aey,<-me]at hv;have:U i j=v:=by simp only[U,hv];rfl
        rw[this];exact⟨hv,hh⟩
       rw[<-X4];exact .l e xs b o cap te U Lk (by omega) XM hbl (λy hy=>by obtain⟨i,hi⟩:=bY hy;exact(hx i y hi).2.1) (λi j y z hi hj=>(ar i j y z hi hj).1) (λi j y z hi hj=>(ar i j y z hi hj).2)
   ·cases h
  ·rename_i fs hu;obtain⟨xs,m,rfl,rfl,afc,X4,hf⟩:=DataW.trod_struct hu QF;cases hlf:PJ P (PI P T n) fs.toList 0 with
   |none=>rw[hlf]at h;cases h
   |some ks'=>
    rw[hlf]at h;obtain⟨hb,rfl⟩:=ES h;refine Pf ih fs.toList 0 _ hlf ?_ xs m sp hd (by simpa using X4) (λi f hi=>hf i f (by simpa using hi)) (λi f x hi hx z hz=>hwt z ?_)
    ·have:=aU hb;omega
    ·simp only[vM,hu];refine DataW.weights_mem_each (j:=i) (t:=f.type) (d:=x.1) ?_ ?_ z hz
     ·rw[bK,hi];rfl
     ·rw[bK,hx];rfl
  ·cases h
end
end Go.FG

namespace Go.FG
open Go.RowKit Go.ChangeShapes
def oc(T:Tab):az aF->az (az CV)->az fw
 |t::ts,ys::sj=>fw.v (match T.ty t with|some ti=>ti.agg|none=>ak) (ys.map Iq)::oc T ts sj
 |_,_=>[]
def pc(T:Tab):az aF->az (az CV)->Prop
 |[],[]=>True
 |t::ts,ys::sj=>(∃ti,T.ty t=ah ti/\ys.map CV.kd=ti.ks)/\(∀y∈ys,rB T y)/\pc T ts sj
 |_,_=>False
def P3(P:c5)(T:Tab)(n:aF)(t:aF):aX:=
 match T.ty t,PI P T n t,P.underlying t with
 |some ti,ah ks,ah d=>qt ks ti.ks&&(match d with| .struct _=>ti.agg| .array _ _=>ak|_=> !ti.agg)&&P.readableRec t&&decide (t<P.types.size)
 |_,_,_=>ak
theorem aex{T:Tab}{w:bL}{c:e9}(hc:∀b,DE w b->c.K b){v:bk}{y:CV}(h:c_ T w (DE w) v y)(nm:aF):eM T w c (lD nm (Iq y)) v:=by
 have h:c_ T w c.K v y:=h.frame (λ_ _=>rfl) hc;cases y with
 |i k n=>cases h;rfl
 |b x=>cases h;rfl
 |s x=>cases h with|s _ ho=>exact⟨rfl,ho⟩
 |l e xs=>exact h
section
variable {H:Type} {enc:TypeId×bk->H} {P:c5} {T:Tab} {w:bL}
theorem aeG(hE:eH P T){n t:aF}(hp:P3 P T n t=ai){v:bk}{d:DataW H}{ps:az MemPlace}{sp:aF->aX}{hd:aX}{base:aF}(hv:sq P w .any base t v)(h:DataW.Trod enc P w 0 sp hd t v d ps)(hw:∀m∈d.weights P t,m<=reachBytes):
  ∃ys:az CV,(∃ti,T.ty t=ah ti/\ys.map CV.kd=ti.ks)/\(∀y∈ys,rB T y)/\∀c:e9,(∀b,DE w b->c.K b)->∀p,jm T w c (tM p (fw.v (match T.ty t with|some ti=>ti.agg|none=>ak) (ys.map Iq))) v:=by
 unfold P3 at hp;split at hp
 ·rename_i ti ks dd ht hl hu;simp only[aL]at hp;obtain⟨⟨⟨h1,h2⟩,_⟩,_⟩:=hp;have e1:=nX h1;subst e1;obtain⟨fuel,QF⟩:=h;obtain⟨inf,hi,gh,_⟩:=hE.info t ti ht;have hct:P.cellsOf t=ti.ks.length:=by unfold Program.cellsOf;rw[hi];exact gh
  have cell:∀(ys:az CV) (cs:az bk),wD T w cs 0 ys ti.ks->∀c:e9,(∀b,DE w b->c.K b)->∀(p j:aF) (a:AV),(gz (dS p 0) (ys.map Iq))[j]? =ah a->∃u:bk,cs[j]? =ah u/\eM T w c a u:=by
   intro ys cs hc c hK p j a hj;rw[iF,bK]at hj;cases hy:ys[j]? with
   |none=>rw[hy]at hj;cases hj
   |some y=>rw[hy]at hj;cases hj;obtain⟨u,sD,hh⟩:=hc.at_ j y hy;rw[bV]at sD;exact⟨u,sD,aex hK hh _⟩
  cases uG:ti.agg with
  |true=>
   have Li:∃fs,dd= .struct fs:=by cases dd<;>simp[uG]at h2;exact⟨_,rfl⟩
   obtain⟨fs,rfl⟩:=Li;unfold sq at hv;rw[hu]at hv;obtain⟨cs,rfl,H6,_⟩:=hv;obtain⟨ys,hc⟩:=CS hE n t ti.ks hl fuel cs.toList (d,ps) sp hd QF hw (by simpa using H6);refine⟨ys,⟨ti,ht,hc.kd⟩,hc.fine,λc hK p=> ?_⟩
   rw[ht];show qq T w c ti.agg (gz (dS p 0) (ys.map Iq)) _;rw[uG];refine⟨cs,rfl, ?_,λj a hj=> ?_⟩
   ·rw[iV,bU,H6,hct,<-hc.kd,bU]
   ·obtain⟨u,sD,ha⟩:=cell ys cs.toList hc c hK p j a hj;exact⟨u,by simpa using sD,ha⟩
  |false=>
   have Li:∀fs,dd≠ .struct fs:=by intro fs he;subst he;simp[uG]at h2
   have har:∀m e,dd≠ .array m e:=by intro m e he;subst he;cases h2
   have hcell:Cell.okWide P w .any base t v:=by
    unfold sq at hv;rw[hu]at hv;split at hv
    ·rename_i fs he;cases he;exact cJ rfl (Li fs)
    ·rename_i m e he;cases he;exact cJ rfl (har m e)
    ·exact hv
   have xO:v.cells= #[v]:=by
    cases v<;>first|rfl|skip
    rename_i cs;exfalso;unfold Cell.okWide at hcell;rw[hu]at hcell;cases dd<;>simp[Cell.ok,hu]at hcell
   obtain⟨dd',hu2,_,hn⟩:=hE.desc t ti ht;have h1:ti.ks.length=1:=by rcases hn uG with ⟨k,h,_⟩|⟨h,_⟩|⟨h,_⟩|⟨e',h,_⟩|⟨h,_⟩<;>simp[h]
   rw[xO]at QF;obtain⟨ys,hc⟩:=CS hE n t ti.ks hl fuel [v] (d,ps) sp hd QF hw (by rw[hct,h1];rfl);have Jp:ys.length=1:=by rw[<-bU (f:=CV.kd),hc.kd,h1]
   obtain⟨y,rfl⟩:=g6.1 Jp;refine⟨[y],⟨ti,ht,hc.kd⟩,hc.fine,λc hK p=> ?_⟩
   rw[ht];show qq T w c ti.agg [lD (dS p 0) (Iq y)] _;rw[uG];obtain⟨u,sD,ha⟩:=cell [y] [v] hc c hK p 0 _ rfl;cases sD;exact ha
 ·cases hp
theorem Xg(hE:eH P T){n:aF}{sp:aF->aX}{hd:aX}{base:aF}:∀{ts:az aF} {vs:az bk} {ds:az (DataW H)} {ps:az MemPlace},ts.all (P3 P T n)=ai->
  Ey enc P w 0 sp hd ts vs ds ps->(∀(j:aF) t v,ts[j]? =ah t->vs[j]? =ah v->sq P w .any base t v)->(∀m∈ng P ts ds,m<=reachBytes)->
  ∃sj,pc T ts sj/\vs.length=(oc T ts sj).length/\ds.length=ts.length/\∀c:e9,(∀b,DE w b->c.K b)->∀(q p:aF) (x:fw),(oc T ts sj)[p]? =ah x->∃v,vs[p]? =ah v/\jm T w c (tM (q+p) x) v:=by
 intro ts;induction ts with
 |nil=>intro vs ds ps _ h _ _;obtain⟨rfl,rfl,rfl⟩:=trodAll_nil h;exact⟨[],trivial,rfl,rfl,λc _ q p x h=>by simp[oc]at h⟩
 |cons t ts ih=>
  intro vs ds ps hp h cf hw;simp only[td,aL]at hp;obtain⟨v,vs,d,ds,p,q,rfl,rfl,rfl,h0,r0⟩:=trodAll_cons h;obtain⟨ys,y1,y2,y3⟩:=aeG hE hp.1 (cf 0 t v rfl rfl) h0 (λm hm=>hw m (by simp only[ng,ba];exact .inl hm));obtain⟨sj,z1,z2,z4,z3⟩:=ih hp.2 r0 (λj t v hj hv=>cf (j+1) t v hj hv) (λm hm=>hw m (by simp only[ng,ba];exact .inr hm));refine⟨ys::sj,⟨y1,y2,z1⟩,by simp[oc,z2],by simp[z4],λc hK q p x hx=> ?_⟩
  cases p with
  |zero=>cases hx;exact⟨v,rfl,y3 c hK q⟩
  |succ p=>obtain⟨v',h1,h2⟩:=z3 c hK (q+1) p x hx;exact⟨v',h1,by rw[show q+(p+1)=q+1+p by omega];exact h2⟩
theorem nW{m:aF}{ob:Obj}:∀{ts:az aF} {sj:az (az CV)},inj (oc T ts sj) (c8 m)≠ .o ob:=by
 intro ts sj h;obtain⟨p,a,h0,hh⟩:=Bz h;have:∀(ts:az aF) (sj:az (az CV)) (p:aF) (a:fw),(oc T ts sj)[p]? =ah a->∃(g:aX) (ys:az CV),a= .v g (ys.map Iq):=by
  intro ts;induction ts with
  |nil=>intro sj p a h;simp[oc]at h
  |cons t ts ih=>
   intro sj p a h;cases sj with
   |nil=>simp[oc]at h
   |cons ys sj=>
    cases p with
    |zero=>cases h;exact⟨_,ys,rfl⟩
    |succ p=>exact ih sj p a h
 obtain⟨g,ys,rfl⟩:=this _ _ _ _ h0;rcases hh with ⟨xs,h1,_⟩|⟨xs,j,e,ex,zs,h1,h2,_⟩
 ·cases h1
 ·have h1:ys.map Iq=xs:=by rcases h1 with ⟨g',h1⟩|h1<;>cases h1;rfl
  subst h1;rw[bK]at h2;cases hy:ys[j]? with
  |none=>rw[hy]at h2;cases h2
  |some y=>rw[hy]at h2;cases y<;>cases h2
theorem HL(hl:laidOutB P=ai){W':bL}(hb:Below w.heap.size w W'){n:aF}:∀{ts:az aF} {vs:az bk} {ds:az (DataW H)} {ps:az MemPlace},ts.all (P3 P T n)=ai->Ey enc P w 0 (λ_=>ai) ai ts vs ds ps->(∀x∈ps,x.block<w.heap.size)->
  Ey enc P W' 0 (λb=>decide (b<w.heap.size)) ai ts vs ds ps:=by
 intro ts;induction ts with
 |nil=>intro vs ds ps _ h _;obtain⟨rfl,rfl,rfl⟩:=trodAll_nil h;exact h
 |cons t ts ih=>
  intro vs ds ps hp h jD;simp only[td,aL]at hp;obtain⟨v,vs,d,ds,p,q,rfl,rfl,rfl,h0,r0⟩:=trodAll_cons h;have PD:=hp.1;unfold P3 at PD;split at PD
  ·simp only[aL]at PD;exact⟨p,q,Below.trod hl PD.1.2 (by simpa using PD.2) h0 hb (λx hx=>jD x (bM _ hx)),ih hp.2 r0 (λx hx=>jD x (bN _ hx)),rfl⟩
  ·cases PD
end
theorem Hm{H:Type}{enc:TypeId×bk->H}{C:Checked}{T:Tab}(hE:eH C.prog T)(hl:laidOutB C.prog=ai){g tb n:aF}{fn:Func}{spec:az fw->aC (aX×dA)}(hF:lS C.prog T g spec){s:ChangeSpec}
  (ajj:fn.params.toList.all (P3 C.prog T n)=ai) (asi:fn.resultTypes= #[tb]) (htb:C.prog.underlying tb=ah .bool) (S8:s.vars=[])
  (hfn:∀ds:az (DataW H),ds.length=fn.params.toList.length->s.fn H ds={results:=[.lit (.bool ai)],args:=ds})
  (claim:∀sj,pc T fn.params.toList sj->spec (oc T fn.params.toList sj)=ah (ai,⟨[.v ak [.b ai]],[]⟩))
  (W:bL) (base:aF) (args:du bk) (ds gs:az (DataW H)) (before:az MemPlace)
  (hval:∀(j:aF) t v,fn.params[j]? =ah t->args[j]? =ah v->sq C.prog W .any base t v)
  (hW:DataW.Whole enc C.prog fn.params.toList s.vars ak W args.toList ds gs before)
  (gh:(ng C.prog (fn.params.toList++s.plain.varTypes C.prog) (ds++gs)).all (·<=reachBytes)=ai):
  Calls C.prog g args W λe W'=>∃v,e= .returned v/\s.post enc C.prog fn ak ai ak ak W args v W':=by
 have hW':=hW;obtain⟨p,q,hA,hV,rfl,hfz,Jk⟩:=hW;have jD:=hW'.lt;rw[S8]at hV;have hgs:gs=[]/\q=[]:=by
  cases gs with
  |nil=>exact⟨rfl,hV⟩
  |cons=>exact hV.elim
 obtain⟨rfl,rfl⟩:=hgs;have hw:∀m∈ng C.prog fn.params.toList ds,m<=reachBytes:=by
  intro m hm;rw[dn]at gh;have e:s.plain.varTypes C.prog=[]:=by unfold DataSpec.varTypes ChangeSpec.plain;simp[S8]
  rw[e,dn]at gh;have:=bu.1 gh m hm;simpa using this
 obtain⟨sj,X0,hlen,hdl,sB⟩:=Xg hE ajj hA (λj t v hj hv=>hval j t v (by simpa using hj) (by simpa using hv)) hw;let nl:Pl:=⟨ai,0,0,0,0,0⟩
 let c1:e9:=⟨λ_=>nl,λ_ _ _=>nl,DE W⟩
 have cf:Ok T (inj (oc T fn.params.toList sj)) W c1:=⟨λnm o h=>cJ h nW,λnm o xU o' b h=>cJ h nW,λnm o b h=>cJ h nW,λb hb=>hb,λnm xs h=>cJ h nW⟩
 obtain⟨_,hc⟩:=hF _ _ (claim sj X0) W c1 args cf (by rw[<-hlen];simp) (λp x hx=>by obtain⟨v,h1,h2⟩:=sB c1 (λ_ h=>h) 0 p x hx;rw[bV]at h2;exact⟨v,by simpa using h1,h2⟩);refine hc.mono λe W' hR=> ?_;cases e with
 |panicked=>exact hR.elim
 |outgrown=>exact hR.elim
 |returned v=>
  obtain⟨c3,_,yM,_,yN⟩:=hR;have hv:v= .bool true:=yN;subst hv;have hb:Below W.heap.size W W':=⟨yM.os,yM.tape,yM.output,yM.size,λk hk=>yM.same k hk (λ⟨nm,o,h,_⟩=>nW h)⟩
  have S6:=hfn ds hdl;refine⟨_,rfl,ds,[],_,[],p,[],hW', ?_, ?_, ?_,hb.frame _,λh=>by cases h⟩
  ·rw[dn,S6,asi];exact trodAll_mk1 (shut_bool htb _)
  ·rw[dn,S6];exact HL hl hb ajj hA (λx hx=>jD x (bM _ hx))
  ·rw[dn,S6,S8];rfl
end Go.FG

namespace Go.FG
def gQ(s:aq)(i:aF):aF:=(s.data.getD i 0).toNat
abbrev bJ(x:aw):aw:=ao.wrap x
inductive gL where
 |I (n:aw)|B (x:aX)|S (x:aq)|R (xs:aR)|N (n:aF)
def gI:az gL->aw| .I n::_=>n|_=>0
def gB:az gL->aX| .B n::_=>n|_=>ak
def gS:az gL->aq| .S n::_=>n|_=>⟨#[]⟩
def gR:az gL->aR| .R n::_=>n|_=>[]
def gN:az gL->aF| .N n::_=>n|_=>0
def hCV:CV->az gL
 | .i _ n=>[.I n]| .b x=>[.B x]| .s x=>[.S x]| .l _ xs=>[.R xs]
def sCV:CV->CV->aX
 | .i k _, .i k' _=>decide (k=k')| .b _, .b _=>ai| .s _, .s _=>ai| .l e _, .l e' _=>bD e e'|_,_=>ak
def fCV(s:CV)(l:az gL):CV×az gL:=
 match s with
 | .i k _=>(.i k (gI l),l.tail)| .b _=>(.b (gB l),l.tail)| .s _=>(.s (gS l),l.tail)| .l e _=>(.l e (gR l),l.tail)
def Jb:az CV->az gL|[]=>[]|a::r=>hCV a++Jb r
def HF:az CV->az CV->aX|[],[]=>ai|a::r,b::t=>sCV a b&&HF r t|_,_=>ak
def zA:az CV->az gL->az CV×az gL
 |[],l=>([],l)|a::r,l=>((fCV a l).1::(zA r (fCV a l).2).1,(zA r (fCV a l).2).2)
def E7:az (az CV)->az gL|[]=>[]|a::r=>Jb a++E7 r
def FA:az (az CV)->az (az CV)->aX|[],[]=>ai|a::r,b::t=>HF a b&&FA r t|_,_=>ak
def Ak:az (az CV)->az gL->az (az CV)×az gL
 |[],l=>([],l)|a::r,l=>((zA a l).1::(Ak r (zA a l).2).1,(Ak r (zA a l).2).2)
theorem aeY{s a:CV}(h:sCV s a=ai)(l:az gL):fCV s (hCV a++l)=(a,l):=by
 cases s<;>cases a<;>simp only[sCV,bf,dx,Nat.beq_eq]at h<;>first|exact h.elim|skip
 all_goals first|(subst h;rfl)|rfl
theorem xH:∀{s a:az CV},HF s a=ai->∀l,zA s (Jb a++l)=(a,l)
 |[],[],_,l=>rfl
 |s::ss,a::as,h,l=>by
  simp only[HF,aL]at h;simp only[zA,Jb,cz,aeY h.1,xH h.2]
 |[],_::_,h,_=>by cases h
 |_::_,[],h,_=>by cases h
theorem Cq:∀{s a:az (az CV)},FA s a=ai->∀l,Ak s (E7 a++l)=(a,l)
 |[],[],_,l=>rfl
 |s::ss,a::as,h,l=>by
  simp only[FA,aL]at h;simp only[Ak,E7,cz,xH h.1,Cq h.2]
 |[],_::_,h,_=>by cases h
 |_::_,[],h,_=>by cases h
def hAV:AV->az gL
 | .i _ n=>[.I n]| .b x=>[.B x]| .s x=>[.S x]| .sh _ xs=>[.R xs]| .vw _ lo hi=>[.N lo, .N hi]| .rp _ i _=>[.N i]
 | .sp _ xs i _=>[.R xs, .N i]| .inn _ i _=>[.N i]| .ip _ i _ i2 _=>[.N i, .N i2]| .fn _ iX=>E7 iX| .fp xs _=>Jb xs|_=>[]
def ZK:AV->AV->aX
 | .i k _, .i k' _=>decide (k=k')| .b _, .b _=>ai| .s _, .s _=>ai| .sh e _, .sh e' _=>bD e e'| .nl, .nl=>ai
 | .own n, .own n'=>bD n n'| .vw n _ _, .vw n' _ _=>bD n n'| .bp n j, .bp n' j'=>bD n n'&&bD j j'| .rp n _ j, .rp n' _ j'=>bD n n'&&bD j j'
 | .sp e _ _ j, .sp e' _ _ j'=>bD e e'&&bD j j'| .inn n _ j, .inn n' _ j'=>bD n n'&&bD j j'
 | .ip n _ j _ q, .ip n' _ j' _ q'=>bD n n'&&bD j j'&&bD q q'| .fn f c, .fn f' c'=>bD f f'&&FA c c'| .fp c j, .fp c' j'=>bD j j'&&HF c c'
 |_,_=>ak
def fAV(s:AV)(l:az gL):AV×az gL:=
 match s with
 | .i k _=>(.i k (gI l),l.tail)| .b _=>(.b (gB l),l.tail)| .s _=>(.s (gS l),l.tail)| .sh e _=>(.sh e (gR l),l.tail)
 | .vw n _ _=>(.vw n (gN l) (gN l.tail),l.tail.tail)| .rp n _ j=>(.rp n (gN l) j,l.tail)| .sp e _ _ j=>(.sp e (gR l) (gN l.tail) j,l.tail.tail)
 | .inn n _ j=>(.inn n (gN l) j,l.tail)| .ip n _ j _ q=>(.ip n (gN l) j (gN l.tail) q,l.tail.tail)| .fn f c=>(.fn f (Ak c l).1,(Ak c l).2)| .fp c j=>(.fp (zA c l).1 j,(zA c l).2)
 |a=>(a,l)
def Pp:az AV->az gL|[]=>[]|a::r=>hAV a++Pp r
def LV:az AV->az AV->aX|[],[]=>ai|a::r,b::t=>ZK a b&&LV r t|_,_=>ak
def Cp:az AV->az gL->az AV×az gL
 |[],l=>([],l)|a::r,l=>((fAV a l).1::(Cp r (fAV a l).2).1,(Cp r (fAV a l).2).2)
def Xw(a b:aX):aX:=bif a then b else !b
def XI:az (aX×az AV)->az gL|[]=>[]|(_,xs)::r=>Pp xs++XI r
def U_:az (aX×az AV)->az (aX×az AV)->aX
 |[],[]=>ai|(g,xs)::r,(g',ys)::t=>Xw g g'&&LV xs ys&&U_ r t|_,_=>ak
def Pc:az (aX×az AV)->az gL->az (aX×az AV)×az gL
 |[],l=>([],l)|(g,xs)::r,l=>((g,(Cp xs l).1)::(Pc r (Cp xs l).2).1,(Pc r (Cp xs l).2).2)
def Pq:eT->az gL
 | .v (.v _ xs)=>Pp xs| .v (.kl l)=>XI l| .o (.box xs)=>Pp xs| .o (.od cs)=>Jb cs| .o (.row _ _ xs)=>[.R xs]| .o (.fT _ xs)=>[.R xs]|_=>[]
def ZM:eT->eT->aX
 | .v (.v g xs), .v (.v g' ys)=>Xw g g'&&LV xs ys| .v (.kl l), .v (.kl r)=>U_ l r| .v .un, .v .un=>ai
 | .o (.box xs), .o (.box ys)=>LV xs ys| .o (.od c), .o (.od c')=>HF c c'| .o (.row e x _), .o (.row e' x' _)=>bD e e'&&Xw x x'| .o (.fT e _), .o (.fT e' _)=>bD e e'
 | .o .dead, .o .dead=>ai| .j9, .j9=>ai|_,_=>ak
def KW(c:eT)(l:az gL):eT×az gL:=
 match c with
 | .v (.v g xs)=>(.v (.v g (Cp xs l).1),(Cp xs l).2)| .v (.kl r)=>(.v (.kl (Pc r l).1),(Pc r l).2)
 | .o (.box xs)=>(.o (.box (Cp xs l).1),(Cp xs l).2)| .o (.od c)=>(.o (.od (zA c l).1),(zA c l).2)| .o (.row e x _)=>(.o (.row e x (gR l)),l.tail)| .o (.fT e _)=>(.o (.fT e (gR l)),l.tail)
 |c=>(c,l)
def Jm:az (aF×eT)->az gL|[]=>[]|(_,c)::r=>Pq c++Jm r
def zT:az (aF×eT)->az (aF×eT)->aX
 |[],[]=>ai|(k,c)::r,(k',c')::t=>bD k k'&&ZM c c'&&zT r t|_,_=>ak
def Np:az (aF×eT)->az gL->az (aF×eT)
 |[],_=>[]|(k,c)::r,l=>(k,(KW c l).1)::Np r (KW c l).2
theorem Cn{a b:aX}(h:Xw a b=ai):a=b:=by cases a<;>cases b<;>first|rfl|cases h
theorem aeX{s a:AV}(h:ZK s a=ai)(l:az gL):fAV s (hAV a++l)=(a,l):=by
 match s,a,h with
 | .fn f c, .fn f' c',h=>simp only[ZK,aL]at h;have h1:=aU h.1;subst h1;simp only[fAV,hAV,Cq h.2]
 | .fp c j, .fp c' j',h=>simp only[ZK,aL]at h;have h1:=aU h.1;subst h1;simp only[fAV,hAV,xH h.2]
 | .i k _, .i k' _,h=>have h1:=cq (show decide (k=k')=ai from h);subst h1;rfl
 | .b _, .b _,_=>rfl
 | .s _, .s _,_=>rfl
 | .sh e _, .sh e' _,h=>have h1:=aU (show bD e e'=ai from h);subst h1;rfl
 | .nl, .nl,_=>rfl
 | .own n, .own n',h=>have h1:=aU (show bD n n'=ai from h);subst h1;rfl
 | .vw n _ _, .vw n' _ _,h=>have h1:=aU (show bD n n'=ai from h);subst h1;rfl
 | .bp n j, .bp n' j',h=>simp only[ZK,aL]at h;have h1:=aU h.1;have h2:=aU h.2;subst h1;subst h2;rfl
 | .rp n _ j, .rp n' _ j',h=>simp only[ZK,aL]at h;have h1:=aU h.1;have h2:=aU h.2;subst h1;subst h2;rfl
 | .sp n _ _ j, .sp n' _ _ j',h=>simp only[ZK,aL]at h;have h1:=aU h.1;have h2:=aU h.2;subst h1;subst h2;rfl
 | .inn n _ j, .inn n' _ j',h=>simp only[ZK,aL]at h;have h1:=aU h.1;have h2:=aU h.2;subst h1;subst h2;rfl
 | .ip n _ j _ q, .ip n' _ j' _ q',h=>simp only[ZK,aL]at h;have h1:=aU h.1.1;have h2:=aU h.1.2;have h3:=aU h.2;subst h1;subst h2;subst h3;rfl
theorem Bs:∀{s a:az AV},LV s a=ai->∀l,Cp s (Pp a++l)=(a,l)
 |[],[],_,l=>rfl
 |s::ss,a::as,h,l=>by
  simp only[LV,aL]at h;simp only[Cp,Pp,cz,aeX h.1,Bs h.2]
 |[],_::_,h,_=>by cases h
 |_::_,[],h,_=>by cases h
theorem Nl:∀{s a:az (aX×az AV)},U_ s a=ai->∀l,Pc s (XI a++l)=(a,l)
 |[],[],_,l=>rfl
 |(g,xs)::ss,(g',ys)::as,h,l=>by
  simp only[U_,aL]at h;obtain⟨⟨h1,h2⟩,h3⟩:=h;have h1:=Cn h1;subst h1;simp only[Pc,XI,cz,Bs h2,Nl h3]
 |[],_::_,h,_=>by cases h
 |_::_,[],h,_=>by cases h
theorem XB{s c:eT}(h:ZM s c=ai)(l:az gL):KW s (Pq c++l)=(c,l):=by
 match s,c,h with
 | .v (.v g xs), .v (.v g' ys),h=>simp only[ZM,aL]at h;have h1:=Cn h.1;subst h1;simp only[KW,Pq,Bs h.2]
 | .v (.kl r), .v (.kl r'),h=>simp only[KW,Pq,Nl (show U_ r r'=ai from h)]
 | .v .un, .v .un,_=>rfl
 | .o (.box xs), .o (.box ys),h=>simp only[KW,Pq,Bs (show LV xs ys=ai from h)]
 | .o (.od c), .o (.od c'),h=>simp only[KW,Pq,xH (show HF c c'=ai from h)]
 | .o (.row e x _), .o (.row e' x' _),h=>simp only[ZM,aL]at h;have h1:=Cn h.2;have h2:=aU h.1;subst h1;subst h2;rfl
 | .o (.fT e _), .o (.fT e' _),h=>have h2:=aU h;subst h2;rfl
 | .o .dead, .o .dead,_=>rfl
 | .j9, .j9,_=>rfl
theorem I5:∀{S L:az (aF×eT)},zT S L=ai->Np S (Jm L)=L
 |[],[],_=>rfl
 |(k,s)::S,(k',c)::L,h=>by
  simp only[zT,aL]at h;obtain⟨⟨h1,h2⟩,h3⟩:=h;have h1:=aU h1;subst h1;simp only[Np,Jm,XB h2,I5 h3]
 |[],_::_,h=>by cases h
 |_::_,[],h=>by cases h
def tell{R:Type}(S:az (aF×eT))(H:az gL->aC R)(L:az (aF×eT))(other:aC R):aC R:=bif zT S L then H (Jm L)else other
def TA:az (aF×az aF)->aF->az aF
 |[],_=>[]|(k,l)::r,n=>bif bD n k then l else TA r n
def alB:az (aF×aF×Om)->aF->aF->Om
 |[],_,_=> .nat|(q,j,o)::r,n,m=>bif bD n q&&bD m j then o else alB r n m
def TY:az (aF×aF)->aF->aF->aX
 |[],_,_=>ak|(f,p)::r,n,m=>(bD n f&&bD m p)||TY r n m
def alG:az (aF×aF)->aF->aC aF
 |[],_=>aj|(k,e)::r,n=>bif bD n k then ah e else alG r n
theorem bB{p:Code->Prop}:∀c∈([]:az Code),p c:=λc h=>by cases h
theorem bn{p:Code->Prop}{c:Code}{l:az Code}(h:p c)(hl:∀d∈l,p d):∀d∈c::l,p d:=λd hd=>by
 rcases cB.1 hd with rfl|hd
 ·exact h
 ·exact hl d hd
def qs:az (aF×(az fw->aC (aX×dA)))->aF->az fw->aC (aX×dA)
 |[],_,_=>aj
 |(k,s)::r,g,a=>bif bD g k then(match s a with|some x=>ah x|none=>qs r g a)else qs r g a
theorem aY{P:c5}{T:Tab}:∀g,lS P T g (qs [] g):=λg=>Pg λ_=>rfl
theorem aG{P:c5}{T:Tab}{k:aF}{s:az fw->aC (aX×dA)}{L:az (aF×(az fw->aC (aX×dA)))}(h:lS P T k s)(hl:∀g,lS P T g (qs L g)):∀g,lS P T g (qs ((k,s)::L) g):=by
 intro g;cases hb:bD g k with
 |true=>
  have:=aU hb;subst this;intro args r hr;unfold qs at hr;rw[hb,au]at hr;cases hs:s args with
  |some x=>rw[hs]at hr;exact h args r (hs.trans hr)
  |none=>rw[hs]at hr;exact hl g args r hr
 |false=>
  have e:qs ((k,s)::L) g=qs L g:=by funext a;simp only[qs,hb,ax]
  rw[e];exact hl g
def WC(T:Tab)(md:az (aF×aF))(cs:az (aF×(az fw->aC (aX×dA))))(ks:az (aF×az aF))(tk:az aF)(om:az (aF×aF×Om)):fQ:={toTab:=T,call:=qs cs,mode:=TY md,keep:=TA ks,tk:=λn=>mO n tk,om:=alB om}
end Go.FG

namespace Go.FG
theorem Mb{T:Tab}{t:aF}{ts:az aF}{sj:az (az CV)}(h:pc T (t::ts) sj):∃ys amx,sj=ys::amx/\(∃ti,T.ty t=ah ti/\ys.map CV.kd=ti.ks)/\(∀y∈ys,rB T y)/\pc T ts amx:=by
 cases sj with
 |nil=>exact h.elim
 |cons ys sj=>exact⟨ys,sj,rfl,h.1,h.2.1,h.2.2⟩
theorem Ql{T:Tab}{sj:az (az CV)}(h:pc T [] sj):sj=[]:=by
 cases sj with
 |nil=>rfl
 |cons=>exact h.elim
theorem Yd{T:Tab}{k:Ck}{ks:az Ck}{ys:az CV}(h:ys.map CV.kd=k::ks)(hf:∀y∈ys,rB T y):∃y DD,ys=y::DD/\y.kd=k/\rB T y/\DD.map CV.kd=ks/\∀y∈DD,rB T y:=by
 cases ys with
 |nil=>cases h
 |cons y ys=>rw[fD,List.cons.injEq]at h;exact⟨y,ys,rfl,h.1,hf y (dq ..),h.2,λz hz=>hf z (c7 _ hz)⟩
theorem afG{ys:az CV}(h:ys.map CV.kd=[]):ys=[]:=by simpa using h
theorem auN{T:Tab}{e:aF}{y:CV}(h:y.kd= .l e)(hf:rB T y):∃xs,y= .l e xs/\rB T (.l e xs):=by cases y<;>simp[CV.kd]at h;subst h;exact⟨_,rfl,hf⟩
theorem iI{x:aw}(h1: -9223372036854775808<=x)(h2:x<=9223372036854775807):bJ x=x:=by
 have e:bJ x=if(decide (x%18446744073709551616≥9223372036854775808))=ai then x%18446744073709551616-18446744073709551616 else x%18446744073709551616:=rfl
 rw[e];by_cases h:x%18446744073709551616≥9223372036854775808
 ·rw[bz (aE h)];omega
 ·rw[bH (by simpa using h)];omega
end Go.FG

namespace Go.FG
inductive Ho where|I|B|S|R|N
abbrev den:Ho->Type
 | .I=>aw| .B=>aX| .S=>aq| .R=>aR| .N=>aF
abbrev Fn:az Ho->Type->Type
 |[],A=>A|h::s,A=>den h->Fn s A
abbrev Tu:az Ho->Type
 |[]=>Unit|h::s=>den h×Tu s
abbrev Pr:az Ho->Type
 |[]=>Unit|[h]=>den h|h::s=>den h×Pr s
def df:(h:Ho)->den h
 | .I=>(0:aw)| .B=>ak| .S=>(⟨#[]⟩:aq)| .R=>([]:aR)| .N=>(0:aF)
def lf:(h:Ho)->den h->gL
 | .I,x=> .I x| .B,x=> .B x| .S,x=> .S x| .R,x=> .R x| .N,x=> .N x
def ap{A:Type}:(s:az Ho)->Fn s A->Tu s->A
 |[],f,_=>f|_::s,f,x=>ap s (f x.1) x.2
def cmp{A B:Type}:(s:az Ho)->Fn s A->(A->B)->Fn s B
 |[],f,g=>g f|_::s,f,g=>λy=>cmp s (f y) g
def Nf{A:Type}:(s:az Ho)->Fn s A->A
 |[],f=>f|h::s,f=>Nf s (f (df h))
def lv:(s:az Ho)->Tu s->az gL
 |[],_=>[]|h::s,x=>lf h x.1::lv s x.2
def Xd{A:Type}:(s:az Ho)->Fn s (aC A)->az gL->aC A
 |[],f,[]=>f
 | .I::s,f, .I x::l=>Xd s (f x) l| .B::s,f, .B x::l=>Xd s (f x) l| .S::s,f, .S x::l=>Xd s (f x) l
 | .R::s,f, .R x::l=>Xd s (f x) l| .N::s,f, .N x::l=>Xd s (f x) l
 |_,_,_=>aj
def kl:(s:az Ho)->Fn s (Pr s)
 |[]=>()|[_]=>λx=>x|_::h::s=>λx=>cmp (h::s) (kl (h::s)) λp=>(x,p)
def apP{A:Type}:(s:az Ho)->Fn s A->Pr s->A
 |[],f,_=>f|[_],f,p=>f p|_::h::s,f,p=>apP (h::s) (f p.1) p.2
theorem B8{A:Type}{s:az Ho}{f:Fn s (aC A)}{l:az gL}{a:A}(h:Xd s f l=ah a):∃x,l=lv s x/\ap s f x=ah a:=by
 induction s generalizing l with
 |nil=>cases l with
  |nil=>exact⟨(),rfl,h⟩
  |cons=>cases h
 |cons k s ih=>
  cases l with
  |nil=>cases k<;>cases h
  |cons y l=>cases k<;>cases y<;>first|(obtain⟨x,rfl,hx⟩:=ih h;exact⟨(_,x),rfl,hx⟩)|cases h
theorem B9{A B:Type}{s:az Ho}(f:Fn s A)(g:A->B)(x:Tu s):ap s (cmp s f g) x=g (ap s f x):=by
 induction s with
 |nil=>rfl
 |cons k s ih=>exact ih _ _
theorem aeD{A:Type}{s:az Ho}{f g:Fn s A}(h:∀x,ap s f x=ap s g x):f=g:=by
 induction s with
 |nil=>exact h ()
 |cons k s ih=>exact funext λy=>ih λx=>h (y,x)
theorem Xe{A:Type}{s:az Ho}(f:Fn s A)(x:Tu s):apP s f (ap s (kl s) x)=ap s f x:=by
 induction s with
 |nil=>rfl
 |cons k s ih=>
  cases s with
  |nil=>rfl
  |cons h s=>exact(lO (apP (k::h::s) f) (B9 ..)).trans (ih ..)
def hAA:AA->az gL
 | .i _ n=>[.I n]| .b x=>[.B x]| .s x=>[.S x]| .sh _ xs=>[.R xs]| .ow _ _ xs=>[.R xs]| .kp xs=>[.R xs]| .fn _ c=>E7 c| .nl=>[]
def sAA:AA->AA->aX
 | .i k _, .i k' _=>decide (k=k')| .b _, .b _=>ai| .s _, .s _=>ai| .sh e _, .sh e' _=>bD e e'| .ow e x _, .ow e' x' _=>bD e e'&&Xw x x'
 | .kp _, .kp _=>ai| .fn f c, .fn f' c'=>bD f f'&&FA c c'| .nl, .nl=>ai|_,_=>ak
def fAA(s:AA)(l:az gL):AA×az gL:=
 match s with
 | .i k _=>(.i k (gI l),l.tail)| .b _=>(.b (gB l),l.tail)| .s _=>(.s (gS l),l.tail)| .sh e _=>(.sh e (gR l),l.tail)| .ow e x _=>(.ow e x (gR l),l.tail)
 | .kp _=>(.kp (gR l),l.tail)| .fn f c=>(.fn f (Ak c l).1,(Ak c l).2)| .nl=>(.nl,l)
def K7:az AA->az gL|[]=>[]|a::r=>hAA a++K7 r
def LU:az AA->az AA->aX|[],[]=>ai|a::r,b::t=>sAA a b&&LU r t|_,_=>ak
def IY:az AA->az gL->az AA×az gL
 |[],l=>([],l)|a::r,l=>((fAA a l).1::(IY r (fAA a l).2).1,(IY r (fAA a l).2).2)
def K8:fw->az gL
 | .v _ xs=>K7 xs| .pt xs=>K7 xs| .fb xs=>Jb xs
def Qf:fw->fw->aX
 | .v g xs, .v g' ys=>Xw g g'&&LU xs ys| .pt xs, .pt ys=>LU xs ys| .fb xs, .fb ys=>HF xs ys|_,_=>ak
def KV(s:fw)(l:az gL):fw×az gL:=
 match s with
 | .v g xs=>(.v g (IY xs l).1,(IY xs l).2)| .pt xs=>(.pt (IY xs l).1,(IY xs l).2)| .fb xs=>(.fb (zA xs l).1,(zA xs l).2)
def hAr:az fw->az gL|[]=>[]|a::r=>K8 a++hAr r
def ZL:az fw->az fw->aX|[],[]=>ai|a::r,b::t=>Qf a b&&ZL r t|_,_=>ak
def Xz:az fw->az gL->az fw×az gL
 |[],l=>([],l)|a::r,l=>((KV a l).1::(Xz r (KV a l).2).1,(Xz r (KV a l).2).2)
def JK(l:az (az AA)):az fw:=l.map (.v ai)
theorem aeW{s a:AA}(h:sAA s a=ai)(l:az gL):fAA s (hAA a++l)=(a,l):=by
 cases s<;>cases a<;>simp only[sAA,bf,dx,Nat.beq_eq,aL]at h<;>first|exact h.elim|skip
 all_goals first|rfl|(subst h;rfl)|(obtain⟨rfl,h⟩:=h;first|(obtain rfl:=Cn h;rfl)|(simp only[fAA,hAA,Cq h]))
theorem G1:∀{s a:az AA},LU s a=ai->∀l,IY s (K7 a++l)=(a,l)
 |[],[],_,l=>rfl
 |s::ss,a::as,h,l=>by
  simp only[LU,aL]at h;simp only[IY,K7,cz,aeW h.1,G1 h.2]
theorem XA{s a:fw}(h:Qf s a=ai)(l:az gL):KV s (K8 a++l)=(a,l):=by
 cases s<;>cases a<;>simp only[Qf,dx,aL]at h
 ·obtain⟨h1,h⟩:=h;obtain rfl:=Cn h1;simp only[KV,K8,G1 h]
 ·simp only[KV,K8,G1 h]
 ·simp only[KV,K8,xH h]
theorem KU:∀{s a:az fw},ZL s a=ai->∀l,Xz s (hAr a++l)=(a,l)
 |[],[],_,l=>rfl
 |s::ss,a::as,h,l=>by
  simp only[ZL,aL]at h;simp only[Xz,hAr,cz,XA h.1,KU h.2]
theorem SD{s a:az fw}(h:ZL s a=ai):(Xz s (hAr a)).1=a:=by have:=KU h [];rw[dn]at this;rw[this]
def xAA{B:Type}(s a:AA)(k:az gL->aC B):aC B:=
 match s,a with
 | .i k1 _, .i k2 n=>bif decide (k1=k2)then k [.I n]else aj
 | .b _, .b n=>k [.B n]
 | .s _, .s n=>k [.S n]
 | .sh e _, .sh e' n=>bif bD e e' then k [.R n]else aj
 | .ow e x _, .ow e' x' n=>bif bD e e'&&Xw x x' then k [.R n]else aj
 | .kp _, .kp n=>k [.R n]
 | .fn f c, .fn f' c'=>bif bD f f'&&FA c c' then k (E7 c')else aj
 | .nl, .nl=>k []
 |_,_=>aj
def V6{B:Type}:az AA->az AA->(az gL->aC B)->aC B
 |[],[],k=>k []|s::ss,a::as,k=>xAA s a λl=>V6 ss as λr=>k (l++r)|_,_,_=>aj
def agZ{B:Type}(s a:fw)(k:az gL->aC B):aC B:=
 match s,a with
 | .v g xs, .v g' ys=>bif Xw g g' then V6 xs ys k else aj
 | .pt xs, .pt ys=>V6 xs ys k
 | .fb xs, .fb ys=>bif HF xs ys then k (Jb ys)else aj
 |_,_=>aj
def xAr{B:Type}:az fw->az fw->(az gL->aC B)->aC B
 |[],[],k=>k []|s::ss,a::as,k=>agZ s a λl=>xAr ss as λr=>k (l++r)|_,_,_=>aj
theorem agY{B:Type}(s a:AA)(k:az gL->aC B):xAA s a k=bif sAA s a then k (hAA a)else none:=by cases s<;>cases a<;>rfl
theorem OD{B:Type}:∀(s a:az AA) (k:az gL->aC B),V6 s a k=bif LU s a then k (K7 a)else aj
 |[],[],_=>rfl
 |s::ss,a::as,k=>by
  simp only[V6,agY,OD ss as,LU,K7];cases sAA s a<;>rfl
 |[],_::_,_=>rfl
 |_::_,[],_=>rfl
theorem aab{B:Type}(s a:fw)(k:az gL->aC B):agZ s a k=bif Qf s a then k (K8 a)else none:=by
 cases s<;>cases a<;>simp only[agZ,Qf,K8,OD]<;>try rfl
 rename_i g xs g' ys;cases Xw g g'<;>rfl
theorem HQ{B:Type}:∀(s a:az fw) (k:az gL->aC B),xAr s a k=bif ZL s a then k (hAr a)else aj
 |[],[],_=>rfl
 |s::ss,a::as,k=>by
  simp only[xAr,aab,HQ ss as,ZL,hAr];cases Qf s a<;>rfl
 |[],_::_,_=>rfl
 |_::_,[],_=>rfl
def ad5{A:Type}(s:az Ho)(T:Fn s (az fw))(f:Fn s (aC A))(a:az fw):aC A:=xAr (Nf s T) a (Xd s f)
def ag9(s t:az Ho)(k:Fn t dA)(c:Fn s aX)(v:Fn s (Pr t)):Fn s (aC (aX×dA)):=
 match s with
 |[]=>ah (c,apP t k v)
 |_::s=>λx=>ag9 s t k (c x) (v x)
theorem aag{s t:az Ho}{k:Fn t dA}{c:Fn s aX}{v:Fn s (Pr t)}(x:Tu s):ap s (ag9 s t k c v) x=ah (ap s c x,apP t k (ap s v x)):=by
 induction s with
 |nil=>rfl
 |cons h s ih=>exact ih _
def dY{s t:az Ho}(A:Fn s (az fw))(k:Fn t dA)(c:Fn s aX)(v:Fn s (Pr t)):az fw->aC (aX×dA):=ad5 s A (ag9 s t k c v)
def Xo{t:az Ho}(k:Fn t dA)(r:dA):aC (Pr t):=
 xAr (Nf t k).rs r.rs λl=>xAr (JK (Nf t k).outs) (JK r.outs) λm=>Xd t (cmp t (kl t) ah) (l++m)
def okA{s:az Ho}(A:Fn s (az fw)):Prop:=∀x,(Xz (Nf s A) (lv s x)).1=ap s A x
def okK{t:az Ho}(k:Fn t dA):Prop:=∀x,(⟨(Xz (Nf t k).rs (lv t x)).1,(Xz (JK (Nf t k).outs) (Xz (Nf t k).rs (lv t x)).2).1⟩:az fw×az fw)=⟨(ap t k x).rs,JK (ap t k x).outs⟩
def okT{s:az Ho}(T:Fn s (az (aF×eT))):Prop:=∀x,Np (Nf s T) (lv s x)=ap s T x
theorem JL:∀{a b:az (az AA)},JK a=JK b->a=b
 |[],[],_=>rfl
 |_::_,_::_,h=>by
  obtain⟨h1,h2⟩:=kD h;obtain⟨_,rfl⟩:=fw.v.inj h1;rw[JL h2]
 |[],_::_,h=>by cases h
 |_::_,[],h=>by cases h
theorem O7{t:az Ho}{k:Fn t dA}(hk:okK k){r:dA}{p:Pr t}(h:Xo k r=ah p):r=apP t k p:=by
 unfold Xo at h;rw[HQ]at h;cases hb:ZL (Nf t k).rs r.rs with
 |false=>rw[hb]at h;cases h
 |true=>
  rw[hb,au,HQ]at h;cases hc:ZL (JK (Nf t k).outs) (JK r.outs)with
  |false=>rw[hc]at h;cases h
  |true=>rw[hc,au]at h;obtain⟨x,h1,h2⟩:=B8 h;rw[B9]at h2;obtain rfl:=aJ h2;rw[Xe];have hx:=hk x;rw[<-h1,KU hb,SD hc]at hx;obtain⟨e1,e2⟩:=bW hx;have e3:=JL e2;cases r;cases hr:ap t k x;rw[hr]at e1 e3;cases e1;cases e3;rfl
theorem J3{s t:az Ho}{A:Fn s (az fw)}(hA:okA A){k:Fn t dA}{c:Fn s aX}{v:Fn s (Pr t)}{args:az fw}{r:aX×dA}(h:dY A k c v args=ah r):∃x,args=ap s A x/\r=(ap s c x,apP t k (ap s v x)):=by
 unfold dY ad5 at h;rw[HQ]at h;cases hb:ZL (Nf s A) args with
 |false=>rw[hb]at h;cases h
 |true=>rw[hb,au]at h;obtain⟨x,h1,h2⟩:=B8 h;rw[aag]at h2;exact⟨x,by rw[<-hA x,<-h1,SD hb],(aJ h2).symm⟩
def Cc{t:az Ho}(E:fQ)(it:It (Pr t))(F:Func)(k:Fn t dA)(args:az fw):aC (Pr t):=
 match F.body with
 |some c=>tF E it c (inj args) λe σ=>(fin E F args e σ).bind (Xo k)
 |none=>aj
def IH(F:Func)(A:az fw):aX:=
 (match F.body with|some c=> !(F.name== "runtime.NumGoroutine")&&tD F.ntmps c|none=>ak)&&zU A&&fK A.length F.ntmps
theorem flh{P:c5}{E:fQ}(hE:eH P E)(hm:P.follows .mixedOrders=ai)(hF:∀g,lS P E g (E.call g)){g:aF}{F:Func}(hf:P.funcs[g]? =ah F){s t:az Ho}{A:Fn s (az fw)}{k:Fn t dA}{it:aF->It (Pr t)}
  (hc:∀x,IH F (ap s A x)=ai) {l:az Code} (hl:jZ (F.body.getD .skip)=l) (CC:∀N,∀c∈l,b_ E (it N) c) (hA:okA A) (hk:okK k)
  {c:Fn s aX} {v:Fn s (Pr t)} (h:∀x,xK (ap s A x)->ap s c x=ai->∃N,Cc E (it N) F k (ap s A x)=ah (ap s v x)):lS P E g (dY A k c v):=by
 intro args r hr;obtain⟨x,rfl,_⟩:=J3 hA hr;have hx:=hc x;unfold IH at hx;cases hb:F.body with
 |none=>rw[hb]at hx;cases hx
 |some code=>
  rw[hb]at hl hx;have hl:jZ code=l:=hl;simp only[aL,dr]at hx;refine ae1 hE hF hm hf hb (by rw[hx.1.1.1,hx.1.1.2];rfl) (λargs r hr=> ?_) _ r hr;obtain⟨x,rfl,hq⟩:=J3 hA hr;obtain⟨h1,rfl⟩:=bW hq;have hx:=hc x;unfold IH at hx;simp only[aL]at hx;refine⟨hx.1.2,λhf=> ?_⟩
  obtain⟨N,h⟩:=h x hf h1.symm;refine⟨cM hx.2,Pr t,it N,λe σ=>(fin E F (ap s A x) e σ).bind (Xo k),ap s v x,by rw[hl];exact CC N, ?_,λe σ he=> ?_⟩
  ·unfold Cc at h;rw[hb]at h;exact h
  ·obtain⟨r,hr,hd⟩:=Option.bind_eq_some_iff.1 he;rw[hr,O7 hk hd]
theorem aeE{s t:az Ho}{c:Fn s aX}{v:Fn s (Pr t)}{w:Fn s (aC (Pr t))}{d:Pr t}(hc:cmp s w nM=c)(hv:cmp s w (λo=>o.getD d)=v)(x:Tu s)(h:ap s c x=ai):ap s w x=ah (ap s v x):=by
 subst hc hv;rw[B9]at h;rw[B9];cases hw:ap s w x with
 |none=>rw[hw]at h;cases h
 |some y=>rfl
theorem fl{P:c5}{E:fQ}(hE:eH P E)(hm:P.follows .mixedOrders=ai)(hF:∀g,lS P E g (E.call g)){g:aF}{F:Func}(hf:P.funcs[g]? =ah F){s t:az Ho}{A:Fn s (az fw)}{k:Fn t dA}{it:aF->It (Pr t)}
  (hc:∀x,IH F (ap s A x)=ai) {l:az Code} (hl:jZ (F.body.getD .skip)=l) (CC:∀N,∀c∈l,b_ E (it N) c) (hA:okA A) (hk:okK k)
  {c:Fn s aX} {v:Fn s (Pr t)} {w:aF->Fn s (aC (Pr t))} {u:Fn s (aC (Pr t))} {d:Pr t} (N:aF) (h:∀N x,Cc E (it N) F k (ap s A x)=ap s (w N) x) (hw:w N=u) (h1:cmp s u nM=c) (h2:cmp s u (λo=>o.getD d)=v):lS P E g (dY A k c v):=
 flh hE hm hF hf hc hl CC hA hk λx _ hx=>⟨N,(h N x).trans (by rw[hw];exact aeE h1 h2 x hx)⟩
def ct:(s:az Ho)->Fn s aX
 |[]=>ai|_::s=>λ_=>ct s
abbrev Kt(R:Type):=Ex->St->aC R
abbrev Tb:=az (aF×eT)
def J{R:Type}{s:az Ho}(T:Fn s Tb)(e:Ex)(K:Kt R):Fn s (aC R):=cmp s T λt=>K e (fM t)
def al{R:Type}{s:az Ho}(T:Fn s Tb)(f:Kt R->Fn s (aC R))(o:Tb->Kt R->aC R):Tb->Kt R->aC R:=λL K=>bif zT (Nf s T) L then Xd s (f K) (Jm L)else o L K
def an{R:Type}:Tb->Kt R->aC R:=λ_ _=>aj
def lp{R:Type}(n:aF)(a:Tb->Kt R->aC R)(o:It R):It R:=λoq f cn L K=>bif bD oq n then a L K else o oq f cn L K
def ln{R:Type}:It R:=λ_ _ _ _ _=>aj
theorem Xb{R:Type}{s:az Ho}{T:Fn s Tb}(hT:okT T){f:Kt R->Fn s (aC R)}{o:Tb->Kt R->aC R}{L:Tb}{K:Kt R}{r:R}(h:al T f o L K=ah r):(∃x,L=ap s T x/\ap s (f K) x=ah r)\/o L K=ah r:=by
 unfold al at h;cases hb:zT (Nf s T) L with
 |false=>rw[hb]at h;exact .inr h
 |true=>rw[hb]at h;obtain⟨x,h1,h2⟩:=B8 h;exact .inl ⟨x,by rw[<-hT x,<-h1,I5 hb],h2⟩
section
variable {R:Type} {E:fQ} {it:It R} {C:Code} {n:aF}
def Good(E:fQ)(it:It R)(C:Code)(n:aF)(a:Tb->Kt R->aC R):Prop:=∀L K r,a L K=ah r->∃m,iter (tF E it C) (canon (E.Aq n)) m (fM L) K=ah r
def Wd(E:fQ)(it:It R)(C:Code)(n:aF)(K:Kt R){s:az Ho}(T:Fn s Tb)(l:aF->Fn s (aC R)):Prop:=∀m x,iter (tF E it C) (canon (E.Aq n)) m (fM (ap s T x)) K=ap s (l m) x
theorem oU:Good E it C n an:=λ_ _ _ h=>by cases h
theorem Nw{s:az Ho}{T:Fn s Tb}(hT:okT T){l:Kt R->aF->Fn s (aC R)}{N:aF}{o:Tb->Kt R->aC R}(h:∀K,Wd E it C n K T (l K))(ho:Good E it C n o):Good E it C n (al T (λK=>l K N) o):=by
 intro L K r hq;rcases Xb hT hq with ⟨x,rfl,hx⟩|hq
 ·exact⟨N,(h K N x).trans hx⟩
 ·exact ho L K r hq
theorem lom(n:aF)(hr:gH C=n){a:Tb->Kt R->aC R}(hi:∀L K,it n (tF E it C) (canon (E.Aq n)) L K=a L K)(h:Good E it C n a):b_ E it C:=by intro L K q;rw[hr,hi];exact h L K q
theorem wf{K:Kt R}{s:az Ho}{T:Fn s Tb}{l:aF->Fn s (aC R)}{m:aF}(h:∀x,iter (tF E it C) (canon (E.Aq n)) m (fM (ap s T x)) K=ap s (l m) x):cmp s T (λt=>iter (tF E it C) (canon (E.Aq n)) m (fM t) K)=l m:=
 aeD λy=>by rw[B9,h]
theorem wl{K:Kt R}{s:az Ho}{T:Fn s Tb}{l:aF->Fn s (aC R)}(r:(St->aC R)->Fn s (aC R))(h0:∀x,ap s (l 0) x=aj)
  (h1:∀m,(∀x,iter (tF E it C) (canon (E.Aq n)) m (fM (ap s T x)) K=ap s (l m) x)->r (λσ=>iter (tF E it C) (canon (E.Aq n)) m σ K)=l (m+1))
  (h:∀g x,tF E it C (fM (ap s T x)) (Fg g (canon (E.Aq n)) K)=ap s (r g) x):Wd E it C n K T l:=by
 intro m;induction m with
 |zero=>intro x;rw[h0];rfl
 |succ m ih=>intro x;rw[PF,h,h1 m ih]
theorem lo1(n:aF){s:az Ho}(T:Fn s Tb)(hr:gH C=n)(hT:okT T)(l:Kt R->aF->Fn s (aC R))(r:Kt R->Fn s (aC R)->Fn s (aC R)){N:aF}
  (hi:∀L K,it n (tF E it C) (canon (E.Aq n)) L K=al T (λK=>l K N) an L K) (h0:∀K x,ap s (l K 0) x=aj) (h1:∀K n,l K (n+1)=r K (l K n))
  (h:∀K g x,tF E it C (fM (ap s T x)) (Fg g (canon (E.Aq n)) K)=ap s (r K (cmp s T λt=>g (fM t))) x):b_ E it C:=
 lom n hr hi (Nw hT (λK=>wl (λg=>r K (cmp s T λt=>g (fM t))) (h0 K) (λm i=>by rw[h1];exact lO (r K) (wf i)) (h K)) oU)
end
end Go.FG

namespace Go.FG.Lib
def cU:aF:=18446744073709551616
def lt{α β:Type}(a:α)(f:α->β):β:=f a
theorem dg{α:Type}{o:aC α}{x d:α}(h:o=ah x):nM o=ai/\Option.getD o d=x:=by rw[h];exact⟨rfl,rfl⟩
theorem some_{α:Type}{o:aC α}{d:α}(h:nM o=ai):o=ah (Option.getD o d):=by
 cases o with
 |none=>cases h
 |some x=>rfl
theorem g9{σ β:Type}(F:aF->σ->β)(mu:σ->aF)(inv:σ->Prop)(res:σ->β)
  (step:∀n s,inv s->F (n+1) s=res s\/∃s',inv s'/\mu s'<mu s/\res s'=res s/\F (n+1) s=F n s'):∀n s,inv s->mu s<n->F n s=res s:=by
 intro n;induction n with
 |zero=>intro s _ h;omega
 |succ n ih=>
  intro s hi hm;rcases step n s hi with h|⟨s',h1,h2,h3,h4⟩
  ·exact h
  ·rw[h4,<-h3];exact ih s' h1 (by omega)
theorem dm(i n:aF):decide ((i:aw)<(n:aw))=decide (i<n):=by rw[cg];omega
theorem cE(i:aF):decide (0<=(i:aw))=true:=by simp
theorem Ni{i n:aF}(h:i<n):decide ((i:aw)<(n:aw))=true:=by simp;omega
theorem Sy{i n:aF}(h:¬i<n):decide ((i:aw)<(n:aw))=false:=by simp;omega
theorem dX(i:aF):aW (i:aw)=i:=rfl
theorem cZ{i n:aF}(h:i<n)(hn:n<=9223372036854775807):bJ ((i:aw)+1)=((i+1:aF):aw):=by rw[iI (by omega) (by omega)];omega
theorem oT{xs:aR}{i:aF}(h:i<xs.length):xs.getD i []=xs[i]:=by simp[jS,h]
theorem cK{xs:aR}{i j:aF}(h:i<xs.length):ar xs i j=xs[i].getD j (.b ak):=by unfold ar;rw[oT h]
theorem jX(xs:aR)(i j:aF)(ys:az CV):(eJ xs i j ys).length=xs.length:=by unfold eJ;simp
theorem rU(ks:az Ck)(n:aF):(aP ks n).length=n:=by unfold aP;simp
theorem ch{n b:aF}(h:n*b<=140737488355328)(h2:n<=9223372036854775807):cw n b=true:=by unfold cw;simp;omega
theorem BH{xs:aR}{i j:aF}{ys:az CV}(h:i<xs.length):eJ xs i j ys=xs.set i (iH xs[i] j ys):=by unfold eJ;rw[oT h]
theorem eL{x:aR}{i:aF}(h:i<x.length):x.drop i=x[i]::x.drop (i+1):=dE h
def up:aw->aF->aw|k,0=>k|k,n+1=>up (bJ (k+1)) n
theorem Mg{x:aw}(h:0<=x):bJ x<=x:=by
 have e:bJ x=if(decide (x%18446744073709551616≥9223372036854775808))=ai then x%18446744073709551616-18446744073709551616 else x%18446744073709551616:=rfl
 rw[e];split<;>omega
def vb(x:aw):aR:=
 if x>127 then [CV.i bh (bE bh (bJ (cy x 128+128)))]::vb (bJ (cQ x 128))else [[CV.i bh (bE bh x)]]
termination_by x.toNat
decreasing_by
 rename_i h
 have h1:cQ x 128=x/128:=ie (by omega)
 have h2:=Mg (x:=cQ x 128) (by omega)
 omega
theorem wx{x:aw}(h:x>127):vb x=[CV.i bh (bE bh (bJ (cy x 128+128)))]::vb (bJ (cQ x 128)):=by rw[vb,bz h]
theorem nc{x:aw}(h:¬x>127):vb x=[[CV.i bh (bE bh x)]]:=by rw[vb,bH h]
theorem HC{n:aF}(h:n<=140737488355328):cw n 1=true:=ch (by omega) (by omega)
theorem iM(y:az CV)(ks:az Ck):(aD (aP ks 1) 0 y)=[y]:=rfl
theorem Ou{R:Type}(F:aF->aw->aR->aC R)(k:aq->aC R)
  (h1:∀n x acc,x>127->acc.length<=100->F (n+1) x acc=F n (bJ (cQ x 128)) (acc++[[CV.i bh (bE bh (bJ (cy x 128+128)))]]))
  (h2:∀n x acc,¬x>127->acc.length<=100->F (n+1) x acc=k (bytesOf (acc++[[CV.i bh (bE bh x)]]))) (x:aw) (hx:x<=9223372036854775807):F (x.toNat+1) x []=k (bytesOf (vb x)):=by
 have:=g9 (λn (s:aw×aR)=>F n s.1 s.2) (λs=>s.1.toNat) (λs=>s.2.length<=100/\(1<=s.1->2^s.2.length*s.1<=9223372036854775808)) (λs=>k (bytesOf (s.2++vb s.1))) (λn s hs=>by
  obtain⟨x,acc⟩:=s;obtain⟨hl,hb⟩:=hs;dsimp only at hl hb⊢;by_cases h:x>127
  ·right;have e1:cQ x 128=x/128:=ie (by omega);have hp:(1:aw)<=2^acc.length:=by
    have:(0:aw)<2^acc.length:=by exact Int.pow_pos (by omega)
    omega
   have hxb:x<=9223372036854775808:=by have h3:=hb (by omega);have:1*x<=2^acc.length*x:=DH hp (by omega);omega
   have e2:bJ (cQ x 128)=x/128:=by rw[e1,iI (by omega) (by omega)]
   have h64:acc.length<64:=by
    rcases q_ acc.length 64 with h5|h5
    ·exact h5
    ·exfalso;have h6:(2:aw)^64<=2^acc.length:=by have:=Nat.pow_le_pow_right (n:=2) (by omega) h5;exact_mod_cast this
     have h7:=hb (by omega);have h8:(2:aw)^acc.length*1<=2^acc.length*x:=BW (by omega) (by omega);have:(2:aw)^64=18446744073709551616:=by decide
     omega
   refine⟨(bJ (cQ x 128),acc++[[CV.i bh (bE bh (bJ (cy x 128+128)))]]),⟨by simp;omega,λ_=> ?_⟩,by dsimp only;omega, ?_,h1 n x acc h hl⟩
   ·dsimp only;rw[e2,bP,bA,uY];have h7:=hb (by omega);have h9:2*(x/128)<=x:=by omega
    have h8:(2:aw)^acc.length*(2*(x/128))<=2^acc.length*x:=BW h9 (by omega);rw[Int.mul_assoc];omega
   ·dsimp only;rw[wx h,cz];rfl
  ·left;rw[nc h];exact h2 n x acc h hl) (x.toNat+1) (x,[]) ⟨by simp,λh=>by simp;omega⟩ (by dsimp only;omega)
 simpa using this
theorem Sz{a b c:aF}{inst:Decidable (a+b<=c)}(h:a+b<=c): @decide (a+b<=c) inst=true:=aE h
theorem agO:∀(n:aF) (x:aw),x<2^n->(vb x).length<=n+1:=by
 intro n;induction n with
 |zero=>intro x hx;rw[nc (by omega)];simp
 |succ n ih=>
  intro x hx;by_cases h:x>127
  ·have e1:cQ x 128=x/128:=ie (by omega);have h2:=Mg (x:=cQ x 128) (by omega);rw[wx h];have h3:bJ (cQ x 128)<2^n:=by rw[uY]at hx;omega
   have:=ih _ h3;simp;omega
  ·rw[nc h];simp
theorem iU(xs:aR):(bytesOf xs).size=xs.length:=by unfold bytesOf;simp[cm]
theorem jQ{x:aw}(h:x<=9223372036854775807):(bytesOf (vb x)).size<=64:=by
 rw[iU];exact agO 63 x (by have:(2:aw)^63=9223372036854775808:=by decide
                           omega)
theorem kj(a b:aq):(a++b).size=a.size+b.size:=dJ
theorem qM(l:az H0):bZ l l=true:=by
 induction l with
 |nil=>rfl
 |cons a l ih=>simp only[bZ,ih,ju];exact beq_self_eq_true a
theorem GW(s:aq)(i:aF):gQ s i<256:=(s.data.getD i 0).toNat_lt
def rv(t:aq)(a:aF):aF->aF->aw->aw×aw×aX
 |0,_,_=>(0,0,ak)
 |f+1,j,n=>
  if a+j<t.size then
   (if(gQ t (a+j):aw)>127 then rv t a f (j+1) (n+(gQ t (a+j):aw)%128*128^j)
   else if(j>0/\gQ t (a+j)=0)\/n+(gQ t (a+j):aw)%128*128^j>1000000000 then(0,0,ak)
   else(n+(gQ t (a+j):aw)%128*128^j,((a+j+1:aF):aw),ai))
  else(0,0,ak)
theorem tz{α:Type}{c:aX}{x y:α}(h:c=ai):(bif c then x else y)=x:=by rw[h];rfl
theorem Sk{α:Type}{c:aX}{x y:α}(h:c=ak):(bif c then x else y)=y:=by rw[h];rfl
theorem Ah{p:Prop}{inst:Decidable p}(h:p): @decide p inst=true:=aE h
theorem IM{p:Prop}{inst:Decidable p}(h:¬p): @decide p inst=false:=aK h
def num(t:aq):aF->aF->aw
 |_,0=>0
 |a,k+1=>(gQ t a:aw)%128+128*num t (a+1) k
theorem BC(t:aq):∀(k a:aF),0<=num t a k/\num t a k<128^k
 |0,a=>by simp[num]
 |k+1,a=>by
  have:=BC t k (a+1);simp only[num,uY];omega
theorem xV(t:aq):∀(k a:aF),num t a (k+1)=num t a k+(gQ t (a+k):aw)%128*128^k
 |0,a=>by simp[num]
 |k+1,a=>by
  rw[num,xV t k (a+1),num,show a+1+k=a+(k+1)by omega,uY];rw[Int.mul_add,<-Int.add_assoc];congr 1;rw[Int.mul_comm 128,Int.mul_assoc]
theorem NV(t:aq):∀(k a:aF),(gQ t (a+k):aw)%128≠0->1<=num t a (k+1)
 |0,a,h=>by simp[num]at h⊢;omega
 |k+1,a,h=>by
  rw[num];have:=NV t k (a+1) (by rw[show a+1+k=a+(k+1)by omega];exact h);omega
theorem VX(t:aq):∀(k a:aF),(∀i,i<k->128<=gQ t (a+i))->gQ t (a+k)<128->(k=0\/gQ t (a+k)≠0)->num t a (k+1)<=9223372036854775807->vb (num t a (k+1))=(mw a (k+1)).map λi=>[CV.i bh (gQ t i:aw)]
 |0,a,_,h2,_,_=>by
  have e:num t a 1=(gQ t a:aw):=by simp[num]at h2⊢;omega
  simp only[yX]at h2;rw[e,nc (by omega)];have hw:bE bh (gQ t a:aw)=(gQ t a:aw):=by show(gQ t a:aw)%256=_;omega
  rw[hw];rfl
 |k+1,a,h1,h2,h3,h4=>by
  have hb:=GW t a;have h0:=h1 0 (by omega);rw[yX]at h0;have iB:gQ t (a+(k+1))≠0:=by rcases h3 with h3|h3;(·omega);exact h3
  have ll:=NV t k (a+1) (by rw[show a+1+k=a+(k+1)by omega];omega);have e:num t a (k+1+1)=(gQ t a:aw)%128+128*num t (a+1) (k+1):=rfl;rw[e]at h4⊢;have e1:cy ((gQ t a:aw)%128+128*num t (a+1) (k+1)) 128=(gQ t a:aw)%128:=by rw[ir (by omega)];omega
  have e2:cQ ((gQ t a:aw)%128+128*num t (a+1) (k+1)) 128=num t (a+1) (k+1):=by rw[ie (by omega)];omega
  have e3:bJ ((gQ t a:aw)%128+128)=(gQ t a:aw):=by rw[iI (by omega) (by omega)];omega
  have hw:bE bh (gQ t a:aw)=(gQ t a:aw):=by show(gQ t a:aw)%256=_;omega
  rw[wx (by omega),e1,e2,e3,hw,iI (by omega) (by omega),VX t k (a+1) (λi hi=>by rw[show a+1+i=a+(i+1)by omega];exact h1 (i+1) (by omega)) (by rw[show a+1+k=a+(k+1)by omega];exact h2) (by rw[show a+1+k=a+(k+1)by omega];exact .inr iB) (by omega)];rfl
theorem BM:∀(k:aF) (x:aw),x<128^(k+1)->(vb x).length<=k+1
 |0,x,h=>by rw[nc (by simp at h;omega)];simp
 |k+1,x,h=>by
  by_cases hx:x>127
  ·have e1:cQ x 128=x/128:=ie (by omega);have h2:=Mg (x:=cQ x 128) (by omega);rw[wx hx];have h3:bJ (cQ x 128)<128^(k+1):=by rw[uY]at h;omega
   have:=BM k _ h3;simp;omega
  ·rw[nc hx];simp
theorem Ix{t:aq}{a m:aF}(h:a+m<=t.size):(bytesOf ((mw a m).map λi=>[CV.i bh (gQ t i:aw)])).data.toList=(t.extract a (a+m)).data.toList:=by
 have h1:(bytesOf ((mw a m).map λi=>[CV.i bh (gQ t i:aw)])).data.toList=(mw a m).map λi=>t.data.getD i 0:=by unfold bytesOf;simp[bF,gQ]
 rw[h1];apply Wj;intro i;have hs:t.size=t.data.size:=rfl;have NC:a+m<=t.data.size:=by rw[<-hs];exact h
 simp only[gi,iz,ig];by_cases hi:i<m
 ·have h3:a+i<t.data.size:=by omega
  rw[bK,List.getElem?_range' hi,d_,bz (by omega),dQ];simp only[jh,Nat.one_mul,cY,eP];rw[Array.getElem?_eq_getElem h3];rfl
 ·rw[k_ (by simp;omega),k_ (by simp;omega)]
theorem beq_iff{l r:az H0}:bZ l r=ai↔l=r:=by
 constructor
 ·intro h;induction l generalizing r with
  |nil=>cases r with|nil=>rfl|cons=>cases h
  |cons a l ih=>
   cases r with
   |nil=>cases h
   |cons b r=>simp only[bZ,aL]at h;rw[eq_of_beq h.1,ih h.2]
 ·rintro rfl;exact qM l
theorem canon(t:aq)(k a:aF)(h:a+(k+1)<=t.size)(h1:∀i,i<k->128<=gQ t (a+i))(h2:gQ t (a+k)<128)(h4:num t a (k+1)<=9223372036854775807):
  bZ (bytesOf (vb (num t a (k+1)))).toList (t.extract a (a+(k+1))).toList= !decide (k>0/\gQ t (a+k)=0):=by
 rw[kE,kE];by_cases hc:k>0/\gQ t (a+k)=0
 ·rw[aE hc,a_];obtain⟨k',rfl⟩:∃k',k=k'+1:=⟨k-1,by omega⟩
  cases hb:bZ (bytesOf (vb (num t a (k'+1+1)))).data.toList (t.extract a (a+(k'+1+1))).data.toList with
  |false=>rfl
  |true=>
   exfalso;have he:=lO bT (beq_iff.1 hb);have e:num t a (k'+1+1)=num t a (k'+1):=by rw[xV,hc.2];simp
   have hl:=BM k' (num t a (k'+1)) (BC t (k'+1) a).2;rw[e]at he;have h5:(bytesOf (vb (num t a (k'+1)))).data.toList.length=(vb (num t a (k'+1))).length:=iU _;have h6:(t.extract a (a+(k'+1+1))).data.toList.length=k'+1+1:=by show(t.extract a (a+(k'+1+1))).size=_;rw[yJ];omega
   omega
 ·rw[aK hc,bR];have:=VX t k a h1 h2 (by omega) h4;rw[this];exact beq_iff.2 (Ix h)
theorem tw{a b:aq}(h:a.data.toList=b.data.toList):a=b:=by obtain⟨⟨a⟩⟩:=a;obtain⟨⟨b⟩⟩:=b;simp at h;rw[h]
theorem fm{a b:aq}:bZ a.toList b.toList=decide (a=b):=by
 rw[kE,kE];by_cases h:a=b
 ·subst h;rw[aE rfl];exact qM _
 ·rw[aK h];cases hb:bZ a.data.toList b.data.toList with
  |false=>rfl
  |true=>exact cJ (tw (beq_iff.1 hb)) h
theorem acM(t:aq)(a:aF):∀(f j:aF) (n:aw) (m x:aw),rv t a f j n=(m,x,ai)->n=num t a j->(∀i,i<j->128<=gQ t (a+i))->
  ∃k,x=((a+(k+1):aF):aw)/\a+(k+1)<=t.size/\0<=m/\m<=1000000000/\bytesOf (vb m)=t.extract a (a+(k+1))
 |0,j,n,m,x,h,_,_=>by simp[rv]at h
 |f+1,j,n,m,x,h,hn,hge=>by
  have hb:=GW t (a+j);have XY:n+(gQ t (a+j):aw)%128*128^j=num t a (j+1):=by rw[xV,<-hn]
  simp only[rv]at h;by_cases gg:a+j<t.size
  ·rw[bz gg]at h;by_cases hc:(gQ t (a+j):aw)>127
   ·rw[bz hc]at h;refine acM t a f (j+1) _ m x h XY (λi hi=> ?_);by_cases Pv:i<j
    ·exact hge i Pv
    ·have:i=j:=by omega
     subst this;omega
   ·rw[bH hc]at h;by_cases hz:(j>0/\gQ t (a+j)=0)\/n+(gQ t (a+j):aw)%128*128^j>1000000000
    ·rw[bz hz]at h;simp at h
    ·rw[bH hz]at h;simp only[ji,and_true]at h;obtain⟨rfl,rfl⟩:=h;have hr:=BC t (j+1) a;rw[<-XY]at hr;refine⟨j,by omega,by omega,hr.1,by omega, ?_⟩
     have:=canon t j a (by omega) hge (by omega) (by rw[<-XY];omega);rw[fm,show decide (j>0/\gQ t (a+j)=0)=ak from aK (λh=>hz (.inl h)),bR,<-XY]at this;exact cq this
  ·rw[bH gg]at h;simp at h
def eF(t:aq)(gP:aw):aw×aw×aX:=if 0<=gP/\gP<=t.size then rv t gP.toNat 5 0 0 else(0,0,ak)
theorem j7{t:aq}{gP m x:aw}(h:eF t gP=(m,x,ai)):0<=gP/\gP<x/\x<=t.size/\0<=m/\m<=1000000000/\bytesOf (vb m)=t.extract gP.toNat x.toNat:=by
 unfold eF at h;by_cases hn:0<=gP/\gP<=t.size
 ·rw[bz hn]at h;obtain⟨k,h1,h2,h3,h4,h5⟩:=acM t gP.toNat 5 0 0 m x h rfl (λi hi=>by omega);exact⟨hn.1,by omega,by omega,h3,h4,by rw[h1];exact h5⟩
 ·rw[bH hn]at h;simp at h
def ic(t:aq)(gP:aw):aq×aw×aX:=
 match eF t gP with
 |(n,x,ai)=>if n<=20000/\n<=t.size-x then(t.extract x.toNat (x+n).toNat,x+n,ai)else(⟨#[]⟩,0,ak)
 |_=>(⟨#[]⟩,0,ak)
theorem vE{R:Type}{t:aq}(ht:t.size<=4611686018427387904)(gP:aw)(kr:aq->aw->aX->aC R):
  (bif(!(eF t gP).2.2)then(kr ({data:= #[]}) 0 ak)else(bif(decide ((eF t gP).1>20000))then(kr ({data:= #[]}) 0 ak)else(bif(decide ((eF t gP).1>bJ ((↑(cm t):aw)-(eF t gP).2.1)))then(kr ({data:= #[]}) 0 ak)else(bif(g8 (eF t gP).2.1 (bJ ((eF t gP).2.1+(eF t gP).1)) (↑(cm t):aw))then(kr (bO t (aW (eF t gP).2.1) (aW (bJ ((eF t gP).2.1+(eF t gP).1)))) (bJ ((eF t gP).2.1+(eF t gP).1)) ai)else(aj)))))=kr (ic t gP).1 (ic t gP).2.1 (ic t gP).2.2:=by
 unfold ic;cases hr:eF t gP with
 |mk n r=>
  obtain⟨x,ok⟩:=r;cases ok with
  |false=>rfl
  |true=>
   obtain⟨h1,h2,h3,h4,h5,h6⟩:=j7 hr;have e1:bJ ((t.size:aw)-x)=t.size-x:=iI (by omega) (by omega);have e2:bJ (x+n)=x+n:=iI (by omega) (by omega);simp only[a_,ax,e1,e2];by_cases hc:n<=20000/\n<=t.size-x
   ·rw[bz hc,Sk (IM (by omega)),Sk (IM (by omega)),tz (by simp[g8];omega)]
   ·rw[bH hc];by_cases hb:n>20000
    ·rw[tz (Ah hb)]
    ·rw[Sk (IM hb),tz (Ah (by omega))]
theorem HB{t:aq}{gP x:aw}{s:aq}(h:ic t gP=(s,x,ai)):0<=gP/\gP<x/\x<=t.size/\s.size<=20000/\bytesOf (vb s.size)++s=t.extract gP.toNat x.toNat:=by
 unfold ic at h;cases hr:eF t gP with
 |mk n r=>
  obtain⟨y,ok⟩:=r;rw[hr]at h;cases ok with
  |false=>simp at h
  |true=>
   dsimp only at h;obtain⟨h1,h2,h3,h4,h5,h6⟩:=j7 hr;split at h
   ·rename_i hc;simp only[ji,and_true]at h;obtain⟨rfl,rfl⟩:=h;have gh:(t.extract y.toNat (y+n).toNat).size=n.toNat:=by rw[yJ];omega
    refine⟨h1,by omega,by omega,by rw[gh];omega, ?_⟩
    rw[gh,show((n.toNat:aF):aw)=n by omega,h6];apply tw;simp only[mE,gi,vF,iz,ig];rw[show(y+n).toNat-gP.toNat=(y.toNat-gP.toNat)+n.toNat by omega,List.take_add,vN,show gP.toNat+(y.toNat-gP.toNat)=y.toNat by omega,show(y+n).toNat-y.toNat=n.toNat by omega]
   ·simp at h
theorem xG(t:aq){i j k:aF}(h1:i<=j)(h2:j<=k):t.extract i j++t.extract j k=t.extract i k:=by apply tw;simp only[mE,gi,vF,iz,ig];rw[show k-i=(j-i)+(k-j)by omega,List.take_add,vN,show i+(j-i)=j by omega]
theorem G0(t:aq):t.extract 0 t.size=t:=by apply tw;simp only[gi,iz,ig,e_,sr];exact jf (by simp)
def fi(p:aF->aX):aF->aF->aw
 |0,_=> -1
 |d+1,i=>bif p i then(i:aw)else fi p d (i+1)
theorem pz(p:aF->aX):∀d i,fi p d i= -1/\(∀k,i<=k->k<i+d->p k=ak)\/∃k,i<=k/\k<i+d/\fi p d i=(k:aw)/\p k=ai/\∀q,i<=q->q<k->p q=ak
 |0,i=> .inl ⟨rfl,λk _ _=>by omega⟩
 |d+1,i=>by
  unfold fi;cases hp:p i with
  |true=>exact .inr ⟨i,by omega,by omega,rfl,hp,λq _ _=>by omega⟩
  |false=>
   rcases pz p d (i+1)with ⟨h1,h2⟩|⟨k,h1,h2,h3,h4,h5⟩
   ·refine .inl ⟨h1,λk hk1 Ap=> ?_⟩;by_cases h:k=i
    ·subst h;exact hp
    ·exact h2 k (by omega) (by omega)
   ·refine .inr ⟨k,by omega,by omega,h3,h4,λq hq1 hq2=> ?_⟩;by_cases h:q=i
    ·subst h;exact hp
    ·exact h5 q (by omega) hq2
end Go.FG.Lib
namespace Go.FG.Pu
def tN(xs:aR)(i:aF)(ys:aR):aR:=xs.take i++ys++xs.drop i
end Go.FG.Pu

namespace Go.FG
class PT (P:outParam c5) (T:outParam Tab):Prop where
 e:eH P T
 m:P.follows .mixedOrders=ai
abbrev As:=az fw
abbrev AA.n(x:aw):AA:= .i .i64 x
abbrev AV.n(x:aw):AV:= .i .i64 x
abbrev CV.n(x:aw):CV:= .i .i64 x
abbrev aI(x:aw):fw:= .v ak [.n x]
abbrev aB(x:aX):fw:= .v ak [.b x]
abbrev aS(x:aq):fw:= .v ak [.s x]
abbrev aH(e:aF)(x:aR):fw:= .v ak [.sh e x]
abbrev aO(e:aF)(x:aR):fw:= .v ak [.ow e ai x]
abbrev aV(l:az AA):fw:= .v ai l
abbrev cA(k:aF)(a:AV):aF×eT:=(k, .v (.v ak [a]))
abbrev cV(k:aF)(l:az AV):aF×eT:=(k, .v (.v ai l))
abbrev cI(k:aF)(x:aw):aF×eT:=cA k (.n x)
abbrev cP(k n:aF):aF×eT:=cA k (.bp n 0)
abbrev cH(k e:aF)(x:aR):aF×eT:=cA k (.sh e x)
abbrev oB(k:aF)(l:az AV):aF×eT:=(k, .o (.box l))
abbrev oR(k e:aF)(x:aR):aF×eT:=(k, .o (.row e ai x))
variable {P:c5} {T:Tab} [i:PT P T] {E:fQ} {g:aF} {F:Func} {s t:az Ho} {A:Fn s As} {k:Fn t dA}
theorem fq(hF:∀g,lS P T g (E.call g))(hf:P.funcs[g]? =ah F){it:aF->It (Pr t)}{l:az Code}(CC:∀N,∀c∈l,b_ E (it N) c)
  {c:Fn s aX} {v:Fn s (Pr t)} (b:aF->Fn t (aC (Pr t))->Fn s (aC (Pr t))) (u:Fn s (aC (Pr t))) {d:Pr t} (hT:E.toTab=T:=by rfl)
  (hc:∀x,IH F (ap s A x)=true:=by intro x;kernel_rfl) (hl:jZ (F.body.getD .skip)=l:=by kernel_rfl) (hA:okA A:=by intro x;rfl) (hk:okK k:=by intro x;rfl)
  (h:∀N x,Cc E (it N) F k (ap s A x)=ap s (b N (cmp t (kl t) ah)) x:=by intro N x;kernel_rfl) (hw:b Lib.cU (cmp t (kl t) ah)=u:=by rfl) (h1:cmp s u nM=c:=by rfl) (h2:cmp s u (λo=>o.getD d)=v:=by rfl):lS P T g (dY A k c v):=by subst hT;exact fl i.e i.m hF hf hc hl CC hA hk Lib.cU h hw h1 h2
theorem fr(hF:∀g,lS P T g (E.call g))(hf:P.funcs[g]? =ah F)
  {c:Fn s aX} {v:Fn s (Pr t)} (b:Fn t (aC (Pr t))->Fn s (aC (Pr t))) (u:Fn s (aC (Pr t))) {d:Pr t} (hT:E.toTab=T:=by rfl)
  (hc:∀x,IH F (ap s A x)=true:=by intro x;kernel_rfl) (hl:jZ (F.body.getD .skip)=[]:=by kernel_rfl) (hA:okA A:=by intro x;rfl) (hk:okK k:=by intro x;rfl)
  (h:∀x,Cc E ln F k (ap s A x)=ap s (b (cmp t (kl t) ah)) x:=by intro x;kernel_rfl) (hw:b (cmp t (kl t) ah)=u:=by rfl) (h1:cmp s u nM=c:=by rfl) (h2:cmp s u (λo=>o.getD d)=v:=by rfl):lS P T g (dY A k c v):=by subst hT;exact fl i.e i.m hF hf hc hl (it:=λ_=>ln) (λ_=>bB) hA hk (w:=λ_=>b (cmp t (kl t) ah)) 0 (λ_=>h) hw h1 h2
theorem ft(hF:∀g,lS P T g (E.call g))(hf:P.funcs[g]? =ah F)
  {v:Fn s (Pr t)} (b:Fn t (aC (Pr t))->Fn s (aC (Pr t))) (hv:∀x,ap s (b (cmp t (kl t) ah)) x=ah (ap s v x)) (hT:E.toTab=T:=by rfl)
  (hc:∀x,IH F (ap s A x)=true:=by intro x;kernel_rfl) (hl:jZ (F.body.getD .skip)=[]:=by kernel_rfl) (hA:okA A:=by intro x;rfl) (hk:okK k:=by intro x;rfl)
  (h:∀x,Cc E ln F k (ap s A x)=ap s (b (cmp t (kl t) ah)) x:=by intro x;kernel_rfl):lS P T g (dY A k (ct s) v):=by subst hT;exact flh i.e i.m hF hf hc hl (it:=λ_=>ln) (λ_=>bB) hA hk λx _ _=>⟨0,(h x).trans (hv x)⟩
theorem fh(hF:∀g,lS P T g (E.call g))(hf:P.funcs[g]? =ah F){it:aF->It (Pr t)}{l:az Code}(CC:∀N,∀c∈l,b_ E (it N) c)
  {c:Fn s aX} {v:Fn s (Pr t)} (b:aF->Fn t (aC (Pr t))->Fn s (aC (Pr t))) (hv:∀x,xK (ap s A x)->ap s c x=ai->∃N,ap s (b N (cmp t (kl t) ah)) x=ah (ap s v x)) (hT:E.toTab=T:=by rfl)
  (hc:∀x,IH F (ap s A x)=true:=by intro x;kernel_rfl) (hl:jZ (F.body.getD .skip)=l:=by kernel_rfl) (hA:okA A:=by intro x;rfl) (hk:okK k:=by intro x;rfl)
  (h:∀N x,Cc E (it N) F k (ap s A x)=ap s (b N (cmp t (kl t) ah)) x:=by intro N x;kernel_rfl):lS P T g (dY A k c v):=by subst hT;exact flh i.e i.m hF hf hc hl CC hA hk λx f q=>(hv x f q).imp λN e=>(h N x).trans e
section
variable {R:Type} {it:It R} {F:Func}
theorem lq(n:aF){s:az Ho}(T:Fn s Tb)(l:Kt R->aF->Fn s (aC R))(r:Kt R->Fn s (aC R)->Fn s (aC R)){N:aF}(hr:gH (bX F n)=n:=by kernel_rfl)(hT:okT T:=by intro x;rfl)
  (hi:∀L K,it n (tF E it (bX F n)) (canon (E.Aq n)) L K=al T (λK=>l K N) an L K:=by intro L K;rfl) (h0:∀K x,ap s (l K 0) x=none:=by intro K x;rfl) (h1:∀K n,l K (n+1)=r K (l K n):=by intro K n;rfl)
  (h:∀K g x,tF E it (bX F n) (fM (ap s T x)) (Fg g (canon (E.Aq n)) K)=ap s (r K (cmp s T λt=>g (fM t))) x:=by intro K g x;kernel_rfl):b_ E it (bX F n):=
 lo1 n T hr hT l r hi h0 h1 h
theorem lw{n:aF}{K:Kt R}{s:az Ho}{T:Fn s Tb}{l:aF->Fn s (aC R)}(r:(St->aC R)->Fn s (aC R))
  (h1:∀m,(∀x,iter (tF E it (bX F n)) (canon (E.Aq n)) m (fM (ap s T x)) K=ap s (l m) x)->r (λσ=>iter (tF E it (bX F n)) (canon (E.Aq n)) m σ K)=l (m+1)) (h0:∀x,ap s (l 0) x=none:=by intro x;rfl)
  (h:∀g x,tF E it (bX F n) (fM (ap s T x)) (Fg g (canon (E.Aq n)) K)=ap s (r g) x:=by intro g x;kernel_rfl):Wd E it (bX F n) n K T l:=wl r h0 h1 h
theorem lm(n:aF){a:Tb->Kt R->aC R}(h:Good E it (bX F n) n a)(hr:gH (bX F n)=n:=by kernel_rfl)(hi:∀L K,it n (tF E it (bX F n)) (canon (E.Aq n)) L K=a L K:=by intro L K;rfl):b_ E it (bX F n):=lom n hr hi h
theorem ga{C:Code}{n:aF}{s:az Ho}(T:Fn s Tb){N:aF}{l:Kt R->aF->Fn s (aC R)}{o:Tb->Kt R->aC R}(h:∀K,Wd E it C n K T (l K))(ho:Good E it C n o)(hT:okT T:=by intro x;rfl):Good E it C n (al T (λK=>l K N) o):=Nw hT h ho
end
end Go.FG

