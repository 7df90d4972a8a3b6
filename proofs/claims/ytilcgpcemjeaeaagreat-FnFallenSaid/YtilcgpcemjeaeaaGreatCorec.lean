/- An evaluator for the part of the language that this program uses, proved sound over the model: states told as values and lists; what an evaluation tells, the call does. No condition. -/
import Derived.Calls
import Derived.Orders
import Derived.Below
import Derived.Laws.AppendOwn
import Derived.Laws.Slices
import Derived.Laws.StructEq
import Derived.Laws.Tables
import Derived.Laws.MakeOwn
import Derived.Laws.IdiomStrings
import Derived.Laws.BytesArg
import Derived.Laws.NewFold
import Derived.SizedLaws
import Derived.Carry
import Derived.ProofKit
import Derived.KernelRfl
import Derived.Laws.Strings
import Derived.Test.YtilcgpcemjeaeaaGreatCoreb
set_option linter.unusedVariables false
set_option linter.unusedSimpArgs false
set_option maxRecDepth 100000
open Array renaming length_toList->dS,getElem?_eq_some_iff->dV,toList_extract->iy,getElem?_toList->cZ,getD_eq_getD_getElem?->eP,toList_append->vC
open Bool renaming true->ai,and_eq_true->aL,false->ak,false_eq_true->dy,not_eq_true'->dt,and_true->js,not_true->a_,not_false->bR
open ByteArray renaming size->cq,size_append->dK,data_extract->gj,size_extract->yD,extract->bO,data_append->mA
open Go renaming Program->c6,Value->bk,World->bL
open Go.ByteArray renaming toList_eq->kD
open Go.DataW renaming weightsAll->z5,trod->Dn,weights->vK,TrodAll->Er,weightsEach->m_
open Go.IntKind renaming i64->ao,u8->bh,wrap->bE
open Go.Value renaming okWide->sg
open Int renaming toNat->aW,tmod->cz,tdiv->cR,tdiv_eq_ediv_of_nonneg->ic,mul_le_mul_of_nonneg_right->DC,mul_le_mul_of_nonneg_left->BR,pow_succ->uU,tmod_eq_emod_of_nonneg->iq
open List renaming getElem?_append_left->dI,getElem?_append_right->db,getElem?_eq_none->kY,mem_singleton->aZ,mem_append->ba,length_append->bP,length_take->eD,length_drop->iE,length_map->bU,map_append->dj,getElem?_take->ea,getElem?_drop->dR,getElem?_eq_getElem->eW,mem_cons->cC,getElem?_eq_some_iff->aT,getElem?_of_mem->bY,eq_nil_of_length_eq_zero->gf,getElem?_map->bK,length_eq_one_iff->gZ,all_cons->s7,mem_append_left->bM,mem_append_right->bN,append_nil->dp,all_eq_true->bu,append_assoc->cB,map_cons->fE,mem_cons_self->dr,mem_cons_of_mem->c8,getD->jR,drop_eq_getElem_cons->dF,set->aD,length_singleton->bA,beq->bZ,range'->mo,ext_getElem?->Wg,extract_eq_take_drop->ie,length->bT,drop_drop->vL,drop_zero->fa,take_of_length_le->je
open List.cons renaming inj->kC
open Nat renaming beq->bD,blt->qB,add_assoc->l_,lt_or_ge->qX,eq_zero_or_pos->Dq,eq_of_beq_eq_true->aU,zero_add->bV,blt_eq->AE,mul_le_mul_right->b8,le_trans->di,ble->fL,le_of_ble_eq_true->cO,add_zero->yT,sub_zero->si
open Option renaming some->ah,none->aj,isSome->nI,map_some->jf
open Option.some renaming inj->aJ
open Prod.mk renaming inj->bW,injEq->jg
open _root_ renaming ByteArray->aq,Nat->aF,Option->az,List->aA,cond_true->au,if_pos->bz,Bool->aX,absurd->cK,Array->dv,Int->aw,decide_eq_true_eq->bf,of_decide_eq_true->cu,cond_false->ax,decide_eq_true->aE,if_neg->bH,congrArg->lN,decide_eq_decide->ch,UInt8->HS,decide_eq_false->aK
namespace Go.FG
open Go.RowKit Go.ChangeShapes
inductive ru (T:Tab):CV->Prop
 |i (k n):(Lit.int k n).wf=ai->ru T (.i k n)
 |b (x):ru T (.b x)
 |s (x:aq):x.size<=140737488351232->ru T (.s x)
 |l (e xs ti):T.ty e=ah ti->xs.length*ti.bytes<=140737488351232->(∀y∈xs,y.map CV.kd=ti.ks)->(∀y∈xs,∀x∈y,ru T x)->ru T (.l e xs)
def PF(P:c6)(g:aF->az (aA Ck)):aA Field->aF->az (aA Ck)
 |[],_=>ah []
 |f::r,off=>match g f.type with
  |some ks=>bif bD f.offset off&&bD (P.cellsOf f.type) ks.length then(match PF P g r (off+ks.length)with|some l=>ah (ks++l)|none=>aj)else aj
  |none=>aj
def PE(P:c6)(T:Tab):aF->aF->az (aA Ck)
 |0,_=>aj
 |n+1,t=>match P.underlying t with
  |some (.int k)=>ah [.i k]
  |some .bool=>ah [.b]
  |some .string=>ah [.s]
  |some (.slice e)=>match T.ty e,PE P T n e with
   |some te,ah ks=>bif qp ks te.ks&&bD te.bytes (P.bytesOf e)&&bD (P.cellsOf e) ks.length&&qB 0 ks.length then ah [.l e]else aj
   |_,_=>aj
  |some (.struct fs)=>match PF P (PE P T n) fs.toList 0 with
   |some ks=>bif bD (P.cellsOf t) ks.length then ah ks else aj
   |none=>aj
  |_=>aj
def Ij:CV->AA
 | .i k n=> .i k n| .b x=> .b x| .s x=> .s x| .l e xs=> .sh e xs
section
variable {H:Type} {enc:TypeId×bk->H} {P:c6} {T:Tab} {w:bL}
def Dz(w:bL):aF->Prop:=λb=>b<w.heap.size
structure wB (T:Tab) (w:bL) (cs:aA bk) (off:aF) (ys:aA CV) (ks:aA Ck):Prop where
 kd:ys.map CV.kd=ks
 at_:∀(j:aF) (y:CV),ys[j]? =ah y->∃v,cs[off+j]? =ah v/\da T w (Dz w) v y
 fine:∀y∈ys,ru T y
theorem R_(a:Addr)(m k:aF):(a.add m).add k=a.add (m+k):=by
 unfold Addr.add;by_cases h1:m=0<;>by_cases h2:k=0
 ·simp[h1,h2]
 ·simp[h1,h2]
 ·simp[h1,h2]
 ·simp[h1,h2,l_]
theorem aex(b o n:aF):(ad b o).add n=ad b (o+n):=by unfold Addr.add;by_cases h:n=0<;>simp[h]
theorem Aa{α:Type}{p:aF->α->Prop}:∀n:aF,(∀i,i<n->∃y,p i y)->∃xs:aA α,xs.length=n/\∀(i:aF) (y:α),xs[i]? =ah y->p i y
 |0,_=>⟨[],rfl,λi y h=>by simp at h⟩
 |n+1,h=>by
  obtain⟨xs,h1,h2⟩:=Aa n (λi hi=>h i (by omega));obtain⟨y,hy⟩:=h n (by omega);refine⟨xs++[y],by simp[h1],λi z hz=> ?_⟩
  rcases qX i xs.length with hi|hi
  ·rw[dI hi]at hz;exact h2 i z hz
  ·rw[db hi]at hz;have:i-xs.length=0:=by
    rcases Dq (i-xs.length)with h|h
    ·exact h
    ·rw[kY (by simp;omega)]at hz;cases hz
   rw[this]at hz;cases hz;have:i=n:=by omega
   subst this;exact hy
theorem tN{v:bk}{y:CV}{k:Ck}(hk:y.kd=k)(hh:da T w (Dz w) v y)(hf:ru T y):wB T w [v] 0 [y] [k] where
 kd:=by simp[hk]
 at_ j y' hj:=by
  cases j with
  |zero=>cases hj;exact⟨v,rfl,hh⟩
  |succ j=>simp at hj
 fine y' hy:=by rw[aZ]at hy;subst hy;exact hf
theorem ud{e:TypeId}:∀{ds:aA (DataW H)} {i:aF} {d:DataW H},ds[i]? =ah d->∀n∈d.weights P e,n∈z5 P e ds
 |[],_,_,h,_,_=>by simp at h
 |d0::ds,0,d,h,n,hn=>by cases h;simp only[z5,ba];exact .inl hn
 |d0::ds,i+1,d,h,n,hn=>by simp only[z5,ba];exact .inr (ud (ds:=ds) (i:=i) h n hn)
theorem O9{g:aF->az (aA Ck)}{cs:aA bk}
  (hg:∀t ks,g t=ah ks->∀(fuel:aF) (cs:aA bk) (x:DataW H×aA MemPlace) sp hd,Dn enc P w 0 sp hd fuel t cs=ah x->(∀m∈x.1.weights P t,m<=reachBytes)->cs.length=P.cellsOf t->∃ys,wB T w cs 0 ys ks):
  ∀(fs:aA Field) (off:aF) (ks:aA Ck),PF P g fs off=ah ks->off+ks.length<=cs.length->∀(xs:aA (DataW H×aA MemPlace)) (fuel:aF) sp hd,xs.length=fs.length->
   (∀(i:aF) (f:Field),fs[i]? =ah f->Dn enc P w 0 sp hd fuel f.type ((cs.drop f.offset).take (P.cellsOf f.type))=xs[i]?)->
   (∀(i:aF) (f:Field) x,fs[i]? =ah f->xs[i]? =ah x->∀m∈x.1.weights P f.type,m<=reachBytes)->∃ys,wB T w cs off ys ks:=by
 intro fs;induction fs with
 |nil=>intro off ks h _ xs fuel sp hd _ _ _;cases h;exact⟨[],⟨rfl,λj y hj=>by simp at hj,λy hy=>by cases hy⟩⟩
 |cons f fs ih=>
  intro off ks h hlen xs fuel sp hd X2 QB hwt;unfold PF at h;cases hgf:g f.type with
  |none=>rw[hgf]at h;cases h
  |some k1=>
   rw[hgf]at h;dsimp only at h;cases hb:(bD f.offset off&&bD (P.cellsOf f.type) k1.length)with
   |false=>rw[hb]at h;cases h
   |true=>
    rw[hb,au]at h;simp only[aL]at hb;have e1:=aU hb.1;have e2:=aU hb.2;cases hr:PF P g fs (off+k1.length)with
    |none=>rw[hr]at h;cases h
    |some k2=>
     rw[hr]at h;have h:k1++k2=ks:=by injection h
     subst h;rw[bP]at hlen;cases xs with
     |nil=>simp at X2
     |cons x xs=>
      have h0:=QB 0 f rfl;rw[show(x::xs)[0]? =ah x from rfl]at h0;obtain⟨y1,c1⟩:=hg _ _ hgf fuel _ x sp hd h0 (hwt 0 f x rfl rfl) (by rw[eD,iE];omega);obtain⟨y2,c2⟩:=ih (off+k1.length) k2 hr (by omega) xs fuel sp hd (by simpa using X2) (λi f' hf=>QB (i+1) f' hf) (λi f' x' hf hx=>hwt (i+1) f' x' hf hx);have Nw:y1.length=k1.length:=by rw[<-c1.kd,bU]
      refine⟨y1++y2,⟨by rw[dj,c1.kd,c2.kd],λj y hj=> ?_,λy hy=> ?_⟩⟩
      ·rcases qX j y1.length with j7|j7
       ·rw[dI j7]at hj;obtain⟨v,hv,hh⟩:=c1.at_ j y hj;refine⟨v, ?_,hh⟩
        rw[bV,ea,bz (by omega),dR,e1]at hv;exact hv
       ·rw[db j7]at hj;obtain⟨v,hv,hh⟩:=c2.at_ _ y hj;refine⟨v, ?_,hh⟩
        rw[show off+k1.length+(j-y1.length)=off+j by omega]at hv;exact hv
      ·rcases ba.1 hy with hy|hy
       ·exact c1.fine y hy
       ·exact c2.fine y hy
theorem CN(hE:eH P T):∀(n t:aF) (ks:aA Ck),PE P T n t=ah ks->∀(fuel:aF) (cs:aA bk) (x:DataW H×aA MemPlace) sp hd,Dn enc P w 0 sp hd fuel t cs=ah x->(∀m∈x.1.weights P t,m<=reachBytes)->cs.length=P.cellsOf t->∃ys,wB T w cs 0 ys ks:=by
 intro n;induction n with
 |zero=>intro t ks h;cases h
 |succ n ih=>
  intro t ks h fuel cs x sp hd QB hwt oc;unfold PE at h;split at h
  ·rename_i k hu;cases h;obtain⟨m,rfl,rfl,hwf⟩:=DataW.trod_int hu QB;exact⟨[.i k m],tN rfl (.i _ _) (.i _ _ hwf)⟩
  ·rename_i hu;cases h;obtain⟨m,rfl,rfl⟩:=DataW.trod_bool hu QB;exact⟨[.b m],tN rfl (.b _) (.b _)⟩
  ·rename_i hu;cases h;obtain⟨m,rfl,rfl,hmx⟩:=DataW.trod_string hu QB;have hz:m.size<=140737488351232:=by have:=hwt m.data.toList.length (by simp[vK]);rw[dS]at this;exact this
   exact⟨[.s m],tN rfl (.s _ (show m.size<=4611686018427387904 by omega)) (.s _ hz)⟩
  ·rename_i e hu;split at h
   ·rename_i te ke Ld hke;cases hb:(qp ke te.ks&&bD te.bytes (P.bytesOf e)&&bD (P.cellsOf e) ke.length&&qB 0 ke.length)with
    |false=>rw[hb]at h;cases h
    |true=>
     rw[hb]at h;cases h;simp only[aL]at hb;obtain⟨⟨⟨b1,b2⟩,b3⟩,b4⟩:=hb;have e1:=nT b1;have e2:=aU b2;have e3:=aU b3;have e4:0<ke.length:=by simpa [AE]using b4
     subst e1;rcases DataW.trod_slice hu QB with ⟨rfl,rfl⟩|⟨a,len,cap,elems,rest,m,rfl,rfl,rfl,_,hlc,XK,Nu,gg,_,_⟩
     ·exact⟨[.l e []],tN rfl (.nl _ _ _) (.l e [] te Ld (by simp) (λy hy=>by cases hy) (λy hy=>by cases hy))⟩
     ·have hwl:len*te.bytes<=140737488351232:=by have:=hwt ((elems.length+rest.length)*P.bytesOf e) (by simp[vK,hu]);rw[<-e2,Nu]at this;have h2:len*te.bytes<=(len+rest.length)*te.bytes:=b8 _ (by omega);exact di h2 this
      have one:∀i,i<len->∃ys:aA CV,(∀(j:aF) (y:CV),ys[j]? =ah y->∃v,w.cell? (a.add (i*te.ks.length+j))=ah v/\da T w (Dz w) v y)/\ys.map CV.kd=te.ks/\∀y∈ys,ru T y:=by
       intro i hi;have h1:=gg i hi;have mc:i<elems.length:=by omega
       rw[eW mc]at h1;cases hc:w.cells? 0 (a.add (i*P.cellsOf e)) (P.cellsOf e)with
       |none=>rw[hc]at h1;cases h1
       |some cs=>
        rw[hc]at h1;have h1:Dn enc P w 0 sp hd m e cs=ah elems[i]:=h1;obtain⟨_,oc,hcell⟩:=World.cells?_some hc;obtain⟨ys,c⟩:=ih e te.ks hke m cs _ sp hd h1 (λz hz=>hwt z (by simp only[vK,hu,cC,ba];exact .inr (.inl (ud (i:=i) (d:=elems[i].1) (by simp[mc]) z hz)))) oc;refine⟨ys,λj y hj=> ?_,c.kd,c.fine⟩
        obtain⟨v,hv,hh⟩:=c.at_ j y hj;rw[bV]at hv;have j7:=(aT.1 hv).1;have:=hcell j (by omega);rw[hv]at this;refine⟨v, ?_,hh⟩
        rw[<-e3];rw[<-R_];exact this
      obtain⟨xs,X2,hx⟩:=Aa len one;have aiZ:ru T (.l e xs):=by
       refine .l e xs te Ld (by rw[X2];exact hwl) (λy hy=> ?_) (λy hy=> ?_)
       ·obtain⟨i,hi⟩:=bY hy;exact(hx i y hi).2.1
       ·obtain⟨i,hi⟩:=bY hy;exact(hx i y hi).2.2
      refine⟨[.l e xs],tN rfl ?_ aiZ⟩
      rcases Dq len with h0|h0
      ·have:xs=[]:=gf (by omega);subst this;rw[h0];exact .nl _ _ _
      ·have hx0:xs[0]? =ah xs[0]:=by rw[eW (by omega)]
       obtain⟨c0,k0,_⟩:=hx 0 _ hx0;have hy0:0<(xs[0]).length:=by rw[<-bU (f:=CV.kd),k0];exact e4
       obtain⟨v0,QC,_⟩:=c0 0 _ (eW hy0);obtain⟨b,o,s⟩:=a;have hs:s=aj/\b<w.heap.size:=by
        unfold World.cell? at QC;have e0:(Addr.mk b o s).add (0*te.ks.length+0)=⟨b,o,s⟩:=by simp[Addr.add]
        rw[e0]at QC;split at QC
        ·rename_i hh;refine⟨?_,(dV.1 hh).1⟩
         cases s with
         |none=>rfl
         |some s=>simp at QC
        ·cases QC
       obtain⟨rfl,hbl⟩:=hs;let U:aF->aF->bk:=λi j=>(w.cell? (ad b (o+i*te.ks.length+j))).getD undef;have ar:∀i j y z,xs[i]? =ah y->y[j]? =ah z->w.cell? (ad b (o+i*te.ks.length+j))=ah (U i j)/\da T w (Dz w) (U i j) z:=by
        intro i j y z hi hj;obtain⟨v,hv,hh⟩:=(hx i y hi).1 j z hj;have hv:w.cell? ((ad b o).add (i*te.ks.length+j))=ah v:=hv;rw[aex,<-l_]at hv;have:U i j=v:=by simp only[U,hv];rfl
        rw[this];exact⟨hv,hh⟩
       rw[<-X2];exact .l e xs b o cap te U Ld (by omega) XK hbl (λy hy=>by obtain⟨i,hi⟩:=bY hy;exact(hx i y hi).2.1) (λi j y z hi hj=>(ar i j y z hi hj).1) (λi j y z hi hj=>(ar i j y z hi hj).2)
   ·cases h
  ·rename_i fs hu;obtain⟨xs,m,rfl,rfl,afb,X2,hf⟩:=DataW.trod_struct hu QB;cases hlf:PF P (PE P T n) fs.toList 0 with
   |none=>rw[hlf]at h;cases h
   |some ks'=>
    rw[hlf]at h;obtain⟨hb,rfl⟩:=EM h;refine O9 ih fs.toList 0 _ hlf ?_ xs m sp hd (by simpa using X2) (λi f hi=>hf i f (by simpa using hi)) (λi f x hi hx z hz=>hwt z ?_)
    ·have:=aU hb;omega
    ·simp only[vK,hu];refine DataW.weights_mem_each (j:=i) (t:=f.type) (d:=x.1) ?_ ?_ z hz
     ·rw[bK,hi];rfl
     ·rw[bK,hx];rfl
  ·cases h
end
end Go.FG

namespace Go.FG
open Go.RowKit Go.ChangeShapes
def n_(T:Tab):aA aF->aA (aA CV)->aA fy
 |t::ts,ys::se=>fy.v (match T.ty t with|some ti=>ti.agg|none=>ak) (ys.map Ij)::n_ T ts se
 |_,_=>[]
def o9(T:Tab):aA aF->aA (aA CV)->Prop
 |[],[]=>True
 |t::ts,ys::se=>(∃ti,T.ty t=ah ti/\ys.map CV.kd=ti.ks)/\(∀y∈ys,ru T y)/\o9 T ts se
 |_,_=>False
def PX(P:c6)(T:Tab)(n:aF)(t:aF):aX:=
 match T.ty t,PE P T n t,P.underlying t with
 |some ti,ah ks,ah d=>qp ks ti.ks&&(match d with| .struct _=>ti.agg| .array _ _=>ak|_=> !ti.agg)&&P.readableRec t&&decide (t<P.types.size)
 |_,_,_=>ak
theorem aew{T:Tab}{w:bL}{c:e_}(hc:∀b,Dz w b->c.K b){v:bk}{y:CV}(h:da T w (Dz w) v y)(nm:aF):eM T w c (lB nm (Ij y)) v:=by
 have h:da T w c.K v y:=h.frame (λ_ _=>rfl) hc;cases y with
 |i k n=>cases h;rfl
 |b x=>cases h;rfl
 |s x=>cases h with|s _ ho=>exact⟨rfl,ho⟩
 |l e xs=>exact h
section
variable {H:Type} {enc:TypeId×bk->H} {P:c6} {T:Tab} {w:bL}
theorem aeF(hE:eH P T){n t:aF}(hp:PX P T n t=ai){v:bk}{d:DataW H}{ps:aA MemPlace}{sp:aF->aX}{hd:aX}{base:aF}(hv:sg P w .any base t v)(h:DataW.Trod enc P w 0 sp hd t v d ps)(hw:∀m∈d.weights P t,m<=reachBytes):
  ∃ys:aA CV,(∃ti,T.ty t=ah ti/\ys.map CV.kd=ti.ks)/\(∀y∈ys,ru T y)/\∀c:e_,(∀b,Dz w b->c.K b)->∀p,jk T w c (tH p (fy.v (match T.ty t with|some ti=>ti.agg|none=>ak) (ys.map Ij))) v:=by
 unfold PX at hp;split at hp
 ·rename_i ti ks dd ht hl hu;simp only[aL]at hp;obtain⟨⟨⟨h1,h2⟩,_⟩,_⟩:=hp;have e1:=nT h1;subst e1;obtain⟨fuel,QB⟩:=h;obtain⟨inf,hi,gi,_⟩:=hE.info t ti ht;have hct:P.cellsOf t=ti.ks.length:=by unfold Program.cellsOf;rw[hi];exact gi
  have cell:∀(ys:aA CV) (cs:aA bk),wB T w cs 0 ys ti.ks->∀c:e_,(∀b,Dz w b->c.K b)->∀(p j:aF) (a:AV),(gA (dU p 0) (ys.map Ij))[j]? =ah a->∃u:bk,cs[j]? =ah u/\eM T w c a u:=by
   intro ys cs hc c hK p j a hj;rw[iF,bK]at hj;cases hy:ys[j]? with
   |none=>rw[hy]at hj;cases hj
   |some y=>rw[hy]at hj;cases hj;obtain⟨u,sA,hh⟩:=hc.at_ j y hy;rw[bV]at sA;exact⟨u,sA,aew hK hh _⟩
  cases uC:ti.agg with
  |true=>
   have Lb:∃fs,dd= .struct fs:=by cases dd<;>simp[uC]at h2;exact⟨_,rfl⟩
   obtain⟨fs,rfl⟩:=Lb;unfold sg at hv;rw[hu]at hv;obtain⟨cs,rfl,HY,_⟩:=hv;obtain⟨ys,hc⟩:=CN hE n t ti.ks hl fuel cs.toList (d,ps) sp hd QB hw (by simpa using HY);refine⟨ys,⟨ti,ht,hc.kd⟩,hc.fine,λc hK p=> ?_⟩
   rw[ht];show qn T w c ti.agg (gA (dU p 0) (ys.map Ij)) _;rw[uC];refine⟨cs,rfl, ?_,λj a hj=> ?_⟩
   ·rw[iV,bU,HY,hct,<-hc.kd,bU]
   ·obtain⟨u,sA,ha⟩:=cell ys cs.toList hc c hK p j a hj;exact⟨u,by simpa using sA,ha⟩
  |false=>
   have Lb:∀fs,dd≠ .struct fs:=by intro fs he;subst he;simp[uC]at h2
   have har:∀m e,dd≠ .array m e:=by intro m e he;subst he;cases h2
   have hcell:Cell.okWide P w .any base t v:=by
    unfold sg at hv;rw[hu]at hv;split at hv
    ·rename_i fs he;cases he;exact cK rfl (Lb fs)
    ·rename_i m e he;cases he;exact cK rfl (har m e)
    ·exact hv
   have xI:v.cells= #[v]:=by
    cases v<;>first|rfl|skip
    rename_i cs;exfalso;unfold Cell.okWide at hcell;rw[hu]at hcell;cases dd<;>simp[Cell.ok,hu]at hcell
   obtain⟨dd',hu2,_,hn⟩:=hE.desc t ti ht;have h1:ti.ks.length=1:=by rcases hn uC with ⟨k,h,_⟩|⟨h,_⟩|⟨h,_⟩|⟨e',h,_⟩|⟨h,_⟩<;>simp[h]
   rw[xI]at QB;obtain⟨ys,hc⟩:=CN hE n t ti.ks hl fuel [v] (d,ps) sp hd QB hw (by rw[hct,h1];rfl);have Jj:ys.length=1:=by rw[<-bU (f:=CV.kd),hc.kd,h1]
   obtain⟨y,rfl⟩:=gZ.1 Jj;refine⟨[y],⟨ti,ht,hc.kd⟩,hc.fine,λc hK p=> ?_⟩
   rw[ht];show qn T w c ti.agg [lB (dU p 0) (Ij y)] _;rw[uC];obtain⟨u,sA,ha⟩:=cell [y] [v] hc c hK p 0 _ rfl;cases sA;exact ha
 ·cases hp
theorem Xe(hE:eH P T){n:aF}{sp:aF->aX}{hd:aX}{base:aF}:∀{ts:aA aF} {vs:aA bk} {ds:aA (DataW H)} {ps:aA MemPlace},ts.all (PX P T n)=ai->
  Er enc P w 0 sp hd ts vs ds ps->(∀(j:aF) t v,ts[j]? =ah t->vs[j]? =ah v->sg P w .any base t v)->(∀m∈m_ P ts ds,m<=reachBytes)->
  ∃se,o9 T ts se/\vs.length=(n_ T ts se).length/\ds.length=ts.length/\∀c:e_,(∀b,Dz w b->c.K b)->∀(q p:aF) (x:fy),(n_ T ts se)[p]? =ah x->∃v,vs[p]? =ah v/\jk T w c (tH (q+p) x) v:=by
 intro ts;induction ts with
 |nil=>intro vs ds ps _ h _ _;obtain⟨rfl,rfl,rfl⟩:=trodAll_nil h;exact⟨[],trivial,rfl,rfl,λc _ q p x h=>by simp[n_]at h⟩
 |cons t ts ih=>
  intro vs ds ps hp h cg hw;simp only[s7,aL]at hp;obtain⟨v,vs,d,ds,p,q,rfl,rfl,rfl,h0,r0⟩:=trodAll_cons h;obtain⟨ys,y1,y2,y3⟩:=aeF hE hp.1 (cg 0 t v rfl rfl) h0 (λm hm=>hw m (by simp only[m_,ba];exact .inl hm));obtain⟨se,z1,z2,z4,z3⟩:=ih hp.2 r0 (λj t v hj hv=>cg (j+1) t v hj hv) (λm hm=>hw m (by simp only[m_,ba];exact .inr hm));refine⟨ys::se,⟨y1,y2,z1⟩,by simp[n_,z2],by simp[z4],λc hK q p x hx=> ?_⟩
  cases p with
  |zero=>cases hx;exact⟨v,rfl,y3 c hK q⟩
  |succ p=>obtain⟨v',h1,h2⟩:=z3 c hK (q+1) p x hx;exact⟨v',h1,by rw[show q+(p+1)=q+1+p by omega];exact h2⟩
theorem nS{m:aF}{ob:Obj}:∀{ts:aA aF} {se:aA (aA CV)},inj (n_ T ts se) (c9 m)≠ .o ob:=by
 intro ts se h;obtain⟨p,a,h0,hh⟩:=Bt h;have:∀(ts:aA aF) (se:aA (aA CV)) (p:aF) (a:fy),(n_ T ts se)[p]? =ah a->∃(g:aX) (ys:aA CV),a= .v g (ys.map Ij):=by
  intro ts;induction ts with
  |nil=>intro se p a h;simp[n_]at h
  |cons t ts ih=>
   intro se p a h;cases se with
   |nil=>simp[n_]at h
   |cons ys se=>
    cases p with
    |zero=>cases h;exact⟨_,ys,rfl⟩
    |succ p=>exact ih se p a h
 obtain⟨g,ys,rfl⟩:=this _ _ _ _ h0;rcases hh with ⟨xs,h1,_⟩|⟨xs,j,e,ex,zs,h1,h2,_⟩
 ·cases h1
 ·have h1:ys.map Ij=xs:=by rcases h1 with ⟨g',h1⟩|h1<;>cases h1;rfl
  subst h1;rw[bK]at h2;cases hy:ys[j]? with
  |none=>rw[hy]at h2;cases h2
  |some y=>rw[hy]at h2;cases y<;>cases h2
theorem HE(hl:laidOutB P=ai){W':bL}(hb:Below w.heap.size w W'){n:aF}:∀{ts:aA aF} {vs:aA bk} {ds:aA (DataW H)} {ps:aA MemPlace},ts.all (PX P T n)=ai->Er enc P w 0 (λ_=>ai) ai ts vs ds ps->(∀x∈ps,x.block<w.heap.size)->
  Er enc P W' 0 (λb=>decide (b<w.heap.size)) ai ts vs ds ps:=by
 intro ts;induction ts with
 |nil=>intro vs ds ps _ h _;obtain⟨rfl,rfl,rfl⟩:=trodAll_nil h;exact h
 |cons t ts ih=>
  intro vs ds ps hp h jB;simp only[s7,aL]at hp;obtain⟨v,vs,d,ds,p,q,rfl,rfl,rfl,h0,r0⟩:=trodAll_cons h;have Pz:=hp.1;unfold PX at Pz;split at Pz
  ·simp only[aL]at Pz;exact⟨p,q,Below.trod hl Pz.1.2 (by simpa using Pz.2) h0 hb (λx hx=>jB x (bM _ hx)),ih hp.2 r0 (λx hx=>jB x (bN _ hx)),rfl⟩
  ·cases Pz
end
theorem Hf{H:Type}{enc:TypeId×bk->H}{C:Checked}{T:Tab}(hE:eH C.prog T)(hl:laidOutB C.prog=ai){g tb n:aF}{fn:Func}{spec:aA fy->az (aX×dB)}(hF:ca C.prog T g spec){s:ChangeSpec}
  (aji:fn.params.toList.all (PX C.prog T n)=ai) (ash:fn.resultTypes= #[tb]) (htb:C.prog.underlying tb=ah .bool) (S5:s.vars=[])
  (hfn:∀ds:aA (DataW H),ds.length=fn.params.toList.length->s.fn H ds={results:=[.lit (.bool ai)],args:=ds})
  (claim:∀se,o9 T fn.params.toList se->spec (n_ T fn.params.toList se)=ah (ai,⟨[.v ak [.b ai]],[]⟩))
  (W:bL) (base:aF) (args:dv bk) (ds gs:aA (DataW H)) (before:aA MemPlace)
  (hval:∀(j:aF) t v,fn.params[j]? =ah t->args[j]? =ah v->sg C.prog W .any base t v)
  (hW:DataW.Whole enc C.prog fn.params.toList s.vars ak W args.toList ds gs before)
  (gi:(m_ C.prog (fn.params.toList++s.plain.varTypes C.prog) (ds++gs)).all (·<=reachBytes)=ai):
  Calls C.prog g args W λe W'=>∃v,e= .returned v/\s.post enc C.prog fn ak ai ak ak W args v W':=by
 have hW':=hW;obtain⟨p,q,hA,hV,rfl,hfz,Je⟩:=hW;have jB:=hW'.lt;rw[S5]at hV;have hgs:gs=[]/\q=[]:=by
  cases gs with
  |nil=>exact⟨rfl,hV⟩
  |cons=>exact hV.elim
 obtain⟨rfl,rfl⟩:=hgs;have hw:∀m∈m_ C.prog fn.params.toList ds,m<=reachBytes:=by
  intro m hm;rw[dp]at gi;have e:s.plain.varTypes C.prog=[]:=by unfold DataSpec.varTypes ChangeSpec.plain;simp[S5]
  rw[e,dp]at gi;have:=bu.1 gi m hm;simpa using this
 obtain⟨se,XY,hlen,hdl,sq⟩:=Xe hE aji hA (λj t v hj hv=>hval j t v (by simpa using hj) (by simpa using hv)) hw;let nl:Pl:=⟨ai,0,0,0,0,0⟩
 let c1:e_:=⟨λ_=>nl,λ_ _ _=>nl,Dz W⟩
 have cg:Ok T (inj (n_ T fn.params.toList se)) W c1:=⟨λnm o h=>cK h nS,λnm o xO o' b h=>cK h nS,λnm o b h=>cK h nS,λb hb=>hb,λnm xs h=>cK h nS⟩
 obtain⟨_,hc⟩:=hF _ _ (claim se XY) W c1 args cg (by rw[<-hlen];simp) (λp x hx=>by obtain⟨v,h1,h2⟩:=sq c1 (λ_ h=>h) 0 p x hx;rw[bV]at h2;exact⟨v,by simpa using h1,h2⟩);refine hc.mono λe W' hR=> ?_;cases e with
 |panicked=>exact hR.elim
 |outgrown=>exact hR.elim
 |returned v=>
  obtain⟨c3,_,yG,_,yH⟩:=hR;have hv:v= .bool true:=yH;subst hv;have hb:Below W.heap.size W W':=⟨yG.os,yG.tape,yG.output,yG.size,λk hk=>yG.same k hk (λ⟨nm,o,h,_⟩=>nS h)⟩
  have S3:=hfn ds hdl;refine⟨_,rfl,ds,[],_,[],p,[],hW', ?_, ?_, ?_,hb.frame _,λh=>by cases h⟩
  ·rw[dp,S3,ash];exact trodAll_mk1 (shut_bool htb _)
  ·rw[dp,S3];exact HE hl hb aji hA (λx hx=>jB x (bM _ hx))
  ·rw[dp,S3,S5];rfl
end Go.FG

namespace Go.FG
def gQ(s:aq)(i:aF):aF:=(s.data.getD i 0).toNat
abbrev bJ(x:aw):aw:=ao.wrap x
inductive gL where
 |I (n:aw)|B (x:aX)|S (x:aq)|R (xs:aQ)|N (n:aF)
def gI:aA gL->aw| .I n::_=>n|_=>0
def gB:aA gL->aX| .B n::_=>n|_=>ak
def gS:aA gL->aq| .S n::_=>n|_=>⟨#[]⟩
def gR:aA gL->aQ| .R n::_=>n|_=>[]
def gN:aA gL->aF| .N n::_=>n|_=>0
def hCV:CV->aA gL
 | .i _ n=>[.I n]| .b x=>[.B x]| .s x=>[.S x]| .l _ xs=>[.R xs]
def sCV:CV->CV->aX
 | .i k _, .i k' _=>decide (k=k')| .b _, .b _=>ai| .s _, .s _=>ai| .l e _, .l e' _=>bD e e'|_,_=>ak
def fCV(s:CV)(l:aA gL):CV×aA gL:=
 match s with
 | .i k _=>(.i k (gI l),l.tail)| .b _=>(.b (gB l),l.tail)| .s _=>(.s (gS l),l.tail)| .l e _=>(.l e (gR l),l.tail)
def I6:aA CV->aA gL|[]=>[]|a::r=>hCV a++I6 r
def Hy:aA CV->aA CV->aX|[],[]=>ai|a::r,b::t=>sCV a b&&Hy r t|_,_=>ak
def zv:aA CV->aA gL->aA CV×aA gL
 |[],l=>([],l)|a::r,l=>((fCV a l).1::(zv r (fCV a l).2).1,(zv r (fCV a l).2).2)
def E1:aA (aA CV)->aA gL|[]=>[]|a::r=>I6 a++E1 r
def Fu:aA (aA CV)->aA (aA CV)->aX|[],[]=>ai|a::r,b::t=>Hy a b&&Fu r t|_,_=>ak
def Af:aA (aA CV)->aA gL->aA (aA CV)×aA gL
 |[],l=>([],l)|a::r,l=>((zv a l).1::(Af r (zv a l).2).1,(Af r (zv a l).2).2)
theorem aeX{s a:CV}(h:sCV s a=ai)(l:aA gL):fCV s (hCV a++l)=(a,l):=by
 cases s<;>cases a<;>simp only[sCV,bf,dy,Nat.beq_eq]at h<;>first|exact h.elim|skip
 all_goals first|(subst h;rfl)|rfl
theorem xB:∀{s a:aA CV},Hy s a=ai->∀l,zv s (I6 a++l)=(a,l)
 |[],[],_,l=>rfl
 |s::ss,a::as,h,l=>by
  simp only[Hy,aL]at h;simp only[zv,I6,cB,aeX h.1,xB h.2]
 |[],_::_,h,_=>by cases h
 |_::_,[],h,_=>by cases h
theorem Cj:∀{s a:aA (aA CV)},Fu s a=ai->∀l,Af s (E1 a++l)=(a,l)
 |[],[],_,l=>rfl
 |s::ss,a::as,h,l=>by
  simp only[Fu,aL]at h;simp only[Af,E1,cB,xB h.1,Cj h.2]
 |[],_::_,h,_=>by cases h
 |_::_,[],h,_=>by cases h
def hAV:AV->aA gL
 | .i _ n=>[.I n]| .b x=>[.B x]| .s x=>[.S x]| .sh _ xs=>[.R xs]| .vw _ lo hi=>[.N lo, .N hi]| .rp _ i _=>[.N i]
 | .sp _ xs i _=>[.R xs, .N i]| .inn _ i _=>[.N i]| .ip _ i _ i2 _=>[.N i, .N i2]| .fn _ iX=>E1 iX| .fp xs _=>I6 xs|_=>[]
def ZI:AV->AV->aX
 | .i k _, .i k' _=>decide (k=k')| .b _, .b _=>ai| .s _, .s _=>ai| .sh e _, .sh e' _=>bD e e'| .nl, .nl=>ai
 | .own n, .own n'=>bD n n'| .vw n _ _, .vw n' _ _=>bD n n'| .bp n j, .bp n' j'=>bD n n'&&bD j j'| .rp n _ j, .rp n' _ j'=>bD n n'&&bD j j'
 | .sp e _ _ j, .sp e' _ _ j'=>bD e e'&&bD j j'| .inn n _ j, .inn n' _ j'=>bD n n'&&bD j j'
 | .ip n _ j _ q, .ip n' _ j' _ q'=>bD n n'&&bD j j'&&bD q q'| .fn f c, .fn f' c'=>bD f f'&&Fu c c'| .fp c j, .fp c' j'=>bD j j'&&Hy c c'
 |_,_=>ak
def fAV(s:AV)(l:aA gL):AV×aA gL:=
 match s with
 | .i k _=>(.i k (gI l),l.tail)| .b _=>(.b (gB l),l.tail)| .s _=>(.s (gS l),l.tail)| .sh e _=>(.sh e (gR l),l.tail)
 | .vw n _ _=>(.vw n (gN l) (gN l.tail),l.tail.tail)| .rp n _ j=>(.rp n (gN l) j,l.tail)| .sp e _ _ j=>(.sp e (gR l) (gN l.tail) j,l.tail.tail)
 | .inn n _ j=>(.inn n (gN l) j,l.tail)| .ip n _ j _ q=>(.ip n (gN l) j (gN l.tail) q,l.tail.tail)| .fn f c=>(.fn f (Af c l).1,(Af c l).2)| .fp c j=>(.fp (zv c l).1 j,(zv c l).2)
 |a=>(a,l)
def Pj:aA AV->aA gL|[]=>[]|a::r=>hAV a++Pj r
def LO:aA AV->aA AV->aX|[],[]=>ai|a::r,b::t=>ZI a b&&LO r t|_,_=>ak
def Ci:aA AV->aA gL->aA AV×aA gL
 |[],l=>([],l)|a::r,l=>((fAV a l).1::(Ci r (fAV a l).2).1,(Ci r (fAV a l).2).2)
def Xu(a b:aX):aX:=bif a then b else !b
def XG:aA (aX×aA AV)->aA gL|[]=>[]|(_,xs)::r=>Pj xs++XG r
def U5:aA (aX×aA AV)->aA (aX×aA AV)->aX
 |[],[]=>ai|(g,xs)::r,(g',ys)::t=>Xu g g'&&LO xs ys&&U5 r t|_,_=>ak
def O8:aA (aX×aA AV)->aA gL->aA (aX×aA AV)×aA gL
 |[],l=>([],l)|(g,xs)::r,l=>((g,(Ci xs l).1)::(O8 r (Ci xs l).2).1,(O8 r (Ci xs l).2).2)
def Pm:eU->aA gL
 | .v (.v _ xs)=>Pj xs| .v (.kj l)=>XG l| .o (.box xs)=>Pj xs| .o (.oa cs)=>I6 cs| .o (.row _ _ xs)=>[.R xs]| .o (.fU _ xs)=>[.R xs]|_=>[]
def ZK:eU->eU->aX
 | .v (.v g xs), .v (.v g' ys)=>Xu g g'&&LO xs ys| .v (.kj l), .v (.kj r)=>U5 l r| .v .un, .v .un=>ai
 | .o (.box xs), .o (.box ys)=>LO xs ys| .o (.oa c), .o (.oa c')=>Hy c c'| .o (.row e x _), .o (.row e' x' _)=>bD e e'&&Xu x x'| .o (.fU e _), .o (.fU e' _)=>bD e e'
 | .o .dead, .o .dead=>ai| .j8, .j8=>ai|_,_=>ak
def KQ(c:eU)(l:aA gL):eU×aA gL:=
 match c with
 | .v (.v g xs)=>(.v (.v g (Ci xs l).1),(Ci xs l).2)| .v (.kj r)=>(.v (.kj (O8 r l).1),(O8 r l).2)
 | .o (.box xs)=>(.o (.box (Ci xs l).1),(Ci xs l).2)| .o (.oa c)=>(.o (.oa (zv c l).1),(zv c l).2)| .o (.row e x _)=>(.o (.row e x (gR l)),l.tail)| .o (.fU e _)=>(.o (.fU e (gR l)),l.tail)
 |c=>(c,l)
def Jg:aA (aF×eU)->aA gL|[]=>[]|(_,c)::r=>Pm c++Jg r
def zP:aA (aF×eU)->aA (aF×eU)->aX
 |[],[]=>ai|(k,c)::r,(k',c')::t=>bD k k'&&ZK c c'&&zP r t|_,_=>ak
def Nj:aA (aF×eU)->aA gL->aA (aF×eU)
 |[],_=>[]|(k,c)::r,l=>(k,(KQ c l).1)::Nj r (KQ c l).2
theorem Cf{a b:aX}(h:Xu a b=ai):a=b:=by cases a<;>cases b<;>first|rfl|cases h
theorem aeW{s a:AV}(h:ZI s a=ai)(l:aA gL):fAV s (hAV a++l)=(a,l):=by
 match s,a,h with
 | .fn f c, .fn f' c',h=>simp only[ZI,aL]at h;have h1:=aU h.1;subst h1;simp only[fAV,hAV,Cj h.2]
 | .fp c j, .fp c' j',h=>simp only[ZI,aL]at h;have h1:=aU h.1;subst h1;simp only[fAV,hAV,xB h.2]
 | .i k _, .i k' _,h=>have h1:=cu (show decide (k=k')=ai from h);subst h1;rfl
 | .b _, .b _,_=>rfl
 | .s _, .s _,_=>rfl
 | .sh e _, .sh e' _,h=>have h1:=aU (show bD e e'=ai from h);subst h1;rfl
 | .nl, .nl,_=>rfl
 | .own n, .own n',h=>have h1:=aU (show bD n n'=ai from h);subst h1;rfl
 | .vw n _ _, .vw n' _ _,h=>have h1:=aU (show bD n n'=ai from h);subst h1;rfl
 | .bp n j, .bp n' j',h=>simp only[ZI,aL]at h;have h1:=aU h.1;have h2:=aU h.2;subst h1;subst h2;rfl
 | .rp n _ j, .rp n' _ j',h=>simp only[ZI,aL]at h;have h1:=aU h.1;have h2:=aU h.2;subst h1;subst h2;rfl
 | .sp n _ _ j, .sp n' _ _ j',h=>simp only[ZI,aL]at h;have h1:=aU h.1;have h2:=aU h.2;subst h1;subst h2;rfl
 | .inn n _ j, .inn n' _ j',h=>simp only[ZI,aL]at h;have h1:=aU h.1;have h2:=aU h.2;subst h1;subst h2;rfl
 | .ip n _ j _ q, .ip n' _ j' _ q',h=>simp only[ZI,aL]at h;have h1:=aU h.1.1;have h2:=aU h.1.2;have h3:=aU h.2;subst h1;subst h2;subst h3;rfl
theorem Bn:∀{s a:aA AV},LO s a=ai->∀l,Ci s (Pj a++l)=(a,l)
 |[],[],_,l=>rfl
 |s::ss,a::as,h,l=>by
  simp only[LO,aL]at h;simp only[Ci,Pj,cB,aeW h.1,Bn h.2]
 |[],_::_,h,_=>by cases h
 |_::_,[],h,_=>by cases h
theorem Ng:∀{s a:aA (aX×aA AV)},U5 s a=ai->∀l,O8 s (XG a++l)=(a,l)
 |[],[],_,l=>rfl
 |(g,xs)::ss,(g',ys)::as,h,l=>by
  simp only[U5,aL]at h;obtain⟨⟨h1,h2⟩,h3⟩:=h;have h1:=Cf h1;subst h1;simp only[O8,XG,cB,Bn h2,Ng h3]
 |[],_::_,h,_=>by cases h
 |_::_,[],h,_=>by cases h
theorem Xz{s c:eU}(h:ZK s c=ai)(l:aA gL):KQ s (Pm c++l)=(c,l):=by
 match s,c,h with
 | .v (.v g xs), .v (.v g' ys),h=>simp only[ZK,aL]at h;have h1:=Cf h.1;subst h1;simp only[KQ,Pm,Bn h.2]
 | .v (.kj r), .v (.kj r'),h=>simp only[KQ,Pm,Ng (show U5 r r'=ai from h)]
 | .v .un, .v .un,_=>rfl
 | .o (.box xs), .o (.box ys),h=>simp only[KQ,Pm,Bn (show LO xs ys=ai from h)]
 | .o (.oa c), .o (.oa c'),h=>simp only[KQ,Pm,xB (show Hy c c'=ai from h)]
 | .o (.row e x _), .o (.row e' x' _),h=>simp only[ZK,aL]at h;have h1:=Cf h.2;have h2:=aU h.1;subst h1;subst h2;rfl
 | .o (.fU e _), .o (.fU e' _),h=>have h2:=aU h;subst h2;rfl
 | .o .dead, .o .dead,_=>rfl
 | .j8, .j8,_=>rfl
theorem IU:∀{S L:aA (aF×eU)},zP S L=ai->Nj S (Jg L)=L
 |[],[],_=>rfl
 |(k,s)::S,(k',c)::L,h=>by
  simp only[zP,aL]at h;obtain⟨⟨h1,h2⟩,h3⟩:=h;have h1:=aU h1;subst h1;simp only[Nj,Jg,Xz h2,IU h3]
 |[],_::_,h=>by cases h
 |_::_,[],h=>by cases h
def tell{R:Type}(S:aA (aF×eU))(H:aA gL->az R)(L:aA (aF×eU))(other:az R):az R:=bif zP S L then H (Jg L)else other
def Tx:aA (aF×aA aF)->aF->aA aF
 |[],_=>[]|(k,l)::r,n=>bif bD n k then l else Tx r n
def alA:aA (aF×aF×Om)->aF->aF->Om
 |[],_,_=> .nat|(q,j,o)::r,n,m=>bif bD n q&&bD m j then o else alA r n m
def TV:aA (aF×aF)->aF->aF->aX
 |[],_,_=>ak|(f,p)::r,n,m=>(bD n f&&bD m p)||TV r n m
def alF:aA (aF×aF)->aF->az aF
 |[],_=>aj|(k,e)::r,n=>bif bD n k then ah e else alF r n
theorem bB{p:Code->Prop}:∀c∈([]:aA Code),p c:=λc h=>by cases h
theorem bn{p:Code->Prop}{c:Code}{l:aA Code}(h:p c)(hl:∀d∈l,p d):∀d∈c::l,p d:=λd hd=>by
 rcases cC.1 hd with rfl|hd
 ·exact h
 ·exact hl d hd
def qo:aA (aF×(aA fy->az (aX×dB)))->aF->aA fy->az (aX×dB)
 |[],_,_=>aj
 |(k,s)::r,g,a=>bif bD g k then(match s a with|some x=>ah x|none=>qo r g a)else qo r g a
theorem aY{P:c6}{T:Tab}:∀g,ca P T g (qo [] g):=λg=>O_ λ_=>rfl
theorem aG{P:c6}{T:Tab}{k:aF}{s:aA fy->az (aX×dB)}{L:aA (aF×(aA fy->az (aX×dB)))}(h:ca P T k s)(hl:∀g,ca P T g (qo L g)):∀g,ca P T g (qo ((k,s)::L) g):=by
 intro g;cases hb:bD g k with
 |true=>
  have:=aU hb;subst this;intro args r hr;unfold qo at hr;rw[hb,au]at hr;cases hs:s args with
  |some x=>rw[hs]at hr;exact h args r (hs.trans hr)
  |none=>rw[hs]at hr;exact hl g args r hr
 |false=>
  have e:qo ((k,s)::L) g=qo L g:=by funext a;simp only[qo,hb,ax]
  rw[e];exact hl g
def Wz(T:Tab)(md:aA (aF×aF))(cs:aA (aF×(aA fy->az (aX×dB))))(ks:aA (aF×aA aF))(tk:aA aF)(om:aA (aF×aF×Om)):fS:={toTab:=T,call:=qo cs,mode:=TV md,keep:=Tx ks,tk:=λn=>mK n tk,om:=alA om}
end Go.FG

namespace Go.FG
theorem L6{T:Tab}{t:aF}{ts:aA aF}{se:aA (aA CV)}(h:o9 T (t::ts) se):∃ys amw,se=ys::amw/\(∃ti,T.ty t=ah ti/\ys.map CV.kd=ti.ks)/\(∀y∈ys,ru T y)/\o9 T ts amw:=by
 cases se with
 |nil=>exact h.elim
 |cons ys se=>exact⟨ys,se,rfl,h.1,h.2.1,h.2.2⟩
theorem Qh{T:Tab}{se:aA (aA CV)}(h:o9 T [] se):se=[]:=by
 cases se with
 |nil=>rfl
 |cons=>exact h.elim
theorem Yb{T:Tab}{k:Ck}{ks:aA Ck}{ys:aA CV}(h:ys.map CV.kd=k::ks)(hf:∀y∈ys,ru T y):∃y Dy,ys=y::Dy/\y.kd=k/\ru T y/\Dy.map CV.kd=ks/\∀y∈Dy,ru T y:=by
 cases ys with
 |nil=>cases h
 |cons y ys=>rw[fE,List.cons.injEq]at h;exact⟨y,ys,rfl,h.1,hf y (dr ..),h.2,λz hz=>hf z (c8 _ hz)⟩
theorem afF{ys:aA CV}(h:ys.map CV.kd=[]):ys=[]:=by simpa using h
theorem auM{T:Tab}{e:aF}{y:CV}(h:y.kd= .l e)(hf:ru T y):∃xs,y= .l e xs/\ru T (.l e xs):=by cases y<;>simp[CV.kd]at h;subst h;exact⟨_,rfl,hf⟩
theorem iI{x:aw}(h1: -9223372036854775808<=x)(h2:x<=9223372036854775807):bJ x=x:=by
 have e:bJ x=if(decide (x%18446744073709551616≥9223372036854775808))=ai then x%18446744073709551616-18446744073709551616 else x%18446744073709551616:=rfl
 rw[e];by_cases h:x%18446744073709551616≥9223372036854775808
 ·rw[bz (aE h)];omega
 ·rw[bH (by simpa using h)];omega
end Go.FG

namespace Go.FG
inductive Ho where|I|B|S|R|N
abbrev den:Ho->Type
 | .I=>aw| .B=>aX| .S=>aq| .R=>aQ| .N=>aF
abbrev Fn:aA Ho->Type->Type
 |[],A=>A|h::s,A=>den h->Fn s A
abbrev Tu:aA Ho->Type
 |[]=>Unit|h::s=>den h×Tu s
abbrev Pr:aA Ho->Type
 |[]=>Unit|[h]=>den h|h::s=>den h×Pr s
def df:(h:Ho)->den h
 | .I=>(0:aw)| .B=>ak| .S=>(⟨#[]⟩:aq)| .R=>([]:aQ)| .N=>(0:aF)
def lf:(h:Ho)->den h->gL
 | .I,x=> .I x| .B,x=> .B x| .S,x=> .S x| .R,x=> .R x| .N,x=> .N x
def ap{A:Type}:(s:aA Ho)->Fn s A->Tu s->A
 |[],f,_=>f|_::s,f,x=>ap s (f x.1) x.2
def cmp{A B:Type}:(s:aA Ho)->Fn s A->(A->B)->Fn s B
 |[],f,g=>g f|_::s,f,g=>λy=>cmp s (f y) g
def M_{A:Type}:(s:aA Ho)->Fn s A->A
 |[],f=>f|h::s,f=>M_ s (f (df h))
def lv:(s:aA Ho)->Tu s->aA gL
 |[],_=>[]|h::s,x=>lf h x.1::lv s x.2
def Xb{A:Type}:(s:aA Ho)->Fn s (az A)->aA gL->az A
 |[],f,[]=>f
 | .I::s,f, .I x::l=>Xb s (f x) l| .B::s,f, .B x::l=>Xb s (f x) l| .S::s,f, .S x::l=>Xb s (f x) l
 | .R::s,f, .R x::l=>Xb s (f x) l| .N::s,f, .N x::l=>Xb s (f x) l
 |_,_,_=>aj
def kj:(s:aA Ho)->Fn s (Pr s)
 |[]=>()|[_]=>λx=>x|_::h::s=>λx=>cmp (h::s) (kj (h::s)) λp=>(x,p)
def apP{A:Type}:(s:aA Ho)->Fn s A->Pr s->A
 |[],f,_=>f|[_],f,p=>f p|_::h::s,f,p=>apP (h::s) (f p.1) p.2
theorem B3{A:Type}{s:aA Ho}{f:Fn s (az A)}{l:aA gL}{a:A}(h:Xb s f l=ah a):∃x,l=lv s x/\ap s f x=ah a:=by
 induction s generalizing l with
 |nil=>cases l with
  |nil=>exact⟨(),rfl,h⟩
  |cons=>cases h
 |cons k s ih=>
  cases l with
  |nil=>cases k<;>cases h
  |cons y l=>cases k<;>cases y<;>first|(obtain⟨x,rfl,hx⟩:=ih h;exact⟨(_,x),rfl,hx⟩)|cases h
theorem B4{A B:Type}{s:aA Ho}(f:Fn s A)(g:A->B)(x:Tu s):ap s (cmp s f g) x=g (ap s f x):=by
 induction s with
 |nil=>rfl
 |cons k s ih=>exact ih _ _
theorem aeC{A:Type}{s:aA Ho}{f g:Fn s A}(h:∀x,ap s f x=ap s g x):f=g:=by
 induction s with
 |nil=>exact h ()
 |cons k s ih=>exact funext λy=>ih λx=>h (y,x)
theorem Xc{A:Type}{s:aA Ho}(f:Fn s A)(x:Tu s):apP s f (ap s (kj s) x)=ap s f x:=by
 induction s with
 |nil=>rfl
 |cons k s ih=>
  cases s with
  |nil=>rfl
  |cons h s=>exact(lN (apP (k::h::s) f) (B4 ..)).trans (ih ..)
def hAA:AA->aA gL
 | .i _ n=>[.I n]| .b x=>[.B x]| .s x=>[.S x]| .sh _ xs=>[.R xs]| .ow _ _ xs=>[.R xs]| .kp xs=>[.R xs]| .fn _ c=>E1 c| .nl=>[]
def sAA:AA->AA->aX
 | .i k _, .i k' _=>decide (k=k')| .b _, .b _=>ai| .s _, .s _=>ai| .sh e _, .sh e' _=>bD e e'| .ow e x _, .ow e' x' _=>bD e e'&&Xu x x'
 | .kp _, .kp _=>ai| .fn f c, .fn f' c'=>bD f f'&&Fu c c'| .nl, .nl=>ai|_,_=>ak
def fAA(s:AA)(l:aA gL):AA×aA gL:=
 match s with
 | .i k _=>(.i k (gI l),l.tail)| .b _=>(.b (gB l),l.tail)| .s _=>(.s (gS l),l.tail)| .sh e _=>(.sh e (gR l),l.tail)| .ow e x _=>(.ow e x (gR l),l.tail)
 | .kp _=>(.kp (gR l),l.tail)| .fn f c=>(.fn f (Af c l).1,(Af c l).2)| .nl=>(.nl,l)
def KZ:aA AA->aA gL|[]=>[]|a::r=>hAA a++KZ r
def LN:aA AA->aA AA->aX|[],[]=>ai|a::r,b::t=>sAA a b&&LN r t|_,_=>ak
def IP:aA AA->aA gL->aA AA×aA gL
 |[],l=>([],l)|a::r,l=>((fAA a l).1::(IP r (fAA a l).2).1,(IP r (fAA a l).2).2)
def K2:fy->aA gL
 | .v _ xs=>KZ xs| .pt xs=>KZ xs| .fb xs=>I6 xs
def Qb:fy->fy->aX
 | .v g xs, .v g' ys=>Xu g g'&&LN xs ys| .pt xs, .pt ys=>LN xs ys| .fb xs, .fb ys=>Hy xs ys|_,_=>ak
def KP(s:fy)(l:aA gL):fy×aA gL:=
 match s with
 | .v g xs=>(.v g (IP xs l).1,(IP xs l).2)| .pt xs=>(.pt (IP xs l).1,(IP xs l).2)| .fb xs=>(.fb (zv xs l).1,(zv xs l).2)
def hAr:aA fy->aA gL|[]=>[]|a::r=>K2 a++hAr r
def ZJ:aA fy->aA fy->aX|[],[]=>ai|a::r,b::t=>Qb a b&&ZJ r t|_,_=>ak
def Xx:aA fy->aA gL->aA fy×aA gL
 |[],l=>([],l)|a::r,l=>((KP a l).1::(Xx r (KP a l).2).1,(Xx r (KP a l).2).2)
def JE(l:aA (aA AA)):aA fy:=l.map (.v ai)
theorem aeV{s a:AA}(h:sAA s a=ai)(l:aA gL):fAA s (hAA a++l)=(a,l):=by
 cases s<;>cases a<;>simp only[sAA,bf,dy,Nat.beq_eq,aL]at h<;>first|exact h.elim|skip
 all_goals first|rfl|(subst h;rfl)|(obtain⟨rfl,h⟩:=h;first|(obtain rfl:=Cf h;rfl)|(simp only[fAA,hAA,Cj h]))
theorem GU:∀{s a:aA AA},LN s a=ai->∀l,IP s (KZ a++l)=(a,l)
 |[],[],_,l=>rfl
 |s::ss,a::as,h,l=>by
  simp only[LN,aL]at h;simp only[IP,KZ,cB,aeV h.1,GU h.2]
theorem Xy{s a:fy}(h:Qb s a=ai)(l:aA gL):KP s (K2 a++l)=(a,l):=by
 cases s<;>cases a<;>simp only[Qb,dy,aL]at h
 ·obtain⟨h1,h⟩:=h;obtain rfl:=Cf h1;simp only[KP,K2,GU h]
 ·simp only[KP,K2,GU h]
 ·simp only[KP,K2,xB h]
theorem KO:∀{s a:aA fy},ZJ s a=ai->∀l,Xx s (hAr a++l)=(a,l)
 |[],[],_,l=>rfl
 |s::ss,a::as,h,l=>by
  simp only[ZJ,aL]at h;simp only[Xx,hAr,cB,Xy h.1,KO h.2]
theorem SA{s a:aA fy}(h:ZJ s a=ai):(Xx s (hAr a)).1=a:=by have:=KO h [];rw[dp]at this;rw[this]
def xAA{B:Type}(s a:AA)(k:aA gL->az B):az B:=
 match s,a with
 | .i k1 _, .i k2 n=>bif decide (k1=k2)then k [.I n]else aj
 | .b _, .b n=>k [.B n]
 | .s _, .s n=>k [.S n]
 | .sh e _, .sh e' n=>bif bD e e' then k [.R n]else aj
 | .ow e x _, .ow e' x' n=>bif bD e e'&&Xu x x' then k [.R n]else aj
 | .kp _, .kp n=>k [.R n]
 | .fn f c, .fn f' c'=>bif bD f f'&&Fu c c' then k (E1 c')else aj
 | .nl, .nl=>k []
 |_,_=>aj
def V3{B:Type}:aA AA->aA AA->(aA gL->az B)->az B
 |[],[],k=>k []|s::ss,a::as,k=>xAA s a λl=>V3 ss as λr=>k (l++r)|_,_,_=>aj
def agY{B:Type}(s a:fy)(k:aA gL->az B):az B:=
 match s,a with
 | .v g xs, .v g' ys=>bif Xu g g' then V3 xs ys k else aj
 | .pt xs, .pt ys=>V3 xs ys k
 | .fb xs, .fb ys=>bif Hy xs ys then k (I6 ys)else aj
 |_,_=>aj
def xAr{B:Type}:aA fy->aA fy->(aA gL->az B)->az B
 |[],[],k=>k []|s::ss,a::as,k=>agY s a λl=>xAr ss as λr=>k (l++r)|_,_,_=>aj
theorem agX{B:Type}(s a:AA)(k:aA gL->az B):xAA s a k=bif sAA s a then k (hAA a)else none:=by cases s<;>cases a<;>rfl
theorem Oy{B:Type}:∀(s a:aA AA) (k:aA gL->az B),V3 s a k=bif LN s a then k (KZ a)else aj
 |[],[],_=>rfl
 |s::ss,a::as,k=>by
  simp only[V3,agX,Oy ss as,LN,KZ];cases sAA s a<;>rfl
 |[],_::_,_=>rfl
 |_::_,[],_=>rfl
theorem Z_{B:Type}(s a:fy)(k:aA gL->az B):agY s a k=bif Qb s a then k (K2 a)else none:=by
 cases s<;>cases a<;>simp only[agY,Qb,K2,Oy]<;>try rfl
 rename_i g xs g' ys;cases Xu g g'<;>rfl
theorem HI{B:Type}:∀(s a:aA fy) (k:aA gL->az B),xAr s a k=bif ZJ s a then k (hAr a)else aj
 |[],[],_=>rfl
 |s::ss,a::as,k=>by
  simp only[xAr,Z_,HI ss as,ZJ,hAr];cases Qb s a<;>rfl
 |[],_::_,_=>rfl
 |_::_,[],_=>rfl
def ad3{A:Type}(s:aA Ho)(T:Fn s (aA fy))(f:Fn s (az A))(a:aA fy):az A:=xAr (M_ s T) a (Xb s f)
def ag8(s t:aA Ho)(k:Fn t dB)(c:Fn s aX)(v:Fn s (Pr t)):Fn s (az (aX×dB)):=
 match s with
 |[]=>ah (c,apP t k v)
 |_::s=>λx=>ag8 s t k (c x) (v x)
theorem aae{s t:aA Ho}{k:Fn t dB}{c:Fn s aX}{v:Fn s (Pr t)}(x:Tu s):ap s (ag8 s t k c v) x=ah (ap s c x,apP t k (ap s v x)):=by
 induction s with
 |nil=>rfl
 |cons h s ih=>exact ih _
def dZ{s t:aA Ho}(A:Fn s (aA fy))(k:Fn t dB)(c:Fn s aX)(v:Fn s (Pr t)):aA fy->az (aX×dB):=ad3 s A (ag8 s t k c v)
def Xm{t:aA Ho}(k:Fn t dB)(r:dB):az (Pr t):=
 xAr (M_ t k).rs r.rs λl=>xAr (JE (M_ t k).outs) (JE r.outs) λm=>Xb t (cmp t (kj t) ah) (l++m)
def okA{s:aA Ho}(A:Fn s (aA fy)):Prop:=∀x,(Xx (M_ s A) (lv s x)).1=ap s A x
def okK{t:aA Ho}(k:Fn t dB):Prop:=∀x,(⟨(Xx (M_ t k).rs (lv t x)).1,(Xx (JE (M_ t k).outs) (Xx (M_ t k).rs (lv t x)).2).1⟩:aA fy×aA fy)=⟨(ap t k x).rs,JE (ap t k x).outs⟩
def okT{s:aA Ho}(T:Fn s (aA (aF×eU))):Prop:=∀x,Nj (M_ s T) (lv s x)=ap s T x
theorem JF:∀{a b:aA (aA AA)},JE a=JE b->a=b
 |[],[],_=>rfl
 |_::_,_::_,h=>by
  obtain⟨h1,h2⟩:=kC h;obtain⟨_,rfl⟩:=fy.v.inj h1;rw[JF h2]
 |[],_::_,h=>by cases h
 |_::_,[],h=>by cases h
theorem O3{t:aA Ho}{k:Fn t dB}(hk:okK k){r:dB}{p:Pr t}(h:Xm k r=ah p):r=apP t k p:=by
 unfold Xm at h;rw[HI]at h;cases hb:ZJ (M_ t k).rs r.rs with
 |false=>rw[hb]at h;cases h
 |true=>
  rw[hb,au,HI]at h;cases hc:ZJ (JE (M_ t k).outs) (JE r.outs)with
  |false=>rw[hc]at h;cases h
  |true=>rw[hc,au]at h;obtain⟨x,h1,h2⟩:=B3 h;rw[B4]at h2;obtain rfl:=aJ h2;rw[Xc];have hx:=hk x;rw[<-h1,KO hb,SA hc]at hx;obtain⟨e1,e2⟩:=bW hx;have e3:=JF e2;cases r;cases hr:ap t k x;rw[hr]at e1 e3;cases e1;cases e3;rfl
theorem JV{s t:aA Ho}{A:Fn s (aA fy)}(hA:okA A){k:Fn t dB}{c:Fn s aX}{v:Fn s (Pr t)}{args:aA fy}{r:aX×dB}(h:dZ A k c v args=ah r):∃x,args=ap s A x/\r=(ap s c x,apP t k (ap s v x)):=by
 unfold dZ ad3 at h;rw[HI]at h;cases hb:ZJ (M_ s A) args with
 |false=>rw[hb]at h;cases h
 |true=>rw[hb,au]at h;obtain⟨x,h1,h2⟩:=B3 h;rw[aae]at h2;exact⟨x,by rw[<-hA x,<-h1,SA hb],(aJ h2).symm⟩
def B8{t:aA Ho}(E:fS)(it:It (Pr t))(F:Func)(k:Fn t dB)(args:aA fy):az (Pr t):=
 match F.body with
 |some c=>tz E it c (inj args) λe σ=>(fin E F args e σ).bind (Xm k)
 |none=>aj
def IA(F:Func)(A:aA fy):aX:=
 (match F.body with|some c=> !(F.name== "runtime.NumGoroutine")&&tv F.ntmps c|none=>ak)&&zQ A&&fL A.length F.ntmps
theorem flh{P:c6}{E:fS}(hE:eH P E)(hm:P.follows .mixedOrders=ai)(hF:∀g,ca P E g (E.call g)){g:aF}{F:Func}(hf:P.funcs[g]? =ah F){s t:aA Ho}{A:Fn s (aA fy)}{k:Fn t dB}{it:aF->It (Pr t)}
  (hc:∀x,IA F (ap s A x)=ai) {l:aA Code} (hl:jY (F.body.getD .skip)=l) (Cx:∀N,∀c∈l,b_ E (it N) c) (hA:okA A) (hk:okK k)
  {c:Fn s aX} {v:Fn s (Pr t)} (h:∀x,xE (ap s A x)->ap s c x=ai->∃N,B8 E (it N) F k (ap s A x)=ah (ap s v x)):ca P E g (dZ A k c v):=by
 intro args r hr;obtain⟨x,rfl,_⟩:=JV hA hr;have hx:=hc x;unfold IA at hx;cases hb:F.body with
 |none=>rw[hb]at hx;cases hx
 |some code=>
  rw[hb]at hl hx;have hl:jY code=l:=hl;simp only[aL,dt]at hx;refine ae0 hE hF hm hf hb (by rw[hx.1.1.1,hx.1.1.2];rfl) (λargs r hr=> ?_) _ r hr;obtain⟨x,rfl,hq⟩:=JV hA hr;obtain⟨h1,rfl⟩:=bW hq;have hx:=hc x;unfold IA at hx;simp only[aL]at hx;refine⟨hx.1.2,λhf=> ?_⟩
  obtain⟨N,h⟩:=h x hf h1.symm;refine⟨cO hx.2,Pr t,it N,λe σ=>(fin E F (ap s A x) e σ).bind (Xm k),ap s v x,by rw[hl];exact Cx N, ?_,λe σ he=> ?_⟩
  ·unfold B8 at h;rw[hb]at h;exact h
  ·obtain⟨r,hr,hd⟩:=Option.bind_eq_some_iff.1 he;rw[hr,O3 hk hd]
theorem aeD{s t:aA Ho}{c:Fn s aX}{v:Fn s (Pr t)}{w:Fn s (az (Pr t))}{d:Pr t}(hc:cmp s w nI=c)(hv:cmp s w (λo=>o.getD d)=v)(x:Tu s)(h:ap s c x=ai):ap s w x=ah (ap s v x):=by
 subst hc hv;rw[B4]at h;rw[B4];cases hw:ap s w x with
 |none=>rw[hw]at h;cases h
 |some y=>rfl
theorem fl{P:c6}{E:fS}(hE:eH P E)(hm:P.follows .mixedOrders=ai)(hF:∀g,ca P E g (E.call g)){g:aF}{F:Func}(hf:P.funcs[g]? =ah F){s t:aA Ho}{A:Fn s (aA fy)}{k:Fn t dB}{it:aF->It (Pr t)}
  (hc:∀x,IA F (ap s A x)=ai) {l:aA Code} (hl:jY (F.body.getD .skip)=l) (Cx:∀N,∀c∈l,b_ E (it N) c) (hA:okA A) (hk:okK k)
  {c:Fn s aX} {v:Fn s (Pr t)} {w:aF->Fn s (az (Pr t))} {u:Fn s (az (Pr t))} {d:Pr t} (N:aF) (h:∀N x,B8 E (it N) F k (ap s A x)=ap s (w N) x) (hw:w N=u) (h1:cmp s u nI=c) (h2:cmp s u (λo=>o.getD d)=v):ca P E g (dZ A k c v):=
 flh hE hm hF hf hc hl Cx hA hk λx _ hx=>⟨N,(h N x).trans (by rw[hw];exact aeD h1 h2 x hx)⟩
def ct:(s:aA Ho)->Fn s aX
 |[]=>ai|_::s=>λ_=>ct s
abbrev Kt(R:Type):=Ex->St->az R
abbrev Tb:=aA (aF×eU)
def J{R:Type}{s:aA Ho}(T:Fn s Tb)(e:Ex)(K:Kt R):Fn s (az R):=cmp s T λt=>K e (fN t)
def al{R:Type}{s:aA Ho}(T:Fn s Tb)(f:Kt R->Fn s (az R))(o:Tb->Kt R->az R):Tb->Kt R->az R:=λL K=>bif zP (M_ s T) L then Xb s (f K) (Jg L)else o L K
def an{R:Type}:Tb->Kt R->az R:=λ_ _=>aj
def lp{R:Type}(n:aF)(a:Tb->Kt R->az R)(o:It R):It R:=λoi f cn L K=>bif bD oi n then a L K else o oi f cn L K
def ln{R:Type}:It R:=λ_ _ _ _ _=>aj
theorem W_{R:Type}{s:aA Ho}{T:Fn s Tb}(hT:okT T){f:Kt R->Fn s (az R)}{o:Tb->Kt R->az R}{L:Tb}{K:Kt R}{r:R}(h:al T f o L K=ah r):(∃x,L=ap s T x/\ap s (f K) x=ah r)\/o L K=ah r:=by
 unfold al at h;cases hb:zP (M_ s T) L with
 |false=>rw[hb]at h;exact .inr h
 |true=>rw[hb]at h;obtain⟨x,h1,h2⟩:=B3 h;exact .inl ⟨x,by rw[<-hT x,<-h1,IU hb],h2⟩
section
variable {R:Type} {E:fS} {it:It R} {C:Code} {n:aF}
def Good(E:fS)(it:It R)(C:Code)(n:aF)(a:Tb->Kt R->az R):Prop:=∀L K r,a L K=ah r->∃m,iter (tz E it C) (canon (E.Ak n)) m (fN L) K=ah r
def Wd(E:fS)(it:It R)(C:Code)(n:aF)(K:Kt R){s:aA Ho}(T:Fn s Tb)(l:aF->Fn s (az R)):Prop:=∀m x,iter (tz E it C) (canon (E.Ak n)) m (fN (ap s T x)) K=ap s (l m) x
theorem oP:Good E it C n an:=λ_ _ _ h=>by cases h
theorem Nr{s:aA Ho}{T:Fn s Tb}(hT:okT T){l:Kt R->aF->Fn s (az R)}{N:aF}{o:Tb->Kt R->az R}(h:∀K,Wd E it C n K T (l K))(ho:Good E it C n o):Good E it C n (al T (λK=>l K N) o):=by
 intro L K r hq;rcases W_ hT hq with ⟨x,rfl,hx⟩|hq
 ·exact⟨N,(h K N x).trans hx⟩
 ·exact ho L K r hq
theorem lom(n:aF)(hr:gH C=n){a:Tb->Kt R->az R}(hi:∀L K,it n (tz E it C) (canon (E.Ak n)) L K=a L K)(h:Good E it C n a):b_ E it C:=by intro L K q;rw[hr,hi];exact h L K q
theorem wf{K:Kt R}{s:aA Ho}{T:Fn s Tb}{l:aF->Fn s (az R)}{m:aF}(h:∀x,iter (tz E it C) (canon (E.Ak n)) m (fN (ap s T x)) K=ap s (l m) x):cmp s T (λt=>iter (tz E it C) (canon (E.Ak n)) m (fN t) K)=l m:=
 aeC λy=>by rw[B4,h]
theorem wl{K:Kt R}{s:aA Ho}{T:Fn s Tb}{l:aF->Fn s (az R)}(r:(St->az R)->Fn s (az R))(h0:∀x,ap s (l 0) x=aj)
  (h1:∀m,(∀x,iter (tz E it C) (canon (E.Ak n)) m (fN (ap s T x)) K=ap s (l m) x)->r (λσ=>iter (tz E it C) (canon (E.Ak n)) m σ K)=l (m+1))
  (h:∀g x,tz E it C (fN (ap s T x)) (E_ g (canon (E.Ak n)) K)=ap s (r g) x):Wd E it C n K T l:=by
 intro m;induction m with
 |zero=>intro x;rw[h0];rfl
 |succ m ih=>intro x;rw[PB,h,h1 m ih]
theorem lo1(n:aF){s:aA Ho}(T:Fn s Tb)(hr:gH C=n)(hT:okT T)(l:Kt R->aF->Fn s (az R))(r:Kt R->Fn s (az R)->Fn s (az R)){N:aF}
  (hi:∀L K,it n (tz E it C) (canon (E.Ak n)) L K=al T (λK=>l K N) an L K) (h0:∀K x,ap s (l K 0) x=aj) (h1:∀K n,l K (n+1)=r K (l K n))
  (h:∀K g x,tz E it C (fN (ap s T x)) (E_ g (canon (E.Ak n)) K)=ap s (r K (cmp s T λt=>g (fN t))) x):b_ E it C:=
 lom n hr hi (Nr hT (λK=>wl (λg=>r K (cmp s T λt=>g (fN t))) (h0 K) (λm i=>by rw[h1];exact lN (r K) (wf i)) (h K)) oP)
end
end Go.FG

namespace Go.FG.Lib
def cW:aF:=18446744073709551616
def lt{α β:Type}(a:α)(f:α->β):β:=f a
theorem dh{α:Type}{o:az α}{x d:α}(h:o=ah x):nI o=ai/\Option.getD o d=x:=by rw[h];exact⟨rfl,rfl⟩
theorem some_{α:Type}{o:az α}{d:α}(h:nI o=ai):o=ah (Option.getD o d):=by
 cases o with
 |none=>cases h
 |some x=>rfl
theorem g8{σ β:Type}(F:aF->σ->β)(mu:σ->aF)(inv:σ->Prop)(res:σ->β)
  (step:∀n s,inv s->F (n+1) s=res s\/∃s',inv s'/\mu s'<mu s/\res s'=res s/\F (n+1) s=F n s'):∀n s,inv s->mu s<n->F n s=res s:=by
 intro n;induction n with
 |zero=>intro s _ h;omega
 |succ n ih=>
  intro s hi hm;rcases step n s hi with h|⟨s',h1,h2,h3,h4⟩
  ·exact h
  ·rw[h4,<-h3];exact ih s' h1 (by omega)
theorem dn(i n:aF):decide ((i:aw)<(n:aw))=decide (i<n):=by rw[ch];omega
theorem cF(i:aF):decide (0<=(i:aw))=true:=by simp
theorem Nc{i n:aF}(h:i<n):decide ((i:aw)<(n:aw))=true:=by simp;omega
theorem Sv{i n:aF}(h:¬i<n):decide ((i:aw)<(n:aw))=false:=by simp;omega
theorem dY(i:aF):aW (i:aw)=i:=rfl
theorem c5{i n:aF}(h:i<n)(hn:n<=9223372036854775807):bJ ((i:aw)+1)=((i+1:aF):aw):=by rw[iI (by omega) (by omega)];omega
theorem oO{xs:aQ}{i:aF}(h:i<xs.length):xs.getD i []=xs[i]:=by simp[jR,h]
theorem cL{xs:aQ}{i j:aF}(h:i<xs.length):ar xs i j=xs[i].getD j (.b ak):=by unfold ar;rw[oO h]
theorem jW(xs:aQ)(i j:aF)(ys:aA CV):(eJ xs i j ys).length=xs.length:=by unfold eJ;simp
theorem rR(ks:aA Ck)(n:aF):(aP ks n).length=n:=by unfold aP;simp
theorem cj{n b:aF}(h:n*b<=140737488355328)(h2:n<=9223372036854775807):cy n b=true:=by unfold cy;simp;omega
theorem BB{xs:aQ}{i j:aF}{ys:aA CV}(h:i<xs.length):eJ xs i j ys=xs.set i (iH xs[i] j ys):=by unfold eJ;rw[oO h]
theorem eL{x:aQ}{i:aF}(h:i<x.length):x.drop i=x[i]::x.drop (i+1):=dF h
def up:aw->aF->aw|k,0=>k|k,n+1=>up (bJ (k+1)) n
theorem Ma{x:aw}(h:0<=x):bJ x<=x:=by
 have e:bJ x=if(decide (x%18446744073709551616≥9223372036854775808))=ai then x%18446744073709551616-18446744073709551616 else x%18446744073709551616:=rfl
 rw[e];split<;>omega
def vb(x:aw):aQ:=
 if x>127 then [CV.i bh (bE bh (bJ (cz x 128+128)))]::vb (bJ (cR x 128))else [[CV.i bh (bE bh x)]]
termination_by x.toNat
decreasing_by
 rename_i h
 have h1:cR x 128=x/128:=ic (by omega)
 have h2:=Ma (x:=cR x 128) (by omega)
 omega
theorem wu{x:aw}(h:x>127):vb x=[CV.i bh (bE bh (bJ (cz x 128+128)))]::vb (bJ (cR x 128)):=by rw[vb,bz h]
theorem m9{x:aw}(h:¬x>127):vb x=[[CV.i bh (bE bh x)]]:=by rw[vb,bH h]
theorem Hu{n:aF}(h:n<=140737488355328):cy n 1=true:=cj (by omega) (by omega)
theorem iM(y:aA CV)(ks:aA Ck):(aD (aP ks 1) 0 y)=[y]:=rfl
theorem Ol{R:Type}(F:aF->aw->aQ->az R)(k:aq->az R)
  (h1:∀n x acc,x>127->acc.length<=100->F (n+1) x acc=F n (bJ (cR x 128)) (acc++[[CV.i bh (bE bh (bJ (cz x 128+128)))]]))
  (h2:∀n x acc,¬x>127->acc.length<=100->F (n+1) x acc=k (bytesOf (acc++[[CV.i bh (bE bh x)]]))) (x:aw) (hx:x<=9223372036854775807):F (x.toNat+1) x []=k (bytesOf (vb x)):=by
 have:=g8 (λn (s:aw×aQ)=>F n s.1 s.2) (λs=>s.1.toNat) (λs=>s.2.length<=100/\(1<=s.1->2^s.2.length*s.1<=9223372036854775808)) (λs=>k (bytesOf (s.2++vb s.1))) (λn s hs=>by
  obtain⟨x,acc⟩:=s;obtain⟨hl,hb⟩:=hs;dsimp only at hl hb⊢;by_cases h:x>127
  ·right;have e1:cR x 128=x/128:=ic (by omega);have hp:(1:aw)<=2^acc.length:=by
    have:(0:aw)<2^acc.length:=by exact Int.pow_pos (by omega)
    omega
   have hxb:x<=9223372036854775808:=by have h3:=hb (by omega);have:1*x<=2^acc.length*x:=DC hp (by omega);omega
   have e2:bJ (cR x 128)=x/128:=by rw[e1,iI (by omega) (by omega)]
   have h64:acc.length<64:=by
    rcases qX acc.length 64 with h5|h5
    ·exact h5
    ·exfalso;have h6:(2:aw)^64<=2^acc.length:=by have:=Nat.pow_le_pow_right (n:=2) (by omega) h5;exact_mod_cast this
     have h7:=hb (by omega);have h8:(2:aw)^acc.length*1<=2^acc.length*x:=BR (by omega) (by omega);have:(2:aw)^64=18446744073709551616:=by decide
     omega
   refine⟨(bJ (cR x 128),acc++[[CV.i bh (bE bh (bJ (cz x 128+128)))]]),⟨by simp;omega,λ_=> ?_⟩,by dsimp only;omega, ?_,h1 n x acc h hl⟩
   ·dsimp only;rw[e2,bP,bA,uU];have h7:=hb (by omega);have h9:2*(x/128)<=x:=by omega
    have h8:(2:aw)^acc.length*(2*(x/128))<=2^acc.length*x:=BR h9 (by omega);rw[Int.mul_assoc];omega
   ·dsimp only;rw[wu h,cB];rfl
  ·left;rw[m9 h];exact h2 n x acc h hl) (x.toNat+1) (x,[]) ⟨by simp,λh=>by simp;omega⟩ (by dsimp only;omega)
 simpa using this
theorem Sw{a b c:aF}{inst:Decidable (a+b<=c)}(h:a+b<=c): @decide (a+b<=c) inst=true:=aE h
theorem agN:∀(n:aF) (x:aw),x<2^n->(vb x).length<=n+1:=by
 intro n;induction n with
 |zero=>intro x hx;rw[m9 (by omega)];simp
 |succ n ih=>
  intro x hx;by_cases h:x>127
  ·have e1:cR x 128=x/128:=ic (by omega);have h2:=Ma (x:=cR x 128) (by omega);rw[wu h];have h3:bJ (cR x 128)<2^n:=by rw[uU]at hx;omega
   have:=ih _ h3;simp;omega
  ·rw[m9 h];simp
theorem iU(xs:aQ):(bytesOf xs).size=xs.length:=by unfold bytesOf;simp[cq]
theorem jP{x:aw}(h:x<=9223372036854775807):(bytesOf (vb x)).size<=64:=by
 rw[iU];exact agN 63 x (by have:(2:aw)^63=9223372036854775808:=by decide
                           omega)
theorem ki(a b:aq):(a++b).size=a.size+b.size:=dK
theorem qJ(l:aA HS):bZ l l=true:=by
 induction l with
 |nil=>rfl
 |cons a l ih=>simp only[bZ,ih,js];exact beq_self_eq_true a
theorem GO(s:aq)(i:aF):gQ s i<256:=(s.data.getD i 0).toNat_lt
def rv(t:aq)(a:aF):aF->aF->aw->aw×aw×aX
 |0,_,_=>(0,0,ak)
 |f+1,j,n=>
  if a+j<t.size then
   (if(gQ t (a+j):aw)>127 then rv t a f (j+1) (n+(gQ t (a+j):aw)%128*128^j)
   else if(j>0/\gQ t (a+j)=0)\/n+(gQ t (a+j):aw)%128*128^j>1000000000 then(0,0,ak)
   else(n+(gQ t (a+j):aw)%128*128^j,((a+j+1:aF):aw),ai))
  else(0,0,ak)
theorem tp{α:Type}{c:aX}{x y:α}(h:c=ai):(bif c then x else y)=x:=by rw[h];rfl
theorem Sh{α:Type}{c:aX}{x y:α}(h:c=ak):(bif c then x else y)=y:=by rw[h];rfl
theorem Ab{p:Prop}{inst:Decidable p}(h:p): @decide p inst=true:=aE h
theorem IG{p:Prop}{inst:Decidable p}(h:¬p): @decide p inst=false:=aK h
def num(t:aq):aF->aF->aw
 |_,0=>0
 |a,k+1=>(gQ t a:aw)%128+128*num t (a+1) k
theorem Bw(t:aq):∀(k a:aF),0<=num t a k/\num t a k<128^k
 |0,a=>by simp[num]
 |k+1,a=>by
  have:=Bw t k (a+1);simp only[num,uU];omega
theorem xP(t:aq):∀(k a:aF),num t a (k+1)=num t a k+(gQ t (a+k):aw)%128*128^k
 |0,a=>by simp[num]
 |k+1,a=>by
  rw[num,xP t k (a+1),num,show a+1+k=a+(k+1)by omega,uU];rw[Int.mul_add,<-Int.add_assoc];congr 1;rw[Int.mul_comm 128,Int.mul_assoc]
theorem NQ(t:aq):∀(k a:aF),(gQ t (a+k):aw)%128≠0->1<=num t a (k+1)
 |0,a,h=>by simp[num]at h⊢;omega
 |k+1,a,h=>by
  rw[num];have:=NQ t k (a+1) (by rw[show a+1+k=a+(k+1)by omega];exact h);omega
theorem VU(t:aq):∀(k a:aF),(∀i,i<k->128<=gQ t (a+i))->gQ t (a+k)<128->(k=0\/gQ t (a+k)≠0)->num t a (k+1)<=9223372036854775807->vb (num t a (k+1))=(mo a (k+1)).map λi=>[CV.i bh (gQ t i:aw)]
 |0,a,_,h2,_,_=>by
  have e:num t a 1=(gQ t a:aw):=by simp[num]at h2⊢;omega
  simp only[yT]at h2;rw[e,m9 (by omega)];have hw:bE bh (gQ t a:aw)=(gQ t a:aw):=by show(gQ t a:aw)%256=_;omega
  rw[hw];rfl
 |k+1,a,h1,h2,h3,h4=>by
  have hb:=GO t a;have h0:=h1 0 (by omega);rw[yT]at h0;have iA:gQ t (a+(k+1))≠0:=by rcases h3 with h3|h3;(·omega);exact h3
  have lj:=NQ t k (a+1) (by rw[show a+1+k=a+(k+1)by omega];omega);have e:num t a (k+1+1)=(gQ t a:aw)%128+128*num t (a+1) (k+1):=rfl;rw[e]at h4⊢;have e1:cz ((gQ t a:aw)%128+128*num t (a+1) (k+1)) 128=(gQ t a:aw)%128:=by rw[iq (by omega)];omega
  have e2:cR ((gQ t a:aw)%128+128*num t (a+1) (k+1)) 128=num t (a+1) (k+1):=by rw[ic (by omega)];omega
  have e3:bJ ((gQ t a:aw)%128+128)=(gQ t a:aw):=by rw[iI (by omega) (by omega)];omega
  have hw:bE bh (gQ t a:aw)=(gQ t a:aw):=by show(gQ t a:aw)%256=_;omega
  rw[wu (by omega),e1,e2,e3,hw,iI (by omega) (by omega),VU t k (a+1) (λi hi=>by rw[show a+1+i=a+(i+1)by omega];exact h1 (i+1) (by omega)) (by rw[show a+1+k=a+(k+1)by omega];exact h2) (by rw[show a+1+k=a+(k+1)by omega];exact .inr iA) (by omega)];rfl
theorem BH:∀(k:aF) (x:aw),x<128^(k+1)->(vb x).length<=k+1
 |0,x,h=>by rw[m9 (by simp at h;omega)];simp
 |k+1,x,h=>by
  by_cases hx:x>127
  ·have e1:cR x 128=x/128:=ic (by omega);have h2:=Ma (x:=cR x 128) (by omega);rw[wu hx];have h3:bJ (cR x 128)<128^(k+1):=by rw[uU]at h;omega
   have:=BH k _ h3;simp;omega
  ·rw[m9 hx];simp
theorem Iq{t:aq}{a m:aF}(h:a+m<=t.size):(bytesOf ((mo a m).map λi=>[CV.i bh (gQ t i:aw)])).data.toList=(t.extract a (a+m)).data.toList:=by
 have h1:(bytesOf ((mo a m).map λi=>[CV.i bh (gQ t i:aw)])).data.toList=(mo a m).map λi=>t.data.getD i 0:=by unfold bytesOf;simp[bF,gQ]
 rw[h1];apply Wg;intro i;have hs:t.size=t.data.size:=rfl;have Nx:a+m<=t.data.size:=by rw[<-hs];exact h
 simp only[gj,iy,ie];by_cases hi:i<m
 ·have h3:a+i<t.data.size:=by omega
  rw[bK,List.getElem?_range' hi,ea,bz (by omega),dR];simp only[jf,Nat.one_mul,cZ,eP];rw[Array.getElem?_eq_getElem h3];rfl
 ·rw[kY (by simp;omega),kY (by simp;omega)]
theorem beq_iff{l r:aA HS}:bZ l r=ai↔l=r:=by
 constructor
 ·intro h;induction l generalizing r with
  |nil=>cases r with|nil=>rfl|cons=>cases h
  |cons a l ih=>
   cases r with
   |nil=>cases h
   |cons b r=>simp only[bZ,aL]at h;rw[eq_of_beq h.1,ih h.2]
 ·rintro rfl;exact qJ l
theorem canon(t:aq)(k a:aF)(h:a+(k+1)<=t.size)(h1:∀i,i<k->128<=gQ t (a+i))(h2:gQ t (a+k)<128)(h4:num t a (k+1)<=9223372036854775807):
  bZ (bytesOf (vb (num t a (k+1)))).toList (t.extract a (a+(k+1))).toList= !decide (k>0/\gQ t (a+k)=0):=by
 rw[kD,kD];by_cases hc:k>0/\gQ t (a+k)=0
 ·rw[aE hc,a_];obtain⟨k',rfl⟩:∃k',k=k'+1:=⟨k-1,by omega⟩
  cases hb:bZ (bytesOf (vb (num t a (k'+1+1)))).data.toList (t.extract a (a+(k'+1+1))).data.toList with
  |false=>rfl
  |true=>
   exfalso;have he:=lN bT (beq_iff.1 hb);have e:num t a (k'+1+1)=num t a (k'+1):=by rw[xP,hc.2];simp
   have hl:=BH k' (num t a (k'+1)) (Bw t (k'+1) a).2;rw[e]at he;have h5:(bytesOf (vb (num t a (k'+1)))).data.toList.length=(vb (num t a (k'+1))).length:=iU _;have h6:(t.extract a (a+(k'+1+1))).data.toList.length=k'+1+1:=by show(t.extract a (a+(k'+1+1))).size=_;rw[yD];omega
   omega
 ·rw[aK hc,bR];have:=VU t k a h1 h2 (by omega) h4;rw[this];exact beq_iff.2 (Iq h)
theorem tn{a b:aq}(h:a.data.toList=b.data.toList):a=b:=by obtain⟨⟨a⟩⟩:=a;obtain⟨⟨b⟩⟩:=b;simp at h;rw[h]
theorem fu{a b:aq}:bZ a.toList b.toList=decide (a=b):=by
 rw[kD,kD];by_cases h:a=b
 ·subst h;rw[aE rfl];exact qJ _
 ·rw[aK h];cases hb:bZ a.data.toList b.data.toList with
  |false=>rfl
  |true=>exact cK (tn (beq_iff.1 hb)) h
theorem acK(t:aq)(a:aF):∀(f j:aF) (n:aw) (m x:aw),rv t a f j n=(m,x,ai)->n=num t a j->(∀i,i<j->128<=gQ t (a+i))->
  ∃k,x=((a+(k+1):aF):aw)/\a+(k+1)<=t.size/\0<=m/\m<=1000000000/\bytesOf (vb m)=t.extract a (a+(k+1))
 |0,j,n,m,x,h,_,_=>by simp[rv]at h
 |f+1,j,n,m,x,h,hn,hge=>by
  have hb:=GO t (a+j);have XW:n+(gQ t (a+j):aw)%128*128^j=num t a (j+1):=by rw[xP,<-hn]
  simp only[rv]at h;by_cases gh:a+j<t.size
  ·rw[bz gh]at h;by_cases hc:(gQ t (a+j):aw)>127
   ·rw[bz hc]at h;refine acK t a f (j+1) _ m x h XW (λi hi=> ?_);by_cases Pp:i<j
    ·exact hge i Pp
    ·have:i=j:=by omega
     subst this;omega
   ·rw[bH hc]at h;by_cases hz:(j>0/\gQ t (a+j)=0)\/n+(gQ t (a+j):aw)%128*128^j>1000000000
    ·rw[bz hz]at h;simp at h
    ·rw[bH hz]at h;simp only[jg,and_true]at h;obtain⟨rfl,rfl⟩:=h;have hr:=Bw t (j+1) a;rw[<-XW]at hr;refine⟨j,by omega,by omega,hr.1,by omega, ?_⟩
     have:=canon t j a (by omega) hge (by omega) (by rw[<-XW];omega);rw[fu,show decide (j>0/\gQ t (a+j)=0)=ak from aK (λh=>hz (.inl h)),bR,<-XW]at this;exact cu this
  ·rw[bH gh]at h;simp at h
def eF(t:aq)(gP:aw):aw×aw×aX:=if 0<=gP/\gP<=t.size then rv t gP.toNat 5 0 0 else(0,0,ak)
theorem j6{t:aq}{gP m x:aw}(h:eF t gP=(m,x,ai)):0<=gP/\gP<x/\x<=t.size/\0<=m/\m<=1000000000/\bytesOf (vb m)=t.extract gP.toNat x.toNat:=by
 unfold eF at h;by_cases hn:0<=gP/\gP<=t.size
 ·rw[bz hn]at h;obtain⟨k,h1,h2,h3,h4,h5⟩:=acK t gP.toNat 5 0 0 m x h rfl (λi hi=>by omega);exact⟨hn.1,by omega,by omega,h3,h4,by rw[h1];exact h5⟩
 ·rw[bH hn]at h;simp at h
def ia(t:aq)(gP:aw):aq×aw×aX:=
 match eF t gP with
 |(n,x,ai)=>if n<=20000/\n<=t.size-x then(t.extract x.toNat (x+n).toNat,x+n,ai)else(⟨#[]⟩,0,ak)
 |_=>(⟨#[]⟩,0,ak)
theorem vB{R:Type}{t:aq}(ht:t.size<=4611686018427387904)(gP:aw)(kr:aq->aw->aX->az R):
  (bif(!(eF t gP).2.2)then(kr ({data:= #[]}) 0 ak)else(bif(decide ((eF t gP).1>20000))then(kr ({data:= #[]}) 0 ak)else(bif(decide ((eF t gP).1>bJ ((↑(cq t):aw)-(eF t gP).2.1)))then(kr ({data:= #[]}) 0 ak)else(bif(g7 (eF t gP).2.1 (bJ ((eF t gP).2.1+(eF t gP).1)) (↑(cq t):aw))then(kr (bO t (aW (eF t gP).2.1) (aW (bJ ((eF t gP).2.1+(eF t gP).1)))) (bJ ((eF t gP).2.1+(eF t gP).1)) ai)else(aj)))))=kr (ia t gP).1 (ia t gP).2.1 (ia t gP).2.2:=by
 unfold ia;cases hr:eF t gP with
 |mk n r=>
  obtain⟨x,ok⟩:=r;cases ok with
  |false=>rfl
  |true=>
   obtain⟨h1,h2,h3,h4,h5,h6⟩:=j6 hr;have e1:bJ ((t.size:aw)-x)=t.size-x:=iI (by omega) (by omega);have e2:bJ (x+n)=x+n:=iI (by omega) (by omega);simp only[a_,ax,e1,e2];by_cases hc:n<=20000/\n<=t.size-x
   ·rw[bz hc,Sh (IG (by omega)),Sh (IG (by omega)),tp (by simp[g7];omega)]
   ·rw[bH hc];by_cases hb:n>20000
    ·rw[tp (Ab hb)]
    ·rw[Sh (IG hb),tp (Ab (by omega))]
theorem Ht{t:aq}{gP x:aw}{s:aq}(h:ia t gP=(s,x,ai)):0<=gP/\gP<x/\x<=t.size/\s.size<=20000/\bytesOf (vb s.size)++s=t.extract gP.toNat x.toNat:=by
 unfold ia at h;cases hr:eF t gP with
 |mk n r=>
  obtain⟨y,ok⟩:=r;rw[hr]at h;cases ok with
  |false=>simp at h
  |true=>
   dsimp only at h;obtain⟨h1,h2,h3,h4,h5,h6⟩:=j6 hr;split at h
   ·rename_i hc;simp only[jg,and_true]at h;obtain⟨rfl,rfl⟩:=h;have gi:(t.extract y.toNat (y+n).toNat).size=n.toNat:=by rw[yD];omega
    refine⟨h1,by omega,by omega,by rw[gi];omega, ?_⟩
    rw[gi,show((n.toNat:aF):aw)=n by omega,h6];apply tn;simp only[mA,gj,vC,iy,ie];rw[show(y+n).toNat-gP.toNat=(y.toNat-gP.toNat)+n.toNat by omega,List.take_add,vL,show gP.toNat+(y.toNat-gP.toNat)=y.toNat by omega,show(y+n).toNat-y.toNat=n.toNat by omega]
   ·simp at h
theorem xA(t:aq){i j k:aF}(h1:i<=j)(h2:j<=k):t.extract i j++t.extract j k=t.extract i k:=by apply tn;simp only[mA,gj,vC,iy,ie];rw[show k-i=(j-i)+(k-j)by omega,List.take_add,vL,show i+(j-i)=j by omega]
theorem GS(t:aq):t.extract 0 t.size=t:=by apply tn;simp only[gj,iy,ie,fa,si];exact je (by simp)
def fi(p:aF->aX):aF->aF->aw
 |0,_=> -1
 |d+1,i=>bif p i then(i:aw)else fi p d (i+1)
theorem pr(p:aF->aX):∀d i,fi p d i= -1/\(∀k,i<=k->k<i+d->p k=ak)\/∃k,i<=k/\k<i+d/\fi p d i=(k:aw)/\p k=ai/\∀q,i<=q->q<k->p q=ak
 |0,i=> .inl ⟨rfl,λk _ _=>by omega⟩
 |d+1,i=>by
  unfold fi;cases hp:p i with
  |true=>exact .inr ⟨i,by omega,by omega,rfl,hp,λq _ _=>by omega⟩
  |false=>
   rcases pr p d (i+1)with ⟨h1,h2⟩|⟨k,h1,h2,h3,h4,h5⟩
   ·refine .inl ⟨h1,λk hk1 Aj=> ?_⟩;by_cases h:k=i
    ·subst h;exact hp
    ·exact h2 k (by omega) (by omega)
   ·refine .inr ⟨k,by omega,by omega,h3,h4,λq hq1 hq2=> ?_⟩;by_cases h:q=i
    ·subst h;exact hp
    ·exact h5 q (by omega) hq2
end Go.FG.Lib
namespace Go.FG.Pu
def tI(xs:aQ)(i:aF)(ys:aQ):aQ:=xs.take i++ys++xs.drop i
end Go.FG.Pu

namespace Go.FG
class PT (P:outParam c6) (T:outParam Tab):Prop where
 e:eH P T
 m:P.follows .mixedOrders=ai
abbrev As:=aA fy
abbrev AA.n(x:aw):AA:= .i .i64 x
abbrev AV.n(x:aw):AV:= .i .i64 x
abbrev CV.n(x:aw):CV:= .i .i64 x
abbrev aI(x:aw):fy:= .v ak [.n x]
abbrev aB(x:aX):fy:= .v ak [.b x]
abbrev aS(x:aq):fy:= .v ak [.s x]
abbrev aH(e:aF)(x:aQ):fy:= .v ak [.sh e x]
abbrev aO(e:aF)(x:aQ):fy:= .v ak [.ow e ai x]
abbrev aV(l:aA AA):fy:= .v ai l
abbrev cA(k:aF)(a:AV):aF×eU:=(k, .v (.v ak [a]))
abbrev cV(k:aF)(l:aA AV):aF×eU:=(k, .v (.v ai l))
abbrev cI(k:aF)(x:aw):aF×eU:=cA k (.n x)
abbrev cP(k n:aF):aF×eU:=cA k (.bp n 0)
abbrev cH(k e:aF)(x:aQ):aF×eU:=cA k (.sh e x)
abbrev oB(k:aF)(l:aA AV):aF×eU:=(k, .o (.box l))
abbrev oR(k e:aF)(x:aQ):aF×eU:=(k, .o (.row e ai x))
variable {P:c6} {T:Tab} [i:PT P T] {E:fS} {g:aF} {F:Func} {s t:aA Ho} {A:Fn s As} {k:Fn t dB}
theorem fq(hF:∀g,ca P T g (E.call g))(hf:P.funcs[g]? =ah F){it:aF->It (Pr t)}{l:aA Code}(Cx:∀N,∀c∈l,b_ E (it N) c)
  {c:Fn s aX} {v:Fn s (Pr t)} (b:aF->Fn t (az (Pr t))->Fn s (az (Pr t))) (u:Fn s (az (Pr t))) {d:Pr t} (hT:E.toTab=T:=by rfl)
  (hc:∀x,IA F (ap s A x)=true:=by intro x;kernel_rfl) (hl:jY (F.body.getD .skip)=l:=by kernel_rfl) (hA:okA A:=by intro x;rfl) (hk:okK k:=by intro x;rfl)
  (h:∀N x,B8 E (it N) F k (ap s A x)=ap s (b N (cmp t (kj t) ah)) x:=by intro N x;kernel_rfl) (hw:b Lib.cW (cmp t (kj t) ah)=u:=by rfl) (h1:cmp s u nI=c:=by rfl) (h2:cmp s u (λo=>o.getD d)=v:=by rfl):ca P T g (dZ A k c v):=by subst hT;exact fl i.e i.m hF hf hc hl Cx hA hk Lib.cW h hw h1 h2
theorem fr(hF:∀g,ca P T g (E.call g))(hf:P.funcs[g]? =ah F)
  {c:Fn s aX} {v:Fn s (Pr t)} (b:Fn t (az (Pr t))->Fn s (az (Pr t))) (u:Fn s (az (Pr t))) {d:Pr t} (hT:E.toTab=T:=by rfl)
  (hc:∀x,IA F (ap s A x)=true:=by intro x;kernel_rfl) (hl:jY (F.body.getD .skip)=[]:=by kernel_rfl) (hA:okA A:=by intro x;rfl) (hk:okK k:=by intro x;rfl)
  (h:∀x,B8 E ln F k (ap s A x)=ap s (b (cmp t (kj t) ah)) x:=by intro x;kernel_rfl) (hw:b (cmp t (kj t) ah)=u:=by rfl) (h1:cmp s u nI=c:=by rfl) (h2:cmp s u (λo=>o.getD d)=v:=by rfl):ca P T g (dZ A k c v):=by subst hT;exact fl i.e i.m hF hf hc hl (it:=λ_=>ln) (λ_=>bB) hA hk (w:=λ_=>b (cmp t (kj t) ah)) 0 (λ_=>h) hw h1 h2
theorem ft(hF:∀g,ca P T g (E.call g))(hf:P.funcs[g]? =ah F)
  {v:Fn s (Pr t)} (b:Fn t (az (Pr t))->Fn s (az (Pr t))) (hv:∀x,ap s (b (cmp t (kj t) ah)) x=ah (ap s v x)) (hT:E.toTab=T:=by rfl)
  (hc:∀x,IA F (ap s A x)=true:=by intro x;kernel_rfl) (hl:jY (F.body.getD .skip)=[]:=by kernel_rfl) (hA:okA A:=by intro x;rfl) (hk:okK k:=by intro x;rfl)
  (h:∀x,B8 E ln F k (ap s A x)=ap s (b (cmp t (kj t) ah)) x:=by intro x;kernel_rfl):ca P T g (dZ A k (ct s) v):=by subst hT;exact flh i.e i.m hF hf hc hl (it:=λ_=>ln) (λ_=>bB) hA hk λx _ _=>⟨0,(h x).trans (hv x)⟩
theorem fh(hF:∀g,ca P T g (E.call g))(hf:P.funcs[g]? =ah F){it:aF->It (Pr t)}{l:aA Code}(Cx:∀N,∀c∈l,b_ E (it N) c)
  {c:Fn s aX} {v:Fn s (Pr t)} (b:aF->Fn t (az (Pr t))->Fn s (az (Pr t))) (hv:∀x,xE (ap s A x)->ap s c x=ai->∃N,ap s (b N (cmp t (kj t) ah)) x=ah (ap s v x)) (hT:E.toTab=T:=by rfl)
  (hc:∀x,IA F (ap s A x)=true:=by intro x;kernel_rfl) (hl:jY (F.body.getD .skip)=l:=by kernel_rfl) (hA:okA A:=by intro x;rfl) (hk:okK k:=by intro x;rfl)
  (h:∀N x,B8 E (it N) F k (ap s A x)=ap s (b N (cmp t (kj t) ah)) x:=by intro N x;kernel_rfl):ca P T g (dZ A k c v):=by subst hT;exact flh i.e i.m hF hf hc hl Cx hA hk λx f q=>(hv x f q).imp λN e=>(h N x).trans e
section
variable {R:Type} {it:It R} {F:Func}
theorem lq(n:aF){s:aA Ho}(T:Fn s Tb)(l:Kt R->aF->Fn s (az R))(r:Kt R->Fn s (az R)->Fn s (az R)){N:aF}(hr:gH (bX F n)=n:=by kernel_rfl)(hT:okT T:=by intro x;rfl)
  (hi:∀L K,it n (tz E it (bX F n)) (canon (E.Ak n)) L K=al T (λK=>l K N) an L K:=by intro L K;rfl) (h0:∀K x,ap s (l K 0) x=none:=by intro K x;rfl) (h1:∀K n,l K (n+1)=r K (l K n):=by intro K n;rfl)
  (h:∀K g x,tz E it (bX F n) (fN (ap s T x)) (E_ g (canon (E.Ak n)) K)=ap s (r K (cmp s T λt=>g (fN t))) x:=by intro K g x;kernel_rfl):b_ E it (bX F n):=
 lo1 n T hr hT l r hi h0 h1 h
theorem lw{n:aF}{K:Kt R}{s:aA Ho}{T:Fn s Tb}{l:aF->Fn s (az R)}(r:(St->az R)->Fn s (az R))
  (h1:∀m,(∀x,iter (tz E it (bX F n)) (canon (E.Ak n)) m (fN (ap s T x)) K=ap s (l m) x)->r (λσ=>iter (tz E it (bX F n)) (canon (E.Ak n)) m σ K)=l (m+1)) (h0:∀x,ap s (l 0) x=none:=by intro x;rfl)
  (h:∀g x,tz E it (bX F n) (fN (ap s T x)) (E_ g (canon (E.Ak n)) K)=ap s (r g) x:=by intro g x;kernel_rfl):Wd E it (bX F n) n K T l:=wl r h0 h1 h
theorem lm(n:aF){a:Tb->Kt R->az R}(h:Good E it (bX F n) n a)(hr:gH (bX F n)=n:=by kernel_rfl)(hi:∀L K,it n (tz E it (bX F n)) (canon (E.Ak n)) L K=a L K:=by intro L K;rfl):b_ E it (bX F n):=lom n hr hi h
theorem ga{C:Code}{n:aF}{s:aA Ho}(T:Fn s Tb){N:aF}{l:Kt R->aF->Fn s (az R)}{o:Tb->Kt R->az R}(h:∀K,Wd E it C n K T (l K))(ho:Good E it C n o)(hT:okT T:=by intro x;rfl):Good E it C n (al T (λK=>l K N) o):=Nr hT h ho
end
end Go.FG

