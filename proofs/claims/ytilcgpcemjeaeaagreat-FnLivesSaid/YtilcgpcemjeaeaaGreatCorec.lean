/- An evaluator for the part of the language that this program uses, proved sound over the model: states told as values and lists; what an evaluation tells, the call does. No condition. -/
import Derived.Calls
import Derived.Orders
import Derived.Below
import Derived.Laws.AppendOwn
import Derived.Laws.Slices
import Derived.Laws.StructEq
import Derived.Laws.Tables
import Derived.Laws.MakeOwn
import Derived.Laws.IdiomStrings
import Derived.Laws.BytesArg
import Derived.Laws.NewFold
import Derived.SizedLaws
import Derived.Carry
import Derived.ProofKit
import Derived.KernelRfl
import Derived.Laws.Strings
import Derived.Test.YtilcgpcemjeaeaaGreatCoreb
set_option linter.unusedVariables false
set_option linter.unusedSimpArgs false
set_option maxRecDepth 100000
open Array renaming length_toList->dS,getElem?_eq_some_iff->dV,toList_extract->iv,getElem?_toList->cW,getD_eq_getD_getElem?->eI,toList_append->vn
open Bool renaming true->ai,and_eq_true->aL,false->ak,false_eq_true->du,not_eq_true'->dv,and_true->jY,not_true->aY,not_false->bQ
open ByteArray renaming size->cj,size_append->dI,data_extract->gk,size_extract->yr,extract->bO,data_append->mo
open Go renaming Program->cZ,Value->bj,World->bK
open Go.ByteArray renaming toList_eq->kh
open Go.DataW renaming weightsAll->zM,trod->C1,weights->vB,TrodAll->D0,weightsEach->mW
open Go.IntKind renaming i64->ao,u8->ba,wrap->bE
open Go.Value renaming okWide->rW
open Int renaming toNat->aZ,tmod->cK,tdiv->cL,tdiv_eq_ediv_of_nonneg->g7,mul_le_mul_of_nonneg_right->De,mul_le_mul_of_nonneg_left->BA,pow_succ->uH,tmod_eq_emod_of_nonneg->ij
open List renaming getElem?_append_left->dF,getElem?_append_right->dc,getElem?_eq_none->kT,mem_singleton->a_,mem_append->bc,length_append->bV,length_take->eJ,length_drop->iA,length_map->bR,map_append->dh,getElem?_take->d_,getElem?_drop->dR,getElem?_eq_getElem->eR,mem_cons->cu,getElem?_eq_some_iff->aT,getElem?_of_mem->bX,eq_nil_of_length_eq_zero->gg,getElem?_map->bJ,length_eq_one_iff->gV,all_cons->uI,mem_append_left->bW,mem_append_right->bP,append_nil->dj,all_eq_true->bu,append_assoc->cq,map_cons->fB,mem_cons_self->dL,mem_cons_of_mem->c7,getD->j_,drop_eq_getElem_cons->dD,set->aA,length_singleton->bz,beq->cF,range'->iP,ext_getElem?->VC,extract_eq_take_drop->g8,length->bM,take_add->Z3,drop_drop->vC,drop_zero->fu,take_of_length_le->ja
open List.cons renaming injEq->Z2,inj->kg
open Nat renaming beq->bD,blt->qk,add_assoc->lW,lt_or_ge->qJ,eq_zero_or_pos->C3,eq_of_beq_eq_true->aU,zero_add->bS,blt_eq->Ak,mul_le_mul_right->bZ,le_trans->dg,ble->fK,le_of_ble_eq_true->cG,add_zero->yH,sub_zero->rX
open Option renaming some->ah,none->aj,isSome->nz,getD->Z4,map_some->jc
open Option.some renaming inj->aJ
open Prod.mk renaming inj->bT,injEq->jd
open _root_ renaming ByteArray->aq,Nat->aE,Option->az,List->aC,cond_true->au,if_pos->bw,Bool->aW,absurd->cO,Array->dq,Int->ax,decide_eq_true_eq->bg,of_decide_eq_true->cm,cond_false->ay,decide_eq_true->aG,if_neg->bG,congrArg->lI,decide_eq_decide->ca,UInt8->Hu,decide_eq_false->aK
namespace Go.FG
open Go.RowKit Go.ChangeShapes
inductive qT (T:Tab):CV->Prop
 |i (k n):(Lit.int k n).wf=ai->qT T (.i k n)
 |b (x):qT T (.b x)
 |s (x:aq):x.size<=140737488351232->qT T (.s x)
 |l (e xs ti):T.ty e=ah ti->xs.length*ti.bytes<=140737488351232->(∀y∈xs,y.map CV.kd=ti.ks)->(∀y∈xs,∀x∈y,qT T x)->qT T (.l e xs)
def O5(P:cZ)(g:aE->az (aC Ck)):aC Field->aE->az (aC Ck)
 |[],_=>ah []
 |f::r,off=>match g f.type with
  |some ks=>bif bD f.offset off&&bD (P.cellsOf f.type) ks.length then(match O5 P g r (off+ks.length)with|some l=>ah (ks++l)|none=>aj)else aj
  |none=>aj
def O4(P:cZ)(T:Tab):aE->aE->az (aC Ck)
 |0,_=>aj
 |n+1,t=>match P.underlying t with
  |some (.int k)=>ah [.i k]
  |some .bool=>ah [.b]
  |some .string=>ah [.s]
  |some (.slice e)=>match T.ty e,O4 P T n e with
   |some te,ah ks=>bif qc ks te.ks&&bD te.bytes (P.bytesOf e)&&bD (P.cellsOf e) ks.length&&qk 0 ks.length then ah [.l e]else aj
   |_,_=>aj
  |some (.struct fs)=>match O5 P (O4 P T n) fs.toList 0 with
   |some ks=>bif bD (P.cellsOf t) ks.length then ah ks else aj
   |none=>aj
  |_=>aj
def HV:CV->AA
 | .i k n=> .i k n| .b x=> .b x| .s x=> .s x| .l e xs=> .sh e xs
section
variable {H:Type} {enc:TypeId×bj->H} {P:cZ} {T:Tab} {w:bK}
def Db(w:bK):aE->Prop:=λb=>b<w.heap.size
structure wj (T:Tab) (w:bK) (cs:aC bj) (off:aE) (ys:aC CV) (ks:aC Ck):Prop where
 kd:ys.map CV.kd=ks
 at_:∀(j:aE) (y:CV),ys[j]? =ah y->∃v,cs[off+j]? =ah v/\da T w (Db w) v y
 fine:∀y∈ys,qT T y
theorem RE(a:Addr)(m k:aE):(a.add m).add k=a.add (m+k):=by
 unfold Addr.add;by_cases h1:m=0<;>by_cases h2:k=0
 ·simp[h1,h2]
 ·simp[h1,h2]
 ·simp[h1,h2]
 ·simp[h1,h2,lW]
theorem adN(b o n:aE):(ad b o).add n=ad b (o+n):=by unfold Addr.add;by_cases h:n=0<;>simp[h]
theorem zP{α:Type}{p:aE->α->Prop}:∀n:aE,(∀i,i<n->∃y,p i y)->∃xs:aC α,xs.length=n/\∀(i:aE) (y:α),xs[i]? =ah y->p i y
 |0,_=>⟨[],rfl,λi y h=>by simp at h⟩
 |n+1,h=>by
  obtain⟨xs,h1,h2⟩:=zP n (λi hi=>h i (by omega));obtain⟨y,hy⟩:=h n (by omega);refine⟨xs++[y],by simp[h1],λi z hz=> ?_⟩
  rcases qJ i xs.length with hi|hi
  ·rw[dF hi]at hz;exact h2 i z hz
  ·rw[dc hi]at hz;have:i-xs.length=0:=by
    rcases C3 (i-xs.length)with h|h
    ·exact h
    ·rw[kT (by simp;omega)]at hz;cases hz
   rw[this]at hz;cases hz;have:i=n:=by omega
   subst this;exact hy
theorem tC{v:bj}{y:CV}{k:Ck}(hk:y.kd=k)(hh:da T w (Db w) v y)(hf:qT T y):wj T w [v] 0 [y] [k] where
 kd:=by simp[hk]
 at_ j y' hj:=by
  cases j with
  |zero=>cases hj;exact⟨v,rfl,hh⟩
  |succ j=>simp at hj
 fine y' hy:=by rw[a_]at hy;subst hy;exact hf
theorem tT{e:TypeId}:∀{ds:aC (DataW H)} {i:aE} {d:DataW H},ds[i]? =ah d->∀n∈d.weights P e,n∈zM P e ds
 |[],_,_,h,_,_=>by simp at h
 |d0::ds,0,d,h,n,hn=>by cases h;simp only[zM,bc];exact .inl hn
 |d0::ds,i+1,d,h,n,hn=>by simp only[zM,bc];exact .inr (tT (ds:=ds) (i:=i) h n hn)
theorem OD{g:aE->az (aC Ck)}{cs:aC bj}
  (hg:∀t ks,g t=ah ks->∀(fuel:aE) (cs:aC bj) (x:DataW H×aC MemPlace) sp hd,C1 enc P w 0 sp hd fuel t cs=ah x->(∀m∈x.1.weights P t,m<=reachBytes)->cs.length=P.cellsOf t->∃ys,wj T w cs 0 ys ks):
  ∀(fs:aC Field) (off:aE) (ks:aC Ck),O5 P g fs off=ah ks->off+ks.length<=cs.length->∀(xs:aC (DataW H×aC MemPlace)) (fuel:aE) sp hd,xs.length=fs.length->
   (∀(i:aE) (f:Field),fs[i]? =ah f->C1 enc P w 0 sp hd fuel f.type ((cs.drop f.offset).take (P.cellsOf f.type))=xs[i]?)->
   (∀(i:aE) (f:Field) x,fs[i]? =ah f->xs[i]? =ah x->∀m∈x.1.weights P f.type,m<=reachBytes)->∃ys,wj T w cs off ys ks:=by
 intro fs;induction fs with
 |nil=>intro off ks h _ xs fuel sp hd _ _ _;cases h;exact⟨[],⟨rfl,λj y hj=>by simp at hj,λy hy=>by cases hy⟩⟩
 |cons f fs ih=>
  intro off ks h hlen xs fuel sp hd Xh P5 hwt;unfold O5 at h;cases hgf:g f.type with
  |none=>rw[hgf]at h;cases h
  |some k1=>
   rw[hgf]at h;dsimp only at h;cases hb:(bD f.offset off&&bD (P.cellsOf f.type) k1.length)with
   |false=>rw[hb]at h;cases h
   |true=>
    rw[hb,au]at h;simp only[aL]at hb;have e1:=aU hb.1;have e2:=aU hb.2;cases hr:O5 P g fs (off+k1.length)with
    |none=>rw[hr]at h;cases h
    |some k2=>
     rw[hr]at h;have h:k1++k2=ks:=by injection h
     subst h;rw[bV]at hlen;cases xs with
     |nil=>simp at Xh
     |cons x xs=>
      have h0:=P5 0 f rfl;rw[show(x::xs)[0]? =ah x from rfl]at h0;obtain⟨y1,c1⟩:=hg _ _ hgf fuel _ x sp hd h0 (hwt 0 f x rfl rfl) (by rw[eJ,iA];omega);obtain⟨y2,c2⟩:=ih (off+k1.length) k2 hr (by omega) xs fuel sp hd (by simpa using Xh) (λi f' hf=>P5 (i+1) f' hf) (λi f' x' hf hx=>hwt (i+1) f' x' hf hx);have M8:y1.length=k1.length:=by rw[<-c1.kd,bR]
      refine⟨y1++y2,⟨by rw[dh,c1.kd,c2.kd],λj y hj=> ?_,λy hy=> ?_⟩⟩
      ·rcases qJ j y1.length with jW|jW
       ·rw[dF jW]at hj;obtain⟨v,hv,hh⟩:=c1.at_ j y hj;refine⟨v, ?_,hh⟩
        rw[bS,d_,bw (by omega),dR,e1]at hv;exact hv
       ·rw[dc jW]at hj;obtain⟨v,hv,hh⟩:=c2.at_ _ y hj;refine⟨v, ?_,hh⟩
        rw[show off+k1.length+(j-y1.length)=off+j by omega]at hv;exact hv
      ·rcases bc.1 hy with hy|hy
       ·exact c1.fine y hy
       ·exact c2.fine y hy
theorem Cu(hE:eC P T):∀(n t:aE) (ks:aC Ck),O4 P T n t=ah ks->∀(fuel:aE) (cs:aC bj) (x:DataW H×aC MemPlace) sp hd,C1 enc P w 0 sp hd fuel t cs=ah x->(∀m∈x.1.weights P t,m<=reachBytes)->cs.length=P.cellsOf t->∃ys,wj T w cs 0 ys ks:=by
 intro n;induction n with
 |zero=>intro t ks h;cases h
 |succ n ih=>
  intro t ks h fuel cs x sp hd P5 hwt pw;unfold O4 at h;split at h
  ·rename_i k hu;cases h;obtain⟨m,rfl,rfl,hwf⟩:=DataW.trod_int hu P5;exact⟨[.i k m],tC rfl (.i _ _) (.i _ _ hwf)⟩
  ·rename_i hu;cases h;obtain⟨m,rfl,rfl⟩:=DataW.trod_bool hu P5;exact⟨[.b m],tC rfl (.b _) (.b _)⟩
  ·rename_i hu;cases h;obtain⟨m,rfl,rfl,hmx⟩:=DataW.trod_string hu P5;have hz:m.size<=140737488351232:=by have:=hwt m.data.toList.length (by simp[vB]);rw[dS]at this;exact this
   exact⟨[.s m],tC rfl (.s _ (show m.size<=4611686018427387904 by omega)) (.s _ hz)⟩
  ·rename_i e hu;split at h
   ·rename_i te ke KT hke;cases hb:(qc ke te.ks&&bD te.bytes (P.bytesOf e)&&bD (P.cellsOf e) ke.length&&qk 0 ke.length)with
    |false=>rw[hb]at h;cases h
    |true=>
     rw[hb]at h;cases h;simp only[aL]at hb;obtain⟨⟨⟨b1,b2⟩,b3⟩,b4⟩:=hb;have e1:=nL b1;have e2:=aU b2;have e3:=aU b3;have e4:0<ke.length:=by simpa [Ak]using b4
     subst e1;rcases DataW.trod_slice hu P5 with ⟨rfl,rfl⟩|⟨a,len,cap,elems,rest,m,rfl,rfl,rfl,_,hlc,W2,OO,gh,_,_⟩
     ·exact⟨[.l e []],tC rfl (.nl _ _ _) (.l e [] te KT (by simp) (λy hy=>by cases hy) (λy hy=>by cases hy))⟩
     ·have hwl:len*te.bytes<=140737488351232:=by have:=hwt ((elems.length+rest.length)*P.bytesOf e) (by simp[vB,hu]);rw[<-e2,OO]at this;have h2:len*te.bytes<=(len+rest.length)*te.bytes:=bZ _ (by omega);exact dg h2 this
      have one:∀i,i<len->∃ys:aC CV,(∀(j:aE) (y:CV),ys[j]? =ah y->∃v,w.cell? (a.add (i*te.ks.length+j))=ah v/\da T w (Db w) v y)/\ys.map CV.kd=te.ks/\∀y∈ys,qT T y:=by
       intro i hi;have h1:=gh i hi;have lZ:i<elems.length:=by omega
       rw[eR lZ]at h1;cases hc:w.cells? 0 (a.add (i*P.cellsOf e)) (P.cellsOf e)with
       |none=>rw[hc]at h1;cases h1
       |some cs=>
        rw[hc]at h1;have h1:C1 enc P w 0 sp hd m e cs=ah elems[i]:=h1;obtain⟨_,pw,hcell⟩:=World.cells?_some hc;obtain⟨ys,c⟩:=ih e te.ks hke m cs _ sp hd h1 (λz hz=>hwt z (by simp only[vB,hu,cu,bc];exact .inr (.inl (tT (i:=i) (d:=elems[i].1) (by simp[lZ]) z hz)))) pw;refine⟨ys,λj y hj=> ?_,c.kd,c.fine⟩
        obtain⟨v,hv,hh⟩:=c.at_ j y hj;rw[bS]at hv;have jW:=(aT.1 hv).1;have:=hcell j (by omega);rw[hv]at this;refine⟨v, ?_,hh⟩
        rw[<-e3];rw[<-RE];exact this
      obtain⟨xs,Xh,hx⟩:=zP len one;have aiv:qT T (.l e xs):=by
       refine .l e xs te KT (by rw[Xh];exact hwl) (λy hy=> ?_) (λy hy=> ?_)
       ·obtain⟨i,hi⟩:=bX hy;exact(hx i y hi).2.1
       ·obtain⟨i,hi⟩:=bX hy;exact(hx i y hi).2.2
      refine⟨[.l e xs],tC rfl ?_ aiv⟩
      rcases C3 len with h0|h0
      ·have:xs=[]:=gg (by omega);subst this;rw[h0];exact .nl _ _ _
      ·have hx0:xs[0]? =ah xs[0]:=by rw[eR (by omega)]
       obtain⟨c0,k0,_⟩:=hx 0 _ hx0;have hy0:0<(xs[0]).length:=by rw[<-bR (f:=CV.kd),k0];exact e4
       obtain⟨v0,P6,_⟩:=c0 0 _ (eR hy0);obtain⟨b,o,s⟩:=a;have hs:s=aj/\b<w.heap.size:=by
        unfold World.cell? at P6;have e0:(Addr.mk b o s).add (0*te.ks.length+0)=⟨b,o,s⟩:=by simp[Addr.add]
        rw[e0]at P6;split at P6
        ·rename_i hh;refine⟨?_,(dV.1 hh).1⟩
         cases s with
         |none=>rfl
         |some s=>simp at P6
        ·cases P6
       obtain⟨rfl,hbl⟩:=hs;let U:aE->aE->bj:=λi j=>(w.cell? (ad b (o+i*te.ks.length+j))).getD undef;have ar:∀i j y z,xs[i]? =ah y->y[j]? =ah z->w.cell? (ad b (o+i*te.ks.length+j))=ah (U i j)/\da T w (Db w) (U i j) z:=by
        intro i j y z hi hj;obtain⟨v,hv,hh⟩:=(hx i y hi).1 j z hj;have hv:w.cell? ((ad b o).add (i*te.ks.length+j))=ah v:=hv;rw[adN,<-lW]at hv;have:U i j=v:=by simp only[U,hv];rfl
        rw[this];exact⟨hv,hh⟩
       rw[<-Xh];exact .l e xs b o cap te U KT (by omega) W2 hbl (λy hy=>by obtain⟨i,hi⟩:=bX hy;exact(hx i y hi).2.1) (λi j y z hi hj=>(ar i j y z hi hj).1) (λi j y z hi hj=>(ar i j y z hi hj).2)
   ·cases h
  ·rename_i fs hu;obtain⟨xs,m,rfl,rfl,aes,Xh,hf⟩:=DataW.trod_struct hu P5;cases hlf:O5 P (O4 P T n) fs.toList 0 with
   |none=>rw[hlf]at h;cases h
   |some ks'=>
    rw[hlf]at h;obtain⟨hb,rfl⟩:=Eg h;refine OD ih fs.toList 0 _ hlf ?_ xs m sp hd (by simpa using Xh) (λi f hi=>hf i f (by simpa using hi)) (λi f x hi hx z hz=>hwt z ?_)
    ·have:=aU hb;omega
    ·simp only[vB,hu];refine DataW.weights_mem_each (j:=i) (t:=f.type) (d:=x.1) ?_ ?_ z hz
     ·rw[bJ,hi];rfl
     ·rw[bJ,hx];rfl
  ·cases h
end
end Go.FG

namespace Go.FG
open Go.RowKit Go.ChangeShapes
def nW(T:Tab):aC aE->aC (aC CV)->aC fa
 |t::ts,ys::rU=>fa.v (match T.ty t with|some ti=>ti.agg|none=>ak) (ys.map HV)::nW T ts rU
 |_,_=>[]
def oV(T:Tab):aC aE->aC (aC CV)->Prop
 |[],[]=>True
 |t::ts,ys::rU=>(∃ti,T.ty t=ah ti/\ys.map CV.kd=ti.ks)/\(∀y∈ys,qT T y)/\oV T ts rU
 |_,_=>False
def Pn(P:cZ)(T:Tab)(n:aE)(t:aE):aW:=
 match T.ty t,O4 P T n t,P.underlying t with
 |some ti,ah ks,ah d=>qc ks ti.ks&&(match d with| .struct _=>ti.agg| .array _ _=>ak|_=> !ti.agg)&&P.readableRec t&&decide (t<P.types.size)
 |_,_,_=>ak
theorem adM{T:Tab}{w:bK}{c:eZ}(hc:∀b,Db w b->c.K b){v:bj}{y:CV}(h:da T w (Db w) v y)(nm:aE):eG T w c (lu nm (HV y)) v:=by
 have h:da T w c.K v y:=h.frame (λ_ _=>rfl) hc;cases y with
 |i k n=>cases h;rfl
 |b x=>cases h;rfl
 |s x=>cases h with|s _ ho=>exact⟨rfl,ho⟩
 |l e xs=>exact h
section
variable {H:Type} {enc:TypeId×bj->H} {P:cZ} {T:Tab} {w:bK}
theorem adV(hE:eC P T){n t:aE}(hp:Pn P T n t=ai){v:bj}{d:DataW H}{ps:aC MemPlace}{sp:aE->aW}{hd:aW}{base:aE}(hv:rW P w .any base t v)(h:DataW.Trod enc P w 0 sp hd t v d ps)(hw:∀m∈d.weights P t,m<=reachBytes):
  ∃ys:aC CV,(∃ti,T.ty t=ah ti/\ys.map CV.kd=ti.ks)/\(∀y∈ys,qT T y)/\∀c:eZ,(∀b,Db w b->c.K b)->∀p,jh T w c (tq p (fa.v (match T.ty t with|some ti=>ti.agg|none=>ak) (ys.map HV))) v:=by
 unfold Pn at hp;split at hp
 ·rename_i ti ks dd ht hl hu;simp only[aL]at hp;obtain⟨⟨⟨h1,h2⟩,_⟩,_⟩:=hp;have e1:=nL h1;subst e1;obtain⟨fuel,P5⟩:=h;obtain⟨inf,hi,gi,_⟩:=hE.info t ti ht;have hct:P.cellsOf t=ti.ks.length:=by unfold Program.cellsOf;rw[hi];exact gi
  have cell:∀(ys:aC CV) (cs:aC bj),wj T w cs 0 ys ti.ks->∀c:eZ,(∀b,Db w b->c.K b)->∀(p j:aE) (a:AV),(gA (dU p 0) (ys.map HV))[j]? =ah a->∃u:bj,cs[j]? =ah u/\eG T w c a u:=by
   intro ys cs hc c hK p j a hj;rw[iB,bJ]at hj;cases hy:ys[j]? with
   |none=>rw[hy]at hj;cases hj
   |some y=>rw[hy]at hj;cases hj;obtain⟨u,r_,hh⟩:=hc.at_ j y hy;rw[bS]at r_;exact⟨u,r_,adM hK hh _⟩
  cases ui:ti.agg with
  |true=>
   have KR:∃fs,dd= .struct fs:=by cases dd<;>simp[ui]at h2;exact⟨_,rfl⟩
   obtain⟨fs,rfl⟩:=KR;unfold rW at hv;rw[hu]at hv;obtain⟨cs,rfl,Hz,_⟩:=hv;obtain⟨ys,hc⟩:=Cu hE n t ti.ks hl fuel cs.toList (d,ps) sp hd P5 hw (by simpa using Hz);refine⟨ys,⟨ti,ht,hc.kd⟩,hc.fine,λc hK p=> ?_⟩
   rw[ht];show qa T w c ti.agg (gA (dU p 0) (ys.map HV)) _;rw[ui];refine⟨cs,rfl, ?_,λj a hj=> ?_⟩
   ·rw[iO,bR,Hz,hct,<-hc.kd,bR]
   ·obtain⟨u,r_,ha⟩:=cell ys cs.toList hc c hK p j a hj;exact⟨u,by simpa using r_,ha⟩
  |false=>
   have KR:∀fs,dd≠ .struct fs:=by intro fs he;subst he;simp[ui]at h2
   have har:∀m e,dd≠ .array m e:=by intro m e he;subst he;cases h2
   have hcell:Cell.okWide P w .any base t v:=by
    unfold rW at hv;rw[hu]at hv;split at hv
    ·rename_i fs he;cases he;exact cO rfl (KR fs)
    ·rename_i m e he;cases he;exact cO rfl (har m e)
    ·exact hv
   have xB:v.cells= #[v]:=by
    cases v<;>first|rfl|skip
    rename_i cs;exfalso;unfold Cell.okWide at hcell;rw[hu]at hcell;cases dd<;>simp[Cell.ok,hu]at hcell
   obtain⟨dd',hu2,_,hn⟩:=hE.desc t ti ht;have h1:ti.ks.length=1:=by rcases hn ui with ⟨k,h,_⟩|⟨h,_⟩|⟨h,_⟩|⟨e',h,_⟩|⟨h,_⟩<;>simp[h]
   rw[xB]at P5;obtain⟨ys,hc⟩:=Cu hE n t ti.ks hl fuel [v] (d,ps) sp hd P5 hw (by rw[hct,h1];rfl);have IP:ys.length=1:=by rw[<-bR (f:=CV.kd),hc.kd,h1]
   obtain⟨y,rfl⟩:=gV.1 IP;refine⟨[y],⟨ti,ht,hc.kd⟩,hc.fine,λc hK p=> ?_⟩
   rw[ht];show qa T w c ti.agg [lu (dU p 0) (HV y)] _;rw[ui];obtain⟨u,r_,ha⟩:=cell [y] [v] hc c hK p 0 _ rfl;cases r_;exact ha
 ·cases hp
theorem WB(hE:eC P T){n:aE}{sp:aE->aW}{hd:aW}{base:aE}:∀{ts:aC aE} {vs:aC bj} {ds:aC (DataW H)} {ps:aC MemPlace},ts.all (Pn P T n)=ai->
  D0 enc P w 0 sp hd ts vs ds ps->(∀(j:aE) t v,ts[j]? =ah t->vs[j]? =ah v->rW P w .any base t v)->(∀m∈mW P ts ds,m<=reachBytes)->
  ∃rU,oV T ts rU/\vs.length=(nW T ts rU).length/\ds.length=ts.length/\∀c:eZ,(∀b,Db w b->c.K b)->∀(q p:aE) (x:fa),(nW T ts rU)[p]? =ah x->∃v,vs[p]? =ah v/\jh T w c (tq (q+p) x) v:=by
 intro ts;induction ts with
 |nil=>intro vs ds ps _ h _ _;obtain⟨rfl,rfl,rfl⟩:=trodAll_nil h;exact⟨[],trivial,rfl,rfl,λc _ q p x h=>by simp[nW]at h⟩
 |cons t ts ih=>
  intro vs ds ps hp h cf hw;simp only[uI,aL]at hp;obtain⟨v,vs,d,ds,p,q,rfl,rfl,rfl,h0,r0⟩:=trodAll_cons h;obtain⟨ys,y1,y2,y3⟩:=adV hE hp.1 (cf 0 t v rfl rfl) h0 (λm hm=>hw m (by simp only[mW,bc];exact .inl hm));obtain⟨rU,z1,z2,z4,z3⟩:=ih hp.2 r0 (λj t v hj hv=>cf (j+1) t v hj hv) (λm hm=>hw m (by simp only[mW,bc];exact .inr hm));refine⟨ys::rU,⟨y1,y2,z1⟩,by simp[nW,z2],by simp[z4],λc hK q p x hx=> ?_⟩
  cases p with
  |zero=>cases hx;exact⟨v,rfl,y3 c hK q⟩
  |succ p=>obtain⟨v',h1,h2⟩:=z3 c hK (q+1) p x hx;exact⟨v',h1,by rw[show q+(p+1)=q+1+p by omega];exact h2⟩
theorem nK{m:aE}{ob:Obj}:∀{ts:aC aE} {rU:aC (aC CV)},inj (nW T ts rU) (c_ m)≠ .o ob:=by
 intro ts rU h;obtain⟨p,a,h0,hh⟩:=Bd h;have:∀(ts:aC aE) (rU:aC (aC CV)) (p:aE) (a:fa),(nW T ts rU)[p]? =ah a->∃(g:aW) (ys:aC CV),a= .v g (ys.map HV):=by
  intro ts;induction ts with
  |nil=>intro rU p a h;simp[nW]at h
  |cons t ts ih=>
   intro rU p a h;cases rU with
   |nil=>simp[nW]at h
   |cons ys rU=>
    cases p with
    |zero=>cases h;exact⟨_,ys,rfl⟩
    |succ p=>exact ih rU p a h
 obtain⟨g,ys,rfl⟩:=this _ _ _ _ h0;rcases hh with ⟨xs,h1,_⟩|⟨xs,j,e,ex,zs,h1,h2,_⟩
 ·cases h1
 ·have h1:ys.map HV=xs:=by rcases h1 with ⟨g',h1⟩|h1<;>cases h1;rfl
  subst h1;rw[bJ]at h2;cases hy:ys[j]? with
  |none=>rw[hy]at h2;cases h2
  |some y=>rw[hy]at h2;cases y<;>cases h2
theorem He(hl:laidOutB P=ai){W':bK}(hb:Below w.heap.size w W'){n:aE}:∀{ts:aC aE} {vs:aC bj} {ds:aC (DataW H)} {ps:aC MemPlace},ts.all (Pn P T n)=ai->D0 enc P w 0 (λ_=>ai) ai ts vs ds ps->(∀x∈ps,x.block<w.heap.size)->
  D0 enc P W' 0 (λb=>decide (b<w.heap.size)) ai ts vs ds ps:=by
 intro ts;induction ts with
 |nil=>intro vs ds ps _ h _;obtain⟨rfl,rfl,rfl⟩:=trodAll_nil h;exact h
 |cons t ts ih=>
  intro vs ds ps hp h jm;simp only[uI,aL]at hp;obtain⟨v,vs,d,ds,p,q,rfl,rfl,rfl,h0,r0⟩:=trodAll_cons h;have OY:=hp.1;unfold Pn at OY;split at OY
  ·simp only[aL]at OY;exact⟨p,q,Below.trod hl OY.1.2 (by simpa using OY.2) h0 hb (λx hx=>jm x (bW _ hx)),ih hp.2 r0 (λx hx=>jm x (bP _ hx)),rfl⟩
  ·cases OY
end
theorem GO{H:Type}{enc:TypeId×bj->H}{C:Checked}{T:Tab}(hE:eC C.prog T)(hl:laidOutB C.prog=ai){g tb n:aE}{fn:Func}{spec:aC fa->az (aW×dz)}(hF:b7 C.prog T g spec){s:ChangeSpec}
  (aiP:fn.params.toList.all (Pn C.prog T n)=ai) (ar2:fn.resultTypes= #[tb]) (htb:C.prog.underlying tb=ah .bool) (Ss:s.vars=[])
  (hfn:∀ds:aC (DataW H),ds.length=fn.params.toList.length->s.fn H ds={results:=[.lit (.bool ai)],args:=ds})
  (claim:∀rU,oV T fn.params.toList rU->spec (nW T fn.params.toList rU)=ah (ai,⟨[.v ak [.b ai]],[]⟩))
  (W:bK) (base:aE) (args:dq bj) (ds gs:aC (DataW H)) (before:aC MemPlace)
  (hval:∀(j:aE) t v,fn.params[j]? =ah t->args[j]? =ah v->rW C.prog W .any base t v)
  (hW:DataW.Whole enc C.prog fn.params.toList s.vars ak W args.toList ds gs before)
  (gi:(mW C.prog (fn.params.toList++s.plain.varTypes C.prog) (ds++gs)).all (·<=reachBytes)=ai):
  Calls C.prog g args W λe W'=>∃v,e= .returned v/\s.post enc C.prog fn ak ai ak ak W args v W':=by
 have hW':=hW;obtain⟨p,q,hA,hV,rfl,hfz,II⟩:=hW;have jm:=hW'.lt;rw[Ss]at hV;have hgs:gs=[]/\q=[]:=by
  cases gs with
  |nil=>exact⟨rfl,hV⟩
  |cons=>exact hV.elim
 obtain⟨rfl,rfl⟩:=hgs;have hw:∀m∈mW C.prog fn.params.toList ds,m<=reachBytes:=by
  intro m hm;rw[dj]at gi;have e:s.plain.varTypes C.prog=[]:=by unfold DataSpec.varTypes ChangeSpec.plain;simp[Ss]
  rw[e,dj]at gi;have:=bu.1 gi m hm;simpa using this
 obtain⟨rU,Xd,hlen,hdl,rZ⟩:=WB hE aiP hA (λj t v hj hv=>hval j t v (by simpa using hj) (by simpa using hv)) hw;let nl:Pl:=⟨ai,0,0,0,0,0⟩
 let c1:eZ:=⟨λ_=>nl,λ_ _ _=>nl,Db W⟩
 have cf:Ok T (inj (nW T fn.params.toList rU)) W c1:=⟨λnm o h=>cO h nK,λnm o xH o' b h=>cO h nK,λnm o b h=>cO h nK,λb hb=>hb,λnm xs h=>cO h nK⟩
 obtain⟨_,hc⟩:=hF _ _ (claim rU Xd) W c1 args cf (by rw[<-hlen];simp) (λp x hx=>by obtain⟨v,h1,h2⟩:=rZ c1 (λ_ h=>h) 0 p x hx;rw[bS]at h2;exact⟨v,by simpa using h1,h2⟩);refine hc.mono λe W' hR=> ?_;cases e with
 |panicked=>exact hR.elim
 |outgrown=>exact hR.elim
 |returned v=>
  obtain⟨c3,_,yv,_,yw⟩:=hR;have hv:v= .bool true:=yw;subst hv;have hb:Below W.heap.size W W':=⟨yv.os,yv.tape,yv.output,yv.size,λk hk=>yv.same k hk (λ⟨nm,o,h,_⟩=>nK h)⟩
  have Sq:=hfn ds hdl;refine⟨_,rfl,ds,[],_,[],p,[],hW', ?_, ?_, ?_,hb.frame _,λh=>by cases h⟩
  ·rw[dj,Sq,ar2];exact trodAll_mk1 (shut_bool htb _)
  ·rw[dj,Sq];exact He hl hb aiP hA (λx hx=>jm x (bW _ hx))
  ·rw[dj,Sq,Ss];rfl
end Go.FG

namespace Go.FG
def gQ(s:aq)(i:aE):aE:=(s.data.getD i 0).toNat
abbrev bH(x:ax):ax:=ao.wrap x
inductive gK where
 |I (n:ax)|B (x:aW)|S (x:aq)|R (xs:aQ)|N (n:aE)
def gI:aC gK->ax| .I n::_=>n|_=>0
def gB:aC gK->aW| .B n::_=>n|_=>ak
def gS:aC gK->aq| .S n::_=>n|_=>⟨#[]⟩
def gR:aC gK->aQ| .R n::_=>n|_=>[]
def gN:aC gK->aE| .N n::_=>n|_=>0
def hCV:CV->aC gK
 | .i _ n=>[.I n]| .b x=>[.B x]| .s x=>[.S x]| .l _ xs=>[.R xs]
def sCV:CV->CV->aW
 | .i k _, .i k' _=>decide (k=k')| .b _, .b _=>ai| .s _, .s _=>ai| .l e _, .l e' _=>bD e e'|_,_=>ak
def fCV(s:CV)(l:aC gK):CV×aC gK:=
 match s with
 | .i k _=>(.i k (gI l),l.tail)| .b _=>(.b (gB l),l.tail)| .s _=>(.s (gS l),l.tail)| .l e _=>(.l e (gR l),l.tail)
def Iy:aC CV->aC gK|[]=>[]|a::r=>hCV a++Iy r
def G8:aC CV->aC CV->aW|[],[]=>ai|a::r,b::t=>sCV a b&&G8 r t|_,_=>ak
def zj:aC CV->aC gK->aC CV×aC gK
 |[],l=>([],l)|a::r,l=>((fCV a l).1::(zj r (fCV a l).2).1,(zj r (fCV a l).2).2)
def Ey:aC (aC CV)->aC gK|[]=>[]|a::r=>Iy a++Ey r
def EV:aC (aC CV)->aC (aC CV)->aW|[],[]=>ai|a::r,b::t=>G8 a b&&EV r t|_,_=>ak
def zT:aC (aC CV)->aC gK->aC (aC CV)×aC gK
 |[],l=>([],l)|a::r,l=>((zj a l).1::(zT r (zj a l).2).1,(zT r (zj a l).2).2)
theorem aeb{s a:CV}(h:sCV s a=ai)(l:aC gK):fCV s (hCV a++l)=(a,l):=by
 cases s<;>cases a<;>simp only[sCV,bg,du,Nat.beq_eq]at h<;>first|exact h.elim|skip
 all_goals first|(subst h;rfl)|rfl
theorem wW:∀{s a:aC CV},G8 s a=ai->∀l,zj s (Iy a++l)=(a,l)
 |[],[],_,l=>rfl
 |s::ss,a::as,h,l=>by
  simp only[G8,aL]at h;simp only[zj,Iy,cq,aeb h.1,wW h.2]
 |[],_::_,h,_=>by cases h
 |_::_,[],h,_=>by cases h
theorem B1:∀{s a:aC (aC CV)},EV s a=ai->∀l,zT s (Ey a++l)=(a,l)
 |[],[],_,l=>rfl
 |s::ss,a::as,h,l=>by
  simp only[EV,aL]at h;simp only[zT,Ey,cq,wW h.1,B1 h.2]
 |[],_::_,h,_=>by cases h
 |_::_,[],h,_=>by cases h
def hAV:AV->aC gK
 | .i _ n=>[.I n]| .b x=>[.B x]| .s x=>[.S x]| .sh _ xs=>[.R xs]| .vw _ lo hi=>[.N lo, .N hi]| .rp _ i _=>[.N i]
 | .sp _ xs i _=>[.R xs, .N i]| .inn _ i _=>[.N i]| .ip _ i _ i2 _=>[.N i, .N i2]| .fn _ iQ=>Ey iQ| .fp xs _=>Iy xs|_=>[]
def Y5:AV->AV->aW
 | .i k _, .i k' _=>decide (k=k')| .b _, .b _=>ai| .s _, .s _=>ai| .sh e _, .sh e' _=>bD e e'| .nl, .nl=>ai
 | .own n, .own n'=>bD n n'| .vw n _ _, .vw n' _ _=>bD n n'| .bp n j, .bp n' j'=>bD n n'&&bD j j'| .rp n _ j, .rp n' _ j'=>bD n n'&&bD j j'
 | .sp e _ _ j, .sp e' _ _ j'=>bD e e'&&bD j j'| .inn n _ j, .inn n' _ j'=>bD n n'&&bD j j'
 | .ip n _ j _ q, .ip n' _ j' _ q'=>bD n n'&&bD j j'&&bD q q'| .fn f c, .fn f' c'=>bD f f'&&EV c c'| .fp c j, .fp c' j'=>bD j j'&&G8 c c'
 |_,_=>ak
def fAV(s:AV)(l:aC gK):AV×aC gK:=
 match s with
 | .i k _=>(.i k (gI l),l.tail)| .b _=>(.b (gB l),l.tail)| .s _=>(.s (gS l),l.tail)| .sh e _=>(.sh e (gR l),l.tail)
 | .vw n _ _=>(.vw n (gN l) (gN l.tail),l.tail.tail)| .rp n _ j=>(.rp n (gN l) j,l.tail)| .sp e _ _ j=>(.sp e (gR l) (gN l.tail) j,l.tail.tail)
 | .inn n _ j=>(.inn n (gN l) j,l.tail)| .ip n _ j _ q=>(.ip n (gN l) j (gN l.tail) q,l.tail.tail)| .fn f c=>(.fn f (zT c l).1,(zT c l).2)| .fp c j=>(.fp (zj c l).1 j,(zj c l).2)
 |a=>(a,l)
def OK:aC AV->aC gK|[]=>[]|a::r=>hAV a++OK r
def Lp:aC AV->aC AV->aW|[],[]=>ai|a::r,b::t=>Y5 a b&&Lp r t|_,_=>ak
def B0:aC AV->aC gK->aC AV×aC gK
 |[],l=>([],l)|a::r,l=>((fAV a l).1::(B0 r (fAV a l).2).1,(B0 r (fAV a l).2).2)
def WN(a b:aW):aW:=bif a then b else !b
def W0:aC (aW×aC AV)->aC gK|[]=>[]|(_,xs)::r=>OK xs++W0 r
def Ut:aC (aW×aC AV)->aC (aW×aC AV)->aW
 |[],[]=>ai|(g,xs)::r,(g',ys)::t=>WN g g'&&Lp xs ys&&Ut r t|_,_=>ak
def OC:aC (aW×aC AV)->aC gK->aC (aW×aC AV)×aC gK
 |[],l=>([],l)|(g,xs)::r,l=>((g,(B0 xs l).1)::(OC r (B0 xs l).2).1,(OC r (B0 xs l).2).2)
def OM:eO->aC gK
 | .v (.v _ xs)=>OK xs| .v (.j9 l)=>W0 l| .o (.box xs)=>OK xs| .o (.nX cs)=>Iy cs| .o (.row _ _ xs)=>[.R xs]| .o (.fV _ xs)=>[.R xs]|_=>[]
def Y7:eO->eO->aW
 | .v (.v g xs), .v (.v g' ys)=>WN g g'&&Lp xs ys| .v (.j9 l), .v (.j9 r)=>Ut l r| .v .un, .v .un=>ai
 | .o (.box xs), .o (.box ys)=>Lp xs ys| .o (.nX c), .o (.nX c')=>G8 c c'| .o (.row e x _), .o (.row e' x' _)=>bD e e'&&WN x x'| .o (.fV e _), .o (.fV e' _)=>bD e e'
 | .o .dead, .o .dead=>ai| .jX, .jX=>ai|_,_=>ak
def Kw(c:eO)(l:aC gK):eO×aC gK:=
 match c with
 | .v (.v g xs)=>(.v (.v g (B0 xs l).1),(B0 xs l).2)| .v (.j9 r)=>(.v (.j9 (OC r l).1),(OC r l).2)
 | .o (.box xs)=>(.o (.box (B0 xs l).1),(B0 xs l).2)| .o (.nX c)=>(.o (.nX (zj c l).1),(zj c l).2)| .o (.row e x _)=>(.o (.row e x (gR l)),l.tail)| .o (.fV e _)=>(.o (.fV e (gR l)),l.tail)
 |c=>(c,l)
def IK:aC (aE×eO)->aC gK|[]=>[]|(_,c)::r=>OM c++IK r
def zC:aC (aE×eO)->aC (aE×eO)->aW
 |[],[]=>ai|(k,c)::r,(k',c')::t=>bD k k'&&Y7 c c'&&zC r t|_,_=>ak
def MV:aC (aE×eO)->aC gK->aC (aE×eO)
 |[],_=>[]|(k,c)::r,l=>(k,(Kw c l).1)::MV r (Kw c l).2
theorem BX{a b:aW}(h:WN a b=ai):a=b:=by cases a<;>cases b<;>first|rfl|cases h
theorem aea{s a:AV}(h:Y5 s a=ai)(l:aC gK):fAV s (hAV a++l)=(a,l):=by
 match s,a,h with
 | .fn f c, .fn f' c',h=>simp only[Y5,aL]at h;have h1:=aU h.1;subst h1;simp only[fAV,hAV,B1 h.2]
 | .fp c j, .fp c' j',h=>simp only[Y5,aL]at h;have h1:=aU h.1;subst h1;simp only[fAV,hAV,wW h.2]
 | .i k _, .i k' _,h=>have h1:=cm (show decide (k=k')=ai from h);subst h1;rfl
 | .b _, .b _,_=>rfl
 | .s _, .s _,_=>rfl
 | .sh e _, .sh e' _,h=>have h1:=aU (show bD e e'=ai from h);subst h1;rfl
 | .nl, .nl,_=>rfl
 | .own n, .own n',h=>have h1:=aU (show bD n n'=ai from h);subst h1;rfl
 | .vw n _ _, .vw n' _ _,h=>have h1:=aU (show bD n n'=ai from h);subst h1;rfl
 | .bp n j, .bp n' j',h=>simp only[Y5,aL]at h;have h1:=aU h.1;have h2:=aU h.2;subst h1;subst h2;rfl
 | .rp n _ j, .rp n' _ j',h=>simp only[Y5,aL]at h;have h1:=aU h.1;have h2:=aU h.2;subst h1;subst h2;rfl
 | .sp n _ _ j, .sp n' _ _ j',h=>simp only[Y5,aL]at h;have h1:=aU h.1;have h2:=aU h.2;subst h1;subst h2;rfl
 | .inn n _ j, .inn n' _ j',h=>simp only[Y5,aL]at h;have h1:=aU h.1;have h2:=aU h.2;subst h1;subst h2;rfl
 | .ip n _ j _ q, .ip n' _ j' _ q',h=>simp only[Y5,aL]at h;have h1:=aU h.1.1;have h2:=aU h.1.2;have h3:=aU h.2;subst h1;subst h2;subst h3;rfl
theorem A5:∀{s a:aC AV},Lp s a=ai->∀l,B0 s (OK a++l)=(a,l)
 |[],[],_,l=>rfl
 |s::ss,a::as,h,l=>by
  simp only[Lp,aL]at h;simp only[B0,OK,cq,aea h.1,A5 h.2]
 |[],_::_,h,_=>by cases h
 |_::_,[],h,_=>by cases h
theorem MS:∀{s a:aC (aW×aC AV)},Ut s a=ai->∀l,OC s (W0 a++l)=(a,l)
 |[],[],_,l=>rfl
 |(g,xs)::ss,(g',ys)::as,h,l=>by
  simp only[Ut,aL]at h;obtain⟨⟨h1,h2⟩,h3⟩:=h;have h1:=BX h1;subst h1;simp only[OC,W0,cq,A5 h2,MS h3]
 |[],_::_,h,_=>by cases h
 |_::_,[],h,_=>by cases h
theorem WT{s c:eO}(h:Y7 s c=ai)(l:aC gK):Kw s (OM c++l)=(c,l):=by
 match s,c,h with
 | .v (.v g xs), .v (.v g' ys),h=>simp only[Y7,aL]at h;have h1:=BX h.1;subst h1;simp only[Kw,OM,A5 h.2]
 | .v (.j9 r), .v (.j9 r'),h=>simp only[Kw,OM,MS (show Ut r r'=ai from h)]
 | .v .un, .v .un,_=>rfl
 | .o (.box xs), .o (.box ys),h=>simp only[Kw,OM,A5 (show Lp xs ys=ai from h)]
 | .o (.nX c), .o (.nX c'),h=>simp only[Kw,OM,wW (show G8 c c'=ai from h)]
 | .o (.row e x _), .o (.row e' x' _),h=>simp only[Y7,aL]at h;have h1:=BX h.2;have h2:=aU h.1;subst h1;subst h2;rfl
 | .o (.fV e _), .o (.fV e' _),h=>have h2:=aU h;subst h2;rfl
 | .o .dead, .o .dead,_=>rfl
 | .jX, .jX,_=>rfl
theorem Ir:∀{S L:aC (aE×eO)},zC S L=ai->MV S (IK L)=L
 |[],[],_=>rfl
 |(k,s)::S,(k',c)::L,h=>by
  simp only[zC,aL]at h;obtain⟨⟨h1,h2⟩,h3⟩:=h;have h1:=aU h1;subst h1;simp only[MV,IK,WT h2,Ir h3]
 |[],_::_,h=>by cases h
 |_::_,[],h=>by cases h
def tell{R:Type}(S:aC (aE×eO))(H:aC gK->az R)(L:aC (aE×eO))(other:az R):az R:=bif zC S L then H (IK L)else other
def SW:aC (aE×aC aE)->aE->aC aE
 |[],_=>[]|(k,l)::r,n=>bif bD n k then l else SW r n
def ak5:aC (aE×aE×Om)->aE->aE->Om
 |[],_,_=> .nat|(q,j,o)::r,n,m=>bif bD n q&&bD m j then o else ak5 r n m
def Ti:aC (aE×aE)->aE->aE->aW
 |[],_,_=>ak|(f,p)::r,n,m=>(bD n f&&bD m p)||Ti r n m
def ak_:aC (aE×aE)->aE->az aE
 |[],_=>aj|(k,e)::r,n=>bif bD n k then ah e else ak_ r n
theorem bC{p:Code->Prop}:∀c∈([]:aC Code),p c:=λc h=>by cases h
theorem bk{p:Code->Prop}{c:Code}{l:aC Code}(h:p c)(hl:∀d∈l,p d):∀d∈c::l,p d:=λd hd=>by
 rcases cu.1 hd with rfl|hd
 ·exact h
 ·exact hl d hd
def qb:aC (aE×(aC fa->az (aW×dz)))->aE->aC fa->az (aW×dz)
 |[],_,_=>aj
 |(k,s)::r,g,a=>bif bD g k then(match s a with|some x=>ah x|none=>qb r g a)else qb r g a
theorem aX{P:cZ}{T:Tab}:∀g,b7 P T g (qb [] g):=λg=>OE λ_=>rfl
theorem aD{P:cZ}{T:Tab}{k:aE}{s:aC fa->az (aW×dz)}{L:aC (aE×(aC fa->az (aW×dz)))}(h:b7 P T k s)(hl:∀g,b7 P T g (qb L g)):∀g,b7 P T g (qb ((k,s)::L) g):=by
 intro g;cases hb:bD g k with
 |true=>
  have:=aU hb;subst this;intro args r hr;unfold qb at hr;rw[hb,au]at hr;cases hs:s args with
  |some x=>rw[hs]at hr;exact h args r (hs.trans hr)
  |none=>rw[hs]at hr;exact hl g args r hr
 |false=>
  have e:qb ((k,s)::L) g=qb L g:=by funext a;simp only[qb,hb,ay]
  rw[e];exact hl g
def Th(T:Tab)(md:aC (aE×aE))(cs:aC (aE×(aC fa->az (aW×dz))))(ks:aC (aE×aC aE))(tk:aC aE)(om:aC (aE×aE×Om)):fU:={toTab:=T,call:=qb cs,mode:=Ti md,keep:=SW ks,tk:=λn=>mF n tk,om:=ak5 om}
end Go.FG

namespace Go.FG
theorem LG{T:Tab}{t:aE}{ts:aC aE}{rU:aC (aC CV)}(h:oV T (t::ts) rU):∃ys al_,rU=ys::al_/\(∃ti,T.ty t=ah ti/\ys.map CV.kd=ti.ks)/\(∀y∈ys,qT T y)/\oV T ts al_:=by
 cases rU with
 |nil=>exact h.elim
 |cons ys rU=>exact⟨ys,rU,rfl,h.1,h.2.1,h.2.2⟩
theorem PI{T:Tab}{rU:aC (aC CV)}(h:oV T [] rU):rU=[]:=by
 cases rU with
 |nil=>rfl
 |cons=>exact h.elim
theorem Xr{T:Tab}{k:Ck}{ks:aC Ck}{ys:aC CV}(h:ys.map CV.kd=k::ks)(hf:∀y∈ys,qT T y):∃y Da,ys=y::Da/\y.kd=k/\qT T y/\Da.map CV.kd=ks/\∀y∈Da,qT T y:=by
 cases ys with
 |nil=>cases h
 |cons y ys=>rw[fB,Z2]at h;exact⟨y,ys,rfl,h.1,hf y (dL ..),h.2,λz hz=>hf z (c7 _ hz)⟩
theorem aeY{ys:aC CV}(h:ys.map CV.kd=[]):ys=[]:=by simpa using h
theorem auz{T:Tab}{e:aE}{y:CV}(h:y.kd= .l e)(hf:qT T y):∃xs,y= .l e xs/\qT T (.l e xs):=by cases y<;>simp[CV.kd]at h;subst h;exact⟨_,rfl,hf⟩
theorem iE{x:ax}(h1: -9223372036854775808<=x)(h2:x<=9223372036854775807):bH x=x:=by
 have e:bH x=if(decide (x%18446744073709551616≥9223372036854775808))=ai then x%18446744073709551616-18446744073709551616 else x%18446744073709551616:=rfl
 rw[e];by_cases h:x%18446744073709551616≥9223372036854775808
 ·rw[bw (aG h)];omega
 ·rw[bG (by simpa using h)];omega
end Go.FG

namespace Go.FG
inductive Ho where|I|B|S|R|N
abbrev den:Ho->Type
 | .I=>ax| .B=>aW| .S=>aq| .R=>aQ| .N=>aE
abbrev Fn:aC Ho->Type->Type
 |[],A=>A|h::s,A=>den h->Fn s A
abbrev Tu:aC Ho->Type
 |[]=>Unit|h::s=>den h×Tu s
abbrev Pr:aC Ho->Type
 |[]=>Unit|[h]=>den h|h::s=>den h×Pr s
def df:(h:Ho)->den h
 | .I=>(0:ax)| .B=>ak| .S=>(⟨#[]⟩:aq)| .R=>([]:aQ)| .N=>(0:aE)
def lf:(h:Ho)->den h->gK
 | .I,x=> .I x| .B,x=> .B x| .S,x=> .S x| .R,x=> .R x| .N,x=> .N x
def ap{A:Type}:(s:aC Ho)->Fn s A->Tu s->A
 |[],f,_=>f|_::s,f,x=>ap s (f x.1) x.2
def cmp{A B:Type}:(s:aC Ho)->Fn s A->(A->B)->Fn s B
 |[],f,g=>g f|_::s,f,g=>λy=>cmp s (f y) g
def MM{A:Type}:(s:aC Ho)->Fn s A->A
 |[],f=>f|h::s,f=>MM s (f (df h))
def lv:(s:aC Ho)->Tu s->aC gK
 |[],_=>[]|h::s,x=>lf h x.1::lv s x.2
def Wy{A:Type}:(s:aC Ho)->Fn s (az A)->aC gK->az A
 |[],f,[]=>f
 | .I::s,f, .I x::l=>Wy s (f x) l| .B::s,f, .B x::l=>Wy s (f x) l| .S::s,f, .S x::l=>Wy s (f x) l
 | .R::s,f, .R x::l=>Wy s (f x) l| .N::s,f, .N x::l=>Wy s (f x) l
 |_,_,_=>aj
def j9:(s:aC Ho)->Fn s (Pr s)
 |[]=>()|[_]=>λx=>x|_::h::s=>λx=>cmp (h::s) (j9 (h::s)) λp=>(x,p)
def apP{A:Type}:(s:aC Ho)->Fn s A->Pr s->A
 |[],f,_=>f|[_],f,p=>f p|_::h::s,f,p=>apP (h::s) (f p.1) p.2
theorem BL{A:Type}{s:aC Ho}{f:Fn s (az A)}{l:aC gK}{a:A}(h:Wy s f l=ah a):∃x,l=lv s x/\ap s f x=ah a:=by
 induction s generalizing l with
 |nil=>cases l with
  |nil=>exact⟨(),rfl,h⟩
  |cons=>cases h
 |cons k s ih=>
  cases l with
  |nil=>cases k<;>cases h
  |cons y l=>cases k<;>cases y<;>first|(obtain⟨x,rfl,hx⟩:=ih h;exact⟨(_,x),rfl,hx⟩)|cases h
theorem BM{A B:Type}{s:aC Ho}(f:Fn s A)(g:A->B)(x:Tu s):ap s (cmp s f g) x=g (ap s f x):=by
 induction s with
 |nil=>rfl
 |cons k s ih=>exact ih _ _
theorem adS{A:Type}{s:aC Ho}{f g:Fn s A}(h:∀x,ap s f x=ap s g x):f=g:=by
 induction s with
 |nil=>exact h ()
 |cons k s ih=>exact funext λy=>ih λx=>h (y,x)
theorem Wz{A:Type}{s:aC Ho}(f:Fn s A)(x:Tu s):apP s f (ap s (j9 s) x)=ap s f x:=by
 induction s with
 |nil=>rfl
 |cons k s ih=>
  cases s with
  |nil=>rfl
  |cons h s=>exact(lI (apP (k::h::s) f) (BM ..)).trans (ih ..)
def hAA:AA->aC gK
 | .i _ n=>[.I n]| .b x=>[.B x]| .s x=>[.S x]| .sh _ xs=>[.R xs]| .ow _ _ xs=>[.R xs]| .kp xs=>[.R xs]| .fn _ c=>Ey c| .nl=>[]
def sAA:AA->AA->aW
 | .i k _, .i k' _=>decide (k=k')| .b _, .b _=>ai| .s _, .s _=>ai| .sh e _, .sh e' _=>bD e e'| .ow e x _, .ow e' x' _=>bD e e'&&WN x x'
 | .kp _, .kp _=>ai| .fn f c, .fn f' c'=>bD f f'&&EV c c'| .nl, .nl=>ai|_,_=>ak
def fAA(s:AA)(l:aC gK):AA×aC gK:=
 match s with
 | .i k _=>(.i k (gI l),l.tail)| .b _=>(.b (gB l),l.tail)| .s _=>(.s (gS l),l.tail)| .sh e _=>(.sh e (gR l),l.tail)| .ow e x _=>(.ow e x (gR l),l.tail)
 | .kp _=>(.kp (gR l),l.tail)| .fn f c=>(.fn f (zT c l).1,(zT c l).2)| .nl=>(.nl,l)
def KG:aC AA->aC gK|[]=>[]|a::r=>hAA a++KG r
def Ln:aC AA->aC AA->aW|[],[]=>ai|a::r,b::t=>sAA a b&&Ln r t|_,_=>ak
def Iq:aC AA->aC gK->aC AA×aC gK
 |[],l=>([],l)|a::r,l=>((fAA a l).1::(Iq r (fAA a l).2).1,(Iq r (fAA a l).2).2)
def KH:fa->aC gK
 | .v _ xs=>KG xs| .pt xs=>KG xs| .fb xs=>Iy xs
def PE:fa->fa->aW
 | .v g xs, .v g' ys=>WN g g'&&Ln xs ys| .pt xs, .pt ys=>Ln xs ys| .fb xs, .fb ys=>G8 xs ys|_,_=>ak
def Kv(s:fa)(l:aC gK):fa×aC gK:=
 match s with
 | .v g xs=>(.v g (Iq xs l).1,(Iq xs l).2)| .pt xs=>(.pt (Iq xs l).1,(Iq xs l).2)| .fb xs=>(.fb (zj xs l).1,(zj xs l).2)
def hAr:aC fa->aC gK|[]=>[]|a::r=>KH a++hAr r
def Y6:aC fa->aC fa->aW|[],[]=>ai|a::r,b::t=>PE a b&&Y6 r t|_,_=>ak
def WR:aC fa->aC gK->aC fa×aC gK
 |[],l=>([],l)|a::r,l=>((Kv a l).1::(WR r (Kv a l).2).1,(WR r (Kv a l).2).2)
def Jg(l:aC (aC AA)):aC fa:=l.map (.v ai)
theorem ad_{s a:AA}(h:sAA s a=ai)(l:aC gK):fAA s (hAA a++l)=(a,l):=by
 cases s<;>cases a<;>simp only[sAA,bg,du,Nat.beq_eq,aL]at h<;>first|exact h.elim|skip
 all_goals first|rfl|(subst h;rfl)|(obtain⟨rfl,h⟩:=h;first|(obtain rfl:=BX h;rfl)|(simp only[fAA,hAA,B1 h]))
theorem Gs:∀{s a:aC AA},Ln s a=ai->∀l,Iq s (KG a++l)=(a,l)
 |[],[],_,l=>rfl
 |s::ss,a::as,h,l=>by
  simp only[Ln,aL]at h;simp only[Iq,KG,cq,ad_ h.1,Gs h.2]
theorem WS{s a:fa}(h:PE s a=ai)(l:aC gK):Kv s (KH a++l)=(a,l):=by
 cases s<;>cases a<;>simp only[PE,du,aL]at h
 ·obtain⟨h1,h⟩:=h;obtain rfl:=BX h1;simp only[Kv,KH,Gs h]
 ·simp only[Kv,KH,Gs h]
 ·simp only[Kv,KH,wW h]
theorem Ku:∀{s a:aC fa},Y6 s a=ai->∀l,WR s (hAr a++l)=(a,l)
 |[],[],_,l=>rfl
 |s::ss,a::as,h,l=>by
  simp only[Y6,aL]at h;simp only[WR,hAr,cq,WS h.1,Ku h.2]
theorem R0{s a:aC fa}(h:Y6 s a=ai):(WR s (hAr a)).1=a:=by have:=Ku h [];rw[dj]at this;rw[this]
def xAA{B:Type}(s a:AA)(k:aC gK->az B):az B:=
 match s,a with
 | .i k1 _, .i k2 n=>bif decide (k1=k2)then k [.I n]else aj
 | .b _, .b n=>k [.B n]
 | .s _, .s n=>k [.S n]
 | .sh e _, .sh e' n=>bif bD e e' then k [.R n]else aj
 | .ow e x _, .ow e' x' n=>bif bD e e'&&WN x x' then k [.R n]else aj
 | .kp _, .kp n=>k [.R n]
 | .fn f c, .fn f' c'=>bif bD f f'&&EV c c' then k (Ey c')else aj
 | .nl, .nl=>k []
 |_,_=>aj
def Vo{B:Type}:aC AA->aC AA->(aC gK->az B)->az B
 |[],[],k=>k []|s::ss,a::as,k=>xAA s a λl=>Vo ss as λr=>k (l++r)|_,_,_=>aj
def agp{B:Type}(s a:fa)(k:aC gK->az B):az B:=
 match s,a with
 | .v g xs, .v g' ys=>bif WN g g' then Vo xs ys k else aj
 | .pt xs, .pt ys=>Vo xs ys k
 | .fb xs, .fb ys=>bif G8 xs ys then k (Iy ys)else aj
 |_,_=>aj
def xAr{B:Type}:aC fa->aC fa->(aC gK->az B)->az B
 |[],[],k=>k []|s::ss,a::as,k=>agp s a λl=>xAr ss as λr=>k (l++r)|_,_,_=>aj
theorem ago{B:Type}(s a:AA)(k:aC gK->az B):xAA s a k=bif sAA s a then k (hAA a)else none:=by cases s<;>cases a<;>rfl
theorem N5{B:Type}:∀(s a:aC AA) (k:aC gK->az B),Vo s a k=bif Ln s a then k (KG a)else aj
 |[],[],_=>rfl
 |s::ss,a::as,k=>by
  simp only[Vo,ago,N5 ss as,Ln,KG];cases sAA s a<;>rfl
 |[],_::_,_=>rfl
 |_::_,[],_=>rfl
theorem Zl{B:Type}(s a:fa)(k:aC gK->az B):agp s a k=bif PE s a then k (KH a)else none:=by
 cases s<;>cases a<;>simp only[agp,PE,KH,N5]<;>try rfl
 rename_i g xs g' ys;cases WN g g'<;>rfl
theorem Hi{B:Type}:∀(s a:aC fa) (k:aC gK->az B),xAr s a k=bif Y6 s a then k (hAr a)else aj
 |[],[],_=>rfl
 |s::ss,a::as,k=>by
  simp only[xAr,Zl,Hi ss as,Y6,hAr];cases PE s a<;>rfl
 |[],_::_,_=>rfl
 |_::_,[],_=>rfl
def ade{A:Type}(s:aC Ho)(T:Fn s (aC fa))(f:Fn s (az A))(a:aC fa):az A:=xAr (MM s T) a (Wy s f)
def agz(s t:aC Ho)(k:Fn t dz)(c:Fn s aW)(v:Fn s (Pr t)):Fn s (az (aW×dz)):=
 match s with
 |[]=>ah (c,apP t k v)
 |_::s=>λx=>agz s t k (c x) (v x)
theorem Zq{s t:aC Ho}{k:Fn t dz}{c:Fn s aW}{v:Fn s (Pr t)}(x:Tu s):ap s (agz s t k c v) x=ah (ap s c x,apP t k (ap s v x)):=by
 induction s with
 |nil=>rfl
 |cons h s ih=>exact ih _
def dY{s t:aC Ho}(A:Fn s (aC fa))(k:Fn t dz)(c:Fn s aW)(v:Fn s (Pr t)):aC fa->az (aW×dz):=ade s A (agz s t k c v)
def WG{t:aC Ho}(k:Fn t dz)(r:dz):az (Pr t):=
 xAr (MM t k).rs r.rs λl=>xAr (Jg (MM t k).outs) (Jg r.outs) λm=>Wy t (cmp t (j9 t) ah) (l++m)
def okA{s:aC Ho}(A:Fn s (aC fa)):Prop:=∀x,(WR (MM s A) (lv s x)).1=ap s A x
def okK{t:aC Ho}(k:Fn t dz):Prop:=∀x,(⟨(WR (MM t k).rs (lv t x)).1,(WR (Jg (MM t k).outs) (WR (MM t k).rs (lv t x)).2).1⟩:aC fa×aC fa)=⟨(ap t k x).rs,Jg (ap t k x).outs⟩
def okT{s:aC Ho}(T:Fn s (aC (aE×eO))):Prop:=∀x,MV (MM s T) (lv s x)=ap s T x
theorem Jh:∀{a b:aC (aC AA)},Jg a=Jg b->a=b
 |[],[],_=>rfl
 |_::_,_::_,h=>by
  obtain⟨h1,h2⟩:=kg h;obtain⟨_,rfl⟩:=fa.v.inj h1;rw[Jh h2]
 |[],_::_,h=>by cases h
 |_::_,[],h=>by cases h
theorem Ox{t:aC Ho}{k:Fn t dz}(hk:okK k){r:dz}{p:Pr t}(h:WG k r=ah p):r=apP t k p:=by
 unfold WG at h;rw[Hi]at h;cases hb:Y6 (MM t k).rs r.rs with
 |false=>rw[hb]at h;cases h
 |true=>
  rw[hb,au,Hi]at h;cases hc:Y6 (Jg (MM t k).outs) (Jg r.outs)with
  |false=>rw[hc]at h;cases h
  |true=>rw[hc,au]at h;obtain⟨x,h1,h2⟩:=BL h;rw[BM]at h2;obtain rfl:=aJ h2;rw[Wz];have hx:=hk x;rw[<-h1,Ku hb,R0 hc]at hx;obtain⟨e1,e2⟩:=bT hx;have e3:=Jh e2;cases r;cases hr:ap t k x;rw[hr]at e1 e3;cases e1;cases e3;rfl
theorem JA{s t:aC Ho}{A:Fn s (aC fa)}(hA:okA A){k:Fn t dz}{c:Fn s aW}{v:Fn s (Pr t)}{args:aC fa}{r:aW×dz}(h:dY A k c v args=ah r):∃x,args=ap s A x/\r=(ap s c x,apP t k (ap s v x)):=by
 unfold dY ade at h;rw[Hi]at h;cases hb:Y6 (MM s A) args with
 |false=>rw[hb]at h;cases h
 |true=>rw[hb,au]at h;obtain⟨x,h1,h2⟩:=BL h;rw[Zq]at h2;exact⟨x,by rw[<-hA x,<-h1,R0 hb],(aJ h2).symm⟩
def BQ{t:aC Ho}(E:fU)(it:It (Pr t))(F:Func)(k:Fn t dz)(args:aC fa):az (Pr t):=
 match F.body with
 |some c=>tc E it c (inj args) λe σ=>(fin E F args e σ).bind (WG k)
 |none=>aj
def Ib(F:Func)(A:aC fa):aW:=
 (match F.body with|some c=> !(F.name== "runtime.NumGoroutine")&&s9 F.ntmps c|none=>ak)&&zD A&&fK A.length F.ntmps
theorem flh{P:cZ}{E:fU}(hE:eC P E)(hm:P.follows .mixedOrders=ai)(hF:∀g,b7 P E g (E.call g)){g:aE}{F:Func}(hf:P.funcs[g]? =ah F){s t:aC Ho}{A:Fn s (aC fa)}{k:Fn t dz}{it:aE->It (Pr t)}
  (hc:∀x,Ib F (ap s A x)=ai) {l:aC Code} (hl:jS (F.body.getD .skip)=l) (Ca:∀N,∀c∈l,b8 E (it N) c) (hA:okA A) (hk:okK k)
  {c:Fn s aW} {v:Fn s (Pr t)} (h:∀x,wZ (ap s A x)->ap s c x=ai->∃N,BQ E (it N) F k (ap s A x)=ah (ap s v x)):b7 P E g (dY A k c v):=by
 intro args r hr;obtain⟨x,rfl,_⟩:=JA hA hr;have hx:=hc x;unfold Ib at hx;cases hb:F.body with
 |none=>rw[hb]at hx;cases hx
 |some code=>
  rw[hb]at hl hx;have hl:jS code=l:=hl;simp only[aL,dv]at hx;refine aee hE hF hm hf hb (by rw[hx.1.1.1,hx.1.1.2];rfl) (λargs r hr=> ?_) _ r hr;obtain⟨x,rfl,hq⟩:=JA hA hr;obtain⟨h1,rfl⟩:=bT hq;have hx:=hc x;unfold Ib at hx;simp only[aL]at hx;refine⟨hx.1.2,λhf=> ?_⟩
  obtain⟨N,h⟩:=h x hf h1.symm;refine⟨cG hx.2,Pr t,it N,λe σ=>(fin E F (ap s A x) e σ).bind (WG k),ap s v x,by rw[hl];exact Ca N, ?_,λe σ he=> ?_⟩
  ·unfold BQ at h;rw[hb]at h;exact h
  ·obtain⟨r,hr,hd⟩:=Option.bind_eq_some_iff.1 he;rw[hr,Ox hk hd]
theorem adT{s t:aC Ho}{c:Fn s aW}{v:Fn s (Pr t)}{w:Fn s (az (Pr t))}{d:Pr t}(hc:cmp s w nz=c)(hv:cmp s w (λo=>o.getD d)=v)(x:Tu s)(h:ap s c x=ai):ap s w x=ah (ap s v x):=by
 subst hc hv;rw[BM]at h;rw[BM];cases hw:ap s w x with
 |none=>rw[hw]at h;cases h
 |some y=>rfl
theorem fl{P:cZ}{E:fU}(hE:eC P E)(hm:P.follows .mixedOrders=ai)(hF:∀g,b7 P E g (E.call g)){g:aE}{F:Func}(hf:P.funcs[g]? =ah F){s t:aC Ho}{A:Fn s (aC fa)}{k:Fn t dz}{it:aE->It (Pr t)}
  (hc:∀x,Ib F (ap s A x)=ai) {l:aC Code} (hl:jS (F.body.getD .skip)=l) (Ca:∀N,∀c∈l,b8 E (it N) c) (hA:okA A) (hk:okK k)
  {c:Fn s aW} {v:Fn s (Pr t)} {w:aE->Fn s (az (Pr t))} {u:Fn s (az (Pr t))} {d:Pr t} (N:aE) (h:∀N x,BQ E (it N) F k (ap s A x)=ap s (w N) x) (hw:w N=u) (h1:cmp s u nz=c) (h2:cmp s u (λo=>o.getD d)=v):b7 P E g (dY A k c v):=
 flh hE hm hF hf hc hl Ca hA hk λx _ hx=>⟨N,(h N x).trans (by rw[hw];exact adT h1 h2 x hx)⟩
def ct:(s:aC Ho)->Fn s aW
 |[]=>ai|_::s=>λ_=>ct s
abbrev Kt(R:Type):=Ex->St->az R
abbrev Tb:=aC (aE×eO)
def J{R:Type}{s:aC Ho}(T:Fn s Tb)(e:Ex)(K:Kt R):Fn s (az R):=cmp s T λt=>K e (fO t)
def al{R:Type}{s:aC Ho}(T:Fn s Tb)(f:Kt R->Fn s (az R))(o:Tb->Kt R->az R):Tb->Kt R->az R:=λL K=>bif zC (MM s T) L then Wy s (f K) (IK L)else o L K
def an{R:Type}:Tb->Kt R->az R:=λ_ _=>aj
def lp{R:Type}(n:aE)(a:Tb->Kt R->az R)(o:It R):It R:=λn6 f cn L K=>bif bD n6 n then a L K else o n6 f cn L K
def ln{R:Type}:It R:=λ_ _ _ _ _=>aj
theorem Ww{R:Type}{s:aC Ho}{T:Fn s Tb}(hT:okT T){f:Kt R->Fn s (az R)}{o:Tb->Kt R->az R}{L:Tb}{K:Kt R}{r:R}(h:al T f o L K=ah r):(∃x,L=ap s T x/\ap s (f K) x=ah r)\/o L K=ah r:=by
 unfold al at h;cases hb:zC (MM s T) L with
 |false=>rw[hb]at h;exact .inr h
 |true=>rw[hb]at h;obtain⟨x,h1,h2⟩:=BL h;exact .inl ⟨x,by rw[<-hT x,<-h1,Ir hb],h2⟩
section
variable {R:Type} {E:fU} {it:It R} {C:Code} {n:aE}
def Good(E:fU)(it:It R)(C:Code)(n:aE)(a:Tb->Kt R->az R):Prop:=∀L K r,a L K=ah r->∃m,iter (tc E it C) (canon (E.zX n)) m (fO L) K=ah r
def Wd(E:fU)(it:It R)(C:Code)(n:aE)(K:Kt R){s:aC Ho}(T:Fn s Tb)(l:aE->Fn s (az R)):Prop:=∀m x,iter (tc E it C) (canon (E.zX n)) m (fO (ap s T x)) K=ap s (l m) x
theorem oE:Good E it C n an:=λ_ _ _ h=>by cases h
theorem M3{s:aC Ho}{T:Fn s Tb}(hT:okT T){l:Kt R->aE->Fn s (az R)}{N:aE}{o:Tb->Kt R->az R}(h:∀K,Wd E it C n K T (l K))(ho:Good E it C n o):Good E it C n (al T (λK=>l K N) o):=by
 intro L K r hq;rcases Ww hT hq with ⟨x,rfl,hx⟩|hq
 ·exact⟨N,(h K N x).trans hx⟩
 ·exact ho L K r hq
theorem lom(n:aE)(hr:gE C=n){a:Tb->Kt R->az R}(hi:∀L K,it n (tc E it C) (canon (E.zX n)) L K=a L K)(h:Good E it C n a):b8 E it C:=by intro L K q;rw[hr,hi];exact h L K q
theorem wf{K:Kt R}{s:aC Ho}{T:Fn s Tb}{l:aE->Fn s (az R)}{m:aE}(h:∀x,iter (tc E it C) (canon (E.zX n)) m (fO (ap s T x)) K=ap s (l m) x):cmp s T (λt=>iter (tc E it C) (canon (E.zX n)) m (fO t) K)=l m:=
 adS λy=>by rw[BM,h]
theorem wl{K:Kt R}{s:aC Ho}{T:Fn s Tb}{l:aE->Fn s (az R)}(r:(St->az R)->Fn s (az R))(h0:∀x,ap s (l 0) x=aj)
  (h1:∀m,(∀x,iter (tc E it C) (canon (E.zX n)) m (fO (ap s T x)) K=ap s (l m) x)->r (λσ=>iter (tc E it C) (canon (E.zX n)) m σ K)=l (m+1))
  (h:∀g x,tc E it C (fO (ap s T x)) (ED g (canon (E.zX n)) K)=ap s (r g) x):Wd E it C n K T l:=by
 intro m;induction m with
 |zero=>intro x;rw[h0];rfl
 |succ m ih=>intro x;rw[O0,h,h1 m ih]
theorem lo1(n:aE){s:aC Ho}(T:Fn s Tb)(hr:gE C=n)(hT:okT T)(l:Kt R->aE->Fn s (az R))(r:Kt R->Fn s (az R)->Fn s (az R)){N:aE}
  (hi:∀L K,it n (tc E it C) (canon (E.zX n)) L K=al T (λK=>l K N) an L K) (h0:∀K x,ap s (l K 0) x=aj) (h1:∀K n,l K (n+1)=r K (l K n))
  (h:∀K g x,tc E it C (fO (ap s T x)) (ED g (canon (E.zX n)) K)=ap s (r K (cmp s T λt=>g (fO t))) x):b8 E it C:=
 lom n hr hi (M3 hT (λK=>wl (λg=>r K (cmp s T λt=>g (fO t))) (h0 K) (λm i=>by rw[h1];exact lI (r K) (wf i)) (h K)) oE)
end
end Go.FG

namespace Go.FG.Lib
def cU:aE:=18446744073709551616
def lt{α β:Type}(a:α)(f:α->β):β:=f a
theorem db{α:Type}{o:az α}{x d:α}(h:o=ah x):nz o=ai/\Z4 o d=x:=by rw[h];exact⟨rfl,rfl⟩
theorem some_{α:Type}{o:az α}{d:α}(h:nz o=ai):o=ah (Z4 o d):=by
 cases o with
 |none=>cases h
 |some x=>rfl
theorem fQ{σ β:Type}(F:aE->σ->β)(mu:σ->aE)(inv:σ->Prop)(res:σ->β)
  (step:∀n s,inv s->F (n+1) s=res s\/∃s',inv s'/\mu s'<mu s/\res s'=res s/\F (n+1) s=F n s'):∀n s,inv s->mu s<n->F n s=res s:=by
 intro n;induction n with
 |zero=>intro s _ h;omega
 |succ n ih=>
  intro s hi hm;rcases step n s hi with h|⟨s',h1,h2,h3,h4⟩
  ·exact h
  ·rw[h4,<-h3];exact ih s' h1 (by omega)
theorem dn(i n:aE):decide ((i:ax)<(n:ax))=decide (i<n):=by rw[ca];omega
theorem cE(i:aE):decide (0<=(i:ax))=true:=by simp
theorem MP{i n:aE}(h:i<n):decide ((i:ax)<(n:ax))=true:=by simp;omega
theorem RV{i n:aE}(h:¬i<n):decide ((i:ax)<(n:ax))=false:=by simp;omega
theorem dZ(i:aE):aZ (i:ax)=i:=rfl
theorem c6{i n:aE}(h:i<n)(hn:n<=9223372036854775807):bH ((i:ax)+1)=((i+1:aE):ax):=by rw[iE (by omega) (by omega)];omega
theorem oD{xs:aQ}{i:aE}(h:i<xs.length):xs.getD i []=xs[i]:=by simp[j_,h]
theorem cD{xs:aQ}{i j:aE}(h:i<xs.length):ar xs i j=xs[i].getD j (.b ak):=by unfold ar;rw[oD h]
theorem jk(xs:aQ)(i j:aE)(ys:aC CV):(eA xs i j ys).length=xs.length:=by unfold eA;simp
theorem oG(ks:aC Ck)(n:aE):(aN ks n).length=n:=by unfold aN;simp
theorem b_{n b:aE}(h:n*b<=140737488355328)(h2:n<=9223372036854775807):cg n b=true:=by unfold cg;simp;omega
theorem Bj{xs:aQ}{i j:aE}{ys:aC CV}(h:i<xs.length):eA xs i j ys=xs.set i (iD xs[i] j ys):=by unfold eA;rw[oD h]
theorem eF{x:aQ}{i:aE}(h:i<x.length):x.drop i=x[i]::x.drop (i+1):=dD h
def up:ax->aE->ax|k,0=>k|k,n+1=>up (bH (k+1)) n
theorem LL{x:ax}(h:0<=x):bH x<=x:=by
 have e:bH x=if(decide (x%18446744073709551616≥9223372036854775808))=ai then x%18446744073709551616-18446744073709551616 else x%18446744073709551616:=rfl
 rw[e];split<;>omega
def vb(x:ax):aQ:=
 if x>127 then [CV.i ba (bE ba (bH (cK x 128+128)))]::vb (bH (cL x 128))else [[CV.i ba (bE ba x)]]
termination_by x.toNat
decreasing_by
 rename_i h
 have h1:cL x 128=x/128:=g7 (by omega)
 have h2:=LL (x:=cL x 128) (by omega)
 omega
theorem wa{x:ax}(h:x>127):vb x=[CV.i ba (bE ba (bH (cK x 128+128)))]::vb (bH (cL x 128)):=by rw[vb,bw h]
theorem mV{x:ax}(h:¬x>127):vb x=[[CV.i ba (bE ba x)]]:=by rw[vb,bG h]
theorem zy{n:aE}(h:n<=140737488355328):cg n 1=true:=b_ (by omega) (by omega)
theorem iI(y:aC CV)(ks:aC Ck):(aA (aN ks 1) 0 y)=[y]:=rfl
theorem NW{R:Type}(F:aE->ax->aQ->az R)(k:aq->az R)
  (h1:∀n x acc,x>127->acc.length<=100->F (n+1) x acc=F n (bH (cL x 128)) (acc++[[CV.i ba (bE ba (bH (cK x 128+128)))]]))
  (h2:∀n x acc,¬x>127->acc.length<=100->F (n+1) x acc=k (bytesOf (acc++[[CV.i ba (bE ba x)]]))) (x:ax) (hx:x<=9223372036854775807):F (x.toNat+1) x []=k (bytesOf (vb x)):=by
 have:=fQ (λn (s:ax×aQ)=>F n s.1 s.2) (λs=>s.1.toNat) (λs=>s.2.length<=100/\(1<=s.1->2^s.2.length*s.1<=9223372036854775808)) (λs=>k (bytesOf (s.2++vb s.1))) (λn s hs=>by
  obtain⟨x,acc⟩:=s;obtain⟨hl,hb⟩:=hs;dsimp only at hl hb⊢;by_cases h:x>127
  ·right;have e1:cL x 128=x/128:=g7 (by omega);have hp:(1:ax)<=2^acc.length:=by
    have:(0:ax)<2^acc.length:=by exact Int.pow_pos (by omega)
    omega
   have hxb:x<=9223372036854775808:=by have h3:=hb (by omega);have:1*x<=2^acc.length*x:=De hp (by omega);omega
   have e2:bH (cL x 128)=x/128:=by rw[e1,iE (by omega) (by omega)]
   have h64:acc.length<64:=by
    rcases qJ acc.length 64 with h5|h5
    ·exact h5
    ·exfalso;have h6:(2:ax)^64<=2^acc.length:=by have:=Nat.pow_le_pow_right (n:=2) (by omega) h5;exact_mod_cast this
     have h7:=hb (by omega);have h8:(2:ax)^acc.length*1<=2^acc.length*x:=BA (by omega) (by omega);have:(2:ax)^64=18446744073709551616:=by decide
     omega
   refine⟨(bH (cL x 128),acc++[[CV.i ba (bE ba (bH (cK x 128+128)))]]),⟨by simp;omega,λ_=> ?_⟩,by dsimp only;omega, ?_,h1 n x acc h hl⟩
   ·dsimp only;rw[e2,bV,bz,uH];have h7:=hb (by omega);have h9:2*(x/128)<=x:=by omega
    have h8:(2:ax)^acc.length*(2*(x/128))<=2^acc.length*x:=BA h9 (by omega);rw[Int.mul_assoc];omega
   ·dsimp only;rw[wa h,cq];rfl
  ·left;rw[mV h];exact h2 n x acc h hl) (x.toNat+1) (x,[]) ⟨by simp,λh=>by simp;omega⟩ (by dsimp only;omega)
 simpa using this
theorem RW{a b c:aE}{inst:Decidable (a+b<=c)}(h:a+b<=c): @decide (a+b<=c) inst=true:=aG h
theorem af7:∀(n:aE) (x:ax),x<2^n->(vb x).length<=n+1:=by
 intro n;induction n with
 |zero=>intro x hx;rw[mV (by omega)];simp
 |succ n ih=>
  intro x hx;by_cases h:x>127
  ·have e1:cL x 128=x/128:=g7 (by omega);have h2:=LL (x:=cL x 128) (by omega);rw[wa h];have h3:bH (cL x 128)<2^n:=by rw[uH]at hx;omega
   have:=ih _ h3;simp;omega
  ·rw[mV h];simp
theorem gJ(xs:aQ):(bytesOf xs).size=xs.length:=by unfold bytesOf;simp[cj]
theorem jJ{x:ax}(h:x<=9223372036854775807):(bytesOf (vb x)).size<=64:=by
 rw[gJ];exact af7 63 x (by have:(2:ax)^63=9223372036854775808:=by decide
                           omega)
theorem j8(a b:aq):(a++b).size=a.size+b.size:=dI
theorem qt(l:aC Hu):cF l l=true:=by
 induction l with
 |nil=>rfl
 |cons a l ih=>simp only[cF,ih,jY];exact beq_self_eq_true a
theorem Gm(s:aq)(i:aE):gQ s i<256:=(s.data.getD i 0).toNat_lt
def rv(t:aq)(a:aE):aE->aE->ax->ax×ax×aW
 |0,_,_=>(0,0,ak)
 |f+1,j,n=>
  if a+j<t.size then
   (if(gQ t (a+j):ax)>127 then rv t a f (j+1) (n+(gQ t (a+j):ax)%128*128^j)
   else if(j>0/\gQ t (a+j)=0)\/n+(gQ t (a+j):ax)%128*128^j>1000000000 then(0,0,ak)
   else(n+(gQ t (a+j):ax)%128*128^j,((a+j+1:aE):ax),ai))
  else(0,0,ak)
theorem s6{α:Type}{c:aW}{x y:α}(h:c=ai):(bif c then x else y)=x:=by rw[h];rfl
theorem RK{α:Type}{c:aW}{x y:α}(h:c=ak):(bif c then x else y)=y:=by rw[h];rfl
theorem zQ{p:Prop}{inst:Decidable p}(h:p): @decide p inst=true:=aG h
theorem Ii{p:Prop}{inst:Decidable p}(h:¬p): @decide p inst=false:=aK h
def num(t:aq):aE->aE->ax
 |_,0=>0
 |a,k+1=>(gQ t a:ax)%128+128*num t (a+1) k
theorem Bg(t:aq):∀(k a:aE),0<=num t a k/\num t a k<128^k
 |0,a=>by simp[num]
 |k+1,a=>by
  have:=Bg t k (a+1);simp only[num,uH];omega
theorem xI(t:aq):∀(k a:aE),num t a (k+1)=num t a k+(gQ t (a+k):ax)%128*128^k
 |0,a=>by simp[num]
 |k+1,a=>by
  rw[num,xI t k (a+1),num,show a+1+k=a+(k+1)by omega,uH];rw[Int.mul_add,<-Int.add_assoc];congr 1;rw[Int.mul_comm 128,Int.mul_assoc]
theorem Nr(t:aq):∀(k a:aE),(gQ t (a+k):ax)%128≠0->1<=num t a (k+1)
 |0,a,h=>by simp[num]at h⊢;omega
 |k+1,a,h=>by
  rw[num];have:=Nr t k (a+1) (by rw[show a+1+k=a+(k+1)by omega];exact h);omega
theorem Vl(t:aq):∀(k a:aE),(∀i,i<k->128<=gQ t (a+i))->gQ t (a+k)<128->(k=0\/gQ t (a+k)≠0)->num t a (k+1)<=9223372036854775807->vb (num t a (k+1))=(iP a (k+1)).map λi=>[CV.i ba (gQ t i:ax)]
 |0,a,_,h2,_,_=>by
  have e:num t a 1=(gQ t a:ax):=by simp[num]at h2⊢;omega
  simp only[yH]at h2;rw[e,mV (by omega)];have hw:bE ba (gQ t a:ax)=(gQ t a:ax):=by show(gQ t a:ax)%256=_;omega
  rw[hw];rfl
 |k+1,a,h1,h2,h3,h4=>by
  have hb:=Gm t a;have h0:=h1 0 (by omega);rw[yH]at h0;have iw:gQ t (a+(k+1))≠0:=by rcases h3 with h3|h3;(·omega);exact h3
  have kZ:=Nr t k (a+1) (by rw[show a+1+k=a+(k+1)by omega];omega);have e:num t a (k+1+1)=(gQ t a:ax)%128+128*num t (a+1) (k+1):=rfl;rw[e]at h4⊢;have e1:cK ((gQ t a:ax)%128+128*num t (a+1) (k+1)) 128=(gQ t a:ax)%128:=by rw[ij (by omega)];omega
  have e2:cL ((gQ t a:ax)%128+128*num t (a+1) (k+1)) 128=num t (a+1) (k+1):=by rw[g7 (by omega)];omega
  have e3:bH ((gQ t a:ax)%128+128)=(gQ t a:ax):=by rw[iE (by omega) (by omega)];omega
  have hw:bE ba (gQ t a:ax)=(gQ t a:ax):=by show(gQ t a:ax)%256=_;omega
  rw[wa (by omega),e1,e2,e3,hw,iE (by omega) (by omega),Vl t k (a+1) (λi hi=>by rw[show a+1+i=a+(i+1)by omega];exact h1 (i+1) (by omega)) (by rw[show a+1+k=a+(k+1)by omega];exact h2) (by rw[show a+1+k=a+(k+1)by omega];exact .inr iw) (by omega)];rfl
theorem Bo:∀(k:aE) (x:ax),x<128^(k+1)->(vb x).length<=k+1
 |0,x,h=>by rw[mV (by simp at h;omega)];simp
 |k+1,x,h=>by
  by_cases hx:x>127
  ·have e1:cL x 128=x/128:=g7 (by omega);have h2:=LL (x:=cL x 128) (by omega);rw[wa hx];have h3:bH (cL x 128)<128^(k+1):=by rw[uH]at h;omega
   have:=Bo k _ h3;simp;omega
  ·rw[mV hx];simp
theorem H4{t:aq}{a m:aE}(h:a+m<=t.size):(bytesOf ((iP a m).map λi=>[CV.i ba (gQ t i:ax)])).data.toList=(t.extract a (a+m)).data.toList:=by
 have h1:(bytesOf ((iP a m).map λi=>[CV.i ba (gQ t i:ax)])).data.toList=(iP a m).map λi=>t.data.getD i 0:=by unfold bytesOf;simp[bI,gQ]
 rw[h1];apply VC;intro i;have hs:t.size=t.data.size:=rfl;have M9:a+m<=t.data.size:=by rw[<-hs];exact h
 simp only[gk,iv,g8];by_cases hi:i<m
 ·have h3:a+i<t.data.size:=by omega
  rw[bJ,List.getElem?_range' hi,d_,bw (by omega),dR];simp only[jc,Nat.one_mul,cW,eI];rw[Array.getElem?_eq_getElem h3];rfl
 ·rw[kT (by simp;omega),kT (by simp;omega)]
theorem beq_iff{l r:aC Hu}:cF l r=ai↔l=r:=by
 constructor
 ·intro h;induction l generalizing r with
  |nil=>cases r with|nil=>rfl|cons=>cases h
  |cons a l ih=>
   cases r with
   |nil=>cases h
   |cons b r=>simp only[cF,aL]at h;rw[eq_of_beq h.1,ih h.2]
 ·rintro rfl;exact qt l
theorem canon(t:aq)(k a:aE)(h:a+(k+1)<=t.size)(h1:∀i,i<k->128<=gQ t (a+i))(h2:gQ t (a+k)<128)(h4:num t a (k+1)<=9223372036854775807):
  cF (bytesOf (vb (num t a (k+1)))).toList (t.extract a (a+(k+1))).toList= !decide (k>0/\gQ t (a+k)=0):=by
 rw[kh,kh];by_cases hc:k>0/\gQ t (a+k)=0
 ·rw[aG hc,aY];obtain⟨k',rfl⟩:∃k',k=k'+1:=⟨k-1,by omega⟩
  cases hb:cF (bytesOf (vb (num t a (k'+1+1)))).data.toList (t.extract a (a+(k'+1+1))).data.toList with
  |false=>rfl
  |true=>
   exfalso;have he:=lI bM (beq_iff.1 hb);have e:num t a (k'+1+1)=num t a (k'+1):=by rw[xI,hc.2];simp
   have hl:=Bo k' (num t a (k'+1)) (Bg t (k'+1) a).2;rw[e]at he;have h5:(bytesOf (vb (num t a (k'+1)))).data.toList.length=(vb (num t a (k'+1))).length:=gJ _;have h6:(t.extract a (a+(k'+1+1))).data.toList.length=k'+1+1:=by show(t.extract a (a+(k'+1+1))).size=_;rw[yr];omega
   omega
 ·rw[aK hc,bQ];have:=Vl t k a h1 h2 (by omega) h4;rw[this];exact beq_iff.2 (H4 h)
theorem sZ{a b:aq}(h:a.data.toList=b.data.toList):a=b:=by obtain⟨⟨a⟩⟩:=a;obtain⟨⟨b⟩⟩:=b;simp at h;rw[h]
theorem fj{a b:aq}:cF a.toList b.toList=decide (a=b):=by
 rw[kh,kh];by_cases h:a=b
 ·subst h;rw[aG rfl];exact qt _
 ·rw[aK h];cases hb:cF a.data.toList b.data.toList with
  |false=>rfl
  |true=>exact cO (sZ (beq_iff.1 hb)) h
theorem abR(t:aq)(a:aE):∀(f j:aE) (n:ax) (m x:ax),rv t a f j n=(m,x,ai)->n=num t a j->(∀i,i<j->128<=gQ t (a+i))->
  ∃k,x=((a+(k+1):aE):ax)/\a+(k+1)<=t.size/\0<=m/\m<=1000000000/\bytesOf (vb m)=t.extract a (a+(k+1))
 |0,j,n,m,x,h,_,_=>by simp[rv]at h
 |f+1,j,n,m,x,h,hn,hge=>by
  have hb:=Gm t (a+j);have Xb:n+(gQ t (a+j):ax)%128*128^j=num t a (j+1):=by rw[xI,<-hn]
  simp only[rv]at h;by_cases gz:a+j<t.size
  ·rw[bw gz]at h;by_cases hc:(gQ t (a+j):ax)>127
   ·rw[bw hc]at h;refine abR t a f (j+1) _ m x h Xb (λi hi=> ?_);by_cases OQ:i<j
    ·exact hge i OQ
    ·have:i=j:=by omega
     subst this;omega
   ·rw[bG hc]at h;by_cases hz:(j>0/\gQ t (a+j)=0)\/n+(gQ t (a+j):ax)%128*128^j>1000000000
    ·rw[bw hz]at h;simp at h
    ·rw[bG hz]at h;simp only[jd,and_true]at h;obtain⟨rfl,rfl⟩:=h;have hr:=Bg t (j+1) a;rw[<-Xb]at hr;refine⟨j,by omega,by omega,hr.1,by omega, ?_⟩
     have:=canon t j a (by omega) hge (by omega) (by rw[<-Xb];omega);rw[fj,show decide (j>0/\gQ t (a+j)=0)=ak from aK (λh=>hz (.inl h)),bQ,<-Xb]at this;exact cm this
  ·rw[bG gz]at h;simp at h
def eB(t:aq)(gP:ax):ax×ax×aW:=if 0<=gP/\gP<=t.size then rv t gP.toNat 5 0 0 else(0,0,ak)
theorem jV{t:aq}{gP m x:ax}(h:eB t gP=(m,x,ai)):0<=gP/\gP<x/\x<=t.size/\0<=m/\m<=1000000000/\bytesOf (vb m)=t.extract gP.toNat x.toNat:=by
 unfold eB at h;by_cases hn:0<=gP/\gP<=t.size
 ·rw[bw hn]at h;obtain⟨k,h1,h2,h3,h4,h5⟩:=abR t gP.toNat 5 0 0 m x h rfl (λi hi=>by omega);exact⟨hn.1,by omega,by omega,h3,h4,by rw[h1];exact h5⟩
 ·rw[bG hn]at h;simp at h
def g6(t:aq)(gP:ax):aq×ax×aW:=
 match eB t gP with
 |(n,x,ai)=>if n<=20000/\n<=t.size-x then(t.extract x.toNat (x+n).toNat,x+n,ai)else(⟨#[]⟩,0,ak)
 |_=>(⟨#[]⟩,0,ak)
theorem vl{R:Type}{t:aq}(ht:t.size<=4611686018427387904)(gP:ax)(kr:aq->ax->aW->az R):
  (bif(!(eB t gP).2.2)then(kr ({data:= #[]}) 0 ak)else(bif(decide ((eB t gP).1>20000))then(kr ({data:= #[]}) 0 ak)else(bif(decide ((eB t gP).1>bH ((↑(cj t):ax)-(eB t gP).2.1)))then(kr ({data:= #[]}) 0 ak)else(bif(iy (eB t gP).2.1 (bH ((eB t gP).2.1+(eB t gP).1)) (↑(cj t):ax))then(kr (bO t (aZ (eB t gP).2.1) (aZ (bH ((eB t gP).2.1+(eB t gP).1)))) (bH ((eB t gP).2.1+(eB t gP).1)) ai)else(aj)))))=kr (g6 t gP).1 (g6 t gP).2.1 (g6 t gP).2.2:=by
 unfold g6;cases hr:eB t gP with
 |mk n r=>
  obtain⟨x,ok⟩:=r;cases ok with
  |false=>rfl
  |true=>
   obtain⟨h1,h2,h3,h4,h5,h6⟩:=jV hr;have e1:bH ((t.size:ax)-x)=t.size-x:=iE (by omega) (by omega);have e2:bH (x+n)=x+n:=iE (by omega) (by omega);simp only[aY,ay,e1,e2];by_cases hc:n<=20000/\n<=t.size-x
   ·rw[bw hc,RK (Ii (by omega)),RK (Ii (by omega)),s6 (by simp[iy];omega)]
   ·rw[bG hc];by_cases hb:n>20000
    ·rw[s6 (zQ hb)]
    ·rw[RK (Ii hb),s6 (zQ (by omega))]
theorem G4{t:aq}{gP x:ax}{s:aq}(h:g6 t gP=(s,x,ai)):0<=gP/\gP<x/\x<=t.size/\s.size<=20000/\bytesOf (vb s.size)++s=t.extract gP.toNat x.toNat:=by
 unfold g6 at h;cases hr:eB t gP with
 |mk n r=>
  obtain⟨y,ok⟩:=r;rw[hr]at h;cases ok with
  |false=>simp at h
  |true=>
   dsimp only at h;obtain⟨h1,h2,h3,h4,h5,h6⟩:=jV hr;split at h
   ·rename_i hc;simp only[jd,and_true]at h;obtain⟨rfl,rfl⟩:=h;have gi:(t.extract y.toNat (y+n).toNat).size=n.toNat:=by rw[yr];omega
    refine⟨h1,by omega,by omega,by rw[gi];omega, ?_⟩
    rw[gi,show((n.toNat:aE):ax)=n by omega,h6];apply sZ;simp only[mo,gk,vn,iv,g8];rw[show(y+n).toNat-gP.toNat=(y.toNat-gP.toNat)+n.toNat by omega,Z3,vC,show gP.toNat+(y.toNat-gP.toNat)=y.toNat by omega,show(y+n).toNat-y.toNat=n.toNat by omega]
   ·simp at h
theorem wV(t:aq){i j k:aE}(h1:i<=j)(h2:j<=k):t.extract i j++t.extract j k=t.extract i k:=by apply sZ;simp only[mo,gk,vn,iv,g8];rw[show k-i=(j-i)+(k-j)by omega,Z3,vC,show i+(j-i)=j by omega]
theorem Gr(t:aq):t.extract 0 t.size=t:=by apply sZ;simp only[gk,iv,g8,fu,rX];exact ja (by simp)
def fi(p:aE->aW):aE->aE->ax
 |0,_=> -1
 |d+1,i=>bif p i then(i:ax)else fi p d (i+1)
theorem o_(p:aE->aW):∀d i,fi p d i= -1/\(∀k,i<=k->k<i+d->p k=ak)\/∃k,i<=k/\k<i+d/\fi p d i=(k:ax)/\p k=ai/\∀q,i<=q->q<k->p q=ak
 |0,i=> .inl ⟨rfl,λk _ _=>by omega⟩
 |d+1,i=>by
  unfold fi;cases hp:p i with
  |true=>exact .inr ⟨i,by omega,by omega,rfl,hp,λq _ _=>by omega⟩
  |false=>
   rcases o_ p d (i+1)with ⟨h1,h2⟩|⟨k,h1,h2,h3,h4,h5⟩
   ·refine .inl ⟨h1,λk hk1 zW=> ?_⟩;by_cases h:k=i
    ·subst h;exact hp
    ·exact h2 k (by omega) (by omega)
   ·refine .inr ⟨k,by omega,by omega,h3,h4,λq hq1 hq2=> ?_⟩;by_cases h:q=i
    ·subst h;exact hp
    ·exact h5 q (by omega) hq2
end Go.FG.Lib
namespace Go.FG.Pu
def tu(xs:aQ)(i:aE)(ys:aQ):aQ:=xs.take i++ys++xs.drop i
end Go.FG.Pu

namespace Go.FG
class PT (P:outParam cZ) (T:outParam Tab):Prop where
 e:eC P T
 m:P.follows .mixedOrders=ai
abbrev As:=aC fa
abbrev AA.n(x:ax):AA:= .i .i64 x
abbrev AV.n(x:ax):AV:= .i .i64 x
abbrev CV.n(x:ax):CV:= .i .i64 x
abbrev aI(x:ax):fa:= .v ak [.n x]
abbrev aB(x:aW):fa:= .v ak [.b x]
abbrev aS(x:aq):fa:= .v ak [.s x]
abbrev aH(e:aE)(x:aQ):fa:= .v ak [.sh e x]
abbrev aO(e:aE)(x:aQ):fa:= .v ak [.ow e ai x]
abbrev aV(l:aC AA):fa:= .v ai l
abbrev cA(k:aE)(a:AV):aE×eO:=(k, .v (.v ak [a]))
abbrev cV(k:aE)(l:aC AV):aE×eO:=(k, .v (.v ai l))
abbrev cI(k:aE)(x:ax):aE×eO:=cA k (.n x)
abbrev cP(k n:aE):aE×eO:=cA k (.bp n 0)
abbrev cH(k e:aE)(x:aQ):aE×eO:=cA k (.sh e x)
abbrev oB(k:aE)(l:aC AV):aE×eO:=(k, .o (.box l))
abbrev oR(k e:aE)(x:aQ):aE×eO:=(k, .o (.row e ai x))
variable {P:cZ} {T:Tab} [i:PT P T] {E:fU} {g:aE} {F:Func} {s t:aC Ho} {A:Fn s As} {k:Fn t dz}
theorem fq(hF:∀g,b7 P T g (E.call g))(hf:P.funcs[g]? =ah F){it:aE->It (Pr t)}{l:aC Code}(Ca:∀N,∀c∈l,b8 E (it N) c)
  {c:Fn s aW} {v:Fn s (Pr t)} (b:aE->Fn t (az (Pr t))->Fn s (az (Pr t))) (u:Fn s (az (Pr t))) {d:Pr t} (hT:E.toTab=T:=by rfl)
  (hc:∀x,Ib F (ap s A x)=true:=by intro x;kernel_rfl) (hl:jS (F.body.getD .skip)=l:=by kernel_rfl) (hA:okA A:=by intro x;rfl) (hk:okK k:=by intro x;rfl)
  (h:∀N x,BQ E (it N) F k (ap s A x)=ap s (b N (cmp t (j9 t) ah)) x:=by intro N x;kernel_rfl) (hw:b Lib.cU (cmp t (j9 t) ah)=u:=by rfl) (h1:cmp s u nz=c:=by rfl) (h2:cmp s u (λo=>o.getD d)=v:=by rfl):b7 P T g (dY A k c v):=by subst hT;exact fl i.e i.m hF hf hc hl Ca hA hk Lib.cU h hw h1 h2
theorem fr(hF:∀g,b7 P T g (E.call g))(hf:P.funcs[g]? =ah F)
  {c:Fn s aW} {v:Fn s (Pr t)} (b:Fn t (az (Pr t))->Fn s (az (Pr t))) (u:Fn s (az (Pr t))) {d:Pr t} (hT:E.toTab=T:=by rfl)
  (hc:∀x,Ib F (ap s A x)=true:=by intro x;kernel_rfl) (hl:jS (F.body.getD .skip)=[]:=by kernel_rfl) (hA:okA A:=by intro x;rfl) (hk:okK k:=by intro x;rfl)
  (h:∀x,BQ E ln F k (ap s A x)=ap s (b (cmp t (j9 t) ah)) x:=by intro x;kernel_rfl) (hw:b (cmp t (j9 t) ah)=u:=by rfl) (h1:cmp s u nz=c:=by rfl) (h2:cmp s u (λo=>o.getD d)=v:=by rfl):b7 P T g (dY A k c v):=by subst hT;exact fl i.e i.m hF hf hc hl (it:=λ_=>ln) (λ_=>bC) hA hk (w:=λ_=>b (cmp t (j9 t) ah)) 0 (λ_=>h) hw h1 h2
theorem ft(hF:∀g,b7 P T g (E.call g))(hf:P.funcs[g]? =ah F)
  {v:Fn s (Pr t)} (b:Fn t (az (Pr t))->Fn s (az (Pr t))) (hv:∀x,ap s (b (cmp t (j9 t) ah)) x=ah (ap s v x)) (hT:E.toTab=T:=by rfl)
  (hc:∀x,Ib F (ap s A x)=true:=by intro x;kernel_rfl) (hl:jS (F.body.getD .skip)=[]:=by kernel_rfl) (hA:okA A:=by intro x;rfl) (hk:okK k:=by intro x;rfl)
  (h:∀x,BQ E ln F k (ap s A x)=ap s (b (cmp t (j9 t) ah)) x:=by intro x;kernel_rfl):b7 P T g (dY A k (ct s) v):=by subst hT;exact flh i.e i.m hF hf hc hl (it:=λ_=>ln) (λ_=>bC) hA hk λx _ _=>⟨0,(h x).trans (hv x)⟩
theorem fh(hF:∀g,b7 P T g (E.call g))(hf:P.funcs[g]? =ah F){it:aE->It (Pr t)}{l:aC Code}(Ca:∀N,∀c∈l,b8 E (it N) c)
  {c:Fn s aW} {v:Fn s (Pr t)} (b:aE->Fn t (az (Pr t))->Fn s (az (Pr t))) (hv:∀x,wZ (ap s A x)->ap s c x=ai->∃N,ap s (b N (cmp t (j9 t) ah)) x=ah (ap s v x)) (hT:E.toTab=T:=by rfl)
  (hc:∀x,Ib F (ap s A x)=true:=by intro x;kernel_rfl) (hl:jS (F.body.getD .skip)=l:=by kernel_rfl) (hA:okA A:=by intro x;rfl) (hk:okK k:=by intro x;rfl)
  (h:∀N x,BQ E (it N) F k (ap s A x)=ap s (b N (cmp t (j9 t) ah)) x:=by intro N x;kernel_rfl):b7 P T g (dY A k c v):=by subst hT;exact flh i.e i.m hF hf hc hl Ca hA hk λx f q=>(hv x f q).imp λN e=>(h N x).trans e
section
variable {R:Type} {it:It R} {F:Func}
theorem lq(n:aE){s:aC Ho}(T:Fn s Tb)(l:Kt R->aE->Fn s (az R))(r:Kt R->Fn s (az R)->Fn s (az R)){N:aE}(hr:gE (bU F n)=n:=by kernel_rfl)(hT:okT T:=by intro x;rfl)
  (hi:∀L K,it n (tc E it (bU F n)) (canon (E.zX n)) L K=al T (λK=>l K N) an L K:=by intro L K;rfl) (h0:∀K x,ap s (l K 0) x=none:=by intro K x;rfl) (h1:∀K n,l K (n+1)=r K (l K n):=by intro K n;rfl)
  (h:∀K g x,tc E it (bU F n) (fO (ap s T x)) (ED g (canon (E.zX n)) K)=ap s (r K (cmp s T λt=>g (fO t))) x:=by intro K g x;kernel_rfl):b8 E it (bU F n):=
 lo1 n T hr hT l r hi h0 h1 h
theorem lw{n:aE}{K:Kt R}{s:aC Ho}{T:Fn s Tb}{l:aE->Fn s (az R)}(r:(St->az R)->Fn s (az R))
  (h1:∀m,(∀x,iter (tc E it (bU F n)) (canon (E.zX n)) m (fO (ap s T x)) K=ap s (l m) x)->r (λσ=>iter (tc E it (bU F n)) (canon (E.zX n)) m σ K)=l (m+1)) (h0:∀x,ap s (l 0) x=none:=by intro x;rfl)
  (h:∀g x,tc E it (bU F n) (fO (ap s T x)) (ED g (canon (E.zX n)) K)=ap s (r g) x:=by intro g x;kernel_rfl):Wd E it (bU F n) n K T l:=wl r h0 h1 h
theorem lm(n:aE){a:Tb->Kt R->az R}(h:Good E it (bU F n) n a)(hr:gE (bU F n)=n:=by kernel_rfl)(hi:∀L K,it n (tc E it (bU F n)) (canon (E.zX n)) L K=a L K:=by intro L K;rfl):b8 E it (bU F n):=lom n hr hi h
theorem ga{C:Code}{n:aE}{s:aC Ho}(T:Fn s Tb){N:aE}{l:Kt R->aE->Fn s (az R)}{o:Tb->Kt R->az R}(h:∀K,Wd E it C n K T (l K))(ho:Good E it C n o)(hT:okT T:=by intro x;rfl):Good E it C n (al T (λK=>l K N) o):=M3 hT h ho
end
end Go.FG

