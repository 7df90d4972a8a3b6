/- An evaluator for the part of the language that this program uses, proved sound over the model: states told as values and lists; what an evaluation tells, the call does. No condition. -/
import Derived.Calls
import Derived.Orders
import Derived.Below
import Derived.Laws.AppendOwn
import Derived.Laws.Slices
import Derived.Laws.StructEq
import Derived.Laws.Tables
import Derived.Laws.MakeOwn
import Derived.Laws.IdiomStrings
import Derived.Laws.BytesArg
import Derived.Laws.NewFold
import Derived.SizedLaws
import Derived.Carry
import Derived.ProofKit
import Derived.KernelRfl
import Derived.Laws.Strings
import Derived.Sort.Grow
import Derived.Deep.Draws
import Derived.Test.YtpcfgiocpohbmaaGreatDoorCoreb
set_option linter.unusedVariables false
set_option linter.unusedSimpArgs false
set_option maxRecDepth 100000
set_option autoImplicit true
set_option relaxedAutoImplicit true
open Array renaming toList_extract->gX,getElem?_toList->cR,getD_eq_getD_getElem?->eu,toList_append->uJ,getElem?_eq_some_iff->dr
open Bool renaming false->aq,true->ao,and_eq_true->aM,false_eq_true->db,not_eq_true'->dt,and_true->gh,not_true->aZ,not_false->bG
open ByteArray renaming size->bC,size_append->dA,data_extract->fY,size_extract->wV,extract->bx,data_append->lP
open Decidable renaming decide->ah
open Go renaming Program->de,Value->bP,World->cB
open Go.ByteArray renaming toList_eq->jY
open Go.DataW renaming TrodAll->C3,weightsEach->mw
open Go.IntKind renaming i64->ak,u8->ba,wrap->bF
open Go.Value renaming okWide->rJ
open Go.World renaming cell?_of_block->uz,cell?->Mr
open Int renaming toNat->aR,tmod->cx,tdiv->cK,tdiv_eq_ediv_of_nonneg->dJ,mul_le_mul_of_nonneg_right->Cu,mul_le_mul_of_nonneg_left->AP,pow_succ->t_,tmod_eq_emod_of_nonneg->eN
open List renaming getElem?_map->bI,length_map->bJ,length_eq_one_iff->gE,all_cons->jc,mem_append->bc,mem_append_left->bY,mem_append_right->bS,append_nil->cZ,all_eq_true->bz,append_assoc->ca,mem_cons->cm,map_cons->e9,mem_cons_self->cD,mem_cons_of_mem->cu,getD->dZ,drop_eq_getElem_cons->cq,set->aP,length_append->bW,length_singleton->bu,beq->cQ,range'->iA,ext_getElem?->S6,extract_eq_take_drop->fJ,getElem?_take->dP,getElem?_drop->dO,getElem?_eq_none->kD,length->bB,take_add->Xn,drop_drop->uR,drop_zero->eK,take_of_length_le->dH,mem_map->cN,mem_of_getElem?->aU
open List.cons renaming injEq->Xl,inj->jW
open Nat renaming zero_add->bV,beq->bK,eq_of_beq_eq_true->aX,ble->eS,le_of_ble_eq_true->cM,lt_or_ge->qy,add_zero->zQ,sub_zero->og,lt_of_lt_of_le->iB
open Option renaming some->ai,none->aj,isSome->mV,getD->Xo,map_some->hJ
open Option.some renaming inj->aJ
open Prod.mk renaming inj->bU,injEq->iS
open _root_ renaming List->aE,Nat->aN,Bool->aY,absurd->cJ,Option->aA,Array->eF,ByteArray->au,Int->ay,decide_eq_true_eq->bf,of_decide_eq_true->cL,cond_true->aw,cond_false->ax,if_pos->bm,decide_eq_true->aC,if_neg->bh,congrArg->ic,decide_eq_decide->bZ,UInt8->eE,decide_eq_false->aF
namespace Go.FG
open Go.RowKit Go.ChangeShapes
def nH(T:Tab):aE aN->aE (aE CV)->aE gg
 |t::ts,d::a=>gg.v (match T.ty t with|some ti=>ti.agg|none=>aq) (d.map GJ)::nH T ts a
 |_,_=>[]
def oH(T:Tab):aE aN->aE (aE CV)->Prop
 |[],[]=>True
 |t::ts,d::a=>(∃ti,T.ty t=ai ti/\d.map CV.kd=ti.ks)/\(∀y∈d,tY T y)/\oH T ts a
 |_,_=>False
def Np(P:de)(T:Tab)(n:aN)(t:aN):aY:=
 match T.ty t,M5 P T n t,P.underlying t with
 |some ti,ai ks,ai d=>pR ks ti.ks&&(match d with|.struct _=>ti.agg|.array _ _=>aq|_=> !ti.agg)&&P.readableRec t&&ah (t<P.types.size)
 |_,_,_=>aq
theorem aaI(a:∀b,vu w b->c.K b)(h:Holds T w (vu w) v y)(nm:aN):ed T w c (kO nm (GJ y)) v:=by
 have h:Holds T w c.K v y:=h.frame (λ_ _=>rfl) a;cases y with
 |i k n=>cases h;rfl
 |b x=>cases h;rfl
 |s x=>cases h with|s _ d=>exact⟨rfl,d⟩
 |l e xs=>exact h
section
variable {H:Type} {enc:TypeId×bP->H} {P:de} {T:Tab} {w:cB}
theorem aaQ(hE:dY P T)(hp:Np P T n t=ao)(S:rJ P w .any base t v)(h:DataW.Trod enc P w 0 sp hd t v d ps)(hw:∀m∈d.weights P t,m<=reachBytes):
  ∃r:aE CV,(∃ti,T.ty t=ai ti/\r.map CV.kd=ti.ks)/\(∀y∈r,tY T y)/\∀c:gn,(∀b,vu w b->c.K b)->∀p,iM T w c (rL p (gg.v (match T.ty t with|some ti=>ti.agg|none=>aq) (r.map GJ))) v:=by
 unfold Np at hp;split at hp
 ·rename_i ti ks dd U hl hu;simp only[aM]at hp;obtain⟨⟨⟨h1,h2⟩,_⟩,_⟩:=hp;have e1:=nt h1;subst e1;obtain⟨I,Q⟩:=h;obtain⟨h9,hi,h5,_⟩:=hE.info t ti U;have Y:P.cellsOf t=ti.ks.length:=by unfold Program.cellsOf;rw[hi];exact h5
  have cell:∀(r:aE CV) (cs:aE bP),vx T w cs 0 r ti.ks->∀c:gn,(∀b,vu w b->c.K b)->∀(p j:aN) (a:AV),(gf (dF p 0) (r.map GJ))[j]? =ai a->∃u:bP,cs[j]? =ai u/\ed T w c a u:=by
   intro r cs B c V p j a N;rw[hN,bI]at N;cases hy:r[j]? with
   |none=>rw[hy]at N;cases N
   |some y=>rw[hy]at N;cases N;obtain⟨u,x,hh⟩:=B.at_ j y hy;rw[bV]at x;exact⟨u,x,aaI V hh _⟩
  cases z:ti.agg with
  |true=>
   have O:∃fs,dd=.struct fs:=by cases dd<;>simp[z]at h2;exact⟨_,rfl⟩
   obtain⟨fs,rfl⟩:=O;unfold rJ at S;rw[hu]at S;obtain⟨cs,rfl,X,_⟩:=S;obtain⟨r,B⟩:=BG hE n t ti.ks hl I cs.toList (d,ps) sp hd Q hw (by simpa using X);refine⟨r,⟨ti,U,B.kd⟩,B.fine,λc V p=> ?_⟩
   rw[U];show pO T w c ti.agg (gf (dF p 0) (r.map GJ)) _;rw[z];refine⟨cs,rfl,?_,λj a N=> ?_⟩
   ·rw[iw,bJ,X,Y,<-B.kd,bJ]
   ·obtain⟨u,x,ha⟩:=cell r cs.toList B c V p j a N;exact⟨u,by simpa using x,ha⟩
  |false=>
   have O:∀fs,dd≠ .struct fs:=by intro fs M;subst M;simp[z]at h2
   have h4:∀m e,dd≠ .array m e:=by intro m e M;subst M;cases h2
   have o:Cell.okWide P w .any base t v:=by
    unfold rJ at S;rw[hu]at S;split at S
    ·rename_i fs M;cases M;exact cJ rfl (O fs)
    ·rename_i m e M;cases M;exact cJ rfl (h4 m e)
    ·exact S
   have h3:v.cells= #[v]:=by
    cases v<;>first|rfl|skip
    rename_i cs;exfalso;unfold Cell.okWide at o;rw[hu]at o;cases dd<;>simp[Cell.ok,hu]at o
   obtain⟨h7,h8,_,hn⟩:=hE.desc t ti U;have h1:ti.ks.length=1:=by rcases hn z with ⟨k,h,_⟩|⟨h,_⟩|⟨h,_⟩|⟨e',h,_⟩|⟨h,_⟩<;>simp[h]
   rw[h3]at Q;obtain⟨r,B⟩:=BG hE n t ti.ks hl I [v] (d,ps) sp hd Q hw (by rw[Y,h1];rfl);have h6:r.length=1:=by rw[<-bJ (f:=CV.kd),B.kd,h1]
   obtain⟨y,rfl⟩:=gE.1 h6;refine⟨[y],⟨ti,U,B.kd⟩,B.fine,λc V p=> ?_⟩
   rw[U];show pO T w c ti.agg [kO (dF p 0) (GJ y)] _;rw[z];obtain⟨u,x,ha⟩:=cell [y] [v] B c V p 0 _ rfl;cases x;exact ha
 ·cases hp
theorem T8(hE:dY P T):∀{ts:aE aN} {vs:aE bP} {ds:aE (DataW H)} {ps:aE MemPlace},ts.all (Np P T n)=ao->
  C3 enc P w 0 sp hd ts vs ds ps->(∀(j:aN) t v,ts[j]? =ai t->vs[j]? =ai v->rJ P w .any base t v)->(∀m∈mw P ts ds,m<=reachBytes)->
  ∃a,oH T ts a/\vs.length=(nH T ts a).length/\ds.length=ts.length/\∀c:gn,(∀b,vu w b->c.K b)->∀(q p:aN) (x:gg),(nH T ts a)[p]? =ai x->∃v,vs[p]? =ai v/\iM T w c (rL (q+p) x) v:=by
 intro ts;induction ts with
 |nil=>intro vs ds ps _ h _ _;obtain⟨rfl,rfl,rfl⟩:=trodAll_nil h;exact⟨[],trivial,rfl,rfl,λc _ q p x h=>by simp[nH]at h⟩
 |cons t ts ih=>
  intro vs ds ps hp h e o;simp only[jc,aM]at hp;obtain⟨v,vs,d,ds,p,q,rfl,rfl,rfl,h0,I⟩:=trodAll_cons h;obtain⟨S,N,O,Q⟩:=aaQ hE hp.1 (e 0 t v rfl rfl) h0 (λm hm=>o m (by simp only[mw,bc];exact .inl hm));obtain⟨a,U,V,Y,X⟩:=ih hp.2 I (λj t v z B=>e (j+1) t v z B) (λm hm=>o m (by simp only[mw,bc];exact .inr hm));refine⟨S::a,⟨N,O,U⟩,by simp[nH,V],by simp[Y],λc f q p x r=> ?_⟩
  cases p with
  |zero=>cases r;exact⟨v,rfl,Q c f q⟩
  |succ p=>obtain⟨M,u,y⟩:=X c f (q+1) p x r;exact⟨M,u,by rw[show q+(p+1)=q+1+p by omega];exact y⟩
theorem nr:∀{ts:aE aN} {d:aE (aE CV)},inj (nH T ts d) (c6 m)≠ .o ob:=by
 intro ts d h;obtain⟨p,a,h0,z⟩:=Ai h;have:∀(ts:aE aN) (d:aE (aE CV)) (p:aN) (a:gg),(nH T ts d)[p]? =ai a->∃(g:aY) (r:aE CV),a=.v g (r.map GJ):=by
  intro ts;induction ts with
  |nil=>intro d p a h;simp[nH]at h
  |cons t ts ih=>
   intro d p a h;cases d with
   |nil=>simp[nH]at h
   |cons r d=>
    cases p with
    |zero=>cases h;exact⟨_,r,rfl⟩
    |succ p=>exact ih d p a h
 obtain⟨g,r,rfl⟩:=this _ _ _ _ h0;rcases z with ⟨xs,f,_⟩|⟨xs,j,e,ex,zs,f,u,_⟩
 ·cases f
 ·have f:r.map GJ=xs:=by rcases f with ⟨B,f⟩|f<;>cases f;rfl
  subst f;rw[bI]at u;cases x:r[j]? with
  |none=>rw[x]at u;cases u
  |some y=>rw[x]at u;cases y<;>cases u
theorem F7(hl:laidOutB P=ao)(m:Below w.heap.size w j):∀{ts:aE aN} {vs:aE bP} {ds:aE (DataW H)} {ps:aE MemPlace},ts.all (Np P T n)=ao->C3 enc P w 0 (λ_=>ao) ao ts vs ds ps->(∀x∈ps,x.block<w.heap.size)->
  C3 enc P j 0 (λb=>ah (b<w.heap.size)) ao ts vs ds ps:=by
 intro ts;induction ts with
 |nil=>intro vs ds ps _ h _;obtain⟨rfl,rfl,rfl⟩:=trodAll_nil h;exact h
 |cons t ts ih=>
  intro vs ds ps hp h e;simp only[jc,aM]at hp;obtain⟨v,vs,d,ds,p,q,rfl,rfl,rfl,h0,o⟩:=trodAll_cons h;have a:=hp.1;unfold Np at a;split at a
  ·simp only[aM]at a;exact⟨p,q,Below.trod hl a.1.2 (by simpa using a.2) h0 m (λx f=>e x (bY _ f)),ih hp.2 o (λx f=>e x (bS _ f)),rfl⟩
  ·cases a
end
theorem Ft{H:Type}{enc:TypeId×bP->H}{C:Checked}{T:Tab}(hE:dY C.prog T)(hl:laidOutB C.prog=ao){g tb n:aN}{fn:Func}{z:aE gg->aA (aY×iQ)}(hF:kT C.prog T g z){s:ChangeSpec}
  (y:fn.params.toList.all (Np C.prog T n)=ao) (O:fn.resultTypes= #[tb]) (ha:C.prog.underlying tb=ai .bool) (a:s.vars=[])
  (h4:∀ds:aE (DataW H),ds.length=fn.params.toList.length->s.fn H ds={results:=[.lit (.bool ao)],args:=ds})
  (claim:∀r,oH T fn.params.toList r->z (nH T fn.params.toList r)=ai (ao,⟨[.v aq [.b ao]],[]⟩))
  (W:cB) (base:aN) (args:eF bP) (ds gs:aE (DataW H)) (u:aE MemPlace)
  (Q:∀(j:aN) t v,fn.params[j]? =ai t->args[j]? =ai v->rJ C.prog W .any base t v)
  (hW:DataW.Whole enc C.prog fn.params.toList s.vars aq W args.toList ds gs u)
  (K:(mw C.prog (fn.params.toList++s.plain.varTypes C.prog) (ds++gs)).all (·<=reachBytes)=ao) (h5:T.gp.f W (vu W)):
  Calls C.prog g args W λe U=>∃v,e=.returned v/\s.post enc C.prog fn aq ao aq aq W args v U:=by
 have M:=hW;obtain⟨p,q,hA,Y,rfl,hf,hh⟩:=hW;have h7:=M.lt;rw[a]at Y;have h6:gs=[]/\q=[]:=by
  cases gs with
  |nil=>exact⟨rfl,Y⟩
  |cons=>exact Y.elim
 obtain⟨rfl,rfl⟩:=h6;have hw:∀m∈mw C.prog fn.params.toList ds,m<=reachBytes:=by
  intro m hm;rw[cZ]at K;have e:s.plain.varTypes C.prog=[]:=by unfold DataSpec.varTypes ChangeSpec.plain;simp[a]
  rw[e,cZ]at K;have:=bz.1 K m hm;simpa using this
 obtain⟨r,he,N,h3,B⟩:=T8 hE y hA (λj t v hj hv=>Q j t v (by simpa using hj) (by simpa using hv)) hw;let nl:Pl:=⟨ao,0,0,0,0,0⟩
 let V:gn:=⟨λ_=>nl,λ_ _ _=>nl,vu W⟩
 have h8:Ok T (inj (nH T fn.params.toList r)) W V:=⟨λnm o h=>cJ h nr,λnm o hn o' b h=>cJ h nr,λnm o b h=>cJ h nr,λb S=>S,λnm xs h=>cJ h nr,h5⟩
 obtain⟨_,hc⟩:=hF _ _ (claim r he) W V args h8 (by rw[<-N];simp) (λp x hx=>by obtain⟨v,h1,h2⟩:=B V (λ_ h=>h) 0 p x hx;rw[bV]at h2;exact⟨v,by simpa using h1,h2⟩);refine hc.mono λe U X=> ?_;cases e with
 |panicked=>exact X.elim
 |outgrown=>exact X.elim
 |returned v=>
  obtain⟨c3,_,d,_,h9⟩:=X;have hv:v=.bool true:=h9;subst hv;have S:Below W.heap.size W U:=⟨d.os,d.tape,d.output,d.size,λk hk=>d.same k hk (λ⟨nm,o,h,_⟩=>nr h)⟩
  have I:=h4 ds h3;refine⟨_,rfl,ds,[],_,[],p,[],M,?_,?_,?_,S.frame _,λh=>by cases h⟩
  ·rw[cZ,I,O];exact trodAll_mk1 (shut_bool ha _)
  ·rw[cZ,I];exact F7 hl S y hA (λx hx=>h7 x (bY _ hx))
  ·rw[cZ,I,a];rfl
end Go.FG
namespace Go.FG
def fF(s:au)(i:aN):aN:=(s.data.getD i 0).toNat
abbrev bE(x:ay):ay:=ak.wrap x
inductive gq where
 |I (n:ay)|B (x:aY)|S (x:au)|R (xs:Row)|N (n:aN)
def gI:aE gq->ay|.I n::_=>n|_=>0
def gB:aE gq->aY|.B n::_=>n|_=>aq
def gS:aE gq->au|.S n::_=>n|_=>⟨#[]⟩
def gR:aE gq->Row|.R n::_=>n|_=>[]
def gN:aE gq->aN|.N n::_=>n|_=>0
def hCV:CV->aE gq
 |.i _ n=>[.I n]|.b x=>[.B x]|.s x=>[.S x]|.l _ xs=>[.R xs]
def sCV:CV->CV->aY
 |.i k _,.i k' _=>ah (k=k')|.b _,.b _=>ao|.s _,.s _=>ao|.l e _,.l a _=>bK e a|_,_=>aq
def fCV(s:CV)(l:aE gq):CV×aE gq:=
 match s with
 |.i k _=>(.i k (gI l),l.tail)|.b _=>(.b (gB l),l.tail)|.s _=>(.s (gS l),l.tail)|.l e _=>(.l e (gR l),l.tail)
def Hb:aE CV->aE gq|[]=>[]|a::r=>hCV a++Hb r
def FR:aE CV->aE CV->aY|[],[]=>ao|a::r,b::t=>sCV a b&&FR r t|_,_=>aq
def yt:aE CV->aE gq->aE CV×aE gq
 |[],l=>([],l)|a::r,l=>((fCV a l).1::(yt r (fCV a l).2).1,(yt r (fCV a l).2).2)
def Dt:aE (aE CV)->aE gq|[]=>[]|a::r=>Hb a++Dt r
def DM:aE (aE CV)->aE (aE CV)->aY|[],[]=>ao|a::r,b::t=>FR a b&&DM r t|_,_=>aq
def za:aE (aE CV)->aE gq->aE (aE CV)×aE gq
 |[],l=>([],l)|a::r,l=>((yt a l).1::(za r (yt a l).2).1,(za r (yt a l).2).2)
theorem aa9(h:sCV s a=ao)(l:aE gq):fCV s (hCV a++l)=(a,l):=by
 cases s<;>cases a<;>simp only[sCV,bf,db,Nat.beq_eq]at h<;>first|exact h.elim|skip
 all_goals first|(subst h;rfl)|rfl
theorem wc:∀{s a:aE CV},FR s a=ao->∀l,yt s (Hb a++l)=(a,l)
 |[],[],_,l=>rfl
 |s::d,a::as,h,l=>by
  simp only[FR,aM]at h;simp only[yt,Hb,ca,aa9 h.1,wc h.2]
 |[],_::_,h,_=>by cases h
 |_::_,[],h,_=>by cases h
theorem Bi:∀{s a:aE (aE CV)},DM s a=ao->∀l,za s (Dt a++l)=(a,l)
 |[],[],_,l=>rfl
 |s::d,a::as,h,l=>by
  simp only[DM,aM]at h;simp only[za,Dt,ca,wc h.1,Bi h.2]
 |[],_::_,h,_=>by cases h
 |_::_,[],h,_=>by cases h
def hAV:AV->aE gq
 |.i _ n=>[.I n]|.b x=>[.B x]|.s x=>[.S x]|.sh _ xs=>[.R xs]|.vw _ lo hi=>[.N lo,.N hi]|.rp _ i _=>[.N i]
 |.sp _ xs i _=>[.R xs,.N i]|.lR _ i _=>[.N i]|.ip _ i _ d _=>[.N i,.N d]|.fn _ a=>Dt a|.fp xs _=>Hb xs|_=>[]
def Wq:AV->AV->aY
 |.i k _,.i k' _=>ah (k=k')|.b _,.b _=>ao|.s _,.s _=>ao|.sh e _,.sh h _=>bK e h|.nl,.nl=>ao
 |.own n,.own d=>bK n d|.vw n _ _,.vw d _ _=>bK n d|.bp n j,.bp d a=>bK n d&&bK j a|.rp n _ j,.rp d _ a=>bK n d&&bK j a
 |.sp e _ _ j,.sp h _ _ a=>bK e h&&bK j a|.lR n _ j,.lR d _ a=>bK n d&&bK j a
 |.ip n _ j _ q,.ip d _ a _ m=>bK n d&&bK j a&&bK q m|.fn f c,.fn f' c'=>bK f f'&&DM c c'|.fp c j,.fp c' a=>bK j a&&FR c c'
 |_,_=>aq
def fAV(s:AV)(l:aE gq):AV×aE gq:=
 match s with
 |.i k _=>(.i k (gI l),l.tail)|.b _=>(.b (gB l),l.tail)|.s _=>(.s (gS l),l.tail)|.sh e _=>(.sh e (gR l),l.tail)
 |.vw n _ _=>(.vw n (gN l) (gN l.tail),l.tail.tail)|.rp n _ j=>(.rp n (gN l) j,l.tail)|.sp e _ _ j=>(.sp e (gR l) (gN l.tail) j,l.tail.tail)
 |.lR n _ j=>(.lR n (gN l) j,l.tail)|.ip n _ j _ q=>(.ip n (gN l) j (gN l.tail) q,l.tail.tail)|.fn f c=>(.fn f (za c l).1,(za c l).2)|.fp c j=>(.fp (yt c l).1 j,(yt c l).2)
 |a=>(a,l)
def MQ:aE AV->aE gq|[]=>[]|a::r=>hAV a++MQ r
def JA:aE AV->aE AV->aY|[],[]=>ao|a::r,b::t=>Wq a b&&JA r t|_,_=>aq
def Bh:aE AV->aE gq->aE AV×aE gq
 |[],l=>([],l)|a::r,l=>((fAV a l).1::(Bh r (fAV a l).2).1,(Bh r (fAV a l).2).2)
def Uh(a b:aY):aY:=bif a then b else !b
def Us:aE (aY×aE AV)->aE gq|[]=>[]|(_,xs)::r=>MQ xs++Us r
def RT:aE (aY×aE AV)->aE (aY×aE AV)->aY
 |[],[]=>ao|(g,xs)::r,(a,d)::t=>Uh g a&&JA xs d&&RT r t|_,_=>aq
def MK:aE (aY×aE AV)->aE gq->aE (aY×aE AV)×aE gq
 |[],l=>([],l)|(g,xs)::r,l=>((g,(Bh xs l).1)::(MK r (Bh xs l).2).1,(MK r (Bh xs l).2).2)
def MR:eW->aE gq
 |.v (.v _ xs)=>MQ xs|.v (.jS l)=>Us l|.o (.box xs)=>MQ xs|.o (.nI cs)=>Hb cs|.o (.row _ _ xs)=>[.R xs]|.o (.fL _ xs)=>[.R xs]|_=>[]
def Ws:eW->eW->aY
 |.v (.v g xs),.v (.v f d)=>Uh g f&&JA xs d|.v (.jS l),.v (.jS r)=>RT l r|.v .un,.v .un=>ao
 |.o (.box xs),.o (.box d)=>JA xs d|.o (.nI c),.o (.nI c')=>FR c c'|.o (.row e x _),.o (.row a h _)=>bK e a&&Uh x h|.o (.fL e _),.o (.fL a _)=>bK e a
 |.o .dead,.o .dead=>ao|.jw,.jw=>ao|_,_=>aq
def IX(c:eW)(l:aE gq):eW×aE gq:=
 match c with
 |.v (.v g xs)=>(.v (.v g (Bh xs l).1),(Bh xs l).2)|.v (.jS r)=>(.v (.jS (MK r l).1),(MK r l).2)
 |.o (.box xs)=>(.o (.box (Bh xs l).1),(Bh xs l).2)|.o (.nI c)=>(.o (.nI (yt c l).1),(yt c l).2)|.o (.row e x _)=>(.o (.row e x (gR l)),l.tail)|.o (.fL e _)=>(.o (.fL e (gR l)),l.tail)
 |c=>(c,l)
def Hc:aE (aN×eW)->aE gq|[]=>[]|(_,c)::r=>MR c++Hc r
def yK:aE (aN×eW)->aE (aN×eW)->aY
 |[],[]=>ao|(k,c)::r,(k',c')::t=>bK k k'&&Ws c c'&&yK r t|_,_=>aq
def K8:aE (aN×eW)->aE gq->aE (aN×eW)
 |[],_=>[]|(k,c)::r,l=>(k,(IX c l).1)::K8 r (IX c l).2
theorem Bf(h:Uh a b=ao):a=b:=by cases a<;>cases b<;>first|rfl|cases h
theorem aa8(h:Wq s a=ao)(l:aE gq):fAV s (hAV a++l)=(a,l):=by
 match s,a,h with
 |.fn f c,.fn f' c',h=>simp only[Wq,aM]at h;have d:=aX h.1;subst d;simp only[fAV,hAV,Bi h.2]
 |.fp c j,.fp c' r,h=>simp only[Wq,aM]at h;have d:=aX h.1;subst d;simp only[fAV,hAV,wc h.2]
 |.i k _,.i k' _,h=>have d:=cL (show ah (k=k')=ao from h);subst d;rfl
 |.b _,.b _,_=>rfl
 |.s _,.s _,_=>rfl
 |.sh e _,.sh u _,h=>have d:=aX (show bK e u=ao from h);subst d;rfl
 |.nl,.nl,_=>rfl
 |.own n,.own o,h=>have d:=aX (show bK n o=ao from h);subst d;rfl
 |.vw n _ _,.vw o _ _,h=>have d:=aX (show bK n o=ao from h);subst d;rfl
 |.bp n j,.bp o r,h=>simp only[Wq,aM]at h;have d:=aX h.1;have m:=aX h.2;subst d;subst m;rfl
 |.rp n _ j,.rp o _ r,h=>simp only[Wq,aM]at h;have d:=aX h.1;have m:=aX h.2;subst d;subst m;rfl
 |.sp n _ _ j,.sp o _ _ r,h=>simp only[Wq,aM]at h;have d:=aX h.1;have m:=aX h.2;subst d;subst m;rfl
 |.lR n _ j,.lR o _ r,h=>simp only[Wq,aM]at h;have d:=aX h.1;have m:=aX h.2;subst d;subst m;rfl
 |.ip n _ j _ q,.ip o _ r _ y,h=>simp only[Wq,aM]at h;have d:=aX h.1.1;have m:=aX h.1.2;have x:=aX h.2;subst d;subst m;subst x;rfl
theorem Aa:∀{s a:aE AV},JA s a=ao->∀l,Bh s (MQ a++l)=(a,l)
 |[],[],_,l=>rfl
 |s::d,a::as,h,l=>by
  simp only[JA,aM]at h;simp only[Bh,MQ,ca,aa8 h.1,Aa h.2]
 |[],_::_,h,_=>by cases h
 |_::_,[],h,_=>by cases h
theorem K6:∀{s a:aE (aY×aE AV)},RT s a=ao->∀l,MK s (Us a++l)=(a,l)
 |[],[],_,l=>rfl
 |(g,xs)::m,(j,o)::as,h,l=>by
  simp only[RT,aM]at h;obtain⟨⟨d,e⟩,f⟩:=h;have d:=Bf d;subst d;simp only[MK,Us,ca,Aa e,K6 f]
 |[],_::_,h,_=>by cases h
 |_::_,[],h,_=>by cases h
theorem Um(h:Ws s c=ao)(l:aE gq):IX s (MR c++l)=(c,l):=by
 match s,c,h with
 |.v (.v g xs),.v (.v u f),h=>simp only[Ws,aM]at h;have a:=Bf h.1;subst a;simp only[IX,MR,Aa h.2]
 |.v (.jS r),.v (.jS m),h=>simp only[IX,MR,K6 (show RT r m=ao from h)]
 |.v .un,.v .un,_=>rfl
 |.o (.box xs),.o (.box f),h=>simp only[IX,MR,Aa (show JA xs f=ao from h)]
 |.o (.nI c),.o (.nI c'),h=>simp only[IX,MR,wc (show FR c c'=ao from h)]
 |.o (.row e x _),.o (.row j y _),h=>simp only[Ws,aM]at h;have a:=Bf h.2;have d:=aX h.1;subst a;subst d;rfl
 |.o (.fL e _),.o (.fL j _),h=>have d:=aX h;subst d;rfl
 |.o .dead,.o .dead,_=>rfl
 |.jw,.jw,_=>rfl
theorem G7:∀{S L:aE (aN×eW)},yK S L=ao->K8 S (Hc L)=L
 |[],[],_=>rfl
 |(k,s)::S,(k',c)::L,h=>by
  simp only[yK,aM]at h;obtain⟨⟨a,d⟩,e⟩:=h;have a:=aX a;subst a;simp only[K8,Hc,Um d,G7 e]
 |[],_::_,h=>by cases h
 |_::_,[],h=>by cases h
def tell{R:Type}(S:aE (aN×eW))(H:aE gq->aA R)(L:aE (aN×eW))(a:aA R):aA R:=bif yK S L then H (Hc L)else a
def QM:aE (aN×aE aN)->aN->aE aN
 |[],_=>[]|(k,l)::r,n=>bif bK n k then l else QM r n
def agJ:aE (aN×aN×Om)->aN->aN->Om
 |[],_,_=>.nat|(q,j,o)::r,n,m=>bif bK n q&&bK m j then o else agJ r n m
def QX:aE (aN×aN)->aN->aN->aY
 |[],_,_=>aq|(f,p)::r,n,m=>(bK n f&&bK m p)||QX r n m
def agQ:aE (aN×aN)->aN->aA aN
 |[],_=>aj|(k,e)::r,n=>bif bK n k then ai e else agQ r n
theorem bD{p:Code->Prop}:∀c∈([]:aE Code),p c:=λc h=>by cases h
theorem bn{p:Code->Prop}{c:Code}{l:aE Code}(h:p c)(hl:∀d∈l,p d):∀d∈c::l,p d:=λd hd=>by
 rcases cm.1 hd with rfl|hd
 ·exact h
 ·exact hl d hd
def pQ:aE (aN×(aE gg->aA (aY×iQ)))->aN->aE gg->aA (aY×iQ)
 |[],_,_=>aj
 |(k,s)::r,g,a=>bif bK g k then(match s a with|some x=>ai x|none=>pQ r g a)else pQ r g a
theorem a8:∀g,kT P T g (pQ [] g):=λg=>MM λ_=>rfl
theorem aK(h:kT P T k s)(hl:∀g,kT P T g (pQ L g)):∀g,kT P T g (pQ ((k,s)::L) g):=by
 intro g;cases f:bK g k with
 |true=>
  have:=aX f;subst this;intro args r d;unfold pQ at d;rw[f,aw]at d;cases hs:s args with
  |some x=>rw[hs]at d;exact h args r (hs.trans d)
  |none=>rw[hs]at d;exact hl g args r d
 |false=>
  have e:pQ ((k,s)::L) g=pQ L g:=by funext a;simp only[pQ,f,ax]
  rw[e];exact hl g
def V9(T:Tab)(md:aE (aN×aN))(cs:aE (aN×(aE gg->aA (aY×iQ))))(ks:aE (aN×aE aN))(tk:aE aN)(om:aE (aN×aN×Om)):fW:={toTab:=T,call:=pQ cs,mode:=QX md,keep:=QM ks,tk:=λn=>ma n tk,om:=agJ om}
end Go.FG
namespace Go.FG
theorem JP(h:oH T (t::ts) a):∃e d,a=e::d/\(∃ti,T.ty t=ai ti/\e.map CV.kd=ti.ks)/\(∀y∈e,tY T y)/\oH T ts d:=by
 cases a with
 |nil=>exact h.elim
 |cons e a=>exact⟨e,a,rfl,h.1,h.2.1,h.2.2⟩
theorem NH(h:oH T [] a):a=[]:=by
 cases a with
 |nil=>rfl
 |cons=>exact h.elim
theorem UM(h:d.map CV.kd=k::ks)(e:∀y∈d,tY T y):∃y a,d=y::a/\y.kd=k/\tY T y/\a.map CV.kd=ks/\∀y∈a,tY T y:=by
 cases d with
 |nil=>cases h
 |cons y d=>rw[e9,Xl]at h;exact⟨y,d,rfl,h.1,e y (cD ..),h.2,λz f=>e z (cu _ f)⟩
theorem abz(h:a.map CV.kd=[]):a=[]:=by simpa using h
theorem akf(h:y.kd=.s)(a:tY T y):∃x,y=.s x/\x.size<=140737488351232:=by cases y<;>simp[CV.kd]at h;cases a with|s _ h=>exact⟨_,rfl,h⟩
theorem hZ(a: -9223372036854775808<=x)(d:x<=9223372036854775807):bE x=x:=by
 have e:bE x=if(ah (x%18446744073709551616≥9223372036854775808))=ao then x%18446744073709551616-18446744073709551616 else x%18446744073709551616:=rfl
 rw[e];by_cases h:x%18446744073709551616≥9223372036854775808
 ·rw[bm (aC h)];omega
 ·rw[bh (by simpa using h)];omega
end Go.FG
namespace Go.FG
inductive Ho where|I|B|S|R|N
abbrev den:Ho->Type
 |.I=>ay|.B=>aY|.S=>au|.R=>Row|.N=>aN
abbrev Fn:aE Ho->Type->Type
 |[],A=>A|h::s,A=>den h->Fn s A
abbrev Tu:aE Ho->Type
 |[]=>Unit|h::s=>den h×Tu s
abbrev Pr:aE Ho->Type
 |[]=>Unit|[h]=>den h|h::s=>den h×Pr s
def df:(h:Ho)->den h
 |.I=>(0:ay)|.B=>aq|.S=>(⟨#[]⟩:au)|.R=>([]:Row)|.N=>(0:aN)
def lf:(h:Ho)->den h->gq
 |.I,x=>.I x|.B,x=>.B x|.S,x=>.S x|.R,x=>.R x|.N,x=>.N x
def ap{A:Type}:(s:aE Ho)->Fn s A->Tu s->A
 |[],f,_=>f|_::s,f,x=>ap s (f x.1) x.2
def cmp{A B:Type}:(s:aE Ho)->Fn s A->(A->B)->Fn s B
 |[],f,g=>g f|_::s,f,g=>λy=>cmp s (f y) g
def KX{A:Type}:(s:aE Ho)->Fn s A->A
 |[],f=>f|h::s,f=>KX s (f (df h))
def lv:(s:aE Ho)->Tu s->aE gq
 |[],_=>[]|h::s,x=>lf h x.1::lv s x.2
def T4{A:Type}:(s:aE Ho)->Fn s (aA A)->aE gq->aA A
 |[],f,[]=>f
 |.I::s,f,.I x::l=>T4 s (f x) l|.B::s,f,.B x::l=>T4 s (f x) l|.S::s,f,.S x::l=>T4 s (f x) l
 |.R::s,f,.R x::l=>T4 s (f x) l|.N::s,f,.N x::l=>T4 s (f x) l
 |_,_,_=>aj
def jS:(s:aE Ho)->Fn s (Pr s)
 |[]=>()|[_]=>λx=>x|_::h::s=>λx=>cmp (h::s) (jS (h::s)) λp=>(x,p)
def Xq{A:Type}:(s:aE Ho)->Fn s A->Pr s->A
 |[],f,_=>f|[_],f,p=>f p|_::h::s,f,p=>Xq (h::s) (f p.1) p.2
theorem A0{A:Type}{s:aE Ho}{f:Fn s (aA A)}{l:aE gq}{a:A}(h:T4 s f l=ai a):∃x,l=lv s x/\ap s f x=ai a:=by
 induction s generalizing l with
 |nil=>cases l with
  |nil=>exact⟨(),rfl,h⟩
  |cons=>cases h
 |cons k s ih=>
  cases l with
  |nil=>cases k<;>cases h
  |cons y l=>cases k<;>cases y<;>first|(obtain⟨x,rfl,d⟩:=ih h;exact⟨(_,x),rfl,d⟩)|cases h
theorem A1(f:Fn s A)(g:A->B)(x:Tu s):ap s (cmp s f g) x=g (ap s f x):=by
 induction s with
 |nil=>rfl
 |cons k s ih=>exact ih _ _
theorem aaN{A:Type}{s:aE Ho}{f g:Fn s A}(h:∀x,ap s f x=ap s g x):f=g:=by
 induction s with
 |nil=>exact h ()
 |cons k s ih=>exact funext λy=>ih λx=>h (y,x)
theorem T5(f:Fn s A)(x:Tu s):Xq s f (ap s (jS s) x)=ap s f x:=by
 induction s with
 |nil=>rfl
 |cons k s ih=>
  cases s with
  |nil=>rfl
  |cons h s=>exact(ic (Xq (k::h::s) f) (A1 ..)).trans (ih ..)
def hAA:AA->aE gq
 |.i _ n=>[.I n]|.b x=>[.B x]|.s x=>[.S x]|.sh _ xs=>[.R xs]|.ow _ _ xs=>[.R xs]|.kp xs=>[.R xs]|.fn _ c=>Dt c|.nl=>[]
def sAA:AA->AA->aY
 |.i k _,.i k' _=>ah (k=k')|.b _,.b _=>ao|.s _,.s _=>ao|.sh e _,.sh a _=>bK e a|.ow e x _,.ow a d _=>bK e a&&Uh x d
 |.kp _,.kp _=>ao|.fn f c,.fn f' c'=>bK f f'&&DM c c'|.nl,.nl=>ao|_,_=>aq
def fAA(s:AA)(l:aE gq):AA×aE gq:=
 match s with
 |.i k _=>(.i k (gI l),l.tail)|.b _=>(.b (gB l),l.tail)|.s _=>(.s (gS l),l.tail)|.sh e _=>(.sh e (gR l),l.tail)|.ow e x _=>(.ow e x (gR l),l.tail)
 |.kp _=>(.kp (gR l),l.tail)|.fn f c=>(.fn f (za c l).1,(za c l).2)|.nl=>(.nl,l)
def I6:aE AA->aE gq|[]=>[]|a::r=>hAA a++I6 r
def Jz:aE AA->aE AA->aY|[],[]=>ao|a::r,b::t=>sAA a b&&Jz r t|_,_=>aq
def G5:aE AA->aE gq->aE AA×aE gq
 |[],l=>([],l)|a::r,l=>((fAA a l).1::(G5 r (fAA a l).2).1,(G5 r (fAA a l).2).2)
def I7:gg->aE gq
 |.v _ xs=>I6 xs|.pt xs=>I6 xs|.fb xs=>Hb xs
def NC:gg->gg->aY
 |.v g xs,.v d a=>Uh g d&&Jz xs a|.pt xs,.pt a=>Jz xs a|.fb xs,.fb a=>FR xs a|_,_=>aq
def IW(s:gg)(l:aE gq):gg×aE gq:=
 match s with
 |.v g xs=>(.v g (G5 xs l).1,(G5 xs l).2)|.pt xs=>(.pt (G5 xs l).1,(G5 xs l).2)|.fb xs=>(.fb (yt xs l).1,(yt xs l).2)
def hAr:aE gg->aE gq|[]=>[]|a::r=>I7 a++hAr r
def Wr:aE gg->aE gg->aY|[],[]=>ao|a::r,b::t=>NC a b&&Wr r t|_,_=>aq
def Uk:aE gg->aE gq->aE gg×aE gq
 |[],l=>([],l)|a::r,l=>((IW a l).1::(Uk r (IW a l).2).1,(Uk r (IW a l).2).2)
def Hu(l:aE (aE AA)):aE gg:=l.map (.v ao)
theorem aa7(h:sAA s a=ao)(l:aE gq):fAA s (hAA a++l)=(a,l):=by
 cases s<;>cases a<;>simp only[sAA,bf,db,Nat.beq_eq,aM]at h<;>first|exact h.elim|skip
 all_goals first|rfl|(subst h;rfl)|(obtain⟨rfl,h⟩:=h;first|(obtain rfl:=Bf h;rfl)|(simp only[fAA,hAA,Bi h]))
theorem Fa:∀{s a:aE AA},Jz s a=ao->∀l,G5 s (I6 a++l)=(a,l)
 |[],[],_,l=>rfl
 |s::d,a::as,h,l=>by
  simp only[Jz,aM]at h;simp only[G5,I6,ca,aa7 h.1,Fa h.2]
theorem Ul(h:NC s a=ao)(l:aE gq):IW s (I7 a++l)=(a,l):=by
 cases s<;>cases a<;>simp only[NC,db,aM]at h
 ·obtain⟨d,h⟩:=h;obtain rfl:=Bf d;simp only[IW,I7,Fa h]
 ·simp only[IW,I7,Fa h]
 ·simp only[IW,I7,wc h]
theorem IV:∀{s a:aE gg},Wr s a=ao->∀l,Uk s (hAr a++l)=(a,l)
 |[],[],_,l=>rfl
 |s::d,a::as,h,l=>by
  simp only[Wr,aM]at h;simp only[Uk,hAr,ca,Ul h.1,IV h.2]
theorem Qb(h:Wr s a=ao):(Uk s (hAr a)).1=a:=by have:=IV h [];rw[cZ]at this;rw[this]
def xAA{B:Type}(s a:AA)(k:aE gq->aA B):aA B:=
 match s,a with
 |.i h _,.i j n=>bif ah (h=j)then k [.I n]else aj
 |.b _,.b n=>k [.B n]
 |.s _,.s n=>k [.S n]
 |.sh e _,.sh d n=>bif bK e d then k [.R n]else aj
 |.ow e x _,.ow d m n=>bif bK e d&&Uh x m then k [.R n]else aj
 |.kp _,.kp n=>k [.R n]
 |.fn f c,.fn f' c'=>bif bK f f'&&DM c c' then k (Dt c')else aj
 |.nl,.nl=>k []
 |_,_=>aj
def SX{B:Type}:aE AA->aE AA->(aE gq->aA B)->aA B
 |[],[],k=>k []|s::d,a::as,k=>xAA s a λl=>SX d as λr=>k (l++r)|_,_,_=>aj
def ac1{B:Type}(s a:gg)(k:aE gq->aA B):aA B:=
 match s,a with
 |.v g xs,.v e d=>bif Uh g e then SX xs d k else aj
 |.pt xs,.pt d=>SX xs d k
 |.fb xs,.fb d=>bif FR xs d then k (Hb d)else aj
 |_,_=>aj
def xAr{B:Type}:aE gg->aE gg->(aE gq->aA B)->aA B
 |[],[],k=>k []|s::d,a::as,k=>ac1 s a λl=>xAr d as λr=>k (l++r)|_,_,_=>aj
theorem ac0(s a:AA)(k:aE gq->aA B):xAA s a k=bif sAA s a then k (hAA a)else none:=by cases s<;>cases a<;>rfl
theorem Mg:∀(s a:aE AA) (k:aE gq->aA B),SX s a k=bif Jz s a then k (I6 a)else aj
 |[],[],_=>rfl
 |s::d,a::as,k=>by
  simp only[SX,ac0,Mg d as,Jz,I6];cases sAA s a<;>rfl
 |[],_::_,_=>rfl
 |_::_,[],_=>rfl
theorem WK(s a:gg)(k:aE gq->aA B):ac1 s a k=bif NC s a then k (I7 a)else none:=by
 cases s<;>cases a<;>simp only[ac1,NC,I7,Mg]<;>try rfl
 rename_i g xs d e;cases Uh g d<;>rfl
theorem Gc:∀(s a:aE gg) (k:aE gq->aA B),xAr s a k=bif Wr s a then k (hAr a)else aj
 |[],[],_=>rfl
 |s::d,a::as,k=>by
  simp only[xAr,WK,Gc d as,Wr,hAr];cases NC s a<;>rfl
 |[],_::_,_=>rfl
 |_::_,[],_=>rfl
def aad{A:Type}(s:aE Ho)(T:Fn s (aE gg))(f:Fn s (aA A))(a:aE gg):aA A:=xAr (KX s T) a (T4 s f)
def ac2(s t:aE Ho)(k:Fn t iQ)(c:Fn s aY)(v:Fn s (Pr t)):Fn s (aA (aY×iQ)):=
 match s with
 |[]=>ai (c,Xq t k v)
 |_::s=>λx=>ac2 s t k (c x) (v x)
theorem WN(x:Tu s):ap s (ac2 s t k c v) x=ai (ap s c x,Xq t k (ap s v x)):=by
 induction s with
 |nil=>rfl
 |cons h s ih=>exact ih _
def dL{s t:aE Ho}(A:Fn s (aE gg))(k:Fn t iQ)(c:Fn s aY)(v:Fn s (Pr t)):aE gg->aA (aY×iQ):=aad s A (ac2 s t k c v)
def Ub{t:aE Ho}(k:Fn t iQ)(r:iQ):aA (Pr t):=
 xAr (KX t k).rs r.rs λl=>xAr (Hu (KX t k).outs) (Hu r.outs) λm=>T4 t (cmp t (jS t) ai) (l++m)
def Y5{s:aE Ho}(A:Fn s (aE gg)):Prop:=∀x,(Uk (KX s A) (lv s x)).1=ap s A x
def okK{t:aE Ho}(k:Fn t iQ):Prop:=∀x,(⟨(Uk (KX t k).rs (lv t x)).1,(Uk (Hu (KX t k).outs) (Uk (KX t k).rs (lv t x)).2).1⟩:aE gg×aE gg)=⟨(ap t k x).rs,Hu (ap t k x).outs⟩
def okT{s:aE Ho}(T:Fn s (aE (aN×eW))):Prop:=∀x,K8 (KX s T) (lv s x)=ap s T x
theorem Hv:∀{a b:aE (aE AA)},Hu a=Hu b->a=b
 |[],[],_=>rfl
 |_::_,_::_,h=>by
  obtain⟨d,e⟩:=jW h;obtain⟨_,rfl⟩:=gg.v.inj d;rw[Hv e]
 |[],_::_,h=>by cases h
 |_::_,[],h=>by cases h
theorem MG{t:aE Ho}{k:Fn t iQ}(hk:okK k){r:iQ}{p:Pr t}(h:Ub k r=ai p):r=Xq t k p:=by
 unfold Ub at h;rw[Gc]at h;cases a:Wr (KX t k).rs r.rs with
 |false=>rw[a]at h;cases h
 |true=>
  rw[a,aw,Gc]at h;cases d:Wr (Hu (KX t k).outs) (Hu r.outs)with
  |false=>rw[d]at h;cases h
  |true=>rw[d,aw]at h;obtain⟨x,u,j⟩:=A0 h;rw[A1]at j;obtain rfl:=aJ j;rw[T5];have m:=hk x;rw[<-u,IV a,Qb d]at m;obtain⟨e,o⟩:=bU m;have f:=Hv o;cases r;cases y:ap t k x;rw[y]at e f;cases e;cases f;rfl
theorem B6{s t:aE Ho}{A:Fn s (aE gg)}(f:Y5 A){k:Fn t iQ}{c:Fn s aY}{v:Fn s (Pr t)}{args:aE gg}{r:aY×iQ}(h:dL A k c v args=ai r):∃x,args=ap s A x/\r=(ap s c x,Xq t k (ap s v x)):=by
 unfold dL aad at h;rw[Gc]at h;cases a:Wr (KX s A) args with
 |false=>rw[a]at h;cases h
 |true=>rw[a,aw]at h;obtain⟨x,e,d⟩:=A0 h;rw[WN]at d;exact⟨x,by rw[<-f x,<-e,Qb a],(aJ d).symm⟩
def A6{t:aE Ho}(E:fW)(it:It (Pr t))(F:Func)(k:Fn t iQ)(args:aE gg):aA (Pr t):=
 match F.body with
 |some c=>sM E it c (inj args) λe σ=>(fin E F args e σ).bind (Ub k)
 |none=>aj
def GS(F:Func)(A:aE gg):aY:=
 (match F.body with|some c=> !(F.name== "runtime.NumGoroutine")&&sJ F.ntmps c|none=>aq)&&yL A&&eS A.length F.ntmps
theorem flh{P:de}{E:fW}(hE:dY P E)(hm:P.follows .mixedOrders=ao)(B:∀g,kT P E g (E.call g)){g:aN}{F:Func}(m:P.funcs[g]? =ai F){s t:aE Ho}{A:Fn s (aE gg)}{k:Fn t iQ}{it:aN->It (Pr t)}
  (y:∀x,GS F (ap s A x)=ao) {l:aE Code} (hl:jH (F.body.getD .skip)=l) (o:∀N,∀c∈l,b6 E (it N) c) (u:Y5 A) (hk:okK k)
  {c:Fn s aY} {v:Fn s (Pr t)} (h:∀x,wh (ap s A x)->ap s c x=ao->∃N,A6 E (it N) F k (ap s A x)=ai (ap s v x)):kT P E g (dL A k c v):=by
 intro args r d;obtain⟨x,rfl,_⟩:=B6 u d;have a:=y x;unfold GS at a;cases j:F.body with
 |none=>rw[j]at a;cases a
 |some f=>
  rw[j]at hl a;have hl:jH f=l:=hl;simp only[aM,dt]at a;refine aba hE B hm m j (by rw[a.1.1.1,a.1.1.2];rfl) (λargs r d=> ?_) _ r d;obtain⟨x,rfl,hq⟩:=B6 u d;obtain⟨z,rfl⟩:=bU hq;have a:=y x;unfold GS at a;simp only[aM]at a;refine⟨a.1.2,λm=> ?_⟩
  obtain⟨N,h⟩:=h x m z.symm;refine⟨cM a.2,Pr t,it N,λe σ=>(fin E F (ap s A x) e σ).bind (Ub k),ap s v x,by rw[hl];exact o N,?_,λe σ I=> ?_⟩
  ·unfold A6 at h;rw[j]at h;exact h
  ·obtain⟨r,d,hd⟩:=Option.bind_eq_some_iff.1 I;rw[d,MG hk hd]
theorem aaO{s t:aE Ho}{c:Fn s aY}{v:Fn s (Pr t)}{w:Fn s (aA (Pr t))}{d:Pr t}(a:cmp s w mV=c)(e:cmp s w (λo=>o.getD d)=v)(x:Tu s)(h:ap s c x=ao):ap s w x=ai (ap s v x):=by
 subst a e;rw[A1]at h;rw[A1];cases f:ap s w x with
 |none=>rw[f]at h;cases h
 |some y=>rfl
theorem fl{P:de}{E:fW}(hE:dY P E)(hm:P.follows .mixedOrders=ao)(m:∀g,kT P E g (E.call g)){g:aN}{F:Func}(y:P.funcs[g]? =ai F){s t:aE Ho}{A:Fn s (aE gg)}{k:Fn t iQ}{it:aN->It (Pr t)}
  (r:∀x,GS F (ap s A x)=ao) {l:aE Code} (hl:jH (F.body.getD .skip)=l) (a:∀N,∀c∈l,b6 E (it N) c) (j:Y5 A) (hk:okK k)
  {c:Fn s aY} {v:Fn s (Pr t)} {w:aN->Fn s (aA (Pr t))} {u:Fn s (aA (Pr t))} {d:Pr t} (N:aN) (h:∀N x,A6 E (it N) F k (ap s A x)=ap s (w N) x) (z:w N=u) (e:cmp s u mV=c) (f:cmp s u (λo=>o.getD d)=v):kT P E g (dL A k c v):=
 flh hE hm m y r hl a j hk λx _ B=>⟨N,(h N x).trans (by rw[z];exact aaO e f x B)⟩
def ct:(s:aE Ho)->Fn s aY
 |[]=>ao|_::s=>λ_=>ct s
abbrev Kt(R:Type):=Ex->St->aA R
abbrev Tb:=aE (aN×eW)
def J{R:Type}{s:aE Ho}(T:Fn s Tb)(e:Ex)(K:Kt R):Fn s (aA R):=cmp s T λt=>K e (eP t)
def al{R:Type}{s:aE Ho}(T:Fn s Tb)(f:Kt R->Fn s (aA R))(o:Tb->Kt R->aA R):Tb->Kt R->aA R:=λL K=>bif yK (KX s T) L then T4 s (f K) (Hc L)else o L K
def an{R:Type}:Tb->Kt R->aA R:=λ_ _=>aj
def lp{R:Type}(n:aN)(a:Tb->Kt R->aA R)(o:It R):It R:=λd f cn L K=>bif bK d n then a L K else o d f cn L K
def ln{R:Type}:It R:=λ_ _ _ _ _=>aj
theorem T1{R:Type}{s:aE Ho}{T:Fn s Tb}(j:okT T){f:Kt R->Fn s (aA R)}{o:Tb->Kt R->aA R}{L:Tb}{K:Kt R}{r:R}(h:al T f o L K=ai r):(∃x,L=ap s T x/\ap s (f K) x=ai r)\/o L K=ai r:=by
 unfold al at h;cases a:yK (KX s T) L with
 |false=>rw[a]at h;exact .inr h
 |true=>rw[a]at h;obtain⟨x,d,e⟩:=A0 h;exact .inl ⟨x,by rw[<-j x,<-d,G7 a],e⟩
section
variable {R:Type} {E:fW} {it:It R} {C:Code} {n:aN}
def Good(E:fW)(it:It R)(C:Code)(n:aN)(a:Tb->Kt R->aA R):Prop:=∀L K r,a L K=ai r->∃m,iter (sM E it C) (canon (E.zd n)) m (eP L) K=ai r
def Wd(E:fW)(it:It R)(C:Code)(n:aN)(K:Kt R){s:aE Ho}(T:Fn s Tb)(l:aN->Fn s (aA R)):Prop:=∀m x,iter (sM E it C) (canon (E.zd n)) m (eP (ap s T x)) K=ap s (l m) x
theorem mn:Good E it C n an:=λ_ _ _ h=>by cases h
theorem Le{s:aE Ho}{T:Fn s Tb}(a:okT T){l:Kt R->aN->Fn s (aA R)}{N:aN}{o:Tb->Kt R->aA R}(h:∀K,Wd E it C n K T (l K))(d:Good E it C n o):Good E it C n (al T (λK=>l K N) o):=by
 intro L K r hq;rcases T1 a hq with ⟨x,rfl,e⟩|hq
 ·exact⟨N,(h K N x).trans e⟩
 ·exact d L K r hq
theorem lom(n:aN)(d:gk C=n)(hi:∀L K,it n (sM E it C) (canon (E.zd n)) L K=a L K)(h:Good E it C n a):b6 E it C:=by intro L K q;rw[d,hi];exact h L K q
theorem wf{K:Kt R}{s:aE Ho}{T:Fn s Tb}{l:aN->Fn s (aA R)}{m:aN}(h:∀x,iter (sM E it C) (canon (E.zd n)) m (eP (ap s T x)) K=ap s (l m) x):cmp s T (λt=>iter (sM E it C) (canon (E.zd n)) m (eP t) K)=l m:=
 aaN λy=>by rw[A1,h]
theorem wl{K:Kt R}{s:aE Ho}{T:Fn s Tb}{l:aN->Fn s (aA R)}(r:(St->aA R)->Fn s (aA R))(h0:∀x,ap s (l 0) x=aj)
  (a:∀m,(∀x,iter (sM E it C) (canon (E.zd n)) m (eP (ap s T x)) K=ap s (l m) x)->r (λσ=>iter (sM E it C) (canon (E.zd n)) m σ K)=l (m+1))
  (h:∀g x,sM E it C (eP (ap s T x)) (Dw g (canon (E.zd n)) K)=ap s (r g) x):Wd E it C n K T l:=by
 intro m;induction m with
 |zero=>intro x;rw[h0];rfl
 |succ m ih=>intro x;rw[MZ,h,a m ih]
theorem lo1(n:aN)(T:Fn s Tb)(e:gk C=n)(d:okT T)(l:Kt R->aN->Fn s (aA R))(r:Kt R->Fn s (aA R)->Fn s (aA R))
  (hi:∀L K,it n (sM E it C) (canon (E.zd n)) L K=al T (λK=>l K N) an L K) (h0:∀K x,ap s (l K 0) x=aj) (a:∀K n,l K (n+1)=r K (l K n))
  (h:∀K g x,sM E it C (eP (ap s T x)) (Dw g (canon (E.zd n)) K)=ap s (r K (cmp s T λt=>g (eP t))) x):b6 E it C:=
 lom n e hi (Le d (λK=>wl (λg=>r K (cmp s T λt=>g (eP t))) (h0 K) (λm i=>by rw[a];exact ic (r K) (wf i)) (h K)) mn)
end
end Go.FG
namespace Go.FG.Lib
def ck:aN:=18446744073709551616
def ch{α β:Type}(a:α)(f:α->β):β:=f a
theorem wy(h:o=ai x):mV o=ao/\Xo o d=x:=by rw[h];exact⟨rfl,rfl⟩
theorem some_(h:mV o=ao):o=ai (Xo o d):=by
 cases o with
 |none=>cases h
 |some x=>rfl
theorem fE(F:aN->σ->β)(d:σ->aN)(inv:σ->Prop)(res:σ->β)
  (step:∀n s,inv s->F (n+1) s=res s\/∃a,inv a/\d a<d s/\res a=res s/\F (n+1) s=F n a):∀n s,inv s->d s<n->F n s=res s:=by
 intro n;induction n with
 |zero=>intro s _ h;omega
 |succ n ih=>
  intro s hi hm;rcases step n s hi with h|⟨a,e,m,f,j⟩
  ·exact h
  ·rw[j,<-f];exact ih a e (by omega)
theorem c8(i n:aN):ah ((i:ay)<(n:ay))=ah (i<n):=by rw[bZ];omega
theorem b_(i:aN):ah (0<=(i:ay))=true:=by simp
theorem Di{i n:aN}(h:i<n):ah ((i:ay)<(n:ay))=true:=by simp;omega
theorem GZ{i n:aN}(h:¬i<n):ah ((i:ay)<(n:ay))=false:=by simp;omega
theorem dB(i:aN):aR (i:ay)=i:=rfl
theorem cw{i n:aN}(h:i<n)(a:n<=9223372036854775807):bE ((i:ay)+1)=((i+1:aN):ay):=by rw[hZ (by omega) (by omega)];omega
theorem n_{xs:Row}{i:aN}(h:i<xs.length):xs.getD i []=xs[i]:=by simp[dZ,h]
theorem cz{xs:Row}{i j:aN}(h:i<xs.length):av xs i j=xs[i].getD j (.b aq):=by unfold av;rw[n_ h]
theorem jA(xs:Row)(i j:aN)(a:aE CV):(dV xs i j a).length=xs.length:=by unfold dV;simp
theorem fA(ks:aE Ck)(n:aN):(aT ks n).length=n:=by unfold aT;simp
theorem b0(h:n*b<=140737488355328)(a:n<=9223372036854775807):b8 n b=true:=by unfold b8;simp;omega
theorem tO{xs:Row}{i j:aN}{a:aE CV}(h:i<xs.length):dV xs i j a=xs.set i (hS xs[i] j a):=by unfold dV;rw[n_ h]
theorem dQ{x:Row}{i:aN}(h:i<x.length):x.drop i=x[i]::x.drop (i+1):=cq h
def up:ay->aN->ay|k,0=>k|k,n+1=>up (bE (k+1)) n
theorem JU(h:0<=x):bE x<=x:=by
 have e:bE x=if(ah (x%18446744073709551616≥9223372036854775808))=ao then x%18446744073709551616-18446744073709551616 else x%18446744073709551616:=rfl
 rw[e];split<;>omega
def vb(x:ay):Row:=
 if x>127 then [CV.i ba (bF ba (bE (cx x 128+128)))]::vb (bE (cK x 128))else [[CV.i ba (bF ba x)]]
termination_by x.toNat
decreasing_by
 rename_i h
 have h1:cK x 128=x/128:=dJ (by omega)
 have h2:=JU (x:=cK x 128) (by omega)
 omega
theorem rE(h:x>127):vb x=[CV.i ba (bF ba (bE (cx x 128+128)))]::vb (bE (cK x 128)):=by rw[vb,bm h]
theorem km(h:¬x>127):vb x=[[CV.i ba (bF ba x)]]:=by rw[vb,bh h]
theorem yH(h:n<=140737488355328):b8 n 1=true:=b0 (by omega) (by omega)
theorem gm(y:aE CV)(ks:aE Ck):(aP (aT ks 1) 0 y)=[y]:=rfl
theorem Ax(F:aN->ay->Row->aA R)(k:au->aA R)
  (j:∀n x acc,x>127->acc.length<=100->F (n+1) x acc=F n (bE (cK x 128)) (acc++[[CV.i ba (bF ba (bE (cx x 128+128)))]]))
  (m:∀n x acc,¬x>127->acc.length<=100->F (n+1) x acc=k (bytesOf (acc++[[CV.i ba (bF ba x)]]))) (x:ay) (K:x<=9223372036854775807):F (x.toNat+1) x []=k (bytesOf (vb x)):=by
 have:=fE (λn (s:ay×Row)=>F n s.1 s.2) (λs=>s.1.toNat) (λs=>s.2.length<=100/\(1<=s.1->2^s.2.length*s.1<=9223372036854775808)) (λs=>k (bytesOf (s.2++vb s.1))) (λn s hs=>by
  obtain⟨x,acc⟩:=s;obtain⟨hl,a⟩:=hs;dsimp only at hl a⊢;by_cases h:x>127
  ·right;have e:cK x 128=x/128:=dJ (by omega);have hp:(1:ay)<=2^acc.length:=by
    have:(0:ay)<2^acc.length:=by exact Int.pow_pos (by omega)
    omega
   have z:x<=9223372036854775808:=by have B:=a (by omega);have:1*x<=2^acc.length*x:=Cu hp (by omega);omega
   have f:bE (cK x 128)=x/128:=by rw[e,hZ (by omega) (by omega)]
   have o:acc.length<64:=by
    rcases qy acc.length 64 with d|d
    ·exact d
    ·exfalso;have I:(2:ay)^64<=2^acc.length:=by have:=Nat.pow_le_pow_right (n:=2) (by omega) d;exact_mod_cast this
     have r:=a (by omega);have u:(2:ay)^acc.length*1<=2^acc.length*x:=AP (by omega) (by omega);have:(2:ay)^64=18446744073709551616:=by decide
     omega
   refine⟨(bE (cK x 128),acc++[[CV.i ba (bF ba (bE (cx x 128+128)))]]),⟨by simp;omega,λ_=> ?_⟩,by dsimp only;omega,?_,j n x acc h hl⟩
   ·dsimp only;rw[f,bW,bu,t_];have r:=a (by omega);have y:2*(x/128)<=x:=by omega
    have u:(2:ay)^acc.length*(2*(x/128))<=2^acc.length*x:=AP y (by omega);rw[Int.mul_assoc];omega
   ·dsimp only;rw[rE h,ca];rfl
  ·left;rw[km h];exact m n x acc h hl) (x.toNat+1) (x,[]) ⟨by simp,λh=>by simp;omega⟩ (by dsimp only;omega)
 simpa using this
theorem E_{a b c:aN}{d:Decidable (a+b<=c)}(h:a+b<=c): @ah (a+b<=c) d=true:=aC h
theorem acI:∀(n:aN) (x:ay),x<2^n->(vb x).length<=n+1:=by
 intro n;induction n with
 |zero=>intro x a;rw[km (by omega)];simp
 |succ n ih=>
  intro x a;by_cases h:x>127
  ·have e:cK x 128=x/128:=dJ (by omega);have f:=JU (x:=cK x 128) (by omega);rw[rE h];have d:bE (cK x 128)<2^n:=by rw[t_]at a;omega
   have:=ih _ d;simp;omega
  ·rw[km h];simp
theorem ir(xs:Row):(bytesOf xs).size=xs.length:=by unfold bytesOf;simp[bC]
theorem gU(h:x<=9223372036854775807):(bytesOf (vb x)).size<=64:=by
 rw[ir];exact acI 63 x (by have:(2:ay)^63=9223372036854775808:=by decide
                           omega)
theorem dm(a b:au):(a++b).size=a.size+b.size:=dA
theorem lj(l:aE eE):cQ l l=true:=by
 induction l with
 |nil=>rfl
 |cons a l ih=>simp only[cQ,ih,gh];exact beq_self_eq_true a
theorem yo(s:au)(i:aN):fF s i<256:=(s.data.getD i 0).toNat_lt
def rv(t:au)(a:aN):aN->aN->ay->ay×ay×aY
 |0,_,_=>(0,0,aq)
 |f+1,j,n=>
  if a+j<t.size then
   (if(fF t (a+j):ay)>127 then rv t a f (j+1) (n+(fF t (a+j):ay)%128*128^j)
   else if(j>0/\fF t (a+j)=0)\/n+(fF t (a+j):ay)%128*128^j>1000000000 then(0,0,aq)
   else(n+(fF t (a+j):ay)%128*128^j,((a+j+1:aN):ay),ao))
  else(0,0,aq)
theorem oN(h:c=ao):(bif c then x else y)=x:=by rw[h];rfl
theorem PX(h:c=aq):(bif c then x else y)=y:=by rw[h];rfl
theorem uD(h:p): @decide p inst=true:=aC h
theorem Bc(h:¬p): @decide p inst=false:=aF h
def num(t:au):aN->aN->ay
 |_,0=>0
 |a,k+1=>(fF t a:ay)%128+128*num t (a+1) k
theorem tJ(t:au):∀(k a:aN),0<=num t a k/\num t a k<128^k
 |0,a=>by simp[num]
 |k+1,a=>by
  have:=tJ t k (a+1);simp only[num,t_];omega
theorem qm(t:au):∀(k a:aN),num t a (k+1)=num t a k+(fF t (a+k):ay)%128*128^k
 |0,a=>by simp[num]
 |k+1,a=>by
  rw[num,qm t k (a+1),num,show a+1+k=a+(k+1)by omega,t_];rw[Int.mul_add,<-Int.add_assoc];congr 1;rw[Int.mul_comm 128,Int.mul_assoc]
theorem Lv(t:au):∀(k a:aN),(fF t (a+k):ay)%128≠0->1<=num t a (k+1)
 |0,a,h=>by simp[num]at h⊢;omega
 |k+1,a,h=>by
  rw[num];have:=Lv t k (a+1) (by rw[show a+1+k=a+(k+1)by omega];exact h);omega
theorem SM(t:au):∀(k a:aN),(∀i,i<k->128<=fF t (a+i))->fF t (a+k)<128->(k=0\/fF t (a+k)≠0)->num t a (k+1)<=9223372036854775807->vb (num t a (k+1))=(iA a (k+1)).map λi=>[CV.i ba (fF t i:ay)]
 |0,a,_,d,_,_=>by
  have e:num t a 1=(fF t a:ay):=by simp[num]at d⊢;omega
  simp only[zQ]at d;rw[e,km (by omega)];have j:bF ba (fF t a:ay)=(fF t a:ay):=by show(fF t a:ay)%256=_;omega
  rw[j];rfl
 |k+1,a,m,d,f,y=>by
  have z:=yo t a;have h0:=m 0 (by omega);rw[zQ]at h0;have h:fF t (a+(k+1))≠0:=by rcases f with f|f;(·omega);exact f
  have o:=Lv t k (a+1) (by rw[show a+1+k=a+(k+1)by omega];omega);have e:num t a (k+1+1)=(fF t a:ay)%128+128*num t (a+1) (k+1):=rfl;rw[e]at y⊢;have r:cx ((fF t a:ay)%128+128*num t (a+1) (k+1)) 128=(fF t a:ay)%128:=by rw[eN (by omega)];omega
  have u:cK ((fF t a:ay)%128+128*num t (a+1) (k+1)) 128=num t (a+1) (k+1):=by rw[dJ (by omega)];omega
  have x:bE ((fF t a:ay)%128+128)=(fF t a:ay):=by rw[hZ (by omega) (by omega)];omega
  have j:bF ba (fF t a:ay)=(fF t a:ay):=by show(fF t a:ay)%256=_;omega
  rw[rE (by omega),r,u,x,j,hZ (by omega) (by omega),SM t k (a+1) (λi hi=>by rw[show a+1+i=a+(i+1)by omega];exact m (i+1) (by omega)) (by rw[show a+1+k=a+(k+1)by omega];exact d) (by rw[show a+1+k=a+(k+1)by omega];exact .inr h) (by omega)];rfl
theorem tT:∀(k:aN) (x:ay),x<128^(k+1)->(vb x).length<=k+1
 |0,x,h=>by rw[km (by simp at h;omega)];simp
 |k+1,x,h=>by
  by_cases a:x>127
  ·have e:cK x 128=x/128:=dJ (by omega);have f:=JU (x:=cK x 128) (by omega);rw[rE a];have d:bE (cK x 128)<128^(k+1):=by rw[t_]at h;omega
   have:=tT k _ d;simp;omega
  ·rw[km a];simp
theorem GO(h:a+m<=t.size):(bytesOf ((iA a m).map λi=>[CV.i ba (fF t i:ay)])).data.toList=(t.extract a (a+m)).data.toList:=by
 have d:(bytesOf ((iA a m).map λi=>[CV.i ba (fF t i:ay)])).data.toList=(iA a m).map λi=>t.data.getD i 0:=by unfold bytesOf;simp[bN,fF]
 rw[d];apply S6;intro i;have hs:t.size=t.data.size:=rfl;have f:a+m<=t.data.size:=by rw[<-hs];exact h
 simp only[fY,gX,fJ];by_cases hi:i<m
 ·have e:a+i<t.data.size:=by omega
  rw[bI,List.getElem?_range' hi,dP,bm (by omega),dO];simp only[hJ,Nat.one_mul,cR,eu];rw[Array.getElem?_eq_getElem e];rfl
 ·rw[kD (by simp;omega),kD (by simp;omega)]
theorem beq_iff{l r:aE eE}:cQ l r=ao↔l=r:=by
 constructor
 ·intro h;induction l generalizing r with
  |nil=>cases r with|nil=>rfl|cons=>cases h
  |cons a l ih=>
   cases r with
   |nil=>cases h
   |cons b r=>simp only[cQ,aM]at h;rw[eq_of_beq h.1,ih h.2]
 ·rintro rfl;exact lj l
theorem canon(t:au)(k a:aN)(h:a+(k+1)<=t.size)(f:∀i,i<k->128<=fF t (a+i))(j:fF t (a+k)<128)(m:num t a (k+1)<=9223372036854775807):
  cQ (bytesOf (vb (num t a (k+1)))).toList (t.extract a (a+(k+1))).toList= !decide (k>0/\fF t (a+k)=0):=by
 rw[jY,jY];by_cases d:k>0/\fF t (a+k)=0
 ·rw[aC d,aZ];obtain⟨k',rfl⟩:∃k',k=k'+1:=⟨k-1,by omega⟩
  cases o:cQ (bytesOf (vb (num t a (k'+1+1)))).data.toList (t.extract a (a+(k'+1+1))).data.toList with
  |false=>rfl
  |true=>
   exfalso;have r:=ic bB (beq_iff.1 o);have e:num t a (k'+1+1)=num t a (k'+1):=by rw[qm,d.2];simp
   have hl:=tT k' (num t a (k'+1)) (tJ t (k'+1) a).2;rw[e]at r;have u:(bytesOf (vb (num t a (k'+1)))).data.toList.length=(vb (num t a (k'+1))).length:=ir _;have x:(t.extract a (a+(k'+1+1))).data.toList.length=k'+1+1:=by show(t.extract a (a+(k'+1+1))).size=_;rw[wV];omega
   omega
 ·rw[aF d,bG];have:=SM t k a f j (by omega) m;rw[this];exact beq_iff.2 (GO h)
theorem pP{a b:au}(h:a.data.toList=b.data.toList):a=b:=by obtain⟨⟨a⟩⟩:=a;obtain⟨⟨b⟩⟩:=b;simp at h;rw[h]
theorem eG{a b:au}:cQ a.toList b.toList=ah (a=b):=by
 rw[jY,jY];by_cases h:a=b
 ·subst h;rw[aC rfl];exact lj _
 ·rw[aF h];cases d:cQ a.data.toList b.data.toList with
  |false=>rfl
  |true=>exact cJ (pP (beq_iff.1 d)) h
theorem Y9(t:au)(a:aN):∀(f j:aN) (n:ay) (m x:ay),rv t a f j n=(m,x,ao)->n=num t a j->(∀i,i<j->128<=fF t (a+i))->
  ∃k,x=((a+(k+1):aN):ay)/\a+(k+1)<=t.size/\0<=m/\m<=1000000000/\bytesOf (vb m)=t.extract a (a+(k+1))
 |0,j,n,m,x,h,_,_=>by simp[rv]at h
 |f+1,j,n,m,x,h,B,e=>by
  have I:=yo t (a+j);have d:n+(fF t (a+j):ay)%128*128^j=num t a (j+1):=by rw[qm,<-B]
  simp only[rv]at h;by_cases o:a+j<t.size
  ·rw[bm o]at h;by_cases y:(fF t (a+j):ay)>127
   ·rw[bm y]at h;refine Y9 t a f (j+1) _ m x h d (λi hi=> ?_);by_cases r:i<j
    ·exact e i r
    ·have:i=j:=by omega
     subst this;omega
   ·rw[bh y]at h;by_cases u:(j>0/\fF t (a+j)=0)\/n+(fF t (a+j):ay)%128*128^j>1000000000
    ·rw[bm u]at h;simp at h
    ·rw[bh u]at h;simp only[iS,and_true]at h;obtain⟨rfl,rfl⟩:=h;have z:=tJ t (j+1) a;rw[<-d]at z;refine⟨j,by omega,by omega,z.1,by omega,?_⟩
     have:=canon t j a (by omega) e (by omega) (by rw[<-d];omega);rw[eG,show ah (j>0/\fF t (a+j)=0)=aq from aF (λh=>u (.inl h)),bG,<-d]at this;exact cL this
  ·rw[bh o]at h;simp at h
def dM(t:au)(a:ay):ay×ay×aY:=if 0<=a/\a<=t.size then rv t a.toNat 5 0 0 else(0,0,aq)
theorem gJ(h:dM t a=(m,x,ao)):0<=a/\a<x/\x<=t.size/\0<=m/\m<=1000000000/\bytesOf (vb m)=t.extract a.toNat x.toNat:=by
 unfold dM at h;by_cases d:0<=a/\a<=t.size
 ·rw[bm d]at h;obtain⟨k,e,r,f,j,o⟩:=Y9 t a.toNat 5 0 0 m x h rfl (λi hi=>by omega);exact⟨d.1,by omega,by omega,f,j,by rw[e];exact o⟩
 ·rw[bh d]at h;simp at h
def fB(t:au)(a:ay):au×ay×aY:=
 match dM t a with
 |(n,x,ao)=>if n<=20000/\n<=t.size-x then(t.extract x.toNat (x+n).toNat,x+n,ao)else(⟨#[]⟩,0,aq)
 |_=>(⟨#[]⟩,0,aq)
theorem mY(K:t.size<=4611686018427387904)(a:ay)(d:au->ay->aY->aA R):
  (bif(!(dM t a).2.2)then(d ({data:= #[]}) 0 aq)else(bif(ah ((dM t a).1>20000))then(d ({data:= #[]}) 0 aq)else(bif(ah ((dM t a).1>bE ((↑(bC t):ay)-(dM t a).2.1)))then(d ({data:= #[]}) 0 aq)else(bif(fU (dM t a).2.1 (bE ((dM t a).2.1+(dM t a).1)) (↑(bC t):ay))then(d (bx t (aR (dM t a).2.1) (aR (bE ((dM t a).2.1+(dM t a).1)))) (bE ((dM t a).2.1+(dM t a).1)) ao)else(aj)))))=d (fB t a).1 (fB t a).2.1 (fB t a).2.2:=by
 unfold fB;cases m:dM t a with
 |mk n r=>
  obtain⟨x,ok⟩:=r;cases ok with
  |false=>rfl
  |true=>
   obtain⟨o,u,y,z,B,I⟩:=gJ m;have h:bE ((t.size:ay)-x)=t.size-x:=hZ (by omega) (by omega);have j:bE (x+n)=x+n:=hZ (by omega) (by omega);simp only[aZ,ax,h,j];by_cases f:n<=20000/\n<=t.size-x
   ·rw[bm f,PX (Bc (by omega)),PX (Bc (by omega)),oN (by simp[fU];omega)]
   ·rw[bh f];by_cases e:n>20000
    ·rw[oN (uD e)]
    ·rw[PX (Bc e),oN (uD (by omega))]
theorem ry{t:au}{a x:ay}{s:au}(h:fB t a=(s,x,ao)):0<=a/\a<x/\x<=t.size/\s.size<=20000/\bytesOf (vb s.size)++s=t.extract a.toNat x.toNat:=by
 unfold fB at h;cases e:dM t a with
 |mk n r=>
  obtain⟨y,ok⟩:=r;rw[e]at h;cases ok with
  |false=>simp at h
  |true=>
   dsimp only at h;obtain⟨f,m,o,u,z,j⟩:=gJ e;split at h
   ·rename_i B;simp only[iS,and_true]at h;obtain⟨rfl,rfl⟩:=h;have d:(t.extract y.toNat (y+n).toNat).size=n.toNat:=by rw[wV];omega
    refine⟨f,by omega,by omega,by rw[d];omega,?_⟩
    rw[d,show((n.toNat:aN):ay)=n by omega,j];apply pP;simp only[lP,fY,uJ,gX,fJ];rw[show(y+n).toNat-a.toNat=(y.toNat-a.toNat)+n.toNat by omega,Xn,uR,show a.toNat+(y.toNat-a.toNat)=y.toNat by omega,show(y+n).toNat-y.toNat=n.toNat by omega]
   ·simp at h
theorem n8(t:au){i j k:aN}(a:i<=j)(d:j<=k):t.extract i j++t.extract j k=t.extract i k:=by apply pP;simp only[lP,fY,uJ,gX,fJ];rw[show k-i=(j-i)+(k-j)by omega,Xn,uR,show i+(j-i)=j by omega]
theorem qZ(t:au):t.extract 0 t.size=t:=by apply pP;simp only[fY,gX,fJ,eK,og];exact dH (by simp)
def fi(p:aN->aY):aN->aN->ay
 |0,_=> -1
 |d+1,i=>bif p i then(i:ay)else fi p d (i+1)
theorem mO(p:aN->aY):∀d i,fi p d i= -1/\(∀k,i<=k->k<i+d->p k=aq)\/∃k,i<=k/\k<i+d/\fi p d i=(k:ay)/\p k=ao/\∀q,i<=q->q<k->p q=aq
 |0,i=>.inl ⟨rfl,λk _ _=>by omega⟩
 |d+1,i=>by
  unfold fi;cases hp:p i with
  |true=>exact .inr ⟨i,by omega,by omega,rfl,hp,λq _ _=>by omega⟩
  |false=>
   rcases mO p d (i+1)with ⟨e,f⟩|⟨k,e,f,j,m,o⟩
   ·refine .inl ⟨e,λk r u=> ?_⟩;by_cases h:k=i
    ·subst h;exact hp
    ·exact f k (by omega) (by omega)
   ·refine .inr ⟨k,by omega,by omega,j,m,λq x a=> ?_⟩;by_cases h:q=i
    ·subst h;exact hp
    ·exact o q (by omega) a
end Go.FG.Lib
namespace Go.FG.Pu
def sR(xs:Row)(i:aN)(a:Row):Row:=xs.take i++a++xs.drop i
end Go.FG.Pu
namespace Go.FG
class PT (P:outParam de) (T:outParam Tab):Prop where
 e:dY P T
 m:P.follows .mixedOrders=ao
abbrev As:=aE gg
abbrev AA.n(x:ay):AA:=.i .i64 x
abbrev AV.n(x:ay):AV:=.i .i64 x
abbrev CV.n(x:ay):CV:=.i .i64 x
abbrev aI(x:ay):gg:=.v aq [.n x]
abbrev aB(x:aY):gg:=.v aq [.b x]
abbrev aS(x:au):gg:=.v aq [.s x]
abbrev aH(e:aN)(x:Row):gg:=.v aq [.sh e x]
abbrev aO(e:aN)(x:Row):gg:=.v aq [.ow e ao x]
abbrev aV(l:aE AA):gg:=.v ao l
abbrev cA(k:aN)(a:AV):aN×eW:=(k,.v (.v aq [a]))
abbrev cV(k:aN)(l:aE AV):aN×eW:=(k,.v (.v ao l))
abbrev cI(k:aN)(x:ay):aN×eW:=cA k (.n x)
abbrev cP(k n:aN):aN×eW:=cA k (.bp n 0)
abbrev cH(k e:aN)(x:Row):aN×eW:=cA k (.sh e x)
abbrev oB(k:aN)(l:aE AV):aN×eW:=(k,.o (.box l))
abbrev oR(k e:aN)(x:Row):aN×eW:=(k,.o (.row e ao x))
variable {P:de} {T:Tab} [i:PT P T] {E:fW} {g:aN} {F:Func} {s t:aE Ho} {A:Fn s As} {k:Fn t iQ}
theorem fq(y:∀g,kT P T g (E.call g))(I:P.funcs[g]? =ai F){it:aN->It (Pr t)}{l:aE Code}(a:∀N,∀c∈l,b6 E (it N) c)
  {c:Fn s aY} {v:Fn s (Pr t)} (b:aN->Fn t (aA (Pr t))->Fn s (aA (Pr t))) (u:Fn s (aA (Pr t))) {d:Pr t} (z:E.toTab=T:=by rfl)
  (B:∀x,GS F (ap s A x)=true:=by intro x;kernel_rfl) (hl:jH (F.body.getD .skip)=l:=by kernel_rfl) (r:Y5 A:=by intro x;rfl) (hk:okK k:=by intro x;rfl)
  (h:∀N x,A6 E (it N) F k (ap s A x)=ap s (b N (cmp t (jS t) ai)) x:=by intro N x;kernel_rfl) (K:b Lib.ck (cmp t (jS t) ai)=u:=by rfl) (f:cmp s u mV=c:=by rfl) (j:cmp s u (λo=>o.getD d)=v:=by rfl):kT P T g (dL A k c v):=by subst z;exact fl i.e i.m y I B hl a r hk Lib.ck h K f j
theorem fr(r:∀g,kT P T g (E.call g))(B:P.funcs[g]? =ai F)
  {c:Fn s aY} {v:Fn s (Pr t)} (b:Fn t (aA (Pr t))->Fn s (aA (Pr t))) (u:Fn s (aA (Pr t))) {d:Pr t} (y:E.toTab=T:=by rfl)
  (z:∀x,GS F (ap s A x)=true:=by intro x;kernel_rfl) (hl:jH (F.body.getD .skip)=[]:=by kernel_rfl) (j:Y5 A:=by intro x;rfl) (hk:okK k:=by intro x;rfl)
  (h:∀x,A6 E ln F k (ap s A x)=ap s (b (cmp t (jS t) ai)) x:=by intro x;kernel_rfl) (I:b (cmp t (jS t) ai)=u:=by rfl) (a:cmp s u mV=c:=by rfl) (f:cmp s u (λo=>o.getD d)=v:=by rfl):kT P T g (dL A k c v):=by subst y;exact fl i.e i.m r B z hl (it:=λ_=>ln) (λ_=>bD) j hk (w:=λ_=>b (cmp t (jS t) ai)) 0 (λ_=>h) I a f
theorem ft(d:∀g,kT P T g (E.call g))(o:P.funcs[g]? =ai F)
  (b:Fn t (aA (Pr t))->Fn s (aA (Pr t))) (r:∀x,ap s (b (cmp t (jS t) ai)) x=ai (ap s v x)) (f:E.toTab=T:=by rfl)
  (j:∀x,GS F (ap s A x)=true:=by intro x;kernel_rfl) (hl:jH (F.body.getD .skip)=[]:=by kernel_rfl) (a:Y5 A:=by intro x;rfl) (hk:okK k:=by intro x;rfl)
  (h:∀x,A6 E ln F k (ap s A x)=ap s (b (cmp t (jS t) ai)) x:=by intro x;kernel_rfl):kT P T g (dL A k (ct s) v):=by subst f;exact flh i.e i.m d o j hl (it:=λ_=>ln) (λ_=>bD) a hk λx _ _=>⟨0,(h x).trans (r x)⟩
theorem fh(j:∀g,kT P T g (E.call g))(u:P.funcs[g]? =ai F){it:aN->It (Pr t)}{l:aE Code}(a:∀N,∀c∈l,b6 E (it N) c)
  {c:Fn s aY} {v:Fn s (Pr t)} (b:aN->Fn t (aA (Pr t))->Fn s (aA (Pr t))) (y:∀x,wh (ap s A x)->ap s c x=ao->∃N,ap s (b N (cmp t (jS t) ai)) x=ai (ap s v x)) (o:E.toTab=T:=by rfl)
  (r:∀x,GS F (ap s A x)=true:=by intro x;kernel_rfl) (hl:jH (F.body.getD .skip)=l:=by kernel_rfl) (d:Y5 A:=by intro x;rfl) (hk:okK k:=by intro x;rfl)
  (h:∀N x,A6 E (it N) F k (ap s A x)=ap s (b N (cmp t (jS t) ai)) x:=by intro N x;kernel_rfl):kT P T g (dL A k c v):=by subst o;exact flh i.e i.m j u r hl a d hk λx f q=>(y x f q).imp λN e=>(h N x).trans e
section
variable {R:Type} {it:It R} {F:Func}
theorem lq(n:aN){s:aE Ho}(T:Fn s Tb)(l:Kt R->aN->Fn s (aA R))(r:Kt R->Fn s (aA R)->Fn s (aA R)){N:aN}(e:gk (bQ F n)=n:=by kernel_rfl)(d:okT T:=by intro x;rfl)
  (hi:∀L K,it n (sM E it (bQ F n)) (canon (E.zd n)) L K=al T (λK=>l K N) an L K:=by intro L K;rfl) (h0:∀K x,ap s (l K 0) x=none:=by intro K x;rfl) (a:∀K n,l K (n+1)=r K (l K n):=by intro K n;rfl)
  (h:∀K g x,sM E it (bQ F n) (eP (ap s T x)) (Dw g (canon (E.zd n)) K)=ap s (r K (cmp s T λt=>g (eP t))) x:=by intro K g x;kernel_rfl):b6 E it (bQ F n):=
 lo1 n T e d l r hi h0 a h
theorem lw{n:aN}{K:Kt R}{s:aE Ho}{T:Fn s Tb}{l:aN->Fn s (aA R)}(r:(St->aA R)->Fn s (aA R))
  (a:∀m,(∀x,iter (sM E it (bQ F n)) (canon (E.zd n)) m (eP (ap s T x)) K=ap s (l m) x)->r (λσ=>iter (sM E it (bQ F n)) (canon (E.zd n)) m σ K)=l (m+1)) (h0:∀x,ap s (l 0) x=none:=by intro x;rfl)
  (h:∀g x,sM E it (bQ F n) (eP (ap s T x)) (Dw g (canon (E.zd n)) K)=ap s (r g) x:=by intro g x;kernel_rfl):Wd E it (bQ F n) n K T l:=wl r h0 a h
theorem lm(n:aN)(h:Good E it (bQ F n) n a)(d:gk (bQ F n)=n:=by kernel_rfl)(hi:∀L K,it n (sM E it (bQ F n)) (canon (E.zd n)) L K=a L K:=by intro L K;rfl):b6 E it (bQ F n):=lom n d hi h
theorem ga{C:Code}{n:aN}{s:aE Ho}(T:Fn s Tb){N:aN}{l:Kt R->aN->Fn s (aA R)}{o:Tb->Kt R->aA R}(h:∀K,Wd E it C n K T (l K))(d:Good E it C n o)(a:okT T:=by intro x;rfl):Good E it C n (al T (λK=>l K N) o):=Le a h d
end
end Go.FG
namespace Go.FG
open Go.RowKit
def F_(P:de)(n:String)(g:aN)(hg:P.globalNamed n=ai g)(Q:eF bP->Prop):zq:=
 ⟨λw K=>K g/\∃cs,w.var? P n=ai cs/\Q cs,λ{w w' K j} ⟨d,cs,a,e⟩ h f=>⟨f g d,cs,by unfold World.var? at a⊢;rw[hg]at a⊢;simpa [h g d]using a,e⟩⟩
def zq.and(a b:zq):zq:=⟨λw K=>a.f w K/\b.f w K,λ⟨h,j⟩ e d=>⟨a.fr h e d,b.fr j e d⟩⟩
def Qs(g:aN):zq:=
 ⟨λw K=>K g/\∃m:ay,w.cell? (ad g 0)=ai (.int .i64 m),λ{w w' K j} ⟨d,m,e⟩ h f=>⟨f g d,m,(uz (a:=ad g 0) (h g d)).trans e⟩⟩
theorem I9(h:W.cell? (ad g 0)=ai (.int .i64 m)):(Qs g).f W (vu W):=by
 refine⟨?_,m,h⟩
 unfold Mr at h;show g<W.heap.size;cases a:W.heap[g]? with
 |none=>simp[a]at h
 |some o=>exact(dr.1 a).1
theorem vk(h:W.var? P n=ai cs)(d:Q cs):(F_ P n g hg Q).f W (vu W):=by
 refine⟨?_,cs,h,d⟩
 unfold World.var? at h;rw[hg]at h;simp only[Option.bind_some]at h;show g<W.heap.size;cases a:W.heap[g]? with
 |none=>rw[a]at h;cases h
 |some o=>exact(dr.1 a).1
theorem Ad{P:de}{T:Tab}{g:aN}{F:Func}(I:P.funcs[g]? =ai F)(z:F.body.isSome=ao)(K:(F.name== "runtime.NumGoroutine")=aq){s t:aE Ho}{A:Fn s (aE gg)}{k:Fn t iQ}{c:Fn s aY}{v:Fn s (Pr t)}(o:Y5 A)
  (h:∀x,ap s c x=ao->∀(w:cB) (a:gn) (vs:eF bP),Ok T (inj (ap s A x)) w a->vs.size=(ap s A x).length->(∀(p:aN) (y:gg),(ap s A x)[p]? =ai y->∃v,vs[p]? =ai v/\iM T w a (rL p y) v)->
   Calls P g vs w (λe w'=>∃u,e=.returned u/\GA T (ap s A x) (Xq t k (ap s v x)) a w u w')):kT P T g (dL A k c v):=by
 intro args r M w a vs d f j;obtain⟨x,rfl,hq⟩:=B6 o M;obtain⟨m,rfl⟩:=bU hq;refine⟨⟨F,I,z,K⟩,(h x m.symm w a vs d f j).mono λe w' B=> ?_⟩
 obtain⟨u,rfl,h⟩:=B;exact h
theorem wE(u:aN->Prop)(x:Ok T (inj args) w d)(j:∀m o,nu args r (c6 m)≠ .o o)(e:Below w.heap.size w w')
  (z:∀b,d.K b->u b) (f:∀b,u b->d.K b\/(w.heap.size<=b/\b<w'.heap.size)) (y:iM T w' ⟨d.P,d.G,u⟩ (RM r.rs) v):GA T args r d w v w':=
 ⟨⟨d.P,d.G,u⟩,⟨λnm o h=>cJ h (j nm o),λnm o I M b h=>cJ h (j nm o),λnm o b h=>cJ h (j nm o),λb a=>(f b a).elim (λh=>iB (x.lt b h) e.size) (λh=>h.2),λnm xs h=>cJ h (j nm _),T.gp.fr x.gp (λb a=>e.block b (x.lt b a)) z⟩,
  ⟨e.os,e.tape,e.output,e.size,z,λb a _=>e.block b a,λb ⟨nm,o,B,_⟩=>cJ B (j nm o),λb a=>(f b a).elim .inl (λh=>.inr (.inr h.1))⟩,λ_ _=>⟨rfl,rfl⟩,y⟩
theorem yX(w:cB)(k:aN)(os:eF Go.Obj):Below w.heap.size w (Go.Sort.grow (w.drewN k) os):=
 ⟨rfl,rfl,rfl,by show w.heap.size<=(w.heap++os).size;simp,λb a=>by show(w.heap++os)[b]? =_;rw[Array.getElem?_append,bm a]⟩
theorem MW{T:Tab}{w':cB}{K:aN->Prop}{e b:aN}{by_:aN}(o:T.ty e=ai ⟨aq,[.s],by_⟩){l:aE au}{t:aN}{fr:aN×aN}{n:aN}(m:n=l.length)(f:w'.heap[b]? =ai (.cells (l.map Value.string).toArray t fr))(d:K b)(hs:∀x∈l,Co x)(hm:l.length<=maxLen):
  Holds T w' K (.slice (ai (ad b 0)) n n) (.l e (l.map λx=>[CV.s x])):=by
 subst m;have h:=Holds.l (E:=T) (w:=w') (K:=K) e (l.map λx=>[CV.s x]) b 0 l.length ⟨aq,[.s],by_⟩ (λi _=>.string (l.getD i ⟨#[]⟩)) o (by simp) hm d (λy r=>by obtain⟨x,_,rfl⟩:=cN.1 r;rfl) (λi j y x hi a=> ?_) (λi j y x hi a=> ?_)
 ·rw[bJ]at h;exact h
 ·rw[bI]at hi;cases hl:l[i]? with
  |none=>rw[hl]at hi;cases hi
  |some z=>
   rw[hl]at hi;cases hi;cases j with
   |zero=>simp[Mr,f,hl,dZ]
   |succ j=>simp at a
 ·rw[bI]at hi;cases hl:l[i]? with
  |none=>rw[hl]at hi;cases hi
  |some z=>
   rw[hl]at hi;cases hi;cases j with
   |zero=>
    cases a;have:l.getD i ⟨#[]⟩=z:=by simp[dZ,hl]
    show Holds T w' K (.string (l.getD i ⟨#[]⟩)) (.s z);rw[this];exact .s z (hs z (aU hl))
   |succ j=>simp at a
end Go.FG
namespace Go.FG
def ka{a r:Type}(f:a->aA r):=λd=>(f d).isSome
def ko{a r:Type}[Inhabited r](f:a->aA r):=λd=>(f d).getD default
abbrev ki{a r:Type}(f:a->aA r)(c:a->aY)(v:a->r) x:=∀d,f d=ai x->c d=ao/\v d=x
theorem kL{a r:Type}[Inhabited r]{f:a->aA r}{x}:ki f (ka f) (ko f) x:=λ_=>Lib.wy
def iZ{a a1 r:Type}(f:a->a1->aA r):=λd e=>(f d e).isSome
def jb{a a1 r:Type}[Inhabited r](f:a->a1->aA r):=λd e=>(f d e).getD default
abbrev i7{a a1 r:Type}(f:a->a1->aA r)(c:a->a1->aY)(v:a->a1->r) x:=∀d e,f d e=ai x->c d e=ao/\v d e=x
theorem jd{a a1 r:Type}[Inhabited r]{f:a->a1->aA r}{x}:i7 f (iZ f) (jb f) x:=λ_ _=>Lib.wy
def P4{a a1 a2 r:Type}(f:a->a1->a2->aA r):=λd e h=>(f d e h).isSome
def SP{a a1 a2 r:Type}[Inhabited r](f:a->a1->a2->aA r):=λd e h=>(f d e h).getD default
abbrev Rm{a a1 a2 r:Type}(f:a->a1->a2->aA r)(c:a->a1->a2->aY)(v:a->a1->a2->r) x:=∀d e h,f d e h=ai x->c d e h=ao/\v d e h=x
theorem Wi{a a1 a2 r:Type}[Inhabited r]{f:a->a1->a2->aA r}{x}:Rm f (P4 f) (SP f) x:=λ_ _ _=>Lib.wy
def A8{a a1 a2 a3 r:Type}(f:a->a1->a2->a3->aA r):=λd e h j=>(f d e h j).isSome
def Ca{a a1 a2 a3 r:Type}[Inhabited r](f:a->a1->a2->a3->aA r):=λd e h j=>(f d e h j).getD default
abbrev BB{a a1 a2 a3 r:Type}(f:a->a1->a2->a3->aA r)(c:a->a1->a2->a3->aY)(v:a->a1->a2->a3->r) x:=∀d e h j,f d e h j=ai x->c d e h j=ao/\v d e h j=x
theorem CP{a a1 a2 a3 r:Type}[Inhabited r]{f:a->a1->a2->a3->aA r}{x}:BB f (A8 f) (Ca f) x:=λ_ _ _ _=>Lib.wy
def A9{a a1 a2 a3 a4 r:Type}(f:a->a1->a2->a3->a4->aA r):=λd e h j m=>(f d e h j m).isSome
def Cb{a a1 a2 a3 a4 r:Type}[Inhabited r](f:a->a1->a2->a3->a4->aA r):=λd e h j m=>(f d e h j m).getD default
abbrev BC{a a1 a2 a3 a4 r:Type}(f:a->a1->a2->a3->a4->aA r)(c:a->a1->a2->a3->a4->aY)(v:a->a1->a2->a3->a4->r) x:=∀d e h j m,f d e h j m=ai x->c d e h j m=ao/\v d e h j m=x
theorem CQ{a a1 a2 a3 a4 r:Type}[Inhabited r]{f:a->a1->a2->a3->a4->aA r}{x}:BC f (A9 f) (Cb f) x:=λ_ _ _ _ _=>Lib.wy
def aeA{a a1 a2 a3 a4 a5 d e r:Type}(f:a->a1->a2->a3->a4->a5->d->e->aA r):=λh j m o u x y z=>(f h j m o u x y z).isSome
def ahM{a a1 a2 a3 a4 a5 d e r:Type}[Inhabited r](f:a->a1->a2->a3->a4->a5->d->e->aA r):=λh j m o u x y z=>(f h j m o u x y z).getD default
abbrev agK{a a1 a2 a3 a4 a5 d e r:Type}(f:a->a1->a2->a3->a4->a5->d->e->aA r)(c:a->a1->a2->a3->a4->a5->d->e->aY)(v:a->a1->a2->a3->a4->a5->d->e->r) x:=∀h j m o u y z B,f h j m o u y z B=ai x->c h j m o u y z B=ao/\v h j m o u y z B=x
theorem ak2{a a1 a2 a3 a4 a5 d e r:Type}[Inhabited r]{f:a->a1->a2->a3->a4->a5->d->e->aA r}{x}:agK f (aeA f) (ahM f) x:=λ_ _ _ _ _ _ _ _=>Lib.wy
def zE{a a1 a2 a3 a4 a5 d e h r:Type}(f:a->a1->a2->a3->a4->a5->d->e->h->aA r):=λj m o u x y z B I=>(f j m o u x y z B I).isSome
def zI{a a1 a2 a3 a4 a5 d e h r:Type}[Inhabited r](f:a->a1->a2->a3->a4->a5->d->e->h->aA r):=λj m o u x y z B I=>(f j m o u x y z B I).getD default
abbrev zH{a a1 a2 a3 a4 a5 d e h r:Type}(f:a->a1->a2->a3->a4->a5->d->e->h->aA r)(c:a->a1->a2->a3->a4->a5->d->e->h->aY)(v:a->a1->a2->a3->a4->a5->d->e->h->r) x:=∀j m o u y z B I K,f j m o u y z B I K=ai x->c j m o u y z B I K=ao/\v j m o u y z B I K=x
theorem BH{a a1 a2 a3 a4 a5 d e h r:Type}[Inhabited r]{f:a->a1->a2->a3->a4->a5->d->e->h->aA r}{x}:zH f (zE f) (zI f) x:=λ_ _ _ _ _ _ _ _ _=>Lib.wy
def pk{a a1 a2 a3 a4 a5 d e h j r:Type}(f:a->a1->a2->a3->a4->a5->d->e->h->j->aA r):=λm o u x y z B I K M=>(f m o u x y z B I K M).isSome
def pD{a a1 a2 a3 a4 a5 d e h j r:Type}[Inhabited r](f:a->a1->a2->a3->a4->a5->d->e->h->j->aA r):=λm o u x y z B I K M=>(f m o u x y z B I K M).getD default
abbrev pz{a a1 a2 a3 a4 a5 d e h j r:Type}(f:a->a1->a2->a3->a4->a5->d->e->h->j->aA r)(c:a->a1->a2->a3->a4->a5->d->e->h->j->aY)(v:a->a1->a2->a3->a4->a5->d->e->h->j->r) x:=∀m o u y z B I K M N,f m o u y z B I K M N=ai x->c m o u y z B I K M N=ao/\v m o u y z B I K M N=x
theorem qn{a a1 a2 a3 a4 a5 d e h j r:Type}[Inhabited r]{f:a->a1->a2->a3->a4->a5->d->e->h->j->aA r}{x}:pz f (pk f) (pD f) x:=λ_ _ _ _ _ _ _ _ _ _=>Lib.wy
def vZ{e a1 a2 a3 a4 a5 h j m o a r:Type}(f:e->a1->a2->a3->a4->a5->h->j->m->o->a->aA r):=λu x y z B I K M N O d=>(f u x y z B I K M N O d).isSome
def wR{e a1 a2 a3 a4 a5 h j m o a r:Type}[Inhabited r](f:e->a1->a2->a3->a4->a5->h->j->m->o->a->aA r):=λu x y z B I K M N O d=>(f u x y z B I K M N O d).getD default
abbrev wx{e a1 a2 a3 a4 a5 h j m o a r:Type}(f:e->a1->a2->a3->a4->a5->h->j->m->o->a->aA r)(c:e->a1->a2->a3->a4->a5->h->j->m->o->a->aY)(v:e->a1->a2->a3->a4->a5->h->j->m->o->a->r) x:=∀u y z B I K M N O Q d,f u y z B I K M N O Q d=ai x->c u y z B I K M N O Q d=ao/\v u y z B I K M N O Q d=x
theorem zg{d a1 a2 a3 a4 a5 e h j m a r:Type}[Inhabited r]{f:d->a1->a2->a3->a4->a5->e->h->j->m->a->aA r}{x}:wx f (vZ f) (wR f) x:=λ_ _ _ _ _ _ _ _ _ _ _=>Lib.wy
def Xv{j a1 a2 a3 a4 a5 m o u x a d r:Type}(f:j->a1->a2->a3->a4->a5->m->o->u->x->a->d->aA r):=λy z B I K M N O Q S e h=>(f y z B I K M N O Q S e h).isSome
def aak{j a1 a2 a3 a4 a5 m o u x a d r:Type}[Inhabited r](f:j->a1->a2->a3->a4->a5->m->o->u->x->a->d->aA r):=λy z B I K M N O Q S e h=>(f y z B I K M N O Q S e h).getD default
abbrev Y6{j a1 a2 a3 a4 a5 m o u y a d r:Type}(f:j->a1->a2->a3->a4->a5->m->o->u->y->a->d->aA r)(c:j->a1->a2->a3->a4->a5->m->o->u->y->a->d->aY)(v:j->a1->a2->a3->a4->a5->m->o->u->y->a->d->r) x:=∀z B I K M N O Q S U e h,f z B I K M N O Q S U e h=ai x->c z B I K M N O Q S U e h=ao/\v z B I K M N O Q S U e h=x
theorem agM{e a1 a2 a3 a4 a5 h j m o a d r:Type}[Inhabited r]{f:e->a1->a2->a3->a4->a5->h->j->m->o->a->d->aA r}{x}:Y6 f (Xv f) (aak f) x:=λ_ _ _ _ _ _ _ _ _ _ _ _=>Lib.wy
def KV{o a1 a2 a3 a4 a5 u x y z a d e r:Type}(f:o->a1->a2->a3->a4->a5->u->x->y->z->a->d->e->aA r):=λB I K M N O Q S U V h j m=>(f B I K M N O Q S U V h j m).isSome
def L8{o a1 a2 a3 a4 a5 u x y z a d e r:Type}[Inhabited r](f:o->a1->a2->a3->a4->a5->u->x->y->z->a->d->e->aA r):=λB I K M N O Q S U V h j m=>(f B I K M N O Q S U V h j m).getD default
abbrev LD{o a1 a2 a3 a4 a5 u y z B a d e r:Type}(f:o->a1->a2->a3->a4->a5->u->y->z->B->a->d->e->aA r)(c:o->a1->a2->a3->a4->a5->u->y->z->B->a->d->e->aY)(v:o->a1->a2->a3->a4->a5->u->y->z->B->a->d->e->r) x:=∀I K M N O Q S U V X h j m,f I K M N O Q S U V X h j m=ai x->c I K M N O Q S U V X h j m=ao/\v I K M N O Q S U V X h j m=x
theorem Rw{h a1 a2 a3 a4 a5 j m o u a d e r:Type}[Inhabited r]{f:h->a1->a2->a3->a4->a5->j->m->o->u->a->d->e->aA r}{x}:LD f (KV f) (L8 f) x:=λ_ _ _ _ _ _ _ _ _ _ _ _ _=>Lib.wy
def Xw{x a1 a2 a3 a4 a5 y z B I a d e h r:Type}(f:x->a1->a2->a3->a4->a5->y->z->B->I->a->d->e->h->aA r):=λK M N O Q S U V X Y j m o u=>(f K M N O Q S U V X Y j m o u).isSome
def aal{x a1 a2 a3 a4 a5 y z B I a d e h r:Type}[Inhabited r](f:x->a1->a2->a3->a4->a5->y->z->B->I->a->d->e->h->aA r):=λK M N O Q S U V X Y j m o u=>(f K M N O Q S U V X Y j m o u).getD default
abbrev Y7{y a1 a2 a3 a4 a5 z B I K a d e h r:Type}(f:y->a1->a2->a3->a4->a5->z->B->I->K->a->d->e->h->aA r)(c:y->a1->a2->a3->a4->a5->z->B->I->K->a->d->e->h->aY)(v:y->a1->a2->a3->a4->a5->z->B->I->K->a->d->e->h->r) x:=∀M N O Q S U V X Y x9 j m o u,f M N O Q S U V X Y x9 j m o u=ai x->c M N O Q S U V X Y x9 j m o u=ao/\v M N O Q S U V X Y x9 j m o u=x
theorem agN{j a1 a2 a3 a4 a5 m o u y a d e h r:Type}[Inhabited r]{f:j->a1->a2->a3->a4->a5->m->o->u->y->a->d->e->h->aA r}{x}:Y7 f (Xw f) (aal f) x:=λ_ _ _ _ _ _ _ _ _ _ _ _ _ _=>Lib.wy
def Xx{I a1 a2 a3 a4 a5 K M N O a d e h j m r:Type}(f:I->a1->a2->a3->a4->a5->K->M->N->O->a->d->e->h->j->m->aA r):=λQ S U V X Y x6 x7 x8 x9 o u x y z B=>(f Q S U V X Y x6 x7 x8 x9 o u x y z B).isSome
def aam{I a1 a2 a3 a4 a5 K M N O a d e h j m r:Type}[Inhabited r](f:I->a1->a2->a3->a4->a5->K->M->N->O->a->d->e->h->j->m->aA r):=λQ S U V X Y x6 x7 x8 x9 o u x y z B=>(f Q S U V X Y x6 x7 x8 x9 o u x y z B).getD default
abbrev Y8{K a1 a2 a3 a4 a5 M N O Q a d e h j m r:Type}(f:K->a1->a2->a3->a4->a5->M->N->O->Q->a->d->e->h->j->m->aA r)(c:K->a1->a2->a3->a4->a5->M->N->O->Q->a->d->e->h->j->m->aY)(v:K->a1->a2->a3->a4->a5->M->N->O->Q->a->d->e->h->j->m->r) x:=∀S U V X Y x5 x6 x7 x8 x9 o u y z B I,f S U V X Y x5 x6 x7 x8 x9 o u y z B I=ai x->c S U V X Y x5 x6 x7 x8 x9 o u y z B I=ao/\v S U V X Y x5 x6 x7 x8 x9 o u y z B I=x
theorem agO{o a1 a2 a3 a4 a5 u y z B a d e h j m r:Type}[Inhabited r]{f:o->a1->a2->a3->a4->a5->u->y->z->B->a->d->e->h->j->m->aA r}{x}:Y8 f (Xx f) (aam f) x:=λ_ _ _ _ _ _ _ _ _ _ _ _ _ _ _ _=>Lib.wy
def Df{M a1 a2 a3 a4 a5 N O Q S a d e h j m o r:Type}(f:M->a1->a2->a3->a4->a5->N->O->Q->S->a->d->e->h->j->m->o->aA r):=λU V X Y x4 x5 x6 x7 x8 x9 u x y z B I K=>(f U V X Y x4 x5 x6 x7 x8 x9 u x y z B I K).isSome
def DQ{M a1 a2 a3 a4 a5 N O Q S a d e h j m o r:Type}[Inhabited r](f:M->a1->a2->a3->a4->a5->N->O->Q->S->a->d->e->h->j->m->o->aA r):=λU V X Y x4 x5 x6 x7 x8 x9 u x y z B I K=>(f U V X Y x4 x5 x6 x7 x8 x9 u x y z B I K).getD default
abbrev DE{N a1 a2 a3 a4 a5 O Q S U a d e h j m o r:Type}(f:N->a1->a2->a3->a4->a5->O->Q->S->U->a->d->e->h->j->m->o->aA r)(c:N->a1->a2->a3->a4->a5->O->Q->S->U->a->d->e->h->j->m->o->aY)(v:N->a1->a2->a3->a4->a5->O->Q->S->U->a->d->e->h->j->m->o->r) x:=∀V X Y x3 x4 x5 x6 x7 x8 x9 u y z B I K M,f V X Y x3 x4 x5 x6 x7 x8 x9 u y z B I K M=ai x->c V X Y x3 x4 x5 x6 x7 x8 x9 u y z B I K M=ao/\v V X Y x3 x4 x5 x6 x7 x8 x9 u y z B I K M=x
theorem Hs{u a1 a2 a3 a4 a5 y z B I a d e h j m o r:Type}[Inhabited r]{f:u->a1->a2->a3->a4->a5->y->z->B->I->a->d->e->h->j->m->o->aA r}{x}:DE f (Df f) (DQ f) x:=λ_ _ _ _ _ _ _ _ _ _ _ _ _ _ _ _ _=>Lib.wy
end Go.FG
