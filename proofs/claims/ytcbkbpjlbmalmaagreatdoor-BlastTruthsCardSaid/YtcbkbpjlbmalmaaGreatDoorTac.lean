/-
  The BDD theory, part b: sums, and the counts of references. (Merged by program out of 14 texts.)
-/
import Derived.Test.YtcbkbpjlbmalmaaGreatDoorTab
import Derived.ChangeKeysEq
import Derived.Test.YtcbkbpjlbmalmaaGreatDoorChecked
open List renaming append_assoc->a4,perm_append_comm_assoc->a6,Perm.refl->aa,cons_append->ad,Perm.append_left->ah,mem_append_left->am,findIdx?_cons->ao,mem_append_right->av,mem_cons_self->az,filter_append->b0,all_eq_true->b5,perm_middle->b6,range'->b7,range->b8,mapM_cons->b9,Perm.cons->ba,map_cons->bb
open Nat renaming lt_of_lt_of_le->a5,le_of_ble_eq_true->a8,lt_succ_self->a9,le_refl->ab,beq->aj,zero_add->ak,eq_of_beq_eq_true->al,ble->aq,blt->ax,add_assoc->ay,beq_eq->b3,add_comm->b4
open Bool renaming and_eq_true->a7,not_eq_true'->ac,false_eq_true->ae,or_eq_true->an,eq_iff_iff->au
open Int renaming emod_two_eq->ai,le_refl->aw
open Classical renaming propDecidable->ap
open Array renaming replicate->ar
open ByteArray renaming mk->bc
namespace Go.Y
open Go Go.RowKit Go.X
section
section
variable {Y:Sys}
def S1D(Y:Sys):Sh1->Type
 | .dat t=>den Y.D t
 | .own t=>List (den Y.D t)
def L1D(Y:Sys):List Sh1->Type
 | []=>Unit
 |s::l=>S1D Y s×L1D Y l
def ShD(Y:Sys):Sh->Type
 | .one s=>S1D Y s
 | .nat=>Nat
 | .map k e=>List (den Y.D k×den Y.D e)
 | .blk l=>L1D Y l
 | .arr t=>List (den Y.D t)
def VT(Y:Sys):List (Nat×Sh)->Type
 | []=>Unit
 |p::l=>ShD Y p.2×VT Y l
def S1R(I:Cc)(w:World):(s:Sh1)->S1D Y s->Value->Bd->Prop
 | .dat t,x,v,A=>rp Y.toUS t I w v x/\A=[]
 | .own t,x,v,A=>Nz Y t I w A v x
def L1R(I:Cc)(w:World):(l:List Sh1)->L1D Y l->List Value->Bd->Prop
 | [],_,vs,A=>vs=[]/\A=[]
 |s::l,x,vs,A=>∃v vs' A1 A2,vs=v::vs'/\A=A1++A2/\v.oneCell'=true/\S1R I w s x.1 v A1/\L1R I w l x.2 vs' A2
def A5w(x:Nat)(v:Value)(A:Bd):Prop:=v=.int .i64 (x:Int)/\x<=9223372036854775807/\A=[]
def ShR(I:Cc)(w:World):(s:Sh)->ShD Y s->Value->Bd->Prop
 | .one s,x,v,A=>S1R I w s x v A
 | .nat,x,v,A=>A5w x v A
 | .map k e,x,v,A=>Ws Y k e I w A v x
 | .blk l,x,v,A=>∃b arr e A',A=(b,.cells arr e (0,0))::A'/\v=.pointer (some ⟨b,0,none⟩)/\L1R I w l x arr.toList A'
 | .arr t,x,v,A=>∃b off len cap,v=.pointer (some ⟨b,off,none⟩)/\Nz Y t I w A (.slice (some ⟨b,off,none⟩) len cap) x
def VTR(I:Cc)(w:World)(f:Fr):(l:List (Nat×Sh))->VT Y l->Bd->Prop
 | [],_,A=>A=[]
 |p::l,x,A=>∃A1 A2,A=A1++A2/\ShR I w p.2 x.1 (f p.1) A1/\VTR I w f l x.2 A2
def Ajh:(s:Sh1)->AV Y->List (Nat×C4 Y)->Option (S1D Y s×List (Nat×C4 Y))
 | .dat t,a,sg=>match Ug t a with
  |some x=>some (x,sg)
  |none=>none
 | .own t,.own i,sg=>match Ie sg i with
  |some (.sl T xs)=>match Ty.dec T t with
   | .isTrue h=>some ((h▸xs:List (den Y.D t)),FP sg i)
   | .isFalse _=>none
  |_=>none
 | .own _,.val (.slice none 0 0),sg=>some ([],sg)
 | .own _,_,_=>none
variable {g:B4} {v:Value} {A:Bd}
theorem Us{s:Sh1}{a:AV Y}{sg:List (Nat×C4 Y)}{r:S1D Y s×List (Nat×C4 Y)}(h:Ajh s a sg=some r)(hs:Fg g sg A)(b:AR g a v):∃A1 A2,A.Perm (A1++A2)/\S1R g.I g.w s r.1 v A1/\Fg g r.2 A2:=by
 unfold Ajh at h;split at h
 .split at h
  .rename_i x f;cases h;exact⟨[],A,aa _,⟨Dh f b,rfl⟩,hs⟩
  grind
 .split at h
  .rename_i T l c;split at h
   .rename_i e _;subst e;cases h;obtain⟨A1,A2,i,k,d,j⟩:=hs.take c;refine⟨A1,A2,i,?_,j⟩;show Nz Y T _ _ _ v _;rw[b.2];exact d
   grind
  grind
 .cases h;obtain rfl:v=_:=b;exact⟨[],A,aa _,@Bx.nil _ (RT Y.toUS _) _ _,hs⟩
 grind
def Anw:(l:List Sh1)->List (AV Y)->List (Nat×C4 Y)->Option (L1D Y l×List (Nat×C4 Y))
 | [],[],sg=>some ((),sg)
 |s::l,a::aE,sg=>match Ajh s a sg with
  |some r=>match Anw l aE r.2 with
   |some q=>some ((r.1,q.1),q.2)
   |none=>none
  |none=>none
 |_,_,_=>none
theorem Agt{g:B4}:∀{l:List Sh1}{aE:List (AV Y)}{vs:List Value}{sg:List (Nat×C4 Y)}{A:Bd}{r:L1D Y l×List (Nat×C4 Y)},Anw l aE sg=some r->Fg g sg A->F2 (λa v=>AR g a v/\v.oneCell'=true) aE vs->∃A1 A2,A.Perm (A1++A2)/\L1R g.I g.w l r.1 vs A1/\Fg g r.2 A2
 | [],[],_,sg,A,r,h,b,.nil=>by cases h;exact⟨[],A,aa _,⟨rfl,rfl⟩,b⟩
 |s::l,a::aE,v::vs,sg,A,r,h,b,.cons d f=>by
  unfold Anw at h;split at h
  .rename_i t c;split at h
   .rename_i q i;cases h;obtain⟨e,u,p,n,m⟩:=Us c b d.1;obtain⟨A1,A2,j,k,o⟩:=Agt i m f;exact⟨e++A1,A2,perm_cons p j,⟨v,vs,e,A1,rfl,rfl,d.2,n,k⟩,o⟩
   grind
  grind
 |[],_::_,_,_,_,_,h,_,_|_::_,[],_,_,_,_,h,_,_=>by grind[Anw]
def A0x:AV Y->List (Nat×C4 Y)->Option (Nat×List (Nat×C4 Y))
 | .nat j,sg=>some (j,sg)
 | .val (.int .i64 (.ofNat j)),sg=>match aq j 9223372036854775807 with
  |true=>some (j,sg)
  |false=>none
 |_,_=>none
def getM(k e:Ty):AV Y->List (Nat×C4 Y)->Option (List (den Y.D k×den Y.D e)×List (Nat×C4 Y))
 | .own i,sg=>match Ie sg i with
  |some (.mp k' e' m)=>match Ty.dec k' k,Ty.dec e' e with
   | .isTrue h,.isTrue h'=>some ((h▸h'▸m:List (den Y.D k×den Y.D e)),FP sg i)
   |_,_=>none
  |_=>none
 |_,_=>none
def A0y(l:List Sh1):AV Y->List (Nat×C4 Y)->Option (L1D Y l×List (Nat×C4 Y))
 | .adr i 0,sg=>match Ie sg i with
  |some (.blk cs)=>Anw l cs (FP sg i)
  |_=>none
 |_,_=>none
def A0z(t:Ty):AV Y->List (Nat×C4 Y)->Option (List (den Y.D t)×List (Nat×C4 Y))
 | .el i _ 0 0,sg=>match Ie sg i with
  |some (.sl T xs)=>match Ty.dec T t with
   | .isTrue h=>some ((h▸xs:List (den Y.D t)),FP sg i)
   | .isFalse _=>none
  |_=>none
 |_,_=>none
def Ajg:(s:Sh)->AV Y->List (Nat×C4 Y)->Option (ShD Y s×List (Nat×C4 Y))
 | .one s,a,sg=>Ajh s a sg
 | .nat,a,sg=>A0x a sg
 | .map k e,a,sg=>getM k e a sg
 | .blk l,a,sg=>A0y l a sg
 | .arr t,a,sg=>A0z t a sg
variable {s:Sh}
theorem Zr{a:AV Y}{sg:List (Nat×C4 Y)}{r:ShD Y s×List (Nat×C4 Y)}(h:Ajg s a sg=some r)(hs:Fg g sg A)(d:AR g a v):∃A1 A2,A.Perm (A1++A2)/\ShR g.I g.w s r.1 v A1/\Fg g r.2 A2:=by
 cases s with
 |one s=>exact Us h hs d
 |nat=>
  simp only[Ajg]at h;unfold A0x at h;split at h
  .cases h;exact⟨[],A,aa _,⟨d.1,d.2,rfl⟩,hs⟩
  .split at h
   .rename_i H;cases h;exact⟨[],A,aa _,⟨d,a8 H,rfl⟩,hs⟩
   grind
  grind
 |map k e=>
  simp only[Ajg]at h;unfold getM at h;split at h
  .split at h
   .rename_i I K m f;split at h
    .rename_i w D _ _;subst w D;cases h;obtain⟨A1,A2,j,y,c,i⟩:=hs.take f;refine⟨A1,A2,j,?_,i⟩;show Ws Y _ _ _ _ _ v _;rw[d.2];exact c
    grind
   grind
  grind
 |blk l=>
  simp only[Ajg]at h;unfold A0y at h;split at h
  .split at h
   .rename_i L f;obtain⟨A1,A2,j,y,⟨b,arr,e,rfl,c,i⟩,z⟩:=hs.take f;obtain⟨x,B,C,G,E⟩:=Agt h z i;obtain⟨_,J,n,o⟩:=d;rw[c]at n;cases n;exact⟨(b,.cells arr e (0,0))::x,B,perm_cons j C,⟨b,arr,e,x,rfl,o,G⟩,E⟩
   grind
  grind
 |arr t=>
  simp only[Ajg]at h;unfold A0z at h;split at h
  .split at h
   .rename_i T F f;split at h
    .rename_i w _;subst w;cases h;obtain⟨A1,A2,j,y,c,i⟩:=hs.take f;obtain⟨_,b,p,q,u,n,o⟩:=d;simp only[Nat.zero_mul,Nat.add_zero]at o;refine⟨A1,A2,j,⟨b,p,q,u,o,?_⟩,i⟩;have c:Nz Y T g.I g.w A1 (g.μ _) F:=c;grind
    grind
   grind
  grind
def Aef(fr:List (Nat×AV Y)):(l:List (Nat×Sh))->List (Nat×C4 Y)->Option (VT Y l×List (Nat×C4 Y))
 | [],sg=>some ((),sg)
 |p::l,sg=>match HF fr p.1 with
  |some a=>match Ajg p.2 a sg with
   |some r=>match Aef fr l r.2 with
    |some q=>some ((r.1,q.1),q.2)
    |none=>none
   |none=>none
  |none=>none
theorem Zq{g:B4}{f:Fr}{fr:List (Nat×AV Y)}(b:∀i a,HF fr i=some a->AR g a (f i)):∀{l:List (Nat×Sh)}{sg:List (Nat×C4 Y)}{A:Bd}{r:VT Y l×List (Nat×C4 Y)},Aef fr l sg=some r->Fg g sg A->∃A1 A2,A.Perm (A1++A2)/\VTR g.I g.w f l r.1 A1/\Fg g r.2 A2
 | [],sg,A,r,h,d=>by cases h;exact⟨[],A,aa _,rfl,d⟩
 |p::l,sg,A,r,h,d=>by
  unfold Aef at h;split at h
  .rename_i a t;split at h
   .rename_i v c;split at h
    .rename_i q k;cases h;obtain⟨e,w,j,u,o⟩:=Zr c d (b _ _ t);obtain⟨A1,A2,m,n,s⟩:=Zq b k o;exact⟨e++A1,A2,perm_cons j m,⟨e,A1,rfl,u,n⟩,s⟩
    grind
   grind
  grind
def Alx:(s:Sh1)->S1D Y s->Nat->AV Y×List (Nat×C4 Y)×Nat
 | .dat .ptr,x,n=>(.ptr n x,[],n+1)
 | .dat (.int k),x,n=>(.dat (.int k) x,[],n)
 | .dat .bool,x,n=>(.dat .bool x,[],n)
 | .dat .str,x,n=>(.dat .str x,[],n)
 | .dat .mref,x,n=>(.dat .mref x,[],n)
 | .dat (.sl e),x,n=>(.dat (.sl e) x,[],n)
 | .dat (.u m),x,n=>(.dat (.u m) x,[],n)
 | .own t,x,n=>(.own n,[(n,.sl t x)],n+1)
theorem Af1{s:Sh1}{x:S1D Y s}(h:S1R g.I g.w s x v A):∃g',Le g g'/\g'.w=g.w/\g'.I=g.I/\g'.n=(Alx s x g.n).2.2/\AR g' (Alx s x g.n).1 v/\Fg g' (Alx s x g.n).2.1 A:=by
 have a:=Le.new (g:=g) (v:=v) (Ext.refl g.I g.w);cases s with
 |own t=>
  refine⟨g.new g.w v,a,rfl,rfl,rfl,FI rfl,A,[],by simp,a9 _,?_,rfl⟩;show Nz Y t _ _ _ _ _;rw[g.BC];exact h
 |dat t=>
  obtain⟨h,rfl⟩:=h;cases t with
  |ptr=>exact⟨g.new g.w v,a,rfl,rfl,rfl,⟨a9 _,g.BC _ _,Lb.1 h⟩,rfl⟩
  |_=>exact⟨g,Le.refl _,rfl,rfl,rfl,h,rfl⟩
def Alw:(l:List Sh1)->L1D Y l->Nat->List (AV Y)×List (Nat×C4 Y)×Nat
 | [],_,n=>([],[],n)
 |s::l,x,n=>let r:=Alx s x.1 n;let q:=Alw l x.2 r.2.2;(r.1::q.1,r.2.1++q.2.1,q.2.2)
theorem Af0:∀{l:List Sh1}{x:L1D Y l}{g:B4}{vs:List Value}{A:Bd},L1R g.I g.w l x vs A->∃g',Le g g'/\g'.w=g.w/\g'.I=g.I/\g'.n=(Alw l x g.n).2.2/\F2 (λa v=>AR g' a v/\v.oneCell'=true) (Alw l x g.n).1 vs/\Fg g' (Alw l x g.n).2.1 A
 | [],x,g,vs,A,⟨b,d⟩=>by subst b d;exact⟨g,Le.refl _,rfl,rfl,rfl,.nil,rfl⟩
 |s::l,x,g,vs,A,⟨v,o,B,C,b,d,n,t,z⟩=>by subst b d;obtain⟨y,r,e,h,k,u,m⟩:=Af1 t;obtain⟨w,c,q,p,f,i,j⟩:=Af0 (g:=y) (x:=x.2) (by rw[h,e];exact z);rw[k]at f i j;exact⟨w,r.trans c,q.trans e,p.trans h,f,.cons ⟨u.mono c,n⟩ i,(m.mono c).app j⟩
def YO:(s:Sh)->ShD Y s->Nat->AV Y×List (Nat×C4 Y)×Nat
 | .one s,x,n=>Alx s x n
 | .nat,x,n=>(.nat x,[],n)
 | .map k e,x,n=>(.own n,[(n,.mp k e x)],n+1)
 | .blk l,x,n=>let q:=Alw l x (n+1);(.adr n 0,(n,.blk q.1)::q.2.1,q.2.2)
 | .arr t,x,n=>(.el n t 0 0,[(n,.sl t x)],n+1)
theorem Rr{x:ShD Y s}(h:ShR g.I g.w s x v A):∃g',Le g g'/\g'.w=g.w/\g'.I=g.I/\g'.n=(YO s x g.n).2.2/\AR g' (YO s x g.n).1 v/\Fg g' (YO s x g.n).2.1 A:=by
 have a:=Le.new (g:=g) (v:=v) (Ext.refl g.I g.w);cases s with
 |one s=>exact Af1 h
 |nat=>obtain⟨u,C,rfl⟩:=h;exact⟨g,Le.refl _,rfl,rfl,rfl,⟨u,C⟩,rfl⟩
 |map k e=>
  refine⟨g.new g.w v,a,rfl,rfl,rfl,FI rfl,A,[],by simp,a9 _,?_,rfl⟩;show Ws Y _ _ _ _ _ _ _;rw[g.BC];exact h
 |blk l=>
  obtain⟨b,arr,e,r,rfl,rfl,w⟩:=h;obtain⟨o,j,q,z,B,y,p⟩:=Af0 (g:=g.new g.w (.pointer (some ⟨b,0,none⟩))) w;have m:g.n<(g.new g.w (.pointer (some ⟨b,0,none⟩))).n:=a9 _;have f:o.μ g.n=.pointer (some ⟨b,0,none⟩):=by rw[j.μ _ m,g.BC]
  refine⟨o,a.trans j,q,z,B,⟨a5 m j.n,b,f,rfl⟩,[(b,.cells arr e (0,0))],r,rfl,a5 m j.n,⟨b,arr,e,rfl,f,y⟩,p⟩
 |arr t=>
  obtain⟨b,i,c,d,rfl,h⟩:=h;refine⟨g.new g.w (.slice (some ⟨b,i,none⟩) c d),Le.new (g:=g) (Ext.refl g.I g.w),rfl,rfl,rfl,⟨a9 _,b,i,c,d,g.BC _ _,by simp⟩,A,[],by simp,a9 _,?_,rfl⟩;show Nz Y t _ _ _ _ _;rw[g.BC];exact h
def rnm(fr:List (Nat×AV Y))(kp:List Nat)(t:Nat):Option Nat:=match LZ t kp,HF fr t with
 |true,some (.own i)=>some i
 |_,_=>none
def Aqr(rn:Option Nat):(s:Sh)->ShD Y s->Nat->AV Y×List (Nat×C4 Y)×Nat
 | .one (.own t),x,n=>match rn with
  |some i=>(.own i,[(i,.sl t x)],n)
  |none=>YO (.one (.own t)) x n
 | .one (.dat t),x,n=>YO (.one (.dat t)) x n
 | .nat,x,n=>YO .nat x n
 | .map k e,x,n=>match rn with
  |some i=>(.own i,[(i,.mp k e x)],n)
  |none=>YO (.map k e) x n
 | .blk l,x,n=>YO (.blk l) x n
 | .arr t,x,n=>YO (.arr t) x n
theorem Aqq{rn:Option Nat}{x:ShD Y s}(c:∀i,rn=some i->i<g.n/\g.μ i=v)(h:ShR g.I g.w s x v A):∃g',Le g g'/\g'.w=g.w/\g'.I=g.I/\g'.n=(Aqr rn s x g.n).2.2/\AR g' (Aqr rn s x g.n).1 v/\Fg g' (Aqr rn s x g.n).2.1 A:=by
 cases s with
 |one s=>
  cases s with
  |dat t=>exact Rr h
  |own t=>
   cases rn with
   |none=>exact Rr h
   |some i=>
    obtain⟨a,b⟩:=c i rfl;refine⟨g,Le.refl _,rfl,rfl,rfl,⟨a,b.symm⟩,A,[],by simp,a,?_,rfl⟩;show Nz Y t _ _ _ _ _;rw[b];exact h
 |nat=>exact Rr h
 |map k e=>
  cases rn with
  |none=>exact Rr h
  |some i=>
   obtain⟨a,b⟩:=c i rfl;refine⟨g,Le.refl _,rfl,rfl,rfl,⟨a,b.symm⟩,A,[],by simp,a,?_,rfl⟩;show Ws Y _ _ _ _ _ _ _;rw[b];exact h
 |blk l|arr t=>exact Rr h
def YN(fr:List (Nat×AV Y))(kp:List Nat):(l:List (Nat×Sh))->VT Y l->Nat->List (Nat×AV Y)×List (Nat×C4 Y)×Nat
 | [],_,n=>([],[],n)
 |p::l,x,n=>let r:=Aqr (rnm fr kp p.1) p.2 x.1 n;let q:=YN fr kp l x.2 r.2.2;((p.1,r.1)::q.1,r.2.1++q.2.1,q.2.2)
theorem YM{f:Fr}{fr:List (Nat×AV Y)}{kp:List Nat}:∀{l:List (Nat×Sh)}{x:VT Y l}{g:B4}{A:Bd},(∀t i,rnm fr kp t=some i->i<g.n/\g.μ i=f t)->VTR g.I g.w f l x A->∃g',Le g g'/\g'.w=g.w/\g'.I=g.I/\g'.n=(YN fr kp l x g.n).2.2/\(∀i a,HF (YN fr kp l x g.n).1 i=some a->AR g' a (f i))/\Fg g' (YN fr kp l x g.n).2.1 A
 | [],x,g,A,d,h=>by cases h;exact⟨g,Le.refl _,rfl,rfl,rfl,by grind[YN,HF],rfl⟩
 |p::l,x,g,A,d,⟨H,G,F,D,u⟩=>by
  subst F;obtain⟨z,j,k,q,s,C,E⟩:=Aqq (d p.1) D;obtain⟨B,c,y,v,m,n,r⟩:=YM (g:=z) (x:=x.2) (λt i b=>by obtain⟨o,w⟩:=d t i b;exact⟨a5 o j.n,by rw[j.μ i o];exact w⟩) (by rw[q,k];exact u)
  rw[s]at m n r;refine⟨B,j.trans c,y.trans k,v.trans q,m,λi a b=>?_,(E.mono c).app r⟩;unfold YN HF at b;simp only at b;by_cases e:p.1=i
  .rw[UV e]at b;cases b;subst e;exact C.mono c
  grind
def A0i:AV Y->Bool
 | .own _ | .adr _ _ | .el _ _ _ _ | .sub _ _ _=>false
 |_=>true
def TE(fr:List (Nat×AV Y)):List Nat->List (Nat×AV Y)
 | []=>[]
 |t::l=>match HF fr t with
  |some a=>match A0i a with
   |true=>(t,a)::TE fr l
   |false=>TE fr l
  |none=>TE fr l
theorem Vv{fr:List (Nat×AV Y)}{i:Nat}{a:AV Y}:∀{l:List Nat},HF (TE fr l) i=some a->HF fr i=some a/\LZ i l=true
 | [],h=>by grind[TE,HF]
 |t::l,h=>by
  have c:HF (TE fr l) i=some a->HF fr i=some a/\LZ i (t::l)=true:=λh=>by obtain⟨f,g⟩:=Vv h;grind[LZ]
  unfold TE at h;split at h
  .rename_i b e;split at h
   .unfold HF at h;by_cases d:t=i;all_goals simp_all[LZ]
   grind
  grind
theorem Zj{i:Nat}{a:AV Y}:∀{l m:List (Nat×AV Y)},HF (l++m) i=some a->HF l i=some a∨HF m i=some a
 | [],_,h=>.inr h
 |p::l,m,h=>by have h:(if p.1=i then some p.2 else HF (l++m) i)=some a:=h;show (if p.1=i then some p.2 else HF l i)=some a∨_;by_cases b:p.1=i;all_goals simp_all[Zj]
def hdC(c:Cf Y)(la:LA)(x:VT Y la.vars)(H:HH Y):Cf Y:={fr:=(YN c.fr la.BD la.vars x c.nx).1++TE c.fr la.BD,sg:=(YN c.fr la.BD la.vars x c.nx).2.1,nx:=(YN c.fr la.BD la.vars x c.nx).2.2,H:=H,op:=none,hs:=c.hs,pt:=la.BD++c.pt}
theorem Ot{i:Nat}:∀{l m:List Nat},LZ i l=true->LZ i (l++m)=true
 |_::l,m,h=>by simp only[ad,LZ,an]at h ⊢;exact h.imp id Ot
theorem Tf{i:Nat}:∀{l m:List Nat},LZ i m=true->LZ i (l++m)=true
 | [],_,h=>h
 |_::l,m,h=>by simp_all[ad,LZ,Tf]
theorem Ant{g0 g1:B4}{T AH AH1 A1:Bd}{c:Cf Y}{f f1:Fr}(h:RG g0 T c f g AH A){la:LA}(k:Ext g.I g.w g1.I g1.w)(m:∀i,i<g.n->g1.μ i=g.μ i)(e:∀t,LZ t (la.BD++c.pt)=true->f1 t=f t){x:VT Y la.vars}{H:HH Y}(K:VTR g1.I g1.w f1 la.vars x A1)(r:St g1.I g1.w (AH1++(A1++T)))(M:Hu (P8 Y) g1.I g1.w H AH1):∃g2,g2.w=g1.w/\g2.φ=f/\Lx g g2/\RG g0 T (hdC c la x H) f1 g2 AH1 A1:=by
 let B:B4:={I:=g1.I,w:=g1.w,n:=g.n,μ:=g1.μ,φ:=f}
 obtain⟨g2,o,l,p,z,v,s⟩:=YM (g:=B) (fr:=c.fr) (kp:=la.BD) (λt i d=>by
  unfold rnm at d;split at d
  .rename_i j J E;injection d with d
   subst d;obtain⟨u,C⟩:=h.fr t _ E;grind[Ot]
  grind) K
 have F:B.n=c.nx:=h.n;rw[F]at z v s;have b:Le {g with φ:=f} g2:=⟨by grind,o.n,λi d=>by rw[o.μ i d];grind,o.φ⟩
 refine⟨g2,l,o.φ,⟨b.ext,b.n,b.μ⟩,z,by rw[p,l];exact h.le.trans k,by grind,by show Hu _ _ _ _ _;rw[p,l];exact M,s,λy q=>⟨a5 (h.hs y q).1 b.n,by rw[b.μ _ (h.hs y q).1];exact(h.hs y q).2⟩,λt L=>by rw[o.φ];exact e t L,λi a d=>?_⟩;rcases Zj d with d|d
 .grind
 .obtain⟨D,G⟩:=Vv d;rw[e i (Ot G)];have:=(h.fr i a D)
  exact AR.mono (g:={g with φ:=f}) b (by cases a<;>exact this)
end
end
section
section
variable {P:Program} {ops:Array Oper} {R:List PanicEntry->World->Prop} {V:Act->World->Prop} {S S':World->Prop}
theorem Ae4(h:∀w,S' w->S w):∀(n:Nat)(l:Array Bool)(a:Act)(w:World),Wl P ops R V S' n l a w->Wl P ops R V S n l a w
 |0,_,_,_,r=>r
 |n+1,_,_,_,r=>⟨r.1,λi d=>(r.2 i d).mono λc e b=>⟨h _ b.1,Ae4 h n _ c e b.2⟩⟩
theorem Apm{E:List Nat}{w1:World}(h:∀w,S' w->S w):∀(n:Nat)(l:Array Bool)(a:Act)(w:World),Xd P ops R V S' E w1 n l a w->Xd P ops R V S E w1 n l a w
 |0,_,_,_,r=>r
 |n+1,_,_,_,r=>⟨r.1,λi f=>(r.2 i f).mono λd e b=>by
  by_cases c:E.contains i=true
  .rw[UV c]at b ⊢;exact⟨h _ b.1,Ae4 h n _ d e b.2⟩
  .rw[GT c]at b ⊢;exact⟨b.1,Apm h n _ d e b.2⟩⟩
theorem Ajx{R:Qp->World->Prop}{fn:FK}{N:Nat}{k:List Item}{E:List Nat}{n:Nat}{l:Array Bool}{f:Fr}{w:World}(h:∀w,S' w->S w)(r:WE P fn N ops k R S' E n l f w):WE P fn N ops k R S E n l f w:=λa b=>Apm h _ _ _ _ (r a b)
theorem A5r{R:Qp->World->Prop}{fn:FK}{N:Nat}{k:List Item}{n:Nat}{l:Array Bool}{f:Fr}{w:World}(h:∀w,S' w->S w)(r:WG P fn N ops k R S' n l f w):WG P fn N ops k R S n l f w:=λa b=>Ae4 h _ _ _ _ (r a b)
end
section
variable {Y:Sys}
variable {g g':B4}
theorem Sx.le(h:Le g g'){w:World}(s:Sx g' w):Sx g w:=⟨let e:=h.ext.trans s.ext;⟨e.os,e.tape,e.output,e.size,λ_ a=>a,e.BD⟩⟩
structure Yi(D:Bd)(g:B4)(w:World):Prop where
 sx:Sx g w
 kp:∀p∈D,w.heap[p.1]?=some p.2
variable {D:Bd}
theorem Yi.le(h:Le g g'){w:World}(s:Yi D g' w):Yi D g w:=⟨s.sx.le h,s.kp⟩
variable {g0:B4} {T AH A:Bd} {c:Cf Y} {f:Fr}
theorem RG.shd(h:RG g0 (D++T) c f g AH A):Yi D g g.w:=⟨Sx.refl g,λp a=>(h.st.own p (av _ (av _ (am _ a)))).1⟩
theorem RG.Azl(hle:Le g g')(h:RG g0 (D++T) c f g' AH A):Yi D g g'.w:=h.shd.le hle
theorem G9.more{X:Tz Y}{R:List PanicEntry->World->Prop}(h:G9 g0 T X R):G9 g0 (D++T) X R:=λv b c a e t l u f d=>h v b c a e t l u f (D8 d)
def rdH(hd:List (Nat×C4 Y))(c:Cf Y):Op->Option (TypeId×Operand×Nat×Nat×List (AV Y))
 | .load t x=>match En c x with
  |some (.adr i o)=>match Ie hd i with
   |some (.blk cs)=>some (t,x,i,o,cs)
   |_=>none
  |_=>none
 |_=>none
theorem Avj{hid:List (Nat×C4 Y)}{op:Op}{t:TypeId}{x:Operand}{i o:Nat}{cs:List (AV Y)}(h:rdH hid c op=some (t,x,i,o,cs)):op=.load t x/\En c x=some (.adr i o)/\Ie hid i=some (.blk cs):=by
 unfold rdH at h;split at h
 .split at h
  .split at h
   .rename_i _ _ _ _ a _ _ b;cases h;exact⟨rfl,a,b⟩
   .cases h
  .cases h
 .cases h
def ME(c:Cf Y):Op->Bool
 | .move _ | .assign _ | .pick _ _ _ | .nilCheck _ | .fieldAddr _ _ _ | .indexAddr _ _ _ | .binOp _ _ _ _ _ | .unOp _ _ _ | .convert _ _ _ | .extract _ _ | .index _ _ _ | .field _ _ _ | .build _ _ | .makeInterface _ _=>true
 | .load _ x=>match En c x with
  |some (.del _ _ _)|some (.fbx _ _ _)=>true
  |_=>false
 | .call ⟨.builtin .len,_,_⟩ | .call ⟨.builtin .min,_,_⟩ | .call ⟨.builtin .max,_,_⟩=>true
 |_=>false
def A35:Op->Bool
 | .load _ _=>true
 |_=>false
def Aw9(E:Env Y)(o:Op):Bool:=match pfC E o with
 |some _=>false
 |none=>match o with
  | .move _ | .assign _ | .pick _ _ _ | .nilCheck _ | .fieldAddr _ _ _ | .indexAddr _ _ _ | .binOp _ _ _ _ _ | .unOp _ _ _ | .convert _ _ _ | .extract _ _ | .index _ _ _ | .field _ _ _ | .build _ _ | .makeInterface _ _ | .load _ _=>false
  | .call ⟨.builtin .len,_,_⟩ | .call ⟨.builtin .min,_,_⟩ | .call ⟨.builtin .max,_,_⟩=>false
  |_=>true
def prz(c:Cf Y):Op->Cf Y
 | .build t ps=>Ag1 c t ps
 | .makeInterface _ x=>Ox c x
 |_=>c
theorem Alz(h:RG g0 T c f g AH A)(o:Op):∃g' A',g'.w=g.w/\Le g g'/\RG g0 T (prz c o) f g' AH A':=by
 unfold prz;split
 .exact Abr h _ _
 .exact JJ h _
 .exact⟨g,A,rfl,Le.refl _,h⟩
def okB(ops:Array Oper)(l:Array Bool)(ef:List Nat)(i:Nat):Bool:=Region.noSelect ops&&Region.free .any ops l i&&(Region.ready .any ops l).contains i&&!(ef.contains i)
def unl(l:Array Bool)(ef:List Nat):List Nat:=ef.filter λe=>!(l.getD e true)
def Awh(ops:Array Oper)(l:Array Bool)(ef:List Nat)(i:Nat):Bool:=Akq .any ops l (unl l ef) i&&A08 l ef (unl l ef)
def grd(ops:Array Oper)(o:Oper)(c:Cf Y)(k:Bool->Cf Y->Prop):Prop:=match o.guard with
 |none=>k true c
 |some (j,b)=>match (ops[j]?).bind (·.dst) with
  |some d=>match Arn (HF c.fr d) with
   |true=>k false c
   |false=>match (HF c.fr d).bind asB with
    |some (.kn t)=>k (t==b) c
    |some (.pr p _)=>(p->k (true==b) (c.set d (.val (.bool true))))/\(¬p->k (false==b) (c.set d (.val (.bool false))))
    |none=>False
  |none=>False
theorem Zp(h:RG g0 T c f g AH A){ops:Array Oper}{o:Oper}{k:Bool->Cf Y->Prop}(e:grd ops o c k):∃t c',k t c'/\RG g0 T c' f g AH A/\Region.wanted o (yl ops f)=t:=by
 unfold grd at e;split at e
 .rename_i n;exact⟨true,c,e,h,by simp [Region.wanted,n]⟩
 .rename_i j b n;split at e
  .rename_i d u;have v:∀{p:BV},(HF c.fr d).bind asB=some p->f d=.bool p.val:=λ{p}i=>by
    cases r:HF c.fr d with
    |none=>rw[r]at i;cases i
    |some a=>rw[r]at i;exact Nl i (h.fr d a r)
   have s:∀{t:Bool},f d=.bool t->Region.wanted o (yl ops f)=(t==b):=λ{t}m=>by
    have x:yl ops f j=some t:=by unfold yl;rw[u];simp only[m]
    simp [Region.wanted,n,x]
   split at e
   .rename_i w;exact⟨false,c,e,h,Xf n u (Agm w λa y=>h.fr d a y)⟩
   split at e
   .rename_i t m;exact⟨_,c,e,h,s (v m)⟩
   .rename_i p q m;have l:=v m;by_cases i:p
    .have l:f d=.bool true:=by rw[l];show Value.bool (@decide p q)=_;rw[@decide_eq_true p q i]
     exact⟨_,_,e.1 i,h.cons (a:=.val (.bool true)) l,s l⟩
    .have l:f d=.bool false:=by rw[l];show Value.bool (@decide p q)=_;rw[@decide_eq_false p q i]
     exact⟨_,_,e.2 i,h.cons (a:=.val (.bool false)) l,s l⟩
   .exact e.elim
  .exact e.elim
def Al0(E:Env Y)(hid:List (Nat×C4 Y))(ops:Array Oper)(l:Array Bool)(ef:List Nat)(c:Cf Y):List Nat->Option Nat
 | []=>none
 |i::rs=>match ops[i]? with
  |some o=>match okB ops l ef i&&(ME c o.op ||(rdH hid c o.op).isSome ||(pfC E o.op).isSome ||(A35 o.op&&Awh ops l ef i)) with
   |true=>some i
   |false=>Al0 E hid ops l ef c rs
  |none=>Al0 E hid ops l ef c rs
def Ax2(p:Nat->Prop):List Nat->Prop
 | []=>True
 | [i]=>p i
 |i::l=>p i/\Ax2 p l
theorem Ahb{p:Nat->Prop}:∀{l:List Nat},Ax2 p l->∀i∈l,p i
 | [],_,i,a=>by cases a
 | [j],h,i,a=>by simp at a;subst a;exact h
 |j::k::l,h,i,a=>by
  rcases List.mem_cons.1 a with rfl|a
  .exact h.1
  .exact Ahb h.2 i a
def XU(E:Env Y)(hid:List (Nat×C4 Y))(ops:Array Oper)(ef:List Nat)(k:Cf Y->Prop):Nat->Array Bool->Cf Y->Prop
 |n,l,c=>match Region.ready .any ops l with
  | []=>k c
  |r::rs=>match n with
   |0=>False
   |n+1=>match Al0 E hid ops l ef c (r::rs) with
    |some i=>match ops[i]? with
     |some o=>match o.dst with
      |some d=>EZ (okB ops l ef i&&ax d E.N) (grd ops o c λt c=>
        let K:AV Y->Cf Y->Prop:=λa c'=>c'.put E.N o.dst a λc''=>XU E hid ops ef k n (l.setIfInBounds i true) c''
        match t with
        |false=>K (.val undef) c
        |true=>match ME c o.op with
         |true=>vop (prz c o.op) o.op K
         |false=>match rdH hid c o.op with
         |some (t,_,_,p,cs)=>rdB t cs p λa=>K a c
         |none=>match pfC E o.op with
          |some r=>pcX c r K
          |none=>match o.op with
           | .load ty x=>match En c x with
            |some a=>EZ (Awh ops l ef i) (Aap c ty a λa c=>rdX (Ub c ty a) ty a λb=>K b (Ub c ty a))
            |none=>False
           |_=>False)
      |none=>False
     |none=>False
    |none=>Ax2 (λi=>match ops[i]? with
      |some o=>match ef.contains i with
       |true=>grd ops o c λt c=>match t with
        |true=>xop E {o with guard:=none} c λc''=>XU E hid ops ef k n (l.setIfInBounds i true) c''
        |false=>c.put E.N o.dst (.val undef) λc''=>XU E hid ops ef k n (l.setIfInBounds i true) c''
       |false=>grd ops o c λt c=>match t with
        |false=>c.put E.N o.dst (.val undef) λc''=>XU E hid ops ef k n (l.setIfInBounds i true) c''
        |true=>match o.op with
         | .load ty x=>match En c x with
           |some a=>Aap c ty a λa c=>rdX (Ub c ty a) ty a λb=>(Ub c ty a).put E.N o.dst b λc''=>XU E hid ops ef k n (l.setIfInBounds i true) c''
           |none=>False
         |_=>False
      |none=>False) (r::rs)
theorem Axt{E:Env Y}{fn:FK}{gh:B4}{hid:List (Nat×C4 Y)}(hD:Fg gh hid D){R:Qp->World->Prop}(hR:G9 g0 (D++T) E.X (fn.at R)){ops:Array Oper}{ef:List Nat}{kk:Cf Y->Prop}{k:List Item}:∀(n:Nat){l:Array Bool}{c:Cf Y}{f:Fr}{g:B4}{AH A:Bd},Le gh g->RG g0 (D++T) c f g AH A->XU E hid ops ef kk n l c->(∀c' f' g' AH' A',Le g g'->RG g0 (D++T) c' f' g' AH' A'->kk c'->WT Y.P fn E.N k R f' g'.w)->WE Y.P fn E.N ops k R (Yi D g) ef n l f g.w:=by
 intro n;induction n with
 |zero=>
  intro l c f g AH A hgh h e G;unfold XU at e;split at e
  .rename_i U;exact An9 U (G c f g AH A (Le.refl _) h e)
  .exact e.elim
 |succ n ih=>
  intro l c f g AH A hgh h e G;have wd:∀{o:Oper}{t:Bool},Region.wanted o (yl ops f)=t->True:=λ_=>trivial;have s:∀{c':Cf Y}{f':Fr}{g':B4}{AH' A':Bd}{l':Array Bool},Le g g'->RG g0 (D++T) c' f' g' AH' A'->XU E hid ops ef kk n l' c'->WE Y.P fn E.N ops k R (Yi D g') ef n l' f' g'.w:=λj U W=>ih (hgh.trans j) U W λV f2 z AH2 A2 hle2 m hk2=>G V f2 z AH2 A2 (j.trans hle2) m hk2;unfold XU at e;split at e
  .rename_i U;exact An9 U (G c f g AH A (Le.refl _) h e)
  .rename_i r rs U;simp only at e;split at e
   .rename_i i hi;split at e
    .rename_i o ho;split at e
     .rename_i d W;obtain⟨hb,e⟩:=AG e;simp only[a7]at hb;obtain⟨t,c1,e,y,P⟩:=Zp h e;have lay:∀{V:Cf Y}{z:B4}{A2:Bd}{a:AV Y}{v:Value},z.w=g.w->Le g z->RG g0 (D++T) V f z AH A2->AR z a v->(V.put E.N o.dst a λL=>XU E hid ops ef kk n (l.setIfInBounds i true) L)->
        (∀w,Yi D z w->WL Y.P E.N ops (λ_ _=>False) true (λf' I=>f'=Go.X.put E.N f o.dst v/\I=w) [o] f w)->WE Y.P fn E.N ops k R (Yi D g) ef (n+1) l f g.w:=λ{V z A2 a v}u j m ha hp hrun=>by
       obtain⟨c3,g3,C,F,H,Q,k5⟩:=m.put ha hp
       refine Ajx (S':=Yi D z) (λw x=>x.le j) ?_
       rw[<-u]
       refine Mf ho W hb.2 hb.1 rfl (by have:=m.shd;exact this) hrun ?_
       have:=s (j.trans Q) k5 C
       rw[F]at this
       exact Ajx (λw x=>x.le Q) this
      split at e
      .exact lay (a:=.val undef) (v:=undef) rfl (Le.refl _) y rfl e λw _=>by simp [WL,P]
      .obtain⟨B,op,ty,N,af,gd⟩:=o;have run:∀{v:Value}{w:World},KR Y.P f op ty v w->WL Y.P E.N ops (λ_ _=>False) true (λf' I=>f'=Go.X.put E.N f B v/\I=w) [⟨B,op,ty,N,af,gd⟩] f w:=λhy=>by simp only[WL,P,if_true];rw[hy B N af gd];exact⟨rfl,rfl⟩
       simp only at e;split at e
       .obtain⟨z,A2,u,j,m⟩:=Alz y op;obtain⟨v,a,c',g3,C,m1,Z,F,H,Q⟩:=Adb (ty:=ty) m e;exact lay (m1.trans u) (j.trans Z) F H C λw x=>run (Q w (x.sx.le Z))
       .split at e
        .rename_i t2 x2 i2 p2 cs2 hrd;obtain⟨e1,e2,e3⟩:=Avj hrd;have hx9:=e;have e1:op=_:=e1;subst e1;obtain⟨B1,B2,hpm,hin,hsr,_⟩:=hD.take e3;obtain⟨_,b2,h4,h5⟩:=y.ev e2;obtain⟨v,a,C,F,H⟩:=YK (ty:=ty) hx9 (hsr.mono hgh hin) h4 h5;exact lay rfl (Le.refl _) y F C λw x=>run (H w λp hp=>x.kp p (hpm.symm.mem_iff.1 (am _ hp)))
        split at e
        .rename_i r U;obtain⟨v,a,V,z,C,F,H,Q,k5,k6⟩:=Adw y e;obtain⟨c3,g3,m1,Z,m3,m4,m5⟩:=Q.put k5 C;obtain⟨at2,he⟩:=Adv U;subst he;refine Ag5 ho W hb.1 h.shd P (λw x=>.inr ⟨_,_,SP r.2.1.can B ty N af gd,k6 w x.sx⟩) ?_;have:=s (H.trans m4) m5 m1;rw[Z,F]at this;exact Ajx (λw x=>x.le (H.trans m4)) this
        split at e
        .split at e
         .rename_i a ha;obtain⟨hm,e⟩:=AG e;simp only[Awh,a7]at hm;obtain⟨a,c0,g0',AH0,A0,e,S,J,hr0,ha0⟩:=Pm y e (y.ev ha);obtain⟨z,A2,u,j,m⟩:=Ut hr0 _ a;obtain⟨v,b,C,F,H⟩:=UR (ty:=ty) (k:=λb=>(Ub c0 _ a).put E.N B b λL=>XU E hid ops ef kk n (l.setIfInBounds i true) L) m e (ha0.mono j);replace u:=u.trans S;replace j:=J.trans j;obtain⟨c3,g3,m1,Z,m3,m4,m5⟩:=m.put F C;refine Ajx (S':=Yi D z) (λw x=>x.le j) ?_;rw[<-u];have hb1:=hb.1;simp only[okB,a7]at hb1;refine A09 (unl l ef) ho W hb.2 (by simp only[a7];exact⟨⟨hb1,hm.1⟩,hm.2⟩) rfl (run H) ?_;have:=s (j.trans m4) m5 m1;rw[Z]at this;exact Ajx (λw x=>x.le m4) this
         .exact e.elim
        .exact e.elim
     .exact e.elim
    .exact e.elim
   .refine A1b U (by simp) λi hi a ha=>?_;have e:=Ahb e i hi;split at e
    .rename_i o ho;split at e
     case h_2 hE=>
      obtain⟨t,c1,e,y,P⟩:=Zp h e
      rw[hE]
      have O:∀{c':Cf Y}{f':Fr}{g':B4}{AH' A':Bd},g'.w=g.w->Le g g'->RG g0 (D++T) c' f' g' AH' A'->XU E hid ops ef kk n (l.setIfInBounds i true) c'->WE Y.P fn E.N ops k R (Yi D g) ef n (l.setIfInBounds i true) f' g.w:=λhw' j M W=>by have:=s j M W;rw[hw']at this;exact Ajx (λw x=>x.le j) this
      refine Pp (K:=λf' I=>I=g.w/\WE Y.P fn E.N ops k R (Yi D g) ef n (l.setIfInBounds i true) f' g.w) ha ho (λf' I a' y h2=>⟨h2.1,by rw[h2.1];exact h2.2 a' y⟩) ?_
      split at e
      .obtain⟨V,z,C,F,H,Q,k5⟩:=y.put (a:=.val undef) (v:=undef) rfl e
       exact Afe P ⟨rfl,O F Q k5 C⟩
      .obtain⟨B,op,ty,N,af,gd⟩:=o
       simp only at e
       split at e
       .split at e
        .rename_i a2 ha2
         obtain⟨a3,c0,g0',AH0,A0,e,S,J,hr0,ha0⟩:=Pm y e (y.ev ha2)
         obtain⟨z,A2,u,j,m⟩:=Ut hr0 _ a3
         obtain⟨v,b,C,F,H⟩:=UR (ty:=ty) (k:=λb=>(Ub c0 _ a3).put E.N B b λL=>XU E hid ops ef kk n (l.setIfInBounds i true) L) m e (ha0.mono j)
         obtain⟨c3,g3,m1,Z,m3,m4,m5⟩:=m.put F C
         rw[u,S]at H
         simp only[WL,P,if_true]
         rw[H B N af gd]
         exact⟨rfl,O (Z.trans (u.trans S)) (J.trans (j.trans m4)) m5 m1⟩
        .exact e.elim
       .exact e.elim
     rename_i hE;rw[hE];simp only[if_true];obtain⟨t,c1,e,y,P⟩:=Zp h e;have O:∀c' f' g' AH' A',Le g g'->RG g0 (D++T) c' f' g' AH' A'->XU E hid ops ef kk n (l.setIfInBounds i true) c'->Yi D g g'.w/\WG Y.P fn E.N ops k R (Yi D g) n (l.setIfInBounds i true) f' g'.w:=λc' f' g' AH' A' j M W=>⟨M.Azl j,A5r (λw x=>x.le j) (Zw ef M.shd (s j M W))⟩
     refine Pp (K:=λf' I=>Yi D g I/\WG Y.P fn E.N ops k R (Yi D g) n (l.setIfInBounds i true) f' I) ha ho (λf' I a' y h2=>⟨h2.1,h2.2 a' y⟩) ?_;split at e
     .have hwl:=Ac7 y rfl e (ops:=ops) (R:=fn.at R) (K:=λf' I=>Yi D g I/\WG Y.P fn E.N ops k R (Yi D g) n (l.setIfInBounds i true) f' I) (os:=[]) hR O;cases hg:o.guard with
      |none=>
       have:o={o with guard:=none}:=by rw[<-hg]
       rw[this];exact hwl
      |some q=>
       have he:o={o with guard:=some q}:=by rw[<-hg]
       rw[he]at P ⊢;exact Akp P hwl
     .obtain⟨V,z,C,F,H,Q,k5⟩:=y.put (a:=.val undef) (v:=undef) rfl e;refine Afe P ?_;have:=O V _ z _ _ Q k5 C;rw[F]at this;exact this
    .exact e.elim
def hdL:List (Nat×List Nat)->Nat->List Nat
 | [],_=>[]
 |p::l,i=>if p.1=i then p.2 else hdL l i
def hdI(c:Cf Y)(ts:List Nat)(i:Nat):Bool:=ts.any λt=>match HF c.fr t with
 |some (.adr j _)=>aj j i
 |_=>false
def spS(p:Nat->Bool):List (Nat×C4 Y)->List (Nat×C4 Y)×List (Nat×C4 Y)
 | []=>([],[])
 |s::l=>match p s.1 with
  |true=>(s::(spS p l).1,(spS p l).2)
  |false=>((spS p l).1,s::(spS p l).2)
theorem Alc{g:B4}{p:Nat->Bool}:∀{l:List (Nat×C4 Y)}{A:Bd},Fg g l A->∃A1 A2,A.Perm (A1++A2)/\Fg g (spS p l).1 A1/\Fg g (spS p l).2 A2
 | [],_,h=>⟨[],[],by rw[show _=[] from h];exact aa _,rfl,rfl⟩
 |s::l,A,⟨a,n,m,f,j,k⟩=>by
  obtain⟨c,b,e,d,i⟩:=Alc (p:=p) k;subst m;unfold spS;cases p s.1 with
  |true=>exact⟨a++c,b,by rw[a4];exact e.append_left a,⟨a,c,rfl,f,j,d⟩,i⟩
  |false=>exact⟨c,a++b,(e.append_left a).trans (a6 _ _ _),d,⟨a,b,rfl,f,j,i⟩⟩
def drX(E:Env Y)(id:Nat)(ops:Array Oper)(c:Cf Y)(k:Cf Y->Prop):Prop:=
 EZ (Y.P.follows .mixedOrders) (match hdL E.hd id with
  | []=>XU E [] ops ((b8 ops.size).filter λi=>match ops[i]? with |some o=>Aw9 E o.op |none=>false) k ops.size (ar ops.size false) c
  |t::ts=>cls c λc=>XU E (spS (hdI c (t::ts)) c.sg).1 ops ((b8 ops.size).filter λi=>match ops[i]? with |some o=>Aw9 E o.op |none=>false) (λc'=>cls c' λc'=>k {c' with sg:=(spS (hdI c (t::ts)) c.sg).1++c'.sg}) ops.size (ar ops.size false) {c with sg:=(spS (hdI c (t::ts)) c.sg).2})
theorem Axu{E:Env Y}{fn:FK}{R:Qp->World->Prop}(S:G9 g0 T E.X (fn.at R))(h:RG g0 T c f g AH A){id:Nat}{ops:Array Oper}{kk:Cf Y->Prop}{k:List Item}(e:drX E id ops c kk)(next:∀c' f' g' AH' A',Le g g'->RG g0 T c' f' g' AH' A'->kk c'->WT Y.P fn E.N k R f' g'.w):WT Y.P fn E.N (.code (.region id ops true)::k) R f g.w:=by
 obtain⟨P,e⟩:=AG e;have L:∀{g:B4}{c:Cf Y}{AH A:Bd}{D:Bd}{r:List (Nat×C4 Y)}{kk:Cf Y->Prop},Fg g r D->RG g0 (D++T) c f g AH A->XU E r ops ((b8 ops.size).filter λi=>match ops[i]? with|some o=>Aw9 E o.op|none=>false) kk ops.size (ar ops.size false) c->
   (∀c' f' g' AH' A',Le g g'->RG g0 (D++T) c' f' g' AH' A'->kk c'->WT Y.P fn E.N k R f' g'.w)->WT Y.P fn E.N (.code (.region id ops true)::k) R f g.w:=λ{g c AH A D r kk}B h e next=>by
  let s:B4:={g with w:={g.w with drawn:=g.w.drawn+1}}
  have M:Ext g.I g.w g.I s.w:=(h.st.drew _).1
  have b:Le g s:=⟨M,ab _,λ_ _=>rfl,rfl⟩
  have d:RG g0 (D++T) c f s AH A:=⟨h.n,h.le.trans M,(h.st.drew _).2,h.hr.mono b,h.sg.mono b,h.hs.mono b,b.pt h.pt,λi a W=>(h.fr i a W).mono b⟩
  exact Afc (Yi D s) P rfl rfl (Zw _ d.shd (Axt B S.more _ b d e λc' f' g' AH' A' Z F U=>next c' f' g' AH' A' (b.trans Z) F U))
 split at e
 .exact L (D:=[]) (r:=[]) rfl h e next
 .rename_i t I _;obtain⟨m,s,u,A1,Q,J,y,d,_,l⟩:=Dt h e;rw[<-J];obtain⟨D,O,hp,B,K⟩:=Alc (p:=hdI m (t::I)) d.sg;have z:=d.hr;rw[l]at z;have V:RG g0 (D++T) {m with sg:=(spS (hdI m (t::I)) m.sg).2} f s u O:=⟨d.n,d.le,d.st.perm ?_,?_,K,d.hs,d.pt,d.fr⟩
  .refine L B V Q λc' f' g' AH' A' b F e=>?_;obtain⟨C,N,x,X,G,H,n,q,_,j⟩:=Dt F e;rw[<-H];have v:=q.hr;rw[j]at v;refine next {C with sg:=(spS (hdI m (t::I)) m.sg).1++C.sg} f' N x (D++X) (y.trans (b.trans n)) ⟨q.n,q.le,q.st.perm ?_,?_,?_,q.hs,q.pt,q.fr⟩ G
   .refine ah _ ?_;rw[a4];exact a6 _ _ _
   .show HR N C.H _ x C.op;rw[j];exact v
   .exact Fg.app (B.mono (b.trans n)) q.sg
  .refine ah _ ?_;refine(hp.append_right T).trans ?_;rw[a4];exact a6 _ _ _
  .show HR s m.H _ u m.op;rw[l];exact z
end
end
section
section
variable {Y:Sys}
structure Ks(Y:Sys) where
 nx:Cf Y->Prop
 ex:List (Nat×(Cf Y->Prop))
 rt:Cf Y->Prop
def Zk:List (Nat×(Cf Y->Prop))->Nat->Option (Cf Y->Prop)
 | [],_=>none
 |p::l,i=>if p.1=i then some p.2 else Zk l i
def lkA:List (Nat×LA)->Nat->Option LA
 | [],_=>none
 |p::l,i=>if p.1=i then some p.2 else lkA l i
def Aw4:Code->Nat
 | .seq a _=>Aw4 a
 | .region id _ _=>id
 | .block _ b=>Aw4 b
 |_=>0
def jnK(E:Env Y):Operand->Option LA
 | .tmp t=>lkA E.jn t
 |_=>none
def IM(c:Cf Y):List (Nat×Sh)->Cf Y
 | []=>c
 |(t,.one (.dat (.sl _)))::l=>IM (Ox c (.tmp t)) l
 |_::l=>IM c l
theorem RP{g0:B4}{T AH:Bd}{f:Fr}:∀(l:List (Nat×Sh)){g:B4}{A:Bd}{c:Cf Y},RG g0 T c f g AH A->∃g' A',g'.w=g.w/\Le g g'/\RG g0 T (IM c l) f g' AH A'
 | [],g,A,c,h=>⟨g,A,rfl,Le.refl _,h⟩
 |p::l,g,A,c,h=>by
  unfold IM;split
  .exact⟨g,A,rfl,Le.refl _,h⟩
  .rename_i t e q a;cases a;obtain⟨s,r,m,o,n⟩:=JJ h (.tmp t);obtain⟨k,d,j,b,i⟩:=RP l n;exact⟨k,d,j.trans m,o.trans b,i⟩
  .rename_i a;cases a;exact RP l h
def N7(l m:List Nat):Bool:=l.all λi=>LZ i m
theorem Zo{i:Nat}:∀{l:List Nat},LZ i l=true↔i∈l
 | []=>by simp [LZ]
 |j::l=>by simp [LZ,Zo (l:=l)]
theorem Pc{l m:List Nat}(h:N7 l m=true){t:Nat}(a:LZ t l=true):LZ t m=true:=by have:=b5.1 h t (Zo.1 a);exact this
def Ax4(la:LA)(c:Cf Y)(K:VT Y la.vars->HH Y->Prop):Prop:=match Aef (IM c la.vars).fr la.vars (IM c la.vars).sg,(IM c la.vars).op with
 |some r,none=>K r.1 (IM c la.vars).H
 |_,_=>False
variable {la:LA} {g0 g:B4} {T AH A:Bd} {c:Cf Y} {f:Fr}
theorem Asf(h:RG g0 T c f g AH A){K:VT Y la.vars->HH Y->Prop}(d:Ax4 la c K):∃g1 x H A1,g1.w=g.w/\Le g g1/\K x H/\VTR g1.I g1.w f la.vars x A1/\St g1.I g1.w (AH++(A1++T))/\Hu (P8 Y) g1.I g1.w H AH:=by
 obtain⟨g1,q,k,m,b⟩:=RP la.vars h;unfold Ax4 at d;split at d
 .rename_i r o e;obtain⟨A1,l,n,j,p⟩:=Zq b.fr o b.sg;have i:=b.hr;rw[e]at i;refine⟨g1,r.1,_,A1,k,m,d,j,?_,i⟩;have a:=b.st.perm ((n.append_right T).append_left AH);rw[a4]at a;have:St g1.I g1.w ((AH++A1)++(l++T)):=by simpa [a4] using a
  simpa [a4] using D8 this
 .exact d.elim
def cnv(la:LA)(c:Cf Y)(K:VT Y la.vars->HH Y->Prop):Prop:=cls c λc=>Ax4 la c K
theorem Aol(h:RG g0 T c f g AH A){K:VT Y la.vars->HH Y->Prop}(a:cnv la c K):∃g1 x H AH1 A1,g1.w=g.w/\Le g g1/\K x H/\VTR g1.I g1.w f la.vars x A1/\St g1.I g1.w (AH1++(A1++T))/\Hu (P8 Y) g1.I g1.w H AH1:=by obtain⟨n,g1,AH1,A1,a,k,b,m,_⟩:=Dt h a;obtain⟨i,x,H,e,j,d,l⟩:=Asf m a;exact⟨i,x,H,AH1,e,j.trans k,b.trans d,l⟩
def wr(pt:List Nat)(q:Cf Y->Prop):Cf Y->Prop:=λc=>EZ (N7 pt c.pt) (q {c with pt:=pt})
def wrE(pt:List Nat):List (Nat×(Cf Y->Prop))->List (Nat×(Cf Y->Prop))
 | []=>[]
 |p::l=>(p.1,wr pt p.2)::wrE pt l
theorem AR.YT(φ:Fr){a:AV Y}{v:Value}(h:AR g a v):AR {g with φ:=φ} a v:=by cases a<;>exact h
theorem SR.YT(φ:Fr){i:Nat}{s:C4 Y}(h:SR g i s A):SR {g with φ:=φ} i s A:=by
 cases s with
 |blk u=>obtain⟨b,j,e,d,a,c⟩:=h;exact⟨b,j,e,d,a,c.mono λ_ _ r=>⟨r.1.YT φ,r.2⟩⟩
 |sl t p|mp k e m=>exact h
 |tp l=>obtain⟨d,f,a,c⟩:=h;exact⟨d,f,a,c.mono λ_ _ r=>r.YT φ⟩
 |ag l=>obtain⟨d,f,a,c⟩:=h;exact⟨d,f,a,c.mono λ_ _ r=>⟨r.1.YT φ,r.2⟩⟩
 |clo q l m=>obtain⟨d,f,n,a,c,o⟩:=h;exact⟨d,f,n,a,c.mono λ_ _ r=>r.YT φ,o.mono λ_ _ r=>r.YT φ⟩
theorem Fg.YT(φ:Fr):∀{l:List (Nat×C4 Y)}{A:Bd},Fg g l A->Fg {g with φ:=φ} l A
 | [],_,h=>h
 |_::_,_,⟨a,f,e,d,c,b⟩=>⟨a,f,e,d,c.YT φ,b.YT φ⟩
theorem RG.YT{φ:Fr}{pt:List Nat}(h:RG g0 T c f g AH A)(d:∀t,LZ t pt=true->f t=φ t):RG g0 T {c with pt:=pt} f {g with φ:=φ} AH A:=by
 refine⟨h.n,h.le,h.st,?_,h.sg.YT φ,h.hs,d,λi a e=>(h.fr i a e).YT φ⟩;have:=h.hr;show HR _ _ _ _ c.op;cases b:c.op with
 |none|some o=>rw[b]at this;exact this
def Tw(E:Env Y):Code->Cf Y->Ks Y->Prop
 |.skip,c,ks|.label _,c,ks=>ks.nx c
 | .seq a b,c,ks=>Tw E a c {ks with nx:=λc'=>Tw E b c' ks}
 | .region id ops d,c,ks=>match d with
  |false=>U1 E ops ops.toList c ks.nx
  |true=>drX E id ops c ks.nx
 | .cond x a b,c,ks=>match (En c x).bind asB with
  |some (.kn true)=>Tw E a c ks
  |some (.kn false)=>Tw E b c ks
  |some (.pr p _)=>match jnK E x with
   |none=>(p->Tw E a (kno c x true) ks)/\(¬p->Tw E b (kno c x false) ks)
   |some la=>cls c λc=>∃M:VT Y la.vars->HH Y->Prop,(∀x H,M x H->ks.nx {hdC c la x H with pt:=c.pt})/\
    (p->Tw E a {c with pt:=la.BD++c.pt} {nx:=λc'=>EZ (N7 (la.BD++c.pt) c'.pt) (cnv la c' M),ex:=wrE c.pt ks.ex,rt:=ks.rt})/\
    (¬p->Tw E b {c with pt:=la.BD++c.pt} {nx:=λc'=>EZ (N7 (la.BD++c.pt) c'.pt) (cnv la c' M),ex:=wrE c.pt ks.ex,rt:=ks.rt})
  |none=>False
 | .block id b,c,ks=>Tw E b c {ks with ex:=(id,ks.nx)::ks.ex}
 | .exit id,c,ks=>match Zk ks.ex id with
  |some q=>q c
  |none=>False
 | .ret,c,ks=>ks.rt c
 | .scope b,c,ks=>Tw E b c ks
 | .loop b,c,ks=>cls c λc=>match lkA E.lp (Aw4 b) with
  |some la=>match la.heap with
   |true=>∃V:Nat->VT Y la.vars->HH Y->Prop,(∃n,cnv la c (V n))/\∀n x H,V n x H->Tw E b (hdC c la x H) {nx:=λc'=>EZ (N7 (la.BD++c.pt) c'.pt) (∃m,m<n/\cnv la c' (V m)),ex:=wrE c.pt ks.ex,rt:=ks.rt}
   |false=>∃V:Nat->VT Y la.vars->Prop,(∃n,cnv la c (λx H=>H=c.H/\V n x))/\∀n x,V n x->Tw E b (hdC c la x c.H) {nx:=λc'=>EZ (N7 (la.BD++c.pt) c'.pt) (∃m,m<n/\cnv la c' (λx H=>H=c.H/\V m x)),ex:=wrE c.pt ks.ex,rt:=ks.rt}
  |none=>False
 |_,_,_=>False
structure Aj5(Y:Sys)(fn:FK)(N:Nat)(g0:B4)(T:Bd)(R:Qp->World->Prop)(φ:Fr)(gb:B4)(ks:Ks Y)(k:List Item):Prop where
 nx:∀c f g AH A,g.φ=φ->Lx gb g->RG g0 T c f g AH A->ks.nx c->WT Y.P fn N k R f g.w
 ex:∀id q,Zk ks.ex id=some q->∃k',exitTo id k=some k'/\∀c f g AH A,g.φ=φ->Lx gb g->RG g0 T c f g AH A->q c->WT Y.P fn N k' R f g.w
 rt:∀c f g AH A k',Lx gb g->RG g0 T c f g AH A->ks.rt c->WT Y.P fn N (.code .ret::k') R f g.w
theorem Am5{pt:List Nat}{id:Nat}{q:Cf Y->Prop}:∀{l:List (Nat×(Cf Y->Prop))},Zk (wrE pt l) id=some q->∃q',Zk l id=some q'/\q=wr pt q'
 | [],h=>by simp [wrE,Zk]at h
 |p::l,h=>by
  simp only[wrE,Zk]at h;simp only[Zk];by_cases a:p.1=id
  .rw[UV a]at h ⊢;cases h;exact⟨_,rfl,rfl⟩
  .rw[GT a]at h ⊢;exact Am5 h
theorem Aj5.inner{fn:FK}{N:Nat}{gb g1:B4}{R:Qp->World->Prop}{φ φ':Fr}{ks:Ks Y}{k k2:List Item}{pt:List Nat}{nx:Cf Y->Prop}(h:Aj5 Y fn N g0 T R φ gb ks k)(m:Lx gb g1)(l:∀t,LZ t pt=true->φ' t=φ t)(r:∀id,exitTo id k2=exitTo id k)(e:∀c f g AH A,g.φ=φ'->Lx g1 g->RG g0 T c f g AH A->nx c->WT Y.P fn N k2 R f g.w):Aj5 Y fn N g0 T R φ' g1 {nx:=nx,ex:=wrE pt ks.ex,rt:=ks.rt} k2:=by refine⟨e,λid q u=>?_,λc f g AH A j p d b=>h.rt c f g AH A j (m.trans p) d b⟩;obtain⟨o,x,rfl⟩:=Am5 u;obtain⟨j,w,s⟩:=h.ex id o x;refine⟨j,by rw[r];exact w,λc f g AH A i a d b=>?_⟩;obtain⟨v,b⟩:=AG b;exact s _ f {g with φ:=φ} AH A rfl (m.trans ⟨a.ext,a.n,a.μ⟩) (d.YT λt n=>by rw[d.pt t (Pc v n),i,l t n]) b
theorem Aom{g':B4}{AH' A':Bd}{c':Cf Y}{f':Fr}(h:RG g0 T c f g AH A)(d:Lx g g')(b:g'.φ=f)(i:RG g0 T c' f' g' AH' A')(e:N7 (la.BD++c.pt) c'.pt=true){K:VT Y la.vars->HH Y->Prop}(o:cnv la c' K):∃g2 x H AH2 A2,g2.w=g'.w/\g2.φ=f/\Lx g g2/\K x H/\RG g0 T (hdC c la x H) f' g2 AH2 A2:=by obtain⟨z,x,H,a,s,n,w,q,l,k,r⟩:=Aol i o;have j:=d.trans w.lx;obtain⟨g2,v,p,m,y⟩:=Ant h j.ext j.μ (λt u=>by rw[i.pt t (Pc e u),b]) l k r;exact⟨g2,x,H,a,s,v.trans n,p,m,q,y⟩
theorem G8{E:Env Y}{fn:FK}{g0:B4}{T:Bd}{R:Qp->World->Prop}(I:G9 g0 T E.X (fn.at R)):∀(code:Code){ks:Ks Y}{k:List Item}{c:Cf Y}{f:Fr}{g gb:B4}{AH A:Bd},Aj5 Y fn E.N g0 T R g.φ gb ks k->Lx gb g->RG g0 T c f g AH A->Tw E code c ks->WT Y.P fn E.N (.code code::k) R f g.w
 | .skip,ks,k,c,f,g,gb,AH,A,l,o,h,i=>QS (l.nx c f g AH A rfl o h i)
 | .label _,ks,k,c,f,g,gb,AH,A,l,o,h,i=>ZK (l.nx c f g AH A rfl o h i)
 | .seq a b,ks,k,c,f,g,gb,AH,A,l,o,h,i=>by refine Dz (G8 I a (gb:=gb) (ks:={ks with nx:=λs=>Tw E b s ks}) ⟨λs L W u P v B J j=>G8 I b (by rw[v];exact l) B J j,λS q O=>?_,l.rt⟩ o h i);obtain⟨k',K,F⟩:=l.ex S q O;exact⟨k',K,F⟩
 | .region S ops d,ks,k,c,f,g,gb,AH,A,l,o,h,i=>by
  cases d with
  |false=>exact CJ (QQ I _ h i λs L W u P r J j=>l.nx s L W u P r.φ (o.trans r.lx) J j)
  |true=>exact Axu I h i λs L W u P r J j=>l.nx s L W u P r.φ (o.trans r.lx) J j
 | .cond x a b,ks,k,c,f,g,gb,AH,A,l,o,h,i=>by
  simp only[Tw]at i;have bd:∀{p:BV},(En c x).bind asB=some p->ev f x=.bool p.val:=λ{p}D=>by
   cases hz:En c x with
   |none=>rw[hz]at D;cases D
   |some a=>rw[hz]at D;exact Nl D (h.ev hz)
  split at i
  .rename_i N;exact QR (bd N) (G8 I a l o h i)
  .rename_i N;exact NH (bd N) (G8 I b l o h i)
  .rename_i p d N;have hv:=bd N;have Q:(p->WT Y.P fn E.N (.code a::k) R f g.w)->(¬p->WT Y.P fn E.N (.code b::k) R f g.w)->WT Y.P fn E.N (.code (.cond x a b)::k) R f g.w:=λK F=>@ZL _ _ _ _ _ _ _ _ _ _ p d hv K F;have way':∀w,w=g.w->(p->WT Y.P fn E.N (.code a::k) R f w)->(¬p->WT Y.P fn E.N (.code b::k) R f w)->WT Y.P fn E.N (.code (.cond x a b)::k) R f g.w:=λw e=>by rw[e];exact Q
   split at i
   .exact Q (λD=>G8 I a l o (Zm h (by rw[hv];exact congrArg _ (decide_eq_true D))) (i.1 D)) (λD=>G8 I b l o (Zm h (by rw[hv];exact congrArg _ (decide_eq_false D))) (i.2 D))
   .rename_i y hla;obtain⟨c,C,AH,A,⟨M,K,F,h3⟩,hw,r,h,_⟩:=Dt h i;rw[<-r.φ]at l;replace o:=o.trans r.lx;have Q:=way' C.w hw;have hin:RG g0 T {c with pt:=y.BD++c.pt} f {C with φ:=f} AH A:=h.YT λt _=>rfl;have B:Lx C {C with φ:=f}:=⟨Ext.refl _ _,ab _,λ_ _=>rfl⟩
    have U:Aj5 Y fn E.N g0 T R f {C with φ:=f} {nx:=λs=>EZ (N7 (y.BD++c.pt) s.pt) (cnv y s M),ex:=wrE c.pt ks.ex,rt:=ks.rt} k:=l.inner (o.trans B) (λt ht=>h.pt t ht) (λ_=>rfl) λs L g1' u P v hl J j=>by obtain⟨hs,j⟩:=AG j;obtain⟨z,x,H,G,A2,k1,k2,X,k4,k5⟩:=Aom h ⟨hl.ext,hl.n,hl.μ⟩ v J hs j;have:=l.nx _ L {z with φ:=C.φ} G A2 rfl (o.trans ⟨X.ext,X.n,X.μ⟩) (k5.YT λt ht=>by rw[k5.pt t (Tf ht),k2];exact h.pt t ht) (K x H k4);rw[<-k1];exact this
    exact Q (λD=>G8 I a (g:={C with φ:=f}) U (Lx.refl _) hin (F D)) (λD=>G8 I b (g:={C with φ:=f}) U (Lx.refl _) hin (h3 D))
  .exact i.elim
 | .block S b,ks,k,c,f,g,gb,AH,A,l,o,h,i=>by
  refine KU (G8 I b (gb:=gb) (ks:={ks with ex:=(S,ks.nx)::ks.ex}) ⟨λs L W u P v B J j=>KT (l.nx s L W u P v B J j),λid' q O=>?_,l.rt⟩ o h i);simp only[Zk]at O;by_cases he:S=id'
  .rw[UV he]at O;cases O;subst he;exact⟨k,by simp [exitTo],l.nx⟩
  .rw[GT he]at O;obtain⟨k',K,F⟩:=l.ex id' q O;exact⟨k',by simp [exitTo,he,K],F⟩
 | .exit S,ks,k,c,f,g,gb,AH,A,l,o,h,i=>by
  simp only[Tw]at i;split at i
  .rename_i q O;obtain⟨k',K,F⟩:=l.ex S q O;exact Ui K (F c f g AH A rfl o h i)
  .exact i.elim
 | .ret,ks,k,c,f,g,gb,AH,A,l,o,h,i=>l.rt c f g AH A k o h i
 | .loop b,ks,k,c,f,g,gb,AH,A,l,o,h0,i=>by
  simp only[Tw]at i;obtain⟨c,C,AH,A,i,hw,r,h,_⟩:=Dt h0 i;rw[<-r.φ]at l;replace o:=o.trans r.lx;rw[<-hw];have key:∀(y:LA)(V:Nat->VT Y y.vars->HH Y->Prop),(∃n,cnv y c (V n))->(∀n x H,V n x H->Tw E b (hdC c y x H) {nx:=λs=>EZ (N7 (y.BD++c.pt) s.pt) (∃m,m<n/\cnv y s (V m)),ex:=wrE c.pt ks.ex,rt:=ks.rt})->
    WT Y.P fn E.N (.code (.loop b)::k) R f C.w:=λy V⟨n,h0⟩hstep=>by
   have hin:RG g0 T {c with pt:=y.BD++c.pt} f {C with φ:=f} AH A:=h.YT λt _=>rfl
   have start:∃z x H G A2,z.w=C.w/\z.φ=f/\Lx C z/\V n x H/\RG g0 T (hdC c y x H) f z G A2:=by obtain⟨g5,x,H,AH1,A1,K,F,h3,h4,h5,h6⟩:=Aol h h0;obtain⟨z,k1,k2,X,k4⟩:=Ant h F.ext F.μ (λt ht=>rfl) h4 h5 h6;exact⟨z,x,H,AH1,A1,k1.trans K,k2,X,h3,k4⟩
   refine Yr (λn L w'=>∃z x H G A2,z.w=w'/\z.φ=f/\Lx C z/\V n x H/\RG g0 T (hdC c y x H) L z G A2) n ?_ ?_
   .exact start
   .rintro n L w' ⟨z,x,H,G,A2,rfl,k2,X,k4,k5⟩ ih
    have U:Aj5 Y fn E.N g0 T R z.φ z {nx:=λs=>EZ (N7 (y.BD++c.pt) s.pt) (∃m,m<n/\cnv y s (V m)),ex:=wrE c.pt ks.ex,rt:=ks.rt} (.inLoop b::k):=by rw[k2];refine l.inner (o.trans X) (λt ht=>h.pt t ht) (λ_=>rfl) λs f2 g1' u P v hl J j=>?_;obtain⟨hs,m,hm,j⟩:=AG j;obtain⟨g3,x',H',AH3,A3,m1,m2,m3,m4,m5⟩:=Aom h (X.trans hl) v J hs j;exact ih.out m f2 g1'.w hm ⟨g3,x',H',AH3,A3,m1,m2,m3,m4,m5⟩
    exact G8 I b U (Lx.refl _) k5 (hstep n x H k4)
  split at i
  .rename_i y hla;split at i
   .obtain⟨V,h0,hs⟩:=i;exact key y V h0 hs
   .obtain⟨V,h0,hs⟩:=i;exact key y (λn x H=>H=c.H/\V n x) h0 λn x H⟨he,hv⟩=>by subst he;exact hs n x hv
  .exact i.elim
 | .rangeFunc _ _ _ _,_,_,_,_,_,_,_,_,_,_,_,i=>i.elim
 | .scope b,ks,k,c,f,g,gb,AH,A,l,o,h,i=>by refine Akm (G8 I b (gb:=gb) (ks:=ks) ⟨λs L W u P v B J j=>Ac8 (l.nx s L W u P v B J j),λS q O=>?_,l.rt⟩ o h i);obtain⟨k',K,F⟩:=l.ex S q O;exact⟨k',by simp [exitTo,K],F⟩
 |.goto _,_,_,_,_,_,_,_,_,_,_,_,i|.refuse _,_,_,_,_,_,_,_,_,_,_,_,i=>i.elim
end
end
section
section
variable {Y:Sys}
def JU:(l:List AK)->Jg Y l->Nat->Nat->List (Nat×AV Y)×List (Nat×C4 Y)×Nat
 | [],_,_,n=>([],[],n)
 | .dat .ptr::l,x,i,n=>let r:=JU l x.2 (i+1) (n+1);((i,.ptr n x.1)::r.1,r.2.1,r.2.2)
 | .dat (.int k)::l,x,i,n=>let r:=JU l x.2 (i+1) n;((i,.dat (.int k) x.1)::r.1,r.2.1,r.2.2)
 | .dat .bool::l,x,i,n=>let r:=JU l x.2 (i+1) n;((i,.dat .bool x.1)::r.1,r.2.1,r.2.2)
 | .dat .str::l,x,i,n=>let r:=JU l x.2 (i+1) n;((i,.dat .str x.1)::r.1,r.2.1,r.2.2)
 | .dat .mref::l,x,i,n=>let r:=JU l x.2 (i+1) n;((i,.dat .mref x.1)::r.1,r.2.1,r.2.2)
 | .dat (.sl e)::l,x,i,n=>let r:=JU l x.2 (i+1) n;((i,.dat (.sl e) x.1)::r.1,r.2.1,r.2.2)
 | .dat (.u m)::l,x,i,n=>let r:=JU l x.2 (i+1) n;((i,.dat (.u m) x.1)::r.1,r.2.1,r.2.2)
 | .own t::l,x,i,n=>let r:=JU l x.2 (i+1) (n+1);((i,.own n)::r.1,(n,.sl t x.1)::r.2.1,r.2.2)
 | .map k e::l,x,i,n=>let r:=JU l x.2 (i+1) (n+1);((i,.own n)::r.1,(n,.mp k e x.1)::r.2.1,r.2.2)
 | .mob::l,x,i,n=>let r:=JU l x.2 (i+1) n;((i,.mob x.1)::r.1,r.2.1,r.2.2)
 | .del t::l,x,i,n=>let r:=JU l x.2 (i+1) n;((i,.del t x.1 0)::r.1,r.2.1,r.2.2)
 | .fn aE rs::l,x,i,n=>let r:=JU l x.2 (i+1) n;((i,.fn aE rs x.1)::r.1,r.2.1,r.2.2)
 | .fbx aE rs::l,x,i,n=>let r:=JU l x.2 (i+1) n;((i,.fbx aE rs x.1)::r.1,r.2.1,r.2.2)
def NmR(g:B4):List AK->Nat->List Value->Prop
 | [],_,_=>True
 |.own _::l,n,vs|.map _ _::l,n,vs=>(∃v vs',vs=v::vs'/\n<g.n/\g.μ n=v)/\NmR g l (n+1) vs.tail
 | .dat .ptr::l,n,vs=>NmR g l (n+1) vs.tail
 |.dat (.int _)::l,n,vs|.dat .bool::l,n,vs|.dat .str::l,n,vs|.dat .mref::l,n,vs|.dat (.sl _)::l,n,vs|.dat (.u _)::l,n,vs|.mob::l,n,vs|.del _::l,n,vs|.fn _ _::l,n,vs|.fbx _ _::l,n,vs=>NmR g l n vs.tail
theorem NmR.mono{g g':B4}(h:Lx g g'):∀{l:List AK}{n:Nat}{vs:List Value},NmR g l n vs->NmR g' l n vs
 | [],_,_,_=>trivial
 |.own _::l,n,vs,⟨⟨v,a,c,b,e⟩,d⟩|.map _ _::l,n,vs,⟨⟨v,a,c,b,e⟩,d⟩=>⟨⟨v,a,c,a5 b h.n,by rw[h.μ _ b];exact e⟩,NmR.mono h d⟩
 |.dat .ptr::l,n,vs,r|.dat (.int _)::l,n,vs,r|.dat .bool::l,n,vs,r|.dat .str::l,n,vs,r|.dat .mref::l,n,vs,r|.dat (.sl _)::l,n,vs,r|.dat (.u _)::l,n,vs,r|.mob::l,n,vs,r|.del _::l,n,vs,r|.fn _ _::l,n,vs,r|.fbx _ _::l,n,vs,r=>NmR.mono (l:=l) h r
theorem RI{p:Nat×AV Y}{l:List (Nat×AV Y)}{Q:Nat->AV Y->Prop}(d:Q p.1 p.2)(h:∀j a,HF l j=some a->Q j a):∀j a,HF (p::l) j=some a->Q j a:=λj a b=>by grind[HF]
theorem Uq{f:Fr}:∀{l:List AK}{x:Jg Y l}{i:Nat}{g:B4}{vs:List Value}{A:Bd},ArR Y g.I g.w l x vs A->(∀j v,vs[j]?=some v->f (i+j)=v)->∃g',Le g g'/\g'.w=g.w/\g'.I=g.I/\g'.n=(JU l x i g.n).2.2/\(∀j a,HF (JU l x i g.n).1 j=some a->AR g' a (f j))/\Fg g' (JU l x i g.n).2.1 A/\NmR g' l g.n vs
 | [],x,i,g,vs,A,⟨o,q⟩,M=>by subst o q;exact⟨g,Le.refl _,rfl,rfl,rfl,by grind[JU,HF],rfl,trivial⟩
 |k::l,x,i,g,vs,A,h,M=>by
  have L:∀{v:Value}{d:List Value},vs=v::d->f i=v/\∀j u,d[j]?=some u->f (i+1+j)=u:=λe=>by subst e;refine⟨M 0 _ rfl,λj u V=>?_⟩;have:=M (j+1) u (by grind);rwa [ay,b4 1 j]
  have c:∀{a:AV Y}{z:Jg Y l}{v:Value}{d:List Value},vs=v::d->AR g a v->ArR Y g.I g.w l z d A->∃g',Le g g'/\g'.w=g.w/\g'.I=g.I/\g'.n=(JU l z (i+1) g.n).2.2/\(∀j b,HF ((i,a)::(JU l z (i+1) g.n).1) j=some b->AR g' b (f j))/\Fg g' (JU l z (i+1) g.n).2.1 A/\NmR g' l g.n vs.tail:=λe K T=>by obtain⟨g',y,B,D,C,E,F,G⟩:=Uq T (L e).2;exact⟨g',y,B,D,C,RI (Q:=λj b=>AR g' b (f j)) (by show AR g' _ (f i);rw[(L e).1];exact K.mono y) E,F,by grind⟩
  have w:∀{a:AV Y}{s:List (Nat×C4 Y)}{z:Jg Y l}{v:Value}{d:List Value}{H J:Bd},vs=v::d->A=H++J->(∀g',Le (g.new g.w v) g'->AR g' a v/\Fg g' s H)->ArR Y g.I g.w l z d J->
    ∃g',Le g g'/\g'.w=g.w/\g'.I=g.I/\g'.n=(JU l z (i+1) (g.n+1)).2.2/\(∀j b,HF ((i,a)::(JU l z (i+1) (g.n+1)).1) j=some b->AR g' b (f j))/\Fg g' (s++(JU l z (i+1) (g.n+1)).2.1) A/\NmR g' l (g.n+1) vs.tail/\g.n<g'.n/\g'.μ g.n=v:=λ{a s z v d H J}e U K T=>by
   subst U
   obtain⟨g',y,B,D,C,E,F,G⟩:=Uq (g:=g.new g.w v) T (L e).2
   exact⟨g',(Le.new (Ext.refl _ _)).trans y,B,D,C,RI (Q:=λj b=>AR g' b (f j)) (by grind) E,(K g' y).2.app F,by rw[e];exact G,a5 (a9 _) y.n,by rw[y.μ _ (a9 _),g.BC]⟩
  have I:∀{v:Value},g.n<(g.new g.w v).n:=a9 _;cases k with
  |dat t=>
   obtain⟨v,d,o,q,r⟩:=h;cases t with
   |ptr=>
    obtain⟨g',y,B,D,C,E,F,G,_,_⟩:=w (a:=.ptr g.n x.1) (s:=[]) (H:=[]) o rfl (λg' p=>⟨⟨a5 I p.n,by rw[p.μ _ I,g.BC],Lb.1 q⟩,rfl⟩) r;exact⟨g',y,B,D,C,E,F,G⟩
   |int k=>exact c (a:=.dat (.int k) x.1) o q r
   |bool=>exact c (a:=.dat .bool x.1) o q r
   |str=>exact c (a:=.dat .str x.1) o q r
   |mref=>exact c (a:=.dat .mref x.1) o q r
   |sl e=>exact c (a:=.dat (.sl e) x.1) o q r
   |u m=>exact c (a:=.dat (.u m) x.1) o q r
  |own t=>
   obtain⟨v,d,H,J,o,q,r,S⟩:=h;obtain⟨g',y,B,D,C,E,F,G,O,P⟩:=w (a:=.own g.n) (s:=[(g.n,.sl t x.1)]) o q (λg' p=>⟨(FI rfl:AR (g.new g.w v) (.own g.n) v).mono p,H,[],by simp,a5 I p.n,SR.mono p I (by show Nz Y t _ _ _ _ _;rw[g.BC];exact r),rfl⟩) S;exact⟨g',y,B,D,C,E,F,⟨v,d,o,O,P⟩,G⟩
  |map k e=>
   obtain⟨v,d,H,J,o,q,r,S⟩:=h;obtain⟨g',y,B,D,C,E,F,G,O,P⟩:=w (a:=.own g.n) (s:=[(g.n,.mp k e x.1)]) o q (λg' p=>⟨(FI rfl:AR (g.new g.w v) (.own g.n) v).mono p,H,[],by simp,a5 I p.n,SR.mono p I (by show Ws Y k e _ _ _ _ _;rw[g.BC];exact r),rfl⟩) S;exact⟨g',y,B,D,C,E,F,⟨v,d,o,O,P⟩,G⟩
  |mob=>obtain⟨v,d,o,q,r⟩:=h;exact c (a:=.mob x.1) o q r
  |del t=>obtain⟨v,d,o,q,r⟩:=h;exact c (a:=.del t x.1 0) o q r
  |fn N R=>obtain⟨v,d,o,q,r⟩:=h;exact c (a:=.fn N R x.1) o q r
  |fbx N R=>obtain⟨v,d,o,q,r⟩:=h;exact c (a:=.fbx N R x.1) o q r
def ini(l:List AK)(x:Jg Y l)(H:HH Y):Cf Y:={fr:=(JU l x 0 0).1,sg:=(JU l x 0 0).2.1,nx:=(JU l x 0 0).2.2,H:=H,op:=none,hs:=[],pt:=[]}
def V4(c:Cf Y):List ResultVar->List RK->Cf Y
 | .tmp t::l,.dat _::ks=>V4 (Ox c (.tmp t)) l ks
 | .cell a ty::l,.dat _::ks=>V4 (match HF c.fr a with |some p=>Ub c ty p |none=>c) l ks
 |_::l,_::ks=>V4 c l ks
 |_,_=>c
theorem Agy{g0:B4}{T AH:Bd}{f:Fr}:∀(l:List ResultVar)(ks:List RK){g:B4}{A:Bd}{c:Cf Y},RG g0 T c f g AH A->∃g' A',g'.w=g.w/\Le g g'/\RG g0 T (V4 c l ks) f g' AH A'
 | [],ks,g,A,c,h=>⟨g,A,rfl,Le.refl _,by grind[V4]⟩
 |r::l,[],g,A,c,h=>⟨g,A,rfl,Le.refl _,by cases r<;>exact h⟩
 |r::l,k::ks,g,A,c,h=>by
  have b:∀{q:Cf Y}{n:B4}{o:Bd},n.w=g.w->Le g n->RG g0 T q f n AH o->∃g' A',g'.w=g.w/\Le g g'/\RG g0 T (V4 q l ks) f g' AH A':=λd i m=>by obtain⟨w,s,v,x,u⟩:=Agy l ks m;exact⟨w,s,v.trans d,i.trans x,u⟩
  cases r with
  |tmp t=>
   cases k with
   |dat j=>obtain⟨n,o,d,i,m⟩:=JJ h (.tmp t);exact b d i m
   |own j|map k e|ownO j=>exact b rfl (Le.refl _) h
  |cell a j=>
   cases k with
   |dat t=>
    unfold V4;split
    .rename_i p _;obtain⟨n,o,d,i,m⟩:=Ut h j p;grind
    .exact b rfl (Le.refl _) h
   |own t|map k e|ownO j=>exact b rfl (Le.refl _) h
def PQ(c:Cf Y):List ResultVar->(List (AV Y)->Prop)->Prop
 | [],k=>k []
 | .tmp t::l,k=>match HF c.fr t with
  |some a=>PQ c l λaE=>k (a::aE)
  |none=>False
 | .cell a ty::l,k=>match HF c.fr a with
  |some (.adr i o)=>rdX c ty (.adr i o) λb=>PQ c l λaE=>k (b::aE)
  |some (.del T d o)=>ldD ty T d o λb=>PQ c l λaE=>k (b::aE)
  |_=>False
def PO(tmps:Array Value):ResultVar->Sem Value
 | .tmp t=>pure (tmps.getD t undef)
 | .cell a t=>do loadVar t (<- asAddr (tmps.getD a undef))
variable {w:World}
theorem ZG{P:Program}{f:Fr}{t ty:TypeId}{a:Nat}{v:Value}{p:Addr}(h:KR P f (.load t (.tmp a)) ty v w)(hp:f a=.pointer (some p)):(loadVar t p).run P w=.ok v w:=by
 have:=h none "" #[] none;simp only[execOp,Instr.loadAt,X.ev,hp,Instr.sureAddr,Sem.run_bind,Sem.run_pure,Result.andThen_ok]at this;cases hl:(loadVar t p).run P w with
 |ok u w'=>rw[hl]at this;simp only[Result.andThen_ok,Result.ok.injEq,Next.value.injEq]at this;rw[this.1,this.2]
 |halt x w'=>simp_all
theorem NZ{g0 g:B4}{T AH A:Bd}{c:Cf Y}{f:Fr}(h:RG g0 T c f g AH A){N:Nat}:∀{l:List ResultVar}{k:List (AV Y)->Prop},PQ c l k->∃aE vs,k aE/\F2 (AR g) aE vs/\∀a,Is N a f->(l.mapM (PO a)).run Y.P g.w=.ok vs g.w
 | [],k,j=>⟨[],[],j,.nil,λ_ _=>rfl⟩
 | .tmp t::l,k,j=>by
  unfold PQ at j;split at j
  .rename_i a s;obtain⟨aE,vs,q,r,n⟩:=NZ (N:=N) h j;refine⟨a::aE,f t::vs,q,.cons (h.fr t a s) r,λm e=>?_⟩;have:=e.2 t;simp_all[b9,PO]
  grind
 | .cell a ty::l,k,j=>by
  have w:∀{b:AV Y}{v:Value}{p:Addr},f a=.pointer (some p)->AR g b v->KR Y.P f (.load ty (.tmp a)) 0 v g.w->(PQ c l λaE=>k (b::aE))->∃aE vs,k aE/\F2 (AR g) aE vs/\∀B,Is N B f->((ResultVar.cell a ty::l).mapM (PO B)).run Y.P g.w=.ok vs g.w:=λ{b v p}y L G j=>by
   obtain⟨aE,vs,q,r,n⟩:=NZ (N:=N) h j;refine⟨b::aE,v::vs,q,.cons L r,λm e=>?_⟩;have F:=ZG G y;have I:m.getD a undef=.pointer (some p):=by rw[e.2 a,y]
   simp_all[b9,PO,asAddr]
  unfold PQ at j;split at j
  .rename_i i o s;obtain⟨v,b,q,r,n⟩:=UR (ty:=0) (x:=.tmp a) h j (h.fr a _ s);obtain⟨_,E,_,y⟩:=h.fr a _ s;grind
  .rename_i M d o s;obtain⟨E,H,u,J,D,K,C⟩:=h.fr a _ s;obtain⟨v,b,q,r,n⟩:=Ad9 (ty:=0) (x:=.tmp a) j J D K C;grind[Sx.refl]
  grind
variable {F:Func}
theorem Gv{P:Program}{a:Array Value}{vs:List Value}(h:(F.results.toList.mapM (PO a)).run P w=.ok vs w):(results F a).run P w=.ok (KI vs) w:=by
 have e:results F a=(F.results.mapM (PO a) >>=λvs=>pure (if h:vs.size=1 then vs[0] else .tuple vs)):=by rfl
 rw[e,Array.mapM_eq_mapM_toList];simp only[Sem.run_bind,map_eq_pure_bind,h,Result.andThen_ok,Sem.run_pure,bind_assoc,pure_bind];cases vs with
 |nil=>rfl
 |cons v vs=>
  cases vs with
  |nil|cons u vs=>rfl
def mkR:(l:List RK)->List (AV Y)->List (Nat×C4 Y)->Option (L0 Y l×List (Nat×C4 Y))
 | [],[],sg=>some ((),sg)
 | .dat t::l,a::aE,sg=>match Ug t a,mkR l aE sg with
  |some x,some r=>some ((x,r.1),r.2)
  |_,_=>none
 | .own t::l,a::aE,sg=>match Ajh (.own t) a sg with
  |some q=>match mkR l aE q.2 with
   |some r=>some ((q.1,r.1),r.2)
   |none=>none
  |none=>none
 | .map k e::l,a::aE,sg=>match getM k e a sg with
  |some q=>match mkR l aE q.2 with
   |some r=>some ((q.1,r.1),r.2)
   |none=>none
  |none=>none
 |_,_,_=>none
theorem Zc{g:B4}:∀{l:List RK}{aE:List (AV Y)}{sg:List (Nat×C4 Y)}{r:L0 Y l×List (Nat×C4 Y)}{vs:List Value}{A:Bd},mkR l aE sg=some r->Fg g sg A->F2 (AR g) aE vs->∃A1 A2,A.Perm (A1++A2)/\ReR Y g.I g.w l r.1 vs A1/\Fg g r.2 A2
 | [],[],sg,r,_,A,h,b,.nil=>by cases h;exact⟨[],A,aa _,⟨rfl,rfl⟩,b⟩
 | .dat t::l,a::aE,sg,r,v::vs,A,h,b,.cons m n=>by
  unfold mkR at h;split at h
  .rename_i x y z d;cases h;obtain⟨A1,A2,i,j,c⟩:=Zc d b n;exact⟨A1,A2,i,⟨v,vs,rfl,Dh z m,j⟩,c⟩
  grind
 | .own t::l,a::aE,sg,r,v::vs,A,h,b,.cons m n=>by
  unfold mkR at h;split at h
  .rename_i q p;split at h
   .rename_i y d;cases h;obtain⟨f,B,w,u,o⟩:=Us p b m;obtain⟨A1,A2,i,j,c⟩:=Zc d o n;exact⟨f++A1,A2,perm_cons w i,⟨v,vs,f,A1,rfl,rfl,u,j⟩,c⟩
   grind
  grind
 | .map k e::l,a::aE,sg,r,v::vs,A,h,b,.cons m n=>by
  unfold mkR at h;split at h
  .rename_i q p;split at h
   .rename_i y d;cases h;obtain⟨f,B,w,u,o⟩:=Zr (s:=.map k e) p b m;obtain⟨A1,A2,i,j,c⟩:=Zc d o n;exact⟨f++A1,A2,perm_cons w i,⟨v,vs,f,A1,rfl,rfl,u,j⟩,c⟩
   grind
  grind
 |.ownO _::_,_::_,_,_,_,_,h,_,_|[],_::_,_,_,_,_,h,_,_|_::_,[],_,_,_,_,h,_,_=>by grind[mkR]
def mkI:(l:List AK)->Nat->List (Nat×C4 Y)->Option (No Y l×List (Nat×C4 Y))
 | [],_,sg=>some ((),sg)
 | .own t::l,n,sg=>match Ajh (.own t) (.own n) sg with
  |some q=>match mkI l (n+1) q.2 with
   |some r=>some ((q.1,r.1),r.2)
   |none=>none
  |none=>none
 | .map k e::l,n,sg=>match getM k e (.own n) sg with
  |some q=>match mkI l (n+1) q.2 with
   |some r=>some ((q.1,r.1),r.2)
   |none=>none
  |none=>none
 | .dat .ptr::l,n,sg=>mkI l (n+1) sg
 |.dat (.int _)::l,n,sg|.dat .bool::l,n,sg|.dat .str::l,n,sg|.dat .mref::l,n,sg|.dat (.sl _)::l,n,sg|.dat (.u _)::l,n,sg|.mob::l,n,sg|.del _::l,n,sg|.fn _ _::l,n,sg|.fbx _ _::l,n,sg=>mkI l n sg
theorem Vm{g:B4}:∀{l:List AK}{n:Nat}{vs:List Value}{sg:List (Nat×C4 Y)}{r:No Y l×List (Nat×C4 Y)}{A:Bd},mkI l n sg=some r->NmR g l n vs->Fg g sg A->∃A1 A2,A.Perm (A1++A2)/\IoR Y g.I g.w l r.1 vs A1/\Fg g r.2 A2
 | [],n,vs,sg,r,A,h,_,b=>by cases h;exact⟨[],A,aa _,rfl,b⟩
 | .own t::l,n,vs,sg,r,A,h,⟨⟨v,d,u,i,x⟩,o⟩,b=>by
  simp only[mkI]at h;split at h
  .rename_i q m;split at h
   .rename_i D y;cases h;subst u;obtain⟨f,E,B,C,p⟩:=Us m b (show AR g (.own n) v from ⟨i,x.symm⟩);obtain⟨A1,A2,j,w,z⟩:=Vm y o p;exact⟨f++A1,A2,perm_cons B j,⟨v,d,f,A1,rfl,rfl,C,w⟩,z⟩
   grind
  grind
 | .map k e::l,n,vs,sg,r,A,h,⟨⟨v,d,u,i,x⟩,o⟩,b=>by
  simp only[mkI]at h;split at h
  .rename_i q m;split at h
   .rename_i D y;cases h;subst u;obtain⟨f,E,B,C,p⟩:=Zr (s:=.map k e) (a:=.own n) (r:=q) m b (show AR g (.own n) v from ⟨i,x.symm⟩);obtain⟨A1,A2,j,w,z⟩:=Vm y o p;exact⟨f++A1,A2,perm_cons B j,⟨v,d,f,A1,rfl,rfl,C,w⟩,z⟩
   grind
  grind
 | .dat t::l,n,vs,sg,r,A,h,c,b=>by cases t<;>exact Vm (l:=l) (vs:=vs.tail) h c b
 |.mob::l,n,vs,sg,r,A,h,c,b|.del _::l,n,vs,sg,r,A,h,c,b|.fn _ _::l,n,vs,sg,r,A,h,c,b|.fbx _ _::l,n,vs,sg,r,A,h,c,b=>Vm (l:=l) (vs:=vs.tail) h c b
def rtY(res:List ResultVar)(σ:Bi)(Q:L0 Y σ.res->No Y σ.args->HH Y->Prop)(c:Cf Y):Prop:=
 PQ (V4 c res σ.res) res λaE=>match mkR σ.res aE (V4 c res σ.res).sg,(V4 c res σ.res).op with
  |some r,none=>match mkI σ.args 0 r.2 with
   |some q=>Q r.1 q.1 (V4 c res σ.res).H
   |none=>False
  |_,_=>False
def rtX(res:List ResultVar)(σ:Bi)(Q:L0 Y σ.res->No Y σ.args->HH Y->Prop)(c:Cf Y):Prop:=cls c (rtY res σ Q)
theorem Z8{I:Cc}:∀{l:List AK}{x:Jg Y l}{vs:List Value}{A:Bd},ArR Y I w l x vs A->vs.length=l.length:=by
 intro l;induction l with
 |nil=>intro x vs A h;rw[h.1];rfl
 |cons k l d=>
  intro x vs A h;cases k with
  |dat t=>obtain⟨v,c,a,_,b⟩:=h;grind
  |own t|map k e=>obtain⟨v,c,i,f,a,_,_,b⟩:=h;grind
  |mob|del t|fn g j|fbx g j=>obtain⟨v,c,a,_,b⟩:=h;grind
theorem Aln{gi g:B4}{σ:Bi}{N:Nat}{Q:L0 Y σ.res->No Y σ.args->HH Y->Prop}{vs:List Value}(C:NmR g σ.args 0 vs){T:Bd}{c:Cf Y}{f:Fr}{g':B4}{AH' A':Bd}(d:Lx g g')(x:RG gi T c f g' AH' A')(u:rtX F.results.toList σ Q c):∃v,(∀a,Is N a f->(results F a).run Y.P g'.w=.ok v g'.w)/\((∃v' I',Ending.returned v=.returned v'/\Ext gi.I gi.w I' g'.w/\∃AH' A' H',St I' g'.w (AH'++(A'++T))/\Hu (P8 Y) I' g'.w H' AH'/\∃b io us A1 A2,A'=A1++A2/\v'=KI us/\ReR Y I' g'.w σ.res b us A1/\IoR Y I' g'.w σ.args io vs A2/\Q b io H')):=by
 have k:∀(c:Cf Y)(f:Fr)(g':B4)(AH' A':Bd),Lx g g'->RG gi T c f g' AH' A'->rtY F.results.toList σ Q c->∃v,(∀a,Is N a f->(results F a).run Y.P g'.w=.ok v g'.w)/\
   ((∃v' I',Ending.returned v=.returned v'/\Ext gi.I gi.w I' g'.w/\∃AH' A' H',St I' g'.w (AH'++(A'++T))/\Hu (P8 Y) I' g'.w H' AH'/\∃b io us A1 A2,A'=A1++A2/\v'=KI us/\ReR Y I' g'.w σ.res b us A1/\IoR Y I' g'.w σ.args io vs A2/\Q b io H')):=λc f g' AH' A' d x u=>by
  obtain⟨l,A1,e,M,i⟩:=Agy F.results.toList σ.res x
  obtain⟨V,us,j,H,D⟩:=NZ (N:=N) i u
  split at j
  .rename_i r w s
   split at j
   .rename_i L t
    obtain⟨n,U,E,G,O⟩:=Zc w i.sg H
    obtain⟨m,y,J,B,S⟩:=Vm t (C.mono (d.trans M.lx)) O
    have h:=i.hr
    rw[s]at h
    refine⟨KI us,λa R=>by grind[Gv],KI us,l.I,rfl,by rw[<-e];exact i.le,AH',n++m,_,?_,by rw[<-e];exact h,r.1,L.1,us,n,m,rfl,rfl,by grind,by grind,j⟩
    rw[<-e]
    have A:A1.Perm ((n++m)++y):=perm_cons E J
    have z:=i.st.perm ((A.append_right T).append_left AH')
    grind[a4,D8]
   grind
  grind
 obtain⟨P,l,o,A1,K,I,q,p,_,_⟩:=Dt x u;rw[<-I];exact k P f l o A1 (d.trans q.lx) p K
theorem Ah0{E:Env Y}{q:FuncId}{σ:Bi}{code:Code}{a:Jg Y σ.args}{H:HH Y}{Q:L0 Y σ.res->No Y σ.args->HH Y->Prop}(hf:Y.P.funcs[q]?=some F)(hb:F.body=some code)(hN:F.ntmps=E.N)(hl:aq σ.args.length E.N=true)(h:Tw E code (ini σ.args a H) {nx:=rtX F.results.toList σ Q,ex:=[],rt:=rtX F.results.toList σ Q}):Wp Y q σ a H Q E.X:=by
 intro I w T A AH M o hH S;refine Q1 hf hb hN (by grind[Z8]) ?_;let O:B4:={I:=I,w:=w,n:=0,μ:=λ_=>undef,φ:=Wo M}
 obtain⟨g,k1,R,Z,k4,k5,k6,k7⟩:=Uq (g:=O) (i:=0) (f:=Wo M) o (λj v hj=>by rw[ak,<-L8,hj];rfl);have y:RG O T (ini σ.args a H) (Wo M) g AH A:=⟨k4,k1.ext,by grind,by show Hu _ _ _ _ _;rw[R,Z];exact hH,k6,λx z=>(by cases z),λt ht=>(by grind[ini,LZ]),k5⟩
 have J:∀(c:Cf Y)(f:Fr)(C:B4)(d s:Bd),Lx g C->RG O T c f C d s->rtX F.results.toList σ Q c->_:=λc f C d s p y z=>Aln (N:=E.N) k7 p y z;have hR:G9 O T E.X ((⟨q,none,[]⟩:FK).at (Ajz Y.P F E.N λe r=>(∃v m,e=.returned v/\Ext I w m r/\∃d s B,St m r (d++(s++T))/\Hu (P8 Y) m r B d/\∃b X W V U,s=V++U/\v=KI W/\ReR Y m r σ.res b W V/\IoR Y m r σ.args X M U/\Q b X B) ∨
   (∃v m,e=.panicked [{v,recovered:=false}]/\Ext I w m r/\∃d B t l u,St m r (d++T)/\Hu (P8 Y) m r B d/\v=.iface t u/\rp Y.toUS l.t m r u l.x/\E.X t l B))):=λv r m d B t l u K L G D h5 h6 _=>.inr ⟨v,m,rfl,K,d,B,t,l,u,L,G,D,h5,h6⟩
 have:=G8 (fn:=⟨q,none,[]⟩) (gb:=g) hR code (k:=[]) ⟨λc f C d s _ p y z=>?_,λid q hq=>by simp [Zk]at hq,λc f C d s k' p y z=>?_⟩ (Lx.refl g) y h
 .grind
 .obtain⟨v,K,P,m,L,G,D⟩:=J c f C d s p y z;exact S9 ⟨v,K,.inl ⟨P,m,L,G,D⟩⟩
 .obtain⟨v,K,P,m,L,G,D⟩:=J c f C d s p y z;exact MF ⟨v,K,.inl ⟨P,m,L,G,D⟩⟩
end
end
section
section
variable {Y:Sys}
def nmA(n:Nat):AV Y->Prop
 | .own i | .adr i _ | .el i _ _ _ | .ptr i _ | .hp i _ _ | .sub i _ _=>i<n
 |_=>True
variable {g:B4}
theorem AR.nm{a:AV Y}{v:Value}(h:AR g a v):nmA g.n a:=by cases a<;>first|exact h.1|exact trivial
theorem AR.chg{g':B4}{n:Nat}(l:g'.I=g.I)(f:g'.w=g.w)(k:n<=g'.n)(c:∀i,i<n->g'.μ i=g.μ i){a:AV Y}{v:Value}(e:nmA n a)(h:AR g a v):AR g' a v:=by
 cases a with
 |dat t x=>show rp _ _ _ _ _ _;rw[l,f];exact h
 |nat j|prp p d=>exact h
 |own i|adr i o|el i t j o=>exact⟨a5 e k,by rw[c i e];exact h.2⟩
 |del t x o=>obtain⟨b,r,u,m,q,y,w⟩:=h;exact⟨b,r,u,by rw[l,f];exact m,by rw[f];exact q,by rw[l];exact y,w⟩
 |ptr i p|hp i b o=>exact⟨a5 e k,by rw[c i e];exact h.2⟩
 |mob b=>exact h
 |sub i T A=>exact⟨a5 e k,by rw[c i e];exact h.2⟩
 |val u=>exact h
 |ifc t T x=>obtain⟨u,m,q⟩:=h;exact⟨u,m,by rw[l,f];exact q⟩
 |fn s z F=>show FvR _ _ _ _ _ _ _;rw[l,f];exact h
 |fbx s z F=>show FbR _ _ _ _ _ _ _;rw[l,f];exact h
def nmS(n:Nat):C4 Y->Prop
 | .blk cs | .ag cs=>∀a∈cs,nmA n a
 | .tp l=>∀a∈l,nmA n a
 | .clo _ l m=>(∀a∈l,nmA n a)/\∀a∈m,nmA n a
 | .sl _ _ | .mp _ _ _=>True
theorem F2.nm{R:Value->Prop}{l:List (AV Y)}{m:List Value}(h:F2 (λa v=>AR g a v/\R v) l m):∀a∈l,nmA g.n a:=λa b=>by obtain⟨v,_,c⟩:=h.mem a b;exact c.1.nm
theorem F2.nm'{l:List (AV Y)}{m:List Value}(h:F2 (AR g) l m):∀a∈l,nmA g.n a:=λa b=>by obtain⟨v,_,c⟩:=h.mem a b;exact c.nm
variable {A:Bd}
theorem SR.nm{i:Nat}{s:C4 Y}(h:SR g i s A):nmS g.n s:=by
 cases s with
 |blk r=>obtain⟨b,n,e,d,c,a⟩:=h;exact a.nm
 |sl t o|mp k e m=>exact trivial
 |tp l=>obtain⟨d,f,c,a⟩:=h;exact a.nm'
 |ag l=>obtain⟨d,f,c,a⟩:=h;exact a.nm
 |clo q l m=>obtain⟨d,f,p,c,a,j⟩:=h;exact⟨a.nm',j.nm'⟩
theorem F2.Am3{α β:Type}{R:α->β->Prop}{Q:α->Prop}{l:List α}{m:List β}(h:F2 R l m)(c:∀a∈l,Q a):F2 (λa b=>Q a/\R a b) l m:=by
 induction h with
 |nil=>exact .nil
 |cons h _ d=>exact .cons ⟨c _ az,h⟩ (d λa e=>c a (List.mem_cons_of_mem _ e))
theorem SR.chg{g':B4}{n i:Nat}(hi:i<n)(f:g'.I=g.I)(j:g'.w=g.w)(p:n<=g'.n)(a:∀i,i<n->g'.μ i=g.μ i){s:C4 Y}(v:nmS n s)(h:SR g i s A):SR g' i s A:=by
 cases s with
 |blk B=>obtain⟨b,w,e,c,o,d⟩:=h;exact⟨b,w,e,c,by rw[a i hi];exact o,(d.Am3 v).mono λ_ _ r=>⟨r.2.1.chg f j p a r.1,r.2.2⟩⟩
 |sl t z=>show Nz _ _ _ _ _ _ _;rw[f,j,a i hi];exact h
 |mp k e m=>show Ws _ _ _ _ _ _ _ _;rw[f,j,a i hi];exact h
 |tp l=>obtain⟨c,u,o,d⟩:=h;exact⟨c,u,by rw[a i hi];exact o,(d.Am3 v).mono λ_ _ r=>r.2.chg f j p a r.1⟩
 |ag l=>obtain⟨c,u,o,d⟩:=h;exact⟨c,u,by rw[a i hi];exact o,(d.Am3 v).mono λ_ _ r=>⟨r.2.1.chg f j p a r.1,r.2.2⟩⟩
 |clo q l m=>obtain⟨c,u,y,o,d,x⟩:=h;exact⟨c,u,y,by rw[a i hi];exact o,(d.Am3 v.1).mono λ_ _ r=>r.2.chg f j p a r.1,(x.Am3 v.2).mono λ_ _ r=>r.2.chg f j p a r.1⟩
def XI:List (Nat×C4 Y)->List (Nat×C4 Y)->Prop
 | [],_=>True
 |p::ks,sg=>Ie sg p.1=some p.2/\XI ks (FP sg p.1)
theorem Vt{g:B4}:∀{ks sg:List (Nat×C4 Y)}{A:Bd},Fg g sg A->XI ks sg->∃A1 A2,A.Perm (A1++A2)/\Fg g ks A1
 | [],sg,A,_,_=>⟨[],A,by simp,rfl⟩
 |p::ks,sg,A,h,⟨l,j⟩=>by obtain⟨A1,A2,i,d,k,e⟩:=h.take l;obtain⟨a,f,b,c⟩:=Vt e j;exact⟨A1++a,f,i.trans (by rw[a4];exact b.append_left A1),A1,a,rfl,d,k,c⟩
theorem Fg.chg{g0 g g':B4}(c:g'.I=g.I)(d:g'.w=g.w)(b:g0.n<=g'.n)(a:∀i,i<g0.n->g'.μ i=g.μ i):∀{ks:List (Nat×C4 Y)}{A A0:Bd},Fg g0 ks A0->Fg g ks A->Fg g' ks A
 | [],_,_,_,h=>h
 |_::_,_,_,⟨_,_,_,e,f,l⟩,⟨n,k,j,_,o,m⟩=>⟨n,k,j,a5 e b,o.chg e c d b a f.nm,Fg.chg c d b a l m⟩
def hdK(c:Cf Y)(ks:List (Nat×C4 Y))(la:LA)(x:VT Y la.vars)(H:HH Y):Cf Y:={hdC c la x H with sg:=(hdC c la x H).sg++ks,op:=c.op}
def Ahd(op:Option (Wr Y))(ks:List (Nat×C4 Y))(la:LA)(c':Cf Y)(K:VT Y la.vars->HH Y->Prop):Prop:=match Aef (IM c' la.vars).fr la.vars (IM c' la.vars).sg,op,(IM c' la.vars).op with
 |some r,none,none=>XI ks r.2/\K r.1 (IM c' la.vars).H
 |some r,some o,some o'=>o'=o/\XI ks r.2/\K r.1 (IM c' la.vars).H
 |_,_,_=>False
def Ab8(op:Option (Wr Y))(ks:List (Nat×C4 Y))(la:LA)(c':Cf Y)(K:VT Y la.vars->HH Y->Prop):Prop:=match op with
 |none=>cls c' λc'=>Ahd none ks la c' K
 |some o=>Ahd (some o) ks la c' K
theorem Ahc{g0:B4}{T AH:Bd}{c:Cf Y}{f:Fr}{op:Option (Wr Y)}{ks:List (Nat×C4 Y)}{la:LA}(h:RG g0 T c f g AH A){K:VT Y la.vars->HH Y->Prop}(i:Ab8 op ks la c K):∃g1 x H AH1 A1 A2,g1.w=g.w/\Le g g1/\K x H/\VTR g1.I g1.w f la.vars x A1/\Fg g1 ks A2/\St g1.I g1.w (AH1++((A1++A2)++T))/\HR g1 H [] AH1 op:=by
 have n:∀{b:Cf Y}{k:B4}{AH1 C:Bd},RG g0 T b f k AH1 C->Ahd op ks la b K->∃g1 x H A1 A2,g1.w=k.w/\Le k g1/\K x H/\VTR g1.I g1.w f la.vars x A1/\Fg g1 ks A2/\St g1.I g1.w (AH1++((A1++A2)++T))/\HR g1 H [] AH1 op:=λ{b k AH1 C}I a=>by
  obtain⟨g1,P,D,L,p⟩:=RP la.vars I;unfold Ahd at a;have l:∀{r},Aef (IM b la.vars).fr la.vars (IM b la.vars).sg=some r->(IM b la.vars).op=op->XI ks r.2->K r.1 (IM b la.vars).H->∃g1 x H A1 A2,g1.w=k.w/\Le k g1/\K x H/\VTR g1.I g1.w f la.vars x A1/\Fg g1 ks A2/\St g1.I g1.w (AH1++((A1++A2)++T))/\HR g1 H [] AH1 op:=λ{r}e E q s=>by
   obtain⟨A1,A2,F,M,O⟩:=Zq p.fr e p.sg;obtain⟨j,m,N,J⟩:=Vt O q;have B:=p.hr;rw[E]at B;refine⟨g1,r.1,_,A1,j,D,L,s,M,J,?_,HR.mono (Le.refl _) B⟩;have z:=p.st.perm (((F.trans (N.append_left A1)).append_right T).append_left AH1);have:St g1.I g1.w ((AH1++(A1++j))++(m++T)):=by simpa [a4] using z
   simpa [a4] using D8 this
  split at a
  .rename_i r e d;exact l e d a.1 a.2
  .rename_i r o Q e d;obtain⟨rfl,q,s⟩:=a;exact l e d q s
  .exact a.elim
 unfold Ab8 at i;split at i
 .obtain⟨b,g1,AH1,A1,i,G,y,e,_⟩:=Dt h i;obtain⟨u,x,H,j,m,v,w,t⟩:=n e i;exact⟨u,x,H,AH1,j,m,v.trans G,y.trans w,t⟩
 .obtain⟨u,x,H,j,m,v,w,t⟩:=n h i;exact⟨u,x,H,AH,j,m,v,w,t⟩
theorem Anr{g0 g1:B4}{T AH AH1 A1 A2 A0:Bd}{c:Cf Y}{f f1:Fr}(h:RG g0 T c f g AH A){la:LA}{ks:List (Nat×C4 Y)}(E:Fg g ks A0)(p:Ext g.I g.w g1.I g1.w)(_:g.n<=g1.n)(q:∀i,i<g.n->g1.μ i=g.μ i)(k:∀t,LZ t (la.BD++c.pt)=true->f1 t=f t){T':Bd}{x:VT Y la.vars}{H:HH Y}(U:VTR g1.I g1.w f1 la.vars x A1)(z:Fg g1 ks A2)(C:St g1.I g1.w (AH1++((A1++A2)++T')))(u:HR g1 H [] AH1 c.op)(D:∀o,c.op=some o->o.i<g.n):∃g2,g2.w=g1.w/\g2.φ=f/\g2.I=g1.I/\Lx g g2/\RG g0 T' (hdK c ks la x H) f1 g2 AH1 (A1++A2):=by
 let J:B4:={I:=g1.I,w:=g1.w,n:=g.n,μ:=g1.μ,φ:=f}
 obtain⟨g2,e,m,l,K,L,G⟩:=YM (g:=J) (fr:=c.fr) (kp:=la.BD) (λt i d=>by
  unfold rnm at d;split at d
  .rename_i j z M;injection d with d
   subst d;obtain⟨s,v⟩:=h.fr t _ M;exact⟨s,by show g1.μ j=f1 t;rw[q j s,<-v,k t (Ot z)]⟩
  .cases d) U
 have N:J.n=c.nx:=h.n;rw[N]at K L G;have b:Le {g with φ:=f} g2:=⟨by rw[l,m];exact p,e.n,λi d=>by rw[e.μ i d];exact q i d,e.φ⟩
 refine⟨g2,m,e.φ,l,⟨b.ext,b.n,b.μ⟩,K,by rw[l,m];exact h.le.trans p,by rw[l,m];exact C,?_,G.app (Fg.chg (g0:=g) (g:=g1) l m e.n (λi d=>e.μ i d) E z),λy B=>⟨a5 (h.hs y B).1 b.n,by rw[b.μ _ (h.hs y B).1];exact(h.hs y B).2⟩,λt O=>by rw[e.φ];exact k t O,λi a d=>?_⟩
 .show HR g2 H _ AH1 c.op;cases F:c.op with
  |none=>
   rw[F]at u;show Hu _ _ _ _ _;rw[l,m];exact u
  |some o=>
   rw[F]at u;obtain⟨s,v,V,S⟩:=u;have r:=D o F;exact⟨by rw[l,m];exact s,v,a5 r e.n,by rw[e.μ _ r];exact S⟩
 rcases Zj d with d|d
 .exact L i a d
 .obtain⟨P,Q⟩:=Vv d;rw[k i (Ot Q)];have:=(h.fr i a P)
  exact AR.mono (g:={g with φ:=f}) b (by cases a<;>exact this)
end
end
section
section
variable {Y:Sys}
variable {g0 g:B4} {T AH A:Bd} {c:Cf Y} {f:Fr}
theorem RG.world{T':Bd}(h:RG g0 T c f g AH A){w':World}(e:Ext g.I g.w g.I w')(d:St g.I w' (AH++(A++T'))):Le g {g with w:=w'}/\RG g0 T' c f {g with w:=w'} AH A:=by
 have b:Le g {g with w:=w'}:=⟨e,ab _,λ_ _=>rfl,rfl⟩
 exact⟨b,h.n,h.le.trans e,d,h.hr.mono b,h.sg.mono b,h.hs.mono b,b.pt h.pt,λi a j=>(h.fr i a j).mono b⟩
theorem RG.Aoa{B:Bd}(h:RG g0 (B++T) c f g AH A):RG g0 T c f g AH A:=
 ⟨h.n,h.le,by
  have a:St g.I g.w ((AH++A)++(B++T)):=by have:=h.st;rwa [a4]
  have b:=D8 a;rwa [a4]at b,h.hr,h.sg,h.hs,h.pt,h.fr⟩
def rmF(t:Nat):List (Nat×AV Y)->List (Nat×AV Y)
 | []=>[]
 |p::l=>match aj p.1 t with
  |true=>rmF t l
  |false=>p::rmF t l
theorem Adq{t:Nat}{a:AV Y}{i:Nat}:∀{l:List (Nat×AV Y)},HF (rmF t l) i=some a->i≠t/\HF l i=some a
 | [],h=>by grind[rmF,HF]
 |p::l,h=>by
  unfold rmF at h;split at h
  .rename_i b;have b:=al b;obtain⟨c,d⟩:=Adq h;exact⟨c,by rw[HF,GT (λe=>c (by omega))];exact d⟩
  .rename_i b;have b:p.1≠t:=λe=>by simp_all
   unfold HF at h ⊢;by_cases e:p.1=i
   .grind
   .rw[GT e]at h ⊢;exact Adq h
theorem RG.rm{N t:Nat}{v:Value}(h:RG g0 T c f g AH A)(d:LZ t c.pt=false):RG g0 T {c with fr:=rmF t c.fr} (X.put N f (some t) v) g AH A:=by
 refine⟨h.n,h.le,h.st,h.hr,h.sg,h.hs,λj k=>?_,λi a l=>?_⟩
 .have b:j≠t:=λe=>by grind
  show (if j=t then _ else f j)=_;rw[GT b];exact h.pt j k
 .obtain⟨n,m⟩:=Adq l;show AR g a (if i=t then _ else f i);rw[GT n];exact h.fr i a m
variable {es:Array MapEntry} {seen:Array Nat}
theorem Abj{b:Nat}:(leftOf es (seen.push b)).toList=(leftOf es seen).toList.filter λx=>x.born != b:=by unfold leftOf;simp only[Array.toList_filter,List.filter_filter];refine List.filter_congr λx _=>?_;by_cases h:x.born=b<;>simp [h,bne]
def ItR(k e:Ty)(I:Cc)(w:World)(es:Array MapEntry)(seen:Array Nat)(left:List (den Y.D k×den Y.D e)):Prop:=∃l:List MapEntry,l.Perm (leftOf es seen).toList/\F2 (λ(x:MapEntry)(p:den Y.D k×den Y.D e)=>rp Y.toUS k I w x.key p.1/\rp Y.toUS e I w x.val p.2) l left
theorem ItR.mono{k e:Ty}{I I':Cc}{w w':World}{es:Array MapEntry}{seen:Array Nat}{left:List (den Y.D k×den Y.D e)}(h:ItR k e I w es seen left)(x:Ext I w I' w'):ItR k e I' w' es seen left:=by obtain⟨l,a,b⟩:=h;exact⟨l,a,b.mono λ_ _ r=>⟨EH x r.1,EH x r.2⟩⟩
theorem ItR.nil{k e:Ty}{I:Cc}{w:World}{es:Array MapEntry}{seen:Array Nat}{left:List (den Y.D k×den Y.D e)}(h:ItR k e I w es seen left)(b:(leftOf es seen).size=0):left=[]:=by
 obtain⟨l,a,c⟩:=h;have:l.length=0:=by simp_all
 have d:=c.len;grind
variable {k e:Ty}
theorem ItR.start{I:Cc}{w:World}{m:List (den Y.D k×den Y.D e)}(a:es.toList.length=m.length)(b:∀j(h:j<es.toList.length)(g:j<m.length),rp Y.toUS k I w es.toList[j].key m[j].1/\rp Y.toUS e I w es.toList[j].val m[j].2):ItR k e I w es #[] m:=by
 refine⟨es.toList,by rw[Ana],?_⟩;generalize es.toList=l at a b;induction l generalizing m with
 |nil=>cases m with
  |nil=>exact .nil
  |cons=>grind
 |cons x l d=>cases m with
  |nil=>grind
  |cons p m=>exact .cons (b 0 (by simp) (by simp)) (d (by grind) λj f c=>b (j+1) (by grind) (by grind))
theorem F2.split{α β:Type}{R:α->β->Prop}{x:α}{l2:List α}:∀{l1:List α}{m:List β},F2 R (l1++x::l2) m->∃m1 p m2,m=m1++p::m2/\R x p/\F2 R (l1++l2) (m1++m2)
 | [],m,h=>by cases h with
  |cons b a=>exact⟨[],_,_,rfl,b,a⟩
 |y::l1,m,h=>by cases h with
  |cons b a=>
   obtain⟨m1,p,m2,e,c,d⟩:=F2.split a
   exact⟨_::m1,p,m2,by grind,c,.cons b d⟩
theorem ItR.step{I:Cc}{w:World}{left:List (den Y.D k×den Y.D e)}(h:ItR k e I w es seen left)(s:(es.toList.map (·.born)).Nodup){x:MapEntry}(q:x∈(leftOf es seen).toList):∃l1 p l2,left=l1++p::l2/\rp Y.toUS k I w x.key p.1/\rp Y.toUS e I w x.val p.2/\ItR k e I w es (seen.push x.born) (l1++l2):=by
 obtain⟨l,g,o⟩:=h;obtain⟨a,b,rfl⟩:=List.append_of_mem (g.mem_iff.2 q);obtain⟨t,p,u,rfl,m,r⟩:=F2.split o;refine⟨t,p,u,rfl,m.1,m.2,a++b,?_,r⟩;rw[Abj];have f:(leftOf es seen).toList.Sublist es.toList:=by simp[leftOf]
 have c:((a++x::b).map (·.born)).Nodup:=(g.map _).nodup_iff.2 (s.sublist (f.map _));have n:=g.filter λy=>y.born != x.born;have j:∀y∈a++b,(y.born != x.born)=true:=λy d=>by grind
 have v:(a++x::b).filter (λy=>y.born != x.born)=a++b:=by rw[b0,List.filter_cons];simp only[bne_self_eq_false,ae,if_false];rw[<-b0,List.filter_eq_self.2 j]
 grind
theorem ItR.mem{x:MapEntry}(hx:x∈(leftOf es seen).toList):x∈es.toList:=by grind[leftOf]
structure Yl where
 bid:Nat
 id1:Nat
 tn:Nat
 te:Nat
 it:Nat
 m1:TypeId×String×Array Edge
 m2:TypeId×String×Array Edge
 b1:Nat
 id2:Nat
 dn:Nat
 m3:TypeId×String×Array Edge
 os:List Oper
 rest:Code
def Yl.Azv(i:Yl):Array Oper:=⟨[⟨some i.tn,.next (.tmp i.it) false,i.m1.1,i.m1.2.1,i.m1.2.2,none⟩,⟨some i.te,.extract (.tmp i.tn) 0,i.m2.1,i.m2.2.1,i.m2.2.2,none⟩]⟩
def Yl.Azu(i:Yl):Array Oper:=⟨⟨some i.dn,.entry (.tmp i.it),i.m3.1,i.m3.2.1,i.m3.2.2,none⟩::i.os⟩
def Yl.body(i:Yl):Code:=.seq (.region i.id1 i.Azv false) (.seq (.cond (.tmp i.te) .skip (.exit i.bid)) (.block i.b1 (.seq (.region i.id2 i.Azu false) i.rest)))
def Yl.code(i:Yl):Code:=.block i.bid (.loop i.body)
def mrP:Code->Option Yl
 | .block bid (.loop (.seq (.region id1 ⟨[⟨some tn,.next (.tmp it) false,x1,x2,x3,none⟩,⟨some te,.extract (.tmp tn') 0,y1,y2,y3,none⟩]⟩ false) (.seq (.cond (.tmp te') .skip (.exit bid')) (.block b1 (.seq (.region id2 ⟨⟨some dn,.entry (.tmp it'),z1,z2,z3,none⟩::os⟩ false) rest)))))=>
  if bid'=bid/\tn'=tn/\te'=te/\it'=it then some ⟨bid,id1,tn,te,it,(x1,x2,x3),(y1,y2,y3),b1,id2,dn,(z1,z2,z3),os,rest⟩ else none
 |_=>none
theorem Awj{b:Code}{i:Yl}(h:mrP b=some i):b=i.code:=by
 unfold mrP at h;split at h
 .split at h
  .rename_i h1;obtain⟨rfl,rfl,rfl,rfl⟩:=h1;cases h;rfl
  grind
 grind
def Jy(c:Cf Y)(la:LA):List (Nat×C4 Y):=match Aef (IM c la.vars).fr la.vars (IM c la.vars).sg with
 |some r=>r.2
 |none=>[]
def Atu(E:Env Y)(i:Yl)(la:LA)(c:Cf Y):Bool:=
 LZ i.it (la.BD++c.pt)&&!LZ i.tn (la.BD++c.pt)&&!LZ i.te (la.BD++c.pt)&&ax i.tn E.N&&ax i.te E.N&&!aj i.tn i.te&&!aj i.b1 i.bid&&!LZ i.it (la.vars.map (·.1))
def mrB(E:Env Y)(i:Yl)(la:LA)(k e:Ty)(m:List (den Y.D k×den Y.D e))(c:Cf Y)(nx rt:Cf Y->Prop):Prop:=
 EZ (Atu E i la c) (XI (Jy c la) c.sg/\∃V:List (den Y.D k×den Y.D e)->VT Y la.vars->HH Y->Prop,Ab8 c.op (Jy c la) la c (V m)/\∀left x H,V left x H->
  (left=[]->nx {hdK c (Jy c la) la x H with fr:=(i.te,.val (.bool false))::rmF i.te (rmF i.tn (hdK c (Jy c la) la x H).fr),pt:=c.pt})/\
  ∀l1 p l2,left=l1++p::l2->
   Cf.put {hdK c (Jy c la) la x H with fr:=(i.te,.val (.bool true))::rmF i.te (rmF i.tn (hdK c (Jy c la) la x H).fr),sg:=((hdK c (Jy c la) la x H).nx,.tp [.dat k p.1,.dat e p.2])::(hdK c (Jy c la) la x H).sg,nx:=(hdK c (Jy c la) la x H).nx+1} E.N (some i.dn) (.own (hdK c (Jy c la) la x H).nx)
    λc3=>U1 E i.Azu i.os c3 λc4=>Tw E i.rest c4 {nx:=λc'=>EZ (N7 (la.BD++c.pt) c'.pt) (Ab8 c.op (Jy c la) la c' (V (l1++l2))),ex:=[(i.b1,λc'=>EZ (N7 (la.BD++c.pt) c'.pt) (Ab8 c.op (Jy c la) la c' (V (l1++l2)))),(i.bid,wr c.pt nx)],rt:=rt})
theorem Agi{E:Env Y}{fn:FK}{gb:B4}{R:Qp->World->Prop}{i:Yl}{la:LA}{m:List (den Y.D k×den Y.D e)}{nx rt:Cf Y->Prop}{td:List Item}{r mb cl:Nat}(hR:G9 g0 T E.X (fn.at R))(hb:Lx gb g)(h:RG g0 ([(r,.mapIter (some mb) cl #[] cl)]++([(mb,.map es cl)]++T)) c f g AH A)(hit:f i.it=.pointer (some ⟨r,0,none⟩))(hbo:(es.toList.map (·.born)).Nodup/\∀e∈es.toList,e.born<cl)(hI:ItR k e g.I g.w es #[] m)(hx:mrB E i la k e m c nx rt)(hnx:∀c f g' AH A,g'.φ=g.φ->Lx gb g'->RG g0 ([(mb,.map es cl)]++T) c f g' AH A->nx c->WT Y.P fn E.N td R f g'.w)(hrt:∀c f g' AH A k',Lx gb g'->RG g0 ([(mb,.map es cl)]++T) c f g' AH A->rt c->WT Y.P fn E.N (.code .ret::k') R f g'.w):WT Y.P fn E.N (.code i.code::td) R f g.w:=by
 obtain⟨hc,hkp,V,hV0,hstep⟩:=AG hx;unfold Atu at hc;simp only[a7,ac]at hc;obtain⟨⟨⟨⟨⟨⟨⟨q1,q2⟩,q3⟩,q4⟩,q5⟩,q6⟩,q7⟩,q8⟩:=hc;have hop:∀o,c.op=some o->o.i<g.n:=λo ho=>by have:=h.hr;rw[ho]at this;exact this.2.2.1
 obtain⟨K1,K2,_,hks0⟩:=Vt h.sg hkp;generalize Jy c la=ks at hV0 hstep hks0;refine KU (Yr (λn f' w'=>∃L x H j J I A2,L.length=n/\J.w=w'/\J.φ=f/\Lx g J/\V L x H/\ItR k e J.I J.w es j L/\RG g0 ([(r,.mapIter (some mb) cl j cl)]++([(mb,.map es cl)]++T)) (hdK c ks la x H) f' J I A2) m.length ?_ ?_)
 .obtain⟨g1,x,H,AH1,A1,A2,e1,e2,e3,e4,e5,e6,e7⟩:=Ahc h hV0;obtain⟨J,k1,k2,k3,k4,k5⟩:=Anr h hks0 e2.ext e2.n e2.μ (λ_ _=>rfl) e4 e5 e6 e7 hop;exact⟨m,x,H,#[],J,AH1,_,rfl,k1.trans e1,k2,k4,e3,by rw[k3,k1];exact hI.mono e2.ext,k5⟩
 .rintro n f' w' ⟨L,x,H,j,J,I,A2,rfl,rfl,hφ,hlx,hV,hIt,hr⟩ ih;obtain⟨hz,hs⟩:=hstep L x H hV;have fit:f' i.it=.pointer (some ⟨r,0,none⟩):=by rw[hr.pt i.it q1,hφ,hit]
  have hpm:∀X:Bd,(I++(A2++(X++T))).Perm (X++(I++(A2++T))):=λX=>by grind[a6,trans]
  have st0:St J.I J.w ([(r,.mapIter (some mb) cl j cl)]++([(mb,.map es cl)]++(I++(A2++T)))):=by have:=hr.st.perm (hpm ([(r,.mapIter (some mb) cl j cl)]++[(mb,.map es cl)]));grind
  have sl:∀{T':Bd}{C:Cf Y}{K:Fr}{g':B4}{z A':Bd}(b:Bool)(v:Value),C.pt=la.BD++c.pt->RG g0 T' C K g' z A'->RG g0 T' {C with fr:=(i.te,.val (.bool b))::rmF i.te (rmF i.tn C.fr)} (X.put E.N (X.put E.N K (some i.tn) v) (some i.te) (.bool b)) g' z A':=λ{T' C K g' z A'}b v hp h1=>by have h2:=(h1.rm (N:=E.N) (t:=i.tn) (v:=v) (by grind)).rm (N:=E.N) (t:=i.te) (v:=.bool b) (by grind);refine h2.cons (d:=i.te) (a:=.val (.bool b)) ?_;show _=Value.bool b;have:i.te<E.N:=a8 q5;simp [X.put,DG,this]
  have ext0:∀(b:Bool)(vs:List Value)(K:Fr)(w1:World)(Q:Fr->World->Prop),Q (X.put E.N (X.put E.N K (some i.tn) (.tuple ⟨.bool b::vs⟩)) (some i.te) (.bool b)) w1->WL Y.P E.N i.Azv (fn.at R) false Q [⟨some i.te,.extract (.tmp i.tn) 0,i.m2.1,i.m2.2.1,i.m2.2.2,none⟩] (X.put E.N K (some i.tn) (.tuple ⟨.bool b::vs⟩)) w1:=λb vs K w1 Q hQ=>by
   refine Aw (v:=.bool b) ?_ hQ;have hlt:i.tn<E.N:=a8 q4;have:ev (X.put E.N K (some i.tn) (.tuple ⟨.bool b::vs⟩)) (.tmp i.tn)=.tuple ⟨.bool b::vs⟩:=by show X.put E.N K (some i.tn) _ i.tn=_;simp [X.put,DG,hlt]
   simp [execOp,Instr.extract,this]
  have tev:∀(b:Bool)(K:Fr),ev (X.put E.N K (some i.te) (.bool b)) (.tmp i.te)=.bool b:=λb K=>by have hlt:i.te<E.N:=a8 q5;show X.put E.N K (some i.te) _ i.te=_;simp [X.put,DG,hlt]
  have exf:exitTo i.bid (.inLoop i.body::.inBlock i.bid::td)=some td:=by simp [exitTo]
  have hptK:∀t,LZ t c.pt=true->f t=g.φ t:=h.pt;have out:∀{C:Cf Y}{K:Fr}{g':B4}{z A':Bd},g'.φ=f->Lx g g'->RG g0 ([(mb,.map es cl)]++T) C K g' z A'->N7 c.pt C.pt=true->nx {C with pt:=c.pt}->WT Y.P fn E.N td R K g'.w:=λ{C K g' z A'}hf hl h1 M G=>
   hnx _ K {g' with φ:=g.φ} z A' rfl (hb.trans ⟨hl.ext,hl.n,hl.μ⟩) (h1.YT λt ht=>by rw[h1.pt t (Pc M ht),hf];exact hptK t ht) G
  refine Dz (CJ ?_);refine Av2 st0 hbo.2 fit (λh0=>?_) λF hx' w' e' s'=>?_
  .have hl:=hIt.nil h0;refine ext0 false [] f' J.w _ ?_;refine Dz (NH (tev false _) (Ui (k':=td) (by simp [exitTo]) ?_));have h1:=sl false (.tuple ⟨.bool false::[]⟩) rfl hr.Aoa;exact out hφ hlx h1 (by unfold N7;rw[b5];exact λt ht=>Tf (Zo.2 ht)) (hz hl)
  .obtain⟨l1,p,l2,hleft,hk,he,hIt'⟩:=hIt.step hbo.1 hx';have hs':=hs l1 p l2 hleft;refine ext0 true [F.key,F.val] f' w' _ ?_;refine Dz (QR (tev true _) (QS (KU ?_)));have hst2:St J.I w' (I++(A2++([(r,.mapIter (some mb) cl (j.push F.born) cl)]++([(mb,.map es cl)]++T)))):=by have:=s'.perm (hpm ([(r,.mapIter (some mb) cl (j.push F.born) cl)]++[(mb,.map es cl)])).symm;exact this
   obtain⟨P,h3⟩:=hr.world e' hst2;have h4:=sl true (.tuple ⟨[.bool true,F.key,F.val]⟩) rfl h3;generalize hf2:X.put E.N (X.put E.N f' (some i.tn) (.tuple ⟨[.bool true,F.key,F.val]⟩)) (some i.te) (.bool true)=f2 at h4 ⊢;have fit2:f2 i.it=.pointer (some ⟨r,0,none⟩):=by have:=h4.pt i.it q1;rw[this];show J.φ i.it=_;rw[hφ,hit]
   generalize hg3:({J with w:=w'}:B4)=O at P h4;have hw3:O.w=w':=by rw[<-hg3]
   have hI3:O.I=J.I:=by rw[<-hg3]
   have hφ3:O.φ=f:=by rw[<-hg3];exact hφ
   have e3:Ext J.I J.w O.I O.w:=P.ext;have hst3:St O.I O.w ([(r,.mapIter (some mb) cl (j.push F.born) cl)]++([(mb,.map es cl)]++(I++(A2++T)))):=by rw[hw3,hI3];exact s'
   have U:Le O (O.new O.w (.tuple #[F.key,F.val])):=Le.new (Ext.refl _ _);have h5:=h4.new (w':=O.w) (v:=.tuple #[F.key,F.val]) (s:=.tp [.dat k p.1,.dat e p.2]) (A1:=[]) (Ext.refl _ _) ⟨rfl,[F.key,F.val],O.BC _ _,.cons (show rp Y.toUS k _ _ _ _ from EH (e3.trans U.ext) hk) (.cons (show rp Y.toUS e _ _ _ _ from EH (e3.trans U.ext) he) .nil)⟩ h4.st;have hown:AR (Y:=Y) (O.new O.w (.tuple #[F.key,F.val])) (.own (hdK c ks la x H).nx) (.tuple #[F.key,F.val]):=FI h4.n;obtain⟨c3,g4,k1,k2,k3,k4,k5⟩:=h5.put (N:=E.N) (dst:=some i.dn) hown hs';rw[<-hw3];refine Dz (CJ (Aq1 hst3 (ItR.mem hx') hbo.1 fit2 ?_));have hw4:g4.w=O.w:=k2;rw[<-hw4];have hlx4:Lx g g4:=hlx.trans ((P.trans U).trans k4).lx;have hR':G9 g0 ([(r,.mapIter (some mb) cl (j.push F.born) cl)]++([(mb,.map es cl)]++T)) E.X (fn.at R):=λv w2 I' z H' t l u p1 p2 p3 p4 p5 p6=>hR v w2 I' z H' t l u p1 (by have:=D8 (A:=z) (B:=[(r,.mapIter (some mb) cl (j.push F.born) cl)]) p2;exact D8 (A:=z) (B:=[(mb,.map es cl)]) this) p3 p4 p5 p6
   have hφ4:g4.φ=f:=by rw[k4.φ];exact hφ3
   have hIt4:∀{W:B4},Lx g4 W->ItR k e W.I W.w es (j.push F.born) (l1++l2):=λ{W}D=>hIt'.mono (((P.trans U).trans k4).ext.trans D.ext);have back:∀{C:Cf Y}{f5:Fr}{W:B4}{AH5 A5:Bd},W.φ=f->Lx g4 W->RG g0 ([(r,.mapIter (some mb) cl (j.push F.born) cl)]++([(mb,.map es cl)]++T)) C f5 W AH5 A5->EZ (N7 (la.BD++c.pt) C.pt) (Ab8 c.op ks la C (V (l1++l2)))->WT Y.P fn E.N (.inLoop i.body::.inBlock i.bid::td) R f5 W.w:=λ{C f5 W AH5 A5}hf D Z G=>by obtain⟨M,G⟩:=AG G;obtain⟨g6,y,H6,AH6,B1,B2,e1,e2,e3,e4,e5,e6,e7⟩:=Ahc Z G;have hl6:Lx g g6:=(hlx4.trans D).trans e2.lx;obtain⟨g7,k1,k2,k3,k4,k5⟩:=Anr h hks0 hl6.ext hl6.n hl6.μ (λt ht=>by rw[Z.pt t (Pc M ht),hf]) e4 e5 e6 e7 hop;have hit7:=hIt4 (D.trans e2.lx);exact ih.out (l1++l2).length f5 W.w (by rw[hleft];simp) ⟨l1++l2,y,H6,j.push F.born,g7,AH6,_,rfl,k1.trans e1,k2,k4,e3,by rw[k3,k1];exact hit7,k5⟩
   refine QQ hR' i.os k5 k1 λc5 f5 W AH5 A5 S Z hq5=>?_;refine G8 (E:=E) (fn:=fn) (gb:=g4) hR' i.rest (ks:={nx:=λC=>EZ (N7 (la.BD++c.pt) C.pt) (Ab8 c.op ks la C (V (l1++l2))),ex:=[(i.b1,λC=>EZ (N7 (la.BD++c.pt) C.pt) (Ab8 c.op ks la C (V (l1++l2)))),(i.bid,wr c.pt nx)],rt:=rt}) ⟨?_,?_,?_⟩ S.lx Z hq5
   .exact λC f' g' z A' hf D Z G=>KT (back (by rw[hf,S.φ,hφ4]) D Z G)
   .intro id q G;simp only[Zk]at G;by_cases he1:i.b1=id
    .rw[UV he1]at G;cases G;subst he1;exact⟨_,by simp [exitTo],λC f' g' z A' hf D Z G=>back (by rw[hf,S.φ,hφ4]) D Z G⟩
    .rw[GT he1]at G;by_cases he2:i.bid=id
     .rw[UV he2]at G;cases G;subst he2;refine⟨td,by simp [exitTo,he1],λC f' g' z A' hf D Z G=>?_⟩;obtain⟨M,G⟩:=AG G;exact out (by rw[hf,S.φ,hφ4]) (hlx4.trans D) Z.Aoa M G
     .rw[GT he2]at G;cases G
   .exact λC f' g' z A' k' D Z G=>hrt _ _ _ _ _ _ (hb.trans (hlx4.trans D)) Z.Aoa G
end
end
section
structure RgO where
 d:Nat
 t:TypeId
 x:Operand
 ty:TypeId
 pos:String
 af:Array Edge
def RgO.op(r:RgO):Oper:=⟨some r.d,.range r.t r.x,r.ty,r.pos,r.af,none⟩
def rgL:List Oper->Option (List Oper×RgO)
 | []=>none
 |o::os=>match os with
  | []=>match o with
   |⟨some d,.range t x,ty,pos,af,none⟩=>some ([],⟨d,t,x,ty,pos,af⟩)
   |_=>none
  |_::_=>match rgL os with
   |some r=>some (o::r.1,r.2)
   |none=>none
theorem Alq:∀{l:List Oper}{r:List Oper×RgO},rgL l=some r->l=r.1++[r.2.op]
 | [],r,h=>by grind[rgL]
 |o::c,r,h=>by
  unfold rgL at h;split at h
  .split at h
   .cases h;rfl
   grind
  .split at h
   .rename_i b a;cases h;rw[Alq a];rfl
   grind
def mrC(a b:Code):Option (Nat×Array Oper×(List Oper×RgO)×Yl):=match a with
 | .region id ops false=>match rgL ops.toList,mrP b with
  |some r,some i=>some (id,ops,r,i)
  |_,_=>none
 |_=>none
theorem Awl{a b:Code}{q:Nat×Array Oper×(List Oper×RgO)×Yl}(h:mrC a b=some q):a=.region q.1 q.2.1 false/\q.2.1.toList=q.2.2.1.1++[q.2.2.1.2.op]/\b=q.2.2.2.code:=by
 unfold mrC at h;split at h
 .split at h
  .rename_i r i c d;cases h;exact⟨rfl,Alq c,Awj d⟩
  grind
 grind
section
variable {Y:Sys}
theorem Ada{P:Program}{N:Nat}{ops:Array Oper}{R:List PanicEntry->World->Prop}{m:Bool}{K:Fr->World->Prop}{l2:List Oper}:∀{l1:List Oper}{f:Fr}{w:World},WL P N ops R m (λf w=>WL P N ops R m K l2 f w) l1 f w->WL P N ops R m K (l1++l2) f w
 | [],f,w,h=>h
 |o::l1,f,w,h=>by
  simp only[ad,WL]at h ⊢;split at h
  .rename_i a;rw[UV a];exact h.mono λv b h=>Ada h
  simp_all[Ada]
def mrD(E:Env Y)(q:RgO)(i:Yl)(c:Cf Y):Bool:=!LZ q.d c.pt&&ax q.d E.N&&aj q.d i.it
def mrE(E:Env Y)(q:RgO)(i:Yl)(c:Cf Y)(nx rt:Cf Y->Prop):Prop:=match QB Y.P q.t,En c q.x,lkA E.lp i.id1 with
 |some (_,_),some (.own j),some la=>match Ie c.sg j with
  |some (.mp k e m)=>EZ (mrD E q i c) (mrB E i la k e m {c.Eu with fr:=rmF q.d c.fr,sg:=FP c.sg j} (λc'=>nx {c' with sg:=(j,.mp k e m)::c'.sg}) λc'=>rt {c' with sg:=(j,.mp k e m)::c'.sg})
  |_=>False
 |some (kt,et),some (.dat .mref p),some la=>match Y.ty kt,Y.ty et with
  |some k,some e=>cls c λc=>EZ (mrD E q i c) (∃b,p=some b/\∃m,c.H b=some (.mp k e m)/\mrB E i la k e m {c with fr:=rmF q.d c.fr,H:=C0 c.H b} (λc'=>cls c' λc'=>nx {c' with H:=Ab c'.H b (.mp k e m)}) λc'=>cls c' λc'=>rt {c' with H:=Ab c'.H b (.mp k e m)})
  |_,_=>False
 |_,_,_=>False
theorem Awk{E:Env Y}{fn:FK}{g0 g gb:B4}{T AH A:Bd}{R:Qp->World->Prop}{c:Cf Y}{f:Fr}{q:RgO}{i:Yl}{nx rt:Cf Y->Prop}{td:List Item}{ops:Array Oper}(hR:G9 g0 T E.X (fn.at R))(hb:Lx gb g)(h:RG g0 T c f g AH A)(C:mrE E q i c nx rt)(hnx:∀c f g' AH A,g'.φ=g.φ->Lx gb g'->RG g0 T c f g' AH A->nx c->WT Y.P fn E.N td R f g'.w)(hrt:∀c f g' AH A k',Lx gb g'->RG g0 T c f g' AH A->rt c->WT Y.P fn E.N (.code .ret::k') R f g'.w):WL Y.P E.N ops (fn.at R) false (WT Y.P fn E.N (.code i.code::td) R) [q.op] f g.w:=by
 unfold mrE at C;split at C
 .rename_i kt et j la hm ha hla;split at C
  .rename_i k e m hs;obtain⟨hc,C⟩:=AG C;unfold mrD at hc;simp only[a7,ac,b3]at hc;obtain⟨⟨q1,q2⟩,q3⟩:=hc;obtain⟨A1,U,hp,hj,O,hsg⟩:=h.sg.take hs;have hv:=(h.ev ha).2;obtain⟨b,x,d,rfl,hvb,n,hr⟩:=@Cz.ex _ _ (RT Y.toUS k) (RT Y.toUS e) _ _ _ _ _ O;have hbo:=@Cz.bo _ _ (RT Y.toUS k) (RT Y.toUS e) _ _ _ _ _ O b x d rfl;have Q:St g.I g.w ([(b,.map x d)]++(AH++(U++T))):=h.st.perm (F6 hp AH);refine Af8 (Zf hm) Q (hv.trans hvb) λr G S s1=>?_;have L:St g.I G (AH++(U++([(r,.mapIter (some b) d #[] d)]++([(b,.map x d)]++T)))):=by
    refine s1.perm ?_;have hpm:∀X:Bd,(X++(AH++(U++T))).Perm (AH++(U++(X++T))):=λX=>by refine(a6 X AH (U++T)).trans ?_;exact(a6 X U T).append_left AH
    grind
   have P:RG g0 ([(r,.mapIter (some b) d #[] d)]++([(b,.map x d)]++T)) {c.Eu with sg:=FP c.sg j} f {g with w:=G} AH U:=by
    replace h:=h.Eu;have J:Le g {g with w:=G}:=⟨S,ab _,λ_ _=>rfl,rfl⟩
    exact⟨h.n,h.le.trans S,L,h.hr.mono J,hsg.mono J,h.hs.mono J,J.pt h.pt,λi a hi=>(h.fr i a hi).mono J⟩
   have h2:=P.rm (N:=E.N) (t:=q.d) (v:=.pointer (some ⟨r,0,none⟩)) q1;have F:Lx g ({g with w:=G}:B4):=⟨S,ab _,λ_ _=>rfl⟩
   have z:∀{y:Cf Y}{M:Fr}{g':B4}{l B:Bd},Lx ({g with w:=G}:B4) g'->RG g0 ([(b,.map x d)]++T) y M g' l B->RG g0 T {y with sg:=(j,.mp k e m)::y.sg} M g' l ([(b,.map x d)]++B):=λ{y M g' l B}n D=>by
    refine⟨D.n,D.le,?_,?_,⟨[(b,.map x d)],B,rfl,a5 hj n.n,?_,D.sg⟩,D.hs,D.pt,D.fr⟩
    .have:=D.st;refine this.perm (ah l ?_);simp
    .have:=D.hr;simp_all[HR]
    .show Ws Y k e _ _ _ (g'.μ j) m;have hmu:g'.μ j=g.μ j:=n.μ j hj;rw[hmu];exact @Cz.mono _ _ (RT Y.toUS k) (RT Y.toUS e) _ _ _ _ _ _ _ O (F.trans n).ext
   refine Agi (gb:={g with w:=G}) hR (Lx.refl _) h2 ?_ hbo ?_ C (λy M g' l B hf n D hq=>?_) λy M g' l B k' n D hq=>?_
   .simp_all[X.put,DG]
   .grind[ItR.start]
   .exact hnx _ _ _ _ _ (by rw[hf]) (hb.trans (F.trans n)) (z n D) hq
   .exact hrt _ _ _ _ _ _ (hb.trans (F.trans n)) (z n D) hq
  grind
 .rename_i kt et p la hm ha hla;split at C
  .rename_i k e hk he;obtain⟨c1,Z,AH1,A1,C,hw,V,P,_,hop⟩:=Dt h C;rw[<-hw];obtain⟨hc,b,hp,m,hmp,C⟩:=AG C;unfold mrD at hc;simp only[a7,ac,b3]at hc;obtain⟨⟨q1,q2⟩,q3⟩:=hc;have hH:=P.hr;rw[hop]at hH;obtain⟨B1,B2,O,hX,Q⟩:=Hu.take hH hmp P.st;obtain⟨b',x,d,rfl,hvb,n,hr⟩:=@Cz.ex _ _ (RT Y.toUS k) (RT Y.toUS e) _ _ _ _ _ O;cases hvb;have hbo:=@Cz.bo _ _ (RT Y.toUS k) (RT Y.toUS e) _ _ _ _ _ O b x d rfl;have hv:ev f q.x=.map (some b):=by have:=KG.1 (h.ev ha);rw[this,hp]
   refine Af8 (Zf hm) Q hv λr G S s1=>?_;have L:St Z.I G (B2++(A1++([(r,.mapIter (some b) d #[] d)]++([(b,.map x d)]++T)))):=by
    refine s1.perm ?_;have hpm:∀X:Bd,(X++(B2++(A1++T))).Perm (B2++(A1++(X++T))):=λX=>by refine(a6 X B2 (A1++T)).trans ?_;exact(a6 X A1 T).append_left B2
    exact hpm ([(r,.mapIter (some b) d #[] d)]++[(b,.map x d)])
   have s:Le Z {Z with w:=G}:=⟨S,ab _,λ_ _=>rfl,rfl⟩
   have hne:∀p∈B2,p.1≠b:=λp hp' e'=>by have hn:=Q.nodup;simp only[ad,List.nil_append,bb,List.nodup_cons]at hn;exact hn.1 (by rw[List.map_append];exact am _ (e'▸List.mem_map_of_mem hp'))
   have h2:RG g0 ([(r,.mapIter (some b) d #[] d)]++([(b,.map x d)]++T)) {c1 with H:=C0 c1.H b} f {Z with w:=G} B2 A1:=by refine⟨P.n,P.le.trans S,L,?_,P.sg.mono s,P.hs.mono s,s.pt P.pt,λi a hi=>(P.fr i a hi).mono s⟩;show HR _ _ _ _ c1.op;rw[hop];exact Hu.mono (RO hX hne) S
   have D:=h2.rm (N:=E.N) (t:=q.d) (v:=.pointer (some ⟨r,0,none⟩)) q1;have F:Lx g ({Z with w:=G}:B4):=V.lx.trans s.lx;have z:∀{y:Cf Y}{M:Fr}{g':B4}{l B:Bd},y.op=none->Lx ({Z with w:=G}:B4) g'->RG g0 ([(b,.map x d)]++T) y M g' l B->RG g0 T {y with H:=Ab y.H b (.mp k e m)} M g' ([(b,.map x d)]++l) B:=λ{y M g' l B}W n I=>by
    refine⟨I.n,I.le,?_,?_,I.sg,I.hs,I.pt,I.fr⟩
    .have:=I.st;refine this.perm ?_;rw[a4];refine(ah l (a6 B [(b,.map x d)] T)).trans ?_;exact a6 l [(b,.map x d)] (B++T)
    .have hH':=I.hr;rw[W]at hH';show HR _ _ _ _ y.op;rw[W];refine Hu.new (A1:=[(b,.map x d)]) hH' ?_;exact @Cz.mono _ _ (RT Y.toUS k) (RT Y.toUS e) _ _ _ _ _ _ _ O (s.lx.trans n).ext
   refine Agi (gb:={Z with w:=G}) hR (Lx.refl _) D ?_ hbo ?_ C (λy M g' l B hf n I hq=>?_) λy M g' l B k' n I hq=>?_
   .have hlt:q.d<E.N:=a8 q2;rw[<-q3];simp [X.put,DG,hlt]
   .exact(ItR.start n hr).mono S
   .obtain⟨c2,g2,AH2,U,hq2,hw2,u,h5,_,K⟩:=Dt I hq;rw[<-hw2];exact hnx _ _ _ _ _ (by rw[u.φ,hf];exact V.φ) (hb.trans (F.trans (n.trans u.lx))) (z K (n.trans u.lx) h5) hq2
   .obtain⟨c2,g2,AH2,U,hq2,hw2,u,h5,_,K⟩:=Dt I hq;rw[<-hw2];exact hrt _ _ _ _ _ _ (hb.trans (F.trans (n.trans u.lx))) (z K (n.trans u.lx) h5) hq2
  grind
 grind
def mrX(E:Env Y)(q:Nat×Array Oper×(List Oper×RgO)×Yl)(c:Cf Y)(nx rt:Cf Y->Prop):Prop:=U1 E q.2.1 q.2.2.1.1 c λc=>mrE E q.2.2.1.2 q.2.2.2 c nx rt
theorem Awi{E:Env Y}{fn:FK}{g0 g gb:B4}{T AH A:Bd}{R:Qp->World->Prop}{c:Cf Y}{f:Fr}{a b:Code}{q:Nat×Array Oper×(List Oper×RgO)×Yl}{nx rt:Cf Y->Prop}{td:List Item}(i:mrC a b=some q)(m:G9 g0 T E.X (fn.at R))(r:Lx gb g)(h:RG g0 T c f g AH A)(s:mrX E q c nx rt)(k:∀c f g' AH A,g'.φ=g.φ->Lx gb g'->RG g0 T c f g' AH A->nx c->WT Y.P fn E.N td R f g'.w)(l:∀c f g' AH A k',Lx gb g'->RG g0 T c f g' AH A->rt c->WT Y.P fn E.N (.code .ret::k') R f g'.w):WT Y.P fn E.N (.code (.seq a b)::td) R f g.w:=by obtain⟨rfl,u,rfl⟩:=Awl i;refine Dz (CJ ?_);rw[u];refine Ada (QQ m _ h s λv x g' t w d j e=>?_);exact Awk m (r.trans d.lx) j e (λc f p AH A o n j i=>k c f p AH A (by rw[o,d.φ]) n j i) l
end
end
section
section
variable {Y:Sys}
def Ac6:List (AV Y)->Nat->List (Nat×AV Y)
 | [],_=>[]
 |a::aE,i=>(i,a)::Ac6 aE (i+1)
theorem Yo{g:B4}{f:Fr}:∀{aE:List (AV Y)}{vs:List Value}{i:Nat},F2 (AR g) aE vs->(∀j v,vs[j]?=some v->f (i+j)=v)->∀j a,HF (Ac6 aE i) j=some a->AR g a (f j)
 | [],_,_,.nil,_,j,a,h=>by grind[Ac6,HF]
 |a::aE,v::vs,i,.cons d k,c,j,b,h=>by
  refine RI (Q:=λj b=>AR g b (f j)) (p:=(i,a)) ?_ (Yo k λj u e=>?_) j b h
  .have:=c 0 v rfl;grind
  .have:=c (j+1) u (by grind);rwa [ay,b4 1 j]
def Aep:List (Nat×C4 Y)->List (Nat×C4 Y)
 | []=>[]
 |s::l=>match s.2 with
  | .clo _ _ _=>s::Aep l
  |_=>Aep l
theorem Z4{g:B4}:∀{l:List (Nat×C4 Y)}{A:Bd},Fg g l A->Fg g (Aep l) []
 | [],_,_=>rfl
 |(i,s)::l,A,⟨f,h,_,d,b,c⟩=>by
  have a:=Z4 c;cases s with
  |clo q k j=>
   have e:f=[]:=b.1;subst e;exact⟨[],[],rfl,d,b,a⟩
  |_=>exact a
def At2(c0:Cf Y)(k:AV Y->Cf Y->Prop)(c:Cf Y):List (AV Y)->Prop
 | [a]=>k a {c with fr:=c0.fr,pt:=c0.pt,sg:=c.sg++c0.sg}
 |l=>k (.own c.nx) {c with fr:=c0.fr,pt:=c0.pt,sg:=(c.nx,.tp l)::(c.sg++c0.sg),nx:=c.nx+1}
def Aea(c0:Cf Y)(res:List ResultVar)(k:AV Y->Cf Y->Prop)(c:Cf Y):Prop:=PQ c res (At2 c0 k c)
def A0w(E:Env Y)(F:Func)(c:Cf Y)(aE:List (AV Y))(X:Tz Y)(k:AV Y->Cf Y->Prop):Prop:=match F.body,c.op with
 |some code,none=>EZ (aq aE.length F.ntmps) (Tw {E with N:=F.ntmps,X:=X} code {c with fr:=Ac6 aE 0,pt:=[],sg:=Aep c.sg} {nx:=Aea c F.results.toList k,ex:=[],rt:=Aea c F.results.toList k})
 |_,_=>False
variable {g0 g:B4} {T AH A:Bd} {c:Cf Y} {f:Fr}
theorem RG.back{g':B4}{AH' A':Bd}{c':Cf Y}{f':Fr}(h:RG g0 T c f g AH A)(e:Lx g g')(l:RG g0 (A++T) c' f' g' AH' A'):Le g {g' with φ:=g.φ}/\RG g0 T {c' with fr:=c.fr,pt:=c.pt,sg:=c'.sg++c.sg} f {g' with φ:=g.φ} AH' (A'++A):=by
 have b:Le g {g' with φ:=g.φ}:=⟨e.ext,e.n,e.μ,rfl⟩
 have d:=l.YT (φ:=g.φ) (pt:=[]) (λt k=>by grind[LZ]);refine⟨b,d.n,d.le,by rw[a4];exact d.st,?_,d.sg.app (h.sg.mono b),d.hs,h.pt,λi a m=>(h.fr i a m).mono b⟩;have:=d.hr;show HR _ _ _ _ c'.op;cases j:c'.op with
 |none|some o=>rw[show ({c' with pt:=[]}:Cf Y).op=c'.op from rfl,j]at this;exact this
theorem Agr{g':B4}{AH' A':Bd}{c':Cf Y}{f':Fr}{N:Nat}{res:List ResultVar}{k:AV Y->Cf Y->Prop}{K:Value->World->Prop}(h:RG g0 T c f g AH A)(x:Lx g g')(w:RG g0 (A++T) c' f' g' AH' A')(y:Aea c res k c')(next:∀v a c' g' AH' A',Le g g'->RG g0 T c' f g' AH' A'->AR g' a v->k a c'->K v g'.w):∃vs,(∀a,Is N a f'->(res.mapM (PO a)).run Y.P g'.w=.ok vs g'.w)/\K (KI vs) g'.w:=by
 obtain⟨b,vs,t,m,z⟩:=NZ (N:=N) w y;refine⟨vs,z,?_⟩;obtain⟨l,o⟩:=h.back x w;replace m:F2 (AR {g' with φ:=g.φ}) b vs:=m.mono λ_ _ r=>r.YT _;have u:(∀a,b≠[a])->K (KI vs) g'.w:=λn=>by
  have B:KI vs=.tuple ⟨vs⟩:=by
   have d:=m.len;cases vs with
   |nil=>rfl
   |cons v vs=>
    cases vs with
    |nil=>
     cases b with
     |nil=>grind
     |cons a b=>
      grind
    |cons _ _=>rfl
  have C:k (.own c'.nx) {c' with fr:=c.fr,pt:=c.pt,sg:=(c'.nx,.tp b)::(c'.sg++c.sg),nx:=c'.nx+1}:=by simp_all[At2]
  have i:=Le.new (g:={g' with φ:=g.φ}) (v:=.tuple ⟨vs⟩) (Ext.refl g'.I g'.w);have:=o.new (s:=.tp b) (v:=.tuple ⟨vs⟩) (A1:=[]) (Ext.refl _ _) ⟨rfl,vs,B4.BC _ _ _,m.mono λ_ _ r=>r.mono i⟩ o.st;rw[B];exact next _ _ _ (B4.new {g' with φ:=g.φ} g'.w (.tuple ⟨vs⟩)) _ _ (l.trans i) this (FI o.n) C
 by_cases j:∃a,b=[a]
 .obtain⟨a,rfl⟩:=j;cases m with
  |cons p q=>cases q;exact next _ a _ {g' with φ:=g.φ} _ _ l o p t
 grind
def RL(E:Env Y)(q:FuncId)(F:Func)(hf:Y.P.funcs[q]?=some F)(hc:CO Y.P q=true):T2 Y q where
 tr:=A0w E F
 can:=hc
 ok {g0 g T AH A c f aE vs X k} h ha hx R K hR next:=by
  unfold A0w at hx;split at hx
  .rename_i code hb hop;obtain⟨hlen,hx⟩:=AG hx;have hr:RG g0 (A++T) {c with fr:=Ac6 aE 0,pt:=[],sg:=Aep c.sg} (Wo vs) g AH []:=⟨h.n,h.le,h.st,by have:=h.hr;show HR _ _ _ _ c.op;rw[hop]at this ⊢;exact this,Z4 h.sg,h.hs,λt ht=>by simp [LZ]at ht,Yo ha λj v hj=>by rw[ak,<-L8,hj];rfl⟩
   refine Ix (N:=F.ntmps) hf hb rfl (by rw[<-ha.len];exact a8 hlen) ?_;have fin:∀{c' f' g' AH' A'},Lx g g'->RG g0 (A++T) c' f' g' AH' A'->Aea c F.results.toList k c'->∃v,(∀a,Is F.ntmps a f'->(results F a).run Y.P g'.w=.ok v g'.w)/\K v g'.w:=λhl hr' hx'=>by obtain⟨us,h1,h2⟩:=Agr (N:=F.ntmps) h hl hr' hx' next;exact⟨_,λa ha=>Gv (h1 a ha),h2⟩
   refine G8 (E:={E with N:=F.ntmps,X:=X}) (fn:=⟨q,none,[]⟩) (gb:=g) ?_ code ⟨λc' f' g' AH' A' _ hl hr' hx'=>S9 (fin hl hr' hx'),λid q hq=>by simp [Zk]at hq,λc' f' g' AH' A' k' hl hr' hx'=>MF (fin hl hr' hx')⟩ (Lx.refl g) hr hx;exact λv w' I' AH' H' t l u h1 h2 h3 h4 h5 h6 _=>hR v w' I' AH' H' t l u h1 (D8 h2) h3 h4 h5 h6
  .exact hx.elim
def Kq(M:List Nat):Bd:=M.map λb=>(b,.deferred (some []))
def WJ(q:FuncId)(M:List Nat):FK:=⟨q,none,M.map λb=>⟨.collected b,#[]⟩⟩
variable {q:FuncId} {M:List Nat} {b:Nat}
theorem An3:(WJ q M).mark b=WJ q (b::M):=rfl
theorem Xx{I:Cc}{w:World}{o o':Obj}(h:St I w ((b,o)::T)):Ext I w I (w.putObj b o')/\St I (w.putObj b o') ((b,o')::T):=by have e:=(h.own (b,o) (by simp)).1;have a:b<w.heap.size:=(Array.getElem?_eq_some_iff.1 e).1;exact h.write (b:=b) (o:=o) (o':=o') (T:=T) rfl rfl rfl (by simp) (World.putObj_heap_same a) λc d=>World.putObj_heap_other d
theorem RC{I:Cc}{B T:Bd}:∀(M:List Nat){w:World},St I w (B++(Kq M++T))->∃w',Ext I w I w'/\St I w' (B++T)/\∀{P:Program}{F:Func}{N:Nat}{f:Fr}{R:Ending->World->Prop}{u:FrameMode},u≠.run->Lv P F N f R [] u w'->Lv P F N f R (M.map λb=>⟨.collected b,#[]⟩) u w
 | [],w,h=>⟨w,Ext.refl _ _,h,λ_ h=>h⟩
 |b::M,w,h=>by have a:St I w ((b,.deferred (some []))::(B++(Kq M++T))):=h.perm (by simp[Kq,bb,ad]);obtain⟨g,e⟩:=Xx (o':=.deferred none) a;obtain⟨w',j,k,i⟩:=RC M (e.drop (A:=[(b,.deferred none)]));exact⟨w',g.trans j,k,λc d=>⟨c,.inl ⟨b,rfl,(a.own _ (az)).1,i c d⟩⟩⟩
theorem Aa9(h:RG g0 (Kq M++T) c f g AH A):∃g',Le g g'/\RG g0 T c f g' AH A/\∀{F:Func}{N:Nat}{f':Fr}{R:Ending->World->Prop}{u:FrameMode},u≠.run->Lv Y.P F N f' R [] u g'.w->Lv Y.P F N f' R (M.map λb=>⟨.collected b,#[]⟩) u g.w:=by
 obtain⟨m,e,s,n⟩:=RC (B:=AH++A) M (by rw[a4];exact h.st);have d:Le g {g with w:=m}:=⟨e,ab _,λ_ _=>rfl,rfl⟩
 exact⟨_,d,⟨h.n,h.le.trans e,by grind,h.hr.mono d,h.sg.mono d,h.hs.mono d,d.pt h.pt,λi a l=>(h.fr i a l).mono d⟩,λj k=>n j k⟩
variable {l:Nat} {r:Loop}
theorem Ari{I:Cc}{w:World}{H:HH Y}(c:Hu (P8 Y) I w H AH)(s:St I w (AH++T))(a:H l=some (.lp r)):w.heap[l]?=some (.loop r):=by obtain⟨d,f,e,_,b⟩:=Hu.take c a s;obtain rfl:d=[(l,.loop r)]:=e;exact(b.own (l,.loop r) (by simp)).1
theorem RH(h:RG g0 T c f g AH A)(j:c.op=none)(o:c.H l=some (.lp r))(d:Loop):g.w.heap[l]?=some (.loop r)/\Le g {g with w:=g.w.putObj l (.loop d)}/\∃AH',RG g0 T {c with H:=Ab c.H l (.lp d)} f {g with w:=g.w.putObj l (.loop d)} AH' A:=by
 have k:=h.hr;rw[j]at k;obtain⟨A1,q,n,u,m⟩:=Hu.take k o h.st;obtain rfl:A1=[(l,.loop r)]:=n;obtain⟨e,s⟩:=Xx (o':=.loop d) m;have b:Le g {g with w:=g.w.putObj l (.loop d)}:=⟨e,ab _,λ_ _=>rfl,rfl⟩
 refine⟨(m.own (l,.loop r) (by simp)).1,b,(l,.loop d)::q,h.n,h.le.trans e,s,?_,h.sg.mono b,h.hs.mono b,b.pt h.pt,λi a p=>(h.fr i a p).mono b⟩;show HR _ _ _ _ c.op;rw[j];exact HpX.lay (A1:=[(l,.loop d)]) (u.mono e) rfl
def CF(r:Loop):Loop:={r with state:=.busy}
def O7(r:Loop)(j:Code):Loop:={r with state:=.done,pending:=some j}
def Apz:List Tmp->List (AV Y)->List (Nat×AV Y)->List (Nat×AV Y)
 |p::ps,a::aE,l=>Apz ps aE ((p,a)::l)
 |_,_,l=>l
theorem Afb{N:Nat}{g0 g:B4}{T AH A:Bd}:∀{ps:List Tmp}{aE:List (AV Y)}{vs:List Value}{c:Cf Y}{f:Fr},RG g0 T c f g AH A->c.pt=[]->ps.all (λp=>ax p N)=true->F2 (AR g) aE vs->RG g0 T {c with fr:=Apz ps aE c.fr} (Ac5 N ps vs f) g AH A
 |[],_,_,c,f,h,_,_,_|p::ps,[],_,c,f,h,_,_,.nil=>by simpa [Apz,Ac5] using h
 |p::ps,a::aE,v::vs,c,f,h,d,b,.cons i e=>by simp only[List.all_cons,a7]at b;exact Afb (c:=c.set p a) (h.set (by grind[LZ]) i) d b.2 e
def A3f(c:Cf Y)(ps:List Tmp)(aE:List (AV Y))(H:HH Y):Cf Y:={fr:=Apz ps aE c.fr,sg:=[],nx:=c.nx,H:=H,op:=none,hs:=c.hs,pt:=[]}
def Axs(l:Nat)(r:Loop)(j:Option Code)(Q:I5 Y [.bool]->HH Y->Prop)(c:Cf Y):Prop:=cls c λc=>c.H l=some (.lp (CF r))/\match j with
 |none=>Q (true,()) (Ab c.H l (.lp r))
 |some j=>Q (false,()) (Ab c.H l (.lp (O7 r j)))
def Auk(E:Env Y)(c:Cf Y)(l:Nat)(r:Loop)(ps:List Tmp)(aE bd:Code)(ts:List Ty):FT Y ts [.bool]:=λa H Q X=>H l=some (.lp r)/\Tw {E with X:=X} aE (A3f c ps (PB ts a) H)
 {nx:=λc1=>cls c1 λc1=>c1.H l=some (.lp r)/\Tw {E with X:=X} bd {c1 with H:=Ab c1.H l (.lp (CF r))} {nx:=Axs l r none Q,ex:=[],rt:=Axs l r (some .ret) Q},ex:=[],rt:=λ_=>False}
theorem Ag4{j:Option Code}(o:r.state=.ready)(k:r.pending=none){Q:I5 Y [.bool]->HH Y->Prop}{X:Tz Y}(h:RG g0 T c f g AH A)(t:Axs l r j Q c):Atc Y.P l (Ahr Y g0.I g0.w T (λI' w' v A' H'=>A'=[]/\∃b us,v=KI us/\We Y I' w' [.bool] b us/\Q b H') X) (.lv j f []) g.w:=by
 obtain⟨p,B,w,H,⟨C,s⟩,u,z,x,_,a⟩:=Dt h t;have d:∀(i:Loop)(b:Bool),i={CF r with state:=if j.isNone then .ready else .done,pending:=j}->j.isNone=b->Q (b,()) (Ab p.H l (.lp i))->Atc Y.P l (Ahr Y g0.I g0.w T (λI' w' v A' H'=>A'=[]/\∃b us,v=KI us/\We Y I' w' [.bool] b us/\Q b H') X) (.lv j f []) g.w:=λi b e y F=>by
  obtain⟨D,G,n,m⟩:=RH x a C i;refine⟨_,_,by rw[<-u];exact run_endRound j D,.inl ⟨_,B.I,rfl,?_,n,[],_,?_,?_,rfl,(b,()),[.bool b],by rw[<-y];rfl,⟨_,[],rfl,GN.2 rfl,rfl⟩,F⟩⟩
  .rw[<-e];exact m.le
  .rw[<-e];exact D8 m.st
  .have:=m.hr;rw[<-e];change HR _ _ _ _ p.op at this;rw[a]at this;exact this
 cases j with
 |none=>exact d r true (by cases r;grind[CF]) rfl s
 |some j=>exact d (O7 r j) false (by rfl) rfl s
variable {E:Env Y}
theorem Auj{F:Func}(hF:Y.P.funcs[q]?=some F)(h:RG g0 T c f g AH A){a0:Array Value}(J:Is E.N a0 f){ps:Array Tmp}{aE bd:Code}{ts:List Ty}(hps:ps.size=ts.length)(R:ps.toList.all (λp=>ax p E.N)=true):FvR Y ts [.bool] (Auk E c l (TX q a0 ps aE bd b) ps.toList aE bd ts) g.I g.w (.func (.yield l) #[] #[]):=by
 refine⟨⟨_,_,_,rfl⟩,λa H Q X⟨hl,hx⟩I w e S m s y hH G=>.inr ⟨l,_,rfl,Ari hH G hl,?_,?_⟩⟩
 .show s.length=ps.size;rw[hps];have:∀{ts:List Ty}{a:I5 Y ts}{s:List Value},We Y I w ts a s->s.length=ts.length:=by
   intro ts;induction ts with
   |nil=>intro a s h;rw[show s=[] from h];rfl
   |cons t ts ih=>intro a s h;obtain⟨v,vs',K,_,M⟩:=h;grind
  grind
 .let x:B4:={g with I:=I,w:=w}
  have D:Le g x:=⟨e,ab _,λ_ _=>rfl,rfl⟩
  have z:RG x S {c with sg:=[],H:=H,op:=none,pt:=[]} f x m []:=⟨h.n,Ext.refl _ _,G,hH,rfl,h.hs.mono D,λt ht=>by grind[LZ],λi a hi=>(h.fr i a hi).mono D⟩
  have hr:=Afb (N:=E.N) z rfl R (Pa (g:=x) y);refine Aie (N:=E.N) ⟨F,hF⟩ (Aw6 J) ?_;have B:G9 x S X ((⟨q,some l,[]⟩:FK).at (Atc Y.P l (Ahr Y I w S (λU w' r A' P=>A'=[]/\∃b us,r=KI us/\We Y U w' [.bool] b us/\Q b P) X))):=λv w' U m P t l u K h2 M h4 h5 h6 _=>.inr ⟨v,U,rfl,K,m,P,t,l,u,h2,M,h4,h5,h6⟩;refine G8 (E:={E with X:=X}) (fn:=⟨q,some l,[]⟩) (gb:=x) B aE ⟨λW L g1 o A1 _ n j d=>?_,λid q hq=>by grind[Zk],λW L g1 o A1 k' n j d=>False.elim d⟩ (Lx.refl _) hr hx;dsimp only at d;obtain⟨c2,g2,AH2,A2,⟨V,O⟩,Z,hle2,hr2,_,C⟩:=Dt j d;obtain⟨k1,k2,AH3,k3⟩:=RH hr2 C V (CF (TX q a0 ps aE bd b));rw[<-Z];refine Wt rfl (run_beginRound k1 rfl) ?_;have:=G8 (E:={E with X:=X}) (fn:=⟨q,some l,[]⟩) (k:=[]) (gb:={g2 with w:=g2.w.putObj l (.loop (CF (TX q a0 ps aE bd b)))}) B bd ⟨λW L g1 o A1 _ n j d=>S9 (Ag4 rfl rfl j d),λid q hq=>by grind[Zk],λW L g1 o A1 k' n j d=>MF (Ag4 rfl rfl j d)⟩ (Lx.refl _) k3 O;exact this
def rfX(E:Env Y)(gop:Operand)(ps:Array Tmp)(aE bd:Code)(c:Cf Y)(nx rt:Cf Y->Prop):Prop:=cls c λc=>match En c gop with
 |some (.own j)=>match Ie c.sg j with
  |some (.clo q fs cs)=>match E.sigs q with
   |some ⟨.fn ts [.bool]::_,_⟩=>EZ (aj ps.size ts.length&&ps.toList.all λp=>ax p E.N) (∀l r,c.H l=none->
    VZ E.sigs E.X {c with H:=Ab c.H l (.lp r)} q (fs++([.fn ts [.bool] (Auk E c l r ps.toList aE bd ts)]++cs)) λ_ c2=>cls c2 λc2=>
     (c2.H l=some (.lp r)/\∀r',nx {c2 with H:=Ab c2.H l (.lp r')})∨(c2.H l=some (.lp (O7 r .ret))/\∀r',rt {c2 with H:=Ab c2.H l (.lp r')}))
   |_=>False
  |_=>False
 |_=>False
theorem Azr(x y:Nat×Obj)(B C D E:Bd):(x::(y::(B++(C++(D++E))))).Perm ((x::B)++(C++((y::D)++E))):=by simp only[ad];refine ba _ ?_;rw[<-a4 B C,<-a4 B C];exact b6.symm
theorem Azs(x y:Nat×Obj)(B C:Bd):(x::(y::(B++C))).Perm (x::(B++(y::C))):=ba _ b6.symm
theorem Avc(h:RG g0 (Kq M++T) c f g AH A)(e:c.op=none)(r:Loop):c.H (g.w.heap.size+1)=none/\∃g2 AH',g2.w=(g.w.alloc (.deferred (some []))).alloc (.loop r)/\Le g g2/\RG g0 (Kq (g.w.heap.size::M)++T) {c with H:=Ab c.H (g.w.heap.size+1) (.lp r)} f g2 AH' A:=by
 have n:=h.hr;rw[e]at n;obtain⟨t,q⟩:=h.st.alloc (.deferred (some []));obtain⟨s,o⟩:=q.alloc (.loop r);have l:(g.w.alloc (.deferred (some []))).heap.size=g.w.heap.size+1:=by simp
 rw[l]at o;have d:=t.trans s;let g2:B4:={g with w:=(g.w.alloc (.deferred (some []))).alloc (.loop r)}
 have b:Le g g2:=⟨d,ab _,λ_ _=>rfl,rfl⟩
 have k:Hu (P8 Y) g2.I g2.w c.H AH:=Hu.mono n d;have j:St g2.I g2.w ((g.w.heap.size+1,.loop r)::((g.w.heap.size,.deferred (some []))::(AH++(A++(Kq M++T))))):=o;have m:c.H (g.w.heap.size+1)=none:=RQ k (j.perm (Azs _ _ _ _));refine⟨m,g2,(g.w.heap.size+1,.loop r)::AH,rfl,b,h.n,h.le.trans d,j.perm (Azr _ _ _ _ _ _),?_,h.sg.mono b,h.hs.mono b,b.pt h.pt,λi a p=>(h.fr i a p).mono b⟩;show HR _ _ _ _ c.op;rw[e];exact Hu.new (A1:=[(g.w.heap.size+1,.loop r)]) k rfl
theorem Avd{q0:FuncId}{F0:Func}(hF:Y.P.funcs[q0]?=some F0){R:Qp->World->Prop}(hR:∀M,G9 g0 (Kq M++T) E.X ((WJ q0 M).at R)){gop:Operand}{ps:Array Tmp}{aE bd:Code}(h:RG g0 (Kq M++T) c f g AH A){nx rt:Cf Y->Prop}{k:List Item}(d:rfX E gop ps aE bd c nx rt)(hnx:∀M c f g' AH A,Lx g g'->RG g0 (Kq M++T) c f g' AH A->nx c->WT Y.P (WJ q0 M) E.N k R f g'.w)(hrt:∀M c f g' AH A k',Lx g g'->RG g0 (Kq M++T) c f g' AH A->rt c->WT Y.P (WJ q0 M) E.N (.code .ret::k') R f g'.w):WT Y.P (WJ q0 M) E.N (.code (.rangeFunc gop ps aE bd)::k) R f g.w:=by
 obtain⟨c1,b,AH1,A1,d,hw,O,D,_,P⟩:=Dt h d;rw[<-hw];split at d
 .rename_i j ha;split at d
  .rename_i q fs cs hs;split at d
   .rename_i ts ks res hsg;obtain⟨I,d⟩:=AG d;simp only[a7,b3]at I;obtain⟨C1,C2,_,_,⟨_,vs,us,h3,S,h5⟩,_⟩:=D.sg.take hs;have hg:ev f gop=.func (.func q) ⟨vs⟩ ⟨us⟩:=(D.ev ha).2.trans h3;refine Yq rfl hg λa J=>?_;obtain⟨W,g2,AH2,U,i,F⟩:=Avc D P (TX q0 a ps aE bd b.w.heap.size);have hy:AR g2 (.fn ts [.bool] (Auk E c1 (b.w.heap.size+1) (TX q0 a ps aE bd b.w.heap.size) ps.toList aE bd ts)) (.func (.yield (b.w.heap.size+1)) #[] #[]):=Auj (c:={c1 with H:=Ab c1.H (b.w.heap.size+1) (.lp (TX q0 a ps aE bd b.w.heap.size))}) hF F J I.1 I.2;obtain⟨B,o⟩:=OB F (d _ _ W) ((S.mono λ_ _ r=>r.mono i).app ((F2.cons hy .nil).app (h5.mono λ_ _ r=>r.mono i)));refine⟨B,?_⟩;have K:=o (λch w=>R (.pan ch f (WJ q0 (b.w.heap.size::M)).ds) w) (λ_ C=>∃r,C.heap[b.w.heap.size+1]?=some (.loop r)/\r.state≠.busy/\WT Y.P (WJ q0 (b.w.heap.size::M)) E.N ((r.pending.map Item.code).toList++k) R f (C.putObj (b.w.heap.size+1) (.loop {r with state:=.exhausted})))
     (λv C X AH' H' t l u D F h3 S h5 h6=>hR (b.w.heap.size::M) v C X AH' H' t l u D F h3 S h5 h6 f) (λv a' c3 g3 AH3 A3 x V _ G=>by
      obtain⟨c4,g4,AH4,A4,m,hw4,y,s,_,n⟩:=Dt V G;rw[<-hw4];have z:=O.trans (i.trans (x.trans y));rcases m with ⟨Z,m⟩|⟨Z,m⟩
      .obtain⟨k1,k2,N,Q⟩:=RH s n Z {TX q0 a ps aE bd b.w.heap.size with state:=.exhausted};exact⟨_,k1,λe=>(by cases e),hnx _ _ _ _ _ _ (z.trans k2).lx Q (m _)⟩
      .obtain⟨k1,k2,N,Q⟩:=RH s n Z {O7 (TX q0 a ps aE bd b.w.heap.size) .ret with state:=.exhausted};exact⟨_,k1,λe=>(by cases e),hrt _ _ _ _ _ _ k (z.trans k2).lx Q (m _)⟩)
    have p:(⟨(⟨vs⟩:Array Value).toList++[.func (.yield (b.w.heap.size+1)) #[] #[]]++(⟨us⟩:Array Value).toList⟩:Array Value)=⟨vs++([.func (.yield (b.w.heap.size+1)) #[] #[]]++us)⟩:=congrArg Array.mk (a4 _ _ _);have L:(b.w.alloc (.deferred (some []))).alloc (.loop (TX (WJ q0 M).fn a ps aE bd b.w.heap.size))=g2.w:=U.symm;rw[p,L,An3];refine Calls.mono K λe C he=>?_;grind
   grind
  grind
 grind
def Acl(E:Env Y):Code->(Cf Y->Prop)->(Cf Y->Prop)->Cf Y->Prop
 | .seq a b,nx,rt,c=>match mrC a b with
  |some q=>mrX E q c nx rt
  |none=>Acl E a (Acl E b nx rt) rt c
 | .block id b,nx,rt,c=>match b with
  | .rangeFunc g ps aE bd=>rfX E g ps aE bd c nx rt
  |b=>Tw E (.block id b) c ⟨nx,[],rt⟩
 |code,nx,rt,c=>Tw E code c ⟨nx,[],rt⟩
theorem Ahq{q0:FuncId}{F0:Func}(hF:Y.P.funcs[q0]?=some F0){R:Qp->World->Prop}(p:∀M,G9 g0 (Kq M++T) E.X ((WJ q0 M).at R)):∀(code:Code){nx rt:Cf Y->Prop}{k:List Item}{M:List Nat}{c:Cf Y}{f:Fr}{g gb:B4}{AH A:Bd},(∀M c f g AH A,Lx gb g->RG g0 (Kq M++T) c f g AH A->nx c->WT Y.P (WJ q0 M) E.N k R f g.w)->(∀M c f g AH A k',Lx gb g->RG g0 (Kq M++T) c f g AH A->rt c->WT Y.P (WJ q0 M) E.N (.code .ret::k') R f g.w)->Lx gb g->RG g0 (Kq M++T) c f g AH A->Acl E code nx rt c->WT Y.P (WJ q0 M) E.N (.code code::k) R f g.w:=by
 intro code;have m:∀(code:Code){nx rt:Cf Y->Prop}{k:List Item}{M:List Nat}{c:Cf Y}{f:Fr}{g gb:B4}{AH A:Bd},(∀M c f g AH A,Lx gb g->RG g0 (Kq M++T) c f g AH A->nx c->WT Y.P (WJ q0 M) E.N k R f g.w)->(∀M c f g AH A k',Lx gb g->RG g0 (Kq M++T) c f g AH A->rt c->WT Y.P (WJ q0 M) E.N (.code .ret::k') R f g.w)->
   Lx gb g->RG g0 (Kq M++T) c f g AH A->Tw E code c ⟨nx,[],rt⟩->WT Y.P (WJ q0 M) E.N (.code code::k) R f g.w:=λcode nx rt k M c f g gb AH A j i n h e=>
  G8 (fn:=WJ q0 M) (gb:=gb) (p M) code ⟨λc f g AH A _ l h e=>j M c f g AH A l h e,λt q s=>by grind[Zk],λc f g AH A k' l h e=>i M c f g AH A k' l h e⟩ n h e
 induction code with
 |seq a b o r=>
  intro nx rt k M c f g gb AH A j i n h e;grind[Acl,Awi,WJ,Dz]
 |block t b _=>
  intro nx rt k M c f g gb AH A j i n h e;unfold Acl at e;split at e
  .exact KU (Avd hF p h e (λM c f g AH A l h e=>KT (j M c f g AH A (n.trans l) h e)) λM c f g AH A k' l h e=>i M c f g AH A k' (n.trans l) h e)
  grind
 |_=>exact m _
theorem Ac9{σ:Bi}{F:Func}{code:Code}{a:Jg Y σ.args}{H:HH Y}{Q:L0 Y σ.res->No Y σ.args->HH Y->Prop}(hf:Y.P.funcs[q]?=some F)(hb:F.body=some code)(hN:F.ntmps=E.N)(hl:aq σ.args.length E.N=true)(h:Acl E code (rtX F.results.toList σ Q) (rtX F.results.toList σ Q) (ini σ.args a H)):Wp Y q σ a H Q E.X:=by
 intro I w T A AH J s hH hst;refine Q1 hf hb hN (by grind[Z8]) ?_;let R:B4:={I:=I,w:=w,n:=0,μ:=λ_=>undef,φ:=Wo J}
 obtain⟨g,k1,S,k3,k4,k5,k6,k7⟩:=Uq (g:=R) (i:=0) (f:=Wo J) s (λj v hj=>by rw[ak,<-L8,hj];rfl);have C:RG R (Kq []++T) (ini σ.args a H) (Wo J) g AH A:=⟨k4,k1.ext,by rw[S,k3];exact hst,by show Hu _ _ _ _ _;rw[S,k3];exact hH,k6,λx B=>(by cases B),λt ht=>(by grind[ini,LZ]),k5⟩
 have G:∀(M:List Nat)(c:Cf Y)(f:Fr)(z:B4)(d r:Bd),Lx g z->RG R (Kq M++T) c f z d r->rtX F.results.toList σ Q c->Lv Y.P F E.N f (Ahs I w (λv m o=>∃d r p,St m o (d++(r++T))/\Hu (P8 Y) m o p d/\∃b O P N L,r=N++L/\v=KI P/\ReR Y m o σ.res b P N/\IoR Y m o σ.args O J L/\Q b O p) (λv m o=>∃d p t l u,St m o (d++T)/\Hu (P8 Y) m o p d/\v=.iface t u/\rp Y.toUS l.t m o u l.x/\E.X t l p)) (WJ q M).ds .returning z.w:=λM c f z d r y C B=>by obtain⟨g2,K,hr2,D⟩:=Aa9 C;refine D (λe=>by cases e) ?_;obtain⟨v,X,v',m,V,W,U⟩:=Aln k7 (y.trans K.lx) hr2 B;exact⟨v,X,.inl ⟨v',m,V,W,U⟩⟩
 have hR:∀M,G9 R (Kq M++T) E.X ((WJ q M).at (Ajz Y.P F E.N (Ahs I w (λv m o=>∃d r p,St m o (d++(r++T))/\Hu (P8 Y) m o p d/\∃b O P N L,r=N++L/\v=KI P/\ReR Y m o σ.res b P N/\IoR Y m o σ.args O J L/\Q b O p) (λv m o=>∃d p t l u,St m o (d++T)/\Hu (P8 Y) m o p d/\v=.iface t u/\rp Y.toUS l.t m o u l.x/\E.X t l p)))):=λM v o m d p t l u X V W U h5 h6 f=>by obtain⟨w2,Z,s2,D⟩:=RC M V;exact D (λe=>by cases e) (.inr ⟨v,m,rfl,X.trans Z,d,p,t,l,u,s2,Hu.mono W Z,U,EH Z h5,h6⟩)
 have:=Ahq (E:=E) (M:=[]) (k:=[]) (gb:=g) hf hR code (λM c f z d r y C B=>S9 (G M c f z d r y C B)) (λM c f z d r k' y C B=>MF (G M c f z d r y C B)) (Lx.refl g) C h;rw[S]at this;exact this
def Atz(E:Env Y)(F:Func)(c:Cf Y)(aE:List (AV Y))(X:Tz Y)(k:AV Y->Cf Y->Prop):Prop:=match F.body,c.op with
 |some code,none=>EZ (aq aE.length F.ntmps) (Acl {E with N:=F.ntmps,X:=X} code (Aea c F.results.toList k) (Aea c F.results.toList k) {c with fr:=Ac6 aE 0,pt:=[],sg:=Aep c.sg})
 |_,_=>False
def Axc(E:Env Y)(q:FuncId)(F:Func)(hf:Y.P.funcs[q]?=some F)(hc:CO Y.P q=true):T2 Y q where
 tr:=Atz E F
 can:=hc
 ok {g0 g T AH A c f aE vs X k} h ha hx R K hR next:=by
  unfold Atz at hx;split at hx
  .rename_i code hb hop;obtain⟨hlen,hx⟩:=AG hx;have hr:RG g0 (Kq []++(A++T)) {c with fr:=Ac6 aE 0,pt:=[],sg:=Aep c.sg} (Wo vs) g AH []:=⟨h.n,h.le,h.st,by have:=h.hr;show HR _ _ _ _ c.op;rw[hop]at this ⊢;exact this,Z4 h.sg,h.hs,λt ht=>by simp [LZ]at ht,Yo ha λj v hj=>by rw[ak,<-L8,hj];rfl⟩
   refine Ix (N:=F.ntmps) hf hb rfl (by rw[<-ha.len];exact a8 hlen) ?_;have fin:∀{M c' f' g' AH' A'},Lx g g'->RG g0 (Kq M++(A++T)) c' f' g' AH' A'->Aea c F.results.toList k c'->Lv Y.P F F.ntmps f' (λe w'=>match e with | .returned v=>K v w' | .panicked ch=>R ch w' | .outgrown=>False) (M.map λb=>⟨.collected b,#[]⟩) .returning g'.w:=λ{M c' f' g' AH' A'}hl hr' hx'=>by obtain⟨g2,hle2,hr2,hlv⟩:=Aa9 hr';refine hlv (λe=>by cases e) ?_;obtain⟨us,h1,h2⟩:=Agr (N:=F.ntmps) h (hl.trans hle2.lx) hr2 hx' next;exact⟨_,λa ha=>Gv (h1 a ha),h2⟩
   have hR':∀M,G9 g0 (Kq M++(A++T)) X ((WJ q M).at (Ajz Y.P F F.ntmps (λe w'=>match e with | .returned v=>K v w' | .panicked ch=>R ch w' | .outgrown=>False))):=λM v w' I' AH' H' t l u h1 h2 h3 h4 h5 h6 f'=>by obtain⟨w2,e2,s2,hlv⟩:=RC M h2;exact hlv (λe=>by cases e) (hR v w2 I' AH' H' t l u (h1.trans e2) (D8 s2) (Hu.mono h3 e2) h4 (EH e2 h5) h6)
   exact Ahq (E:={E with N:=F.ntmps,X:=X}) (M:=[]) (k:=[]) (gb:=g) hf hR' code (λM c' f' g' AH' A' hl hr' hx'=>S9 (fin hl hr' hx')) (λM c' f' g' AH' A' k' hl hr' hx'=>MF (fin hl hr' hx')) (Lx.refl g) hr hx
  .exact hx.elim
end
end
end Go.Y
section
namespace Go.Y
open Go Go.RowKit Go.X
section
section
variable {D:Nat->Type} {α:Type}
def tk(t:Ty)(l:List (Lf D))(k:den D t->List (Lf D)->Option α):Option α:=match l with
 | []=>none
 |⟨t',x⟩::l=>match Ty.dec t' t with
  | .isTrue h=>k (h▸x) l
  | .isFalse _=>none
variable {t:Ty} {r:α}
theorem Azj{l:List (Lf D)}{k:den D t->List (Lf D)->Option α}(h:tk t l k=some r):∃x l',l=⟨t,x⟩::l'/\k x l'=some r:=by
 unfold tk at h;split at h
 .cases h
 .split at h
  .rename_i e _;subst e;exact⟨_,_,rfl,h⟩
  .cases h
def nl(l:List (Lf D))(r:Option α):Option α:=match l with
 | []=>r
 |_::_=>none
theorem A0j{l:List (Lf D)}{r:Option α}{x:α}(h:nl l r=some x):l=[]/\r=some x:=by
 cases l with
 |nil=>exact⟨rfl,h⟩
 |cons=>cases h
def Dc(t:Ty)(l:List (OL D))(k:den D t->List (OL D)->Option α):Option α:=match l with
 | .dat ⟨t',x⟩::l=>match Ty.dec t' t with
  | .isTrue h=>k (h▸x) l
  | .isFalse _=>none
 |_=>none
variable {l:List (OL D)}
theorem Au0{k:den D t->List (OL D)->Option α}(h:Dc t l k=some r):∃x l',l=.dat ⟨t,x⟩::l'/\k x l'=some r:=by
 unfold Dc at h;split at h
 .split at h
  .rename_i e _;subst e;exact⟨_,_,rfl,h⟩
  .cases h
 .cases h
def S3(t:Ty)(l:List (OL D))(k:List (den D t)->List (OL D)->Option α):Option α:=match l with
 | .own t' x::l=>match Ty.dec t' t with
  | .isTrue h=>k (h▸x) l
  | .isFalse _=>none
 |_=>none
theorem Aux{k:List (den D t)->List (OL D)->Option α}(h:S3 t l k=some r):∃x l',l=.own t x::l'/\k x l'=some r:=by
 unfold S3 at h;split at h
 .split at h
  .rename_i e _;subst e;exact⟨_,_,rfl,h⟩
  .cases h
 .cases h
def tkM(t e:Ty)(l:List (OL D))(k:List (den D t×den D e)->List (OL D)->Option α):Option α:=match l with
 | .map t' e' x::l=>match Ty.dec t' t,Ty.dec e' e with
  | .isTrue h,.isTrue h'=>k (h▸h'▸x) l
  |_,_=>none
 |_=>none
theorem Auz{e:Ty}{k:List (den D t×den D e)->List (OL D)->Option α}(h:tkM t e l k=some r):∃x l',l=.map t e x::l'/\k x l'=some r:=by
 unfold tkM at h;split at h
 .split at h
  .rename_i a b _ _;subst a;subst b;exact⟨_,_,rfl,h⟩
  .cases h
 .cases h
def tkN(t:Ty)(l:List (OL D))(k:Option (List (den D t))->List (OL D)->Option α):Option α:=match l with
 | .ownO t' x::l=>match Ty.dec t' t with
  | .isTrue h=>k (h▸x) l
  | .isFalse _=>none
 |_=>none
theorem Auy{k:Option (List (den D t))->List (OL D)->Option α}(h:tkN t l k=some r):∃x l',l=.ownO t x::l'/\k x l'=some r:=by
 unfold tkN at h;split at h
 .split at h
  .rename_i e _;subst e;exact⟨_,_,rfl,h⟩
  .cases h
 .cases h
def Ic(l:List (OL D))(r:Option α):Option α:=match l with
 | []=>r
 |_::_=>none
theorem Amu{r:Option α}{x:α}(h:Ic l r=some x):l=[]/\r=some x:=by
 cases l with
 |nil=>exact⟨rfl,h⟩
 |cons=>cases h
end
end
section
section
variable {Y:Go.Y.Sys}
structure An(Y:Sys) where
 lp:List (Nat×LA):=[]
 jn:List (Nat×LA):=[]
 pr:List (Nat×Nat):=[]
 im:List Nat:=[]
 wr:List Nat:=[]
 oc:List Nat:=[]
 tk:List Nat:=[]
 hd:List (Nat×List Nat):=[]
 tw:List Nat:=[]
 il:(q:FuncId)->Option (T2 Y q):=λ_=>none
def fnX(sigs:FuncId->Option Bi)(NG:TypeId->Option (List Ty×List Ty))(pf:(q:FuncId)->Option (PF Y q))(F:Func)(σ:Bi)(n:An Y)(a:Jg Y σ.args)(H:HH Y)(Q:L0 Y σ.res->No Y σ.args->HH Y->Prop)(X:Tz Y):Prop:=match F.body with
 |some c=>EZ (aq σ.args.length F.ntmps) (Tw {N:=F.ntmps,NG:=NG,sigs:=sigs,pf:=pf,X:=X,lp:=n.lp,jn:=n.jn,pr:=n.pr,im:=n.im,wr:=n.wr,oc:=n.oc,tk:=n.tk,hd:=n.hd,tw:=n.tw,il:=n.il} c (ini σ.args a H) {nx:=rtX F.results.toList σ Q,ex:=[],rt:=rtX F.results.toList σ Q})
 |none=>False
theorem U2{sigs:FuncId->Option Bi}{NG:TypeId->Option (List Ty×List Ty)}{pf:(q:FuncId)->Option (PF Y q)}{q:FuncId}{F:Func}{σ:Bi}{n:An Y}{a:Jg Y σ.args}{H:HH Y}{Q:L0 Y σ.res->No Y σ.args->HH Y->Prop}{X:Tz Y}(d:Y.P.funcs[q]?=some F)(h:fnX sigs NG pf F σ n a H Q X):Wp Y q σ a H Q X:=by
 unfold fnX at h;split at h
 .rename_i c e;obtain⟨b,f⟩:=AG h;exact Ah0 (E:={N:=F.ntmps,NG:=NG,sigs:=sigs,pf:=pf,X:=X,lp:=n.lp,jn:=n.jn,pr:=n.pr,im:=n.im,wr:=n.wr,oc:=n.oc,tk:=n.tk,hd:=n.hd,tw:=n.tw,il:=n.il}) d e rfl b f
 .exact h.elim
def fnS(sigs:FuncId->Option Bi)(NG:TypeId->Option (List Ty×List Ty))(pf:(q:FuncId)->Option (PF Y q))(F:Func)(σ:Bi)(n:An Y)(a:Jg Y σ.args)(H:HH Y)(Q:L0 Y σ.res->No Y σ.args->HH Y->Prop)(X:Tz Y):Prop:=match F.body with
 |some c=>EZ (aq σ.args.length F.ntmps) (Acl {N:=F.ntmps,NG:=NG,sigs:=sigs,pf:=pf,X:=X,lp:=n.lp,jn:=n.jn,pr:=n.pr,im:=n.im,wr:=n.wr,oc:=n.oc,tk:=n.tk,hd:=n.hd,tw:=n.tw,il:=n.il} c (rtX F.results.toList σ Q) (rtX F.results.toList σ Q) (ini σ.args a H))
 |none=>False
theorem Ahz{sigs:FuncId->Option Bi}{NG:TypeId->Option (List Ty×List Ty)}{pf:(q:FuncId)->Option (PF Y q)}{q:FuncId}{F:Func}{σ:Bi}{n:An Y}{a:Jg Y σ.args}{H:HH Y}{Q:L0 Y σ.res->No Y σ.args->HH Y->Prop}{X:Tz Y}(d:Y.P.funcs[q]?=some F)(h:fnS sigs NG pf F σ n a H Q X):Wp Y q σ a H Q X:=by
 unfold fnS at h;split at h
 .rename_i c e;obtain⟨b,f⟩:=AG h;exact Ac9 (E:={N:=F.ntmps,NG:=NG,sigs:=sigs,pf:=pf,X:=X,lp:=n.lp,jn:=n.jn,pr:=n.pr,im:=n.im,wr:=n.wr,oc:=n.oc,tk:=n.tk,hd:=n.hd,tw:=n.tw,il:=n.il}) d e rfl b f
 .exact h.elim
theorem J6.A2u{P:Program}{t:TypeId}{κ:Type}{r1 r2:AP κ}{dq:DecidableEq κ}(h:∀I w v k,@AP.rep κ r2 I w v k->@AP.rep κ r1 I w v k)(f:@J6 P t κ r1 dq):@J6 P t κ r2 dq:=@J6.mk P t κ r2 dq (λI w v k l i c d g=>@J6.find P t κ r1 dq f I w v k l i (h _ _ _ _ c) d λj a b=>h _ _ _ _ (g j a b)) (λI w v k e c=>@J6.check P t κ r1 dq f I w v k e (h _ _ _ _ c)) (λI w v u k c d=>@J6.same P t κ r1 dq f I w v u k (h _ _ _ _ c) (h _ _ _ _ d))
def kmI(P:Program)(t:TypeId)(k:Ty):Bool:=match k,P.underlying t with
 | .int .i64,some (.int .i64)=>true
 |_,_=>false
theorem Aw3{S:US}{P:Program}{dq:(n:Nat)->DecidableEq (S.D n)}{t:TypeId}{k:Ty}(h:kmI P t k=true):@J6 P t (den S.D k) (RT S k) (FJ S dq k):=by
 unfold kmI at h;split at h
 .rename_i b;refine J6.A2u (r1:=inferInstanceAs (AP Int)) (λI w v n a=>?_) (J6.int b);have a:=AT.1 a;have d:IntKind.i64.min=-9223372036854775808:=by decide
  have e:IntKind.i64.max=9223372036854775807:=by decide
  have c:=a.2;unfold Bn at c;exact⟨a.1,by omega,by omega⟩
 .cases h
end
end
end Go.Y
end
namespace Go.Y
open Go Go.RowKit Go.X
section
section
variable {Y:Sys}
def pop(E:Env Y)(o:Op)(c:Cf Y)(K:AV Y->Cf Y->Prop):Prop:=match pfC E o with
 |some r=>pcX c r K
 |none=>vop (prz c o) o K
def Aih(E:Env Y)(ops:Array Oper):List Oper->Cf Y->(Cf Y->Prop)->Prop
 | [],c,k=>k c
 |o::os,c,k=>grd ops o c λt c=>match t with
  |true=>pop E o.op c λa c'=>c'.put E.N o.dst a λc''=>Aih E ops os c'' k
  |false=>c.put E.N o.dst (.val undef) λc''=>Aih E ops os c'' k
theorem YP{E:Env Y}{g0:B4}{T:Bd}{ops:Array Oper}{R:List PanicEntry->World->Prop}{w:World}{K:Fr->World->Prop}{k:Cf Y->Prop}:∀(os:List Oper){g:B4}{AH A:Bd}{c:Cf Y}{f:Fr},g.w=w->RG g0 T c f g AH A->Aih E ops os c k->(∀c' f' g' AH' A',g'.w=w->RG g0 T c' f' g' AH' A'->k c'->K f' w)->WL Y.P E.N ops R false K os f w
 | [],g,AH,A,c,f,s,h,d,b=>b c f g AH A s h d
 |o::os,g,AH,A,c,f,i,h,d,b=>by
  unfold Aih at d;obtain⟨t,c1,d,B,s⟩:=Zp h d;split at d
  .have j:∀{v:Value}{a:AV Y}{c':Cf Y}{g':B4}{A':Bd},(c'.put E.N o.dst a λx=>Aih E ops os x k)->g'.w=w->RG g0 T c' f g' AH A'->AR g' a v->WL Y.P E.N ops R false K os (Go.X.put E.N f o.dst v) w:=λ{v a c' g' A'}O C y N=>by obtain⟨U,G,l,m,u,q,p⟩:=y.put N O;exact YP os (m.trans C) p l b
   obtain⟨D,L,ty,z,M,J⟩:=o;simp only at d;unfold pop at d;simp only[WL,s,if_true];split at d
   .rename_i r y;obtain⟨v,a,c',g',l,m,u,q,p,P⟩:=Adw B d;obtain⟨Q,F⟩:=Adv y;subst F;rw[SP r.2.1.can];refine⟨rfl,Calls.mono (P w (i▸Sx.refl g)) λe Z F=>?_⟩;grind
   .obtain⟨G,X,n,V,H⟩:=Alz B L;obtain⟨v,a,c',g3,l,S,m2,m,u,q⟩:=Adb (ty:=ty) H d;have I:=q G.w (Sx.refl _);rw[n,i]at I;rw[I D z M J];exact j l (S.trans (n.trans i)) m u
  .obtain⟨U,G,l,m,u,q,p⟩:=B.put (a:=.val undef) (v:=undef) rfl d;simp only[WL,s,ae,if_false];exact YP os (m.trans i) p l b
def pex(E:Env Y):Code->Cf Y->Ks Y->Prop
 |.skip,c,ks|.label _,c,ks=>ks.nx c
 | .seq a b,c,ks=>pex E a c {ks with nx:=λc'=>pex E b c' ks}
 | .region _ ops d,c,ks=>match d with
  |false=>Aih E ops ops.toList c ks.nx
  |true=>False
 | .cond x a b,c,ks=>match (En c x).bind asB with
  |some (.kn true)=>pex E a c ks
  |some (.kn false)=>pex E b c ks
  |some (.pr p _)=>(p->pex E a c ks)/\(¬p->pex E b c ks)
  |none=>False
 | .block id b,c,ks=>pex E b c {ks with ex:=(id,ks.nx)::ks.ex}
 | .exit id,c,ks=>match Zk ks.ex id with
  |some q=>q c
  |none=>False
 | .ret,c,ks=>ks.rt c
 |_,_,_=>False
structure KsP(Y:Sys)(fn:FK)(N:Nat)(g0:B4)(T:Bd)(R:Qp->World->Prop)(w:World)(ks:Ks Y)(k:List Item):Prop where
 nx:∀c f g AH A,g.w=w->RG g0 T c f g AH A->ks.nx c->WT Y.P fn N k R f w
 ex:∀id q,Zk ks.ex id=some q->∃k',exitTo id k=some k'/\∀c f g AH A,g.w=w->RG g0 T c f g AH A->q c->WT Y.P fn N k' R f w
 rt:∀c f g AH A k',g.w=w->RG g0 T c f g AH A->ks.rt c->WT Y.P fn N (.code .ret::k') R f w
theorem Of{E:Env Y}{fn:FK}{g0:B4}{T:Bd}{R:Qp->World->Prop}{w:World}:∀(code:Code){ks:Ks Y}{k:List Item}{c:Cf Y}{f:Fr}{g:B4}{AH A:Bd},KsP Y fn E.N g0 T R w ks k->g.w=w->RG g0 T c f g AH A->pex E code c ks->WT Y.P fn E.N (.code code::k) R f w
 | .skip,ks,k,c,f,g,AH,A,i,j,h,e=>QS (i.nx c f g AH A j h e)
 | .label _,ks,k,c,f,g,AH,A,i,j,h,e=>ZK (i.nx c f g AH A j h e)
 | .seq a b,ks,k,c,f,g,AH,A,i,j,h,e=>by refine Dz (Of a (ks:={ks with nx:=λv=>pex E b v ks}) ⟨λv I G r D n y l=>Of b i n y l,λu q o=>?_,i.rt⟩ j h e);obtain⟨F,z,B⟩:=i.ex u q o;exact⟨F,z,B⟩
 | .region u L d,ks,k,c,f,g,AH,A,i,j,h,e=>by
  cases d with
  |false=>exact CJ (YP _ j h e λv I G r D n y l=>i.nx v I G r D n y l)
  |true=>exact e.elim
 | .cond x a b,ks,k,c,f,g,AH,A,i,j,h,e=>by
  simp only[pex]at e;have J:∀{p:BV},(En c x).bind asB=some p->ev f x=.bool p.val:=λ{p}s=>by
   cases K:En c x with
   |none=>grind
   |some a=>rw[K]at s;exact Nl s (h.ev K)
  split at e
  .rename_i m;exact QR (J m) (Of a i j h e)
  .rename_i m;exact NH (J m) (Of b i j h e)
  .rename_i p d m;exact @ZL _ _ _ _ _ _ _ _ _ _ p d (J m) (λs=>Of a i j h (e.1 s)) (λs=>Of b i j h (e.2 s))
  grind
 | .block u b,ks,k,c,f,g,AH,A,i,j,h,e=>by
  refine KU (Of b (ks:={ks with ex:=(u,ks.nx)::ks.ex}) ⟨λv I G r D n y l=>KT (i.nx v I G r D n y l),λC q o=>?_,i.rt⟩ j h e);simp only[Zk]at o;by_cases H:u=C
  .rw[UV H]at o;cases o;subst H;exact⟨k,by simp [exitTo],i.nx⟩
  .rw[GT H]at o;obtain⟨F,z,B⟩:=i.ex C q o;grind[exitTo]
 | .exit u,ks,k,c,f,g,AH,A,i,j,h,e=>by
  simp only[pex]at e;split at e
  .rename_i q o;obtain⟨F,z,B⟩:=i.ex u q o;grind[Ui]
  grind
 | .ret,ks,k,c,f,g,AH,A,i,j,h,e=>i.rt c f g AH A k j h e
 |.loop _,_,_,_,_,_,_,_,_,_,_,e|.rangeFunc _ _ _ _,_,_,_,_,_,_,_,_,_,_,e|.scope _,_,_,_,_,_,_,_,_,_,_,e|.goto _,_,_,_,_,_,_,_,_,_,_,e|.refuse _,_,_,_,_,_,_,_,_,_,_,e=>e.elim
def Anl:List (AV Y)->Nat->List (Nat×AV Y)
 | [],_=>[]
 |a::l,i=>(i,a)::Anl l (i+1)
theorem Agp{g:B4}{f:Fr}:∀{l:List (AV Y)}{vs:List Value}{i:Nat},F2 (AR g) l vs->(∀j v,vs[j]?=some v->f (i+j)=v)->∀j a,HF (Anl l i) j=some a->AR g a (f j)
 | [],_,i,_,_=>by grind[Anl,HF]
 |a::l,v::vs,i,.cons c k,d=>RI (Q:=λj b=>AR g b (f j)) (by show AR g a (f i);rw[<-d 0 v rfl]at c;exact c) (Agp k λj u e=>by have:=d (j+1) u (by grind);rwa [ay,b4 1 j])
def rtP(res:List ResultVar)(rs:List Ty)(F:I5 Y rs)(c:Cf Y):Prop:=PQ c res λaE=>match mkT rs aE with
 |some x=>x=F
 |none=>False
def pfP(pf:(q:FuncId)->Option (PF Y q))(fn:Func)(aE rs:List Ty)(a:I5 Y aE)(F:I5 Y rs):Prop:=match fn.body with
 |some c=>EZ (aq aE.length fn.ntmps) (pex {N:=fn.ntmps,NG:=λ_=>none,sigs:=λ_=>none,pf:=pf,X:=λ_ _ _=>False,lp:=[],jn:=[],pr:=[],im:=[]} c {fr:=Anl (PB aE a) 0,sg:=[],nx:=0,H:=λ_=>none,op:=none,hs:=[],pt:=[]} {nx:=rtP fn.results.toList rs F,ex:=[],rt:=rtP fn.results.toList rs F})
 |none=>False
theorem Afh:∀{ts:List Ty}{x:I5 Y ts},(vlT ts x).length=ts.length
 | [],_=>rfl
 |_::_,_=>by simp [vlT,Afh]
theorem Ld{pf:(q:FuncId)->Option (PF Y q)}{q:FuncId}{fn:Func}{aE rs:List Ty}(V:Y.P.funcs[q]?=some fn)(O:plT aE=true)(pr:plT rs=true){a:I5 Y aE}{F:I5 Y rs}(y:rgT aE a)(h:pfP pf fn aE rs a F)(I:Cc)(w:World)(J:Gw Y I w):Calls Y.P q ⟨vlT aE a⟩ w λe w'=>e=.returned (KI (vlT rs F))/\w'=w/\rgT rs F:=by
 unfold pfP at h;split at h
 .rename_i r W;obtain⟨Q,h⟩:=AG h;refine Ix (N:=fn.ntmps) V W rfl (by simp_all[Afh]) ?_;let g:B4:={I:=I,w:=w,n:=0,μ:=λ_=>undef,φ:=Wo (vlT aE a)}
  have S:F2 (AR g) (PB aE a) (vlT aE a):=Pa ((SK O).2 ⟨rfl,y⟩);have B:RG g [] {fr:=Anl (PB aE a) 0,sg:=[],nx:=0,H:=λ_=>none,op:=none,hs:=[],pt:=[]} (Wo (vlT aE a)) g [] []:=
   ⟨rfl,Ext.refl _ _,⟨J.1,λp L=>by grind,by simp⟩,⟨⟨[],λb=>rfl,rfl,J.2⟩⟩,rfl,λx m=>(by cases m),λt Z=>rfl,Agp S λj v P=>by rw[ak,<-L8,P];rfl⟩
  have u:∀(c:Cf Y)(f:Fr)(l:B4)(d o:Bd),l.w=w->RG g [] c f l d o->rtP fn.results.toList rs F c->(∀i,Is fn.ntmps i f->(results fn i).run Y.P w=.ok (KI (vlT rs F)) w)/\rgT rs F:=λc f l d o z D m=>by
   obtain⟨T,us,C,M,K⟩:=NZ (N:=fn.ntmps) D m;split at C
   .rename_i x G;subst C;obtain⟨s,A⟩:=(SK pr).1 (Zb G M);simp_all[Gv]
   grind
  refine Of (E:={N:=fn.ntmps,NG:=λ_=>none,sigs:=λ_=>none,pf:=pf,X:=λ_ _ _=>False,lp:=[],jn:=[],pr:=[],im:=[]}) r (k:=[]) ⟨λc f l d o z y m=>?_,λid q R=>by grind[Zk],λc f l d o k' z y m=>?_⟩ rfl B h
  .obtain⟨s,A⟩:=u c f l d o z y m;exact S9 ⟨_,s,rfl,rfl,A⟩
  .obtain⟨s,A⟩:=u c f l d o z y m;exact MF ⟨_,s,rfl,rfl,A⟩
 grind
end
end
end Go.Y
section
namespace Go.Y
open Go Go.RowKit Go.X
section
def dup(p:Prop):Prop:=p/\p
theorem Sf{p:Prop}(h:p):dup p:=⟨h,h⟩
section
variable {P:Program} {t e:TypeId} {w:World}
theorem Xt(a:P.underlying e=some (.int .i64))(x y:Int):(part e #[.int .i64 x,.int .i64 y] (0*1)).run P w=.ok (.int .i64 x) w/\(part e #[.int .i64 x,.int .i64 y] (1*1)).run P w=.ok (.int .i64 y) w:=by constructor<;>simp [part,isAgg,run_underlying a]
theorem T8{a b c d:Int}(i:P.underlying t=some (.array 2 e))(f:P.underlying e=some (.int .i64))(hs:(sizeOf e).run P w=.ok 1 w):(Op.equal t (.agg ⟨[.int .i64 a,.int .i64 b]⟩) (.agg ⟨[.int .i64 c,.int .i64 d]⟩)).run P w=.ok (a==c&&b==d) w:=by
 have g:=@Xt P e w f;have k:∀n(x y:Int),(Op.equalIn (n+1) e (.int .i64 x) (.int .i64 y)).run P w=.ok (x == y) w:=λn x y=>by simp [Op.equalIn,run_underlying f]
 simp only[Op.equal,Op.maxDepth];unfold Op.equalIn;simp only[Sem.run_bind,run_underlying i,Result.andThen_ok,hs];simp [Std.Legacy.Range.forIn_eq_forIn_range',b7,g,k];by_cases j:a=c<;>by_cases h:b=d<;>simp [j,h]
theorem Aah{a b:Int}{em:Bool}(f:P.underlying t=some (.array 2 e))(c:P.underlying e=some (.int .i64))(hs:(sizeOf e).run P w=.ok 1 w):(Instr.checkKey em 10000 t (.agg ⟨[.int .i64 a,.int .i64 b]⟩)).run P w=.ok () w:=by
 have d:=@Xt P e w c;have g:∀n(x:Int),(Instr.checkKey em (n+1) e (.int .i64 x)).run P w=.ok () w:=λn x=>by simp [Instr.checkKey,run_underlying c]
 unfold Instr.checkKey;simp_all[Sem.run_bind,run_underlying,Result.andThen_ok,Std.Legacy.Range.forIn_eq_forIn_range',b7]
theorem J6.two{κ:Type}[r:AP κ][DecidableEq κ]{p q:κ->Int}(f:∀I w v k,rep I w v k->v=.agg ⟨[.int .i64 (p k),.int .i64 (q k)]⟩)(hi:∀k l,p k=p l->q k=q l->k=l)(A:P.underlying t=some (.array 2 e))(E:P.underlying e=some (.int .i64))(hs:∀w,(sizeOf e).run P w=.ok 1 w):J6 P t κ where
 find I w v k b a g F m:=by
  obtain rfl:=f _ _ _ _ g;have y:∀(b:List MapEntry)(a:List κ)(n:Nat),b.length=a.length->(∀j(h:j<b.length)(z:j<a.length),b[j].key=.agg ⟨[.int .i64 (p a[j]),.int .i64 (q a[j])]⟩)->
    (Instr.findAsking t (.agg ⟨[.int .i64 (p k),.int .i64 (q k)]⟩) b n).run P w=.ok ((a.findIdx? (·==k)).bind λi=>(b[i]?).map λe=>(n+i,e.val)) w:=by
   intro b
   induction b with
   |nil=>intro a n h _;cases a with
    |nil=>rfl
    |cons=>simp at h
   |cons B b H=>
    intro a n h m;cases a with
    |nil=>simp at h
    |cons s a=>
     have D:=m 0 (by simp) (by simp);simp only[List.getElem_cons_zero]at D;have c:=H a (n+1) (by simpa using h) λj K o=>by have:=m (j+1) (by simp;omega) (by simp;omega);grind
     unfold Instr.findAsking;simp only[Sem.run_bind,D,T8 A E (hs w),Result.andThen_ok];by_cases d:s=k
     .subst d;simp [ao]
     .have:(p k==p s&&q k==q s)=false:=by grind
      simp only[this,ae,if_false,c];have G:(s == k)=false:=by grind
      rw[ao,G];simp only[ae,if_false];cases List.findIdx? (λx=>x == k) a with
      |none=>rfl
      |some i=>grind
  have C:∀j(h:j<b.length)(z:j<a.length),b[j].key=.agg ⟨[.int .i64 (p a[j]),.int .i64 (q a[j])]⟩:=λj h z=>f _ _ _ _ (m j h z);simp only[Instr.findKey,Sem.run_bind,run_underlying A,Result.andThen_ok];cases b with
  |nil=>simp[Instr.findNow]
  |cons B b=>
   have:Instr.findNow (.array 2 e) (.agg ⟨[.int .i64 (p k),.int .i64 (q k)]⟩) (B::b) 0=none:=by rfl
   grind
 check I w v k L g:=by obtain rfl:=f _ _ _ _ g;grind[Aah]
 same I w v u k g J:=by obtain rfl:=f _ _ _ _ g;obtain rfl:=f _ _ _ _ J;simp [Instr.sameBits]
def arB(P:Program)(t:TypeId):Bool:=match P.underlying t with
 |some (.array 2 e)=>match P.underlying e,P.info? e with
  |some (.int .i64),some i=>aj i.size 1
  |_,_=>false
 |_=>false
theorem Ao4(h:arB P t=true):∃e,P.underlying t=some (.array 2 e)/\P.underlying e=some (.int .i64)/\∀w,(sizeOf e).run P w=.ok 1 w:=by grind[arB,al,run_sizeOf,Program.cellsOf]
theorem Agl{S:US}{dq:(n:Nat)->DecidableEq (S.D n)}{n:Nat}{p q:S.D n->Int}(j:∀x,S.flat n x=[⟨.int .i64,p x⟩,⟨.int .i64,q x⟩])(hi:∀x y,p x=p y->q x=q y->x=y)(h:arB P t=true):@J6 P t (den S.D (.u n)) (RT S (.u n)) (FJ S dq (.u n)):=by
 obtain⟨e,g,m,f⟩:=Ao4 h;refine @J6.two P t e _ (RT S (.u n)) (FJ S dq (.u n)) p q (λI w v k d=>?_) hi g m f;obtain⟨o,rfl,a⟩:=GM.1 d;rw[j]at a;cases a with
 |cons b l=>cases l with
  |cons c i=>
   cases i;obtain⟨rfl,_⟩:=AT.1 b;obtain⟨rfl,_⟩:=AT.1 c;rfl
end
end
section
section
variable {P:Program} {t e:TypeId} {w:World}
theorem Aid(a:P.underlying e=some (.int .i64))(x y z:Int):(part e #[.int .i64 x,.int .i64 y,.int .i64 z] (0*1)).run P w=.ok (.int .i64 x) w/\(part e #[.int .i64 x,.int .i64 y,.int .i64 z] (1*1)).run P w=.ok (.int .i64 y) w/\(part e #[.int .i64 x,.int .i64 y,.int .i64 z] (2*1)).run P w=.ok (.int .i64 z) w:=by refine⟨?_,?_,?_⟩<;>simp [part,isAgg,run_underlying a]
variable {a b a' b':Int}
theorem Aag{c c':Int}(d:Nat)(i:P.underlying t=some (.array 3 e))(f:P.underlying e=some (.int .i64))(hs:(sizeOf e).run P w=.ok 1 w):(Op.equalIn (d+2) t (.agg ⟨[.int .i64 a,.int .i64 b,.int .i64 c]⟩) (.agg ⟨[.int .i64 a',.int .i64 b',.int .i64 c']⟩)).run P w=.ok (a==a'&&(b==b'&&c==c')) w:=by
 have g:=@Aid P e w f;have l:∀n(x y:Int),(Op.equalIn (n+1) e (.int .i64 x) (.int .i64 y)).run P w=.ok (x == y) w:=λn x y=>by simp [Op.equalIn,run_underlying f]
 unfold Op.equalIn;simp only[Sem.run_bind,run_underlying i,Result.andThen_ok,hs];simp [Std.Legacy.Range.forIn_eq_forIn_range',b7,g,l];by_cases k:a=a'<;>by_cases h:b=b'<;>by_cases j:c=c'<;>simp [k,h,j]
def ksB(P:Program)(t:TypeId):Bool:=!(P.eqGuardType P.depth t)&&!(P.stoodInHeld t)&&(match P.underlying t with
 |some (.struct ⟨[f,g]⟩)=>aj f.offset 0&&aj g.offset 1&&!(f.name== "_")&&!(g.name== "_")&&FX P f.type (Aog .i64)&&(match P.info? g.type with
  |some i=>aj i.size 3
  |none=>false)&&(match P.underlying g.type with
  |some (.array 3 e)=>FX P e (Aog .i64)&&(match P.info? e with
   |some i=>aj i.size 1
   |none=>false)
  |_=>false)
 |_=>false)
theorem Xs{n:Nat}(h:(match P.info? e with|some i=>aj i.size n|none=>false)=true):(sizeOf e).run P w=.ok n w:=by grind[run_sizeOf,Program.cellsOf,al]
theorem Ane(h:ksB P t=true){o c o' c':Int}:P.eqGuardType P.depth t=false/\(Op.equal t (.agg ⟨[.int .i64 o,.int .i64 a,.int .i64 b,.int .i64 c]⟩) (.agg ⟨[.int .i64 o',.int .i64 a',.int .i64 b',.int .i64 c']⟩)).run P w=.ok (o==o'&&(a==a'&&(b==b'&&c==c'))) w:=by
 unfold ksB at h;simp only[a7,ac]at h;obtain⟨⟨D,F⟩,h⟩:=h;refine⟨D,?_⟩;split at h
 .rename_i f g H;simp only[a7,b3,ac,beq_eq_false_iff_ne]at h;obtain⟨⟨⟨⟨⟨⟨q,l⟩,m⟩,s⟩,p⟩,u⟩,d⟩:=h;split at d
  .rename_i e i;simp only[a7]at d;have B:=U9 d.1;have k:(sizeOf e).run P w=.ok 1 w:=Xs d.2;have r:(sizeOf g.type).run P w=.ok 3 w:=Xs u;have j:=U9 p;have v:∀o a b c:Int,(part f.type #[.int .i64 o,.int .i64 a,.int .i64 b,.int .i64 c] 0).run P w=.ok (.int .i64 o) w:=λo a b c=>by simp [part,isAgg,run_underlying j]
   have G:∀o a b c:Int,(part g.type #[.int .i64 o,.int .i64 a,.int .i64 b,.int .i64 c] 1).run P w=.ok (.agg ⟨[.int .i64 a,.int .i64 b,.int .i64 c]⟩) w:=λo a b c=>by simp_all[part,isAgg,run_underlying]
   have z:∀n(x y:Int),(Op.equalIn (n+1) f.type (.int .i64 x) (.int .i64 y)).run P w=.ok (x == y) w:=λn x y=>by simp [Op.equalIn,run_underlying j]
   simp only[Op.equal,Op.maxDepth];unfold Op.equalIn;simp only[Sem.run_bind,run_underlying H,Result.andThen_ok];simp [run_program,F,q,l,m,s,v,G,z 9998,Aag 9997 i B k];by_cases E:o=o'<;>by_cases I:a=a'<;>by_cases C:b=b'<;>by_cases A:c=c'<;>simp [E,I,C,A]
  grind
 grind
theorem Z9(h:(arB P t&&!(P.eqGuardType P.depth t))=true):P.eqGuardType P.depth t=false/\(Op.equal t (.agg ⟨[.int .i64 a,.int .i64 b]⟩) (.agg ⟨[.int .i64 a',.int .i64 b']⟩)).run P w=.ok (a == a'&&b == b') w:=by simp only[a7,ac]at h;grind[Ao4,T8]
end
end
section
theorem Ao0(a b:ByteArray):(a==b)=decide (a=b):=by
 cases a with
 |mk a=>cases b with
  |mk b=>
   have:(bc a==bc b)=(a==b):=rfl;grind
theorem TG{k:ByteArray}:∀(a:List MapEntry)(ks:List ByteArray)(n:Nat),a.length=ks.length->(∀j(h:j<a.length)(o:j<ks.length),a[j].key=.string ks[j])->Instr.findNow .string (.string k) a n=some ((ks.findIdx? λx=>decide (x=k)).bind λi=>(a[i]?).map λe=>(n+i,e.val))
 | [],[],n,_,_=>rfl
 |[],_::_,_,h,_|_::_,[],_,h,_=>by grind
 |e::a,x::ks,n,h,d=>by
  have f:e.key=.string x:=d 0 (by simp) (by simp);have g:=TG (k:=k) a ks (n+1) (by grind) (λj m l=>d (j+1) (by grind) (by grind));simp only[Instr.findNow,f,Instr.sameNow,Ao0];by_cases b:k=x
  .grind
  .have c:¬x=k:=λh=>b h.symm;rw[decide_eq_false b];simp only[g,ao,decide_eq_false c,ae,if_false];cases ks.findIdx? (λx=>decide (x=k)) with
   |none=>simp
   |some i=>grind
theorem J6.A29{P:Program}{t:TypeId}{r:AP ByteArray}{dq:DecidableEq ByteArray}(a:∀I w v k,@AP.rep ByteArray r I w v k->v=.string k)(c:P.underlying t=some .string):@J6 P t ByteArray r dq:=
 @J6.mk P t ByteArray r dq (λI w v k d f b i g=>by obtain rfl:=a _ _ _ _ b;have:=TG (k:=k) d f 0 i (λj h l=>a _ _ _ _ (g j h l));simp only[ak]at this;simp only[Instr.findKey,Sem.run_bind,run_underlying c,Result.andThen_ok,this,Sem.run_pure];grind)
 (λI w v k e b=>by
  obtain rfl:=a _ _ _ _ b;have:∀n,(Instr.checkKey e (n+1) t (.string k)).run P w=.ok () w:=λn=>by simp [Instr.checkKey,run_underlying c]
  grind)
 (λI w v u k b m=>by obtain rfl:=a _ _ _ _ b;obtain rfl:=a _ _ _ _ m;simp [Instr.sameBits,Ao0])
theorem J6.A28{S:US}{P:Program}{dq:(n:Nat)->DecidableEq (S.D n)}{t:TypeId}(a:P.underlying t=some .string):@J6 P t (den S.D .str) (RT S .str) (FJ S dq .str):=J6.A29 (λ_ _ _ _ h=>(LX.1 h).1) a
def kmS(P:Program)(t:TypeId)(k:Ty):Bool:=match k,P.underlying t with
 | .str,some .string=>true
 |_,_=>false
theorem Aw2{S:US}{P:Program}{dq:(n:Nat)->DecidableEq (S.D n)}{t:TypeId}{k:Ty}(h:kmS P t k=true):@J6 P t (den S.D k) (RT S k) (FJ S dq k):=by
 unfold kmS at h;split at h
 .rename_i a;exact J6.A28 a
 grind
end
end Go.Y
end
namespace Go.Proofs.YtcbkbpjlbmalmaaGreatDoor
open Go Go.X Go.Y
structure Ar where
 qJ:ByteArray
 Bool:Bool
 Lo:Int
 Hi:Int
deriving DecidableEq
structure BA where
 Eg:Int
 Kind:Int
 Level:Int
deriving DecidableEq
structure BH where
 Aa:(List Ar)
 Order:(List Int)
 ED:(List BA)
deriving DecidableEq
structure Ae where
 Op:Int
 N:Int
 qJ:ByteArray
 qZ:(List Ae)
structure Ac where
 Aa:(List Ar)
 Bits:(List Int)
 At:(List Int)
deriving DecidableEq
structure Af where
 Bool:Bool
 Lo:Int
 Hi:Int
deriving DecidableEq
structure Sy where
 qJ:ByteArray
 E:Ae
structure OV where
 Op:Int
 E:Ae
 qZ:(List OV)
structure Sw where
 qJ:ByteArray
 F:OV
structure Im where
 Aa:(List Ar)
 Defs:(List Sy)
 Init:(List Ae)
 Acu:(List Ae)
 Next:(List Sy)
 Trans:(List Ae)
 Fair:(List Ae)
 Acm:(List Sw)
structure BU where
 N:Int
 H:Int
deriving DecidableEq
structure BI where
 Var:Int
 Ss:Bool
deriving DecidableEq
structure Wj where
 a0:Int
 a1:Int
deriving DecidableEq
structure Au where
 ID:Int
 Var:Int
 Lo:Int
 Hi:Int
 Refs:Int
deriving DecidableEq
structure Dw where
 m:(Option Nat)
deriving DecidableEq
structure EK where
 err:Int
 event:Bool
 ev:BA
deriving DecidableEq
structure AA where
 n:Au
 ll:Int
 lh:Int
 hl:Int
 hh:Int
deriving DecidableEq
structure Aj where
 a0:Int
 a1:Int
deriving DecidableEq
structure AX where
 a0:Int
 a1:Int
 a2:Int
deriving DecidableEq
structure CZ where
 op:Int
 Cj:AX
deriving DecidableEq
structure Bm where
 key:CZ
 r:Int
 full:Bool
deriving DecidableEq
@[reducible] def uD:Nat->Type
 |0=>Ar
 |1=>BA
 |2=>BH
 |3=>Ae
 |4=>Ac
 |5=>Af
 |6=>Sy
 |7=>OV
 |8=>Sw
 |9=>Im
 |10=>BU
 |11=>BI
 |12=>Wj
 |13=>Au
 |14=>Dw
 |15=>EK
 |16=>AA
 |17=>Aj
 |18=>AX
 |19=>CZ
 |20=>Bm
 |_=>Bool
def Ah2:Nat->List Ty
 |0=>[.str,.bool,I6,I6]
 |1=>[I6,I6,I6]
 |2=>[(.sl (.u 0)),(.sl I6),(.sl (.u 1))]
 |3=>[I6,I6,.str,(.sl (.u 3))]
 |4=>[(.sl (.u 0)),(.sl I6),(.sl I6)]
 |5=>[.bool,I6,I6]
 |6=>[.str,I6,I6,.str,(.sl (.u 3))]
 |7=>[I6,I6,I6,.str,(.sl (.u 3)),(.sl (.u 7))]
 |8=>[.str,I6,I6,I6,.str,(.sl (.u 3)),(.sl (.u 7))]
 |9=>[(.sl (.u 0)),(.sl (.u 6)),(.sl (.u 3)),(.sl (.u 3)),(.sl (.u 6)),(.sl (.u 3)),(.sl (.u 3)),(.sl (.u 8))]
 |10=>[I6,I6]
 |11=>[I6,.bool]
 |12=>[I6,I6]
 |13=>[I6,I6,I6,I6,I6]
 |14=>[.ptr]
 |15=>[I6,.bool,I6,I6,I6]
 |16=>[I6,I6,I6,I6,I6,I6,I6,I6,I6]
 |17=>[I6,I6]
 |18=>[I6,I6,I6]
 |19=>[I6,I6,I6,I6]
 |20=>[I6,I6,I6,I6,I6,.bool]
 |_=>[.bool]
def Akw:(n:Nat)->uD n->List (Lf uD)
 |0,x=>[⟨.str,x.qJ⟩,⟨.bool,x.Bool⟩,⟨I6,x.Lo⟩,⟨I6,x.Hi⟩]
 |1,x=>[⟨I6,x.Eg⟩,⟨I6,x.Kind⟩,⟨I6,x.Level⟩]
 |2,x=>[⟨(.sl (.u 0)),x.Aa⟩,⟨(.sl I6),x.Order⟩,⟨(.sl (.u 1)),x.ED⟩]
 |3,x=>[⟨I6,x.Op⟩,⟨I6,x.N⟩,⟨.str,x.qJ⟩,⟨(.sl (.u 3)),x.qZ⟩]
 |4,x=>[⟨(.sl (.u 0)),x.Aa⟩,⟨(.sl I6),x.Bits⟩,⟨(.sl I6),x.At⟩]
 |5,x=>[⟨.bool,x.Bool⟩,⟨I6,x.Lo⟩,⟨I6,x.Hi⟩]
 |6,x=>[⟨.str,x.qJ⟩,⟨I6,x.E.Op⟩,⟨I6,x.E.N⟩,⟨.str,x.E.qJ⟩,⟨(.sl (.u 3)),x.E.qZ⟩]
 |7,x=>[⟨I6,x.Op⟩,⟨I6,x.E.Op⟩,⟨I6,x.E.N⟩,⟨.str,x.E.qJ⟩,⟨(.sl (.u 3)),x.E.qZ⟩,⟨(.sl (.u 7)),x.qZ⟩]
 |8,x=>[⟨.str,x.qJ⟩,⟨I6,x.F.Op⟩,⟨I6,x.F.E.Op⟩,⟨I6,x.F.E.N⟩,⟨.str,x.F.E.qJ⟩,⟨(.sl (.u 3)),x.F.E.qZ⟩,⟨(.sl (.u 7)),x.F.qZ⟩]
 |9,x=>[⟨(.sl (.u 0)),x.Aa⟩,⟨(.sl (.u 6)),x.Defs⟩,⟨(.sl (.u 3)),x.Init⟩,⟨(.sl (.u 3)),x.Acu⟩,⟨(.sl (.u 6)),x.Next⟩,⟨(.sl (.u 3)),x.Trans⟩,⟨(.sl (.u 3)),x.Fair⟩,⟨(.sl (.u 8)),x.Acm⟩]
 |10,x=>[⟨I6,x.N⟩,⟨I6,x.H⟩]
 |11,x=>[⟨I6,x.Var⟩,⟨.bool,x.Ss⟩]
 |12,x=>[⟨I6,x.a0⟩,⟨I6,x.a1⟩]
 |13,x=>[⟨I6,x.ID⟩,⟨I6,x.Var⟩,⟨I6,x.Lo⟩,⟨I6,x.Hi⟩,⟨I6,x.Refs⟩]
 |14,x=>[⟨.ptr,x.m⟩]
 |15,x=>[⟨I6,x.err⟩,⟨.bool,x.event⟩,⟨I6,x.ev.Eg⟩,⟨I6,x.ev.Kind⟩,⟨I6,x.ev.Level⟩]
 |16,x=>[⟨I6,x.n.ID⟩,⟨I6,x.n.Var⟩,⟨I6,x.n.Lo⟩,⟨I6,x.n.Hi⟩,⟨I6,x.n.Refs⟩,⟨I6,x.ll⟩,⟨I6,x.lh⟩,⟨I6,x.hl⟩,⟨I6,x.hh⟩]
 |17,x=>[⟨I6,x.a0⟩,⟨I6,x.a1⟩]
 |18,x=>[⟨I6,x.a0⟩,⟨I6,x.a1⟩,⟨I6,x.a2⟩]
 |19,x=>[⟨I6,x.op⟩,⟨I6,x.Cj.a0⟩,⟨I6,x.Cj.a1⟩,⟨I6,x.Cj.a2⟩]
 |20,x=>[⟨I6,x.key.op⟩,⟨I6,x.key.Cj.a0⟩,⟨I6,x.key.Cj.a1⟩,⟨I6,x.key.Cj.a2⟩,⟨I6,x.r⟩,⟨.bool,x.full⟩]
 |_+21,x=>[⟨.bool,x⟩]
def Aku:(n:Nat)->List (Lf uD)->Option (uD n)
 |0,l0=>tk .str l0 λv0 l1=>tk .bool l1 λv1 l2=>tk I6 l2 λv2 l3=>tk I6 l3 λv3 l4=>nl l4 (some ⟨v0,v1,v2,v3⟩)
 |1,l0=>tk I6 l0 λv0 l1=>tk I6 l1 λv1 l2=>tk I6 l2 λv2 l3=>nl l3 (some ⟨v0,v1,v2⟩)
 |2,l0=>tk (.sl (.u 0)) l0 λv0 l1=>tk (.sl I6) l1 λv1 l2=>tk (.sl (.u 1)) l2 λv2 l3=>nl l3 (some ⟨v0,v1,v2⟩)
 |3,l0=>tk I6 l0 λv0 l1=>tk I6 l1 λv1 l2=>tk .str l2 λv2 l3=>tk (.sl (.u 3)) l3 λv3 l4=>nl l4 (some ⟨v0,v1,v2,v3⟩)
 |4,l0=>tk (.sl (.u 0)) l0 λv0 l1=>tk (.sl I6) l1 λv1 l2=>tk (.sl I6) l2 λv2 l3=>nl l3 (some ⟨v0,v1,v2⟩)
 |5,l0=>tk .bool l0 λv0 l1=>tk I6 l1 λv1 l2=>tk I6 l2 λv2 l3=>nl l3 (some ⟨v0,v1,v2⟩)
 |6,l0=>tk .str l0 λv0 l1=>tk I6 l1 λv1 l2=>tk I6 l2 λv2 l3=>tk .str l3 λv3 l4=>tk (.sl (.u 3)) l4 λv4 l5=>nl l5 (some ⟨v0,⟨v1,v2,v3,v4⟩⟩)
 |7,l0=>tk I6 l0 λv0 l1=>tk I6 l1 λv1 l2=>tk I6 l2 λv2 l3=>tk .str l3 λv3 l4=>tk (.sl (.u 3)) l4 λv4 l5=>tk (.sl (.u 7)) l5 λv5 l6=>nl l6 (some ⟨v0,⟨v1,v2,v3,v4⟩,v5⟩)
 |8,l0=>tk .str l0 λv0 l1=>tk I6 l1 λv1 l2=>tk I6 l2 λv2 l3=>tk I6 l3 λv3 l4=>tk .str l4 λv4 l5=>tk (.sl (.u 3)) l5 λv5 l6=>tk (.sl (.u 7)) l6 λv6 l7=>nl l7 (some ⟨v0,⟨v1,⟨v2,v3,v4,v5⟩,v6⟩⟩)
 |9,l0=>tk (.sl (.u 0)) l0 λv0 l1=>tk (.sl (.u 6)) l1 λv1 l2=>tk (.sl (.u 3)) l2 λv2 l3=>tk (.sl (.u 3)) l3 λv3 l4=>tk (.sl (.u 6)) l4 λv4 l5=>tk (.sl (.u 3)) l5 λv5 l6=>tk (.sl (.u 3)) l6 λv6 l7=>tk (.sl (.u 8)) l7 λv7 l8=>nl l8 (some ⟨v0,v1,v2,v3,v4,v5,v6,v7⟩)
 |10,l0=>tk I6 l0 λv0 l1=>tk I6 l1 λv1 l2=>nl l2 (some ⟨v0,v1⟩)
 |11,l0=>tk I6 l0 λv0 l1=>tk .bool l1 λv1 l2=>nl l2 (some ⟨v0,v1⟩)
 |12,l0=>tk I6 l0 λv0 l1=>tk I6 l1 λv1 l2=>nl l2 (some ⟨v0,v1⟩)
 |13,l0=>tk I6 l0 λv0 l1=>tk I6 l1 λv1 l2=>tk I6 l2 λv2 l3=>tk I6 l3 λv3 l4=>tk I6 l4 λv4 l5=>nl l5 (some ⟨v0,v1,v2,v3,v4⟩)
 |14,l0=>tk .ptr l0 λv0 l1=>nl l1 (some ⟨v0⟩)
 |15,l0=>tk I6 l0 λv0 l1=>tk .bool l1 λv1 l2=>tk I6 l2 λv2 l3=>tk I6 l3 λv3 l4=>tk I6 l4 λv4 l5=>nl l5 (some ⟨v0,v1,⟨v2,v3,v4⟩⟩)
 |16,l0=>tk I6 l0 λv0 l1=>tk I6 l1 λv1 l2=>tk I6 l2 λv2 l3=>tk I6 l3 λv3 l4=>tk I6 l4 λv4 l5=>tk I6 l5 λv5 l6=>tk I6 l6 λv6 l7=>tk I6 l7 λv7 l8=>tk I6 l8 λv8 l9=>nl l9 (some ⟨⟨v0,v1,v2,v3,v4⟩,v5,v6,v7,v8⟩)
 |17,l0=>tk I6 l0 λv0 l1=>tk I6 l1 λv1 l2=>nl l2 (some ⟨v0,v1⟩)
 |18,l0=>tk I6 l0 λv0 l1=>tk I6 l1 λv1 l2=>tk I6 l2 λv2 l3=>nl l3 (some ⟨v0,v1,v2⟩)
 |19,l0=>tk I6 l0 λv0 l1=>tk I6 l1 λv1 l2=>tk I6 l2 λv2 l3=>tk I6 l3 λv3 l4=>nl l4 (some ⟨v0,⟨v1,v2,v3⟩⟩)
 |20,l0=>tk I6 l0 λv0 l1=>tk I6 l1 λv1 l2=>tk I6 l2 λv2 l3=>tk I6 l3 λv3 l4=>tk I6 l4 λv4 l5=>tk .bool l5 λv5 l6=>nl l6 (some ⟨⟨v0,⟨v1,v2,v3⟩⟩,v4,v5⟩)
 |_+21,l0=>tk .bool l0 λv0 l1=>nl l1 (some v0)
theorem Akv:∀n x,(Akw n x).map (·.t)=Ah2 n
 |0,_|1,_|2,_|3,_|4,_|5,_|6,_|7,_|8,_|9,_|10,_|11,_|12,_|13,_|14,_|15,_|16,_|17,_|18,_|19,_|20,_|_+21,_=>rfl
theorem Ap9:∀n l x,Aku n l=some x->Akw n x=l
 |0,l0,x,h0|1,l0,x,h0|2,l0,x,h0|3,l0,x,h0|4,l0,x,h0|5,l0,x,h0|6,l0,x,h0|7,l0,x,h0|8,l0,x,h0|9,l0,x,h0|10,l0,x,h0|11,l0,x,h0|12,l0,x,h0|13,l0,x,h0|14,l0,x,h0|15,l0,x,h0|16,l0,x,h0|17,l0,x,h0|18,l0,x,h0|19,l0,x,h0|20,l0,x,h0|_+21,l0,x,h0=>by simp only[Aku]at h0;(repeat(obtain⟨_,_,e,h1⟩:=Azj h0;clear h0;subst e;have h0:=h1;clear h1));obtain⟨e,h⟩:=A0j h0;subst e;cases h;rfl
theorem Azg:∀n,∀t∈Ah2 n,t.leaf=true
 |0|1|2|3|4|5|6|7|8|9|10|11|12|13|14|15|16|17|18|19|20=>by decide
 |_+21=>by intro t ht;simp [Ah2]at ht;subst ht;rfl
theorem A2z:∀n,0<(Ah2 n).length
 |0|1|2|3|4|5|6|7|8|9|10|11|12|13|14|15|16|17|18|19|20=>by decide
 |_+21=>by simp [Ah2]
def uS:US:={D:=uD,sig:=Ah2,flat:=Akw,Ah1:=Aku,RU:=Akv,QZ:=Ap9,Aab:=Azg,Aft:=A2z}
noncomputable def Ah3:(n:Nat)->DecidableEq (uD n)
 |0=>inferInstanceAs (DecidableEq Ar)
 |1=>inferInstanceAs (DecidableEq BA)
 |2=>inferInstanceAs (DecidableEq BH)
 |3=>λ_ _=>ap _
 |4=>inferInstanceAs (DecidableEq Ac)
 |5=>inferInstanceAs (DecidableEq Af)
 |6|7|8|9=>λ_ _=>ap _
 |10=>inferInstanceAs (DecidableEq BU)
 |11=>inferInstanceAs (DecidableEq BI)
 |12=>inferInstanceAs (DecidableEq Wj)
 |13=>inferInstanceAs (DecidableEq Au)
 |14=>inferInstanceAs (DecidableEq Dw)
 |15=>inferInstanceAs (DecidableEq EK)
 |16=>inferInstanceAs (DecidableEq AA)
 |17=>inferInstanceAs (DecidableEq Aj)
 |18=>inferInstanceAs (DecidableEq AX)
 |19=>inferInstanceAs (DecidableEq CZ)
 |20=>inferInstanceAs (DecidableEq Bm)
 |_+21=>inferInstanceAs (DecidableEq Bool)
structure Bc where
 store:(Option Nat)
 RA:(Option Nat)
 Bs:List (Int×Int)
 EV:Int
 waits:(List BA)
 calls:Int
structure Al where
 m:(Option Nat)
 l:Ac
 live:List (Int×Bool)
 e:Int
structure AN where
 vars:(List Int)
 level:(List Int)
structure Ah where
 levels:(Option Nat)
 DZ:(Option Nat)
 tables:(List (Option Nat))
 counts:(List Int)
 dead:Int
structure B0 where
 size:Int
 entries:Option (List Bm)
 asked:Int
 found:Int
structure Apf where
 m:(Option Nat)
structure A6 where
 room:Int
 at_:(List Au)
 taken:(List Bool)
 free:(List Int)
 many:Int
structure Ay where
 ids:List (Aj×Int)
@[reducible] def oD:Nat->Type
 |0=>Bc
 |1=>Al
 |2=>AN
 |3=>Ah
 |4=>B0
 |5=>Apf
 |6=>A6
 |7=>Ay
 |8=>Int
 |9=>Bool
 |10=>Int
 |11=>ByteArray
 |12|13=>Int
 |14=>(List Ar)
 |15=>(List Int)
 |16=>(List BA)
 |17=>BH
 |18=>(List Ae)
 |19=>Ae
 |20=>(Option Nat)
 |21=>Ac
 |22=>Af
 |23=>Ar
 |24=>(List Bool)
 |25=>(List Sy)
 |26=>(List Sw)
 |27=>Im
 |28=>(List (List Int))
 |29=>(List BU)
 |30=>BU
 |31=>BA
 |32=>(List (Int×Int))
 |33=>(List ByteArray)
 |34=>(List (Int×Bool))
 |35=>(Option Nat)
 |36=>(List BI)
 |37=>BI
 |38=>(List (ByteArray×Int))
 |39=>(List Af)
 |40=>Wj
 |41=>(List (Option Nat))
 |42=>(List Bm)
 |43=>Au
 |44=>Dw
 |45=>EK
 |46=>(List Au)
 |47=>(List (Aj×Int))
 |48=>(List AA)
 |49=>AA
 |50=>Int
 |51=>Aj
 |52=>AX
 |53=>CZ
 |54=>Bm
 |55=>(List (Aj×Bool))
 |56=>(List Aj)
 |57=>Sy
 |58=>(List OV)
 |59=>OV
 |60=>Sw
 |_=>Unit
def A3o:Nat->List RK
 |0=>[.dat .ptr,.dat .ptr,.map I6 I6,.dat I6,.own (.u 1),.dat I6]
 |1=>[.dat .ptr,.dat (.sl (.u 0)),.dat (.sl I6),.dat (.sl I6),.map I6 .bool,.dat I6]
 |2=>[.own I6,.own I6]
 |3=>[.dat .ptr,.dat .ptr,.own .ptr,.own I6,.dat I6]
 |4=>[.dat I6,.ownO (.u 20),.dat I6,.dat I6]
 |5=>[.dat .ptr]
 |6=>[.dat I6,.own (.u 13),.own .bool,.own I6,.dat I6]
 |7=>[.map (.u 17) I6]
 |8=>[.dat I6]
 |9=>[.dat .bool]
 |10=>[.dat (.int .u8)]
 |11=>[.dat .str]
 |12=>[.dat (.int .u64)]
 |13=>[.dat (.int .i32)]
 |14=>[.own (.u 0)]
 |15=>[.own I6]
 |16=>[.own (.u 1)]
 |17=>[.dat (.sl (.u 0)),.dat (.sl I6),.dat (.sl (.u 1))]
 |18=>[.own (.u 3)]
 |19=>[.dat I6,.dat I6,.dat .str,.dat (.sl (.u 3))]
 |20=>[.dat .ptr]
 |21=>[.dat (.sl (.u 0)),.dat (.sl I6),.dat (.sl I6)]
 |22=>[.dat .bool,.dat I6,.dat I6]
 |23=>[.dat .str,.dat .bool,.dat I6,.dat I6]
 |24=>[.own .bool]
 |25=>[.own (.u 6)]
 |26=>[.own (.u 8)]
 |27=>[.dat (.sl (.u 0)),.dat (.sl (.u 6)),.dat (.sl (.u 3)),.dat (.sl (.u 3)),.dat (.sl (.u 6)),.dat (.sl (.u 3)),.dat (.sl (.u 3)),.dat (.sl (.u 8))]
 |28=>[.own (.sl I6)]
 |29=>[.own (.u 10)]
 |30=>[.dat I6,.dat I6]
 |31=>[.dat I6,.dat I6,.dat I6]
 |32=>[.map I6 I6]
 |33=>[.own .str]
 |34=>[.map I6 .bool]
 |35=>[.dat .mref]
 |36=>[.own (.u 11)]
 |37=>[.dat I6,.dat .bool]
 |38=>[.map .str I6]
 |39=>[.own (.u 5)]
 |40=>[.dat I6,.dat I6]
 |41=>[.own .ptr]
 |42=>[.own (.u 20)]
 |43=>[.dat I6,.dat I6,.dat I6,.dat I6,.dat I6]
 |44=>[.dat .ptr]
 |45=>[.dat I6,.dat .bool,.dat I6,.dat I6,.dat I6]
 |46=>[.own (.u 13)]
 |47=>[.map (.u 17) I6]
 |48=>[.own (.u 16)]
 |49=>[.dat I6,.dat I6,.dat I6,.dat I6,.dat I6,.dat I6,.dat I6,.dat I6,.dat I6]
 |50=>[.dat (.int .u32)]
 |51=>[.dat I6,.dat I6]
 |52=>[.dat I6,.dat I6,.dat I6]
 |53=>[.dat I6,.dat I6,.dat I6,.dat I6]
 |54=>[.dat I6,.dat I6,.dat I6,.dat I6,.dat I6,.dat .bool]
 |55=>[.map (.u 17) .bool]
 |56=>[.own (.u 17)]
 |57=>[.dat .str,.dat I6,.dat I6,.dat .str,.dat (.sl (.u 3))]
 |58=>[.own (.u 7)]
 |59=>[.dat I6,.dat I6,.dat I6,.dat .str,.dat (.sl (.u 3)),.dat (.sl (.u 7))]
 |60=>[.dat .str,.dat I6,.dat I6,.dat I6,.dat .str,.dat (.sl (.u 3)),.dat (.sl (.u 7))]
 |_=>[]
def oCl:(n:Nat)->oD n->List (OL uD)
 |0,x=>[.dat ⟨.ptr,x.store⟩,.dat ⟨.ptr,x.RA⟩,.map I6 I6 x.Bs,.dat ⟨I6,x.EV⟩,.own (.u 1) x.waits,.dat ⟨I6,x.calls⟩]
 |1,x=>[.dat ⟨.ptr,x.m⟩,.dat ⟨(.sl (.u 0)),x.l.Aa⟩,.dat ⟨(.sl I6),x.l.Bits⟩,.dat ⟨(.sl I6),x.l.At⟩,.map I6 .bool x.live,.dat ⟨I6,x.e⟩]
 |2,x=>[.own I6 x.vars,.own I6 x.level]
 |3,x=>[.dat ⟨.ptr,x.levels⟩,.dat ⟨.ptr,x.DZ⟩,.own .ptr x.tables,.own I6 x.counts,.dat ⟨I6,x.dead⟩]
 |4,x=>[.dat ⟨I6,x.size⟩,.ownO (.u 20) x.entries,.dat ⟨I6,x.asked⟩,.dat ⟨I6,x.found⟩]
 |5,x=>[.dat ⟨.ptr,x.m⟩]
 |6,x=>[.dat ⟨I6,x.room⟩,.own (.u 13) x.at_,.own .bool x.taken,.own I6 x.free,.dat ⟨I6,x.many⟩]
 |7,x=>[.map (.u 17) I6 x.ids]
 |8,x=>[.dat ⟨I6,x⟩]
 |9,x=>[.dat ⟨.bool,x⟩]
 |10,x=>[.dat ⟨(.int .u8),x⟩]
 |11,x=>[.dat ⟨.str,x⟩]
 |12,x=>[.dat ⟨(.int .u64),x⟩]
 |13,x=>[.dat ⟨(.int .i32),x⟩]
 |14,x=>[.own (.u 0) x]
 |15,x=>[.own I6 x]
 |16,x=>[.own (.u 1) x]
 |17,x=>[.dat ⟨(.sl (.u 0)),x.Aa⟩,.dat ⟨(.sl I6),x.Order⟩,.dat ⟨(.sl (.u 1)),x.ED⟩]
 |18,x=>[.own (.u 3) x]
 |19,x=>[.dat ⟨I6,x.Op⟩,.dat ⟨I6,x.N⟩,.dat ⟨.str,x.qJ⟩,.dat ⟨(.sl (.u 3)),x.qZ⟩]
 |20,x=>[.dat ⟨.ptr,x⟩]
 |21,x=>[.dat ⟨(.sl (.u 0)),x.Aa⟩,.dat ⟨(.sl I6),x.Bits⟩,.dat ⟨(.sl I6),x.At⟩]
 |22,x=>[.dat ⟨.bool,x.Bool⟩,.dat ⟨I6,x.Lo⟩,.dat ⟨I6,x.Hi⟩]
 |23,x=>[.dat ⟨.str,x.qJ⟩,.dat ⟨.bool,x.Bool⟩,.dat ⟨I6,x.Lo⟩,.dat ⟨I6,x.Hi⟩]
 |24,x=>[.own .bool x]
 |25,x=>[.own (.u 6) x]
 |26,x=>[.own (.u 8) x]
 |27,x=>[.dat ⟨(.sl (.u 0)),x.Aa⟩,.dat ⟨(.sl (.u 6)),x.Defs⟩,.dat ⟨(.sl (.u 3)),x.Init⟩,.dat ⟨(.sl (.u 3)),x.Acu⟩,.dat ⟨(.sl (.u 6)),x.Next⟩,.dat ⟨(.sl (.u 3)),x.Trans⟩,.dat ⟨(.sl (.u 3)),x.Fair⟩,.dat ⟨(.sl (.u 8)),x.Acm⟩]
 |28,x=>[.own (.sl I6) x]
 |29,x=>[.own (.u 10) x]
 |30,x=>[.dat ⟨I6,x.N⟩,.dat ⟨I6,x.H⟩]
 |31,x=>[.dat ⟨I6,x.Eg⟩,.dat ⟨I6,x.Kind⟩,.dat ⟨I6,x.Level⟩]
 |32,x=>[.map I6 I6 x]
 |33,x=>[.own .str x]
 |34,x=>[.map I6 .bool x]
 |35,x=>[.dat ⟨.mref,x⟩]
 |36,x=>[.own (.u 11) x]
 |37,x=>[.dat ⟨I6,x.Var⟩,.dat ⟨.bool,x.Ss⟩]
 |38,x=>[.map .str I6 x]
 |39,x=>[.own (.u 5) x]
 |40,x=>[.dat ⟨I6,x.a0⟩,.dat ⟨I6,x.a1⟩]
 |41,x=>[.own .ptr x]
 |42,x=>[.own (.u 20) x]
 |43,x=>[.dat ⟨I6,x.ID⟩,.dat ⟨I6,x.Var⟩,.dat ⟨I6,x.Lo⟩,.dat ⟨I6,x.Hi⟩,.dat ⟨I6,x.Refs⟩]
 |44,x=>[.dat ⟨.ptr,x.m⟩]
 |45,x=>[.dat ⟨I6,x.err⟩,.dat ⟨.bool,x.event⟩,.dat ⟨I6,x.ev.Eg⟩,.dat ⟨I6,x.ev.Kind⟩,.dat ⟨I6,x.ev.Level⟩]
 |46,x=>[.own (.u 13) x]
 |47,x=>[.map (.u 17) I6 x]
 |48,x=>[.own (.u 16) x]
 |49,x=>[.dat ⟨I6,x.n.ID⟩,.dat ⟨I6,x.n.Var⟩,.dat ⟨I6,x.n.Lo⟩,.dat ⟨I6,x.n.Hi⟩,.dat ⟨I6,x.n.Refs⟩,.dat ⟨I6,x.ll⟩,.dat ⟨I6,x.lh⟩,.dat ⟨I6,x.hl⟩,.dat ⟨I6,x.hh⟩]
 |50,x=>[.dat ⟨(.int .u32),x⟩]
 |51,x=>[.dat ⟨I6,x.a0⟩,.dat ⟨I6,x.a1⟩]
 |52,x=>[.dat ⟨I6,x.a0⟩,.dat ⟨I6,x.a1⟩,.dat ⟨I6,x.a2⟩]
 |53,x=>[.dat ⟨I6,x.op⟩,.dat ⟨I6,x.Cj.a0⟩,.dat ⟨I6,x.Cj.a1⟩,.dat ⟨I6,x.Cj.a2⟩]
 |54,x=>[.dat ⟨I6,x.key.op⟩,.dat ⟨I6,x.key.Cj.a0⟩,.dat ⟨I6,x.key.Cj.a1⟩,.dat ⟨I6,x.key.Cj.a2⟩,.dat ⟨I6,x.r⟩,.dat ⟨.bool,x.full⟩]
 |55,x=>[.map (.u 17) .bool x]
 |56,x=>[.own (.u 17) x]
 |57,x=>[.dat ⟨.str,x.qJ⟩,.dat ⟨I6,x.E.Op⟩,.dat ⟨I6,x.E.N⟩,.dat ⟨.str,x.E.qJ⟩,.dat ⟨(.sl (.u 3)),x.E.qZ⟩]
 |58,x=>[.own (.u 7) x]
 |59,x=>[.dat ⟨I6,x.Op⟩,.dat ⟨I6,x.E.Op⟩,.dat ⟨I6,x.E.N⟩,.dat ⟨.str,x.E.qJ⟩,.dat ⟨(.sl (.u 3)),x.E.qZ⟩,.dat ⟨(.sl (.u 7)),x.qZ⟩]
 |60,x=>[.dat ⟨.str,x.qJ⟩,.dat ⟨I6,x.F.Op⟩,.dat ⟨I6,x.F.E.Op⟩,.dat ⟨I6,x.F.E.N⟩,.dat ⟨.str,x.F.E.qJ⟩,.dat ⟨(.sl (.u 3)),x.F.E.qZ⟩,.dat ⟨(.sl (.u 7)),x.F.qZ⟩]
 |_+61,_=>[]
def oUn:(n:Nat)->List (OL uD)->Option (oD n)
 |0,l0=>Dc .ptr l0 λv0 l1=>Dc .ptr l1 λv1 l2=>tkM I6 I6 l2 λv2 l3=>Dc I6 l3 λv3 l4=>S3 (.u 1) l4 λv4 l5=>Dc I6 l5 λv5 l6=>Ic l6 (some ⟨v0,v1,v2,v3,v4,v5⟩)
 |1,l0=>Dc .ptr l0 λv0 l1=>Dc (.sl (.u 0)) l1 λv1 l2=>Dc (.sl I6) l2 λv2 l3=>Dc (.sl I6) l3 λv3 l4=>tkM I6 .bool l4 λv4 l5=>Dc I6 l5 λv5 l6=>Ic l6 (some ⟨v0,⟨v1,v2,v3⟩,v4,v5⟩)
 |2,l0=>S3 I6 l0 λv0 l1=>S3 I6 l1 λv1 l2=>Ic l2 (some ⟨v0,v1⟩)
 |3,l0=>Dc .ptr l0 λv0 l1=>Dc .ptr l1 λv1 l2=>S3 .ptr l2 λv2 l3=>S3 I6 l3 λv3 l4=>Dc I6 l4 λv4 l5=>Ic l5 (some ⟨v0,v1,v2,v3,v4⟩)
 |4,l0=>Dc I6 l0 λv0 l1=>tkN (.u 20) l1 λv1 l2=>Dc I6 l2 λv2 l3=>Dc I6 l3 λv3 l4=>Ic l4 (some ⟨v0,v1,v2,v3⟩)
 |5,l0=>Dc .ptr l0 λv0 l1=>Ic l1 (some ⟨v0⟩)
 |6,l0=>Dc I6 l0 λv0 l1=>S3 (.u 13) l1 λv1 l2=>S3 .bool l2 λv2 l3=>S3 I6 l3 λv3 l4=>Dc I6 l4 λv4 l5=>Ic l5 (some ⟨v0,v1,v2,v3,v4⟩)
 |7,l0=>tkM (.u 17) I6 l0 λv0 l1=>Ic l1 (some ⟨v0⟩)
 |8,l0=>Dc I6 l0 λv0 l1=>Ic l1 (some v0)
 |9,l0=>Dc .bool l0 λv0 l1=>Ic l1 (some v0)
 |10,l0=>Dc (.int .u8) l0 λv0 l1=>Ic l1 (some v0)
 |11,l0=>Dc .str l0 λv0 l1=>Ic l1 (some v0)
 |12,l0=>Dc (.int .u64) l0 λv0 l1=>Ic l1 (some v0)
 |13,l0=>Dc (.int .i32) l0 λv0 l1=>Ic l1 (some v0)
 |14,l0=>S3 (.u 0) l0 λv0 l1=>Ic l1 (some v0)
 |15,l0=>S3 I6 l0 λv0 l1=>Ic l1 (some v0)
 |16,l0=>S3 (.u 1) l0 λv0 l1=>Ic l1 (some v0)
 |17,l0=>Dc (.sl (.u 0)) l0 λv0 l1=>Dc (.sl I6) l1 λv1 l2=>Dc (.sl (.u 1)) l2 λv2 l3=>Ic l3 (some ⟨v0,v1,v2⟩)
 |18,l0=>S3 (.u 3) l0 λv0 l1=>Ic l1 (some v0)
 |19,l0=>Dc I6 l0 λv0 l1=>Dc I6 l1 λv1 l2=>Dc .str l2 λv2 l3=>Dc (.sl (.u 3)) l3 λv3 l4=>Ic l4 (some ⟨v0,v1,v2,v3⟩)
 |20,l0=>Dc .ptr l0 λv0 l1=>Ic l1 (some v0)
 |21,l0=>Dc (.sl (.u 0)) l0 λv0 l1=>Dc (.sl I6) l1 λv1 l2=>Dc (.sl I6) l2 λv2 l3=>Ic l3 (some ⟨v0,v1,v2⟩)
 |22,l0=>Dc .bool l0 λv0 l1=>Dc I6 l1 λv1 l2=>Dc I6 l2 λv2 l3=>Ic l3 (some ⟨v0,v1,v2⟩)
 |23,l0=>Dc .str l0 λv0 l1=>Dc .bool l1 λv1 l2=>Dc I6 l2 λv2 l3=>Dc I6 l3 λv3 l4=>Ic l4 (some ⟨v0,v1,v2,v3⟩)
 |24,l0=>S3 .bool l0 λv0 l1=>Ic l1 (some v0)
 |25,l0=>S3 (.u 6) l0 λv0 l1=>Ic l1 (some v0)
 |26,l0=>S3 (.u 8) l0 λv0 l1=>Ic l1 (some v0)
 |27,l0=>Dc (.sl (.u 0)) l0 λv0 l1=>Dc (.sl (.u 6)) l1 λv1 l2=>Dc (.sl (.u 3)) l2 λv2 l3=>Dc (.sl (.u 3)) l3 λv3 l4=>Dc (.sl (.u 6)) l4 λv4 l5=>Dc (.sl (.u 3)) l5 λv5 l6=>Dc (.sl (.u 3)) l6 λv6 l7=>Dc (.sl (.u 8)) l7 λv7 l8=>Ic l8 (some ⟨v0,v1,v2,v3,v4,v5,v6,v7⟩)
 |28,l0=>S3 (.sl I6) l0 λv0 l1=>Ic l1 (some v0)
 |29,l0=>S3 (.u 10) l0 λv0 l1=>Ic l1 (some v0)
 |30,l0=>Dc I6 l0 λv0 l1=>Dc I6 l1 λv1 l2=>Ic l2 (some ⟨v0,v1⟩)
 |31,l0=>Dc I6 l0 λv0 l1=>Dc I6 l1 λv1 l2=>Dc I6 l2 λv2 l3=>Ic l3 (some ⟨v0,v1,v2⟩)
 |32,l0=>tkM I6 I6 l0 λv0 l1=>Ic l1 (some v0)
 |33,l0=>S3 .str l0 λv0 l1=>Ic l1 (some v0)
 |34,l0=>tkM I6 .bool l0 λv0 l1=>Ic l1 (some v0)
 |35,l0=>Dc .mref l0 λv0 l1=>Ic l1 (some v0)
 |36,l0=>S3 (.u 11) l0 λv0 l1=>Ic l1 (some v0)
 |37,l0=>Dc I6 l0 λv0 l1=>Dc .bool l1 λv1 l2=>Ic l2 (some ⟨v0,v1⟩)
 |38,l0=>tkM .str I6 l0 λv0 l1=>Ic l1 (some v0)
 |39,l0=>S3 (.u 5) l0 λv0 l1=>Ic l1 (some v0)
 |40,l0=>Dc I6 l0 λv0 l1=>Dc I6 l1 λv1 l2=>Ic l2 (some ⟨v0,v1⟩)
 |41,l0=>S3 .ptr l0 λv0 l1=>Ic l1 (some v0)
 |42,l0=>S3 (.u 20) l0 λv0 l1=>Ic l1 (some v0)
 |43,l0=>Dc I6 l0 λv0 l1=>Dc I6 l1 λv1 l2=>Dc I6 l2 λv2 l3=>Dc I6 l3 λv3 l4=>Dc I6 l4 λv4 l5=>Ic l5 (some ⟨v0,v1,v2,v3,v4⟩)
 |44,l0=>Dc .ptr l0 λv0 l1=>Ic l1 (some ⟨v0⟩)
 |45,l0=>Dc I6 l0 λv0 l1=>Dc .bool l1 λv1 l2=>Dc I6 l2 λv2 l3=>Dc I6 l3 λv3 l4=>Dc I6 l4 λv4 l5=>Ic l5 (some ⟨v0,v1,⟨v2,v3,v4⟩⟩)
 |46,l0=>S3 (.u 13) l0 λv0 l1=>Ic l1 (some v0)
 |47,l0=>tkM (.u 17) I6 l0 λv0 l1=>Ic l1 (some v0)
 |48,l0=>S3 (.u 16) l0 λv0 l1=>Ic l1 (some v0)
 |49,l0=>Dc I6 l0 λv0 l1=>Dc I6 l1 λv1 l2=>Dc I6 l2 λv2 l3=>Dc I6 l3 λv3 l4=>Dc I6 l4 λv4 l5=>Dc I6 l5 λv5 l6=>Dc I6 l6 λv6 l7=>Dc I6 l7 λv7 l8=>Dc I6 l8 λv8 l9=>Ic l9 (some ⟨⟨v0,v1,v2,v3,v4⟩,v5,v6,v7,v8⟩)
 |50,l0=>Dc (.int .u32) l0 λv0 l1=>Ic l1 (some v0)
 |51,l0=>Dc I6 l0 λv0 l1=>Dc I6 l1 λv1 l2=>Ic l2 (some ⟨v0,v1⟩)
 |52,l0=>Dc I6 l0 λv0 l1=>Dc I6 l1 λv1 l2=>Dc I6 l2 λv2 l3=>Ic l3 (some ⟨v0,v1,v2⟩)
 |53,l0=>Dc I6 l0 λv0 l1=>Dc I6 l1 λv1 l2=>Dc I6 l2 λv2 l3=>Dc I6 l3 λv3 l4=>Ic l4 (some ⟨v0,⟨v1,v2,v3⟩⟩)
 |54,l0=>Dc I6 l0 λv0 l1=>Dc I6 l1 λv1 l2=>Dc I6 l2 λv2 l3=>Dc I6 l3 λv3 l4=>Dc I6 l4 λv4 l5=>Dc .bool l5 λv5 l6=>Ic l6 (some ⟨⟨v0,⟨v1,v2,v3⟩⟩,v4,v5⟩)
 |55,l0=>tkM (.u 17) .bool l0 λv0 l1=>Ic l1 (some v0)
 |56,l0=>S3 (.u 17) l0 λv0 l1=>Ic l1 (some v0)
 |57,l0=>Dc .str l0 λv0 l1=>Dc I6 l1 λv1 l2=>Dc I6 l2 λv2 l3=>Dc .str l3 λv3 l4=>Dc (.sl (.u 3)) l4 λv4 l5=>Ic l5 (some ⟨v0,⟨v1,v2,v3,v4⟩⟩)
 |58,l0=>S3 (.u 7) l0 λv0 l1=>Ic l1 (some v0)
 |59,l0=>Dc I6 l0 λv0 l1=>Dc I6 l1 λv1 l2=>Dc I6 l2 λv2 l3=>Dc .str l3 λv3 l4=>Dc (.sl (.u 3)) l4 λv4 l5=>Dc (.sl (.u 7)) l5 λv5 l6=>Ic l6 (some ⟨v0,⟨v1,v2,v3,v4⟩,v5⟩)
 |60,l0=>Dc .str l0 λv0 l1=>Dc I6 l1 λv1 l2=>Dc I6 l2 λv2 l3=>Dc I6 l3 λv3 l4=>Dc .str l4 λv4 l5=>Dc (.sl (.u 3)) l5 λv5 l6=>Dc (.sl (.u 7)) l6 λv6 l7=>Ic l7 (some ⟨v0,⟨v1,⟨v2,v3,v4,v5⟩,v6⟩⟩)
 |_+61,l0=>Ic l0 (some ())
theorem A0e:∀n l x,oUn n l=some x->oCl n x=l
 |0,l0,x,h0|1,l0,x,h0|2,l0,x,h0|3,l0,x,h0|4,l0,x,h0|5,l0,x,h0|6,l0,x,h0|7,l0,x,h0|8,l0,x,h0|9,l0,x,h0|10,l0,x,h0|11,l0,x,h0|12,l0,x,h0|13,l0,x,h0|14,l0,x,h0|15,l0,x,h0|16,l0,x,h0|17,l0,x,h0|18,l0,x,h0|19,l0,x,h0|20,l0,x,h0|21,l0,x,h0|22,l0,x,h0|23,l0,x,h0|24,l0,x,h0|25,l0,x,h0|26,l0,x,h0|27,l0,x,h0|28,l0,x,h0|29,l0,x,h0|30,l0,x,h0|31,l0,x,h0|32,l0,x,h0|33,l0,x,h0|34,l0,x,h0|35,l0,x,h0|36,l0,x,h0|37,l0,x,h0|38,l0,x,h0|39,l0,x,h0|40,l0,x,h0|41,l0,x,h0|42,l0,x,h0|43,l0,x,h0|44,l0,x,h0|45,l0,x,h0|46,l0,x,h0|47,l0,x,h0|48,l0,x,h0|49,l0,x,h0|50,l0,x,h0|51,l0,x,h0|52,l0,x,h0|53,l0,x,h0|54,l0,x,h0|55,l0,x,h0|56,l0,x,h0|57,l0,x,h0|58,l0,x,h0|59,l0,x,h0|60,l0,x,h0=>by simp only[oUn]at h0;(repeat first|(obtain⟨_,_,e,h1⟩:=Au0 h0;clear h0;subst e;have h0:=h1;clear h1)|(obtain⟨_,_,e,h1⟩:=Aux h0;clear h0;subst e;have h0:=h1;clear h1)|(obtain⟨_,_,e,h1⟩:=Auz h0;clear h0;subst e;have h0:=h1;clear h1)|(obtain⟨_,_,e,h1⟩:=Auy h0;clear h0;subst e;have h0:=h1;clear h1));obtain⟨e,h⟩:=Amu h0;subst e;cases h;rfl
 |_+61,l0,x,h0=>by obtain⟨e,h⟩:=Amu h0;subst e;rfl
abbrev O1:Option Nat:=none
abbrev O2:Option Ty:=none
def okL:List (Option Nat):=[O1,O1,some 8,some 8,some 9,some 10,O1,O1,O1,some 11,O1,O1,some 12,O1,O1,O1,O1,O1,O1,O1,O1,some 13,some 14,some 15,some 16,some 17,some 17,some 18,some 19,some 19,O1,O1,O1,some 20,some 21,some 21,O1,O1,some 8,O1,O1,some 22,some 22,O1,O1,O1,O1,O1,O1,O1,O1,O1,some 23,some 23,some 24,O1,O1,O1,O1,O1,O1,some 25,some 26,some 27,some 27,O1,O1,O1,O1,some 28,O1,O1,O1,O1,some 29,O1,O1,some 30,some 30,O1,O1,O1,O1,O1,O1,O1,some 31,some 31,O1,O1,O1,O1,some 20,O1,O1,O1,O1,O1,O1,some 20,some 20,some 32,some 0,some 0,O1,some 33,O1,O1,O1,O1,O1,O1,O1,O1,some 34,some 1,some 1,O1,O1,O1,O1,O1,some 35,O1,O1,O1,O1,O1,O1,O1,O1,O1,O1,O1,some 36,some 37,some 37,O1,O1,O1,some 8,O1,O1,O1,O1,O1,O1,O1,O1,O1,O1,O1,O1,O1,O1,some 38,O1,O1,O1,O1,O1,O1,O1,O1,O1,some 39,O1,O1,O1,O1,O1,O1,some 20,O1,O1,O1,O1,O1,some 40,O1,O1,O1,O1,some 12,O1,O1,O1,O1,O1,O1,O1,O1,some 20,O1,O1,some 20,some 2,some 2,some 41,some 3,some 3,some 20,O1,some 42,some 4,some 4,O1,O1,O1,O1,O1,O1,O1,O1,O1,O1,O1,O1,O1,O1,O1,O1,some 43,some 43,O1,O1,O1,O1,some 44,some 44,some 45,some 45,O1,O1,O1,O1,O1,some 12,O1,O1,O1,O1,O1,O1,O1,some 46,some 6,some 6,some 47,some 7,some 7,O1,O1,O1,some 48,O1,O1,O1,some 49,some 49,O1,O1,O1,O1,O1,O1,O1,O1,O1,O1,O1,O1,O1,O1,O1,O1,O1,O1,some 8,O1,O1,O1,O1,O1,O1,some 50,O1,O1,some 51,some 52,some 53,some 53,some 20,O1,some 54,some 54,some 15,O1,O1,O1,O1,O1,O1,O1,some 55,some 56,O1,O1,O1,O1,some 12,O1,O1,O1,some 20,O1,O1,O1,O1,O1,O1,O1,O1,O1,O1,some 20,O1,O1,O1,O1,O1,O1,O1,O1,O1,O1,O1,O1,O1,O1,O1,O1,O1,O1,O1,O1,some 20,O1,O1,O1,O1,some 57,some 57,some 58,some 59,some 59,some 60,some 60,O1]
def tyL:List (Option Ty):=[O2,O2,some (.int .i64),some (.int .i64),some .bool,some (.int .u8),O2,O2,O2,some .str,O2,O2,some (.int .u64),O2,O2,O2,O2,O2,O2,O2,O2,some (.int .i32),some (.sl (.u 0)),some (.sl I6),some (.sl (.u 1)),some (.u 2),some (.u 2),some (.sl (.u 3)),some (.u 3),some (.u 3),O2,O2,O2,some .ptr,some (.u 4),some (.u 4),O2,O2,some (.int .i64),O2,O2,some (.u 5),some (.u 5),O2,O2,O2,O2,O2,O2,O2,O2,O2,some (.u 0),some (.u 0),some (.sl .bool),O2,O2,O2,O2,O2,O2,some (.sl (.u 6)),some (.sl (.u 8)),some (.u 9),some (.u 9),O2,O2,O2,O2,some (.sl (.sl I6)),O2,O2,O2,O2,some (.sl (.u 10)),O2,O2,some (.u 10),some (.u 10),O2,O2,O2,O2,O2,O2,O2,some (.u 1),some (.u 1),O2,O2,O2,O2,some .ptr,O2,O2,O2,O2,O2,O2,some .ptr,some .ptr,O2,O2,O2,O2,some (.sl .str),O2,O2,O2,O2,O2,O2,O2,O2,O2,O2,O2,O2,O2,O2,O2,O2,some .mref,O2,O2,O2,O2,O2,O2,O2,O2,O2,O2,O2,some (.sl (.u 11)),some (.u 11),some (.u 11),O2,O2,O2,some (.int .i64),O2,O2,O2,O2,O2,O2,O2,O2,O2,O2,O2,O2,O2,O2,O2,O2,O2,O2,O2,O2,O2,O2,O2,O2,some (.sl (.u 5)),O2,O2,O2,O2,O2,O2,some .ptr,O2,O2,O2,O2,O2,some (.u 12),O2,O2,O2,O2,some (.int .u64),O2,O2,O2,O2,O2,O2,O2,O2,some .ptr,O2,O2,some .ptr,O2,O2,some (.sl .ptr),O2,O2,some .ptr,O2,some (.sl (.u 20)),O2,O2,O2,O2,O2,O2,O2,O2,O2,O2,O2,O2,O2,O2,O2,O2,O2,O2,some (.u 13),some (.u 13),O2,O2,O2,O2,some (.u 14),some (.u 14),some (.u 15),some (.u 15),O2,O2,O2,O2,O2,some (.int .u64),O2,O2,O2,O2,O2,O2,O2,some (.sl (.u 13)),O2,O2,O2,O2,O2,O2,O2,O2,some (.sl (.u 16)),O2,O2,O2,some (.u 16),some (.u 16),O2,O2,O2,O2,O2,O2,O2,O2,O2,O2,O2,O2,O2,O2,O2,O2,O2,O2,some (.int .i64),O2,O2,O2,O2,O2,O2,some (.int .u32),O2,O2,some (.u 17),some (.u 18),some (.u 19),some (.u 19),some .ptr,O2,some (.u 20),some (.u 20),some (.sl I6),O2,O2,O2,O2,O2,O2,O2,O2,some (.sl (.u 17)),O2,O2,O2,O2,some (.int .u64),O2,O2,O2,some .ptr,O2,O2,O2,O2,O2,O2,O2,O2,O2,O2,some .ptr,O2,O2,O2,O2,O2,O2,O2,O2,O2,O2,O2,O2,O2,O2,O2,O2,O2,O2,O2,O2,some .ptr,O2,O2,O2,O2,some (.u 6),some (.u 6),some (.sl (.u 7)),some (.u 7),some (.u 7),some (.u 8),some (.u 8),O2]
noncomputable def kmA(t:TypeId):Ty->Bool
 |.u 12|.u 17=>arB Tryz.prog t
 |_=>false
theorem A0v(t:TypeId)(k:Ty)(h:(kmI Tryz.prog t k ||kmS Tryz.prog t k ||kmA t k)=true):@J6 Tryz.prog t (den uS.D k) (RT uS k) (FJ uS Ah3 k):=by
 rw[an,an]at h;rcases h with (h|h)|h
 .exact Aw3 h
 .exact Aw2 h
 .unfold kmA at h;split at h
  .exact Agl (S:=uS) (n:=12) (p:=λx=>x.a0) (q:=λx=>x.a1) (λ_=>rfl) (by intro x y;cases x;cases y;rintro rfl rfl;rfl) h
  .exact Agl (S:=uS) (n:=17) (p:=λx=>x.a0) (q:=λx=>x.a1) (λ_=>rfl) (by intro x y;cases x;cases y;rintro rfl rfl;rfl) h
  .cases h
noncomputable def eqA(t:TypeId):Ty->Bool
 |.u 12|.u 17=>arB Tryz.prog t&&!(Tryz.prog.eqGuardType Tryz.prog.depth t)
 | .u 19=>ksB Tryz.prog t
 |_=>false
theorem A4o(t:TypeId)(k:Ty)(h:eqA t k=true):Tryz.prog.eqGuardType Tryz.prog.depth t=false/\∀I w v u(x y:den uS.D k),rp uS k I w v x->rp uS k I w u y->∀w',(Op.equal t v u).run Tryz.prog w'=.ok (@decide (x=y) (FJ uS Ah3 k x y)) w':=by
 unfold eqA at h;split at h
 .refine⟨(Z9 (w:=default) h (a:=0) (b:=0) (a':=0) (b':=0)).1,λI w v u x y hx hy w'=>?_⟩;obtain⟨cs,rfl,hF⟩:=GM.1 hx;obtain⟨ds,rfl,hG⟩:=GM.1 hy;obtain rfl:cs=[.int .i64 x.a0,.int .i64 x.a1]:=by cases hF with|cons a1 a2=>cases a2 with|cons b1 b2=>cases b2;rw[(AT.1 a1).1,(AT.1 b1).1]
  obtain rfl:ds=[.int .i64 y.a0,.int .i64 y.a1]:=by cases hG with|cons a1 a2=>cases a2 with|cons b1 b2=>cases b2;rw[(AT.1 a1).1,(AT.1 b1).1]
  rw[(Z9 h).2];refine congrArg (Result.ok · w') (au.2 ?_);rw[@decide_eq_true_iff _ (FJ uS Ah3 _ x y)];simp only[a7,beq_iff_eq];exact⟨λe=>by cases x;cases y;obtain⟨e1,e2⟩:=e;cases e1;cases e2;rfl,λe=>by cases e;exact⟨rfl,rfl⟩⟩
 .refine⟨(Z9 (w:=default) h (a:=0) (b:=0) (a':=0) (b':=0)).1,λI w v u x y hx hy w'=>?_⟩;obtain⟨cs,rfl,hF⟩:=GM.1 hx;obtain⟨ds,rfl,hG⟩:=GM.1 hy;obtain rfl:cs=[.int .i64 x.a0,.int .i64 x.a1]:=by cases hF with|cons a1 a2=>cases a2 with|cons b1 b2=>cases b2;rw[(AT.1 a1).1,(AT.1 b1).1]
  obtain rfl:ds=[.int .i64 y.a0,.int .i64 y.a1]:=by cases hG with|cons a1 a2=>cases a2 with|cons b1 b2=>cases b2;rw[(AT.1 a1).1,(AT.1 b1).1]
  rw[(Z9 h).2];refine congrArg (Result.ok · w') (au.2 ?_);rw[@decide_eq_true_iff _ (FJ uS Ah3 _ x y)];simp only[a7,beq_iff_eq];exact⟨λe=>by cases x;cases y;obtain⟨e1,e2⟩:=e;cases e1;cases e2;rfl,λe=>by cases e;exact⟨rfl,rfl⟩⟩
 .refine⟨(Ane (w:=default) h (o:=0) (a:=0) (b:=0) (c:=0) (o':=0) (a':=0) (b':=0) (c':=0)).1,λI w v u x y hx hy w'=>?_⟩;obtain⟨cs,rfl,hF⟩:=GM.1 hx;obtain⟨ds,rfl,hG⟩:=GM.1 hy;obtain rfl:cs=[.int .i64 x.op,.int .i64 x.Cj.a0,.int .i64 x.Cj.a1,.int .i64 x.Cj.a2]:=by cases hF with|cons a1 a2=>cases a2 with|cons b1 b2=>cases b2 with|cons c1 c2=>cases c2 with|cons d1 d2=>cases d2;rw[(AT.1 a1).1,(AT.1 b1).1,(AT.1 c1).1,(AT.1 d1).1]
  obtain rfl:ds=[.int .i64 y.op,.int .i64 y.Cj.a0,.int .i64 y.Cj.a1,.int .i64 y.Cj.a2]:=by cases hG with|cons a1 a2=>cases a2 with|cons b1 b2=>cases b2 with|cons c1 c2=>cases c2 with|cons d1 d2=>cases d2;rw[(AT.1 a1).1,(AT.1 b1).1,(AT.1 c1).1,(AT.1 d1).1]
  rw[(Ane h).2];refine congrArg (Result.ok · w') (au.2 ?_);rw[@decide_eq_true_iff _ (FJ uS Ah3 _ x y)];simp only[a7,beq_iff_eq];exact⟨λe=>by cases x with|mk o x=>cases y with|mk p y=>cases x;cases y;obtain⟨e1,e2,e3,e4⟩:=e;cases e1;cases e2;cases e3;cases e4;rfl,λe=>by cases e;exact⟨rfl,rfl,rfl,rfl⟩⟩
 .cases h
def He:List ByteArray:=[⟨#[65]⟩,⟨#[65,70]⟩,⟨#[65,71]⟩,⟨#[65,88]⟩,⟨#[69]⟩,⟨#[69,70]⟩,⟨#[69,71]⟩,⟨#[69,88]⟩,⟨#[85]⟩,⟨#[98,111,111,108]⟩,⟨#[100,101,102]⟩,⟨#[101,108,115,101]⟩,⟨#[102,97,105,114]⟩,⟨#[102,97,108,115,101]⟩,⟨#[105,102]⟩,⟨#[105,110,105,116]⟩,⟨#[105,110,118,97,114]⟩,⟨#[109,111,100]⟩,⟨#[110,101,120,116]⟩,⟨#[115,112,101,99]⟩,⟨#[116,104,101,110]⟩,⟨#[116,114,97,110,115]⟩,⟨#[116,114,117,101]⟩,⟨#[118,97,114]⟩]
noncomputable def Axl:Nat->Option ((T:Go.Y.Ty)×List (Go.Y.den uS.D T)):=λg=>if g=0 then some ⟨.str,He⟩ else none
noncomputable def Y0:Go.Y.Sys:={uS with
 P:=Tryz.prog,ty:=λt=>(tyL[t]?).join,deq:=Ah3,gls:=Axl,O:=oD,Al8:=A3o,ocl:=oCl,oun:=oUn,Al7:=A0e,ok:=λt=>(okL[t]?).join,km:=λt k=>kmI Tryz.prog t k ||kmS Tryz.prog t k ||kmA t k,Ang:=A0v,eqs:=eqA,At6:=A4o}
noncomputable abbrev qK:=Wp Y0
abbrev UT:=Unit
abbrev IK:=Bn .i64
abbrev HY:=HH Y0
abbrev HP:=HH Y0->Prop
abbrev UU:=Unit->HH Y0->Prop
abbrev PX:=Tz Y0
end Go.Proofs.YtcbkbpjlbmalmaaGreatDoor
namespace Go.B
section
abbrev As:=Int->Bool
abbrev Fn:=As->Bool
structure Nd where
 v:Int
 lo:Int
 hi:Int
deriving DecidableEq
abbrev Tb:=Int->Option Nd
def ev(N:Tb):Nat->Int->As->Bool
 |0,_,_=>false
 |k+1,e,a=>if e/2=0 then decide (e%2=0) else match N (e/2) with
  |none=>false
  |some d=>(decide (e%2=1)) ^^ ev N k (if a d.v=true then d.hi else d.lo) a
def den(N:Tb)(e:Int):Fn:=ev N 65 e
structure Od(n:Int)(lv:Int->Int):Prop where
 n64:n<=64
 Mp:∀v,0<=v->v<n->0<=lv v/\lv v<n
 inj:∀v w,0<=v->v<n->0<=w->w<n->lv v=lv w->v=w
def el(n:Int)(lv:Int->Int)(N:Tb)(e:Int):Int:=if e/2=0 then n else match N (e/2) with
 |none=>n
 |some d=>lv d.v
def Ok(N:Tb)(e:Int):Prop:=0<=e/\(e/2=0∨∃d,N (e/2)=some d)
structure Good(n:Int)(lv:Int->Int)(N:Tb):Prop where
 od:Od n lv
 var:∀{i d},N i=some d->0<i/\0<=d.v/\d.v<n
 lo:∀{i d},N i=some d->Ok N d.lo/\lv d.v<el n lv N d.lo
 hi:∀{i d},N i=some d->Ok N d.hi/\lv d.v<el n lv N d.hi
 ne:∀{i d},N i=some d->d.lo≠d.hi
 reg:∀{i d},N i=some d->d.hi%2=0
 Xg:∀{i j d},N i=some d->N j=some d->i=j
section
variable {n:Int} {lv:Int->Int} {N:Tb}
variable {e:Int}
theorem Cr(h:e/2=0):el n lv N e=n:=by unfold el;rw[UV h]
variable {d:Nd}
theorem Bj(h:e/2≠0)(a:N (e/2)=some d):el n lv N e=lv d.v:=by unfold el;rw[GT h,a]
theorem Good.VM(g:Good n lv N)(h:Ok N e)(c:0<=n):0<=el n lv N e/\el n lv N e<=n:=by
 rcases h.2 with a|⟨d,b⟩
 .grind[Cr]
 .by_cases a:e/2=0
  .grind[Cr]
  .rw[Bj a b];have:=g.var b;have:=g.od.Mp d.v this.2.1 this.2.2;omega
variable {k:Nat} {a:As}
theorem Kf(h:e/2=0):ev N (k+1) e a=decide (e%2=0):=by simp only[ev];rw[UV h]
theorem LD(h:e/2≠0)(b:N (e/2)=some d):ev N (k+1) e a=((decide (e%2=1)) ^^ ev N k (if a d.v=true then d.hi else d.lo) a):=by simp only[ev];rw[GT h,b]
variable {M:Tb}
theorem Good.VJ(g:Good n lv N)(l:∀i d,N i=some d->M i=some d):∀(k m:Nat)(e:Int)(a:As),Ok N e->n-el n lv N e<k->n-el n lv N e<m->ev M m e a=ev N k e a
 |0,m,e,a,h,j,f=>by
  exfalso;rcases h.2 with b|⟨d,c⟩
  .grind[Cr]
  .by_cases b:e/2=0
   .grind[Cr]
   .rw[Bj b c]at j;have:=g.var c;have:=g.od.Mp d.v this.2.1 this.2.2;omega
 |k+1,0,e,a,h,j,f=>by
  exfalso;rcases h.2 with b|⟨d,c⟩
  .grind[Cr]
  .by_cases b:e/2=0
   .grind[Cr]
   .rw[Bj b c]at f;have:=g.var c;have:=g.od.Mp d.v this.2.1 this.2.2;omega
 |k+1,m+1,e,a,h,j,f=>by
  by_cases b:e/2=0
  .rw[Kf b,Kf b]
  .obtain⟨d,c⟩:=h.2.resolve_left b;rw[LD b c,LD b (l _ _ c)];rw[Bj b c]at j f;congr 1;obtain⟨p,r⟩:=g.lo c;obtain⟨o,q⟩:=g.hi c;split
   .exact g.VJ l k m _ a o (by omega) (by omega)
   .exact g.VJ l k m _ a p (by omega) (by omega)
theorem Good.fuel(g:Good n lv N)(a:0<=n)(h:Ok N e):n-el n lv N e<65:=by have:=g.VM h a;have:=g.od.n64;omega
theorem Good.Ag9(g:Good n lv N)(b:0<=n)(c:∀i d,N i=some d->M i=some d)(h:Ok N e):den M e=den N e:=by funext a;exact g.VJ c 65 65 e a h (g.fuel b h) (g.fuel b h)
theorem Ok.ext(b:∀i d,N i=some d->M i=some d)(h:Ok N e):Ok M e:=⟨h.1,h.2.imp id λ⟨d,a⟩=>⟨d,b _ _ a⟩⟩
theorem O6(c:∀i d,N i=some d->M i=some d)(h:Ok N e):el n lv M e=el n lv N e:=by
 by_cases a:e/2=0
 .rw[Cr a,Cr a]
 .obtain⟨d,b⟩:=h.2.resolve_left a;rw[Bj a b,Bj a (c _ _ b)]
theorem MA(h:e/2=0):den N e=λ_=>decide (e%2=0):=by funext a;exact Kf h
theorem HU:den N 0=λ_=>true:=by rw[MA (by decide)];rfl
theorem EW:den N 1=λ_=>false:=by rw[MA (by decide)];rfl
theorem Good.IZ(g:Good n lv N)(m:0<=n)(i:e/2≠0)(b:N (e/2)=some d)(a:As):den N e a=((decide (e%2=1)) ^^ (if a d.v=true then den N d.hi a else den N d.lo a)):=by
 have j:=g.lo b;have l:=g.hi b;have c:=g.var b;have o:=g.od.Mp d.v c.2.1 c.2.2;have f:=g.od.n64;unfold den;rw[LD (k:=64) i b];congr 1;split
 .exact(g.VJ (λ_ _ h=>h) 65 64 _ a l.1 (by omega) (by omega))
 .exact(g.VJ (λ_ _ h=>h) 65 64 _ a j.1 (by omega) (by omega))
def flip(e:Int):Int:=if e%2=0 then e+1 else e-1
theorem Lj:flip e/2=e/2:=by unfold flip;split<;>omega
theorem RS:flip e%2=1-e%2:=by unfold flip;split<;>omega
theorem flip_flip:flip (flip e)=e:=by unfold flip;split<;>split<;>omega
theorem Abu(h:0<=e):0<=flip e:=by unfold flip;split<;>omega
theorem Ok.flip(h:Ok N e):Ok N (flip e):=⟨Abu h.1,by rw[Lj];exact h.2⟩
theorem Ar7:el n lv N (flip e)=el n lv N e:=by unfold el;rw[Lj]
theorem Ar5(h:Ok N e):ev N (k+1) (flip e) a=!(ev N (k+1) e a):=by
 by_cases b:e/2=0
 .rw[Kf b,Kf (by grind[Lj]),RS];rcases ai e with c|c<;>simp [c]
 .obtain⟨d,f⟩:=h.2.resolve_left b;rw[LD b f,LD (by grind[Lj]) (by rw[Lj];exact f),RS];rcases ai e with c|c<;>simp [c]
theorem HM(h:Ok N e):den N (flip e)=λa=>!(den N e a):=by funext a;exact Ar5 h
theorem Good.Aej(g:Good n lv N):∀(k:Nat)(e:Int)(a b:As),Ok N e->(∀v,0<=v->v<n->el n lv N e<=lv v->a v=b v)->ev N k e a=ev N k e b
 |0,_,_,_,_,_=>rfl
 |k+1,e,a,b,h,c=>by
  by_cases f:e/2=0
  .rw[Kf f,Kf f]
  .obtain⟨d,i⟩:=h.2.resolve_left f;rw[LD f i,LD f i];rw[Bj f i]at c;have m:=g.var i;obtain⟨q,s⟩:=g.lo i;obtain⟨p,r⟩:=g.hi i;rw[<-c d.v m.2.1 m.2.2 (aw _)];congr 1;split
   .exact g.Aej k _ a b p λv l j o=>c v l j (by omega)
   .exact g.Aej k _ a b q λv l j o=>c v l j (by omega)
theorem Good.Sg(g:Good n lv N){b:As}(h:Ok N e)(c:∀v,0<=v->v<n->el n lv N e<=lv v->a v=b v):den N e a=den N e b:=g.Aej 65 e a b h c
def Aae(a:As)(v:Int)(b:Bool):As:=λw=>if w=v then b else a w
variable {v:Int} {b:Bool}
theorem Pf:Aae a v b v=b:=UV rfl
theorem Aqf{w:Int}(h:w≠v):Aae a v b w=a w:=GT h
theorem Good.P2(g:Good n lv N)(h:Ok N e)(_:0<=v)(_:v<n)(f:lv v<el n lv N e):den N e (Aae a v b)=den N e a:=by refine g.Sg h λw k j i=>Aqf ?_;grind
theorem Good.An7(g:Good n lv N):∀(k:Nat)(e:Int),Ok N e->n-el n lv N e<k->ev N k e (λ_=>true)=decide (e%2=0)
 |0,e,h,c=>by
  exfalso;rcases h.2 with a|⟨d,b⟩
  .grind[Cr]
  .by_cases a:e/2=0
   .grind[Cr]
   .rw[Bj a b]at c;have:=g.var b;have:=g.od.Mp d.v this.2.1 this.2.2;omega
 |k+1,e,h,c=>by
  by_cases a:e/2=0
  .rw[Kf a]
  .obtain⟨d,b⟩:=h.2.resolve_left a;rw[LD a b];rw[Bj a b]at c;obtain⟨i,j⟩:=g.hi b;rw[UV rfl,g.An7 k d.hi i (by omega),g.reg b];rcases ai e with f|f<;>simp [f]
theorem Good.Uu(g:Good n lv N)(a:0<=n)(h:Ok N e):den N e (λ_=>true)=decide (e%2=0):=g.An7 65 e h (g.fuel a h)
variable {f:Int}
theorem Good.sign(g:Good n lv N)(c:0<=n)(i:Ok N e)(j:Ok N f)(h:den N e=den N f):e%2=f%2:=by have a:=g.Uu c i;have k:=g.Uu c j;rw[h,k]at a;rcases ai e with b|b<;>rcases ai f with d|d<;>simp [b,d]at a ⊢
theorem Good.cof(g:Good n lv N)(k:0<=n)(i:e/2≠0)(f:N (e/2)=some d)(b:Bool)(a:As):den N e (Aae a d.v b)=((decide (e%2=1)) ^^ den N (if b=true then d.hi else d.lo) a):=by have c:=g.var f;obtain⟨m,h⟩:=g.lo f;obtain⟨j,l⟩:=g.hi f;rw[g.IZ k i f,Pf,g.P2 j c.2.1 c.2.2 l,g.P2 m c.2.1 c.2.2 h];cases b<;>rfl
theorem xor_left_inj{a c:Bool}(h:(a ^^ b)=(a ^^ c)):b=c:=by cases a<;>cases b<;>cases c<;>simp_all
theorem Good.canon(g:Good n lv N)(o:0<=n):∀(k:Nat)(e f:Int),Ok N e->Ok N f->n-el n lv N e<k->n-el n lv N f<k->den N e=den N f->e=f
 |0,e,f,r,_,P,_,_=>by have:=g.VM r o;omega
 |k+1,e,f,r,s,p,x,h=>by
  have I:=g.sign o r s h;have v:∀{e f:Int},Ok N e->Ok N f->n-el n lv N e<k+1->den N e=den N f->el n lv N e<el n lv N f->False:=by
   intro e f r s p h t;have l:e/2≠0:=λl=>by rw[Cr l]at t;have:=g.VM s o;omega
   obtain⟨d,c⟩:=r.2.resolve_left l;have m:=g.var c;rw[Bj l c]at t p;obtain⟨E,H⟩:=g.lo c;obtain⟨z,O⟩:=g.hi c;refine g.ne c (g.canon o k d.lo d.hi E z (by omega) (by omega) ?_);funext a;have i:=g.cof o l c false a;have y:=g.cof o l c true a;rw[h,g.P2 s m.2.1 m.2.2 t]at i y;grind
  have q:el n lv N e=el n lv N f:=by grind
  by_cases l:e/2=0
  .by_cases i:f/2=0
   .omega
   .obtain⟨d,c⟩:=s.2.resolve_left i;rw[Cr l,Bj i c]at q;have m:=g.var c;have:=g.od.Mp d.v m.2.1 m.2.2;omega
  .obtain⟨d,c⟩:=r.2.resolve_left l;by_cases i:f/2=0
   .rw[Cr i,Bj l c]at q;have m:=g.var c;have:=g.od.Mp d.v m.2.1 m.2.2;omega
   .obtain⟨u,j⟩:=s.2.resolve_left i;rw[Bj l c,Bj i j]at q;rw[Bj l c]at p;rw[Bj i j]at x;have m:=g.var c;have w:=g.var j;have A:=g.od.inj _ _ m.2.1 m.2.2 w.2.1 w.2.2 q;obtain⟨E,H⟩:=g.lo c;obtain⟨z,O⟩:=g.hi c;obtain⟨B,L⟩:=g.lo j;obtain⟨D,K⟩:=g.hi j;have F:∀b:Bool,den N (if b=true then d.hi else d.lo)=den N (if b=true then u.hi else u.lo):=λb=>by funext a;have y:=g.cof o l c b a;have G:=g.cof o i j b a;simp_all
    have M:d.lo=u.lo:=g.canon o k _ _ E B (by omega) (by omega) (F false);have J:d.hi=u.hi:=g.canon o k _ _ z D (by omega) (by omega) (F true);have C:d=u:=by cases d;simp_all
    subst C;have:=g.Xg c j;omega
theorem Good.eq(g:Good n lv N)(a:0<=n)(c:Ok N e)(b:Ok N f)(h:den N e=den N f):e=f:=g.canon a 65 e f c b (g.fuel a c) (g.fuel a b) h
theorem Good.eq_iff(g:Good n lv N)(a:0<=n)(c:Ok N e)(b:Ok N f):e=f↔den N e=den N f:=⟨λh=>by rw[h],g.eq a c b⟩
theorem Pq:Ok N 0:=⟨by omega,.inl (by decide)⟩
theorem ok_one:Ok N 1:=⟨by omega,.inl (by decide)⟩
def Je(N:Tb)(i:Int)(d:Nd):Tb:=λj=>if j=i then some d else N j
variable {i:Int}
theorem Tx:Je N i d i=some d:=UV rfl
theorem Sp(h:N i=none):∀j c,N j=some c->Je N i d j=some c:=by intro j c a;unfold Je;rw[GT];exact a;intro e;subst e;rw[h]at a;cases a
theorem Good.add(g:Good n lv N){lo hi:Int}(u:0<i)(c:N i=none)(s:0<=v)(r:v<n)(m:Ok N lo)(o:Ok N hi)(A:lv v<el n lv N lo)(w:lv v<el n lv N hi)(t:lo≠hi)(l:hi%2=0)(a:∀j,N j≠some ⟨v,lo,hi⟩):Good n lv (Je N i ⟨v,lo,hi⟩):=by
 have b:=Sp (d:=⟨v,lo,hi⟩) c;have f:∀{j d},Je N i ⟨v,lo,hi⟩ j=some d->(j=i/\d=⟨v,lo,hi⟩)∨N j=some d:=by grind[Je]
 refine⟨g.od,?_,?_,?_,?_,?_,?_⟩
 .intro j d h;rcases f h with ⟨rfl,rfl⟩|h
  .grind
  .exact g.var h
 .intro j d h;rcases f h with ⟨rfl,rfl⟩|h
  .exact⟨m.ext b,by grind[O6]⟩
  .have:=g.lo h;exact⟨this.1.ext b,by grind[O6]⟩
 .intro j d h;rcases f h with ⟨rfl,rfl⟩|h
  .exact⟨o.ext b,by grind[O6]⟩
  .have:=g.hi h;exact⟨this.1.ext b,by grind[O6]⟩
 .intro j d h;rcases f h with ⟨rfl,rfl⟩|h
  .exact t
  .exact g.ne h
 .intro j d h;rcases f h with ⟨rfl,rfl⟩|h
  .exact l
  .exact g.reg h
 .intro j k d p q;rcases f p with ⟨B,x⟩|p<;>rcases f q with ⟨y,z⟩|q
  .rw[B,y]
  .grind
  .grind
  .exact g.Xg p q
theorem Good.cut(g:Good n lv N)(k:0<=n)(a:∀i d,M i=some d->N i=some d)(j:∀i d,M i=some d->Ok M d.lo/\Ok M d.hi):Good n lv M/\∀e,Ok M e->den M e=den N e/\el n lv M e=el n lv N e:=by
 have f:Good n lv M:=by
  refine⟨g.od,λh=>g.var (a _ _ h),λh=>?_,λh=>?_,λh=>g.ne (a _ _ h),λh=>g.reg (a _ _ h),λb l=>g.Xg (a _ _ b) (a _ _ l)⟩
  .have b:=(j _ _ h).1;exact⟨b,by rw[<-O6 a b];exact(g.lo (a _ _ h)).2⟩
  .have b:=(j _ _ h).2;exact⟨b,by rw[<-O6 a b];exact(g.hi (a _ _ h)).2⟩
 exact⟨f,λe c=>⟨(f.Ag9 k a c).symm,(O6 a c).symm⟩⟩
end
end
section
def sm:Nat->(Int->Int)->Int
 |0,_=>0
 |k+1,f=>sm k f+f k
theorem EN{f g:Int->Int}:∀{m:Nat},(∀k:Int,0<=k->k<m->f k=g k)->sm m f=sm m g
 |0,_=>rfl
 |m+1,h=>by show sm m f+f m=sm m g+g m;rw[EN (m:=m) λk a b=>h k a (by omega),h m (by omega) (by omega)]
theorem Ale{f g:Int->Int}:∀{m:Nat},sm m (λk=>f k+g k)=sm m f+sm m g
 |0=>rfl
 |m+1=>by show sm m _+(f m+g m)=(sm m f+f m)+(sm m g+g m);rw[Ale (m:=m)];omega
theorem SM{f:Int->Int}:∀{m:Nat},(∀k:Int,0<=k->k<m->0<=f k)->0<=sm m f
 |0,_=>aw _
 |m+1,h=>by show 0<=sm m f+f m;have:=SM (m:=m) λk a b=>h k a (by omega);grind
theorem Afr{f g:Int->Int}:∀{m:Nat},(∀k:Int,0<=k->k<m->f k<=g k)->sm m f<=sm m g
 |0,_=>aw _
 |m+1,h=>by show sm m f+f m<=sm m g+g m;have:=Afr (m:=m) λk a b=>h k a (by omega);grind
theorem Um{m:Nat}:sm m (λ_=>0)=0:=by
 induction m with
 |zero=>rfl
 |succ m a=>grind[sm]
theorem Aaa{m:Nat}{c:Int}:sm m (λ_=>c)=m*c:=by
 induction m with
 |zero=>show (0:Int)=_;simp
 |succ m a=>grind[sm]
theorem Adk{i c:Int}:∀{m:Nat},0<=i->i<m->sm m (λk=>if k=i then c else 0)=c
 |0,a,b=>by omega
 |m+1,a,b=>by
  show sm m _+(if (m:Int)=i then c else 0)=c;by_cases h:(m:Int)=i
  .rw[UV h];have:sm m (λk=>if k=i then c else 0)=sm m (λ_=>0):=EN λk e d=>GT (by omega);grind[Um]
  .rw[GT h,Adk (m:=m) a (by omega)];omega
variable {i:Int}
theorem Atk{f:Int->Int}{m:Nat}(h:∀k:Int,0<=k->k<m->0<=f k)(a:0<=i)(g:i<m):f i<=sm m f:=by have d:sm m (λk=>if k=i then f i else 0)=f i:=Adk a g;rw[<-d];exact Afr λk c b=>by by_cases e:k=i<;>simp only[e,if_true,if_false]<;>first|exact aw _|grind
theorem SN{f g:Int->Int}{m:Nat}(a:0<=i)(c:i<m)(h:∀k,k≠i->f k=g k):sm m f=sm m g+(f i-g i):=by have b:sm m (λk=>if k=i then f i-g i else 0)=f i-g i:=Adk a c;rw[<-b,<-Ale];grind[EN]
theorem Y9{f:Int->Int}{m:Nat}:∀{q:Nat},m<=q->(∀k:Int,m<=k->k<q->f k=0)->sm q f=sm m f
 |0,h,_=>by
  have:m=0:=by omega
  rw[this]
 |q+1,h,a=>by
  by_cases e:m=q+1
  .rw[e]
  .show sm q f+f q=_;rw[Y9 (q:=q) (by omega) λk b c=>a k b (by omega),a q (by omega) (by omega)];omega
def dl(f i:Int):Int:=if f/2=i then 1 else 0
def mu(d:Nd)(i:Int):Int:=dl d.lo i+dl d.hi i
theorem Hd{f i:Int}:0<=dl f i/\dl f i<=1:=by unfold dl;split<;>omega
theorem A0m{d:Nd}{i:Int}:0<=mu d i/\mu d i<=2:=by have:=@Hd d.lo i;have:=@Hd d.hi i;grind[mu]
theorem GW{f:Int}:dl f (f/2)=1:=UV rfl
theorem K9{f:Int}(h:i≠f/2):dl f i=0:=GT (Ne.symm h)
def pt(N:Tb)(c:Int->Int)(i p:Int):Int:=match N p with
 |some d=>if 0<c p then mu d i else 0
 |none=>0
theorem Aly{N:Tb}{c:Int->Int}{p:Int}:0<=pt N c i p/\pt N c i p<=2:=by
 unfold pt;split
 .rename_i d _;have:=@A0m d i;split<;>omega
 .omega
def zr(N:Tb)(c:Int->Int)(p:Int):Int:=match N p with
 |some _=>if c p=0 then 1 else 0
 |none=>0
structure Cn(N:Tb)(m:Nat)(c r:Int->Int):Prop where
 Mg:∀{i d},N i=some d->0<i/\i<m
 nn:∀{i d},N i=some d->0<=c i
 eq:∀{i d},N i=some d->c i=r i+sm m (pt N c i)
section
variable {N:Tb} {m:Nat} {c r:Int->Int}
theorem Aif{i:Int}:0<=sm m (pt N c i):=SM λ_ _ _=>Aly.1
variable {i:Int}
theorem Aig:sm m (pt N c i)<=2*m:=by have h:sm m (pt N c i)<=sm m (λ_=>2):=Afr λ_ _ _=>Aly.2;rw[Aaa]at h;omega
variable {d:Nd}
theorem Cn.ge(h:Cn N m c r)(a:N i=some d):r i<=c i:=by have:=h.eq a;have:=@Aif N m c i;omega
theorem Cn.le(h:Cn N m c r)(a:N i=some d):c i<=r i+2*m:=by have:=h.eq a;simp_all[Aig]
theorem Cn.congr(h:Cn N m c r){r':Int->Int}(b:∀i,0<i->r i=r' i):Cn N m c r':=
 ⟨h.Mg,h.nn,λa=>by rw[h.eq a,b _ (h.Mg a).1]⟩
variable {p:Int}
theorem Cn.kid(h:Cn N m c r)(g:∀{i d},N i=some d->0<=r i){d':Nd}(a:N p=some d)(k:0<c p)(hi:N i=some d')(j:i=d.lo/2∨i=d.hi/2):0<c i:=by
 have n:=h.eq hi;have q:pt N c i p<=sm m (pt N c i):=Atk (λ_ _ _=>Aly.1) (by have:=h.Mg a;omega) (h.Mg a).2;have l:pt N c i p=mu d i:=by grind[pt]
 have o:1<=mu d i:=by have f:=@Hd d.lo i;have b:=@Hd d.hi i;grind[mu,GW]
 grind
def bump(c:Int->Int)(i x:Int):Int->Int:=λj=>if j=i then c j+x else c j
variable {x:Int}
theorem FD:bump c i x i=c i+x:=UV rfl
variable {j:Int}
theorem JQ(h:j≠i):bump c i x j=c j:=GT h
theorem Rs(h:(0<c p)↔0<c p+x):pt N (bump c p x) i j=pt N c i j:=by
 unfold pt;split
 .by_cases e:j=p
  .subst e;rw[FD];by_cases a:0<c j
   .rw[UV a,UV (h.1 a)]
   .rw[GT a,GT (λb=>a (h.2 b))]
  .rw[JQ e]
 .rfl
theorem Afa(h:(c p=0)↔c p+x=0):zr N (bump c p x) j=zr N c j:=by
 unfold zr;split
 .by_cases e:j=p;all_goals simp_all[FD,JQ]
 .rfl
variable {f:Int}
theorem Cn.A0n(h:Cn N m c r)(_:N (f/2)=some d)(j:0<c (f/2)):Cn N m (bump c (f/2) 1) (λi=>r i+dl f i)/\sm m (zr N (bump c (f/2) 1))=sm m (zr N c):=by
 refine⟨⟨h.Mg,λ{i b}a=>?_,λ{i b}a=>?_⟩,EN λk _ _=>Afa (by omega)⟩
 .have:=h.nn a;unfold bump;split<;>omega
 .rw[EN (g:=pt N c i) λk _ _=>Rs (by omega)];have:=h.eq a;grind[FD,GW,JQ,K9]
theorem Cn.A0o(h:Cn N m c r)(a:N (f/2)=some d)(b:c (f/2)=0):Cn N m (bump c (f/2) 1) (λi=>r i+dl f i-mu d i)/\sm m (zr N (bump c (f/2) 1))=sm m (zr N c)-1:=by
 have p:=h.Mg a;refine⟨⟨h.Mg,λ{i q}l=>?_,λ{i q}l=>?_⟩,?_⟩
 .have:=h.nn l;unfold bump;split<;>omega
 .have s:sm m (pt N (bump c (f/2) 1) i)=sm m (pt N c i)+(pt N (bump c (f/2) 1) i (f/2)-pt N c i (f/2)):=SN (by omega) p.2 λk n=>by grind[pt,JQ]
  have j:pt N (bump c (f/2) 1) i (f/2)=mu d i:=by grind[pt,FD]
  have o:pt N c i (f/2)=0:=by grind[pt]
  rw[s,j,o];have:=h.eq l;grind[FD,GW,JQ,K9]
 .rw[SN (g:=zr N c) (i:=f/2) (by omega) p.2 λk n=>by grind[zr,JQ]]
  grind[zr,bump,FD]
theorem Cn.A0s(h:Cn N m c r)(_:N (f/2)=some d)(j:1<c (f/2)):Cn N m (bump c (f/2) (-1)) (λi=>r i-dl f i)/\sm m (zr N (bump c (f/2) (-1)))=sm m (zr N c):=by
 refine⟨⟨h.Mg,λ{i b}a=>?_,λ{i b}a=>?_⟩,EN λk _ _=>Afa (by omega)⟩
 .have:=h.nn a;grind[bump]
 .rw[EN (g:=pt N c i) λk _ _=>Rs (by omega)];have:=h.eq a;grind[FD,GW,JQ,K9]
theorem Cn.A0t(h:Cn N m c r)(a:N (f/2)=some d)(b:c (f/2)=1):Cn N m (bump c (f/2) (-1)) (λi=>r i-dl f i+mu d i)/\sm m (zr N (bump c (f/2) (-1)))=sm m (zr N c)+1:=by
 have p:=h.Mg a;refine⟨⟨h.Mg,λ{i q}l=>?_,λ{i q}l=>?_⟩,?_⟩
 .have:=h.nn l;grind[bump]
 .have s:sm m (pt N (bump c (f/2) (-1)) i)=sm m (pt N c i)+(pt N (bump c (f/2) (-1)) i (f/2)-pt N c i (f/2)):=SN (by omega) p.2 λk n=>by grind[pt,JQ]
  have j:pt N (bump c (f/2) (-1)) i (f/2)=0:=by grind[pt,FD]
  have o:pt N c i (f/2)=mu d i:=by grind[pt]
  rw[s,j,o];have:=h.eq l;grind[FD,GW,JQ,K9]
 .rw[SN (g:=zr N c) (i:=f/2) (by omega) p.2 λk n=>by grind[zr,JQ]]
  grind[zr,bump,FD]
structure Dag(N:Tb)(rk:Int->Int)(n:Int):Prop where
 Mp:∀{i d},N i=some d->0<=rk i/\rk i<n
 lo:∀{i d},N i=some d->Ok N d.lo/\(d.lo/2≠0->rk i<rk (d.lo/2))
 hi:∀{i d},N i=some d->Ok N d.hi/\(d.hi/2≠0->rk i<rk (d.hi/2))
theorem Good.dag{n:Int}{lv:Int->Int}(g:Good n lv N):Dag N (λi=>match N i with|some d=>lv d.v|none=>0) n:=by
 have a:∀{i d e},N i=some d->Ok N e->lv d.v<el n lv N e->(e/2≠0->lv d.v<(match N (e/2) with|some d=>lv d.v|none=>0)):=by intro i d e k j c f;obtain⟨l,b⟩:=j.2.resolve_left f;grind[Bj]
 refine⟨λh=>?_,λh=>?_,λh=>?_⟩
 .have:=g.var h;simp only[h];exact g.od.Mp _ this.2.1 this.2.2
 .have:=g.lo h;grind
 .have:=g.hi h;grind
end
end
end Go.B
