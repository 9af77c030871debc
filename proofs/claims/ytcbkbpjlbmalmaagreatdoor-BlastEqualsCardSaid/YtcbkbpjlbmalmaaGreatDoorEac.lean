/-
  The BDD theory, part b: sums, and the counts of references. (Merged by program out of 14 texts.)
-/
import Derived.Test.YtcbkbpjlbmalmaaGreatDoorEab
import Derived.ChangeKeysEq
import Derived.Test.YtcbkbpjlbmalmaaGreatDoorChecked
open Option renaming some->ν,none->δ
open Decidable renaming decide->χ
open Nat renaming lt_of_lt_of_le->a4,le_of_ble_eq_true->a8,lt_succ_self->a9,le_refl->ab,beq->aj,zero_add->ak,eq_of_beq_eq_true->al,ble->aq,blt->ax,add_assoc->ay,beq_eq->b3,add_comm->b4
open List renaming perm_append_comm_assoc->a5,append_assoc->a6,Perm.refl->aa,cons_append->ad,Perm.append_left->ah,mem_append_left->am,findIdx?_cons->ao,mem_append_right->av,mem_cons_self->az,filter_append->b0,all_eq_true->b5,perm_middle->b6,range'->b7,range->b8,mapM_cons->b9,Perm.cons->ba,map_cons->bb,length->ω
open Bool renaming and_eq_true->a7,not_eq_true'->ac,false_eq_true->ae,or_eq_true->an,eq_iff_iff->au,true->τ,false->ψ
open Int renaming emod_two_eq->ai,le_refl->aw
open Classical renaming propDecidable->ap
open Array renaming replicate->ar
open ByteArray renaming mk->bc
namespace Go.Y
open Go Go.RowKit Go.X
section
section
variable {Y:Sys}
def S1D(Y:Sys):Sh1->Type
 | .dat t=>den Y.D t
 | .own t=>List (den Y.D t)
def L1D(Y:Sys):List Sh1->Type
 | []=>Unit
 |s::l=>S1D Y s×L1D Y l
def ShD(Y:Sys):Sh->Type
 | .one s=>S1D Y s
 | .nat=>Nat
 | .map k e=>List (den Y.D k×den Y.D e)
 | .blk l=>L1D Y l
 | .arr t=>List (den Y.D t)
def VT(Y:Sys):List (Nat×Sh)->Type
 | []=>Unit
 |p::l=>ShD Y p.2×VT Y l
def S1R(I:Cb)(w:World):(s:Sh1)->S1D Y s->Value->Bi->Prop
 | .dat t,x,v,A=>rp Y.toUS t I w v x/\A=[]
 | .own t,x,v,A=>OO Y t I w A v x
def L1R(I:Cb)(w:World):(l:List Sh1)->L1D Y l->List Value->Bi->Prop
 | [],_,vs,A=>vs=[]/\A=[]
 |s::l,x,vs,A=>∃v vs' A1 A2,vs=v::vs'/\A=A1++A2/\v.oneCell'=τ/\S1R I w s x.1 v A1/\L1R I w l x.2 vs' A2
def A8y(x:Nat)(v:Value)(A:Bi):Prop:=v=.int .i64 (x:Int)/\x<=9223372036854775807/\A=[]
def ShR(I:Cb)(w:World):(s:Sh)->ShD Y s->Value->Bi->Prop
 | .one s,x,v,A=>S1R I w s x v A
 | .nat,x,v,A=>A8y x v A
 | .map k e,x,v,A=>Yo Y k e I w A v x
 | .blk l,x,v,A=>∃b arr e A',A=(b,.cells arr e (0,0))::A'/\v=.pointer (ν ⟨b,0,δ⟩)/\L1R I w l x arr.toList A'
 | .arr t,x,v,A=>∃b off len cap,v=.pointer (ν ⟨b,off,δ⟩)/\OO Y t I w A (.slice (ν ⟨b,off,δ⟩) len cap) x
def VTR(I:Cb)(w:World)(f:Fr):(l:List (Nat×Sh))->VT Y l->Bi->Prop
 | [],_,A=>A=[]
 |p::l,x,A=>∃A1 A2,A=A1++A2/\ShR I w p.2 x.1 (f p.1) A1/\VTR I w f l x.2 A2
def Al8:(s:Sh1)->AV Y->List (Nat×CU Y)->Option (S1D Y s×List (Nat×CU Y))
 | .dat t,a,sg=>match VS t a with
  |some x=>ν (x,sg)
  |none=>δ
 | .own t,.own i,sg=>match IT sg i with
  |some (.sl T xs)=>match Ty.dec T t with
   | .isTrue h=>ν ((h▸xs:List (den Y.D t)),G4 sg i)
   | .isFalse _=>δ
  |_=>δ
 | .own _,.val (.slice δ 0 0),sg=>ν ([],sg)
 | .own _,_,_=>δ
variable {g:B3} {v:Value} {A:Bi}
theorem Wi{s:Sh1}{a:AV Y}{sg:List (Nat×CU Y)}{r:S1D Y s×List (Nat×CU Y)}(h:Al8 s a sg=ν r)(hs:F3 g sg A)(b:AR g a v):∃A1 A2,A.Perm (A1++A2)/\S1R g.I g.w s r.1 v A1/\F3 g r.2 A2:=by
 unfold Al8 at h;split at h
 .split at h
  .rename_i x f;cases h;exact⟨[],A,aa _,⟨Dm f b,rfl⟩,hs⟩
  grind
 .split at h
  .rename_i T l c;split at h
   .rename_i e _;subst e;cases h;obtain⟨A1,A2,i,k,d,j⟩:=hs.take c;refine⟨A1,A2,i,?_,j⟩;show OO Y T _ _ _ v _;rw[b.2];exact d
   grind
  grind
 .cases h;obtain rfl:v=_:=b;exact⟨[],A,aa _,@Bw.nil _ (RT Y.toUS _) _ _,hs⟩
 grind
def Aqk:(l:List Sh1)->List (AV Y)->List (Nat×CU Y)->Option (L1D Y l×List (Nat×CU Y))
 | [],[],sg=>ν ((),sg)
 |s::l,a::aE,sg=>match Al8 s a sg with
  |some r=>match Aqk l aE r.2 with
   |some q=>ν ((r.1,q.1),q.2)
   |none=>δ
  |none=>δ
 |_,_,_=>δ
theorem Aji{g:B3}:∀{l:List Sh1}{aE:List (AV Y)}{vs:List Value}{sg:List (Nat×CU Y)}{A:Bi}{r:L1D Y l×List (Nat×CU Y)},Aqk l aE sg=ν r->F3 g sg A->F2 (λa v=>AR g a v/\v.oneCell'=τ) aE vs->∃A1 A2,A.Perm (A1++A2)/\L1R g.I g.w l r.1 vs A1/\F3 g r.2 A2
 | [],[],_,sg,A,r,h,b,.nil=>by cases h;exact⟨[],A,aa _,⟨rfl,rfl⟩,b⟩
 |s::l,a::aE,v::vs,sg,A,r,h,b,.cons d f=>by
  unfold Aqk at h;split at h
  .rename_i t c;split at h
   .rename_i q i;cases h;obtain⟨e,u,p,n,m⟩:=Wi c b d.1;obtain⟨A1,A2,j,k,o⟩:=Aji i m f;exact⟨e++A1,A2,perm_cons p j,⟨v,vs,e,A1,rfl,rfl,d.2,n,k⟩,o⟩
   grind
  grind
 |[],_::_,_,_,_,_,h,_,_|_::_,[],_,_,_,_,h,_,_=>by grind[Aqk]
def A3y:AV Y->List (Nat×CU Y)->Option (Nat×List (Nat×CU Y))
 | .nat j,sg=>ν (j,sg)
 | .val (.int .i64 (.ofNat j)),sg=>match aq j 9223372036854775807 with
  |true=>ν (j,sg)
  |false=>δ
 |_,_=>δ
def getM(k e:Ty):AV Y->List (Nat×CU Y)->Option (List (den Y.D k×den Y.D e)×List (Nat×CU Y))
 | .own i,sg=>match IT sg i with
  |some (.mp k' e' m)=>match Ty.dec k' k,Ty.dec e' e with
   | .isTrue h,.isTrue h'=>ν ((h▸h'▸m:List (den Y.D k×den Y.D e)),G4 sg i)
   |_,_=>δ
  |_=>δ
 |_,_=>δ
def A3z(l:List Sh1):AV Y->List (Nat×CU Y)->Option (L1D Y l×List (Nat×CU Y))
 | .adr i 0,sg=>match IT sg i with
  |some (.blk cs)=>Aqk l cs (G4 sg i)
  |_=>δ
 |_,_=>δ
def A30(t:Ty):AV Y->List (Nat×CU Y)->Option (List (den Y.D t)×List (Nat×CU Y))
 | .el i _ 0 0,sg=>match IT sg i with
  |some (.sl T xs)=>match Ty.dec T t with
   | .isTrue h=>ν ((h▸xs:List (den Y.D t)),G4 sg i)
   | .isFalse _=>δ
  |_=>δ
 |_,_=>δ
def Al7:(s:Sh)->AV Y->List (Nat×CU Y)->Option (ShD Y s×List (Nat×CU Y))
 | .one s,a,sg=>Al8 s a sg
 | .nat,a,sg=>A3y a sg
 | .map k e,a,sg=>getM k e a sg
 | .blk l,a,sg=>A3z l a sg
 | .arr t,a,sg=>A30 t a sg
variable {s:Sh}
theorem Abt{a:AV Y}{sg:List (Nat×CU Y)}{r:ShD Y s×List (Nat×CU Y)}(h:Al7 s a sg=ν r)(hs:F3 g sg A)(d:AR g a v):∃A1 A2,A.Perm (A1++A2)/\ShR g.I g.w s r.1 v A1/\F3 g r.2 A2:=by
 cases s with
 |one s=>exact Wi h hs d
 |nat=>
  simp only[Al7]at h;unfold A3y at h;split at h
  .cases h;exact⟨[],A,aa _,⟨d.1,d.2,rfl⟩,hs⟩
  .split at h
   .rename_i H;cases h;exact⟨[],A,aa _,⟨d,a8 H,rfl⟩,hs⟩
   grind
  grind
 |map k e=>
  simp only[Al7]at h;unfold getM at h;split at h
  .split at h
   .rename_i I K m f;split at h
    .rename_i w D _ _;subst w D;cases h;obtain⟨A1,A2,j,y,c,i⟩:=hs.take f;refine⟨A1,A2,j,?_,i⟩;show Yo Y _ _ _ _ _ v _;rw[d.2];exact c
    grind
   grind
  grind
 |blk l=>
  simp only[Al7]at h;unfold A3z at h;split at h
  .split at h
   .rename_i L f;obtain⟨A1,A2,j,y,⟨b,arr,e,rfl,c,i⟩,z⟩:=hs.take f;obtain⟨x,B,C,G,E⟩:=Aji h z i;obtain⟨_,J,n,o⟩:=d;rw[c]at n;cases n;exact⟨(b,.cells arr e (0,0))::x,B,perm_cons j C,⟨b,arr,e,x,rfl,o,G⟩,E⟩
   grind
  grind
 |arr t=>
  simp only[Al7]at h;unfold A30 at h;split at h
  .split at h
   .rename_i T F f;split at h
    .rename_i w _;subst w;cases h;obtain⟨A1,A2,j,y,c,i⟩:=hs.take f;obtain⟨_,b,p,q,u,n,o⟩:=d;simp only[Nat.zero_mul,Nat.add_zero]at o;refine⟨A1,A2,j,⟨b,p,q,u,o,?_⟩,i⟩;have c:OO Y T g.I g.w A1 (g.μ _) F:=c;grind
    grind
   grind
  grind
def Ag8(fr:List (Nat×AV Y)):(l:List (Nat×Sh))->List (Nat×CU Y)->Option (VT Y l×List (Nat×CU Y))
 | [],sg=>ν ((),sg)
 |p::l,sg=>match Iz fr p.1 with
  |some a=>match Al7 p.2 a sg with
   |some r=>match Ag8 fr l r.2 with
    |some q=>ν ((r.1,q.1),q.2)
    |none=>δ
   |none=>δ
  |none=>δ
theorem Abs{g:B3}{f:Fr}{fr:List (Nat×AV Y)}(b:∀i a,Iz fr i=ν a->AR g a (f i)):∀{l:List (Nat×Sh)}{sg:List (Nat×CU Y)}{A:Bi}{r:VT Y l×List (Nat×CU Y)},Ag8 fr l sg=ν r->F3 g sg A->∃A1 A2,A.Perm (A1++A2)/\VTR g.I g.w f l r.1 A1/\F3 g r.2 A2
 | [],sg,A,r,h,d=>by cases h;exact⟨[],A,aa _,rfl,d⟩
 |p::l,sg,A,r,h,d=>by
  unfold Ag8 at h;split at h
  .rename_i a t;split at h
   .rename_i v c;split at h
    .rename_i q k;cases h;obtain⟨e,w,j,u,o⟩:=Abt c d (b _ _ t);obtain⟨A1,A2,m,n,s⟩:=Abs b k o;exact⟨e++A1,A2,perm_cons j m,⟨e,A1,rfl,u,n⟩,s⟩
    grind
   grind
  grind
def Aoi:(s:Sh1)->S1D Y s->Nat->AV Y×List (Nat×CU Y)×Nat
 | .dat .ptr,x,n=>(.ptr n x,[],n+1)
 | .dat (.int k),x,n=>(.dat (.int k) x,[],n)
 | .dat .bool,x,n=>(.dat .bool x,[],n)
 | .dat .str,x,n=>(.dat .str x,[],n)
 | .dat .mref,x,n=>(.dat .mref x,[],n)
 | .dat (.sl e),x,n=>(.dat (.sl e) x,[],n)
 | .dat (.u m),x,n=>(.dat (.u m) x,[],n)
 | .own t,x,n=>(.own n,[(n,.sl t x)],n+1)
theorem Aiq{s:Sh1}{x:S1D Y s}(h:S1R g.I g.w s x v A):∃g',Le g g'/\g'.w=g.w/\g'.I=g.I/\g'.n=(Aoi s x g.n).2.2/\AR g' (Aoi s x g.n).1 v/\F3 g' (Aoi s x g.n).2.1 A:=by
 have a:=Le.new (g:=g) (v:=v) (Ext.refl g.I g.w);cases s with
 |own t=>
  refine⟨g.new g.w v,a,rfl,rfl,rfl,Gy rfl,A,[],by simp,a9 _,?_,rfl⟩;show OO Y t _ _ _ _ _;rw[g.BA];exact h
 |dat t=>
  obtain⟨h,rfl⟩:=h;cases t with
  |ptr=>exact⟨g.new g.w v,a,rfl,rfl,rfl,⟨a9 _,g.BA _ _,Mf.1 h⟩,rfl⟩
  |_=>exact⟨g,Le.refl _,rfl,rfl,rfl,h,rfl⟩
def Aoh:(l:List Sh1)->L1D Y l->Nat->List (AV Y)×List (Nat×CU Y)×Nat
 | [],_,n=>([],[],n)
 |s::l,x,n=>let r:=Aoi s x.1 n;let q:=Aoh l x.2 r.2.2;(r.1::q.1,r.2.1++q.2.1,q.2.2)
theorem Aip:∀{l:List Sh1}{x:L1D Y l}{g:B3}{vs:List Value}{A:Bi},L1R g.I g.w l x vs A->∃g',Le g g'/\g'.w=g.w/\g'.I=g.I/\g'.n=(Aoh l x g.n).2.2/\F2 (λa v=>AR g' a v/\v.oneCell'=τ) (Aoh l x g.n).1 vs/\F3 g' (Aoh l x g.n).2.1 A
 | [],x,g,vs,A,⟨b,d⟩=>by subst b d;exact⟨g,Le.refl _,rfl,rfl,rfl,.nil,rfl⟩
 |s::l,x,g,vs,A,⟨v,o,B,C,b,d,n,t,z⟩=>by subst b d;obtain⟨y,r,e,h,k,u,m⟩:=Aiq t;obtain⟨w,c,q,p,f,i,j⟩:=Aip (g:=y) (x:=x.2) (by rw[h,e];exact z);rw[k]at f i j;exact⟨w,r.trans c,q.trans e,p.trans h,f,.cons ⟨u.mono c,n⟩ i,(m.mono c).app j⟩
def Aaw:(s:Sh)->ShD Y s->Nat->AV Y×List (Nat×CU Y)×Nat
 | .one s,x,n=>Aoi s x n
 | .nat,x,n=>(.nat x,[],n)
 | .map k e,x,n=>(.own n,[(n,.mp k e x)],n+1)
 | .blk l,x,n=>let q:=Aoh l x (n+1);(.adr n 0,(n,.blk q.1)::q.2.1,q.2.2)
 | .arr t,x,n=>(.el n t 0 0,[(n,.sl t x)],n+1)
theorem Th{x:ShD Y s}(h:ShR g.I g.w s x v A):∃g',Le g g'/\g'.w=g.w/\g'.I=g.I/\g'.n=(Aaw s x g.n).2.2/\AR g' (Aaw s x g.n).1 v/\F3 g' (Aaw s x g.n).2.1 A:=by
 have a:=Le.new (g:=g) (v:=v) (Ext.refl g.I g.w);cases s with
 |one s=>exact Aiq h
 |nat=>obtain⟨u,C,rfl⟩:=h;exact⟨g,Le.refl _,rfl,rfl,rfl,⟨u,C⟩,rfl⟩
 |map k e=>
  refine⟨g.new g.w v,a,rfl,rfl,rfl,Gy rfl,A,[],by simp,a9 _,?_,rfl⟩;show Yo Y _ _ _ _ _ _ _;rw[g.BA];exact h
 |blk l=>
  obtain⟨b,arr,e,r,rfl,rfl,w⟩:=h;obtain⟨o,j,q,z,B,y,p⟩:=Aip (g:=g.new g.w (.pointer (ν ⟨b,0,δ⟩))) w;have m:g.n<(g.new g.w (.pointer (ν ⟨b,0,δ⟩))).n:=a9 _;have f:o.μ g.n=.pointer (ν ⟨b,0,δ⟩):=by rw[j.μ _ m,g.BA]
  refine⟨o,a.trans j,q,z,B,⟨a4 m j.n,b,f,rfl⟩,[(b,.cells arr e (0,0))],r,rfl,a4 m j.n,⟨b,arr,e,rfl,f,y⟩,p⟩
 |arr t=>
  obtain⟨b,i,c,d,rfl,h⟩:=h;refine⟨g.new g.w (.slice (ν ⟨b,i,δ⟩) c d),Le.new (g:=g) (Ext.refl g.I g.w),rfl,rfl,rfl,⟨a9 _,b,i,c,d,g.BA _ _,by simp⟩,A,[],by simp,a9 _,?_,rfl⟩;show OO Y t _ _ _ _ _;rw[g.BA];exact h
def rnm(fr:List (Nat×AV Y))(kp:List Nat)(t:Nat):Option Nat:=match N0 t kp,Iz fr t with
 |true,ν (.own i)=>ν i
 |_,_=>δ
def Ato(rn:Option Nat):(s:Sh)->ShD Y s->Nat->AV Y×List (Nat×CU Y)×Nat
 | .one (.own t),x,n=>match rn with
  |some i=>(.own i,[(i,.sl t x)],n)
  |none=>Aaw (.one (.own t)) x n
 | .one (.dat t),x,n=>Aaw (.one (.dat t)) x n
 | .nat,x,n=>Aaw .nat x n
 | .map k e,x,n=>match rn with
  |some i=>(.own i,[(i,.mp k e x)],n)
  |none=>Aaw (.map k e) x n
 | .blk l,x,n=>Aaw (.blk l) x n
 | .arr t,x,n=>Aaw (.arr t) x n
theorem Atn{rn:Option Nat}{x:ShD Y s}(c:∀i,rn=ν i->i<g.n/\g.μ i=v)(h:ShR g.I g.w s x v A):∃g',Le g g'/\g'.w=g.w/\g'.I=g.I/\g'.n=(Ato rn s x g.n).2.2/\AR g' (Ato rn s x g.n).1 v/\F3 g' (Ato rn s x g.n).2.1 A:=by
 cases s with
 |one s=>
  cases s with
  |dat t=>exact Th h
  |own t=>
   cases rn with
   |none=>exact Th h
   |some i=>
    obtain⟨a,b⟩:=c i rfl;refine⟨g,Le.refl _,rfl,rfl,rfl,⟨a,b.symm⟩,A,[],by simp,a,?_,rfl⟩;show OO Y t _ _ _ _ _;rw[b];exact h
 |nat=>exact Th h
 |map k e=>
  cases rn with
  |none=>exact Th h
  |some i=>
   obtain⟨a,b⟩:=c i rfl;refine⟨g,Le.refl _,rfl,rfl,rfl,⟨a,b.symm⟩,A,[],by simp,a,?_,rfl⟩;show Yo Y _ _ _ _ _ _ _;rw[b];exact h
 |blk l|arr t=>exact Th h
def Aav(fr:List (Nat×AV Y))(kp:List Nat):(l:List (Nat×Sh))->VT Y l->Nat->List (Nat×AV Y)×List (Nat×CU Y)×Nat
 | [],_,n=>([],[],n)
 |p::l,x,n=>let r:=Ato (rnm fr kp p.1) p.2 x.1 n;let q:=Aav fr kp l x.2 r.2.2;((p.1,r.1)::q.1,r.2.1++q.2.1,q.2.2)
theorem Aau{f:Fr}{fr:List (Nat×AV Y)}{kp:List Nat}:∀{l:List (Nat×Sh)}{x:VT Y l}{g:B3}{A:Bi},(∀t i,rnm fr kp t=ν i->i<g.n/\g.μ i=f t)->VTR g.I g.w f l x A->∃g',Le g g'/\g'.w=g.w/\g'.I=g.I/\g'.n=(Aav fr kp l x g.n).2.2/\(∀i a,Iz (Aav fr kp l x g.n).1 i=ν a->AR g' a (f i))/\F3 g' (Aav fr kp l x g.n).2.1 A
 | [],x,g,A,d,h=>by cases h;exact⟨g,Le.refl _,rfl,rfl,rfl,by grind[Aav,Iz],rfl⟩
 |p::l,x,g,A,d,⟨H,G,F,D,u⟩=>by
  subst F;obtain⟨z,j,k,q,s,C,E⟩:=Atn (d p.1) D;obtain⟨B,c,y,v,m,n,r⟩:=Aau (g:=z) (x:=x.2) (λt i b=>by obtain⟨o,w⟩:=d t i b;exact⟨a4 o j.n,by rw[j.μ i o];exact w⟩) (by rw[q,k];exact u)
  rw[s]at m n r;refine⟨B,j.trans c,y.trans k,v.trans q,m,λi a b=>?_,(E.mono c).app r⟩;unfold Aav Iz at b;simp only at b;by_cases e:p.1=i
  .rw[UV e]at b;cases b;subst e;exact C.mono c
  grind
def A3k:AV Y->Bool
 | .own _ | .adr _ _ | .el _ _ _ _ | .sub _ _ _=>ψ
 |_=>τ
def Vt(fr:List (Nat×AV Y)):List Nat->List (Nat×AV Y)
 | []=>[]
 |t::l=>match Iz fr t with
  |some a=>match A3k a with
   |true=>(t,a)::Vt fr l
   |false=>Vt fr l
  |none=>Vt fr l
theorem Xu{fr:List (Nat×AV Y)}{i:Nat}{a:AV Y}:∀{l:List Nat},Iz (Vt fr l) i=ν a->Iz fr i=ν a/\N0 i l=τ
 | [],h=>by grind[Vt,Iz]
 |t::l,h=>by
  have c:Iz (Vt fr l) i=ν a->Iz fr i=ν a/\N0 i (t::l)=τ:=λh=>by obtain⟨f,g⟩:=Xu h;grind[N0]
  unfold Vt at h;split at h
  .rename_i b e;split at h
   .unfold Iz at h;by_cases d:t=i;all_goals simp_all[N0]
   grind
  grind
theorem Abl{i:Nat}{a:AV Y}:∀{l m:List (Nat×AV Y)},Iz (l++m) i=ν a->Iz l i=ν a∨Iz m i=ν a
 | [],_,h=>.inr h
 |p::l,m,h=>by have h:(if p.1=i then ν p.2 else Iz (l++m) i)=ν a:=h;show (if p.1=i then ν p.2 else Iz l i)=ν a∨_;by_cases b:p.1=i;all_goals simp_all[Abl]
def hdC(c:Cf Y)(la:LA)(x:VT Y la.vars)(H:HH Y):Cf Y:={fr:=(Aav c.fr la.BX la.vars x c.nx).1++Vt c.fr la.BX,sg:=(Aav c.fr la.BX la.vars x c.nx).2.1,nx:=(Aav c.fr la.BX la.vars x c.nx).2.2,H:=H,op:=δ,hs:=c.hs,pt:=la.BX++c.pt}
theorem PJ{i:Nat}:∀{l m:List Nat},N0 i l=τ->N0 i (l++m)=τ
 |_::l,m,h=>by simp only[ad,N0,an]at h ⊢;exact h.imp id PJ
theorem UG{i:Nat}:∀{l m:List Nat},N0 i m=τ->N0 i (l++m)=τ
 | [],_,h=>h
 |_::l,m,h=>by simp_all[ad,N0,UG]
theorem Aqg{g0 g1:B3}{T AH AH1 A1:Bi}{c:Cf Y}{f f1:Fr}(h:RG g0 T c f g AH A){la:LA}(k:Ext g.I g.w g1.I g1.w)(m:∀i,i<g.n->g1.μ i=g.μ i)(e:∀t,N0 t (la.BX++c.pt)=τ->f1 t=f t){x:VT Y la.vars}{H:HH Y}(K:VTR g1.I g1.w f1 la.vars x A1)(r:St g1.I g1.w (AH1++(A1++T)))(M:Ip (Ra Y) g1.I g1.w H AH1):∃g2,g2.w=g1.w/\g2.φ=f/\Lx g g2/\RG g0 T (hdC c la x H) f1 g2 AH1 A1:=by
 let B:B3:={I:=g1.I,w:=g1.w,n:=g.n,μ:=g1.μ,φ:=f}
 obtain⟨g2,o,l,p,z,v,s⟩:=Aau (g:=B) (fr:=c.fr) (kp:=la.BX) (λt i d=>by
  unfold rnm at d;split at d
  .rename_i j J E;injection d with d
   subst d;obtain⟨u,C⟩:=h.fr t _ E;grind[PJ]
  grind) K
 have F:B.n=c.nx:=h.n;rw[F]at z v s;have b:Le {g with φ:=f} g2:=⟨by grind,o.n,λi d=>by rw[o.μ i d];grind,o.φ⟩
 refine⟨g2,l,o.φ,⟨b.ext,b.n,b.μ⟩,z,by rw[p,l];exact h.le.trans k,by grind,by show Ip _ _ _ _ _;rw[p,l];exact M,s,λy q=>⟨a4 (h.hs y q).1 b.n,by rw[b.μ _ (h.hs y q).1];exact(h.hs y q).2⟩,λt L=>by rw[o.φ];exact e t L,λi a d=>?_⟩;rcases Abl d with d|d
 .grind
 .obtain⟨D,G⟩:=Xu d;rw[e i (PJ G)];have:=(h.fr i a D)
  exact AR.mono (g:={g with φ:=f}) b (by cases a<;>exact this)
end
end
section
section
variable {P:Program} {ops:Array Oper} {R:List PanicEntry->World->Prop} {V:Act->World->Prop} {S S':World->Prop}
theorem Ahw(h:∀w,S' w->S w):∀(n:Nat)(l:Array Bool)(a:Act)(w:World),Yk P ops R V S' n l a w->Yk P ops R V S n l a w
 |0,_,_,_,r=>r
 |n+1,_,_,_,r=>⟨r.1,λi d=>(r.2 i d).mono λc e b=>⟨h _ b.1,Ahw h n _ c e b.2⟩⟩
theorem Asf{E:List Nat}{w1:World}(h:∀w,S' w->S w):∀(n:Nat)(l:Array Bool)(a:Act)(w:World),YX P ops R V S' E w1 n l a w->YX P ops R V S E w1 n l a w
 |0,_,_,_,r=>r
 |n+1,_,_,_,r=>⟨r.1,λi f=>(r.2 i f).mono λd e b=>by
  by_cases c:E.contains i=τ
  .rw[UV c]at b ⊢;grind[Ahw]
  .rw[GT c]at b ⊢;exact⟨b.1,Asf h n _ d e b.2⟩⟩
theorem Amp{R:RL->World->Prop}{fn:FK}{N:Nat}{k:List Item}{E:List Nat}{n:Nat}{l:Array Bool}{f:Fr}{w:World}(h:∀w,S' w->S w)(r:WE P fn N ops k R S' E n l f w):WE P fn N ops k R S E n l f w:=λa b=>Asf h _ _ _ _ (r a b)
theorem A8s{R:RL->World->Prop}{fn:FK}{N:Nat}{k:List Item}{n:Nat}{l:Array Bool}{f:Fr}{w:World}(h:∀w,S' w->S w)(r:WG P fn N ops k R S' n l f w):WG P fn N ops k R S n l f w:=λa b=>Ahw h _ _ _ _ (r a b)
end
section
variable {Y:Sys}
variable {g g':B3}
theorem Sx.le(h:Le g g'){w:World}(s:Sx g' w):Sx g w:=⟨let e:=h.ext.trans s.ext;⟨e.os,e.tape,e.output,e.size,λ_ a=>a,e.BX⟩⟩
structure ZQ(D:Bi)(g:B3)(w:World):Prop where
 sx:Sx g w
 kp:∀p∈D,w.heap[p.1]?=ν p.2
variable {D:Bi}
theorem ZQ.le(h:Le g g'){w:World}(s:ZQ D g' w):ZQ D g w:=⟨s.sx.le h,s.kp⟩
variable {g0:B3} {T AH A:Bi} {c:Cf Y} {f:Fr}
theorem RG.shd(h:RG g0 (D++T) c f g AH A):ZQ D g g.w:=⟨Sx.refl g,λp a=>(h.st.own p (av _ (av _ (am _ a)))).1⟩
theorem RG.A2m(hle:Le g g')(h:RG g0 (D++T) c f g' AH A):ZQ D g g'.w:=h.shd.le hle
theorem Hy.more{X:Vg Y}{R:List PanicEntry->World->Prop}(h:Hy g0 T X R):Hy g0 (D++T) X R:=λv b c a e t l u f d=>h v b c a e t l u f (DQ d)
def rdH(hd:List (Nat×CU Y))(c:Cf Y):Op->Option (TypeId×Operand×Nat×Nat×List (AV Y))
 | .load t x=>match E9 c x with
  |some (.adr i o)=>match IT hd i with
   |some (.blk cs)=>ν (t,x,i,o,cs)
   |_=>δ
  |_=>δ
 |_=>δ
theorem Ayj{hid:List (Nat×CU Y)}{op:Op}{t:TypeId}{x:Operand}{i o:Nat}{cs:List (AV Y)}(h:rdH hid c op=ν (t,x,i,o,cs)):op=.load t x/\E9 c x=ν (.adr i o)/\IT hid i=ν (.blk cs):=by unfold rdH at h;grind
def NS(c:Cf Y):Op->Bool
 | .move _ | .assign _ | .pick _ _ _ | .nilCheck _ | .fieldAddr _ _ _ | .indexAddr _ _ _ | .binOp _ _ _ _ _ | .unOp _ _ _ | .convert _ _ _ | .extract _ _ | .index _ _ _ | .field _ _ _ | .build _ _ | .makeInterface _ _=>τ
 | .load _ x=>match E9 c x with
  |some (.del _ _ _)|some (.fbx _ _ _)=>τ
  |_=>ψ
 | .call ⟨.builtin .len,_,_⟩ | .call ⟨.builtin .min,_,_⟩ | .call ⟨.builtin .max,_,_⟩=>τ
 |_=>ψ
def A67:Op->Bool
 | .load _ _=>τ
 |_=>ψ
def Az7(E:Env Y)(o:Op):Bool:=match pfC E o with
 |some _=>ψ
 |none=>match o with
  | .move _ | .assign _ | .pick _ _ _ | .nilCheck _ | .fieldAddr _ _ _ | .indexAddr _ _ _ | .binOp _ _ _ _ _ | .unOp _ _ _ | .convert _ _ _ | .extract _ _ | .index _ _ _ | .field _ _ _ | .build _ _ | .makeInterface _ _ | .load _ _=>ψ
  | .call ⟨.builtin .len,_,_⟩ | .call ⟨.builtin .min,_,_⟩ | .call ⟨.builtin .max,_,_⟩=>ψ
  |_=>τ
def prz(c:Cf Y):Op->Cf Y
 | .build t ps=>Ajq c t ps
 | .makeInterface _ x=>PQ c x
 |_=>c
theorem Aok(h:RG g0 T c f g AH A)(o:Op):∃g' A',g'.w=g.w/\Le g g'/\RG g0 T (prz c o) f g' AH A':=by
 unfold prz;split
 .exact Ael h _ _
 .exact K9 h _
 .exact⟨g,A,rfl,Le.refl _,h⟩
def okB(ops:Array Oper)(l:Array Bool)(ef:List Nat)(i:Nat):Bool:=Region.noSelect ops&&Region.free .any ops l i&&(Region.ready .any ops l).contains i&&!(ef.contains i)
def unl(l:Array Bool)(ef:List Nat):List Nat:=ef.filter λe=>!(l.getD e τ)
def Azf(ops:Array Oper)(l:Array Bool)(ef:List Nat)(i:Nat):Bool:=Anf .any ops l (unl l ef) i&&A38 l ef (unl l ef)
def grd(ops:Array Oper)(o:Oper)(c:Cf Y)(k:Bool->Cf Y->Prop):Prop:=match o.guard with
 |none=>k τ c
 |some (j,b)=>match (ops[j]?).bind (·.dst) with
  |some d=>match Aui (Iz c.fr d) with
   |true=>k ψ c
   |false=>match (Iz c.fr d).bind asB with
    |some (.kn t)=>k (t==b) c
    |some (.pr p _)=>(p->k (τ==b) (c.set d (.val (.bool τ))))/\(¬p->k (ψ==b) (c.set d (.val (.bool ψ))))
    |none=>False
  |none=>False
theorem Abr(h:RG g0 T c f g AH A){ops:Array Oper}{o:Oper}{k:Bool->Cf Y->Prop}(e:grd ops o c k):∃t c',k t c'/\RG g0 T c' f g AH A/\Region.wanted o (yl ops f)=t:=by
 unfold grd at e;split at e
 .grind[Region.wanted]
 .rename_i j b n;split at e
  .rename_i d u;have v:∀{p:BV},(Iz c.fr d).bind asB=ν p->f d=.bool p.val:=λ{p}i=>by
    cases r:Iz c.fr d with
    |none=>grind
    |some a=>rw[r]at i;exact O4 i (h.fr d a r)
   have s:∀{t:Bool},f d=.bool t->Region.wanted o (yl ops f)=(t==b):=λ{t}m=>by grind[yl,Region.wanted]
   split at e
   .rename_i w;exact⟨ψ,c,e,h,YY n u (Ai9 w λa y=>h.fr d a y)⟩
   split at e
   .rename_i t m;exact⟨_,c,e,h,s (v m)⟩
   .rename_i p q m;have l:=v m;by_cases i:p
    .have l:f d=.bool τ:=by rw[l];show Value.bool (@decide p q)=_;rw[@decide_eq_true p q i]
     exact⟨_,_,e.1 i,h.cons (a:=.val (.bool τ)) l,s l⟩
    .have l:f d=.bool ψ:=by rw[l];show Value.bool (@decide p q)=_;rw[@decide_eq_false p q i]
     exact⟨_,_,e.2 i,h.cons (a:=.val (.bool ψ)) l,s l⟩
   grind
  grind
def Aol(E:Env Y)(hid:List (Nat×CU Y))(ops:Array Oper)(l:Array Bool)(ef:List Nat)(c:Cf Y):List Nat->Option Nat
 | []=>δ
 |i::rs=>match ops[i]? with
  |some o=>match okB ops l ef i&&(NS c o.op ||(rdH hid c o.op).isSome ||(pfC E o.op).isSome ||(A67 o.op&&Azf ops l ef i)) with
   |true=>ν i
   |false=>Aol E hid ops l ef c rs
  |none=>Aol E hid ops l ef c rs
def A01(p:Nat->Prop):List Nat->Prop
 | []=>True
 | [i]=>p i
 |i::l=>p i/\A01 p l
theorem Aj2{p:Nat->Prop}:∀{l:List Nat},A01 p l->∀i∈l,p i
 | [],_,i,a=>by cases a
 | [j],h,i,a=>by simp at a;subst a;exact h
 |j::k::l,h,i,a=>by
  rcases List.mem_cons.1 a with rfl|a
  .exact h.1
  .exact Aj2 h.2 i a
def XI(E:Env Y)(hid:List (Nat×CU Y))(ops:Array Oper)(ef:List Nat)(k:Cf Y->Prop):Nat->Array Bool->Cf Y->Prop
 |n,l,c=>match Region.ready .any ops l with
  | []=>k c
  |r::rs=>match n with
   |0=>False
   |n+1=>match Aol E hid ops l ef c (r::rs) with
    |some i=>match ops[i]? with
     |some o=>match o.dst with
      |some d=>Fx (okB ops l ef i&&ax d E.N) (grd ops o c λt c=>
        let K:AV Y->Cf Y->Prop:=λa c'=>c'.put E.N o.dst a λc''=>XI E hid ops ef k n (l.setIfInBounds i τ) c''
        match t with
        |false=>K (.val undef) c
        |true=>match NS c o.op with
         |true=>V6 (prz c o.op) o.op K
         |false=>match rdH hid c o.op with
         |some (t,_,_,p,cs)=>Tg t cs p λa=>K a c
         |none=>match pfC E o.op with
          |some r=>pcX c r K
          |none=>match o.op with
           | .load ty x=>match E9 c x with
            |some a=>Fx (Azf ops l ef i) (Adj c ty a λa c=>rdX (VN c ty a) ty a λb=>K b (VN c ty a))
            |none=>False
           |_=>False)
      |none=>False
     |none=>False
    |none=>A01 (λi=>match ops[i]? with
      |some o=>match ef.contains i with
       |true=>grd ops o c λt c=>match t with
        |true=>xop E {o with guard:=δ} c λc''=>XI E hid ops ef k n (l.setIfInBounds i τ) c''
        |false=>c.put E.N o.dst (.val undef) λc''=>XI E hid ops ef k n (l.setIfInBounds i τ) c''
       |false=>grd ops o c λt c=>match t with
        |false=>c.put E.N o.dst (.val undef) λc''=>XI E hid ops ef k n (l.setIfInBounds i τ) c''
        |true=>match o.op with
         | .load ty x=>match E9 c x with
           |some a=>Adj c ty a λa c=>rdX (VN c ty a) ty a λb=>(VN c ty a).put E.N o.dst b λc''=>XI E hid ops ef k n (l.setIfInBounds i τ) c''
           |none=>False
         |_=>False
      |none=>False) (r::rs)
theorem A0s{E:Env Y}{fn:FK}{gh:B3}{hid:List (Nat×CU Y)}(hD:F3 gh hid D){R:RL->World->Prop}(hR:Hy g0 (D++T) E.X (fn.at R)){ops:Array Oper}{ef:List Nat}{kk:Cf Y->Prop}{k:List Item}:∀(n:Nat){l:Array Bool}{c:Cf Y}{f:Fr}{g:B3}{AH A:Bi},Le gh g->RG g0 (D++T) c f g AH A->XI E hid ops ef kk n l c->(∀c' f' g' AH' A',Le g g'->RG g0 (D++T) c' f' g' AH' A'->kk c'->WT Y.P fn E.N k R f' g'.w)->WE Y.P fn E.N ops k R (ZQ D g) ef n l f g.w:=by
 intro n;induction n with
 |zero=>
  intro l c f g AH A hgh h e G;unfold XI at e;split at e
  .rename_i U;exact Aqw U (G c f g AH A (Le.refl _) h e)
  grind
 |succ n ih=>
  intro l c f g AH A hgh h e G;have wd:∀{o:Oper}{t:Bool},Region.wanted o (yl ops f)=t->True:=λ_=>trivial;have s:∀{c':Cf Y}{f':Fr}{g':B3}{AH' A':Bi}{l':Array Bool},Le g g'->RG g0 (D++T) c' f' g' AH' A'->XI E hid ops ef kk n l' c'->WE Y.P fn E.N ops k R (ZQ D g') ef n l' f' g'.w:=λj U W=>ih (hgh.trans j) U W λV f2 z AH2 A2 hle2 m hk2=>G V f2 z AH2 A2 (j.trans hle2) m hk2;unfold XI at e;split at e
  .rename_i U;exact Aqw U (G c f g AH A (Le.refl _) h e)
  .rename_i r rs U;simp only at e;split at e
   .rename_i i hi;split at e
    .rename_i o ho;split at e
     .rename_i d W;obtain⟨hb,e⟩:=AJ e;simp only[a7]at hb;obtain⟨t,c1,e,y,P⟩:=Abr h e;have lay:∀{V:Cf Y}{z:B3}{A2:Bi}{a:AV Y}{v:Value},z.w=g.w->Le g z->RG g0 (D++T) V f z AH A2->AR z a v->(V.put E.N o.dst a λL=>XI E hid ops ef kk n (l.setIfInBounds i τ) L)->
        (∀w,ZQ D z w->WL Y.P E.N ops (λ_ _=>False) τ (λf' I=>f'=Go.X.put E.N f o.dst v/\I=w) [o] f w)->WE Y.P fn E.N ops k R (ZQ D g) ef (n+1) l f g.w:=λ{V z A2 a v}u j m ha hp hrun=>by
       obtain⟨c3,g3,C,F,H,Q,k5⟩:=m.put ha hp
       refine Amp (S':=ZQ D z) (λw x=>x.le j) ?_
       rw[<-u]
       refine N5 ho W hb.2 hb.1 rfl (by have:=m.shd;omega) hrun ?_
       have:=s (j.trans Q) k5 C
       rw[F]at this
       exact Amp (λw x=>x.le Q) this
      split at e
      .exact lay (a:=.val undef) (v:=undef) rfl (Le.refl _) y rfl e λw _=>by grind[WL]
      .obtain⟨B,op,ty,N,af,gd⟩:=o;have run:∀{v:Value}{w:World},LQ Y.P f op ty v w->WL Y.P E.N ops (λ_ _=>False) τ (λf' I=>f'=Go.X.put E.N f B v/\I=w) [⟨B,op,ty,N,af,gd⟩] f w:=λhy=>by simp only[WL,P,if_true];rw[hy B N af gd];exact⟨rfl,rfl⟩
       simp only at e;split at e
       .obtain⟨z,A2,u,j,m⟩:=Aok y op;obtain⟨v,a,c',g3,C,m1,Z,F,H,Q⟩:=Ww (ty:=ty) m e;exact lay (m1.trans u) (j.trans Z) F H C λw x=>run (Q w (x.sx.le Z))
       .split at e
        .rename_i t2 x2 i2 p2 cs2 hrd;obtain⟨e1,e2,e3⟩:=Ayj hrd;have hx9:=e;have e1:op=_:=e1;subst e1;obtain⟨B1,B2,hpm,hin,hsr,_⟩:=hD.take e3;obtain⟨_,b2,h4,h5⟩:=y.ev e2;obtain⟨v,a,C,F,H⟩:=Aat (ty:=ty) hx9 (hsr.mono hgh hin) h4 h5;exact lay rfl (Le.refl _) y F C λw x=>run (H w λp hp=>x.kp p (hpm.symm.mem_iff.1 (am _ hp)))
        split at e
        .rename_i r U;obtain⟨v,a,V,z,C,F,H,Q,k5,k6⟩:=Ago y e;obtain⟨c3,g3,m1,Z,m3,m4,m5⟩:=Q.put k5 C;obtain⟨at2,he⟩:=Agn U;subst he;refine Ajv ho W hb.1 h.shd P (λw x=>.inr ⟨_,_,U3 r.2.1.can B ty N af gd,k6 w x.sx⟩) ?_;have:=s (H.trans m4) m5 m1;rw[Z,F]at this;exact Amp (λw x=>x.le (H.trans m4)) this
        split at e
        .split at e
         .rename_i a ha;obtain⟨hm,e⟩:=AJ e;simp only[Azf,a7]at hm;obtain⟨a,c0,g0',AH0,A0,e,S,J,hr0,ha0⟩:=QJ y e (y.ev ha);obtain⟨z,A2,u,j,m⟩:=Wj hr0 _ a;obtain⟨v,b,C,F,H⟩:=WR (ty:=ty) (k:=λb=>(VN c0 _ a).put E.N B b λL=>XI E hid ops ef kk n (l.setIfInBounds i τ) L) m e (ha0.mono j);replace u:=u.trans S;replace j:=J.trans j;obtain⟨c3,g3,m1,Z,m3,m4,m5⟩:=m.put F C;refine Amp (S':=ZQ D z) (λw x=>x.le j) ?_;rw[<-u];have hb1:=hb.1;simp only[okB,a7]at hb1;refine A39 (unl l ef) ho W hb.2 (by simp only[a7];exact⟨⟨hb1,hm.1⟩,hm.2⟩) rfl (run H) ?_;have:=s (j.trans m4) m5 m1;rw[Z]at this;exact Amp (λw x=>x.le m4) this
         .exact e.elim
        grind
     grind
    grind
   .refine A4b U (by simp) λi hi a ha=>?_;have e:=Aj2 e i hi;split at e
    .rename_i o ho;split at e
     case h_2 hE=>
      obtain⟨t,c1,e,y,P⟩:=Abr h e
      rw[hE]
      have O:∀{c':Cf Y}{f':Fr}{g':B3}{AH' A':Bi},g'.w=g.w->Le g g'->RG g0 (D++T) c' f' g' AH' A'->XI E hid ops ef kk n (l.setIfInBounds i τ) c'->WE Y.P fn E.N ops k R (ZQ D g) ef n (l.setIfInBounds i τ) f' g.w:=λhw' j M W=>by have:=s j M W;rw[hw']at this;exact Amp (λw x=>x.le j) this
      refine QL (K:=λf' I=>I=g.w/\WE Y.P fn E.N ops k R (ZQ D g) ef n (l.setIfInBounds i τ) f' g.w) ha ho (λf' I a' y h2=>⟨h2.1,by rw[h2.1];exact h2.2 a' y⟩) ?_
      split at e
      .obtain⟨V,z,C,F,H,Q,k5⟩:=y.put (a:=.val undef) (v:=undef) rfl e
       exact Ah5 P ⟨rfl,O F Q k5 C⟩
      .obtain⟨B,op,ty,N,af,gd⟩:=o
       simp only at e
       split at e
       .split at e
        .rename_i a2 ha2
         obtain⟨a3,c0,g0',AH0,A0,e,S,J,hr0,ha0⟩:=QJ y e (y.ev ha2)
         obtain⟨z,A2,u,j,m⟩:=Wj hr0 _ a3
         obtain⟨v,b,C,F,H⟩:=WR (ty:=ty) (k:=λb=>(VN c0 _ a3).put E.N B b λL=>XI E hid ops ef kk n (l.setIfInBounds i τ) L) m e (ha0.mono j)
         obtain⟨c3,g3,m1,Z,m3,m4,m5⟩:=m.put F C
         rw[u,S]at H
         simp only[WL,P,if_true]
         rw[H B N af gd]
         exact⟨rfl,O (Z.trans (u.trans S)) (J.trans (j.trans m4)) m5 m1⟩
        .exact e.elim
       .exact e.elim
     rename_i hE;rw[hE];simp only[if_true];obtain⟨t,c1,e,y,P⟩:=Abr h e;have O:∀c' f' g' AH' A',Le g g'->RG g0 (D++T) c' f' g' AH' A'->XI E hid ops ef kk n (l.setIfInBounds i τ) c'->ZQ D g g'.w/\WG Y.P fn E.N ops k R (ZQ D g) n (l.setIfInBounds i τ) f' g'.w:=λc' f' g' AH' A' j M W=>⟨M.A2m j,A8s (λw x=>x.le j) (Aby ef M.shd (s j M W))⟩
     refine QL (K:=λf' I=>ZQ D g I/\WG Y.P fn E.N ops k R (ZQ D g) n (l.setIfInBounds i τ) f' I) ha ho (λf' I a' y h2=>⟨h2.1,h2.2 a' y⟩) ?_;split at e
     .have hwl:=Afz y rfl e (ops:=ops) (R:=fn.at R) (K:=λf' I=>ZQ D g I/\WG Y.P fn E.N ops k R (ZQ D g) n (l.setIfInBounds i τ) f' I) (os:=[]) hR O;cases hg:o.guard with
      |none=>
       have:o={o with guard:=δ}:=by rw[<-hg]
       rw[this];exact hwl
      |some q=>
       have he:o={o with guard:=ν q}:=by rw[<-hg]
       rw[he]at P ⊢;exact Ane P hwl
     .obtain⟨V,z,C,F,H,Q,k5⟩:=y.put (a:=.val undef) (v:=undef) rfl e;refine Ah5 P ?_;have:=O V _ z _ _ Q k5 C;rw[F]at this;exact this
    .exact e.elim
def hdL:List (Nat×List Nat)->Nat->List Nat
 | [],_=>[]
 |p::l,i=>if p.1=i then p.2 else hdL l i
def hdI(c:Cf Y)(ts:List Nat)(i:Nat):Bool:=ts.any λt=>match Iz c.fr t with
 |some (.adr j _)=>aj j i
 |_=>ψ
def spS(p:Nat->Bool):List (Nat×CU Y)->List (Nat×CU Y)×List (Nat×CU Y)
 | []=>([],[])
 |s::l=>match p s.1 with
  |true=>(s::(spS p l).1,(spS p l).2)
  |false=>((spS p l).1,s::(spS p l).2)
theorem An2{g:B3}{p:Nat->Bool}:∀{l:List (Nat×CU Y)}{A:Bi},F3 g l A->∃A1 A2,A.Perm (A1++A2)/\F3 g (spS p l).1 A1/\F3 g (spS p l).2 A2
 | [],_,h=>⟨[],[],by rw[show _=[] from h];rfl,rfl,rfl⟩
 |s::l,A,⟨a,n,m,f,j,k⟩=>by
  obtain⟨c,b,e,d,i⟩:=An2 (p:=p) k;subst m;unfold spS;cases p s.1 with
  |true=>exact⟨a++c,b,by rw[a6];exact e.append_left a,⟨a,c,rfl,f,j,d⟩,i⟩
  |false=>exact⟨c,a++b,(e.append_left a).trans (a5 _ _ _),d,⟨a,b,rfl,f,j,i⟩⟩
def drX(E:Env Y)(id:Nat)(ops:Array Oper)(c:Cf Y)(k:Cf Y->Prop):Prop:=
 Fx (Y.P.follows .mixedOrders) (match hdL E.hd id with
  | []=>XI E [] ops ((b8 ops.size).filter λi=>match ops[i]? with |some o=>Az7 E o.op |none=>ψ) k ops.size (ar ops.size ψ) c
  |t::ts=>cls c λc=>XI E (spS (hdI c (t::ts)) c.sg).1 ops ((b8 ops.size).filter λi=>match ops[i]? with |some o=>Az7 E o.op |none=>ψ) (λc'=>cls c' λc'=>k {c' with sg:=(spS (hdI c (t::ts)) c.sg).1++c'.sg}) ops.size (ar ops.size ψ) {c with sg:=(spS (hdI c (t::ts)) c.sg).2})
theorem A0t{E:Env Y}{fn:FK}{R:RL->World->Prop}(S:Hy g0 T E.X (fn.at R))(h:RG g0 T c f g AH A){id:Nat}{ops:Array Oper}{kk:Cf Y->Prop}{k:List Item}(e:drX E id ops c kk)(next:∀c' f' g' AH' A',Le g g'->RG g0 T c' f' g' AH' A'->kk c'->WT Y.P fn E.N k R f' g'.w):WT Y.P fn E.N (.code (.region id ops τ)::k) R f g.w:=by
 obtain⟨P,e⟩:=AJ e;have L:∀{g:B3}{c:Cf Y}{AH A:Bi}{D:Bi}{r:List (Nat×CU Y)}{kk:Cf Y->Prop},F3 g r D->RG g0 (D++T) c f g AH A->XI E r ops ((b8 ops.size).filter λi=>match ops[i]? with|some o=>Az7 E o.op|none=>ψ) kk ops.size (ar ops.size ψ) c->
   (∀c' f' g' AH' A',Le g g'->RG g0 (D++T) c' f' g' AH' A'->kk c'->WT Y.P fn E.N k R f' g'.w)->WT Y.P fn E.N (.code (.region id ops τ)::k) R f g.w:=λ{g c AH A D r kk}B h e next=>by
  let s:B3:={g with w:={g.w with drawn:=g.w.drawn+1}}
  have M:Ext g.I g.w g.I s.w:=(h.st.drew _).1
  have b:Le g s:=⟨M,ab _,λ_ _=>rfl,rfl⟩
  have d:RG g0 (D++T) c f s AH A:=⟨h.n,h.le.trans M,(h.st.drew _).2,h.hr.mono b,h.sg.mono b,h.hs.mono b,b.pt h.pt,λi a W=>(h.fr i a W).mono b⟩
  exact Ah3 (ZQ D s) P rfl rfl (Aby _ d.shd (A0s B S.more _ b d e λc' f' g' AH' A' Z F U=>next c' f' g' AH' A' (b.trans Z) F U))
 split at e
 .exact L (D:=[]) (r:=[]) rfl h e next
 .rename_i t I _;obtain⟨m,s,u,A1,Q,J,y,d,_,l⟩:=DA h e;rw[<-J];obtain⟨D,O,hp,B,K⟩:=An2 (p:=hdI m (t::I)) d.sg;have z:=d.hr;rw[l]at z;have V:RG g0 (D++T) {m with sg:=(spS (hdI m (t::I)) m.sg).2} f s u O:=⟨d.n,d.le,d.st.perm ?_,?_,K,d.hs,d.pt,d.fr⟩
  .refine L B V Q λc' f' g' AH' A' b F e=>?_;obtain⟨C,N,x,X,G,H,n,q,_,j⟩:=DA F e;rw[<-H];have v:=q.hr;rw[j]at v;refine next {C with sg:=(spS (hdI m (t::I)) m.sg).1++C.sg} f' N x (D++X) (y.trans (b.trans n)) ⟨q.n,q.le,q.st.perm ?_,?_,?_,q.hs,q.pt,q.fr⟩ G
   .grind[ah,a6,a5]
   .grind[HR]
   .exact F3.app (B.mono (b.trans n)) q.sg
  .refine ah _ ?_;refine(hp.append_right T).trans ?_;grind[a6,a5]
  grind[HR]
end
end
section
section
variable {Y:Sys}
structure Ks(Y:Sys) where
 nx:Cf Y->Prop
 ex:List (Nat×(Cf Y->Prop))
 rt:Cf Y->Prop
def lkE:List (Nat×(Cf Y->Prop))->Nat->Option (Cf Y->Prop)
 | [],_=>δ
 |p::l,i=>if p.1=i then ν p.2 else lkE l i
def lkA:List (Nat×LA)->Nat->Option LA
 | [],_=>δ
 |p::l,i=>if p.1=i then ν p.2 else lkA l i
def Az2:Code->Nat
 | .seq a _=>Az2 a
 | .region id _ _=>id
 | .block _ b=>Az2 b
 |_=>0
def jnK(E:Env Y):Operand->Option LA
 | .tmp t=>lkA E.jn t
 |_=>δ
def J0(c:Cf Y):List (Nat×Sh)->Cf Y
 | []=>c
 |(t,.one (.dat (.sl _)))::l=>J0 (PQ c (.tmp t)) l
 |_::l=>J0 c l
theorem TF{g0:B3}{T AH:Bi}{f:Fr}:∀(l:List (Nat×Sh)){g:B3}{A:Bi}{c:Cf Y},RG g0 T c f g AH A->∃g' A',g'.w=g.w/\Le g g'/\RG g0 T (J0 c l) f g' AH A'
 | [],g,A,c,h=>⟨g,A,rfl,Le.refl _,h⟩
 |p::l,g,A,c,h=>by
  unfold J0;split
  .grind
  .rename_i t e q a;cases a;obtain⟨s,r,m,o,n⟩:=K9 h (.tmp t);obtain⟨k,d,j,b,i⟩:=TF l n;exact⟨k,d,j.trans m,o.trans b,i⟩
  .rename_i a;cases a;exact TF l h
def Pa(l m:List Nat):Bool:=l.all λi=>N0 i m
theorem Abq{i:Nat}:∀{l:List Nat},N0 i l=τ↔i∈l
 | []=>by simp [N0]
 |j::l=>by simp [N0,Abq (l:=l)]
theorem Q8{l m:List Nat}(h:Pa l m=τ){t:Nat}(ht:N0 t l=τ):N0 t m=τ:=by have:=b5.1 h t (Abq.1 ht);omega
def A03(la:LA)(c:Cf Y)(K:VT Y la.vars->HH Y->Prop):Prop:=match Ag8 (J0 c la.vars).fr la.vars (J0 c la.vars).sg,(J0 c la.vars).op with
 |some r,δ=>K r.1 (J0 c la.vars).H
 |_,_=>False
variable {la:LA} {g0 g:B3} {T AH A:Bi} {c:Cf Y} {f:Fr}
theorem Avd(h:RG g0 T c f g AH A){K:VT Y la.vars->HH Y->Prop}(d:A03 la c K):∃g1 x H A1,g1.w=g.w/\Le g g1/\K x H/\VTR g1.I g1.w f la.vars x A1/\St g1.I g1.w (AH++(A1++T))/\Ip (Ra Y) g1.I g1.w H AH:=by
 obtain⟨g1,q,k,m,b⟩:=TF la.vars h;unfold A03 at d;split at d
 .rename_i r o e;obtain⟨A1,l,n,j,p⟩:=Abs b.fr o b.sg;have i:=b.hr;rw[e]at i;refine⟨g1,r.1,_,A1,k,m,d,j,?_,i⟩;have a:=b.st.perm ((n.append_right T).append_left AH);grind[a6,DQ]
 grind
def cnv(la:LA)(c:Cf Y)(K:VT Y la.vars->HH Y->Prop):Prop:=cls c λc=>A03 la c K
theorem Aq6(h:RG g0 T c f g AH A){K:VT Y la.vars->HH Y->Prop}(a:cnv la c K):∃g1 x H AH1 A1,g1.w=g.w/\Le g g1/\K x H/\VTR g1.I g1.w f la.vars x A1/\St g1.I g1.w (AH1++(A1++T))/\Ip (Ra Y) g1.I g1.w H AH1:=by obtain⟨n,g1,AH1,A1,a,k,b,m,_⟩:=DA h a;obtain⟨i,x,H,e,j,d,l⟩:=Avd m a;exact⟨i,x,H,AH1,e,j.trans k,b.trans d,l⟩
def wr(pt:List Nat)(q:Cf Y->Prop):Cf Y->Prop:=λc=>Fx (Pa pt c.pt) (q {c with pt:=pt})
def wrE(pt:List Nat):List (Nat×(Cf Y->Prop))->List (Nat×(Cf Y->Prop))
 | []=>[]
 |p::l=>(p.1,wr pt p.2)::wrE pt l
theorem AR.phi(φ:Fr){a:AV Y}{v:Value}(h:AR g a v):AR {g with φ:=φ} a v:=by cases a<;>exact h
theorem SR.phi(φ:Fr){i:Nat}{s:CU Y}(h:SR g i s A):SR {g with φ:=φ} i s A:=by
 cases s with
 |blk u=>obtain⟨b,j,e,d,a,c⟩:=h;exact⟨b,j,e,d,a,c.mono λ_ _ r=>⟨r.1.phi φ,r.2⟩⟩
 |sl t p|mp k e m=>exact h
 |tp l=>obtain⟨d,f,a,c⟩:=h;exact⟨d,f,a,c.mono λ_ _ r=>r.phi φ⟩
 |ag l=>obtain⟨d,f,a,c⟩:=h;exact⟨d,f,a,c.mono λ_ _ r=>⟨r.1.phi φ,r.2⟩⟩
 |clo q l m=>obtain⟨d,f,n,a,c,o⟩:=h;exact⟨d,f,n,a,c.mono λ_ _ r=>r.phi φ,o.mono λ_ _ r=>r.phi φ⟩
theorem F3.phi(φ:Fr):∀{l:List (Nat×CU Y)}{A:Bi},F3 g l A->F3 {g with φ:=φ} l A
 | [],_,h=>h
 |_::_,_,⟨a,f,e,d,c,b⟩=>⟨a,f,e,d,c.phi φ,b.phi φ⟩
theorem RG.phi{φ:Fr}{pt:List Nat}(h:RG g0 T c f g AH A)(d:∀t,N0 t pt=τ->f t=φ t):RG g0 T {c with pt:=pt} f {g with φ:=φ} AH A:=by
 refine⟨h.n,h.le,h.st,?_,h.sg.phi φ,h.hs,d,λi a e=>(h.fr i a e).phi φ⟩;have:=h.hr;show HR _ _ _ _ c.op;cases b:c.op with
 |none|some o=>rw[b]at this;exact this
def Ve(E:Env Y):Code->Cf Y->Ks Y->Prop
 |.skip,c,ks|.label _,c,ks=>ks.nx c
 | .seq a b,c,ks=>Ve E a c {ks with nx:=λc'=>Ve E b c' ks}
 | .region id ops d,c,ks=>match d with
  |false=>Ws E ops ops.toList c ks.nx
  |true=>drX E id ops c ks.nx
 | .cond x a b,c,ks=>match (E9 c x).bind asB with
  |some (.kn τ)=>Ve E a c ks
  |some (.kn ψ)=>Ve E b c ks
  |some (.pr p _)=>match jnK E x with
   |none=>(p->Ve E a (kno c x τ) ks)/\(¬p->Ve E b (kno c x ψ) ks)
   |some la=>cls c λc=>∃M:VT Y la.vars->HH Y->Prop,(∀x H,M x H->ks.nx {hdC c la x H with pt:=c.pt})/\
    (p->Ve E a {c with pt:=la.BX++c.pt} {nx:=λc'=>Fx (Pa (la.BX++c.pt) c'.pt) (cnv la c' M),ex:=wrE c.pt ks.ex,rt:=ks.rt})/\
    (¬p->Ve E b {c with pt:=la.BX++c.pt} {nx:=λc'=>Fx (Pa (la.BX++c.pt) c'.pt) (cnv la c' M),ex:=wrE c.pt ks.ex,rt:=ks.rt})
  |none=>False
 | .block id b,c,ks=>Ve E b c {ks with ex:=(id,ks.nx)::ks.ex}
 | .exit id,c,ks=>match lkE ks.ex id with
  |some q=>q c
  |none=>False
 | .ret,c,ks=>ks.rt c
 | .scope b,c,ks=>Ve E b c ks
 | .loop b,c,ks=>cls c λc=>match lkA E.lp (Az2 b) with
  |some la=>match la.heap with
   |true=>∃V:Nat->VT Y la.vars->HH Y->Prop,(∃n,cnv la c (V n))/\∀n x H,V n x H->Ve E b (hdC c la x H) {nx:=λc'=>Fx (Pa (la.BX++c.pt) c'.pt) (∃m,m<n/\cnv la c' (V m)),ex:=wrE c.pt ks.ex,rt:=ks.rt}
   |false=>∃V:Nat->VT Y la.vars->Prop,(∃n,cnv la c (λx H=>H=c.H/\V n x))/\∀n x,V n x->Ve E b (hdC c la x c.H) {nx:=λc'=>Fx (Pa (la.BX++c.pt) c'.pt) (∃m,m<n/\cnv la c' (λx H=>H=c.H/\V m x)),ex:=wrE c.pt ks.ex,rt:=ks.rt}
  |none=>False
 |_,_,_=>False
structure Amw(Y:Sys)(fn:FK)(N:Nat)(g0:B3)(T:Bi)(R:RL->World->Prop)(φ:Fr)(gb:B3)(ks:Ks Y)(k:List Item):Prop where
 nx:∀c f g AH A,g.φ=φ->Lx gb g->RG g0 T c f g AH A->ks.nx c->WT Y.P fn N k R f g.w
 ex:∀id q,lkE ks.ex id=ν q->∃k',exitTo id k=ν k'/\∀c f g AH A,g.φ=φ->Lx gb g->RG g0 T c f g AH A->q c->WT Y.P fn N k' R f g.w
 rt:∀c f g AH A k',Lx gb g->RG g0 T c f g AH A->ks.rt c->WT Y.P fn N (.code .ret::k') R f g.w
theorem Apu{pt:List Nat}{id:Nat}{q:Cf Y->Prop}:∀{l:List (Nat×(Cf Y->Prop))},lkE (wrE pt l) id=ν q->∃q',lkE l id=ν q'/\q=wr pt q'
 | [],h=>by grind[wrE,lkE]
 |p::l,h=>by simp only[wrE,lkE]at h;simp only[lkE];by_cases a:p.1=id;all_goals simp_all[Apu]
theorem Amw.inner{fn:FK}{N:Nat}{gb g1:B3}{R:RL->World->Prop}{φ φ':Fr}{ks:Ks Y}{k k2:List Item}{pt:List Nat}{nx:Cf Y->Prop}(h:Amw Y fn N g0 T R φ gb ks k)(m:Lx gb g1)(l:∀t,N0 t pt=τ->φ' t=φ t)(r:∀id,exitTo id k2=exitTo id k)(e:∀c f g AH A,g.φ=φ'->Lx g1 g->RG g0 T c f g AH A->nx c->WT Y.P fn N k2 R f g.w):Amw Y fn N g0 T R φ' g1 {nx:=nx,ex:=wrE pt ks.ex,rt:=ks.rt} k2:=by refine⟨e,λid q u=>?_,λc f g AH A j p d b=>h.rt c f g AH A j (m.trans p) d b⟩;obtain⟨o,x,rfl⟩:=Apu u;obtain⟨j,w,s⟩:=h.ex id o x;refine⟨j,by grind,λc f g AH A i a d b=>?_⟩;obtain⟨v,b⟩:=AJ b;exact s _ f {g with φ:=φ} AH A rfl (m.trans ⟨a.ext,a.n,a.μ⟩) (d.phi λt n=>by rw[d.pt t (Q8 v n),i,l t n]) b
theorem Aq7{g':B3}{AH' A':Bi}{c':Cf Y}{f':Fr}(h:RG g0 T c f g AH A)(d:Lx g g')(b:g'.φ=f)(i:RG g0 T c' f' g' AH' A')(e:Pa (la.BX++c.pt) c'.pt=τ){K:VT Y la.vars->HH Y->Prop}(o:cnv la c' K):∃g2 x H AH2 A2,g2.w=g'.w/\g2.φ=f/\Lx g g2/\K x H/\RG g0 T (hdC c la x H) f' g2 AH2 A2:=by obtain⟨z,x,H,a,s,n,w,q,l,k,r⟩:=Aq6 i o;have j:=d.trans w.lx;obtain⟨g2,v,p,m,y⟩:=Aqg h j.ext j.μ (λt u=>by rw[i.pt t (Q8 e u),b]) l k r;grind
theorem Hx{E:Env Y}{fn:FK}{g0:B3}{T:Bi}{R:RL->World->Prop}(I:Hy g0 T E.X (fn.at R)):∀(code:Code){ks:Ks Y}{k:List Item}{c:Cf Y}{f:Fr}{g gb:B3}{AH A:Bi},Amw Y fn E.N g0 T R g.φ gb ks k->Lx gb g->RG g0 T c f g AH A->Ve E code c ks->WT Y.P fn E.N (.code code::k) R f g.w
 | .skip,ks,k,c,f,g,gb,AH,A,l,o,h,i=>SE (l.nx c f g AH A rfl o h i)
 | .label _,ks,k,c,f,g,gb,AH,A,l,o,h,i=>Acl (l.nx c f g AH A rfl o h i)
 | .seq a b,ks,k,c,f,g,gb,AH,A,l,o,h,i=>by refine DE (Hx I a (gb:=gb) (ks:={ks with nx:=λs=>Ve E b s ks}) ⟨λs L W u P v B J j=>Hx I b (by rw[v];exact l) B J j,λS q O=>?_,l.rt⟩ o h i);obtain⟨k',K,F⟩:=l.ex S q O;exact⟨k',K,F⟩
 | .region S ops d,ks,k,c,f,g,gb,AH,A,l,o,h,i=>by
  cases d with
  |false=>exact CK (SA I _ h i λs L W u P r J j=>l.nx s L W u P r.φ (o.trans r.lx) J j)
  |true=>exact A0t I h i λs L W u P r J j=>l.nx s L W u P r.φ (o.trans r.lx) J j
 | .cond x a b,ks,k,c,f,g,gb,AH,A,l,o,h,i=>by
  simp only[Ve]at i;have bd:∀{p:BV},(E9 c x).bind asB=ν p->ev f x=.bool p.val:=λ{p}D=>by
   cases hz:E9 c x with
   |none=>rw[hz]at D;cases D
   |some a=>rw[hz]at D;exact O4 D (h.ev hz)
  split at i
  .rename_i N;exact SB (bd N) (Hx I a l o h i)
  .rename_i N;exact Pg (bd N) (Hx I b l o h i)
  .rename_i p d N;have hv:=bd N;have Q:(p->WT Y.P fn E.N (.code a::k) R f g.w)->(¬p->WT Y.P fn E.N (.code b::k) R f g.w)->WT Y.P fn E.N (.code (.cond x a b)::k) R f g.w:=λK F=>@Acm _ _ _ _ _ _ _ _ _ _ p d hv K F;have way':∀w,w=g.w->(p->WT Y.P fn E.N (.code a::k) R f w)->(¬p->WT Y.P fn E.N (.code b::k) R f w)->WT Y.P fn E.N (.code (.cond x a b)::k) R f g.w:=λw e=>by rw[e];exact Q
   split at i
   .exact Q (λD=>Hx I a l o (Abo h (by rw[hv];exact congrArg _ (decide_eq_true D))) (i.1 D)) (λD=>Hx I b l o (Abo h (by rw[hv];exact congrArg _ (decide_eq_false D))) (i.2 D))
   .rename_i y hla;obtain⟨c,C,AH,A,⟨M,K,F,h3⟩,hw,r,h,_⟩:=DA h i;rw[<-r.φ]at l;replace o:=o.trans r.lx;have Q:=way' C.w hw;have hin:RG g0 T {c with pt:=y.BX++c.pt} f {C with φ:=f} AH A:=h.phi λt _=>rfl;have B:Lx C {C with φ:=f}:=⟨Ext.refl _ _,ab _,λ_ _=>rfl⟩
    have U:Amw Y fn E.N g0 T R f {C with φ:=f} {nx:=λs=>Fx (Pa (y.BX++c.pt) s.pt) (cnv y s M),ex:=wrE c.pt ks.ex,rt:=ks.rt} k:=l.inner (o.trans B) (λt ht=>h.pt t ht) (λ_=>rfl) λs L g1' u P v hl J j=>by obtain⟨hs,j⟩:=AJ j;obtain⟨z,x,H,G,A2,k1,k2,X,k4,k5⟩:=Aq7 h ⟨hl.ext,hl.n,hl.μ⟩ v J hs j;have:=l.nx _ L {z with φ:=C.φ} G A2 rfl (o.trans ⟨X.ext,X.n,X.μ⟩) (k5.phi λt ht=>by rw[k5.pt t (UG ht),k2];exact h.pt t ht) (K x H k4);rw[<-k1];exact this
    exact Q (λD=>Hx I a (g:={C with φ:=f}) U (Lx.refl _) hin (F D)) (λD=>Hx I b (g:={C with φ:=f}) U (Lx.refl _) hin (h3 D))
  grind
 | .block S b,ks,k,c,f,g,gb,AH,A,l,o,h,i=>by
  refine LS (Hx I b (gb:=gb) (ks:={ks with ex:=(S,ks.nx)::ks.ex}) ⟨λs L W u P v B J j=>LR (l.nx s L W u P v B J j),λid' q O=>?_,l.rt⟩ o h i);simp only[lkE]at O;by_cases he:S=id'
  .rw[UV he]at O;cases O;subst he;exact⟨k,by simp [exitTo],l.nx⟩
  .rw[GT he]at O;obtain⟨k',K,F⟩:=l.ex id' q O;grind[exitTo]
 | .exit S,ks,k,c,f,g,gb,AH,A,l,o,h,i=>by
  simp only[Ve]at i;split at i
  .rename_i q O;obtain⟨k',K,F⟩:=l.ex S q O;exact VX K (F c f g AH A rfl o h i)
  grind
 | .ret,ks,k,c,f,g,gb,AH,A,l,o,h,i=>l.rt c f g AH A k o h i
 | .loop b,ks,k,c,f,g,gb,AH,A,l,o,h0,i=>by
  simp only[Ve]at i;obtain⟨c,C,AH,A,i,hw,r,h,_⟩:=DA h0 i;rw[<-r.φ]at l;replace o:=o.trans r.lx;rw[<-hw];have key:∀(y:LA)(V:Nat->VT Y y.vars->HH Y->Prop),(∃n,cnv y c (V n))->(∀n x H,V n x H->Ve E b (hdC c y x H) {nx:=λs=>Fx (Pa (y.BX++c.pt) s.pt) (∃m,m<n/\cnv y s (V m)),ex:=wrE c.pt ks.ex,rt:=ks.rt})->
    WT Y.P fn E.N (.code (.loop b)::k) R f C.w:=λy V⟨n,h0⟩hstep=>by
   have hin:RG g0 T {c with pt:=y.BX++c.pt} f {C with φ:=f} AH A:=h.phi λt _=>rfl
   have start:∃z x H G A2,z.w=C.w/\z.φ=f/\Lx C z/\V n x H/\RG g0 T (hdC c y x H) f z G A2:=by obtain⟨g5,x,H,AH1,A1,K,F,h3,h4,h5,h6⟩:=Aq6 h h0;obtain⟨z,k1,k2,X,k4⟩:=Aqg h F.ext F.μ (λt ht=>rfl) h4 h5 h6;grind
   refine ZW (λn L w'=>∃z x H G A2,z.w=w'/\z.φ=f/\Lx C z/\V n x H/\RG g0 T (hdC c y x H) L z G A2) n ?_ ?_
   .omega
   .rintro n L w' ⟨z,x,H,G,A2,rfl,k2,X,k4,k5⟩ ih
    have U:Amw Y fn E.N g0 T R z.φ z {nx:=λs=>Fx (Pa (y.BX++c.pt) s.pt) (∃m,m<n/\cnv y s (V m)),ex:=wrE c.pt ks.ex,rt:=ks.rt} (.inLoop b::k):=by rw[k2];refine l.inner (o.trans X) (λt ht=>h.pt t ht) (λ_=>rfl) λs f2 g1' u P v hl J j=>?_;obtain⟨hs,m,hm,j⟩:=AJ j;obtain⟨g3,x',H',AH3,A3,m1,m2,m3,m4,m5⟩:=Aq7 h (X.trans hl) v J hs j;exact ih.out m f2 g1'.w hm ⟨g3,x',H',AH3,A3,m1,m2,m3,m4,m5⟩
    exact Hx I b U (Lx.refl _) k5 (hstep n x H k4)
  split at i
  .rename_i y hla;split at i
   .obtain⟨V,h0,hs⟩:=i;exact key y V h0 hs
   .obtain⟨V,h0,hs⟩:=i;exact key y (λn x H=>H=c.H/\V n x) h0 λn x H⟨he,hv⟩=>by grind
  grind
 | .rangeFunc _ _ _ _,_,_,_,_,_,_,_,_,_,_,_,i=>i.elim
 | .scope b,ks,k,c,f,g,gb,AH,A,l,o,h,i=>by refine Anb (Hx I b (gb:=gb) (ks:=ks) ⟨λs L W u P v B J j=>Af0 (l.nx s L W u P v B J j),λS q O=>?_,l.rt⟩ o h i);obtain⟨k',K,F⟩:=l.ex S q O;exact⟨k',by simp [exitTo,K],F⟩
 |.goto _,_,_,_,_,_,_,_,_,_,_,_,i|.refuse _,_,_,_,_,_,_,_,_,_,_,_,i=>i.elim
end
end
section
section
variable {Y:Sys}
def KM:(l:List AK)->JK Y l->Nat->Nat->List (Nat×AV Y)×List (Nat×CU Y)×Nat
 | [],_,_,n=>([],[],n)
 | .dat .ptr::l,x,i,n=>let r:=KM l x.2 (i+1) (n+1);((i,.ptr n x.1)::r.1,r.2.1,r.2.2)
 | .dat (.int k)::l,x,i,n=>let r:=KM l x.2 (i+1) n;((i,.dat (.int k) x.1)::r.1,r.2.1,r.2.2)
 | .dat .bool::l,x,i,n=>let r:=KM l x.2 (i+1) n;((i,.dat .bool x.1)::r.1,r.2.1,r.2.2)
 | .dat .str::l,x,i,n=>let r:=KM l x.2 (i+1) n;((i,.dat .str x.1)::r.1,r.2.1,r.2.2)
 | .dat .mref::l,x,i,n=>let r:=KM l x.2 (i+1) n;((i,.dat .mref x.1)::r.1,r.2.1,r.2.2)
 | .dat (.sl e)::l,x,i,n=>let r:=KM l x.2 (i+1) n;((i,.dat (.sl e) x.1)::r.1,r.2.1,r.2.2)
 | .dat (.u m)::l,x,i,n=>let r:=KM l x.2 (i+1) n;((i,.dat (.u m) x.1)::r.1,r.2.1,r.2.2)
 | .own t::l,x,i,n=>let r:=KM l x.2 (i+1) (n+1);((i,.own n)::r.1,(n,.sl t x.1)::r.2.1,r.2.2)
 | .map k e::l,x,i,n=>let r:=KM l x.2 (i+1) (n+1);((i,.own n)::r.1,(n,.mp k e x.1)::r.2.1,r.2.2)
 | .mob::l,x,i,n=>let r:=KM l x.2 (i+1) n;((i,.mob x.1)::r.1,r.2.1,r.2.2)
 | .del t::l,x,i,n=>let r:=KM l x.2 (i+1) n;((i,.del t x.1 0)::r.1,r.2.1,r.2.2)
 | .fn aE rs::l,x,i,n=>let r:=KM l x.2 (i+1) n;((i,.fn aE rs x.1)::r.1,r.2.1,r.2.2)
 | .fbx aE rs::l,x,i,n=>let r:=KM l x.2 (i+1) n;((i,.fbx aE rs x.1)::r.1,r.2.1,r.2.2)
def NmR(g:B3):List AK->Nat->List Value->Prop
 | [],_,_=>True
 |.own _::l,n,vs|.map _ _::l,n,vs=>(∃v vs',vs=v::vs'/\n<g.n/\g.μ n=v)/\NmR g l (n+1) vs.tail
 | .dat .ptr::l,n,vs=>NmR g l (n+1) vs.tail
 |.dat (.int _)::l,n,vs|.dat .bool::l,n,vs|.dat .str::l,n,vs|.dat .mref::l,n,vs|.dat (.sl _)::l,n,vs|.dat (.u _)::l,n,vs|.mob::l,n,vs|.del _::l,n,vs|.fn _ _::l,n,vs|.fbx _ _::l,n,vs=>NmR g l n vs.tail
theorem NmR.mono{g g':B3}(h:Lx g g'):∀{l:List AK}{n:Nat}{vs:List Value},NmR g l n vs->NmR g' l n vs
 | [],_,_,_=>trivial
 |.own _::l,n,vs,⟨⟨v,a,c,b,e⟩,d⟩|.map _ _::l,n,vs,⟨⟨v,a,c,b,e⟩,d⟩=>⟨⟨v,a,c,a4 b h.n,by rw[h.μ _ b];exact e⟩,NmR.mono h d⟩
 |.dat .ptr::l,n,vs,r|.dat (.int _)::l,n,vs,r|.dat .bool::l,n,vs,r|.dat .str::l,n,vs,r|.dat .mref::l,n,vs,r|.dat (.sl _)::l,n,vs,r|.dat (.u _)::l,n,vs,r|.mob::l,n,vs,r|.del _::l,n,vs,r|.fn _ _::l,n,vs,r|.fbx _ _::l,n,vs,r=>NmR.mono (l:=l) h r
theorem T9{p:Nat×AV Y}{l:List (Nat×AV Y)}{Q:Nat->AV Y->Prop}(d:Q p.1 p.2)(h:∀j a,Iz l j=ν a->Q j a):∀j a,Iz (p::l) j=ν a->Q j a:=λj a b=>by grind[Iz]
theorem Wg{f:Fr}:∀{l:List AK}{x:JK Y l}{i:Nat}{g:B3}{vs:List Value}{A:Bi},ArR Y g.I g.w l x vs A->(∀j v,vs[j]?=ν v->f (i+j)=v)->∃g',Le g g'/\g'.w=g.w/\g'.I=g.I/\g'.n=(KM l x i g.n).2.2/\(∀j a,Iz (KM l x i g.n).1 j=ν a->AR g' a (f j))/\F3 g' (KM l x i g.n).2.1 A/\NmR g' l g.n vs
 | [],x,i,g,vs,A,⟨o,q⟩,M=>by subst o q;exact⟨g,Le.refl _,rfl,rfl,rfl,by grind[KM,Iz],rfl,trivial⟩
 |k::l,x,i,g,vs,A,h,M=>by
  have L:∀{v:Value}{d:List Value},vs=v::d->f i=v/\∀j u,d[j]?=ν u->f (i+1+j)=u:=λe=>by subst e;refine⟨M 0 _ rfl,λj u V=>?_⟩;have:=M (j+1) u (by grind);rwa [ay,b4 1 j]
  have c:∀{a:AV Y}{z:JK Y l}{v:Value}{d:List Value},vs=v::d->AR g a v->ArR Y g.I g.w l z d A->∃g',Le g g'/\g'.w=g.w/\g'.I=g.I/\g'.n=(KM l z (i+1) g.n).2.2/\(∀j b,Iz ((i,a)::(KM l z (i+1) g.n).1) j=ν b->AR g' b (f j))/\F3 g' (KM l z (i+1) g.n).2.1 A/\NmR g' l g.n vs.tail:=λe K T=>by obtain⟨g',y,B,D,C,E,F,G⟩:=Wg T (L e).2;exact⟨g',y,B,D,C,T9 (Q:=λj b=>AR g' b (f j)) (by show AR g' _ (f i);rw[(L e).1];exact K.mono y) E,F,by grind⟩
  have w:∀{a:AV Y}{s:List (Nat×CU Y)}{z:JK Y l}{v:Value}{d:List Value}{H J:Bi},vs=v::d->A=H++J->(∀g',Le (g.new g.w v) g'->AR g' a v/\F3 g' s H)->ArR Y g.I g.w l z d J->
    ∃g',Le g g'/\g'.w=g.w/\g'.I=g.I/\g'.n=(KM l z (i+1) (g.n+1)).2.2/\(∀j b,Iz ((i,a)::(KM l z (i+1) (g.n+1)).1) j=ν b->AR g' b (f j))/\F3 g' (s++(KM l z (i+1) (g.n+1)).2.1) A/\NmR g' l (g.n+1) vs.tail/\g.n<g'.n/\g'.μ g.n=v:=λ{a s z v d H J}e U K T=>by
   subst U
   obtain⟨g',y,B,D,C,E,F,G⟩:=Wg (g:=g.new g.w v) T (L e).2
   exact⟨g',(Le.new (Ext.refl _ _)).trans y,B,D,C,T9 (Q:=λj b=>AR g' b (f j)) (by grind) E,(K g' y).2.app F,by rw[e];exact G,a4 (a9 _) y.n,by rw[y.μ _ (a9 _),g.BA]⟩
  have I:∀{v:Value},g.n<(g.new g.w v).n:=a9 _;cases k with
  |dat t=>
   obtain⟨v,d,o,q,r⟩:=h;cases t with
   |ptr=>
    obtain⟨g',y,B,D,C,E,F,G,_,_⟩:=w (a:=.ptr g.n x.1) (s:=[]) (H:=[]) o rfl (λg' p=>⟨⟨a4 I p.n,by rw[p.μ _ I,g.BA],Mf.1 q⟩,rfl⟩) r;exact⟨g',y,B,D,C,E,F,G⟩
   |int k=>exact c (a:=.dat (.int k) x.1) o q r
   |bool=>exact c (a:=.dat .bool x.1) o q r
   |str=>exact c (a:=.dat .str x.1) o q r
   |mref=>exact c (a:=.dat .mref x.1) o q r
   |sl e=>exact c (a:=.dat (.sl e) x.1) o q r
   |u m=>exact c (a:=.dat (.u m) x.1) o q r
  |own t=>
   obtain⟨v,d,H,J,o,q,r,S⟩:=h;obtain⟨g',y,B,D,C,E,F,G,O,P⟩:=w (a:=.own g.n) (s:=[(g.n,.sl t x.1)]) o q (λg' p=>⟨(Gy rfl:AR (g.new g.w v) (.own g.n) v).mono p,H,[],by simp,a4 I p.n,SR.mono p I (by show OO Y t _ _ _ _ _;rw[g.BA];exact r),rfl⟩) S;exact⟨g',y,B,D,C,E,F,⟨v,d,o,O,P⟩,G⟩
  |map k e=>
   obtain⟨v,d,H,J,o,q,r,S⟩:=h;obtain⟨g',y,B,D,C,E,F,G,O,P⟩:=w (a:=.own g.n) (s:=[(g.n,.mp k e x.1)]) o q (λg' p=>⟨(Gy rfl:AR (g.new g.w v) (.own g.n) v).mono p,H,[],by simp,a4 I p.n,SR.mono p I (by show Yo Y k e _ _ _ _ _;rw[g.BA];exact r),rfl⟩) S;exact⟨g',y,B,D,C,E,F,⟨v,d,o,O,P⟩,G⟩
  |mob=>obtain⟨v,d,o,q,r⟩:=h;exact c (a:=.mob x.1) o q r
  |del t=>obtain⟨v,d,o,q,r⟩:=h;exact c (a:=.del t x.1 0) o q r
  |fn N R=>obtain⟨v,d,o,q,r⟩:=h;exact c (a:=.fn N R x.1) o q r
  |fbx N R=>obtain⟨v,d,o,q,r⟩:=h;exact c (a:=.fbx N R x.1) o q r
def ini(l:List AK)(x:JK Y l)(H:HH Y):Cf Y:={fr:=(KM l x 0 0).1,sg:=(KM l x 0 0).2.1,nx:=(KM l x 0 0).2.2,H:=H,op:=δ,hs:=[],pt:=[]}
def X3(c:Cf Y):List ResultVar->List RK->Cf Y
 | .tmp t::l,.dat _::ks=>X3 (PQ c (.tmp t)) l ks
 | .cell a ty::l,.dat _::ks=>X3 (match Iz c.fr a with |some p=>VN c ty p |none=>c) l ks
 |_::l,_::ks=>X3 c l ks
 |_,_=>c
theorem Ajn{g0:B3}{T AH:Bi}{f:Fr}:∀(l:List ResultVar)(ks:List RK){g:B3}{A:Bi}{c:Cf Y},RG g0 T c f g AH A->∃g' A',g'.w=g.w/\Le g g'/\RG g0 T (X3 c l ks) f g' AH A'
 | [],ks,g,A,c,h=>⟨g,A,rfl,Le.refl _,by grind[X3]⟩
 |r::l,[],g,A,c,h=>⟨g,A,rfl,Le.refl _,by cases r<;>exact h⟩
 |r::l,k::ks,g,A,c,h=>by
  have b:∀{q:Cf Y}{n:B3}{o:Bi},n.w=g.w->Le g n->RG g0 T q f n AH o->∃g' A',g'.w=g.w/\Le g g'/\RG g0 T (X3 q l ks) f g' AH A':=λd i m=>by obtain⟨w,s,v,x,u⟩:=Ajn l ks m;exact⟨w,s,v.trans d,i.trans x,u⟩
  cases r with
  |tmp t=>
   cases k with
   |dat j=>obtain⟨n,o,d,i,m⟩:=K9 h (.tmp t);exact b d i m
   |own j|map k e|ownO j=>exact b rfl (Le.refl _) h
  |cell a j=>
   cases k with
   |dat t=>
    unfold X3;split
    .rename_i p _;obtain⟨n,o,d,i,m⟩:=Wj h j p;grind
    .exact b rfl (Le.refl _) h
   |own t|map k e|ownO j=>exact b rfl (Le.refl _) h
def Rt(c:Cf Y):List ResultVar->(List (AV Y)->Prop)->Prop
 | [],k=>k []
 | .tmp t::l,k=>match Iz c.fr t with
  |some a=>Rt c l λaE=>k (a::aE)
  |none=>False
 | .cell a ty::l,k=>match Iz c.fr a with
  |some (.adr i o)=>rdX c ty (.adr i o) λb=>Rt c l λaE=>k (b::aE)
  |some (.del T d o)=>ldD ty T d o λb=>Rt c l λaE=>k (b::aE)
  |_=>False
def Rs(tmps:Array Value):ResultVar->Sem Value
 | .tmp t=>pure (tmps.getD t undef)
 | .cell a t=>do loadVar t (<- asAddr (tmps.getD a undef))
variable {w:World}
theorem Ach{P:Program}{f:Fr}{t ty:TypeId}{a:Nat}{v:Value}{p:Addr}(h:LQ P f (.load t (.tmp a)) ty v w)(hp:f a=.pointer (ν p)):(loadVar t p).run P w=.ok v w:=by
 have:=h δ "" #[] δ;simp only[execOp,Instr.loadAt,X.ev,hp,Instr.sureAddr,Sem.run_bind,Sem.run_pure,Result.andThen_ok]at this;cases hl:(loadVar t p).run P w with
 |ok u w'=>rw[hl]at this;simp only[Result.andThen_ok,Result.ok.injEq,Next.value.injEq]at this;rw[this.1,this.2]
 |halt x w'=>simp_all
theorem Pz{g0 g:B3}{T AH A:Bi}{c:Cf Y}{f:Fr}(h:RG g0 T c f g AH A){N:Nat}:∀{l:List ResultVar}{k:List (AV Y)->Prop},Rt c l k->∃aE vs,k aE/\F2 (AR g) aE vs/\∀a,Is N a f->(l.mapM (Rs a)).run Y.P g.w=.ok vs g.w
 | [],k,j=>⟨[],[],j,.nil,λ_ _=>rfl⟩
 | .tmp t::l,k,j=>by
  unfold Rt at j;split at j
  .rename_i a s;obtain⟨aE,vs,q,r,n⟩:=Pz (N:=N) h j;refine⟨a::aE,f t::vs,q,.cons (h.fr t a s) r,λm e=>?_⟩;have:=e.2 t;simp_all[b9,Rs]
  grind
 | .cell a ty::l,k,j=>by
  have w:∀{b:AV Y}{v:Value}{p:Addr},f a=.pointer (ν p)->AR g b v->LQ Y.P f (.load ty (.tmp a)) 0 v g.w->(Rt c l λaE=>k (b::aE))->∃aE vs,k aE/\F2 (AR g) aE vs/\∀B,Is N B f->((ResultVar.cell a ty::l).mapM (Rs B)).run Y.P g.w=.ok vs g.w:=λ{b v p}y L G j=>by
   obtain⟨aE,vs,q,r,n⟩:=Pz (N:=N) h j;refine⟨b::aE,v::vs,q,.cons L r,λm e=>?_⟩;have F:=Ach G y;have I:m.getD a undef=.pointer (ν p):=by rw[e.2 a,y]
   simp_all[b9,Rs,asAddr]
  unfold Rt at j;split at j
  .rename_i i o s;obtain⟨v,b,q,r,n⟩:=WR (ty:=0) (x:=.tmp a) h j (h.fr a _ s);obtain⟨_,E,_,y⟩:=h.fr a _ s;grind
  .rename_i M d o s;obtain⟨E,H,u,J,D,K,C⟩:=h.fr a _ s;obtain⟨v,b,q,r,n⟩:=Ag2 (ty:=0) (x:=.tmp a) j J D K C;grind[Sx.refl]
  grind
variable {F:Func}
theorem Hf{P:Program}{a:Array Value}{vs:List Value}(h:(F.results.toList.mapM (Rs a)).run P w=.ok vs w):(results F a).run P w=.ok (LD vs) w:=by
 have e:results F a=(F.results.mapM (Rs a) >>=λvs=>pure (if h:vs.size=1 then vs[0] else .tuple vs)):=by rfl
 rw[e,Array.mapM_eq_mapM_toList];simp only[Sem.run_bind,map_eq_pure_bind,h,Result.andThen_ok,Sem.run_pure,bind_assoc,pure_bind];cases vs with
 |nil=>rfl
 |cons v vs=>
  cases vs with
  |nil|cons u vs=>rfl
def mkR:(l:List RK)->List (AV Y)->List (Nat×CU Y)->Option (MF Y l×List (Nat×CU Y))
 | [],[],sg=>ν ((),sg)
 | .dat t::l,a::aE,sg=>match VS t a,mkR l aE sg with
  |some x,ν r=>ν ((x,r.1),r.2)
  |_,_=>δ
 | .own t::l,a::aE,sg=>match Al8 (.own t) a sg with
  |some q=>match mkR l aE q.2 with
   |some r=>ν ((q.1,r.1),r.2)
   |none=>δ
  |none=>δ
 | .map k e::l,a::aE,sg=>match getM k e a sg with
  |some q=>match mkR l aE q.2 with
   |some r=>ν ((q.1,r.1),r.2)
   |none=>δ
  |none=>δ
 |_,_,_=>δ
theorem Abe{g:B3}:∀{l:List RK}{aE:List (AV Y)}{sg:List (Nat×CU Y)}{r:MF Y l×List (Nat×CU Y)}{vs:List Value}{A:Bi},mkR l aE sg=ν r->F3 g sg A->F2 (AR g) aE vs->∃A1 A2,A.Perm (A1++A2)/\ReR Y g.I g.w l r.1 vs A1/\F3 g r.2 A2
 | [],[],sg,r,_,A,h,b,.nil=>by cases h;exact⟨[],A,aa _,⟨rfl,rfl⟩,b⟩
 | .dat t::l,a::aE,sg,r,v::vs,A,h,b,.cons m n=>by
  unfold mkR at h;split at h
  .rename_i x y z d;cases h;obtain⟨A1,A2,i,j,c⟩:=Abe d b n;exact⟨A1,A2,i,⟨v,vs,rfl,Dm z m,j⟩,c⟩
  grind
 | .own t::l,a::aE,sg,r,v::vs,A,h,b,.cons m n=>by
  unfold mkR at h;split at h
  .rename_i q p;split at h
   .rename_i y d;cases h;obtain⟨f,B,w,u,o⟩:=Wi p b m;obtain⟨A1,A2,i,j,c⟩:=Abe d o n;exact⟨f++A1,A2,perm_cons w i,⟨v,vs,f,A1,rfl,rfl,u,j⟩,c⟩
   grind
  grind
 | .map k e::l,a::aE,sg,r,v::vs,A,h,b,.cons m n=>by
  unfold mkR at h;split at h
  .rename_i q p;split at h
   .rename_i y d;cases h;obtain⟨f,B,w,u,o⟩:=Abt (s:=.map k e) p b m;obtain⟨A1,A2,i,j,c⟩:=Abe d o n;exact⟨f++A1,A2,perm_cons w i,⟨v,vs,f,A1,rfl,rfl,u,j⟩,c⟩
   grind
  grind
 |.ownO _::_,_::_,_,_,_,_,h,_,_|[],_::_,_,_,_,_,h,_,_|_::_,[],_,_,_,_,h,_,_=>by grind[mkR]
def mkI:(l:List AK)->Nat->List (Nat×CU Y)->Option (O6 Y l×List (Nat×CU Y))
 | [],_,sg=>ν ((),sg)
 | .own t::l,n,sg=>match Al8 (.own t) (.own n) sg with
  |some q=>match mkI l (n+1) q.2 with
   |some r=>ν ((q.1,r.1),r.2)
   |none=>δ
  |none=>δ
 | .map k e::l,n,sg=>match getM k e (.own n) sg with
  |some q=>match mkI l (n+1) q.2 with
   |some r=>ν ((q.1,r.1),r.2)
   |none=>δ
  |none=>δ
 | .dat .ptr::l,n,sg=>mkI l (n+1) sg
 |.dat (.int _)::l,n,sg|.dat .bool::l,n,sg|.dat .str::l,n,sg|.dat .mref::l,n,sg|.dat (.sl _)::l,n,sg|.dat (.u _)::l,n,sg|.mob::l,n,sg|.del _::l,n,sg|.fn _ _::l,n,sg|.fbx _ _::l,n,sg=>mkI l n sg
theorem Xl{g:B3}:∀{l:List AK}{n:Nat}{vs:List Value}{sg:List (Nat×CU Y)}{r:O6 Y l×List (Nat×CU Y)}{A:Bi},mkI l n sg=ν r->NmR g l n vs->F3 g sg A->∃A1 A2,A.Perm (A1++A2)/\IoR Y g.I g.w l r.1 vs A1/\F3 g r.2 A2
 | [],n,vs,sg,r,A,h,_,b=>by cases h;exact⟨[],A,aa _,rfl,b⟩
 | .own t::l,n,vs,sg,r,A,h,⟨⟨v,d,u,i,x⟩,o⟩,b=>by
  simp only[mkI]at h;split at h
  .rename_i q m;split at h
   .rename_i D y;cases h;subst u;obtain⟨f,E,B,C,p⟩:=Wi m b (show AR g (.own n) v from ⟨i,x.symm⟩);obtain⟨A1,A2,j,w,z⟩:=Xl y o p;exact⟨f++A1,A2,perm_cons B j,⟨v,d,f,A1,rfl,rfl,C,w⟩,z⟩
   grind
  grind
 | .map k e::l,n,vs,sg,r,A,h,⟨⟨v,d,u,i,x⟩,o⟩,b=>by
  simp only[mkI]at h;split at h
  .rename_i q m;split at h
   .rename_i D y;cases h;subst u;obtain⟨f,E,B,C,p⟩:=Abt (s:=.map k e) (a:=.own n) (r:=q) m b (show AR g (.own n) v from ⟨i,x.symm⟩);obtain⟨A1,A2,j,w,z⟩:=Xl y o p;exact⟨f++A1,A2,perm_cons B j,⟨v,d,f,A1,rfl,rfl,C,w⟩,z⟩
   grind
  grind
 | .dat t::l,n,vs,sg,r,A,h,c,b=>by cases t<;>exact Xl (l:=l) (vs:=vs.tail) h c b
 |.mob::l,n,vs,sg,r,A,h,c,b|.del _::l,n,vs,sg,r,A,h,c,b|.fn _ _::l,n,vs,sg,r,A,h,c,b|.fbx _ _::l,n,vs,sg,r,A,h,c,b=>Xl (l:=l) (vs:=vs.tail) h c b
def rtY(res:List ResultVar)(σ:Bd)(Q:MF Y σ.res->O6 Y σ.args->HH Y->Prop)(c:Cf Y):Prop:=
 Rt (X3 c res σ.res) res λaE=>match mkR σ.res aE (X3 c res σ.res).sg,(X3 c res σ.res).op with
  |some r,δ=>match mkI σ.args 0 r.2 with
   |some q=>Q r.1 q.1 (X3 c res σ.res).H
   |none=>False
  |_,_=>False
def rtX(res:List ResultVar)(σ:Bd)(Q:MF Y σ.res->O6 Y σ.args->HH Y->Prop)(c:Cf Y):Prop:=cls c (rtY res σ Q)
theorem Ab8{I:Cb}:∀{l:List AK}{x:JK Y l}{vs:List Value}{A:Bi},ArR Y I w l x vs A->ω vs=ω l:=by
 intro l;induction l with
 |nil=>intro x vs A h;rw[h.1];rfl
 |cons k l d=>
  intro x vs A h;cases k with
  |dat t=>obtain⟨v,c,a,_,b⟩:=h;grind
  |own t|map k e=>obtain⟨v,c,i,f,a,_,_,b⟩:=h;grind
  |mob|del t|fn g j|fbx g j=>obtain⟨v,c,a,_,b⟩:=h;grind
theorem An9{gi g:B3}{σ:Bd}{N:Nat}{Q:MF Y σ.res->O6 Y σ.args->HH Y->Prop}{vs:List Value}(C:NmR g σ.args 0 vs){T:Bi}{c:Cf Y}{f:Fr}{g':B3}{AH' A':Bi}(d:Lx g g')(x:RG gi T c f g' AH' A')(u:rtX F.results.toList σ Q c):∃v,(∀a,Is N a f->(results F a).run Y.P g'.w=.ok v g'.w)/\((∃v' I',Ending.returned v=.returned v'/\Ext gi.I gi.w I' g'.w/\∃AH' A' H',St I' g'.w (AH'++(A'++T))/\Ip (Ra Y) I' g'.w H' AH'/\∃b io us A1 A2,A'=A1++A2/\v'=LD us/\ReR Y I' g'.w σ.res b us A1/\IoR Y I' g'.w σ.args io vs A2/\Q b io H')):=by
 have k:∀(c:Cf Y)(f:Fr)(g':B3)(AH' A':Bi),Lx g g'->RG gi T c f g' AH' A'->rtY F.results.toList σ Q c->∃v,(∀a,Is N a f->(results F a).run Y.P g'.w=.ok v g'.w)/\
   ((∃v' I',Ending.returned v=.returned v'/\Ext gi.I gi.w I' g'.w/\∃AH' A' H',St I' g'.w (AH'++(A'++T))/\Ip (Ra Y) I' g'.w H' AH'/\∃b io us A1 A2,A'=A1++A2/\v'=LD us/\ReR Y I' g'.w σ.res b us A1/\IoR Y I' g'.w σ.args io vs A2/\Q b io H')):=λc f g' AH' A' d x u=>by
  obtain⟨l,A1,e,M,i⟩:=Ajn F.results.toList σ.res x
  obtain⟨V,us,j,H,D⟩:=Pz (N:=N) i u
  split at j
  .rename_i r w s
   split at j
   .rename_i L t
    obtain⟨n,U,E,G,O⟩:=Abe w i.sg H
    obtain⟨m,y,J,B,S⟩:=Xl t (C.mono (d.trans M.lx)) O
    have h:=i.hr
    rw[s]at h
    refine⟨LD us,λa R=>by grind[Hf],LD us,l.I,rfl,by rw[<-e];exact i.le,AH',n++m,_,?_,by rw[<-e];exact h,r.1,L.1,us,n,m,rfl,rfl,by grind,by grind,j⟩
    rw[<-e]
    have A:A1.Perm ((n++m)++y):=perm_cons E J
    have z:=i.st.perm ((A.append_right T).append_left AH')
    grind[a6,DQ]
   grind
  grind
 obtain⟨P,l,o,A1,K,I,q,p,_,_⟩:=DA x u;rw[<-I];exact k P f l o A1 (d.trans q.lx) p K
theorem Akq{E:Env Y}{q:FuncId}{σ:Bd}{code:Code}{a:JK Y σ.args}{H:HH Y}{Q:MF Y σ.res->O6 Y σ.args->HH Y->Prop}(hf:Y.P.funcs[q]?=ν F)(hb:F.body=ν code)(hN:F.ntmps=E.N)(hl:aq (ω σ.args) E.N=τ)(h:Ve E code (ini σ.args a H) {nx:=rtX F.results.toList σ Q,ex:=[],rt:=rtX F.results.toList σ Q}):Wp Y q σ a H Q E.X:=by
 intro I w T A AH M o hH S;refine Sb hf hb hN (by grind[Ab8]) ?_;let O:B3:={I:=I,w:=w,n:=0,μ:=λ_=>undef,φ:=YE M}
 obtain⟨g,k1,R,Z,k4,k5,k6,k7⟩:=Wg (g:=O) (i:=0) (f:=YE M) o (λj v hj=>by rw[ak,<-MT,hj];rfl);have y:RG O T (ini σ.args a H) (YE M) g AH A:=⟨k4,k1.ext,by grind,by show Ip _ _ _ _ _;rw[R,Z];exact hH,k6,λx z=>(by cases z),λt ht=>(by grind[ini,N0]),k5⟩
 have J:∀(c:Cf Y)(f:Fr)(C:B3)(d s:Bi),Lx g C->RG O T c f C d s->rtX F.results.toList σ Q c->_:=λc f C d s p y z=>An9 (N:=E.N) k7 p y z;have hR:Hy O T E.X ((⟨q,δ,[]⟩:FK).at (Amr Y.P F E.N λe r=>(∃v m,e=.returned v/\Ext I w m r/\∃d s B,St m r (d++(s++T))/\Ip (Ra Y) m r B d/\∃b X W V U,s=V++U/\v=LD W/\ReR Y m r σ.res b W V/\IoR Y m r σ.args X M U/\Q b X B) ∨
   (∃v m,e=.panicked [{v,recovered:=ψ}]/\Ext I w m r/\∃d B t l u,St m r (d++T)/\Ip (Ra Y) m r B d/\v=.iface t u/\rp Y.toUS l.t m r u l.x/\E.X t l B))):=λv r m d B t l u K L G D h5 h6 _=>.inr ⟨v,m,rfl,K,d,B,t,l,u,L,G,D,h5,h6⟩
 have:=Hx (fn:=⟨q,δ,[]⟩) (gb:=g) hR code (k:=[]) ⟨λc f C d s _ p y z=>?_,λid q hq=>by simp [lkE]at hq,λc f C d s k' p y z=>?_⟩ (Lx.refl g) y h
 .grind
 .obtain⟨v,K,P,m,L,G,D⟩:=J c f C d s p y z;exact Un ⟨v,K,.inl ⟨P,m,L,G,D⟩⟩
 .obtain⟨v,K,P,m,L,G,D⟩:=J c f C d s p y z;exact NU ⟨v,K,.inl ⟨P,m,L,G,D⟩⟩
end
end
section
section
variable {Y:Sys}
def nmA(n:Nat):AV Y->Prop
 | .own i | .adr i _ | .el i _ _ _ | .ptr i _ | .hp i _ _ | .sub i _ _=>i<n
 |_=>True
variable {g:B3}
theorem AR.nm{a:AV Y}{v:Value}(h:AR g a v):nmA g.n a:=by cases a<;>first|exact h.1|exact trivial
theorem AR.chg{g':B3}{n:Nat}(l:g'.I=g.I)(f:g'.w=g.w)(k:n<=g'.n)(c:∀i,i<n->g'.μ i=g.μ i){a:AV Y}{v:Value}(e:nmA n a)(h:AR g a v):AR g' a v:=by
 cases a with
 |dat t x=>show rp _ _ _ _ _ _;rw[l,f];exact h
 |nat j|prp p d=>exact h
 |own i|adr i o|el i t j o=>exact⟨a4 e k,by rw[c i e];exact h.2⟩
 |del t x o=>obtain⟨b,r,u,m,q,y,w⟩:=h;exact⟨b,r,u,by rw[l,f];exact m,by rw[f];exact q,by rw[l];exact y,w⟩
 |ptr i p|hp i b o=>exact⟨a4 e k,by rw[c i e];exact h.2⟩
 |mob b=>exact h
 |sub i T A=>exact⟨a4 e k,by rw[c i e];exact h.2⟩
 |val u=>exact h
 |ifc t T x=>obtain⟨u,m,q⟩:=h;exact⟨u,m,by rw[l,f];exact q⟩
 |fn s z F=>show FvR _ _ _ _ _ _ _;rw[l,f];exact h
 |fbx s z F=>show FbR _ _ _ _ _ _ _;rw[l,f];exact h
def nmS(n:Nat):CU Y->Prop
 | .blk cs | .ag cs=>∀a∈cs,nmA n a
 | .tp l=>∀a∈l,nmA n a
 | .clo _ l m=>(∀a∈l,nmA n a)/\∀a∈m,nmA n a
 | .sl _ _ | .mp _ _ _=>True
theorem F2.nm{R:Value->Prop}{l:List (AV Y)}{m:List Value}(h:F2 (λa v=>AR g a v/\R v) l m):∀a∈l,nmA g.n a:=λa b=>by obtain⟨v,_,c⟩:=h.mem a b;exact c.1.nm
theorem F2.nm'{l:List (AV Y)}{m:List Value}(h:F2 (AR g) l m):∀a∈l,nmA g.n a:=λa b=>by obtain⟨v,_,c⟩:=h.mem a b;exact c.nm
variable {A:Bi}
theorem SR.nm{i:Nat}{s:CU Y}(h:SR g i s A):nmS g.n s:=by
 cases s with
 |blk r=>obtain⟨b,n,e,d,c,a⟩:=h;exact a.nm
 |sl t o|mp k e m=>exact trivial
 |tp l=>obtain⟨d,f,c,a⟩:=h;exact a.nm'
 |ag l=>obtain⟨d,f,c,a⟩:=h;exact a.nm
 |clo q l m=>obtain⟨d,f,p,c,a,j⟩:=h;exact⟨a.nm',j.nm'⟩
theorem F2.Apq{α β:Type}{R:α->β->Prop}{Q:α->Prop}{l:List α}{m:List β}(h:F2 R l m)(c:∀a∈l,Q a):F2 (λa b=>Q a/\R a b) l m:=by
 induction h with
 |nil=>exact .nil
 |cons h _ d=>exact .cons ⟨c _ az,h⟩ (d λa e=>c a (List.mem_cons_of_mem _ e))
theorem SR.chg{g':B3}{n i:Nat}(hi:i<n)(f:g'.I=g.I)(j:g'.w=g.w)(p:n<=g'.n)(a:∀i,i<n->g'.μ i=g.μ i){s:CU Y}(v:nmS n s)(h:SR g i s A):SR g' i s A:=by
 cases s with
 |blk B=>obtain⟨b,w,e,c,o,d⟩:=h;exact⟨b,w,e,c,by rw[a i hi];exact o,(d.Apq v).mono λ_ _ r=>⟨r.2.1.chg f j p a r.1,r.2.2⟩⟩
 |sl t z=>show OO _ _ _ _ _ _ _;rw[f,j,a i hi];exact h
 |mp k e m=>show Yo _ _ _ _ _ _ _ _;rw[f,j,a i hi];exact h
 |tp l=>obtain⟨c,u,o,d⟩:=h;exact⟨c,u,by rw[a i hi];exact o,(d.Apq v).mono λ_ _ r=>r.2.chg f j p a r.1⟩
 |ag l=>obtain⟨c,u,o,d⟩:=h;exact⟨c,u,by rw[a i hi];exact o,(d.Apq v).mono λ_ _ r=>⟨r.2.1.chg f j p a r.1,r.2.2⟩⟩
 |clo q l m=>obtain⟨c,u,y,o,d,x⟩:=h;exact⟨c,u,y,by rw[a i hi];exact o,(d.Apq v.1).mono λ_ _ r=>r.2.chg f j p a r.1,(x.Apq v.2).mono λ_ _ r=>r.2.chg f j p a r.1⟩
def Z5:List (Nat×CU Y)->List (Nat×CU Y)->Prop
 | [],_=>True
 |p::ks,sg=>IT sg p.1=ν p.2/\Z5 ks (G4 sg p.1)
theorem Xs{g:B3}:∀{ks sg:List (Nat×CU Y)}{A:Bi},F3 g sg A->Z5 ks sg->∃A1 A2,A.Perm (A1++A2)/\F3 g ks A1
 | [],sg,A,_,_=>⟨[],A,by simp,rfl⟩
 |p::ks,sg,A,h,⟨l,j⟩=>by obtain⟨A1,A2,i,d,k,e⟩:=h.take l;obtain⟨a,f,b,c⟩:=Xs e j;exact⟨A1++a,f,i.trans (by rw[a6];exact b.append_left A1),A1,a,rfl,d,k,c⟩
theorem F3.chg{g0 g g':B3}(c:g'.I=g.I)(d:g'.w=g.w)(b:g0.n<=g'.n)(a:∀i,i<g0.n->g'.μ i=g.μ i):∀{ks:List (Nat×CU Y)}{A A0:Bi},F3 g0 ks A0->F3 g ks A->F3 g' ks A
 | [],_,_,_,h=>h
 |_::_,_,_,⟨_,_,_,e,f,l⟩,⟨n,k,j,_,o,m⟩=>⟨n,k,j,a4 e b,o.chg e c d b a f.nm,F3.chg c d b a l m⟩
def hdK(c:Cf Y)(ks:List (Nat×CU Y))(la:LA)(x:VT Y la.vars)(H:HH Y):Cf Y:={hdC c la x H with sg:=(hdC c la x H).sg++ks,op:=c.op}
def Aj4(op:Option (Opn Y))(ks:List (Nat×CU Y))(la:LA)(c':Cf Y)(K:VT Y la.vars->HH Y->Prop):Prop:=match Ag8 (J0 c' la.vars).fr la.vars (J0 c' la.vars).sg,op,(J0 c' la.vars).op with
 |some r,δ,δ=>Z5 ks r.2/\K r.1 (J0 c' la.vars).H
 |some r,ν o,ν o'=>o'=o/\Z5 ks r.2/\K r.1 (J0 c' la.vars).H
 |_,_,_=>False
def Ae3(op:Option (Opn Y))(ks:List (Nat×CU Y))(la:LA)(c':Cf Y)(K:VT Y la.vars->HH Y->Prop):Prop:=match op with
 |none=>cls c' λc'=>Aj4 δ ks la c' K
 |some o=>Aj4 (ν o) ks la c' K
theorem Aj3{g0:B3}{T AH:Bi}{c:Cf Y}{f:Fr}{op:Option (Opn Y)}{ks:List (Nat×CU Y)}{la:LA}(h:RG g0 T c f g AH A){K:VT Y la.vars->HH Y->Prop}(i:Ae3 op ks la c K):∃g1 x H AH1 A1 A2,g1.w=g.w/\Le g g1/\K x H/\VTR g1.I g1.w f la.vars x A1/\F3 g1 ks A2/\St g1.I g1.w (AH1++((A1++A2)++T))/\HR g1 H [] AH1 op:=by
 have n:∀{b:Cf Y}{k:B3}{AH1 C:Bi},RG g0 T b f k AH1 C->Aj4 op ks la b K->∃g1 x H A1 A2,g1.w=k.w/\Le k g1/\K x H/\VTR g1.I g1.w f la.vars x A1/\F3 g1 ks A2/\St g1.I g1.w (AH1++((A1++A2)++T))/\HR g1 H [] AH1 op:=λ{b k AH1 C}I a=>by
  obtain⟨g1,P,D,L,p⟩:=TF la.vars I;unfold Aj4 at a;have l:∀{r},Ag8 (J0 b la.vars).fr la.vars (J0 b la.vars).sg=ν r->(J0 b la.vars).op=op->Z5 ks r.2->K r.1 (J0 b la.vars).H->∃g1 x H A1 A2,g1.w=k.w/\Le k g1/\K x H/\VTR g1.I g1.w f la.vars x A1/\F3 g1 ks A2/\St g1.I g1.w (AH1++((A1++A2)++T))/\HR g1 H [] AH1 op:=λ{r}e E q s=>by
   obtain⟨A1,A2,F,M,O⟩:=Abs p.fr e p.sg;obtain⟨j,m,N,J⟩:=Xs O q;have B:=p.hr;rw[E]at B;refine⟨g1,r.1,_,A1,j,D,L,s,M,J,?_,HR.mono (Le.refl _) B⟩;have z:=p.st.perm (((F.trans (N.append_left A1)).append_right T).append_left AH1);have:St g1.I g1.w ((AH1++(A1++j))++(m++T)):=by simpa [a6] using z
   simpa [a6] using DQ this
  split at a
  .rename_i r e d;exact l e d a.1 a.2
  .rename_i r o Q e d;obtain⟨rfl,q,s⟩:=a;exact l e d q s
  .exact a.elim
 unfold Ae3 at i;split at i
 .obtain⟨b,g1,AH1,A1,i,G,y,e,_⟩:=DA h i;obtain⟨u,x,H,j,m,v,w,t⟩:=n e i;exact⟨u,x,H,AH1,j,m,v.trans G,y.trans w,t⟩
 .obtain⟨u,x,H,j,m,v,w,t⟩:=n h i;exact⟨u,x,H,AH,j,m,v,w,t⟩
theorem Aqe{g0 g1:B3}{T AH AH1 A1 A2 A0:Bi}{c:Cf Y}{f f1:Fr}(h:RG g0 T c f g AH A){la:LA}{ks:List (Nat×CU Y)}(E:F3 g ks A0)(p:Ext g.I g.w g1.I g1.w)(_:g.n<=g1.n)(q:∀i,i<g.n->g1.μ i=g.μ i)(k:∀t,N0 t (la.BX++c.pt)=τ->f1 t=f t){T':Bi}{x:VT Y la.vars}{H:HH Y}(U:VTR g1.I g1.w f1 la.vars x A1)(z:F3 g1 ks A2)(C:St g1.I g1.w (AH1++((A1++A2)++T')))(u:HR g1 H [] AH1 c.op)(D:∀o,c.op=ν o->o.i<g.n):∃g2,g2.w=g1.w/\g2.φ=f/\g2.I=g1.I/\Lx g g2/\RG g0 T' (hdK c ks la x H) f1 g2 AH1 (A1++A2):=by
 let J:B3:={I:=g1.I,w:=g1.w,n:=g.n,μ:=g1.μ,φ:=f}
 obtain⟨g2,e,m,l,K,L,G⟩:=Aau (g:=J) (fr:=c.fr) (kp:=la.BX) (λt i d=>by
  unfold rnm at d;split at d
  .rename_i j z M;injection d with d
   subst d;obtain⟨s,v⟩:=h.fr t _ M;exact⟨s,by show g1.μ j=f1 t;rw[q j s,<-v,k t (PJ z)]⟩
  .cases d) U
 have N:J.n=c.nx:=h.n;rw[N]at K L G;have b:Le {g with φ:=f} g2:=⟨by rw[l,m];exact p,e.n,λi d=>by rw[e.μ i d];exact q i d,e.φ⟩
 refine⟨g2,m,e.φ,l,⟨b.ext,b.n,b.μ⟩,K,by rw[l,m];exact h.le.trans p,by rw[l,m];exact C,?_,G.app (F3.chg (g0:=g) (g:=g1) l m e.n (λi d=>e.μ i d) E z),λy B=>⟨a4 (h.hs y B).1 b.n,by rw[b.μ _ (h.hs y B).1];exact(h.hs y B).2⟩,λt O=>by rw[e.φ];exact k t O,λi a d=>?_⟩
 .show HR g2 H _ AH1 c.op;cases F:c.op with
  |none=>
   rw[F]at u;show Ip _ _ _ _ _;rw[l,m];exact u
  |some o=>
   rw[F]at u;obtain⟨s,v,V,S⟩:=u;have r:=D o F;exact⟨by rw[l,m];exact s,v,a4 r e.n,by rw[e.μ _ r];exact S⟩
 rcases Abl d with d|d
 .exact L i a d
 .obtain⟨P,Q⟩:=Xu d;rw[k i (PJ Q)];have:=(h.fr i a P)
  exact AR.mono (g:={g with φ:=f}) b (by cases a<;>exact this)
end
end
section
section
variable {Y:Sys}
variable {g0 g:B3} {T AH A:Bi} {c:Cf Y} {f:Fr}
theorem RG.world{T':Bi}(h:RG g0 T c f g AH A){w':World}(e:Ext g.I g.w g.I w')(d:St g.I w' (AH++(A++T'))):Le g {g with w:=w'}/\RG g0 T' c f {g with w:=w'} AH A:=by
 have b:Le g {g with w:=w'}:=⟨e,ab _,λ_ _=>rfl,rfl⟩
 exact⟨b,h.n,h.le.trans e,d,h.hr.mono b,h.sg.mono b,h.hs.mono b,b.pt h.pt,λi a j=>(h.fr i a j).mono b⟩
theorem RG.Aqx{B:Bi}(h:RG g0 (B++T) c f g AH A):RG g0 T c f g AH A:=
 ⟨h.n,h.le,by
  have a:St g.I g.w ((AH++A)++(B++T)):=by have:=h.st;rwa [a6]
  have b:=DQ a;rwa [a6]at b,h.hr,h.sg,h.hs,h.pt,h.fr⟩
def rmF(t:Nat):List (Nat×AV Y)->List (Nat×AV Y)
 | []=>[]
 |p::l=>match aj p.1 t with
  |true=>rmF t l
  |false=>p::rmF t l
theorem Agi{t:Nat}{a:AV Y}{i:Nat}:∀{l:List (Nat×AV Y)},Iz (rmF t l) i=ν a->i≠t/\Iz l i=ν a
 | [],h=>by grind[rmF,Iz]
 |p::l,h=>by
  unfold rmF at h;split at h
  .rename_i b;have b:=al b;obtain⟨c,d⟩:=Agi h;exact⟨c,by rw[Iz,GT (λe=>c (by omega))];exact d⟩
  .rename_i b;have b:p.1≠t:=λe=>by simp_all
   unfold Iz at h ⊢;by_cases e:p.1=i
   .grind
   .rw[GT e]at h ⊢;exact Agi h
theorem RG.rm{N t:Nat}{v:Value}(h:RG g0 T c f g AH A)(d:N0 t c.pt=ψ):RG g0 T {c with fr:=rmF t c.fr} (X.put N f (ν t) v) g AH A:=by
 refine⟨h.n,h.le,h.st,h.hr,h.sg,h.hs,λj k=>?_,λi a l=>?_⟩
 .have b:j≠t:=λe=>by grind
  show (if j=t then _ else f j)=_;rw[GT b];exact h.pt j k
 .obtain⟨n,m⟩:=Agi l;show AR g a (if i=t then _ else f i);rw[GT n];exact h.fr i a m
variable {es:Array MapEntry} {seen:Array Nat}
theorem Aec{b:Nat}:(leftOf es (seen.push b)).toList=(leftOf es seen).toList.filter λx=>x.born != b:=by unfold leftOf;simp only[Array.toList_filter,List.filter_filter];refine List.filter_congr λx _=>?_;by_cases h:x.born=b<;>simp [h,bne]
def ItR(k e:Ty)(I:Cb)(w:World)(es:Array MapEntry)(seen:Array Nat)(left:List (den Y.D k×den Y.D e)):Prop:=∃l:List MapEntry,l.Perm (leftOf es seen).toList/\F2 (λ(x:MapEntry)(p:den Y.D k×den Y.D e)=>rp Y.toUS k I w x.key p.1/\rp Y.toUS e I w x.val p.2) l left
theorem ItR.mono{k e:Ty}{I I':Cb}{w w':World}{es:Array MapEntry}{seen:Array Nat}{left:List (den Y.D k×den Y.D e)}(h:ItR k e I w es seen left)(x:Ext I w I' w'):ItR k e I' w' es seen left:=by obtain⟨l,a,b⟩:=h;exact⟨l,a,b.mono λ_ _ r=>⟨Ff x r.1,Ff x r.2⟩⟩
theorem ItR.nil{k e:Ty}{I:Cb}{w:World}{es:Array MapEntry}{seen:Array Nat}{left:List (den Y.D k×den Y.D e)}(h:ItR k e I w es seen left)(b:(leftOf es seen).size=0):left=[]:=by
 obtain⟨l,a,c⟩:=h;have:ω l=0:=by simp_all
 have d:=c.len;grind
variable {k e:Ty}
theorem ItR.start{I:Cb}{w:World}{m:List (den Y.D k×den Y.D e)}(a:ω es.toList=ω m)(b:∀j(h:j<ω es.toList)(g:j<ω m),rp Y.toUS k I w es.toList[j].key m[j].1/\rp Y.toUS e I w es.toList[j].val m[j].2):ItR k e I w es #[] m:=by
 refine⟨es.toList,by rw[Apy],?_⟩;generalize es.toList=l at a b;induction l generalizing m with
 |nil=>cases m with
  |nil=>exact .nil
  |cons=>grind
 |cons x l d=>cases m with
  |nil=>grind
  |cons p m=>exact .cons (b 0 (by simp) (by simp)) (d (by grind) λj f c=>b (j+1) (by grind) (by grind))
theorem F2.split{α β:Type}{R:α->β->Prop}{x:α}{l2:List α}:∀{l1:List α}{m:List β},F2 R (l1++x::l2) m->∃m1 p m2,m=m1++p::m2/\R x p/\F2 R (l1++l2) (m1++m2)
 | [],m,h=>by cases h with
  |cons b a=>exact⟨[],_,_,rfl,b,a⟩
 |y::l1,m,h=>by cases h with
  |cons b a=>
   obtain⟨m1,p,m2,e,c,d⟩:=F2.split a
   exact⟨_::m1,p,m2,by grind,c,.cons b d⟩
theorem ItR.step{I:Cb}{w:World}{left:List (den Y.D k×den Y.D e)}(h:ItR k e I w es seen left)(s:(es.toList.map (·.born)).Nodup){x:MapEntry}(q:x∈(leftOf es seen).toList):∃l1 p l2,left=l1++p::l2/\rp Y.toUS k I w x.key p.1/\rp Y.toUS e I w x.val p.2/\ItR k e I w es (seen.push x.born) (l1++l2):=by
 obtain⟨l,g,o⟩:=h;obtain⟨a,b,rfl⟩:=List.append_of_mem (g.mem_iff.2 q);obtain⟨t,p,u,rfl,m,r⟩:=F2.split o;refine⟨t,p,u,rfl,m.1,m.2,a++b,?_,r⟩;rw[Aec];have f:(leftOf es seen).toList.Sublist es.toList:=by simp[leftOf]
 have c:((a++x::b).map (·.born)).Nodup:=(g.map _).nodup_iff.2 (s.sublist (f.map _));have n:=g.filter λy=>y.born != x.born;have j:∀y∈a++b,(y.born != x.born)=τ:=λy d=>by grind
 have v:(a++x::b).filter (λy=>y.born != x.born)=a++b:=by rw[b0,List.filter_cons];simp only[bne_self_eq_false,ae,if_false];rw[<-b0,List.filter_eq_self.2 j]
 grind
theorem ItR.mem{x:MapEntry}(hx:x∈(leftOf es seen).toList):x∈es.toList:=by grind[leftOf]
structure ZR where
 bid:Nat
 id1:Nat
 tn:Nat
 te:Nat
 it:Nat
 m1:TypeId×String×Array Edge
 m2:TypeId×String×Array Edge
 b1:Nat
 id2:Nat
 dn:Nat
 m3:TypeId×String×Array Edge
 os:List Oper
 rest:Code
def ZR.A2w(i:ZR):Array Oper:=⟨[⟨ν i.tn,.next (.tmp i.it) ψ,i.m1.1,i.m1.2.1,i.m1.2.2,δ⟩,⟨ν i.te,.extract (.tmp i.tn) 0,i.m2.1,i.m2.2.1,i.m2.2.2,δ⟩]⟩
def ZR.A2v(i:ZR):Array Oper:=⟨⟨ν i.dn,.entry (.tmp i.it),i.m3.1,i.m3.2.1,i.m3.2.2,δ⟩::i.os⟩
def ZR.body(i:ZR):Code:=.seq (.region i.id1 i.A2w ψ) (.seq (.cond (.tmp i.te) .skip (.exit i.bid)) (.block i.b1 (.seq (.region i.id2 i.A2v ψ) i.rest)))
def ZR.code(i:ZR):Code:=.block i.bid (.loop i.body)
def mrP:Code->Option ZR
 | .block bid (.loop (.seq (.region id1 ⟨[⟨ν tn,.next (.tmp it) ψ,x1,x2,x3,δ⟩,⟨ν te,.extract (.tmp tn') 0,y1,y2,y3,δ⟩]⟩ ψ) (.seq (.cond (.tmp te') .skip (.exit bid')) (.block b1 (.seq (.region id2 ⟨⟨ν dn,.entry (.tmp it'),z1,z2,z3,δ⟩::os⟩ ψ) rest)))))=>
  if bid'=bid/\tn'=tn/\te'=te/\it'=it then ν ⟨bid,id1,tn,te,it,(x1,x2,x3),(y1,y2,y3),b1,id2,dn,(z1,z2,z3),os,rest⟩ else δ
 |_=>δ
theorem Azh{b:Code}{i:ZR}(h:mrP b=ν i):b=i.code:=by
 unfold mrP at h;split at h
 .split at h
  .rename_i h1;obtain⟨rfl,rfl,rfl,rfl⟩:=h1;cases h;rfl
  grind
 grind
def Kh(c:Cf Y)(la:LA):List (Nat×CU Y):=match Ag8 (J0 c la.vars).fr la.vars (J0 c la.vars).sg with
 |some r=>r.2
 |none=>[]
def Aws(E:Env Y)(i:ZR)(la:LA)(c:Cf Y):Bool:=
 N0 i.it (la.BX++c.pt)&&!N0 i.tn (la.BX++c.pt)&&!N0 i.te (la.BX++c.pt)&&ax i.tn E.N&&ax i.te E.N&&!aj i.tn i.te&&!aj i.b1 i.bid&&!N0 i.it (la.vars.map (·.1))
def mrB(E:Env Y)(i:ZR)(la:LA)(k e:Ty)(m:List (den Y.D k×den Y.D e))(c:Cf Y)(nx rt:Cf Y->Prop):Prop:=
 Fx (Aws E i la c) (Z5 (Kh c la) c.sg/\∃V:List (den Y.D k×den Y.D e)->VT Y la.vars->HH Y->Prop,Ae3 c.op (Kh c la) la c (V m)/\∀left x H,V left x H->
  (left=[]->nx {hdK c (Kh c la) la x H with fr:=(i.te,.val (.bool ψ))::rmF i.te (rmF i.tn (hdK c (Kh c la) la x H).fr),pt:=c.pt})/\
  ∀l1 p l2,left=l1++p::l2->
   Cf.put {hdK c (Kh c la) la x H with fr:=(i.te,.val (.bool τ))::rmF i.te (rmF i.tn (hdK c (Kh c la) la x H).fr),sg:=((hdK c (Kh c la) la x H).nx,.tp [.dat k p.1,.dat e p.2])::(hdK c (Kh c la) la x H).sg,nx:=(hdK c (Kh c la) la x H).nx+1} E.N (ν i.dn) (.own (hdK c (Kh c la) la x H).nx)
    λc3=>Ws E i.A2v i.os c3 λc4=>Ve E i.rest c4 {nx:=λc'=>Fx (Pa (la.BX++c.pt) c'.pt) (Ae3 c.op (Kh c la) la c' (V (l1++l2))),ex:=[(i.b1,λc'=>Fx (Pa (la.BX++c.pt) c'.pt) (Ae3 c.op (Kh c la) la c' (V (l1++l2)))),(i.bid,wr c.pt nx)],rt:=rt})
theorem Ai5{E:Env Y}{fn:FK}{gb:B3}{R:RL->World->Prop}{i:ZR}{la:LA}{m:List (den Y.D k×den Y.D e)}{nx rt:Cf Y->Prop}{td:List Item}{r mb cl:Nat}(hR:Hy g0 T E.X (fn.at R))(hb:Lx gb g)(h:RG g0 ([(r,.mapIter (ν mb) cl #[] cl)]++([(mb,.map es cl)]++T)) c f g AH A)(hit:f i.it=.pointer (ν ⟨r,0,δ⟩))(hbo:(es.toList.map (·.born)).Nodup/\∀e∈es.toList,e.born<cl)(hI:ItR k e g.I g.w es #[] m)(hx:mrB E i la k e m c nx rt)(hnx:∀c f g' AH A,g'.φ=g.φ->Lx gb g'->RG g0 ([(mb,.map es cl)]++T) c f g' AH A->nx c->WT Y.P fn E.N td R f g'.w)(hrt:∀c f g' AH A k',Lx gb g'->RG g0 ([(mb,.map es cl)]++T) c f g' AH A->rt c->WT Y.P fn E.N (.code .ret::k') R f g'.w):WT Y.P fn E.N (.code i.code::td) R f g.w:=by
 obtain⟨hc,hkp,V,hV0,hstep⟩:=AJ hx;unfold Aws at hc;simp only[a7,ac]at hc;obtain⟨⟨⟨⟨⟨⟨⟨q1,q2⟩,q3⟩,q4⟩,q5⟩,q6⟩,q7⟩,q8⟩:=hc;have hop:∀o,c.op=ν o->o.i<g.n:=λo ho=>by have:=h.hr;rw[ho]at this;exact this.2.2.1
 obtain⟨K1,K2,_,hks0⟩:=Xs h.sg hkp;generalize Kh c la=ks at hV0 hstep hks0;refine LS (ZW (λn f' w'=>∃L x H j J I A2,ω L=n/\J.w=w'/\J.φ=f/\Lx g J/\V L x H/\ItR k e J.I J.w es j L/\RG g0 ([(r,.mapIter (ν mb) cl j cl)]++([(mb,.map es cl)]++T)) (hdK c ks la x H) f' J I A2) (ω m) ?_ ?_)
 .obtain⟨g1,x,H,AH1,A1,A2,e1,e2,e3,e4,e5,e6,e7⟩:=Aj3 h hV0;obtain⟨J,k1,k2,k3,k4,k5⟩:=Aqe h hks0 e2.ext e2.n e2.μ (λ_ _=>rfl) e4 e5 e6 e7 hop;exact⟨m,x,H,#[],J,AH1,_,rfl,k1.trans e1,k2,k4,e3,by rw[k3,k1];exact hI.mono e2.ext,k5⟩
 .rintro n f' w' ⟨L,x,H,j,J,I,A2,rfl,rfl,hφ,hlx,hV,hIt,hr⟩ ih;obtain⟨hz,hs⟩:=hstep L x H hV;have fit:f' i.it=.pointer (ν ⟨r,0,δ⟩):=by rw[hr.pt i.it q1,hφ,hit]
  have hpm:∀X:Bi,(I++(A2++(X++T))).Perm (X++(I++(A2++T))):=λX=>by grind[a5,trans]
  have st0:St J.I J.w ([(r,.mapIter (ν mb) cl j cl)]++([(mb,.map es cl)]++(I++(A2++T)))):=by have:=hr.st.perm (hpm ([(r,.mapIter (ν mb) cl j cl)]++[(mb,.map es cl)]));grind
  have sl:∀{T':Bi}{C:Cf Y}{K:Fr}{g':B3}{z A':Bi}(b:Bool)(v:Value),C.pt=la.BX++c.pt->RG g0 T' C K g' z A'->RG g0 T' {C with fr:=(i.te,.val (.bool b))::rmF i.te (rmF i.tn C.fr)} (X.put E.N (X.put E.N K (ν i.tn) v) (ν i.te) (.bool b)) g' z A':=λ{T' C K g' z A'}b v hp h1=>by have h2:=(h1.rm (N:=E.N) (t:=i.tn) (v:=v) (by grind)).rm (N:=E.N) (t:=i.te) (v:=.bool b) (by grind);refine h2.cons (d:=i.te) (a:=.val (.bool b)) ?_;show _=Value.bool b;have:i.te<E.N:=a8 q5;simp [X.put,DO,this]
  have ext0:∀(b:Bool)(vs:List Value)(K:Fr)(w1:World)(Q:Fr->World->Prop),Q (X.put E.N (X.put E.N K (ν i.tn) (.tuple ⟨.bool b::vs⟩)) (ν i.te) (.bool b)) w1->WL Y.P E.N i.A2w (fn.at R) ψ Q [⟨ν i.te,.extract (.tmp i.tn) 0,i.m2.1,i.m2.2.1,i.m2.2.2,δ⟩] (X.put E.N K (ν i.tn) (.tuple ⟨.bool b::vs⟩)) w1:=λb vs K w1 Q hQ=>by
   refine Ao (v:=.bool b) ?_ hQ;have hlt:i.tn<E.N:=a8 q4;have:ev (X.put E.N K (ν i.tn) (.tuple ⟨.bool b::vs⟩)) (.tmp i.tn)=.tuple ⟨.bool b::vs⟩:=by show X.put E.N K (ν i.tn) _ i.tn=_;simp [X.put,DO,hlt]
   simp [execOp,Instr.extract,this]
  have tev:∀(b:Bool)(K:Fr),ev (X.put E.N K (ν i.te) (.bool b)) (.tmp i.te)=.bool b:=λb K=>by have hlt:i.te<E.N:=a8 q5;show X.put E.N K (ν i.te) _ i.te=_;simp [X.put,DO,hlt]
  have exf:exitTo i.bid (.inLoop i.body::.inBlock i.bid::td)=ν td:=by simp [exitTo]
  have hptK:∀t,N0 t c.pt=τ->f t=g.φ t:=h.pt;have out:∀{C:Cf Y}{K:Fr}{g':B3}{z A':Bi},g'.φ=f->Lx g g'->RG g0 ([(mb,.map es cl)]++T) C K g' z A'->Pa c.pt C.pt=τ->nx {C with pt:=c.pt}->WT Y.P fn E.N td R K g'.w:=λ{C K g' z A'}hf hl h1 M G=>
   hnx _ K {g' with φ:=g.φ} z A' rfl (hb.trans ⟨hl.ext,hl.n,hl.μ⟩) (h1.phi λt ht=>by rw[h1.pt t (Q8 M ht),hf];exact hptK t ht) G
  refine DE (CK ?_);refine Ay0 st0 hbo.2 fit (λh0=>?_) λF hx' w' e' s'=>?_
  .have hl:=hIt.nil h0;refine ext0 ψ [] f' J.w _ ?_;refine DE (Pg (tev ψ _) (VX (k':=td) (by simp [exitTo]) ?_));have h1:=sl ψ (.tuple ⟨.bool ψ::[]⟩) rfl hr.Aqx;exact out hφ hlx h1 (by unfold Pa;rw[b5];exact λt ht=>UG (Abq.2 ht)) (hz hl)
  .obtain⟨l1,p,l2,hleft,hk,he,hIt'⟩:=hIt.step hbo.1 hx';have hs':=hs l1 p l2 hleft;refine ext0 τ [F.key,F.val] f' w' _ ?_;refine DE (SB (tev τ _) (SE (LS ?_)));have hst2:St J.I w' (I++(A2++([(r,.mapIter (ν mb) cl (j.push F.born) cl)]++([(mb,.map es cl)]++T)))):=by have:=s'.perm (hpm ([(r,.mapIter (ν mb) cl (j.push F.born) cl)]++[(mb,.map es cl)])).symm;exact this
   obtain⟨P,h3⟩:=hr.world e' hst2;have h4:=sl τ (.tuple ⟨[.bool τ,F.key,F.val]⟩) rfl h3;generalize hf2:X.put E.N (X.put E.N f' (ν i.tn) (.tuple ⟨[.bool τ,F.key,F.val]⟩)) (ν i.te) (.bool τ)=f2 at h4 ⊢;have fit2:f2 i.it=.pointer (ν ⟨r,0,δ⟩):=by have:=h4.pt i.it q1;rw[this];show J.φ i.it=_;rw[hφ,hit]
   generalize hg3:({J with w:=w'}:B3)=O at P h4;have hw3:O.w=w':=by rw[<-hg3]
   have hI3:O.I=J.I:=by rw[<-hg3]
   have hφ3:O.φ=f:=by rw[<-hg3];exact hφ
   have e3:Ext J.I J.w O.I O.w:=P.ext;have hst3:St O.I O.w ([(r,.mapIter (ν mb) cl (j.push F.born) cl)]++([(mb,.map es cl)]++(I++(A2++T)))):=by rw[hw3,hI3];exact s'
   have U:Le O (O.new O.w (.tuple #[F.key,F.val])):=Le.new (Ext.refl _ _);have h5:=h4.new (w':=O.w) (v:=.tuple #[F.key,F.val]) (s:=.tp [.dat k p.1,.dat e p.2]) (A1:=[]) (Ext.refl _ _) ⟨rfl,[F.key,F.val],O.BA _ _,.cons (show rp Y.toUS k _ _ _ _ from Ff (e3.trans U.ext) hk) (.cons (show rp Y.toUS e _ _ _ _ from Ff (e3.trans U.ext) he) .nil)⟩ h4.st;have hown:AR (Y:=Y) (O.new O.w (.tuple #[F.key,F.val])) (.own (hdK c ks la x H).nx) (.tuple #[F.key,F.val]):=Gy h4.n;obtain⟨c3,g4,k1,k2,k3,k4,k5⟩:=h5.put (N:=E.N) (dst:=ν i.dn) hown hs';rw[<-hw3];refine DE (CK (Aty hst3 (ItR.mem hx') hbo.1 fit2 ?_));have hw4:g4.w=O.w:=k2;rw[<-hw4];have hlx4:Lx g g4:=hlx.trans ((P.trans U).trans k4).lx;have hR':Hy g0 ([(r,.mapIter (ν mb) cl (j.push F.born) cl)]++([(mb,.map es cl)]++T)) E.X (fn.at R):=λv w2 I' z H' t l u p1 p2 p3 p4 p5 p6=>hR v w2 I' z H' t l u p1 (by have:=DQ (A:=z) (B:=[(r,.mapIter (ν mb) cl (j.push F.born) cl)]) p2;exact DQ (A:=z) (B:=[(mb,.map es cl)]) this) p3 p4 p5 p6
   have hφ4:g4.φ=f:=by rw[k4.φ];exact hφ3
   have hIt4:∀{W:B3},Lx g4 W->ItR k e W.I W.w es (j.push F.born) (l1++l2):=λ{W}D=>hIt'.mono (((P.trans U).trans k4).ext.trans D.ext);have back:∀{C:Cf Y}{f5:Fr}{W:B3}{AH5 A5:Bi},W.φ=f->Lx g4 W->RG g0 ([(r,.mapIter (ν mb) cl (j.push F.born) cl)]++([(mb,.map es cl)]++T)) C f5 W AH5 A5->Fx (Pa (la.BX++c.pt) C.pt) (Ae3 c.op ks la C (V (l1++l2)))->WT Y.P fn E.N (.inLoop i.body::.inBlock i.bid::td) R f5 W.w:=λ{C f5 W AH5 A5}hf D Z G=>by obtain⟨M,G⟩:=AJ G;obtain⟨g6,y,H6,AH6,B1,B2,e1,e2,e3,e4,e5,e6,e7⟩:=Aj3 Z G;have hl6:Lx g g6:=(hlx4.trans D).trans e2.lx;obtain⟨g7,k1,k2,k3,k4,k5⟩:=Aqe h hks0 hl6.ext hl6.n hl6.μ (λt ht=>by rw[Z.pt t (Q8 M ht),hf]) e4 e5 e6 e7 hop;have hit7:=hIt4 (D.trans e2.lx);exact ih.out (ω (l1++l2)) f5 W.w (by rw[hleft];simp) ⟨l1++l2,y,H6,j.push F.born,g7,AH6,_,rfl,k1.trans e1,k2,k4,e3,by rw[k3,k1];exact hit7,k5⟩
   refine SA hR' i.os k5 k1 λc5 f5 W AH5 A5 S Z hq5=>?_;refine Hx (E:=E) (fn:=fn) (gb:=g4) hR' i.rest (ks:={nx:=λC=>Fx (Pa (la.BX++c.pt) C.pt) (Ae3 c.op ks la C (V (l1++l2))),ex:=[(i.b1,λC=>Fx (Pa (la.BX++c.pt) C.pt) (Ae3 c.op ks la C (V (l1++l2)))),(i.bid,wr c.pt nx)],rt:=rt}) ⟨?_,?_,?_⟩ S.lx Z hq5
   .exact λC f' g' z A' hf D Z G=>LR (back (by rw[hf,S.φ,hφ4]) D Z G)
   .intro id q G;simp only[lkE]at G;by_cases he1:i.b1=id
    .rw[UV he1]at G;cases G;subst he1;exact⟨_,by simp [exitTo],λC f' g' z A' hf D Z G=>back (by rw[hf,S.φ,hφ4]) D Z G⟩
    .rw[GT he1]at G;by_cases he2:i.bid=id
     .rw[UV he2]at G;cases G;subst he2;refine⟨td,by simp [exitTo,he1],λC f' g' z A' hf D Z G=>?_⟩;obtain⟨M,G⟩:=AJ G;exact out (by rw[hf,S.φ,hφ4]) (hlx4.trans D) Z.Aqx M G
     .rw[GT he2]at G;cases G
   .exact λC f' g' z A' k' D Z G=>hrt _ _ _ _ _ _ (hb.trans (hlx4.trans D)) Z.Aqx G
end
end
section
structure RgO where
 d:Nat
 t:TypeId
 x:Operand
 ty:TypeId
 pos:String
 af:Array Edge
def RgO.op(r:RgO):Oper:=⟨ν r.d,.range r.t r.x,r.ty,r.pos,r.af,δ⟩
def rgL:List Oper->Option (List Oper×RgO)
 | []=>δ
 |o::os=>match os with
  | []=>match o with
   |⟨ν d,.range t x,ty,pos,af,δ⟩=>ν ([],⟨d,t,x,ty,pos,af⟩)
   |_=>δ
  |_::_=>match rgL os with
   |some r=>ν (o::r.1,r.2)
   |none=>δ
theorem Aoc:∀{l:List Oper}{r:List Oper×RgO},rgL l=ν r->l=r.1++[r.2.op]
 | [],r,h=>by grind[rgL]
 |o::c,r,h=>by
  unfold rgL at h;split at h
  .split at h
   .cases h;rfl
   grind
  .split at h
   .rename_i b a;cases h;rw[Aoc a];rfl
   grind
def mrC(a b:Code):Option (Nat×Array Oper×(List Oper×RgO)×ZR):=match a with
 | .region id ops ψ=>match rgL ops.toList,mrP b with
  |some r,ν i=>ν (id,ops,r,i)
  |_,_=>δ
 |_=>δ
theorem Azj{a b:Code}{q:Nat×Array Oper×(List Oper×RgO)×ZR}(h:mrC a b=ν q):a=.region q.1 q.2.1 ψ/\q.2.1.toList=q.2.2.1.1++[q.2.2.1.2.op]/\b=q.2.2.2.code:=by
 unfold mrC at h;split at h
 .split at h
  .rename_i r i c d;cases h;exact⟨rfl,Aoc c,Azh d⟩
  grind
 grind
section
variable {Y:Sys}
theorem Af2{P:Program}{N:Nat}{ops:Array Oper}{R:List PanicEntry->World->Prop}{m:Bool}{K:Fr->World->Prop}{l2:List Oper}:∀{l1:List Oper}{f:Fr}{w:World},WL P N ops R m (λf w=>WL P N ops R m K l2 f w) l1 f w->WL P N ops R m K (l1++l2) f w
 | [],f,w,h=>h
 |o::l1,f,w,h=>by
  simp only[ad,WL]at h ⊢;split at h
  .rename_i a;rw[UV a];exact h.mono λv b h=>Af2 h
  simp_all[Af2]
def mrD(E:Env Y)(q:RgO)(i:ZR)(c:Cf Y):Bool:=!N0 q.d c.pt&&ax q.d E.N&&aj q.d i.it
def mrE(E:Env Y)(q:RgO)(i:ZR)(c:Cf Y)(nx rt:Cf Y->Prop):Prop:=match Sp Y.P q.t,E9 c q.x,lkA E.lp i.id1 with
 |some (_,_),ν (.own j),ν la=>match IT c.sg j with
  |some (.mp k e m)=>Fx (mrD E q i c) (mrB E i la k e m {c.EC with fr:=rmF q.d c.fr,sg:=G4 c.sg j} (λc'=>nx {c' with sg:=(j,.mp k e m)::c'.sg}) λc'=>rt {c' with sg:=(j,.mp k e m)::c'.sg})
  |_=>False
 |some (kt,et),ν (.dat .mref p),ν la=>match Y.ty kt,Y.ty et with
  |some k,ν e=>cls c λc=>Fx (mrD E q i c) (∃b,p=ν b/\∃m,c.H b=ν (.mp k e m)/\mrB E i la k e m {c with fr:=rmF q.d c.fr,H:=CI c.H b} (λc'=>cls c' λc'=>nx {c' with H:=Ac c'.H b (.mp k e m)}) λc'=>cls c' λc'=>rt {c' with H:=Ac c'.H b (.mp k e m)})
  |_,_=>False
 |_,_,_=>False
theorem Azi{E:Env Y}{fn:FK}{g0 g gb:B3}{T AH A:Bi}{R:RL->World->Prop}{c:Cf Y}{f:Fr}{q:RgO}{i:ZR}{nx rt:Cf Y->Prop}{td:List Item}{ops:Array Oper}(hR:Hy g0 T E.X (fn.at R))(hb:Lx gb g)(h:RG g0 T c f g AH A)(C:mrE E q i c nx rt)(hnx:∀c f g' AH A,g'.φ=g.φ->Lx gb g'->RG g0 T c f g' AH A->nx c->WT Y.P fn E.N td R f g'.w)(hrt:∀c f g' AH A k',Lx gb g'->RG g0 T c f g' AH A->rt c->WT Y.P fn E.N (.code .ret::k') R f g'.w):WL Y.P E.N ops (fn.at R) ψ (WT Y.P fn E.N (.code i.code::td) R) [q.op] f g.w:=by
 unfold mrE at C;split at C
 .rename_i kt et j la hm ha hla;split at C
  .rename_i k e m hs;obtain⟨hc,C⟩:=AJ C;unfold mrD at hc;simp only[a7,ac,b3]at hc;obtain⟨⟨q1,q2⟩,q3⟩:=hc;obtain⟨A1,U,hp,hj,O,hsg⟩:=h.sg.take hs;have hv:=(h.ev ha).2;obtain⟨b,x,d,rfl,hvb,n,hr⟩:=@C3.ex _ _ (RT Y.toUS k) (RT Y.toUS e) _ _ _ _ _ O;have hbo:=@C3.bo _ _ (RT Y.toUS k) (RT Y.toUS e) _ _ _ _ _ O b x d rfl;have Q:St g.I g.w ([(b,.map x d)]++(AH++(U++T))):=h.st.perm (FU hp AH);refine Aiw (Abh hm) Q (hv.trans hvb) λr G S s1=>?_;have L:St g.I G (AH++(U++([(r,.mapIter (ν b) d #[] d)]++([(b,.map x d)]++T)))):=by
    refine s1.perm ?_;have hpm:∀X:Bi,(X++(AH++(U++T))).Perm (AH++(U++(X++T))):=λX=>by refine(a5 X AH (U++T)).trans ?_;exact(a5 X U T).append_left AH
    grind
   have P:RG g0 ([(r,.mapIter (ν b) d #[] d)]++([(b,.map x d)]++T)) {c.EC with sg:=G4 c.sg j} f {g with w:=G} AH U:=by
    replace h:=h.EC;have J:Le g {g with w:=G}:=⟨S,ab _,λ_ _=>rfl,rfl⟩
    exact⟨h.n,h.le.trans S,L,h.hr.mono J,hsg.mono J,h.hs.mono J,J.pt h.pt,λi a hi=>(h.fr i a hi).mono J⟩
   have h2:=P.rm (N:=E.N) (t:=q.d) (v:=.pointer (ν ⟨r,0,δ⟩)) q1;have F:Lx g ({g with w:=G}:B3):=⟨S,ab _,λ_ _=>rfl⟩
   have z:∀{y:Cf Y}{M:Fr}{g':B3}{l B:Bi},Lx ({g with w:=G}:B3) g'->RG g0 ([(b,.map x d)]++T) y M g' l B->RG g0 T {y with sg:=(j,.mp k e m)::y.sg} M g' l ([(b,.map x d)]++B):=λ{y M g' l B}n D=>by
    refine⟨D.n,D.le,?_,?_,⟨[(b,.map x d)],B,rfl,a4 hj n.n,?_,D.sg⟩,D.hs,D.pt,D.fr⟩
    .have:=D.st;refine this.perm (ah l ?_);simp
    .have:=D.hr;simp_all[HR]
    .show Yo Y k e _ _ _ (g'.μ j) m;have hmu:g'.μ j=g.μ j:=n.μ j hj;rw[hmu];exact @C3.mono _ _ (RT Y.toUS k) (RT Y.toUS e) _ _ _ _ _ _ _ O (F.trans n).ext
   refine Ai5 (gb:={g with w:=G}) hR (Lx.refl _) h2 ?_ hbo ?_ C (λy M g' l B hf n D hq=>?_) λy M g' l B k' n D hq=>?_
   .simp_all[X.put,DO]
   .grind[ItR.start]
   .exact hnx _ _ _ _ _ (by rw[hf]) (hb.trans (F.trans n)) (z n D) hq
   .exact hrt _ _ _ _ _ _ (hb.trans (F.trans n)) (z n D) hq
  grind
 .rename_i kt et p la hm ha hla;split at C
  .rename_i k e hk he;obtain⟨c1,Z,AH1,A1,C,hw,V,P,_,hop⟩:=DA h C;rw[<-hw];obtain⟨hc,b,hp,m,hmp,C⟩:=AJ C;unfold mrD at hc;simp only[a7,ac,b3]at hc;obtain⟨⟨q1,q2⟩,q3⟩:=hc;have hH:=P.hr;rw[hop]at hH;obtain⟨B1,B2,O,hX,Q⟩:=Ip.take hH hmp P.st;obtain⟨b',x,d,rfl,hvb,n,hr⟩:=@C3.ex _ _ (RT Y.toUS k) (RT Y.toUS e) _ _ _ _ _ O;cases hvb;have hbo:=@C3.bo _ _ (RT Y.toUS k) (RT Y.toUS e) _ _ _ _ _ O b x d rfl;have hv:ev f q.x=.map (ν b):=by have:=LC.1 (h.ev ha);rw[this,hp]
   refine Aiw (Abh hm) Q hv λr G S s1=>?_;have L:St Z.I G (B2++(A1++([(r,.mapIter (ν b) d #[] d)]++([(b,.map x d)]++T)))):=by
    refine s1.perm ?_;have hpm:∀X:Bi,(X++(B2++(A1++T))).Perm (B2++(A1++(X++T))):=λX=>by refine(a5 X B2 (A1++T)).trans ?_;exact(a5 X A1 T).append_left B2
    exact hpm ([(r,.mapIter (ν b) d #[] d)]++[(b,.map x d)])
   have s:Le Z {Z with w:=G}:=⟨S,ab _,λ_ _=>rfl,rfl⟩
   have hne:∀p∈B2,p.1≠b:=λp hp' e'=>by have hn:=Q.nodup;simp only[ad,List.nil_append,bb,List.nodup_cons]at hn;exact hn.1 (by rw[List.map_append];exact am _ (e'▸List.mem_map_of_mem hp'))
   have h2:RG g0 ([(r,.mapIter (ν b) d #[] d)]++([(b,.map x d)]++T)) {c1 with H:=CI c1.H b} f {Z with w:=G} B2 A1:=by refine⟨P.n,P.le.trans S,L,?_,P.sg.mono s,P.hs.mono s,s.pt P.pt,λi a hi=>(P.fr i a hi).mono s⟩;show HR _ _ _ _ c1.op;rw[hop];exact Ip.mono (TE hX hne) S
   have D:=h2.rm (N:=E.N) (t:=q.d) (v:=.pointer (ν ⟨r,0,δ⟩)) q1;have F:Lx g ({Z with w:=G}:B3):=V.lx.trans s.lx;have z:∀{y:Cf Y}{M:Fr}{g':B3}{l B:Bi},y.op=δ->Lx ({Z with w:=G}:B3) g'->RG g0 ([(b,.map x d)]++T) y M g' l B->RG g0 T {y with H:=Ac y.H b (.mp k e m)} M g' ([(b,.map x d)]++l) B:=λ{y M g' l B}W n I=>by
    refine⟨I.n,I.le,?_,?_,I.sg,I.hs,I.pt,I.fr⟩
    .have:=I.st;refine this.perm ?_;rw[a6];refine(ah l (a5 B [(b,.map x d)] T)).trans ?_;exact a5 l [(b,.map x d)] (B++T)
    .have hH':=I.hr;rw[W]at hH';show HR _ _ _ _ y.op;rw[W];refine Ip.new (A1:=[(b,.map x d)]) hH' ?_;exact @C3.mono _ _ (RT Y.toUS k) (RT Y.toUS e) _ _ _ _ _ _ _ O (s.lx.trans n).ext
   refine Ai5 (gb:={Z with w:=G}) hR (Lx.refl _) D ?_ hbo ?_ C (λy M g' l B hf n I hq=>?_) λy M g' l B k' n I hq=>?_
   .have hlt:q.d<E.N:=a8 q2;rw[<-q3];simp [X.put,DO,hlt]
   .exact(ItR.start n hr).mono S
   .obtain⟨c2,g2,AH2,U,hq2,hw2,u,h5,_,K⟩:=DA I hq;rw[<-hw2];exact hnx _ _ _ _ _ (by rw[u.φ,hf];exact V.φ) (hb.trans (F.trans (n.trans u.lx))) (z K (n.trans u.lx) h5) hq2
   .obtain⟨c2,g2,AH2,U,hq2,hw2,u,h5,_,K⟩:=DA I hq;rw[<-hw2];exact hrt _ _ _ _ _ _ (hb.trans (F.trans (n.trans u.lx))) (z K (n.trans u.lx) h5) hq2
  grind
 grind
def mrX(E:Env Y)(q:Nat×Array Oper×(List Oper×RgO)×ZR)(c:Cf Y)(nx rt:Cf Y->Prop):Prop:=Ws E q.2.1 q.2.2.1.1 c λc=>mrE E q.2.2.1.2 q.2.2.2 c nx rt
theorem Azg{E:Env Y}{fn:FK}{g0 g gb:B3}{T AH A:Bi}{R:RL->World->Prop}{c:Cf Y}{f:Fr}{a b:Code}{q:Nat×Array Oper×(List Oper×RgO)×ZR}{nx rt:Cf Y->Prop}{td:List Item}(i:mrC a b=ν q)(m:Hy g0 T E.X (fn.at R))(r:Lx gb g)(h:RG g0 T c f g AH A)(s:mrX E q c nx rt)(k:∀c f g' AH A,g'.φ=g.φ->Lx gb g'->RG g0 T c f g' AH A->nx c->WT Y.P fn E.N td R f g'.w)(l:∀c f g' AH A k',Lx gb g'->RG g0 T c f g' AH A->rt c->WT Y.P fn E.N (.code .ret::k') R f g'.w):WT Y.P fn E.N (.code (.seq a b)::td) R f g.w:=by obtain⟨rfl,u,rfl⟩:=Azj i;refine DE (CK ?_);rw[u];refine Af2 (SA m _ h s λv x g' t w d j e=>?_);exact Azi m (r.trans d.lx) j e (λc f p AH A o n j i=>k c f p AH A (by rw[o,d.φ]) n j i) l
end
end
section
section
variable {Y:Sys}
def Afy:List (AV Y)->Nat->List (Nat×AV Y)
 | [],_=>[]
 |a::aE,i=>(i,a)::Afy aE (i+1)
theorem ZT{g:B3}{f:Fr}:∀{aE:List (AV Y)}{vs:List Value}{i:Nat},F2 (AR g) aE vs->(∀j v,vs[j]?=ν v->f (i+j)=v)->∀j a,Iz (Afy aE i) j=ν a->AR g a (f j)
 | [],_,_,.nil,_,j,a,h=>by grind[Afy,Iz]
 |a::aE,v::vs,i,.cons d k,c,j,b,h=>by
  refine T9 (Q:=λj b=>AR g b (f j)) (p:=(i,a)) ?_ (ZT k λj u e=>?_) j b h
  .have:=c 0 v rfl;grind
  .have:=c (j+1) u (by grind);rwa [ay,b4 1 j]
def Ahk:List (Nat×CU Y)->List (Nat×CU Y)
 | []=>[]
 |s::l=>match s.2 with
  | .clo _ _ _=>s::Ahk l
  |_=>Ahk l
theorem Ab6{g:B3}:∀{l:List (Nat×CU Y)}{A:Bi},F3 g l A->F3 g (Ahk l) []
 | [],_,_=>rfl
 |(i,s)::l,A,⟨f,h,_,d,b,c⟩=>by
  have a:=Ab6 c;cases s with
  |clo q k j=>
   have e:f=[]:=b.1;subst e;exact⟨[],[],rfl,d,b,a⟩
  |_=>exact a
def Aw0(c0:Cf Y)(k:AV Y->Cf Y->Prop)(c:Cf Y):List (AV Y)->Prop
 | [a]=>k a {c with fr:=c0.fr,pt:=c0.pt,sg:=c.sg++c0.sg}
 |l=>k (.own c.nx) {c with fr:=c0.fr,pt:=c0.pt,sg:=(c.nx,.tp l)::(c.sg++c0.sg),nx:=c.nx+1}
def Ag3(c0:Cf Y)(res:List ResultVar)(k:AV Y->Cf Y->Prop)(c:Cf Y):Prop:=Rt c res (Aw0 c0 k c)
def A3x(E:Env Y)(F:Func)(c:Cf Y)(aE:List (AV Y))(X:Vg Y)(k:AV Y->Cf Y->Prop):Prop:=match F.body,c.op with
 |some code,δ=>Fx (aq (ω aE) F.ntmps) (Ve {E with N:=F.ntmps,X:=X} code {c with fr:=Afy aE 0,pt:=[],sg:=Ahk c.sg} {nx:=Ag3 c F.results.toList k,ex:=[],rt:=Ag3 c F.results.toList k})
 |_,_=>False
variable {g0 g:B3} {T AH A:Bi} {c:Cf Y} {f:Fr}
theorem RG.back{g':B3}{AH' A':Bi}{c':Cf Y}{f':Fr}(h:RG g0 T c f g AH A)(e:Lx g g')(l:RG g0 (A++T) c' f' g' AH' A'):Le g {g' with φ:=g.φ}/\RG g0 T {c' with fr:=c.fr,pt:=c.pt,sg:=c'.sg++c.sg} f {g' with φ:=g.φ} AH' (A'++A):=by
 have b:Le g {g' with φ:=g.φ}:=⟨e.ext,e.n,e.μ,rfl⟩
 have d:=l.phi (φ:=g.φ) (pt:=[]) (λt k=>by grind[N0]);refine⟨b,d.n,d.le,by rw[a6];exact d.st,?_,d.sg.app (h.sg.mono b),d.hs,h.pt,λi a m=>(h.fr i a m).mono b⟩;have:=d.hr;show HR _ _ _ _ c'.op;cases j:c'.op with
 |none|some o=>rw[show ({c' with pt:=[]}:Cf Y).op=c'.op from rfl,j]at this;exact this
theorem Aje{g':B3}{AH' A':Bi}{c':Cf Y}{f':Fr}{N:Nat}{res:List ResultVar}{k:AV Y->Cf Y->Prop}{K:Value->World->Prop}(h:RG g0 T c f g AH A)(x:Lx g g')(w:RG g0 (A++T) c' f' g' AH' A')(y:Ag3 c res k c')(next:∀v a c' g' AH' A',Le g g'->RG g0 T c' f g' AH' A'->AR g' a v->k a c'->K v g'.w):∃vs,(∀a,Is N a f'->(res.mapM (Rs a)).run Y.P g'.w=.ok vs g'.w)/\K (LD vs) g'.w:=by
 obtain⟨b,vs,t,m,z⟩:=Pz (N:=N) w y;refine⟨vs,z,?_⟩;obtain⟨l,o⟩:=h.back x w;replace m:F2 (AR {g' with φ:=g.φ}) b vs:=m.mono λ_ _ r=>r.phi _;have u:(∀a,b≠[a])->K (LD vs) g'.w:=λn=>by
  have B:LD vs=.tuple ⟨vs⟩:=by
   have d:=m.len;cases vs with
   |nil=>rfl
   |cons v vs=>
    cases vs with
    |nil=>
     cases b with
     |nil=>grind
     |cons a b=>
      grind
    |cons _ _=>rfl
  have C:k (.own c'.nx) {c' with fr:=c.fr,pt:=c.pt,sg:=(c'.nx,.tp b)::(c'.sg++c.sg),nx:=c'.nx+1}:=by simp_all[Aw0]
  have i:=Le.new (g:={g' with φ:=g.φ}) (v:=.tuple ⟨vs⟩) (Ext.refl g'.I g'.w);have:=o.new (s:=.tp b) (v:=.tuple ⟨vs⟩) (A1:=[]) (Ext.refl _ _) ⟨rfl,vs,B3.BA _ _ _,m.mono λ_ _ r=>r.mono i⟩ o.st;rw[B];exact next _ _ _ (B3.new {g' with φ:=g.φ} g'.w (.tuple ⟨vs⟩)) _ _ (l.trans i) this (Gy o.n) C
 by_cases j:∃a,b=[a]
 .obtain⟨a,rfl⟩:=j;cases m with
  |cons p q=>cases q;exact next _ a _ {g' with φ:=g.φ} _ _ l o p t
 grind
def TB(E:Env Y)(q:FuncId)(F:Func)(hf:Y.P.funcs[q]?=ν F)(hc:CS Y.P q=τ):Vh Y q where
 tr:=A3x E F
 can:=hc
 ok {g0 g T AH A c f aE vs X k} h ha hx R K hR next:=by
  unfold A3x at hx;split at hx
  .rename_i code hb hop;obtain⟨hlen,hx⟩:=AJ hx;have hr:RG g0 (A++T) {c with fr:=Afy aE 0,pt:=[],sg:=Ahk c.sg} (YE vs) g AH []:=⟨h.n,h.le,h.st,by have:=h.hr;show HR _ _ _ _ c.op;rw[hop]at this ⊢;exact this,Ab6 h.sg,h.hs,λt ht=>by simp [N0]at ht,ZT ha λj v hj=>by rw[ak,<-MT,hj];rfl⟩
   refine Jg (N:=F.ntmps) hf hb rfl (by rw[<-ha.len];exact a8 hlen) ?_;have fin:∀{c' f' g' AH' A'},Lx g g'->RG g0 (A++T) c' f' g' AH' A'->Ag3 c F.results.toList k c'->∃v,(∀a,Is F.ntmps a f'->(results F a).run Y.P g'.w=.ok v g'.w)/\K v g'.w:=λhl hr' hx'=>by obtain⟨us,h1,h2⟩:=Aje (N:=F.ntmps) h hl hr' hx' next;exact⟨_,λa ha=>Hf (h1 a ha),h2⟩
   refine Hx (E:={E with N:=F.ntmps,X:=X}) (fn:=⟨q,δ,[]⟩) (gb:=g) ?_ code ⟨λc' f' g' AH' A' _ hl hr' hx'=>Un (fin hl hr' hx'),λid q hq=>by simp [lkE]at hq,λc' f' g' AH' A' k' hl hr' hx'=>NU (fin hl hr' hx')⟩ (Lx.refl g) hr hx;exact λv w' I' AH' H' t l u h1 h2 h3 h4 h5 h6 _=>hR v w' I' AH' H' t l u h1 (DQ h2) h3 h4 h5 h6
  .exact hx.elim
def Mm(M:List Nat):Bi:=M.map λb=>(b,.deferred (ν []))
def YF(q:FuncId)(M:List Nat):FK:=⟨q,δ,M.map λb=>⟨.collected b,#[]⟩⟩
variable {q:FuncId} {M:List Nat} {b:Nat}
theorem Aqq:(YF q M).mark b=YF q (b::M):=rfl
theorem Zn{I:Cb}{w:World}{o o':Obj}(h:St I w ((b,o)::T)):Ext I w I (w.putObj b o')/\St I (w.putObj b o') ((b,o')::T):=by have e:=(h.own (b,o) (by simp)).1;have a:b<w.heap.size:=(Array.getElem?_eq_some_iff.1 e).1;exact h.write (b:=b) (o:=o) (o':=o') (T:=T) rfl rfl rfl (by simp) (World.putObj_heap_same a) λc d=>World.putObj_heap_other d
theorem T5{I:Cb}{B T:Bi}:∀(M:List Nat){w:World},St I w (B++(Mm M++T))->∃w',Ext I w I w'/\St I w' (B++T)/\∀{P:Program}{F:Func}{N:Nat}{f:Fr}{R:Ending->World->Prop}{u:FrameMode},u≠.run->Lv P F N f R [] u w'->Lv P F N f R (M.map λb=>⟨.collected b,#[]⟩) u w
 | [],w,h=>⟨w,Ext.refl _ _,h,λ_ h=>h⟩
 |b::M,w,h=>by have a:St I w ((b,.deferred (ν []))::(B++(Mm M++T))):=h.perm (by simp[Mm,bb,ad]);obtain⟨g,e⟩:=Zn (o':=.deferred δ) a;obtain⟨w',j,k,i⟩:=T5 M (e.drop (A:=[(b,.deferred δ)]));exact⟨w',g.trans j,k,λc d=>⟨c,.inl ⟨b,rfl,(a.own _ (az)).1,i c d⟩⟩⟩
theorem Ad1(h:RG g0 (Mm M++T) c f g AH A):∃g',Le g g'/\RG g0 T c f g' AH A/\∀{F:Func}{N:Nat}{f':Fr}{R:Ending->World->Prop}{u:FrameMode},u≠.run->Lv Y.P F N f' R [] u g'.w->Lv Y.P F N f' R (M.map λb=>⟨.collected b,#[]⟩) u g.w:=by
 obtain⟨m,e,s,n⟩:=T5 (B:=AH++A) M (by rw[a6];exact h.st);have d:Le g {g with w:=m}:=⟨e,ab _,λ_ _=>rfl,rfl⟩
 exact⟨_,d,⟨h.n,h.le.trans e,by grind,h.hr.mono d,h.sg.mono d,h.hs.mono d,d.pt h.pt,λi a l=>(h.fr i a l).mono d⟩,λj k=>n j k⟩
variable {l:Nat} {r:Loop}
theorem Aue{I:Cb}{w:World}{H:HH Y}(c:Ip (Ra Y) I w H AH)(s:St I w (AH++T))(a:H l=ν (.lp r)):w.heap[l]?=ν (.loop r):=by obtain⟨d,f,e,_,b⟩:=Ip.take c a s;obtain rfl:d=[(l,.loop r)]:=e;exact(b.own (l,.loop r) (by simp)).1
theorem T8(h:RG g0 T c f g AH A)(j:c.op=δ)(o:c.H l=ν (.lp r))(d:Loop):g.w.heap[l]?=ν (.loop r)/\Le g {g with w:=g.w.putObj l (.loop d)}/\∃AH',RG g0 T {c with H:=Ac c.H l (.lp d)} f {g with w:=g.w.putObj l (.loop d)} AH' A:=by
 have k:=h.hr;rw[j]at k;obtain⟨A1,q,n,u,m⟩:=Ip.take k o h.st;obtain rfl:A1=[(l,.loop r)]:=n;obtain⟨e,s⟩:=Zn (o':=.loop d) m;have b:Le g {g with w:=g.w.putObj l (.loop d)}:=⟨e,ab _,λ_ _=>rfl,rfl⟩
 refine⟨(m.own (l,.loop r) (by simp)).1,b,(l,.loop d)::q,h.n,h.le.trans e,s,?_,h.sg.mono b,h.hs.mono b,b.pt h.pt,λi a p=>(h.fr i a p).mono b⟩;show HR _ _ _ _ c.op;rw[j];exact HpX.lay (A1:=[(l,.loop d)]) (u.mono e) rfl
def HW(r:Loop):Loop:={r with state:=.busy}
def Rj(r:Loop)(j:Code):Loop:={r with state:=.done,pending:=ν j}
def Ass:List Tmp->List (AV Y)->List (Nat×AV Y)->List (Nat×AV Y)
 |p::ps,a::aE,l=>Ass ps aE ((p,a)::l)
 |_,_,l=>l
theorem Ah2{N:Nat}{g0 g:B3}{T AH A:Bi}:∀{ps:List Tmp}{aE:List (AV Y)}{vs:List Value}{c:Cf Y}{f:Fr},RG g0 T c f g AH A->c.pt=[]->ps.all (λp=>ax p N)=τ->F2 (AR g) aE vs->RG g0 T {c with fr:=Ass ps aE c.fr} (Afx N ps vs f) g AH A
 |[],_,_,c,f,h,_,_,_|p::ps,[],_,c,f,h,_,_,.nil=>by simpa [Ass,Afx] using h
 |p::ps,a::aE,v::vs,c,f,h,d,b,.cons i e=>by simp only[List.all_cons,a7]at b;exact Ah2 (c:=c.set p a) (h.set (by grind[N0]) i) d b.2 e
def A6f(c:Cf Y)(ps:List Tmp)(aE:List (AV Y))(H:HH Y):Cf Y:={fr:=Ass ps aE c.fr,sg:=[],nx:=c.nx,H:=H,op:=δ,hs:=c.hs,pt:=[]}
def A0r(l:Nat)(r:Loop)(j:Option Code)(Q:Jl Y [.bool]->HH Y->Prop)(c:Cf Y):Prop:=cls c λc=>c.H l=ν (.lp (HW r))/\match j with
 |none=>Q (τ,()) (Ac c.H l (.lp r))
 |some j=>Q (ψ,()) (Ac c.H l (.lp (Rj r j)))
def Axi(E:Env Y)(c:Cf Y)(l:Nat)(r:Loop)(ps:List Tmp)(aE bd:Code)(ts:List Ty):FT Y ts [.bool]:=λa H Q X=>H l=ν (.lp r)/\Ve {E with X:=X} aE (A6f c ps (Rf ts a) H)
 {nx:=λc1=>cls c1 λc1=>c1.H l=ν (.lp r)/\Ve {E with X:=X} bd {c1 with H:=Ac c1.H l (.lp (HW r))} {nx:=A0r l r δ Q,ex:=[],rt:=A0r l r (ν .ret) Q},ex:=[],rt:=λ_=>False}
theorem Aju{j:Option Code}(o:r.state=.ready)(k:r.pending=δ){Q:Jl Y [.bool]->HH Y->Prop}{X:Vg Y}(h:RG g0 T c f g AH A)(t:A0r l r j Q c):Av9 Y.P l (Akh Y g0.I g0.w T (λI' w' v A' H'=>A'=[]/\∃b us,v=LD us/\Ye Y I' w' [.bool] b us/\Q b H') X) (.lv j f []) g.w:=by
 obtain⟨p,B,w,H,⟨C,s⟩,u,z,x,_,a⟩:=DA h t;have d:∀(i:Loop)(b:Bool),i={HW r with state:=if j.isNone then .ready else .done,pending:=j}->j.isNone=b->Q (b,()) (Ac p.H l (.lp i))->Av9 Y.P l (Akh Y g0.I g0.w T (λI' w' v A' H'=>A'=[]/\∃b us,v=LD us/\Ye Y I' w' [.bool] b us/\Q b H') X) (.lv j f []) g.w:=λi b e y F=>by
  obtain⟨D,G,n,m⟩:=T8 x a C i;refine⟨_,_,by rw[<-u];exact run_endRound j D,.inl ⟨_,B.I,rfl,?_,n,[],_,?_,?_,rfl,(b,()),[.bool b],by rw[<-y];rfl,⟨_,[],rfl,HQ.2 rfl,rfl⟩,F⟩⟩
  .rw[<-e];exact m.le
  .rw[<-e];exact DQ m.st
  .have:=m.hr;rw[<-e];change HR _ _ _ _ p.op at this;rw[a]at this;exact this
 cases j with
 |none=>exact d r τ (by cases r;grind[HW]) rfl s
 |some j=>exact d (Rj r j) ψ (by rfl) rfl s
variable {E:Env Y}
theorem Axh{F:Func}(hF:Y.P.funcs[q]?=ν F)(h:RG g0 T c f g AH A){a0:Array Value}(J:Is E.N a0 f){ps:Array Tmp}{aE bd:Code}{ts:List Ty}(hps:ps.size=ω ts)(R:ps.toList.all (λp=>ax p E.N)=τ):FvR Y ts [.bool] (Axi E c l (VI q a0 ps aE bd b) ps.toList aE bd ts) g.I g.w (.func (.yield l) #[] #[]):=by
 refine⟨⟨_,_,_,rfl⟩,λa H Q X⟨hl,hx⟩I w e S m s y hH G=>.inr ⟨l,_,rfl,Aue hH G hl,?_,?_⟩⟩
 .show ω s=ps.size;rw[hps];have:∀{ts:List Ty}{a:Jl Y ts}{s:List Value},Ye Y I w ts a s->ω s=ω ts:=by
   intro ts;induction ts with
   |nil=>intro a s h;rw[show s=[] from h];rfl
   |cons t ts ih=>intro a s h;obtain⟨v,vs',K,_,M⟩:=h;grind
  grind
 .let x:B3:={g with I:=I,w:=w}
  have D:Le g x:=⟨e,ab _,λ_ _=>rfl,rfl⟩
  have z:RG x S {c with sg:=[],H:=H,op:=δ,pt:=[]} f x m []:=⟨h.n,Ext.refl _ _,G,hH,rfl,h.hs.mono D,λt ht=>by grind[N0],λi a hi=>(h.fr i a hi).mono D⟩
  have hr:=Ah2 (N:=E.N) z rfl R (Q6 (g:=x) y);refine Ak2 (N:=E.N) ⟨F,hF⟩ (Az4 J) ?_;have B:Hy x S X ((⟨q,ν l,[]⟩:FK).at (Av9 Y.P l (Akh Y I w S (λU w' r A' P=>A'=[]/\∃b us,r=LD us/\Ye Y U w' [.bool] b us/\Q b P) X))):=λv w' U m P t l u K h2 M h4 h5 h6 _=>.inr ⟨v,U,rfl,K,m,P,t,l,u,h2,M,h4,h5,h6⟩;refine Hx (E:={E with X:=X}) (fn:=⟨q,ν l,[]⟩) (gb:=x) B aE ⟨λW L g1 o A1 _ n j d=>?_,λid q hq=>by grind[lkE],λW L g1 o A1 k' n j d=>False.elim d⟩ (Lx.refl _) hr hx;dsimp only at d;obtain⟨c2,g2,AH2,A2,⟨V,O⟩,Z,hle2,hr2,_,C⟩:=DA j d;obtain⟨k1,k2,AH3,k3⟩:=T8 hr2 C V (HW (VI q a0 ps aE bd b));rw[<-Z];refine Yp rfl (run_beginRound k1 rfl) ?_;have:=Hx (E:={E with X:=X}) (fn:=⟨q,ν l,[]⟩) (k:=[]) (gb:={g2 with w:=g2.w.putObj l (.loop (HW (VI q a0 ps aE bd b)))}) B bd ⟨λW L g1 o A1 _ n j d=>Un (Aju rfl rfl j d),λid q hq=>by grind[lkE],λW L g1 o A1 k' n j d=>NU (Aju rfl rfl j d)⟩ (Lx.refl _) k3 O;exact this
def rfX(E:Env Y)(gop:Operand)(ps:Array Tmp)(aE bd:Code)(c:Cf Y)(nx rt:Cf Y->Prop):Prop:=cls c λc=>match E9 c gop with
 |some (.own j)=>match IT c.sg j with
  |some (.clo q fs cs)=>match E.sigs q with
   |some ⟨.fn ts [.bool]::_,_⟩=>Fx (aj ps.size (ω ts)&&ps.toList.all λp=>ax p E.N) (∀l r,c.H l=δ->
    XX E.sigs E.X {c with H:=Ac c.H l (.lp r)} q (fs++([.fn ts [.bool] (Axi E c l r ps.toList aE bd ts)]++cs)) λ_ c2=>cls c2 λc2=>
     (c2.H l=ν (.lp r)/\∀r',nx {c2 with H:=Ac c2.H l (.lp r')})∨(c2.H l=ν (.lp (Rj r .ret))/\∀r',rt {c2 with H:=Ac c2.H l (.lp r')}))
   |_=>False
  |_=>False
 |_=>False
theorem A2s(x y:Nat×Obj)(B C D E:Bi):(x::(y::(B++(C++(D++E))))).Perm ((x::B)++(C++((y::D)++E))):=by simp only[ad];refine ba _ ?_;rw[<-a6 B C,<-a6 B C];exact b6.symm
theorem A2t(x y:Nat×Obj)(B C:Bi):(x::(y::(B++C))).Perm (x::(B++(y::C))):=ba _ b6.symm
theorem Ayc(h:RG g0 (Mm M++T) c f g AH A)(e:c.op=δ)(r:Loop):c.H (g.w.heap.size+1)=δ/\∃g2 AH',g2.w=(g.w.alloc (.deferred (ν []))).alloc (.loop r)/\Le g g2/\RG g0 (Mm (g.w.heap.size::M)++T) {c with H:=Ac c.H (g.w.heap.size+1) (.lp r)} f g2 AH' A:=by
 have n:=h.hr;rw[e]at n;obtain⟨t,q⟩:=h.st.alloc (.deferred (ν []));obtain⟨s,o⟩:=q.alloc (.loop r);have l:(g.w.alloc (.deferred (ν []))).heap.size=g.w.heap.size+1:=by simp
 rw[l]at o;have d:=t.trans s;let g2:B3:={g with w:=(g.w.alloc (.deferred (ν []))).alloc (.loop r)}
 have b:Le g g2:=⟨d,ab _,λ_ _=>rfl,rfl⟩
 have k:Ip (Ra Y) g2.I g2.w c.H AH:=Ip.mono n d;have j:St g2.I g2.w ((g.w.heap.size+1,.loop r)::((g.w.heap.size,.deferred (ν []))::(AH++(A++(Mm M++T))))):=o;have m:c.H (g.w.heap.size+1)=δ:=TG k (j.perm (A2t _ _ _ _));refine⟨m,g2,(g.w.heap.size+1,.loop r)::AH,rfl,b,h.n,h.le.trans d,j.perm (A2s _ _ _ _ _ _),?_,h.sg.mono b,h.hs.mono b,b.pt h.pt,λi a p=>(h.fr i a p).mono b⟩;show HR _ _ _ _ c.op;rw[e];exact Ip.new (A1:=[(g.w.heap.size+1,.loop r)]) k rfl
theorem Ayd{q0:FuncId}{F0:Func}(hF:Y.P.funcs[q0]?=ν F0){R:RL->World->Prop}(hR:∀M,Hy g0 (Mm M++T) E.X ((YF q0 M).at R)){gop:Operand}{ps:Array Tmp}{aE bd:Code}(h:RG g0 (Mm M++T) c f g AH A){nx rt:Cf Y->Prop}{k:List Item}(d:rfX E gop ps aE bd c nx rt)(hnx:∀M c f g' AH A,Lx g g'->RG g0 (Mm M++T) c f g' AH A->nx c->WT Y.P (YF q0 M) E.N k R f g'.w)(hrt:∀M c f g' AH A k',Lx g g'->RG g0 (Mm M++T) c f g' AH A->rt c->WT Y.P (YF q0 M) E.N (.code .ret::k') R f g'.w):WT Y.P (YF q0 M) E.N (.code (.rangeFunc gop ps aE bd)::k) R f g.w:=by
 obtain⟨c1,b,AH1,A1,d,hw,O,D,_,P⟩:=DA h d;rw[<-hw];split at d
 .rename_i j ha;split at d
  .rename_i q fs cs hs;split at d
   .rename_i ts ks res hsg;obtain⟨I,d⟩:=AJ d;simp only[a7,b3]at I;obtain⟨C1,C2,_,_,⟨_,vs,us,h3,S,h5⟩,_⟩:=D.sg.take hs;have hg:ev f gop=.func (.func q) ⟨vs⟩ ⟨us⟩:=(D.ev ha).2.trans h3;refine ZV rfl hg λa J=>?_;obtain⟨W,g2,AH2,U,i,F⟩:=Ayc D P (VI q0 a ps aE bd b.w.heap.size);have hy:AR g2 (.fn ts [.bool] (Axi E c1 (b.w.heap.size+1) (VI q0 a ps aE bd b.w.heap.size) ps.toList aE bd ts)) (.func (.yield (b.w.heap.size+1)) #[] #[]):=Axh (c:={c1 with H:=Ac c1.H (b.w.heap.size+1) (.lp (VI q0 a ps aE bd b.w.heap.size))}) hF F J I.1 I.2;obtain⟨B,o⟩:=Qi F (d _ _ W) ((S.mono λ_ _ r=>r.mono i).app ((F2.cons hy .nil).app (h5.mono λ_ _ r=>r.mono i)));refine⟨B,?_⟩;have K:=o (λch w=>R (.pan ch f (YF q0 (b.w.heap.size::M)).ds) w) (λ_ C=>∃r,C.heap[b.w.heap.size+1]?=ν (.loop r)/\r.state≠.busy/\WT Y.P (YF q0 (b.w.heap.size::M)) E.N ((r.pending.map Item.code).toList++k) R f (C.putObj (b.w.heap.size+1) (.loop {r with state:=.exhausted})))
     (λv C X AH' H' t l u D F h3 S h5 h6=>hR (b.w.heap.size::M) v C X AH' H' t l u D F h3 S h5 h6 f) (λv a' c3 g3 AH3 A3 x V _ G=>by
      obtain⟨c4,g4,AH4,A4,m,hw4,y,s,_,n⟩:=DA V G;rw[<-hw4];have z:=O.trans (i.trans (x.trans y));rcases m with ⟨Z,m⟩|⟨Z,m⟩
      .obtain⟨k1,k2,N,Q⟩:=T8 s n Z {VI q0 a ps aE bd b.w.heap.size with state:=.exhausted};exact⟨_,k1,λe=>(by cases e),hnx _ _ _ _ _ _ (z.trans k2).lx Q (m _)⟩
      .obtain⟨k1,k2,N,Q⟩:=T8 s n Z {Rj (VI q0 a ps aE bd b.w.heap.size) .ret with state:=.exhausted};exact⟨_,k1,λe=>(by cases e),hrt _ _ _ _ _ _ k (z.trans k2).lx Q (m _)⟩)
    have p:(⟨(⟨vs⟩:Array Value).toList++[.func (.yield (b.w.heap.size+1)) #[] #[]]++(⟨us⟩:Array Value).toList⟩:Array Value)=⟨vs++([.func (.yield (b.w.heap.size+1)) #[] #[]]++us)⟩:=congrArg Array.mk (a6 _ _ _);have L:(b.w.alloc (.deferred (ν []))).alloc (.loop (VI (YF q0 M).fn a ps aE bd b.w.heap.size))=g2.w:=U.symm;rw[p,L,Aqq];refine Calls.mono K λe C he=>?_;grind
   grind
  grind
 grind
def Afg(E:Env Y):Code->(Cf Y->Prop)->(Cf Y->Prop)->Cf Y->Prop
 | .seq a b,nx,rt,c=>match mrC a b with
  |some q=>mrX E q c nx rt
  |none=>Afg E a (Afg E b nx rt) rt c
 | .block id b,nx,rt,c=>match b with
  | .rangeFunc g ps aE bd=>rfX E g ps aE bd c nx rt
  |b=>Ve E (.block id b) c ⟨nx,[],rt⟩
 |code,nx,rt,c=>Ve E code c ⟨nx,[],rt⟩
theorem Akg{q0:FuncId}{F0:Func}(hF:Y.P.funcs[q0]?=ν F0){R:RL->World->Prop}(p:∀M,Hy g0 (Mm M++T) E.X ((YF q0 M).at R)):∀(code:Code){nx rt:Cf Y->Prop}{k:List Item}{M:List Nat}{c:Cf Y}{f:Fr}{g gb:B3}{AH A:Bi},(∀M c f g AH A,Lx gb g->RG g0 (Mm M++T) c f g AH A->nx c->WT Y.P (YF q0 M) E.N k R f g.w)->(∀M c f g AH A k',Lx gb g->RG g0 (Mm M++T) c f g AH A->rt c->WT Y.P (YF q0 M) E.N (.code .ret::k') R f g.w)->Lx gb g->RG g0 (Mm M++T) c f g AH A->Afg E code nx rt c->WT Y.P (YF q0 M) E.N (.code code::k) R f g.w:=by
 intro code;have m:∀(code:Code){nx rt:Cf Y->Prop}{k:List Item}{M:List Nat}{c:Cf Y}{f:Fr}{g gb:B3}{AH A:Bi},(∀M c f g AH A,Lx gb g->RG g0 (Mm M++T) c f g AH A->nx c->WT Y.P (YF q0 M) E.N k R f g.w)->(∀M c f g AH A k',Lx gb g->RG g0 (Mm M++T) c f g AH A->rt c->WT Y.P (YF q0 M) E.N (.code .ret::k') R f g.w)->
   Lx gb g->RG g0 (Mm M++T) c f g AH A->Ve E code c ⟨nx,[],rt⟩->WT Y.P (YF q0 M) E.N (.code code::k) R f g.w:=λcode nx rt k M c f g gb AH A j i n h e=>
  Hx (fn:=YF q0 M) (gb:=gb) (p M) code ⟨λc f g AH A _ l h e=>j M c f g AH A l h e,λt q s=>by grind[lkE],λc f g AH A k' l h e=>i M c f g AH A k' l h e⟩ n h e
 induction code with
 |seq a b o r=>
  intro nx rt k M c f g gb AH A j i n h e;grind[Afg,Azg,YF,DE]
 |block t b _=>
  intro nx rt k M c f g gb AH A j i n h e;unfold Afg at e;split at e
  .exact LS (Ayd hF p h e (λM c f g AH A l h e=>LR (j M c f g AH A (n.trans l) h e)) λM c f g AH A k' l h e=>i M c f g AH A k' (n.trans l) h e)
  grind
 |_=>exact m _
theorem Af1{σ:Bd}{F:Func}{code:Code}{a:JK Y σ.args}{H:HH Y}{Q:MF Y σ.res->O6 Y σ.args->HH Y->Prop}(hf:Y.P.funcs[q]?=ν F)(hb:F.body=ν code)(hN:F.ntmps=E.N)(hl:aq (ω σ.args) E.N=τ)(h:Afg E code (rtX F.results.toList σ Q) (rtX F.results.toList σ Q) (ini σ.args a H)):Wp Y q σ a H Q E.X:=by
 intro I w T A AH J s hH hst;refine Sb hf hb hN (by grind[Ab8]) ?_;let R:B3:={I:=I,w:=w,n:=0,μ:=λ_=>undef,φ:=YE J}
 obtain⟨g,k1,S,k3,k4,k5,k6,k7⟩:=Wg (g:=R) (i:=0) (f:=YE J) s (λj v hj=>by rw[ak,<-MT,hj];rfl);have C:RG R (Mm []++T) (ini σ.args a H) (YE J) g AH A:=⟨k4,k1.ext,by rw[S,k3];exact hst,by show Ip _ _ _ _ _;rw[S,k3];exact hH,k6,λx B=>(by cases B),λt ht=>(by grind[ini,N0]),k5⟩
 have G:∀(M:List Nat)(c:Cf Y)(f:Fr)(z:B3)(d r:Bi),Lx g z->RG R (Mm M++T) c f z d r->rtX F.results.toList σ Q c->Lv Y.P F E.N f (Aki I w (λv m o=>∃d r p,St m o (d++(r++T))/\Ip (Ra Y) m o p d/\∃b O P N L,r=N++L/\v=LD P/\ReR Y m o σ.res b P N/\IoR Y m o σ.args O J L/\Q b O p) (λv m o=>∃d p t l u,St m o (d++T)/\Ip (Ra Y) m o p d/\v=.iface t u/\rp Y.toUS l.t m o u l.x/\E.X t l p)) (YF q M).ds .returning z.w:=λM c f z d r y C B=>by obtain⟨g2,K,hr2,D⟩:=Ad1 C;refine D (λe=>by cases e) ?_;obtain⟨v,X,v',m,V,W,U⟩:=An9 k7 (y.trans K.lx) hr2 B;exact⟨v,X,.inl ⟨v',m,V,W,U⟩⟩
 have hR:∀M,Hy R (Mm M++T) E.X ((YF q M).at (Amr Y.P F E.N (Aki I w (λv m o=>∃d r p,St m o (d++(r++T))/\Ip (Ra Y) m o p d/\∃b O P N L,r=N++L/\v=LD P/\ReR Y m o σ.res b P N/\IoR Y m o σ.args O J L/\Q b O p) (λv m o=>∃d p t l u,St m o (d++T)/\Ip (Ra Y) m o p d/\v=.iface t u/\rp Y.toUS l.t m o u l.x/\E.X t l p)))):=λM v o m d p t l u X V W U h5 h6 f=>by obtain⟨w2,Z,s2,D⟩:=T5 M V;exact D (λe=>by cases e) (.inr ⟨v,m,rfl,X.trans Z,d,p,t,l,u,s2,Ip.mono W Z,U,Ff Z h5,h6⟩)
 have:=Akg (E:=E) (M:=[]) (k:=[]) (gb:=g) hf hR code (λM c f z d r y C B=>Un (G M c f z d r y C B)) (λM c f z d r k' y C B=>NU (G M c f z d r y C B)) (Lx.refl g) C h;rw[S]at this;exact this
def Awy(E:Env Y)(F:Func)(c:Cf Y)(aE:List (AV Y))(X:Vg Y)(k:AV Y->Cf Y->Prop):Prop:=match F.body,c.op with
 |some code,δ=>Fx (aq (ω aE) F.ntmps) (Afg {E with N:=F.ntmps,X:=X} code (Ag3 c F.results.toList k) (Ag3 c F.results.toList k) {c with fr:=Afy aE 0,pt:=[],sg:=Ahk c.sg})
 |_,_=>False
def A0a(E:Env Y)(q:FuncId)(F:Func)(hf:Y.P.funcs[q]?=ν F)(hc:CS Y.P q=τ):Vh Y q where
 tr:=Awy E F
 can:=hc
 ok {g0 g T AH A c f aE vs X k} h ha hx R K hR next:=by
  unfold Awy at hx;split at hx
  .rename_i code hb hop;obtain⟨hlen,hx⟩:=AJ hx;have hr:RG g0 (Mm []++(A++T)) {c with fr:=Afy aE 0,pt:=[],sg:=Ahk c.sg} (YE vs) g AH []:=⟨h.n,h.le,h.st,by have:=h.hr;show HR _ _ _ _ c.op;rw[hop]at this ⊢;exact this,Ab6 h.sg,h.hs,λt ht=>by simp [N0]at ht,ZT ha λj v hj=>by rw[ak,<-MT,hj];rfl⟩
   refine Jg (N:=F.ntmps) hf hb rfl (by rw[<-ha.len];exact a8 hlen) ?_;have fin:∀{M c' f' g' AH' A'},Lx g g'->RG g0 (Mm M++(A++T)) c' f' g' AH' A'->Ag3 c F.results.toList k c'->Lv Y.P F F.ntmps f' (λe w'=>match e with | .returned v=>K v w' | .panicked ch=>R ch w' | .outgrown=>False) (M.map λb=>⟨.collected b,#[]⟩) .returning g'.w:=λ{M c' f' g' AH' A'}hl hr' hx'=>by obtain⟨g2,hle2,hr2,hlv⟩:=Ad1 hr';refine hlv (λe=>by cases e) ?_;obtain⟨us,h1,h2⟩:=Aje (N:=F.ntmps) h (hl.trans hle2.lx) hr2 hx' next;exact⟨_,λa ha=>Hf (h1 a ha),h2⟩
   have hR':∀M,Hy g0 (Mm M++(A++T)) X ((YF q M).at (Amr Y.P F F.ntmps (λe w'=>match e with | .returned v=>K v w' | .panicked ch=>R ch w' | .outgrown=>False))):=λM v w' I' AH' H' t l u h1 h2 h3 h4 h5 h6 f'=>by obtain⟨w2,e2,s2,hlv⟩:=T5 M h2;exact hlv (λe=>by cases e) (hR v w2 I' AH' H' t l u (h1.trans e2) (DQ s2) (Ip.mono h3 e2) h4 (Ff e2 h5) h6)
   exact Akg (E:={E with N:=F.ntmps,X:=X}) (M:=[]) (k:=[]) (gb:=g) hf hR' code (λM c' f' g' AH' A' hl hr' hx'=>Un (fin hl hr' hx')) (λM c' f' g' AH' A' k' hl hr' hx'=>NU (fin hl hr' hx')) (Lx.refl g) hr hx
  .exact hx.elim
end
end
end Go.Y
section
namespace Go.Y
open Go Go.RowKit Go.X
section
section
variable {D:Nat->Type} {α:Type}
def tk(t:Ty)(l:List (Lf D))(k:den D t->List (Lf D)->Option α):Option α:=match l with
 | []=>δ
 |⟨t',x⟩::l=>match Ty.dec t' t with
  | .isTrue h=>k (h▸x) l
  | .isFalse _=>δ
variable {t:Ty} {r:α}
theorem A2k{l:List (Lf D)}{k:den D t->List (Lf D)->Option α}(h:tk t l k=ν r):∃x l',l=⟨t,x⟩::l'/\k x l'=ν r:=by
 unfold tk at h;split at h
 .cases h
 .split at h;all_goals grind
def nl(l:List (Lf D))(r:Option α):Option α:=match l with
 | []=>r
 |_::_=>δ
theorem A3l{l:List (Lf D)}{r:Option α}{x:α}(h:nl l r=ν x):l=[]/\r=ν x:=by
 cases l with
 |nil=>exact⟨rfl,h⟩
 |cons=>cases h
def Dh(t:Ty)(l:List (OL D))(k:den D t->List (OL D)->Option α):Option α:=match l with
 | .dat ⟨t',x⟩::l=>match Ty.dec t' t with
  | .isTrue h=>k (h▸x) l
  | .isFalse _=>δ
 |_=>δ
variable {l:List (OL D)}
theorem Ax0{k:den D t->List (OL D)->Option α}(h:Dh t l k=ν r):∃x l',l=.dat ⟨t,x⟩::l'/\k x l'=ν r:=by
 unfold Dh at h;split at h
 .split at h;all_goals grind
 grind
def Ul(t:Ty)(l:List (OL D))(k:List (den D t)->List (OL D)->Option α):Option α:=match l with
 | .own t' x::l=>match Ty.dec t' t with
  | .isTrue h=>k (h▸x) l
  | .isFalse _=>δ
 |_=>δ
theorem Axx{k:List (den D t)->List (OL D)->Option α}(h:Ul t l k=ν r):∃x l',l=.own t x::l'/\k x l'=ν r:=by
 unfold Ul at h;split at h
 .split at h;all_goals grind
 grind
def tkM(t e:Ty)(l:List (OL D))(k:List (den D t×den D e)->List (OL D)->Option α):Option α:=match l with
 | .map t' e' x::l=>match Ty.dec t' t,Ty.dec e' e with
  | .isTrue h,.isTrue h'=>k (h▸h'▸x) l
  |_,_=>δ
 |_=>δ
theorem Axz{e:Ty}{k:List (den D t×den D e)->List (OL D)->Option α}(h:tkM t e l k=ν r):∃x l',l=.map t e x::l'/\k x l'=ν r:=by
 unfold tkM at h;split at h
 .split at h;all_goals grind
 grind
def tkN(t:Ty)(l:List (OL D))(k:Option (List (den D t))->List (OL D)->Option α):Option α:=match l with
 | .ownO t' x::l=>match Ty.dec t' t with
  | .isTrue h=>k (h▸x) l
  | .isFalse _=>δ
 |_=>δ
theorem Axy{k:Option (List (den D t))->List (OL D)->Option α}(h:tkN t l k=ν r):∃x l',l=.ownO t x::l'/\k x l'=ν r:=by
 unfold tkN at h;split at h
 .split at h;all_goals grind
 grind
def IS(l:List (OL D))(r:Option α):Option α:=match l with
 | []=>r
 |_::_=>δ
theorem Apg{r:Option α}{x:α}(h:IS l r=ν x):l=[]/\r=ν x:=by
 cases l with
 |nil=>exact⟨rfl,h⟩
 |cons=>cases h
end
end
section
section
variable {Y:Go.Y.Sys}
structure An(Y:Sys) where
 lp:List (Nat×LA):=[]
 jn:List (Nat×LA):=[]
 pr:List (Nat×Nat):=[]
 im:List Nat:=[]
 wr:List Nat:=[]
 oc:List Nat:=[]
 tk:List Nat:=[]
 hd:List (Nat×List Nat):=[]
 tw:List Nat:=[]
 il:(q:FuncId)->Option (Vh Y q):=λ_=>δ
def fnX(sigs:FuncId->Option Bd)(Pf:TypeId->Option (List Ty×List Ty))(pf:(q:FuncId)->Option (PF Y q))(F:Func)(σ:Bd)(n:An Y)(a:JK Y σ.args)(H:HH Y)(Q:MF Y σ.res->O6 Y σ.args->HH Y->Prop)(X:Vg Y):Prop:=match F.body with
 |some c=>Fx (aq (ω σ.args) F.ntmps) (Ve {N:=F.ntmps,Pf:=Pf,sigs:=sigs,pf:=pf,X:=X,lp:=n.lp,jn:=n.jn,pr:=n.pr,im:=n.im,wr:=n.wr,oc:=n.oc,tk:=n.tk,hd:=n.hd,tw:=n.tw,il:=n.il} c (ini σ.args a H) {nx:=rtX F.results.toList σ Q,ex:=[],rt:=rtX F.results.toList σ Q})
 |none=>False
theorem Wt{sigs:FuncId->Option Bd}{Pf:TypeId->Option (List Ty×List Ty)}{pf:(q:FuncId)->Option (PF Y q)}{q:FuncId}{F:Func}{σ:Bd}{n:An Y}{a:JK Y σ.args}{H:HH Y}{Q:MF Y σ.res->O6 Y σ.args->HH Y->Prop}{X:Vg Y}(d:Y.P.funcs[q]?=ν F)(h:fnX sigs Pf pf F σ n a H Q X):Wp Y q σ a H Q X:=by
 unfold fnX at h;split at h
 .rename_i c e;obtain⟨b,f⟩:=AJ h;exact Akq (E:={N:=F.ntmps,Pf:=Pf,sigs:=sigs,pf:=pf,X:=X,lp:=n.lp,jn:=n.jn,pr:=n.pr,im:=n.im,wr:=n.wr,oc:=n.oc,tk:=n.tk,hd:=n.hd,tw:=n.tw,il:=n.il}) d e rfl b f
 grind
def fnS(sigs:FuncId->Option Bd)(Pf:TypeId->Option (List Ty×List Ty))(pf:(q:FuncId)->Option (PF Y q))(F:Func)(σ:Bd)(n:An Y)(a:JK Y σ.args)(H:HH Y)(Q:MF Y σ.res->O6 Y σ.args->HH Y->Prop)(X:Vg Y):Prop:=match F.body with
 |some c=>Fx (aq (ω σ.args) F.ntmps) (Afg {N:=F.ntmps,Pf:=Pf,sigs:=sigs,pf:=pf,X:=X,lp:=n.lp,jn:=n.jn,pr:=n.pr,im:=n.im,wr:=n.wr,oc:=n.oc,tk:=n.tk,hd:=n.hd,tw:=n.tw,il:=n.il} c (rtX F.results.toList σ Q) (rtX F.results.toList σ Q) (ini σ.args a H))
 |none=>False
theorem Akp{sigs:FuncId->Option Bd}{Pf:TypeId->Option (List Ty×List Ty)}{pf:(q:FuncId)->Option (PF Y q)}{q:FuncId}{F:Func}{σ:Bd}{n:An Y}{a:JK Y σ.args}{H:HH Y}{Q:MF Y σ.res->O6 Y σ.args->HH Y->Prop}{X:Vg Y}(d:Y.P.funcs[q]?=ν F)(h:fnS sigs Pf pf F σ n a H Q X):Wp Y q σ a H Q X:=by
 unfold fnS at h;split at h
 .rename_i c e;obtain⟨b,f⟩:=AJ h;exact Af1 (E:={N:=F.ntmps,Pf:=Pf,sigs:=sigs,pf:=pf,X:=X,lp:=n.lp,jn:=n.jn,pr:=n.pr,im:=n.im,wr:=n.wr,oc:=n.oc,tk:=n.tk,hd:=n.hd,tw:=n.tw,il:=n.il}) d e rfl b f
 grind
theorem Kq.A5u{P:Program}{t:TypeId}{κ:Type}{r1 r2:AT κ}{dq:DecidableEq κ}(h:∀I w v k,@AT.rep κ r2 I w v k->@AT.rep κ r1 I w v k)(f:@Kq P t κ r1 dq):@Kq P t κ r2 dq:=@Kq.mk P t κ r2 dq (λI w v k l i c d g=>@Kq.find P t κ r1 dq f I w v k l i (h _ _ _ _ c) d λj a b=>h _ _ _ _ (g j a b)) (λI w v k e c=>@Kq.check P t κ r1 dq f I w v k e (h _ _ _ _ c)) (λI w v u k c d=>@Kq.same P t κ r1 dq f I w v u k (h _ _ _ _ c) (h _ _ _ _ d))
def kmI(P:Program)(t:TypeId)(k:Ty):Bool:=match k,P.underlying t with
 | .int .i64,ν (.int .i64)=>τ
 |_,_=>ψ
theorem Az0{S:US}{P:Program}{dq:(n:Nat)->DecidableEq (S.D n)}{t:TypeId}{k:Ty}(h:kmI P t k=τ):@Kq P t (den S.D k) (RT S k) (Gz S dq k):=by
 unfold kmI at h;split at h
 .rename_i hu;refine Kq.A5u (r1:=inferInstanceAs (AT Int)) (λI w v n hr=>?_) (Kq.int hu);have hr:=AS.1 hr;have h1:IntKind.i64.min=-9223372036854775808:=by decide
  have h2:IntKind.i64.max=9223372036854775807:=by decide
  have h3:=hr.2;unfold Bl at h3;exact⟨hr.1,by omega,by omega⟩
 grind
end
end
end Go.Y
end
namespace Go.Y
open Go Go.RowKit Go.X
section
section
variable {Y:Sys}
def pop(E:Env Y)(o:Op)(c:Cf Y)(K:AV Y->Cf Y->Prop):Prop:=match pfC E o with
 |some r=>pcX c r K
 |none=>V6 (prz c o) o K
def Ak5(E:Env Y)(ops:Array Oper):List Oper->Cf Y->(Cf Y->Prop)->Prop
 | [],c,k=>k c
 |o::os,c,k=>grd ops o c λt c=>match t with
  |true=>pop E o.op c λa c'=>c'.put E.N o.dst a λc''=>Ak5 E ops os c'' k
  |false=>c.put E.N o.dst (.val undef) λc''=>Ak5 E ops os c'' k
theorem Aax{E:Env Y}{g0:B3}{T:Bi}{ops:Array Oper}{R:List PanicEntry->World->Prop}{w:World}{K:Fr->World->Prop}{k:Cf Y->Prop}:∀(os:List Oper){g:B3}{AH A:Bi}{c:Cf Y}{f:Fr},g.w=w->RG g0 T c f g AH A->Ak5 E ops os c k->(∀c' f' g' AH' A',g'.w=w->RG g0 T c' f' g' AH' A'->k c'->K f' w)->WL Y.P E.N ops R ψ K os f w
 | [],g,AH,A,c,f,s,h,d,b=>b c f g AH A s h d
 |o::os,g,AH,A,c,f,i,h,d,b=>by
  unfold Ak5 at d;obtain⟨t,c1,d,B,s⟩:=Abr h d;split at d
  .have j:∀{v:Value}{a:AV Y}{c':Cf Y}{g':B3}{A':Bi},(c'.put E.N o.dst a λx=>Ak5 E ops os x k)->g'.w=w->RG g0 T c' f g' AH A'->AR g' a v->WL Y.P E.N ops R ψ K os (Go.X.put E.N f o.dst v) w:=λ{v a c' g' A'}O C y N=>by obtain⟨U,G,l,m,u,q,p⟩:=y.put N O;exact Aax os (m.trans C) p l b
   obtain⟨D,L,ty,z,M,J⟩:=o;simp only at d;unfold pop at d;simp only[WL,s,if_true];split at d
   .rename_i r y;obtain⟨v,a,c',g',l,m,u,q,p,P⟩:=Ago B d;obtain⟨Q,F⟩:=Agn y;subst F;rw[U3 r.2.1.can];refine⟨rfl,Calls.mono (P w (i▸Sx.refl g)) λe Z F=>?_⟩;grind
   .obtain⟨G,X,n,V,H⟩:=Aok B L;obtain⟨v,a,c',g3,l,S,m2,m,u,q⟩:=Ww (ty:=ty) H d;have I:=q G.w (Sx.refl _);rw[n,i]at I;rw[I D z M J];exact j l (S.trans (n.trans i)) m u
  .obtain⟨U,G,l,m,u,q,p⟩:=B.put (a:=.val undef) (v:=undef) rfl d;simp only[WL,s,ae,if_false];exact Aax os (m.trans i) p l b
def pex(E:Env Y):Code->Cf Y->Ks Y->Prop
 |.skip,c,ks|.label _,c,ks=>ks.nx c
 | .seq a b,c,ks=>pex E a c {ks with nx:=λc'=>pex E b c' ks}
 | .region _ ops d,c,ks=>match d with
  |false=>Ak5 E ops ops.toList c ks.nx
  |true=>False
 | .cond x a b,c,ks=>match (E9 c x).bind asB with
  |some (.kn τ)=>pex E a c ks
  |some (.kn ψ)=>pex E b c ks
  |some (.pr p _)=>(p->pex E a c ks)/\(¬p->pex E b c ks)
  |none=>False
 | .block id b,c,ks=>pex E b c {ks with ex:=(id,ks.nx)::ks.ex}
 | .exit id,c,ks=>match lkE ks.ex id with
  |some q=>q c
  |none=>False
 | .ret,c,ks=>ks.rt c
 |_,_,_=>False
structure KsP(Y:Sys)(fn:FK)(N:Nat)(g0:B3)(T:Bi)(R:RL->World->Prop)(w:World)(ks:Ks Y)(k:List Item):Prop where
 nx:∀c f g AH A,g.w=w->RG g0 T c f g AH A->ks.nx c->WT Y.P fn N k R f w
 ex:∀id q,lkE ks.ex id=ν q->∃k',exitTo id k=ν k'/\∀c f g AH A,g.w=w->RG g0 T c f g AH A->q c->WT Y.P fn N k' R f w
 rt:∀c f g AH A k',g.w=w->RG g0 T c f g AH A->ks.rt c->WT Y.P fn N (.code .ret::k') R f w
theorem P7{E:Env Y}{fn:FK}{g0:B3}{T:Bi}{R:RL->World->Prop}{w:World}:∀(code:Code){ks:Ks Y}{k:List Item}{c:Cf Y}{f:Fr}{g:B3}{AH A:Bi},KsP Y fn E.N g0 T R w ks k->g.w=w->RG g0 T c f g AH A->pex E code c ks->WT Y.P fn E.N (.code code::k) R f w
 | .skip,ks,k,c,f,g,AH,A,i,j,h,e=>SE (i.nx c f g AH A j h e)
 | .label _,ks,k,c,f,g,AH,A,i,j,h,e=>Acl (i.nx c f g AH A j h e)
 | .seq a b,ks,k,c,f,g,AH,A,i,j,h,e=>by refine DE (P7 a (ks:={ks with nx:=λv=>pex E b v ks}) ⟨λv I G r D n y l=>P7 b i n y l,λu q o=>?_,i.rt⟩ j h e);obtain⟨F,z,B⟩:=i.ex u q o;exact⟨F,z,B⟩
 | .region u L d,ks,k,c,f,g,AH,A,i,j,h,e=>by
  cases d with
  |false=>exact CK (Aax _ j h e λv I G r D n y l=>i.nx v I G r D n y l)
  |true=>exact e.elim
 | .cond x a b,ks,k,c,f,g,AH,A,i,j,h,e=>by
  simp only[pex]at e;have J:∀{p:BV},(E9 c x).bind asB=ν p->ev f x=.bool p.val:=λ{p}s=>by
   cases K:E9 c x with
   |none=>grind
   |some a=>rw[K]at s;exact O4 s (h.ev K)
  split at e
  .rename_i m;exact SB (J m) (P7 a i j h e)
  .rename_i m;exact Pg (J m) (P7 b i j h e)
  .rename_i p d m;exact @Acm _ _ _ _ _ _ _ _ _ _ p d (J m) (λs=>P7 a i j h (e.1 s)) (λs=>P7 b i j h (e.2 s))
  grind
 | .block u b,ks,k,c,f,g,AH,A,i,j,h,e=>by
  refine LS (P7 b (ks:={ks with ex:=(u,ks.nx)::ks.ex}) ⟨λv I G r D n y l=>LR (i.nx v I G r D n y l),λC q o=>?_,i.rt⟩ j h e);simp only[lkE]at o;by_cases H:u=C
  .rw[UV H]at o;cases o;subst H;exact⟨k,by simp [exitTo],i.nx⟩
  .rw[GT H]at o;obtain⟨F,z,B⟩:=i.ex C q o;grind[exitTo]
 | .exit u,ks,k,c,f,g,AH,A,i,j,h,e=>by
  simp only[pex]at e;split at e
  .rename_i q o;obtain⟨F,z,B⟩:=i.ex u q o;grind[VX]
  grind
 | .ret,ks,k,c,f,g,AH,A,i,j,h,e=>i.rt c f g AH A k j h e
 |.loop _,_,_,_,_,_,_,_,_,_,_,e|.rangeFunc _ _ _ _,_,_,_,_,_,_,_,_,_,_,e|.scope _,_,_,_,_,_,_,_,_,_,_,e|.goto _,_,_,_,_,_,_,_,_,_,_,e|.refuse _,_,_,_,_,_,_,_,_,_,_,e=>e.elim
def Ap8:List (AV Y)->Nat->List (Nat×AV Y)
 | [],_=>[]
 |a::l,i=>(i,a)::Ap8 l (i+1)
theorem Ajc{g:B3}{f:Fr}:∀{l:List (AV Y)}{vs:List Value}{i:Nat},F2 (AR g) l vs->(∀j v,vs[j]?=ν v->f (i+j)=v)->∀j a,Iz (Ap8 l i) j=ν a->AR g a (f j)
 | [],_,i,_,_=>by grind[Ap8,Iz]
 |a::l,v::vs,i,.cons c k,d=>T9 (Q:=λj b=>AR g b (f j)) (by show AR g a (f i);rw[<-d 0 v rfl]at c;exact c) (Ajc k λj u e=>by have:=d (j+1) u (by grind);rwa [ay,b4 1 j])
def rtP(res:List ResultVar)(rs:List Ty)(F:Jl Y rs)(c:Cf Y):Prop:=Rt c res λaE=>match mkT rs aE with
 |some x=>x=F
 |none=>False
def pfP(pf:(q:FuncId)->Option (PF Y q))(fn:Func)(aE rs:List Ty)(a:Jl Y aE)(F:Jl Y rs):Prop:=match fn.body with
 |some c=>Fx (aq (ω aE) fn.ntmps) (pex {N:=fn.ntmps,Pf:=λ_=>δ,sigs:=λ_=>δ,pf:=pf,X:=λ_ _ _=>False,lp:=[],jn:=[],pr:=[],im:=[]} c {fr:=Ap8 (Rf aE a) 0,sg:=[],nx:=0,H:=λ_=>δ,op:=δ,hs:=[],pt:=[]} {nx:=rtP fn.results.toList rs F,ex:=[],rt:=rtP fn.results.toList rs F})
 |none=>False
theorem Ah8:∀{ts:List Ty}{x:Jl Y ts},ω (vlT ts x)=ω ts
 | [],_=>rfl
 |_::_,_=>by simp [vlT,Ah8]
theorem Mj{pf:(q:FuncId)->Option (PF Y q)}{q:FuncId}{fn:Func}{aE rs:List Ty}(V:Y.P.funcs[q]?=ν fn)(O:plT aE=τ)(pr:plT rs=τ){a:Jl Y aE}{F:Jl Y rs}(y:rgT aE a)(h:pfP pf fn aE rs a F)(I:Cb)(w:World)(J:Gw Y I w):Calls Y.P q ⟨vlT aE a⟩ w λe w'=>e=.returned (LD (vlT rs F))/\w'=w/\rgT rs F:=by
 unfold pfP at h;split at h
 .rename_i r W;obtain⟨Q,h⟩:=AJ h;refine Jg (N:=fn.ntmps) V W rfl (by simp_all[Ah8]) ?_;let g:B3:={I:=I,w:=w,n:=0,μ:=λ_=>undef,φ:=YE (vlT aE a)}
  have S:F2 (AR g) (Rf aE a) (vlT aE a):=Q6 ((Uw O).2 ⟨rfl,y⟩);have B:RG g [] {fr:=Ap8 (Rf aE a) 0,sg:=[],nx:=0,H:=λ_=>δ,op:=δ,hs:=[],pt:=[]} (YE (vlT aE a)) g [] []:=
   ⟨rfl,Ext.refl _ _,⟨J.1,λp L=>by grind,by simp⟩,⟨⟨[],λb=>rfl,rfl,J.2⟩⟩,rfl,λx m=>(by cases m),λt Z=>rfl,Ajc S λj v P=>by rw[ak,<-MT,P];rfl⟩
  have u:∀(c:Cf Y)(f:Fr)(l:B3)(d o:Bi),l.w=w->RG g [] c f l d o->rtP fn.results.toList rs F c->(∀i,Is fn.ntmps i f->(results fn i).run Y.P w=.ok (LD (vlT rs F)) w)/\rgT rs F:=λc f l d o z D m=>by
   obtain⟨T,us,C,M,K⟩:=Pz (N:=fn.ntmps) D m;split at C
   .rename_i x G;subst C;obtain⟨s,A⟩:=(Uw pr).1 (Abd G M);simp_all[Hf]
   grind
  refine P7 (E:={N:=fn.ntmps,Pf:=λ_=>δ,sigs:=λ_=>δ,pf:=pf,X:=λ_ _ _=>False,lp:=[],jn:=[],pr:=[],im:=[]}) r (k:=[]) ⟨λc f l d o z y m=>?_,λid q R=>by grind[lkE],λc f l d o k' z y m=>?_⟩ rfl B h
  .obtain⟨s,A⟩:=u c f l d o z y m;exact Un ⟨_,s,rfl,rfl,A⟩
  .obtain⟨s,A⟩:=u c f l d o z y m;exact NU ⟨_,s,rfl,rfl,A⟩
 grind
end
end
end Go.Y
section
namespace Go.Y
open Go Go.RowKit Go.X
section
def dup(p:Prop):Prop:=p/\p
theorem Qb{p:Prop}(h:p):dup p:=⟨h,h⟩
section
variable {P:Program} {t e:TypeId} {w:World}
theorem Zj(a:P.underlying e=ν (.int .i64))(x y:Int):(part e #[.int .i64 x,.int .i64 y] (0*1)).run P w=.ok (.int .i64 x) w/\(part e #[.int .i64 x,.int .i64 y] (1*1)).run P w=.ok (.int .i64 y) w:=by constructor<;>simp [part,isAgg,run_underlying a]
theorem Vn{a b c d:Int}(i:P.underlying t=ν (.array 2 e))(f:P.underlying e=ν (.int .i64))(hs:(sizeOf e).run P w=.ok 1 w):(Op.equal t (.agg ⟨[.int .i64 a,.int .i64 b]⟩) (.agg ⟨[.int .i64 c,.int .i64 d]⟩)).run P w=.ok (a==c&&b==d) w:=by
 have g:=@Zj P e w f;have k:∀n(x y:Int),(Op.equalIn (n+1) e (.int .i64 x) (.int .i64 y)).run P w=.ok (x == y) w:=λn x y=>by simp [Op.equalIn,run_underlying f]
 simp only[Op.equal,Op.maxDepth];unfold Op.equalIn;simp only[Sem.run_bind,run_underlying i,Result.andThen_ok,hs];simp [Std.Legacy.Range.forIn_eq_forIn_range',b7,g,k];by_cases j:a=c<;>by_cases h:b=d<;>simp [j,h]
theorem Ac9{a b:Int}{em:Bool}(f:P.underlying t=ν (.array 2 e))(c:P.underlying e=ν (.int .i64))(hs:(sizeOf e).run P w=.ok 1 w):(Instr.checkKey em 10000 t (.agg ⟨[.int .i64 a,.int .i64 b]⟩)).run P w=.ok () w:=by
 have d:=@Zj P e w c;have g:∀n(x:Int),(Instr.checkKey em (n+1) e (.int .i64 x)).run P w=.ok () w:=λn x=>by simp [Instr.checkKey,run_underlying c]
 unfold Instr.checkKey;simp_all[Sem.run_bind,run_underlying,Result.andThen_ok,Std.Legacy.Range.forIn_eq_forIn_range',b7]
theorem Kq.two{κ:Type}[r:AT κ][DecidableEq κ]{p q:κ->Int}(f:∀I w v k,rep I w v k->v=.agg ⟨[.int .i64 (p k),.int .i64 (q k)]⟩)(hi:∀k l,p k=p l->q k=q l->k=l)(A:P.underlying t=ν (.array 2 e))(E:P.underlying e=ν (.int .i64))(hs:∀w,(sizeOf e).run P w=.ok 1 w):Kq P t κ where
 find I w v k b a g F m:=by
  obtain rfl:=f _ _ _ _ g;have y:∀(b:List MapEntry)(a:List κ)(n:Nat),ω b=ω a->(∀j(h:j<ω b)(z:j<ω a),b[j].key=.agg ⟨[.int .i64 (p a[j]),.int .i64 (q a[j])]⟩)->
    (Instr.findAsking t (.agg ⟨[.int .i64 (p k),.int .i64 (q k)]⟩) b n).run P w=.ok ((a.findIdx? (·==k)).bind λi=>(b[i]?).map λe=>(n+i,e.val)) w:=by
   intro b
   induction b with
   |nil=>intro a n h _;cases a with
    |nil=>rfl
    |cons=>simp at h
   |cons B b H=>
    intro a n h m;cases a with
    |nil=>simp at h
    |cons s a=>
     have D:=m 0 (by simp) (by simp);simp only[List.getElem_cons_zero]at D;have c:=H a (n+1) (by simpa using h) λj K o=>by have:=m (j+1) (by simp;omega) (by simp;omega);grind
     unfold Instr.findAsking;simp only[Sem.run_bind,D,Vn A E (hs w),Result.andThen_ok];by_cases d:s=k
     .subst d;simp [ao]
     .have:(p k==p s&&q k==q s)=ψ:=by grind
      simp only[this,ae,if_false,c];have G:(s == k)=ψ:=by grind
      rw[ao,G];simp only[ae,if_false];cases List.findIdx? (λx=>x == k) a with
      |none=>rfl
      |some i=>grind
  have C:∀j(h:j<ω b)(z:j<ω a),b[j].key=.agg ⟨[.int .i64 (p a[j]),.int .i64 (q a[j])]⟩:=λj h z=>f _ _ _ _ (m j h z);simp only[Instr.findKey,Sem.run_bind,run_underlying A,Result.andThen_ok];cases b with
  |nil=>simp[Instr.findNow]
  |cons B b=>
   have:Instr.findNow (.array 2 e) (.agg ⟨[.int .i64 (p k),.int .i64 (q k)]⟩) (B::b) 0=δ:=by rfl
   grind
 check I w v k L g:=by obtain rfl:=f _ _ _ _ g;grind[Ac9]
 same I w v u k g J:=by obtain rfl:=f _ _ _ _ g;obtain rfl:=f _ _ _ _ J;simp [Instr.sameBits]
def arB(P:Program)(t:TypeId):Bool:=match P.underlying t with
 |some (.array 2 e)=>match P.underlying e,P.info? e with
  |some (.int .i64),ν i=>aj i.size 1
  |_,_=>ψ
 |_=>ψ
theorem Arr(h:arB P t=τ):∃e,P.underlying t=ν (.array 2 e)/\P.underlying e=ν (.int .i64)/\∀w,(sizeOf e).run P w=.ok 1 w:=by grind[arB,al,run_sizeOf,Program.cellsOf]
theorem Ai8{S:US}{dq:(n:Nat)->DecidableEq (S.D n)}{n:Nat}{p q:S.D n->Int}(j:∀x,S.flat n x=[⟨.int .i64,p x⟩,⟨.int .i64,q x⟩])(hi:∀x y,p x=p y->q x=q y->x=y)(h:arB P t=τ):@Kq P t (den S.D (.u n)) (RT S (.u n)) (Gz S dq (.u n)):=by
 obtain⟨e,g,m,f⟩:=Arr h;refine @Kq.two P t e _ (RT S (.u n)) (Gz S dq (.u n)) p q (λI w v k d=>?_) hi g m f;obtain⟨o,rfl,a⟩:=HO.1 d;rw[j]at a;cases a with
 |cons b l=>cases l with
  |cons c i=>
   cases i;obtain⟨rfl,_⟩:=AS.1 b;obtain⟨rfl,_⟩:=AS.1 c;rfl
end
end
section
section
variable {P:Program} {t e:TypeId} {w:World}
theorem Ak1(a:P.underlying e=ν (.int .i64))(x y z:Int):(part e #[.int .i64 x,.int .i64 y,.int .i64 z] (0*1)).run P w=.ok (.int .i64 x) w/\(part e #[.int .i64 x,.int .i64 y,.int .i64 z] (1*1)).run P w=.ok (.int .i64 y) w/\(part e #[.int .i64 x,.int .i64 y,.int .i64 z] (2*1)).run P w=.ok (.int .i64 z) w:=by refine⟨?_,?_,?_⟩<;>simp [part,isAgg,run_underlying a]
variable {a b a' b':Int}
theorem Ac8{c c':Int}(d:Nat)(i:P.underlying t=ν (.array 3 e))(f:P.underlying e=ν (.int .i64))(hs:(sizeOf e).run P w=.ok 1 w):(Op.equalIn (d+2) t (.agg ⟨[.int .i64 a,.int .i64 b,.int .i64 c]⟩) (.agg ⟨[.int .i64 a',.int .i64 b',.int .i64 c']⟩)).run P w=.ok (a==a'&&(b==b'&&c==c')) w:=by
 have g:=@Ak1 P e w f;have l:∀n(x y:Int),(Op.equalIn (n+1) e (.int .i64 x) (.int .i64 y)).run P w=.ok (x == y) w:=λn x y=>by simp [Op.equalIn,run_underlying f]
 unfold Op.equalIn;simp only[Sem.run_bind,run_underlying i,Result.andThen_ok,hs];simp [Std.Legacy.Range.forIn_eq_forIn_range',b7,g,l];by_cases k:a=a'<;>by_cases h:b=b'<;>by_cases j:c=c'<;>simp [k,h,j]
def ksB(P:Program)(t:TypeId):Bool:=!(P.eqGuardType P.depth t)&&!(P.stoodInHeld t)&&(match P.underlying t with
 |some (.struct ⟨[f,g]⟩)=>aj f.offset 0&&aj g.offset 1&&!(f.name== "_")&&!(g.name== "_")&&GG P f.type (Aq1 .i64)&&(match P.info? g.type with
  |some i=>aj i.size 3
  |none=>ψ)&&(match P.underlying g.type with
  |some (.array 3 e)=>GG P e (Aq1 .i64)&&(match P.info? e with
   |some i=>aj i.size 1
   |none=>ψ)
  |_=>ψ)
 |_=>ψ)
theorem Zi{n:Nat}(h:(match P.info? e with|some i=>aj i.size n|none=>ψ)=τ):(sizeOf e).run P w=.ok n w:=by grind[run_sizeOf,Program.cellsOf,al]
theorem Ap1(h:ksB P t=τ){o c o' c':Int}:P.eqGuardType P.depth t=ψ/\(Op.equal t (.agg ⟨[.int .i64 o,.int .i64 a,.int .i64 b,.int .i64 c]⟩) (.agg ⟨[.int .i64 o',.int .i64 a',.int .i64 b',.int .i64 c']⟩)).run P w=.ok (o==o'&&(a==a'&&(b==b'&&c==c'))) w:=by
 unfold ksB at h;simp only[a7,ac]at h;obtain⟨⟨D,F⟩,h⟩:=h;refine⟨D,?_⟩;split at h
 .rename_i f g H;simp only[a7,b3,ac,beq_eq_false_iff_ne]at h;obtain⟨⟨⟨⟨⟨⟨q,l⟩,m⟩,s⟩,p⟩,u⟩,d⟩:=h;split at d
  .rename_i e i;simp only[a7]at d;have B:=W2 d.1;have k:(sizeOf e).run P w=.ok 1 w:=Zi d.2;have r:(sizeOf g.type).run P w=.ok 3 w:=Zi u;have j:=W2 p;have v:∀o a b c:Int,(part f.type #[.int .i64 o,.int .i64 a,.int .i64 b,.int .i64 c] 0).run P w=.ok (.int .i64 o) w:=λo a b c=>by simp [part,isAgg,run_underlying j]
   have G:∀o a b c:Int,(part g.type #[.int .i64 o,.int .i64 a,.int .i64 b,.int .i64 c] 1).run P w=.ok (.agg ⟨[.int .i64 a,.int .i64 b,.int .i64 c]⟩) w:=λo a b c=>by simp_all[part,isAgg,run_underlying]
   have z:∀n(x y:Int),(Op.equalIn (n+1) f.type (.int .i64 x) (.int .i64 y)).run P w=.ok (x == y) w:=λn x y=>by simp [Op.equalIn,run_underlying j]
   simp only[Op.equal,Op.maxDepth];unfold Op.equalIn;simp only[Sem.run_bind,run_underlying H,Result.andThen_ok];simp [run_program,F,q,l,m,s,v,G,z 9998,Ac8 9997 i B k];by_cases E:o=o'<;>by_cases I:a=a'<;>by_cases C:b=b'<;>by_cases A:c=c'<;>simp [E,I,C,A]
  grind
 grind
theorem Ab9(h:(arB P t&&!(P.eqGuardType P.depth t))=τ):P.eqGuardType P.depth t=ψ/\(Op.equal t (.agg ⟨[.int .i64 a,.int .i64 b]⟩) (.agg ⟨[.int .i64 a',.int .i64 b']⟩)).run P w=.ok (a == a'&&b == b') w:=by simp only[a7,ac]at h;grind[Arr,Vn]
end
end
section
theorem Arn(a b:ByteArray):(a==b)=χ (a=b):=by
 cases a with
 |mk a=>cases b with
  |mk b=>
   have:(bc a==bc b)=(a==b):=rfl;grind
theorem Vv{k:ByteArray}:∀(a:List MapEntry)(ks:List ByteArray)(n:Nat),ω a=ω ks->(∀j(h:j<ω a)(o:j<ω ks),a[j].key=.string ks[j])->Instr.findNow .string (.string k) a n=ν ((ks.findIdx? λx=>χ (x=k)).bind λi=>(a[i]?).map λe=>(n+i,e.val))
 | [],[],n,_,_=>rfl
 |[],_::_,_,h,_|_::_,[],_,h,_=>by grind
 |e::a,x::ks,n,h,d=>by
  have f:e.key=.string x:=d 0 (by simp) (by simp);have g:=Vv (k:=k) a ks (n+1) (by grind) (λj m l=>d (j+1) (by grind) (by grind));simp only[Instr.findNow,f,Instr.sameNow,Arn];by_cases b:k=x
  .grind
  .have c:¬x=k:=λh=>b h.symm;rw[decide_eq_false b];simp only[g,ao,decide_eq_false c,ae,if_false];cases ks.findIdx? (λx=>χ (x=k)) with
   |none=>simp
   |some i=>grind
theorem Kq.A58{P:Program}{t:TypeId}{r:AT ByteArray}{dq:DecidableEq ByteArray}(a:∀I w v k,@AT.rep ByteArray r I w v k->v=.string k)(c:P.underlying t=ν .string):@Kq P t ByteArray r dq:=
 @Kq.mk P t ByteArray r dq (λI w v k d f b i g=>by obtain rfl:=a _ _ _ _ b;have:=Vv (k:=k) d f 0 i (λj h l=>a _ _ _ _ (g j h l));simp only[ak]at this;simp only[Instr.findKey,Sem.run_bind,run_underlying c,Result.andThen_ok,this,Sem.run_pure];grind)
 (λI w v k e b=>by
  obtain rfl:=a _ _ _ _ b;have:∀n,(Instr.checkKey e (n+1) t (.string k)).run P w=.ok () w:=λn=>by simp [Instr.checkKey,run_underlying c]
  grind)
 (λI w v u k b m=>by obtain rfl:=a _ _ _ _ b;obtain rfl:=a _ _ _ _ m;simp [Instr.sameBits,Arn])
theorem Kq.A57{S:US}{P:Program}{dq:(n:Nat)->DecidableEq (S.D n)}{t:TypeId}(a:P.underlying t=ν .string):@Kq P t (den S.D .str) (RT S .str) (Gz S dq .str):=Kq.A58 (λ_ _ _ _ h=>(Nv.1 h).1) a
def kmS(P:Program)(t:TypeId)(k:Ty):Bool:=match k,P.underlying t with
 | .str,ν .string=>τ
 |_,_=>ψ
theorem Azz{S:US}{P:Program}{dq:(n:Nat)->DecidableEq (S.D n)}{t:TypeId}{k:Ty}(h:kmS P t k=τ):@Kq P t (den S.D k) (RT S k) (Gz S dq k):=by
 unfold kmS at h;split at h
 .rename_i a;exact Kq.A57 a
 grind
end
end Go.Y
end
namespace Go.Proofs.YtcbkbpjlbmalmaaGreatDoor
open Go Go.X Go.Y
structure Al where
 qJ:ByteArray
 Bool:Bool
 Lo:Int
 Hi:Int
deriving DecidableEq
structure BQ where
 IB:Int
 Kind:Int
 Level:Int
deriving DecidableEq
structure B0 where
 Aa:(List Al)
 Order:(List Int)
 MH:(List BQ)
deriving DecidableEq
structure Ab where
 Op:Int
 N:Int
 qJ:ByteArray
 qZ:(List Ab)
structure Ae where
 Aa:(List Al)
 Bits:(List Int)
 At:(List Int)
deriving DecidableEq
structure Af where
 Bool:Bool
 Lo:Int
 Hi:Int
deriving DecidableEq
structure Ui where
 qJ:ByteArray
 E:Ab
structure Q0 where
 Op:Int
 E:Ab
 qZ:(List Q0)
structure Uh where
 qJ:ByteArray
 F:Q0
structure O7 where
 Aa:(List Al)
 Defs:(List Ui)
 Init:(List Ab)
 Ar8:(List Ab)
 Next:(List Ui)
 Trans:(List Ab)
 Fair:(List Ab)
 Arz:(List Uh)
structure Df where
 N:Int
 H:Int
deriving DecidableEq
structure CT where
 Var:Int
 YP:Bool
deriving DecidableEq
structure Yj where
 a0:Int
 a1:Int
deriving DecidableEq
structure AE where
 ID:Int
 Var:Int
 Lo:Int
 Hi:Int
 Refs:Int
deriving DecidableEq
structure Hz where
 m:(Option Nat)
deriving DecidableEq
structure FN where
 err:Int
 event:Bool
 ev:BQ
deriving DecidableEq
structure Ba where
 n:AE
 ll:Int
 lh:Int
 hl:Int
 hh:Int
deriving DecidableEq
structure Ak where
 a0:Int
 a1:Int
deriving DecidableEq
structure DM where
 a0:Int
 a1:Int
 a2:Int
deriving DecidableEq
structure Lh where
 op:Int
 Gb:DM
deriving DecidableEq
structure BB where
 key:Lh
 r:Int
 full:Bool
deriving DecidableEq
@[reducible] def uD:Nat->Type
 |0=>Al
 |1=>BQ
 |2=>B0
 |3=>Ab
 |4=>Ae
 |5=>Af
 |6=>Ui
 |7=>Q0
 |8=>Uh
 |9=>O7
 |10=>Df
 |11=>CT
 |12=>Yj
 |13=>AE
 |14=>Hz
 |15=>FN
 |16=>Ba
 |17=>Ak
 |18=>DM
 |19=>Lh
 |20=>BB
 |_=>Bool
def Aks:Nat->List Ty
 |0=>[.str,.bool,I6,I6]
 |1=>[I6,I6,I6]
 |2=>[(.sl (.u 0)),(.sl I6),(.sl (.u 1))]
 |3=>[I6,I6,.str,(.sl (.u 3))]
 |4=>[(.sl (.u 0)),(.sl I6),(.sl I6)]
 |5=>[.bool,I6,I6]
 |6=>[.str,I6,I6,.str,(.sl (.u 3))]
 |7=>[I6,I6,I6,.str,(.sl (.u 3)),(.sl (.u 7))]
 |8=>[.str,I6,I6,I6,.str,(.sl (.u 3)),(.sl (.u 7))]
 |9=>[(.sl (.u 0)),(.sl (.u 6)),(.sl (.u 3)),(.sl (.u 3)),(.sl (.u 6)),(.sl (.u 3)),(.sl (.u 3)),(.sl (.u 8))]
 |10=>[I6,I6]
 |11=>[I6,.bool]
 |12=>[I6,I6]
 |13=>[I6,I6,I6,I6,I6]
 |14=>[.ptr]
 |15=>[I6,.bool,I6,I6,I6]
 |16=>[I6,I6,I6,I6,I6,I6,I6,I6,I6]
 |17=>[I6,I6]
 |18=>[I6,I6,I6]
 |19=>[I6,I6,I6,I6]
 |20=>[I6,I6,I6,I6,I6,.bool]
 |_=>[.bool]
def Anm:(n:Nat)->uD n->List (Lf uD)
 |0,x=>[⟨.str,x.qJ⟩,⟨.bool,x.Bool⟩,⟨I6,x.Lo⟩,⟨I6,x.Hi⟩]
 |1,x=>[⟨I6,x.IB⟩,⟨I6,x.Kind⟩,⟨I6,x.Level⟩]
 |2,x=>[⟨(.sl (.u 0)),x.Aa⟩,⟨(.sl I6),x.Order⟩,⟨(.sl (.u 1)),x.MH⟩]
 |3,x=>[⟨I6,x.Op⟩,⟨I6,x.N⟩,⟨.str,x.qJ⟩,⟨(.sl (.u 3)),x.qZ⟩]
 |4,x=>[⟨(.sl (.u 0)),x.Aa⟩,⟨(.sl I6),x.Bits⟩,⟨(.sl I6),x.At⟩]
 |5,x=>[⟨.bool,x.Bool⟩,⟨I6,x.Lo⟩,⟨I6,x.Hi⟩]
 |6,x=>[⟨.str,x.qJ⟩,⟨I6,x.E.Op⟩,⟨I6,x.E.N⟩,⟨.str,x.E.qJ⟩,⟨(.sl (.u 3)),x.E.qZ⟩]
 |7,x=>[⟨I6,x.Op⟩,⟨I6,x.E.Op⟩,⟨I6,x.E.N⟩,⟨.str,x.E.qJ⟩,⟨(.sl (.u 3)),x.E.qZ⟩,⟨(.sl (.u 7)),x.qZ⟩]
 |8,x=>[⟨.str,x.qJ⟩,⟨I6,x.F.Op⟩,⟨I6,x.F.E.Op⟩,⟨I6,x.F.E.N⟩,⟨.str,x.F.E.qJ⟩,⟨(.sl (.u 3)),x.F.E.qZ⟩,⟨(.sl (.u 7)),x.F.qZ⟩]
 |9,x=>[⟨(.sl (.u 0)),x.Aa⟩,⟨(.sl (.u 6)),x.Defs⟩,⟨(.sl (.u 3)),x.Init⟩,⟨(.sl (.u 3)),x.Ar8⟩,⟨(.sl (.u 6)),x.Next⟩,⟨(.sl (.u 3)),x.Trans⟩,⟨(.sl (.u 3)),x.Fair⟩,⟨(.sl (.u 8)),x.Arz⟩]
 |10,x=>[⟨I6,x.N⟩,⟨I6,x.H⟩]
 |11,x=>[⟨I6,x.Var⟩,⟨.bool,x.YP⟩]
 |12,x=>[⟨I6,x.a0⟩,⟨I6,x.a1⟩]
 |13,x=>[⟨I6,x.ID⟩,⟨I6,x.Var⟩,⟨I6,x.Lo⟩,⟨I6,x.Hi⟩,⟨I6,x.Refs⟩]
 |14,x=>[⟨.ptr,x.m⟩]
 |15,x=>[⟨I6,x.err⟩,⟨.bool,x.event⟩,⟨I6,x.ev.IB⟩,⟨I6,x.ev.Kind⟩,⟨I6,x.ev.Level⟩]
 |16,x=>[⟨I6,x.n.ID⟩,⟨I6,x.n.Var⟩,⟨I6,x.n.Lo⟩,⟨I6,x.n.Hi⟩,⟨I6,x.n.Refs⟩,⟨I6,x.ll⟩,⟨I6,x.lh⟩,⟨I6,x.hl⟩,⟨I6,x.hh⟩]
 |17,x=>[⟨I6,x.a0⟩,⟨I6,x.a1⟩]
 |18,x=>[⟨I6,x.a0⟩,⟨I6,x.a1⟩,⟨I6,x.a2⟩]
 |19,x=>[⟨I6,x.op⟩,⟨I6,x.Gb.a0⟩,⟨I6,x.Gb.a1⟩,⟨I6,x.Gb.a2⟩]
 |20,x=>[⟨I6,x.key.op⟩,⟨I6,x.key.Gb.a0⟩,⟨I6,x.key.Gb.a1⟩,⟨I6,x.key.Gb.a2⟩,⟨I6,x.r⟩,⟨.bool,x.full⟩]
 |_+21,x=>[⟨.bool,x⟩]
def Ank:(n:Nat)->List (Lf uD)->Option (uD n)
 |0,l=>tk .str l λa l=>tk .bool l λb l=>tk I6 l λc l=>tk I6 l λd l=>nl l (ν ⟨a,b,c,d⟩)
 |1,l=>tk I6 l λa l=>tk I6 l λb l=>tk I6 l λc l=>nl l (ν ⟨a,b,c⟩)
 |2,l=>tk (.sl (.u 0)) l λa l=>tk (.sl I6) l λb l=>tk (.sl (.u 1)) l λc l=>nl l (ν ⟨a,b,c⟩)
 |3,l=>tk I6 l λa l=>tk I6 l λb l=>tk .str l λc l=>tk (.sl (.u 3)) l λd l=>nl l (ν ⟨a,b,c,d⟩)
 |4,l=>tk (.sl (.u 0)) l λa l=>tk (.sl I6) l λb l=>tk (.sl I6) l λc l=>nl l (ν ⟨a,b,c⟩)
 |5,l=>tk .bool l λa l=>tk I6 l λb l=>tk I6 l λc l=>nl l (ν ⟨a,b,c⟩)
 |6,l=>tk .str l λa l=>tk I6 l λb l=>tk I6 l λc l=>tk .str l λd l=>tk (.sl (.u 3)) l λe l=>nl l (ν ⟨a,⟨b,c,d,e⟩⟩)
 |7,l=>tk I6 l λa l=>tk I6 l λb l=>tk I6 l λc l=>tk .str l λd l=>tk (.sl (.u 3)) l λe l=>tk (.sl (.u 7)) l λf l=>nl l (ν ⟨a,⟨b,c,d,e⟩,f⟩)
 |8,l=>tk .str l λa l=>tk I6 l λb l=>tk I6 l λc l=>tk I6 l λd l=>tk .str l λe l=>tk (.sl (.u 3)) l λf l=>tk (.sl (.u 7)) l λg l=>nl l (ν ⟨a,⟨b,⟨c,d,e,f⟩,g⟩⟩)
 |9,l=>tk (.sl (.u 0)) l λa l=>tk (.sl (.u 6)) l λb l=>tk (.sl (.u 3)) l λc l=>tk (.sl (.u 3)) l λd l=>tk (.sl (.u 6)) l λe l=>tk (.sl (.u 3)) l λf l=>tk (.sl (.u 3)) l λg l=>tk (.sl (.u 8)) l λi l=>nl l (ν ⟨a,b,c,d,e,f,g,i⟩)
 |10,l=>tk I6 l λa l=>tk I6 l λb l=>nl l (ν ⟨a,b⟩)
 |11,l=>tk I6 l λa l=>tk .bool l λb l=>nl l (ν ⟨a,b⟩)
 |12,l=>tk I6 l λa l=>tk I6 l λb l=>nl l (ν ⟨a,b⟩)
 |13,l=>tk I6 l λa l=>tk I6 l λb l=>tk I6 l λc l=>tk I6 l λd l=>tk I6 l λe l=>nl l (ν ⟨a,b,c,d,e⟩)
 |14,l=>tk .ptr l λa l=>nl l (ν ⟨a⟩)
 |15,l=>tk I6 l λa l=>tk .bool l λb l=>tk I6 l λc l=>tk I6 l λd l=>tk I6 l λe l=>nl l (ν ⟨a,b,⟨c,d,e⟩⟩)
 |16,l=>tk I6 l λa l=>tk I6 l λb l=>tk I6 l λc l=>tk I6 l λd l=>tk I6 l λe l=>tk I6 l λf l=>tk I6 l λg l=>tk I6 l λi l=>tk I6 l λj l=>nl l (ν ⟨⟨a,b,c,d,e⟩,f,g,i,j⟩)
 |17,l=>tk I6 l λa l=>tk I6 l λb l=>nl l (ν ⟨a,b⟩)
 |18,l=>tk I6 l λa l=>tk I6 l λb l=>tk I6 l λc l=>nl l (ν ⟨a,b,c⟩)
 |19,l=>tk I6 l λa l=>tk I6 l λb l=>tk I6 l λc l=>tk I6 l λd l=>nl l (ν ⟨a,⟨b,c,d⟩⟩)
 |20,l=>tk I6 l λa l=>tk I6 l λb l=>tk I6 l λc l=>tk I6 l λd l=>tk I6 l λe l=>tk .bool l λf l=>nl l (ν ⟨⟨a,⟨b,c,d⟩⟩,e,f⟩)
 |_+21,l0=>tk .bool l0 λv0 l1=>nl l1 (ν v0)
theorem Anl:∀n x,(Anm n x).map (·.t)=Aks n
 |0,_|1,_|2,_|3,_|4,_|5,_|6,_|7,_|8,_|9,_|10,_|11,_|12,_|13,_|14,_|15,_|16,_|17,_|18,_|19,_|20,_|_+21,_=>rfl
theorem As2:∀n l x,Ank n l=ν x->Anm n x=l
 |0,l0,x,h0|1,l0,x,h0|2,l0,x,h0|3,l0,x,h0|4,l0,x,h0|5,l0,x,h0|6,l0,x,h0|7,l0,x,h0|8,l0,x,h0|9,l0,x,h0|10,l0,x,h0|11,l0,x,h0|12,l0,x,h0|13,l0,x,h0|14,l0,x,h0|15,l0,x,h0|16,l0,x,h0|17,l0,x,h0|18,l0,x,h0|19,l0,x,h0|20,l0,x,h0|_+21,l0,x,h0=>by simp only[Ank]at h0;(repeat(obtain⟨_,_,e,h1⟩:=A2k h0;clear h0;subst e;have h0:=h1;clear h1));obtain⟨e,h⟩:=A3l h0;subst e;cases h;rfl
theorem A2h:∀n,∀t∈Aks n,t.leaf=τ
 |0|1|2|3|4|5|6|7|8|9|10|11|12|13|14|15|16|17|18|19|20=>by decide
 |_+21=>by intro t ht;simp [Aks]at ht;subst ht;rfl
theorem A5z:∀n,0<ω (Aks n)
 |0|1|2|3|4|5|6|7|8|9|10|11|12|13|14|15|16|17|18|19|20=>by decide
 |_+21=>by simp [Aks]
def uS:US:={D:=uD,sig:=Aks,flat:=Anm,Akr:=Ank,TJ:=Anl,SN:=As2,Ac2:=A2h,Aij:=A5z}
noncomputable def Akt:(n:Nat)->DecidableEq (uD n)
 |0=>inferInstanceAs (DecidableEq Al)
 |1=>inferInstanceAs (DecidableEq BQ)
 |2=>inferInstanceAs (DecidableEq B0)
 |3=>λ_ _=>ap _
 |4=>inferInstanceAs (DecidableEq Ae)
 |5=>inferInstanceAs (DecidableEq Af)
 |6|7|8|9=>λ_ _=>ap _
 |10=>inferInstanceAs (DecidableEq Df)
 |11=>inferInstanceAs (DecidableEq CT)
 |12=>inferInstanceAs (DecidableEq Yj)
 |13=>inferInstanceAs (DecidableEq AE)
 |14=>inferInstanceAs (DecidableEq Hz)
 |15=>inferInstanceAs (DecidableEq FN)
 |16=>inferInstanceAs (DecidableEq Ba)
 |17=>inferInstanceAs (DecidableEq Ak)
 |18=>inferInstanceAs (DecidableEq DM)
 |19=>inferInstanceAs (DecidableEq Lh)
 |20=>inferInstanceAs (DecidableEq BB)
 |_+21=>inferInstanceAs (DecidableEq Bool)
structure Be where
 store:(Option Nat)
 T3:(Option Nat)
 BF:List (Int×Int)
 EK:Int
 waits:(List BQ)
 calls:Int
structure Am where
 m:(Option Nat)
 l:Ae
 live:List (Int×Bool)
 e:Int
structure AX where
 vars:(List Int)
 level:(List Int)
structure Ai where
 levels:(Option Nat)
 Gx:(Option Nat)
 tables:(List (Option Nat))
 counts:(List Int)
 dead:Int
structure B7 where
 size:Int
 entries:Option (List BB)
 asked:Int
 found:Int
structure Ar4 where
 m:(Option Nat)
structure A7 where
 room:Int
 at_:(List AE)
 taken:(List Bool)
 free:(List Int)
 many:Int
structure AZ where
 ids:List (Ak×Int)
@[reducible] def oD:Nat->Type
 |0=>Be
 |1=>Am
 |2=>AX
 |3=>Ai
 |4=>B7
 |5=>Ar4
 |6=>A7
 |7=>AZ
 |8=>Int
 |9=>Bool
 |10=>Int
 |11=>ByteArray
 |12|13=>Int
 |14=>(List Al)
 |15=>(List Int)
 |16=>(List BQ)
 |17=>B0
 |18=>(List Ab)
 |19=>Ab
 |20=>(Option Nat)
 |21=>Ae
 |22=>Af
 |23=>Al
 |24=>(List Bool)
 |25=>(List Ui)
 |26=>(List Uh)
 |27=>O7
 |28=>(List (List Int))
 |29=>(List Df)
 |30=>Df
 |31=>BQ
 |32=>(List (Int×Int))
 |33=>(List ByteArray)
 |34=>(List (Int×Bool))
 |35=>(Option Nat)
 |36=>(List CT)
 |37=>CT
 |38=>(List (ByteArray×Int))
 |39=>(List Af)
 |40=>Yj
 |41=>(List (Option Nat))
 |42=>(List BB)
 |43=>AE
 |44=>Hz
 |45=>FN
 |46=>(List AE)
 |47=>(List (Ak×Int))
 |48=>(List Ba)
 |49=>Ba
 |50=>Int
 |51=>Ak
 |52=>DM
 |53=>Lh
 |54=>BB
 |55=>(List (Ak×Bool))
 |56=>(List Ak)
 |57=>Ui
 |58=>(List Q0)
 |59=>Q0
 |60=>Uh
 |_=>Unit
def A6o:Nat->List RK
 |0=>[.dat .ptr,.dat .ptr,.map I6 I6,.dat I6,.own (.u 1),.dat I6]
 |1=>[.dat .ptr,.dat (.sl (.u 0)),.dat (.sl I6),.dat (.sl I6),.map I6 .bool,.dat I6]
 |2=>[.own I6,.own I6]
 |3=>[.dat .ptr,.dat .ptr,.own .ptr,.own I6,.dat I6]
 |4=>[.dat I6,.ownO (.u 20),.dat I6,.dat I6]
 |5=>[.dat .ptr]
 |6=>[.dat I6,.own (.u 13),.own .bool,.own I6,.dat I6]
 |7=>[.map (.u 17) I6]
 |8=>[.dat I6]
 |9=>[.dat .bool]
 |10=>[.dat (.int .u8)]
 |11=>[.dat .str]
 |12=>[.dat (.int .u64)]
 |13=>[.dat (.int .i32)]
 |14=>[.own (.u 0)]
 |15=>[.own I6]
 |16=>[.own (.u 1)]
 |17=>[.dat (.sl (.u 0)),.dat (.sl I6),.dat (.sl (.u 1))]
 |18=>[.own (.u 3)]
 |19=>[.dat I6,.dat I6,.dat .str,.dat (.sl (.u 3))]
 |20=>[.dat .ptr]
 |21=>[.dat (.sl (.u 0)),.dat (.sl I6),.dat (.sl I6)]
 |22=>[.dat .bool,.dat I6,.dat I6]
 |23=>[.dat .str,.dat .bool,.dat I6,.dat I6]
 |24=>[.own .bool]
 |25=>[.own (.u 6)]
 |26=>[.own (.u 8)]
 |27=>[.dat (.sl (.u 0)),.dat (.sl (.u 6)),.dat (.sl (.u 3)),.dat (.sl (.u 3)),.dat (.sl (.u 6)),.dat (.sl (.u 3)),.dat (.sl (.u 3)),.dat (.sl (.u 8))]
 |28=>[.own (.sl I6)]
 |29=>[.own (.u 10)]
 |30=>[.dat I6,.dat I6]
 |31=>[.dat I6,.dat I6,.dat I6]
 |32=>[.map I6 I6]
 |33=>[.own .str]
 |34=>[.map I6 .bool]
 |35=>[.dat .mref]
 |36=>[.own (.u 11)]
 |37=>[.dat I6,.dat .bool]
 |38=>[.map .str I6]
 |39=>[.own (.u 5)]
 |40=>[.dat I6,.dat I6]
 |41=>[.own .ptr]
 |42=>[.own (.u 20)]
 |43=>[.dat I6,.dat I6,.dat I6,.dat I6,.dat I6]
 |44=>[.dat .ptr]
 |45=>[.dat I6,.dat .bool,.dat I6,.dat I6,.dat I6]
 |46=>[.own (.u 13)]
 |47=>[.map (.u 17) I6]
 |48=>[.own (.u 16)]
 |49=>[.dat I6,.dat I6,.dat I6,.dat I6,.dat I6,.dat I6,.dat I6,.dat I6,.dat I6]
 |50=>[.dat (.int .u32)]
 |51=>[.dat I6,.dat I6]
 |52=>[.dat I6,.dat I6,.dat I6]
 |53=>[.dat I6,.dat I6,.dat I6,.dat I6]
 |54=>[.dat I6,.dat I6,.dat I6,.dat I6,.dat I6,.dat .bool]
 |55=>[.map (.u 17) .bool]
 |56=>[.own (.u 17)]
 |57=>[.dat .str,.dat I6,.dat I6,.dat .str,.dat (.sl (.u 3))]
 |58=>[.own (.u 7)]
 |59=>[.dat I6,.dat I6,.dat I6,.dat .str,.dat (.sl (.u 3)),.dat (.sl (.u 7))]
 |60=>[.dat .str,.dat I6,.dat I6,.dat I6,.dat .str,.dat (.sl (.u 3)),.dat (.sl (.u 7))]
 |_=>[]
def oCl:(n:Nat)->oD n->List (OL uD)
 |0,x=>[.dat ⟨.ptr,x.store⟩,.dat ⟨.ptr,x.T3⟩,.map I6 I6 x.BF,.dat ⟨I6,x.EK⟩,.own (.u 1) x.waits,.dat ⟨I6,x.calls⟩]
 |1,x=>[.dat ⟨.ptr,x.m⟩,.dat ⟨(.sl (.u 0)),x.l.Aa⟩,.dat ⟨(.sl I6),x.l.Bits⟩,.dat ⟨(.sl I6),x.l.At⟩,.map I6 .bool x.live,.dat ⟨I6,x.e⟩]
 |2,x=>[.own I6 x.vars,.own I6 x.level]
 |3,x=>[.dat ⟨.ptr,x.levels⟩,.dat ⟨.ptr,x.Gx⟩,.own .ptr x.tables,.own I6 x.counts,.dat ⟨I6,x.dead⟩]
 |4,x=>[.dat ⟨I6,x.size⟩,.ownO (.u 20) x.entries,.dat ⟨I6,x.asked⟩,.dat ⟨I6,x.found⟩]
 |5,x=>[.dat ⟨.ptr,x.m⟩]
 |6,x=>[.dat ⟨I6,x.room⟩,.own (.u 13) x.at_,.own .bool x.taken,.own I6 x.free,.dat ⟨I6,x.many⟩]
 |7,x=>[.map (.u 17) I6 x.ids]
 |8,x=>[.dat ⟨I6,x⟩]
 |9,x=>[.dat ⟨.bool,x⟩]
 |10,x=>[.dat ⟨(.int .u8),x⟩]
 |11,x=>[.dat ⟨.str,x⟩]
 |12,x=>[.dat ⟨(.int .u64),x⟩]
 |13,x=>[.dat ⟨(.int .i32),x⟩]
 |14,x=>[.own (.u 0) x]
 |15,x=>[.own I6 x]
 |16,x=>[.own (.u 1) x]
 |17,x=>[.dat ⟨(.sl (.u 0)),x.Aa⟩,.dat ⟨(.sl I6),x.Order⟩,.dat ⟨(.sl (.u 1)),x.MH⟩]
 |18,x=>[.own (.u 3) x]
 |19,x=>[.dat ⟨I6,x.Op⟩,.dat ⟨I6,x.N⟩,.dat ⟨.str,x.qJ⟩,.dat ⟨(.sl (.u 3)),x.qZ⟩]
 |20,x=>[.dat ⟨.ptr,x⟩]
 |21,x=>[.dat ⟨(.sl (.u 0)),x.Aa⟩,.dat ⟨(.sl I6),x.Bits⟩,.dat ⟨(.sl I6),x.At⟩]
 |22,x=>[.dat ⟨.bool,x.Bool⟩,.dat ⟨I6,x.Lo⟩,.dat ⟨I6,x.Hi⟩]
 |23,x=>[.dat ⟨.str,x.qJ⟩,.dat ⟨.bool,x.Bool⟩,.dat ⟨I6,x.Lo⟩,.dat ⟨I6,x.Hi⟩]
 |24,x=>[.own .bool x]
 |25,x=>[.own (.u 6) x]
 |26,x=>[.own (.u 8) x]
 |27,x=>[.dat ⟨(.sl (.u 0)),x.Aa⟩,.dat ⟨(.sl (.u 6)),x.Defs⟩,.dat ⟨(.sl (.u 3)),x.Init⟩,.dat ⟨(.sl (.u 3)),x.Ar8⟩,.dat ⟨(.sl (.u 6)),x.Next⟩,.dat ⟨(.sl (.u 3)),x.Trans⟩,.dat ⟨(.sl (.u 3)),x.Fair⟩,.dat ⟨(.sl (.u 8)),x.Arz⟩]
 |28,x=>[.own (.sl I6) x]
 |29,x=>[.own (.u 10) x]
 |30,x=>[.dat ⟨I6,x.N⟩,.dat ⟨I6,x.H⟩]
 |31,x=>[.dat ⟨I6,x.IB⟩,.dat ⟨I6,x.Kind⟩,.dat ⟨I6,x.Level⟩]
 |32,x=>[.map I6 I6 x]
 |33,x=>[.own .str x]
 |34,x=>[.map I6 .bool x]
 |35,x=>[.dat ⟨.mref,x⟩]
 |36,x=>[.own (.u 11) x]
 |37,x=>[.dat ⟨I6,x.Var⟩,.dat ⟨.bool,x.YP⟩]
 |38,x=>[.map .str I6 x]
 |39,x=>[.own (.u 5) x]
 |40,x=>[.dat ⟨I6,x.a0⟩,.dat ⟨I6,x.a1⟩]
 |41,x=>[.own .ptr x]
 |42,x=>[.own (.u 20) x]
 |43,x=>[.dat ⟨I6,x.ID⟩,.dat ⟨I6,x.Var⟩,.dat ⟨I6,x.Lo⟩,.dat ⟨I6,x.Hi⟩,.dat ⟨I6,x.Refs⟩]
 |44,x=>[.dat ⟨.ptr,x.m⟩]
 |45,x=>[.dat ⟨I6,x.err⟩,.dat ⟨.bool,x.event⟩,.dat ⟨I6,x.ev.IB⟩,.dat ⟨I6,x.ev.Kind⟩,.dat ⟨I6,x.ev.Level⟩]
 |46,x=>[.own (.u 13) x]
 |47,x=>[.map (.u 17) I6 x]
 |48,x=>[.own (.u 16) x]
 |49,x=>[.dat ⟨I6,x.n.ID⟩,.dat ⟨I6,x.n.Var⟩,.dat ⟨I6,x.n.Lo⟩,.dat ⟨I6,x.n.Hi⟩,.dat ⟨I6,x.n.Refs⟩,.dat ⟨I6,x.ll⟩,.dat ⟨I6,x.lh⟩,.dat ⟨I6,x.hl⟩,.dat ⟨I6,x.hh⟩]
 |50,x=>[.dat ⟨(.int .u32),x⟩]
 |51,x=>[.dat ⟨I6,x.a0⟩,.dat ⟨I6,x.a1⟩]
 |52,x=>[.dat ⟨I6,x.a0⟩,.dat ⟨I6,x.a1⟩,.dat ⟨I6,x.a2⟩]
 |53,x=>[.dat ⟨I6,x.op⟩,.dat ⟨I6,x.Gb.a0⟩,.dat ⟨I6,x.Gb.a1⟩,.dat ⟨I6,x.Gb.a2⟩]
 |54,x=>[.dat ⟨I6,x.key.op⟩,.dat ⟨I6,x.key.Gb.a0⟩,.dat ⟨I6,x.key.Gb.a1⟩,.dat ⟨I6,x.key.Gb.a2⟩,.dat ⟨I6,x.r⟩,.dat ⟨.bool,x.full⟩]
 |55,x=>[.map (.u 17) .bool x]
 |56,x=>[.own (.u 17) x]
 |57,x=>[.dat ⟨.str,x.qJ⟩,.dat ⟨I6,x.E.Op⟩,.dat ⟨I6,x.E.N⟩,.dat ⟨.str,x.E.qJ⟩,.dat ⟨(.sl (.u 3)),x.E.qZ⟩]
 |58,x=>[.own (.u 7) x]
 |59,x=>[.dat ⟨I6,x.Op⟩,.dat ⟨I6,x.E.Op⟩,.dat ⟨I6,x.E.N⟩,.dat ⟨.str,x.E.qJ⟩,.dat ⟨(.sl (.u 3)),x.E.qZ⟩,.dat ⟨(.sl (.u 7)),x.qZ⟩]
 |60,x=>[.dat ⟨.str,x.qJ⟩,.dat ⟨I6,x.F.Op⟩,.dat ⟨I6,x.F.E.Op⟩,.dat ⟨I6,x.F.E.N⟩,.dat ⟨.str,x.F.E.qJ⟩,.dat ⟨(.sl (.u 3)),x.F.E.qZ⟩,.dat ⟨(.sl (.u 7)),x.F.qZ⟩]
 |_+61,_=>[]
def oUn:(n:Nat)->List (OL uD)->Option (oD n)
 |0,l=>Dh .ptr l λa l=>Dh .ptr l λb l=>tkM I6 I6 l λc l=>Dh I6 l λd l=>Ul (.u 1) l λe l=>Dh I6 l λf l=>IS l (ν ⟨a,b,c,d,e,f⟩)
 |1,l=>Dh .ptr l λa l=>Dh (.sl (.u 0)) l λb l=>Dh (.sl I6) l λc l=>Dh (.sl I6) l λd l=>tkM I6 .bool l λe l=>Dh I6 l λf l=>IS l (ν ⟨a,⟨b,c,d⟩,e,f⟩)
 |2,l=>Ul I6 l λa l=>Ul I6 l λb l=>IS l (ν ⟨a,b⟩)
 |3,l=>Dh .ptr l λa l=>Dh .ptr l λb l=>Ul .ptr l λc l=>Ul I6 l λd l=>Dh I6 l λe l=>IS l (ν ⟨a,b,c,d,e⟩)
 |4,l=>Dh I6 l λa l=>tkN (.u 20) l λb l=>Dh I6 l λc l=>Dh I6 l λd l=>IS l (ν ⟨a,b,c,d⟩)
 |5,l=>Dh .ptr l λa l=>IS l (ν ⟨a⟩)
 |6,l=>Dh I6 l λa l=>Ul (.u 13) l λb l=>Ul .bool l λc l=>Ul I6 l λd l=>Dh I6 l λe l=>IS l (ν ⟨a,b,c,d,e⟩)
 |7,l=>tkM (.u 17) I6 l λa l=>IS l (ν ⟨a⟩)
 |8,l=>Dh I6 l λa l=>IS l (ν a)
 |9,l=>Dh .bool l λa l=>IS l (ν a)
 |10,l=>Dh (.int .u8) l λa l=>IS l (ν a)
 |11,l=>Dh .str l λa l=>IS l (ν a)
 |12,l=>Dh (.int .u64) l λa l=>IS l (ν a)
 |13,l=>Dh (.int .i32) l λa l=>IS l (ν a)
 |14,l=>Ul (.u 0) l λa l=>IS l (ν a)
 |15,l=>Ul I6 l λa l=>IS l (ν a)
 |16,l=>Ul (.u 1) l λa l=>IS l (ν a)
 |17,l=>Dh (.sl (.u 0)) l λa l=>Dh (.sl I6) l λb l=>Dh (.sl (.u 1)) l λc l=>IS l (ν ⟨a,b,c⟩)
 |18,l=>Ul (.u 3) l λa l=>IS l (ν a)
 |19,l=>Dh I6 l λa l=>Dh I6 l λb l=>Dh .str l λc l=>Dh (.sl (.u 3)) l λd l=>IS l (ν ⟨a,b,c,d⟩)
 |20,l=>Dh .ptr l λa l=>IS l (ν a)
 |21,l=>Dh (.sl (.u 0)) l λa l=>Dh (.sl I6) l λb l=>Dh (.sl I6) l λc l=>IS l (ν ⟨a,b,c⟩)
 |22,l=>Dh .bool l λa l=>Dh I6 l λb l=>Dh I6 l λc l=>IS l (ν ⟨a,b,c⟩)
 |23,l=>Dh .str l λa l=>Dh .bool l λb l=>Dh I6 l λc l=>Dh I6 l λd l=>IS l (ν ⟨a,b,c,d⟩)
 |24,l=>Ul .bool l λa l=>IS l (ν a)
 |25,l=>Ul (.u 6) l λa l=>IS l (ν a)
 |26,l=>Ul (.u 8) l λa l=>IS l (ν a)
 |27,l=>Dh (.sl (.u 0)) l λa l=>Dh (.sl (.u 6)) l λb l=>Dh (.sl (.u 3)) l λc l=>Dh (.sl (.u 3)) l λd l=>Dh (.sl (.u 6)) l λe l=>Dh (.sl (.u 3)) l λf l=>Dh (.sl (.u 3)) l λg l=>Dh (.sl (.u 8)) l λi l=>IS l (ν ⟨a,b,c,d,e,f,g,i⟩)
 |28,l=>Ul (.sl I6) l λa l=>IS l (ν a)
 |29,l=>Ul (.u 10) l λa l=>IS l (ν a)
 |30,l=>Dh I6 l λa l=>Dh I6 l λb l=>IS l (ν ⟨a,b⟩)
 |31,l=>Dh I6 l λa l=>Dh I6 l λb l=>Dh I6 l λc l=>IS l (ν ⟨a,b,c⟩)
 |32,l=>tkM I6 I6 l λa l=>IS l (ν a)
 |33,l=>Ul .str l λa l=>IS l (ν a)
 |34,l=>tkM I6 .bool l λa l=>IS l (ν a)
 |35,l=>Dh .mref l λa l=>IS l (ν a)
 |36,l=>Ul (.u 11) l λa l=>IS l (ν a)
 |37,l=>Dh I6 l λa l=>Dh .bool l λb l=>IS l (ν ⟨a,b⟩)
 |38,l=>tkM .str I6 l λa l=>IS l (ν a)
 |39,l=>Ul (.u 5) l λa l=>IS l (ν a)
 |40,l=>Dh I6 l λa l=>Dh I6 l λb l=>IS l (ν ⟨a,b⟩)
 |41,l=>Ul .ptr l λa l=>IS l (ν a)
 |42,l=>Ul (.u 20) l λa l=>IS l (ν a)
 |43,l=>Dh I6 l λa l=>Dh I6 l λb l=>Dh I6 l λc l=>Dh I6 l λd l=>Dh I6 l λe l=>IS l (ν ⟨a,b,c,d,e⟩)
 |44,l=>Dh .ptr l λa l=>IS l (ν ⟨a⟩)
 |45,l=>Dh I6 l λa l=>Dh .bool l λb l=>Dh I6 l λc l=>Dh I6 l λd l=>Dh I6 l λe l=>IS l (ν ⟨a,b,⟨c,d,e⟩⟩)
 |46,l=>Ul (.u 13) l λa l=>IS l (ν a)
 |47,l=>tkM (.u 17) I6 l λa l=>IS l (ν a)
 |48,l=>Ul (.u 16) l λa l=>IS l (ν a)
 |49,l=>Dh I6 l λa l=>Dh I6 l λb l=>Dh I6 l λc l=>Dh I6 l λd l=>Dh I6 l λe l=>Dh I6 l λf l=>Dh I6 l λg l=>Dh I6 l λi l=>Dh I6 l λj l=>IS l (ν ⟨⟨a,b,c,d,e⟩,f,g,i,j⟩)
 |50,l=>Dh (.int .u32) l λa l=>IS l (ν a)
 |51,l=>Dh I6 l λa l=>Dh I6 l λb l=>IS l (ν ⟨a,b⟩)
 |52,l=>Dh I6 l λa l=>Dh I6 l λb l=>Dh I6 l λc l=>IS l (ν ⟨a,b,c⟩)
 |53,l=>Dh I6 l λa l=>Dh I6 l λb l=>Dh I6 l λc l=>Dh I6 l λd l=>IS l (ν ⟨a,⟨b,c,d⟩⟩)
 |54,l=>Dh I6 l λa l=>Dh I6 l λb l=>Dh I6 l λc l=>Dh I6 l λd l=>Dh I6 l λe l=>Dh .bool l λf l=>IS l (ν ⟨⟨a,⟨b,c,d⟩⟩,e,f⟩)
 |55,l=>tkM (.u 17) .bool l λa l=>IS l (ν a)
 |56,l=>Ul (.u 17) l λa l=>IS l (ν a)
 |57,l=>Dh .str l λa l=>Dh I6 l λb l=>Dh I6 l λc l=>Dh .str l λd l=>Dh (.sl (.u 3)) l λe l=>IS l (ν ⟨a,⟨b,c,d,e⟩⟩)
 |58,l=>Ul (.u 7) l λa l=>IS l (ν a)
 |59,l=>Dh I6 l λa l=>Dh I6 l λb l=>Dh I6 l λc l=>Dh .str l λd l=>Dh (.sl (.u 3)) l λe l=>Dh (.sl (.u 7)) l λf l=>IS l (ν ⟨a,⟨b,c,d,e⟩,f⟩)
 |60,l=>Dh .str l λa l=>Dh I6 l λb l=>Dh I6 l λc l=>Dh I6 l λd l=>Dh .str l λe l=>Dh (.sl (.u 3)) l λf l=>Dh (.sl (.u 7)) l λg l=>IS l (ν ⟨a,⟨b,⟨c,d,e,f⟩,g⟩⟩)
 |_+61,l0=>IS l0 (ν ())
theorem A3g:∀n l x,oUn n l=ν x->oCl n x=l
 |0,l0,x,h0|1,l0,x,h0|2,l0,x,h0|3,l0,x,h0|4,l0,x,h0|5,l0,x,h0|6,l0,x,h0|7,l0,x,h0|8,l0,x,h0|9,l0,x,h0|10,l0,x,h0|11,l0,x,h0|12,l0,x,h0|13,l0,x,h0|14,l0,x,h0|15,l0,x,h0|16,l0,x,h0|17,l0,x,h0|18,l0,x,h0|19,l0,x,h0|20,l0,x,h0|21,l0,x,h0|22,l0,x,h0|23,l0,x,h0|24,l0,x,h0|25,l0,x,h0|26,l0,x,h0|27,l0,x,h0|28,l0,x,h0|29,l0,x,h0|30,l0,x,h0|31,l0,x,h0|32,l0,x,h0|33,l0,x,h0|34,l0,x,h0|35,l0,x,h0|36,l0,x,h0|37,l0,x,h0|38,l0,x,h0|39,l0,x,h0|40,l0,x,h0|41,l0,x,h0|42,l0,x,h0|43,l0,x,h0|44,l0,x,h0|45,l0,x,h0|46,l0,x,h0|47,l0,x,h0|48,l0,x,h0|49,l0,x,h0|50,l0,x,h0|51,l0,x,h0|52,l0,x,h0|53,l0,x,h0|54,l0,x,h0|55,l0,x,h0|56,l0,x,h0|57,l0,x,h0|58,l0,x,h0|59,l0,x,h0|60,l0,x,h0=>by simp only[oUn]at h0;(repeat first|(obtain⟨_,_,e,h1⟩:=Ax0 h0;clear h0;subst e;have h0:=h1;clear h1)|(obtain⟨_,_,e,h1⟩:=Axx h0;clear h0;subst e;have h0:=h1;clear h1)|(obtain⟨_,_,e,h1⟩:=Axz h0;clear h0;subst e;have h0:=h1;clear h1)|(obtain⟨_,_,e,h1⟩:=Axy h0;clear h0;subst e;have h0:=h1;clear h1));obtain⟨e,h⟩:=Apg h0;subst e;cases h;rfl
 |_+61,l0,x,h0=>by obtain⟨e,h⟩:=Apg h0;subst e;rfl
abbrev O1:Option Nat:=δ
abbrev O2:Option Ty:=δ
def okL:List (Option Nat):=[O1,O1,ν 8,ν 8,ν 9,ν 10,O1,O1,O1,ν 11,O1,O1,ν 12,O1,O1,O1,O1,O1,O1,O1,O1,ν 13,ν 14,ν 15,ν 16,ν 17,ν 17,ν 18,ν 19,ν 19,O1,O1,O1,ν 20,ν 21,ν 21,O1,O1,ν 8,O1,O1,ν 22,ν 22,O1,O1,O1,O1,O1,O1,O1,O1,O1,ν 23,ν 23,ν 24,O1,O1,O1,O1,O1,O1,ν 25,ν 26,ν 27,ν 27,O1,O1,O1,O1,ν 28,O1,O1,O1,O1,ν 29,O1,O1,ν 30,ν 30,O1,O1,O1,O1,O1,O1,O1,ν 31,ν 31,O1,O1,O1,O1,ν 20,O1,O1,O1,O1,O1,O1,ν 20,ν 20,ν 32,ν 0,ν 0,O1,ν 33,O1,O1,O1,O1,O1,O1,O1,O1,ν 34,ν 1,ν 1,O1,O1,O1,O1,O1,ν 35,O1,O1,O1,O1,O1,O1,O1,O1,O1,O1,O1,ν 36,ν 37,ν 37,O1,O1,O1,ν 8,O1,O1,O1,O1,O1,O1,O1,O1,O1,O1,O1,O1,O1,O1,ν 38,O1,O1,O1,O1,O1,O1,O1,O1,O1,ν 39,O1,O1,O1,O1,O1,O1,ν 20,O1,O1,O1,O1,O1,ν 40,O1,O1,O1,O1,ν 12,O1,O1,O1,O1,O1,O1,O1,O1,ν 20,O1,O1,ν 20,ν 2,ν 2,ν 41,ν 3,ν 3,ν 20,O1,ν 42,ν 4,ν 4,O1,O1,O1,O1,O1,O1,O1,O1,O1,O1,O1,O1,O1,O1,O1,O1,ν 43,ν 43,O1,O1,O1,O1,ν 44,ν 44,ν 45,ν 45,O1,O1,O1,O1,O1,ν 12,O1,O1,O1,O1,O1,O1,O1,ν 46,ν 6,ν 6,ν 47,ν 7,ν 7,O1,O1,O1,ν 48,O1,O1,O1,ν 49,ν 49,O1,O1,O1,O1,O1,O1,O1,O1,O1,O1,O1,O1,O1,O1,O1,O1,O1,O1,ν 8,O1,O1,O1,O1,O1,O1,ν 50,O1,O1,ν 51,ν 52,ν 53,ν 53,ν 20,O1,ν 54,ν 54,ν 15,O1,O1,O1,O1,O1,O1,O1,ν 55,ν 56,O1,O1,O1,O1,ν 12,O1,O1,O1,ν 20,O1,O1,O1,O1,O1,O1,O1,O1,O1,O1,ν 20,O1,O1,O1,O1,O1,O1,O1,O1,O1,O1,O1,O1,O1,O1,O1,O1,O1,O1,O1,O1,ν 20,O1,O1,O1,O1,ν 57,ν 57,ν 58,ν 59,ν 59,ν 60,ν 60,O1]
def tyL:List (Option Ty):=[O2,O2,ν (.int .i64),ν (.int .i64),ν .bool,ν (.int .u8),O2,O2,O2,ν .str,O2,O2,ν (.int .u64),O2,O2,O2,O2,O2,O2,O2,O2,ν (.int .i32),ν (.sl (.u 0)),ν (.sl I6),ν (.sl (.u 1)),ν (.u 2),ν (.u 2),ν (.sl (.u 3)),ν (.u 3),ν (.u 3),O2,O2,O2,ν .ptr,ν (.u 4),ν (.u 4),O2,O2,ν (.int .i64),O2,O2,ν (.u 5),ν (.u 5),O2,O2,O2,O2,O2,O2,O2,O2,O2,ν (.u 0),ν (.u 0),ν (.sl .bool),O2,O2,O2,O2,O2,O2,ν (.sl (.u 6)),ν (.sl (.u 8)),ν (.u 9),ν (.u 9),O2,O2,O2,O2,ν (.sl (.sl I6)),O2,O2,O2,O2,ν (.sl (.u 10)),O2,O2,ν (.u 10),ν (.u 10),O2,O2,O2,O2,O2,O2,O2,ν (.u 1),ν (.u 1),O2,O2,O2,O2,ν .ptr,O2,O2,O2,O2,O2,O2,ν .ptr,ν .ptr,O2,O2,O2,O2,ν (.sl .str),O2,O2,O2,O2,O2,O2,O2,O2,O2,O2,O2,O2,O2,O2,O2,O2,ν .mref,O2,O2,O2,O2,O2,O2,O2,O2,O2,O2,O2,ν (.sl (.u 11)),ν (.u 11),ν (.u 11),O2,O2,O2,ν (.int .i64),O2,O2,O2,O2,O2,O2,O2,O2,O2,O2,O2,O2,O2,O2,O2,O2,O2,O2,O2,O2,O2,O2,O2,O2,ν (.sl (.u 5)),O2,O2,O2,O2,O2,O2,ν .ptr,O2,O2,O2,O2,O2,ν (.u 12),O2,O2,O2,O2,ν (.int .u64),O2,O2,O2,O2,O2,O2,O2,O2,ν .ptr,O2,O2,ν .ptr,O2,O2,ν (.sl .ptr),O2,O2,ν .ptr,O2,ν (.sl (.u 20)),O2,O2,O2,O2,O2,O2,O2,O2,O2,O2,O2,O2,O2,O2,O2,O2,O2,O2,ν (.u 13),ν (.u 13),O2,O2,O2,O2,ν (.u 14),ν (.u 14),ν (.u 15),ν (.u 15),O2,O2,O2,O2,O2,ν (.int .u64),O2,O2,O2,O2,O2,O2,O2,ν (.sl (.u 13)),O2,O2,O2,O2,O2,O2,O2,O2,ν (.sl (.u 16)),O2,O2,O2,ν (.u 16),ν (.u 16),O2,O2,O2,O2,O2,O2,O2,O2,O2,O2,O2,O2,O2,O2,O2,O2,O2,O2,ν (.int .i64),O2,O2,O2,O2,O2,O2,ν (.int .u32),O2,O2,ν (.u 17),ν (.u 18),ν (.u 19),ν (.u 19),ν .ptr,O2,ν (.u 20),ν (.u 20),ν (.sl I6),O2,O2,O2,O2,O2,O2,O2,O2,ν (.sl (.u 17)),O2,O2,O2,O2,ν (.int .u64),O2,O2,O2,ν .ptr,O2,O2,O2,O2,O2,O2,O2,O2,O2,O2,ν .ptr,O2,O2,O2,O2,O2,O2,O2,O2,O2,O2,O2,O2,O2,O2,O2,O2,O2,O2,O2,O2,ν .ptr,O2,O2,O2,O2,ν (.u 6),ν (.u 6),ν (.sl (.u 7)),ν (.u 7),ν (.u 7),ν (.u 8),ν (.u 8),O2]
noncomputable def kmA(t:TypeId):Ty->Bool
 |.u 12|.u 17=>arB Tryz.prog t
 |_=>ψ
theorem A3w(t:TypeId)(k:Ty)(h:(kmI Tryz.prog t k ||kmS Tryz.prog t k ||kmA t k)=τ):@Kq Tryz.prog t (den uS.D k) (RT uS k) (Gz uS Akt k):=by
 rw[an,an]at h;rcases h with (h|h)|h
 .exact Az0 h
 .exact Azz h
 .unfold kmA at h;split at h
  .exact Ai8 (S:=uS) (n:=12) (p:=λx=>x.a0) (q:=λx=>x.a1) (λ_=>rfl) (by intro x y;cases x;cases y;rintro rfl rfl;rfl) h
  .exact Ai8 (S:=uS) (n:=17) (p:=λx=>x.a0) (q:=λx=>x.a1) (λ_=>rfl) (by intro x y;cases x;cases y;rintro rfl rfl;rfl) h
  .cases h
noncomputable def eqA(t:TypeId):Ty->Bool
 |.u 12|.u 17=>arB Tryz.prog t&&!(Tryz.prog.eqGuardType Tryz.prog.depth t)
 | .u 19=>ksB Tryz.prog t
 |_=>ψ
theorem A7q(t:TypeId)(k:Ty)(h:eqA t k=τ):Tryz.prog.eqGuardType Tryz.prog.depth t=ψ/\∀I w v u(x y:den uS.D k),rp uS k I w v x->rp uS k I w u y->∀w',(Op.equal t v u).run Tryz.prog w'=.ok (@decide (x=y) (Gz uS Akt k x y)) w':=by
 unfold eqA at h;split at h
 .refine⟨(Ab9 (w:=default) h (a:=0) (b:=0) (a':=0) (b':=0)).1,λI w v u x y hx hy w'=>?_⟩;obtain⟨cs,rfl,hF⟩:=HO.1 hx;obtain⟨ds,rfl,hG⟩:=HO.1 hy;obtain rfl:cs=[.int .i64 x.a0,.int .i64 x.a1]:=by cases hF with|cons a1 a2=>cases a2 with|cons b1 b2=>cases b2;rw[(AS.1 a1).1,(AS.1 b1).1]
  obtain rfl:ds=[.int .i64 y.a0,.int .i64 y.a1]:=by cases hG with|cons a1 a2=>cases a2 with|cons b1 b2=>cases b2;rw[(AS.1 a1).1,(AS.1 b1).1]
  rw[(Ab9 h).2];refine congrArg (Result.ok · w') (au.2 ?_);rw[@decide_eq_true_iff _ (Gz uS Akt _ x y)];simp only[a7,beq_iff_eq];exact⟨λe=>by cases x;cases y;obtain⟨e1,e2⟩:=e;cases e1;cases e2;rfl,λe=>by cases e;exact⟨rfl,rfl⟩⟩
 .refine⟨(Ab9 (w:=default) h (a:=0) (b:=0) (a':=0) (b':=0)).1,λI w v u x y hx hy w'=>?_⟩;obtain⟨cs,rfl,hF⟩:=HO.1 hx;obtain⟨ds,rfl,hG⟩:=HO.1 hy;obtain rfl:cs=[.int .i64 x.a0,.int .i64 x.a1]:=by cases hF with|cons a1 a2=>cases a2 with|cons b1 b2=>cases b2;rw[(AS.1 a1).1,(AS.1 b1).1]
  obtain rfl:ds=[.int .i64 y.a0,.int .i64 y.a1]:=by cases hG with|cons a1 a2=>cases a2 with|cons b1 b2=>cases b2;rw[(AS.1 a1).1,(AS.1 b1).1]
  rw[(Ab9 h).2];refine congrArg (Result.ok · w') (au.2 ?_);rw[@decide_eq_true_iff _ (Gz uS Akt _ x y)];simp only[a7,beq_iff_eq];exact⟨λe=>by cases x;cases y;obtain⟨e1,e2⟩:=e;cases e1;cases e2;rfl,λe=>by cases e;exact⟨rfl,rfl⟩⟩
 .refine⟨(Ap1 (w:=default) h (o:=0) (a:=0) (b:=0) (c:=0) (o':=0) (a':=0) (b':=0) (c':=0)).1,λI w v u x y hx hy w'=>?_⟩;obtain⟨cs,rfl,hF⟩:=HO.1 hx;obtain⟨ds,rfl,hG⟩:=HO.1 hy;obtain rfl:cs=[.int .i64 x.op,.int .i64 x.Gb.a0,.int .i64 x.Gb.a1,.int .i64 x.Gb.a2]:=by cases hF with|cons a1 a2=>cases a2 with|cons b1 b2=>cases b2 with|cons c1 c2=>cases c2 with|cons d1 d2=>cases d2;rw[(AS.1 a1).1,(AS.1 b1).1,(AS.1 c1).1,(AS.1 d1).1]
  obtain rfl:ds=[.int .i64 y.op,.int .i64 y.Gb.a0,.int .i64 y.Gb.a1,.int .i64 y.Gb.a2]:=by cases hG with|cons a1 a2=>cases a2 with|cons b1 b2=>cases b2 with|cons c1 c2=>cases c2 with|cons d1 d2=>cases d2;rw[(AS.1 a1).1,(AS.1 b1).1,(AS.1 c1).1,(AS.1 d1).1]
  rw[(Ap1 h).2];refine congrArg (Result.ok · w') (au.2 ?_);rw[@decide_eq_true_iff _ (Gz uS Akt _ x y)];simp only[a7,beq_iff_eq];exact⟨λe=>by cases x with|mk o x=>cases y with|mk p y=>cases x;cases y;obtain⟨e1,e2,e3,e4⟩:=e;cases e1;cases e2;cases e3;cases e4;rfl,λe=>by cases e;exact⟨rfl,rfl,rfl,rfl⟩⟩
 .cases h
def Ib:List ByteArray:=[⟨#[65]⟩,⟨#[65,70]⟩,⟨#[65,71]⟩,⟨#[65,88]⟩,⟨#[69]⟩,⟨#[69,70]⟩,⟨#[69,71]⟩,⟨#[69,88]⟩,⟨#[85]⟩,⟨#[98,111,111,108]⟩,⟨#[100,101,102]⟩,⟨#[101,108,115,101]⟩,⟨#[102,97,105,114]⟩,⟨#[102,97,108,115,101]⟩,⟨#[105,102]⟩,⟨#[105,110,105,116]⟩,⟨#[105,110,118,97,114]⟩,⟨#[109,111,100]⟩,⟨#[110,101,120,116]⟩,⟨#[115,112,101,99]⟩,⟨#[116,104,101,110]⟩,⟨#[116,114,97,110,115]⟩,⟨#[116,114,117,101]⟩,⟨#[118,97,114]⟩]
noncomputable def A0j:Nat->Option ((T:Go.Y.Ty)×List (Go.Y.den uS.D T)):=λg=>if g=0 then ν ⟨.str,Ib⟩ else δ
noncomputable def Y0:Go.Y.Sys:={uS with
 P:=Tryz.prog,ty:=λt=>(tyL[t]?).join,deq:=Akt,gls:=A0j,O:=oD,Aot:=A6o,ocl:=oCl,oun:=oUn,Aos:=A3g,ok:=λt=>(okL[t]?).join,km:=λt k=>kmI Tryz.prog t k ||kmS Tryz.prog t k ||kmA t k,Ap3:=A3w,eqs:=eqA,Aw5:=A7q}
noncomputable abbrev qK:=Wp Y0
abbrev UT:=Unit
abbrev qV:=Int×UT
abbrev qU:=Bool×UT
abbrev IK:=Bl .i64
abbrev HY:=HH Y0
abbrev HP:=HH Y0->Prop
abbrev UU:=Unit->HH Y0->Prop
abbrev PX:=Vg Y0
end Go.Proofs.YtcbkbpjlbmalmaaGreatDoor
namespace Go.B
section
abbrev As:=Int->Bool
abbrev Fn:=As->Bool
structure Nd where
 v:Int
 lo:Int
 hi:Int
deriving DecidableEq
abbrev Tb:=Int->Option Nd
def ev(N:Tb):Nat->Int->As->Bool
 |0,_,_=>ψ
 |k+1,e,a=>if e/2=0 then χ (e%2=0) else match N (e/2) with
  |none=>ψ
  |some d=>(χ (e%2=1)) ^^ ev N k (if a d.v=τ then d.hi else d.lo) a
def den(N:Tb)(e:Int):Fn:=ev N 65 e
structure Od(n:Int)(lv:Int->Int):Prop where
 n64:n<=64
 N7:∀v,0<=v->v<n->0<=lv v/\lv v<n
 inj:∀v w,0<=v->v<n->0<=w->w<n->lv v=lv w->v=w
def el(n:Int)(lv:Int->Int)(N:Tb)(e:Int):Int:=if e/2=0 then n else match N (e/2) with
 |none=>n
 |some d=>lv d.v
def Ok(N:Tb)(e:Int):Prop:=0<=e/\(e/2=0∨∃d,N (e/2)=ν d)
structure Good(n:Int)(lv:Int->Int)(N:Tb):Prop where
 od:Od n lv
 var:∀{i d},N i=ν d->0<i/\0<=d.v/\d.v<n
 lo:∀{i d},N i=ν d->Ok N d.lo/\lv d.v<el n lv N d.lo
 hi:∀{i d},N i=ν d->Ok N d.hi/\lv d.v<el n lv N d.hi
 ne:∀{i d},N i=ν d->d.lo≠d.hi
 reg:∀{i d},N i=ν d->d.hi%2=0
 YZ:∀{i j d},N i=ν d->N j=ν d->i=j
section
variable {n:Int} {lv:Int->Int} {N:Tb}
variable {e:Int}
theorem Cs(h:e/2=0):el n lv N e=n:=by unfold el;rw[UV h]
variable {d:Nd}
theorem Bn(h:e/2≠0)(a:N (e/2)=ν d):el n lv N e=lv d.v:=by unfold el;rw[GT h,a]
theorem Good.XH(g:Good n lv N)(h:Ok N e)(c:0<=n):0<=el n lv N e/\el n lv N e<=n:=by
 rcases h.2 with a|⟨d,b⟩
 .grind[Cs]
 .by_cases a:e/2=0
  .grind[Cs]
  .rw[Bn a b];have:=g.var b;have:=g.od.N7 d.v this.2.1 this.2.2;omega
variable {k:Nat} {a:As}
theorem La(h:e/2=0):ev N (k+1) e a=χ (e%2=0):=by simp only[ev];rw[UV h]
theorem MX(h:e/2≠0)(b:N (e/2)=ν d):ev N (k+1) e a=((χ (e%2=1)) ^^ ev N k (if a d.v=τ then d.hi else d.lo) a):=by simp only[ev];rw[GT h,b]
variable {M:Tb}
theorem Good.XE(g:Good n lv N)(l:∀i d,N i=ν d->M i=ν d):∀(k m:Nat)(e:Int)(a:As),Ok N e->n-el n lv N e<k->n-el n lv N e<m->ev M m e a=ev N k e a
 |0,m,e,a,h,j,f=>by
  exfalso;rcases h.2 with b|⟨d,c⟩
  .grind[Cs]
  .by_cases b:e/2=0
   .grind[Cs]
   .rw[Bn b c]at j;have:=g.var c;have:=g.od.N7 d.v this.2.1 this.2.2;omega
 |k+1,0,e,a,h,j,f=>by
  exfalso;rcases h.2 with b|⟨d,c⟩
  .grind[Cs]
  .by_cases b:e/2=0
   .grind[Cs]
   .rw[Bn b c]at f;have:=g.var c;have:=g.od.N7 d.v this.2.1 this.2.2;omega
 |k+1,m+1,e,a,h,j,f=>by
  by_cases b:e/2=0
  .rw[La b,La b]
  .obtain⟨d,c⟩:=h.2.resolve_left b;rw[MX b c,MX b (l _ _ c)];rw[Bn b c]at j f;congr 1;obtain⟨p,r⟩:=g.lo c;obtain⟨o,q⟩:=g.hi c;split
   .exact g.XE l k m _ a o (by omega) (by omega)
   .exact g.XE l k m _ a p (by omega) (by omega)
theorem Good.fuel(g:Good n lv N)(a:0<=n)(h:Ok N e):n-el n lv N e<65:=by have:=g.XH h a;have:=g.od.n64;omega
theorem Good.Aj0(g:Good n lv N)(b:0<=n)(c:∀i d,N i=ν d->M i=ν d)(h:Ok N e):den M e=den N e:=by funext a;exact g.XE c 65 65 e a h (g.fuel b h) (g.fuel b h)
theorem Ok.ext(b:∀i d,N i=ν d->M i=ν d)(h:Ok N e):Ok M e:=⟨h.1,h.2.imp id λ⟨d,a⟩=>⟨d,b _ _ a⟩⟩
theorem Qa(c:∀i d,N i=ν d->M i=ν d)(h:Ok N e):el n lv M e=el n lv N e:=by
 by_cases a:e/2=0
 .rw[Cs a,Cs a]
 .obtain⟨d,b⟩:=h.2.resolve_left a;rw[Bn a b,Bn a (c _ _ b)]
theorem NL(h:e/2=0):den N e=λ_=>χ (e%2=0):=by funext a;exact La h
theorem JB:den N 0=λ_=>τ:=by rw[NL (by decide)];rfl
theorem Fw:den N 1=λ_=>ψ:=by rw[NL (by decide)];rfl
theorem Good.JC(g:Good n lv N)(m:0<=n)(i:e/2≠0)(b:N (e/2)=ν d)(a:As):den N e a=((χ (e%2=1)) ^^ (if a d.v=τ then den N d.hi a else den N d.lo a)):=by
 have j:=g.lo b;have l:=g.hi b;have c:=g.var b;have o:=g.od.N7 d.v c.2.1 c.2.2;have f:=g.od.n64;unfold den;rw[MX (k:=64) i b];congr 1;split
 .exact(g.XE (λ_ _ h=>h) 65 64 _ a l.1 (by omega) (by omega))
 .exact(g.XE (λ_ _ h=>h) 65 64 _ a j.1 (by omega) (by omega))
def flip(e:Int):Int:=if e%2=0 then e+1 else e-1
theorem Mq:flip e/2=e/2:=by unfold flip;split<;>omega
theorem TI:flip e%2=1-e%2:=by unfold flip;split<;>omega
theorem flip_flip:flip (flip e)=e:=by unfold flip;split<;>split<;>omega
theorem Aep(h:0<=e):0<=flip e:=by unfold flip;split<;>omega
theorem Ok.flip(h:Ok N e):Ok N (flip e):=⟨Aep h.1,by rw[Mq];exact h.2⟩
theorem Au4:el n lv N (flip e)=el n lv N e:=by unfold el;rw[Mq]
theorem Au1(h:Ok N e):ev N (k+1) (flip e) a=!(ev N (k+1) e a):=by
 by_cases b:e/2=0
 .rw[La b,La (by grind[Mq]),TI];rcases ai e with c|c<;>simp [c]
 .obtain⟨d,f⟩:=h.2.resolve_left b;rw[MX b f,MX (by grind[Mq]) (by rw[Mq];exact f),TI];rcases ai e with c|c<;>simp [c]
theorem IA(h:Ok N e):den N (flip e)=λa=>!(den N e a):=by funext a;exact Au1 h
theorem Good.Ahc(g:Good n lv N):∀(k:Nat)(e:Int)(a b:As),Ok N e->(∀v,0<=v->v<n->el n lv N e<=lv v->a v=b v)->ev N k e a=ev N k e b
 |0,_,_,_,_,_=>rfl
 |k+1,e,a,b,h,c=>by
  by_cases f:e/2=0
  .rw[La f,La f]
  .obtain⟨d,i⟩:=h.2.resolve_left f;rw[MX f i,MX f i];rw[Bn f i]at c;have m:=g.var i;obtain⟨q,s⟩:=g.lo i;obtain⟨p,r⟩:=g.hi i;rw[<-c d.v m.2.1 m.2.2 (aw _)];congr 1;split
   .exact g.Ahc k _ a b p λv l j o=>c v l j (by omega)
   .exact g.Ahc k _ a b q λv l j o=>c v l j (by omega)
theorem Good.TU(g:Good n lv N){b:As}(h:Ok N e)(c:∀v,0<=v->v<n->el n lv N e<=lv v->a v=b v):den N e a=den N e b:=g.Ahc 65 e a b h c
def Ac5(a:As)(v:Int)(b:Bool):As:=λw=>if w=v then b else a w
variable {v:Int} {b:Bool}
theorem QA:Ac5 a v b v=b:=UV rfl
theorem Ata{w:Int}(h:w≠v):Ac5 a v b w=a w:=GT h
theorem Good.QW(g:Good n lv N)(h:Ok N e)(_:0<=v)(_:v<n)(f:lv v<el n lv N e):den N e (Ac5 a v b)=den N e a:=by refine g.TU h λw k j i=>Ata ?_;grind
theorem Good.Aqu(g:Good n lv N):∀(k:Nat)(e:Int),Ok N e->n-el n lv N e<k->ev N k e (λ_=>τ)=χ (e%2=0)
 |0,e,h,c=>by
  exfalso;rcases h.2 with a|⟨d,b⟩
  .grind[Cs]
  .by_cases a:e/2=0
   .grind[Cs]
   .rw[Bn a b]at c;have:=g.var b;have:=g.od.N7 d.v this.2.1 this.2.2;omega
 |k+1,e,h,c=>by
  by_cases a:e/2=0
  .rw[La a]
  .obtain⟨d,b⟩:=h.2.resolve_left a;rw[MX a b];rw[Bn a b]at c;obtain⟨i,j⟩:=g.hi b;rw[UV rfl,g.Aqu k d.hi i (by omega),g.reg b];rcases ai e with f|f<;>simp [f]
theorem Good.Wl(g:Good n lv N)(a:0<=n)(h:Ok N e):den N e (λ_=>τ)=χ (e%2=0):=g.Aqu 65 e h (g.fuel a h)
variable {f:Int}
theorem Good.sign(g:Good n lv N)(c:0<=n)(i:Ok N e)(j:Ok N f)(h:den N e=den N f):e%2=f%2:=by have a:=g.Wl c i;have k:=g.Wl c j;rw[h,k]at a;rcases ai e with b|b<;>rcases ai f with d|d<;>simp [b,d]at a ⊢
theorem Good.cof(g:Good n lv N)(k:0<=n)(i:e/2≠0)(f:N (e/2)=ν d)(b:Bool)(a:As):den N e (Ac5 a d.v b)=((χ (e%2=1)) ^^ den N (if b=τ then d.hi else d.lo) a):=by have c:=g.var f;obtain⟨m,h⟩:=g.lo f;obtain⟨j,l⟩:=g.hi f;rw[g.JC k i f,QA,g.QW j c.2.1 c.2.2 l,g.QW m c.2.1 c.2.2 h];cases b<;>rfl
theorem xor_left_inj{a c:Bool}(h:(a ^^ b)=(a ^^ c)):b=c:=by cases a<;>cases b<;>cases c<;>simp_all
theorem Good.canon(g:Good n lv N)(o:0<=n):∀(k:Nat)(e f:Int),Ok N e->Ok N f->n-el n lv N e<k->n-el n lv N f<k->den N e=den N f->e=f
 |0,e,f,r,_,P,_,_=>by have:=g.XH r o;omega
 |k+1,e,f,r,s,p,x,h=>by
  have I:=g.sign o r s h;have v:∀{e f:Int},Ok N e->Ok N f->n-el n lv N e<k+1->den N e=den N f->el n lv N e<el n lv N f->False:=by
   intro e f r s p h t;have l:e/2≠0:=λl=>by rw[Cs l]at t;have:=g.XH s o;omega
   obtain⟨d,c⟩:=r.2.resolve_left l;have m:=g.var c;rw[Bn l c]at t p;obtain⟨E,H⟩:=g.lo c;obtain⟨z,O⟩:=g.hi c;refine g.ne c (g.canon o k d.lo d.hi E z (by omega) (by omega) ?_);funext a;have i:=g.cof o l c ψ a;have y:=g.cof o l c τ a;rw[h,g.QW s m.2.1 m.2.2 t]at i y;grind
  have q:el n lv N e=el n lv N f:=by grind
  by_cases l:e/2=0
  .by_cases i:f/2=0
   .omega
   .obtain⟨d,c⟩:=s.2.resolve_left i;rw[Cs l,Bn i c]at q;have m:=g.var c;have:=g.od.N7 d.v m.2.1 m.2.2;omega
  .obtain⟨d,c⟩:=r.2.resolve_left l;by_cases i:f/2=0
   .rw[Cs i,Bn l c]at q;have m:=g.var c;have:=g.od.N7 d.v m.2.1 m.2.2;omega
   .obtain⟨u,j⟩:=s.2.resolve_left i;rw[Bn l c,Bn i j]at q;rw[Bn l c]at p;rw[Bn i j]at x;have m:=g.var c;have w:=g.var j;have A:=g.od.inj _ _ m.2.1 m.2.2 w.2.1 w.2.2 q;obtain⟨E,H⟩:=g.lo c;obtain⟨z,O⟩:=g.hi c;obtain⟨B,L⟩:=g.lo j;obtain⟨D,K⟩:=g.hi j;have F:∀b:Bool,den N (if b=τ then d.hi else d.lo)=den N (if b=τ then u.hi else u.lo):=λb=>by funext a;have y:=g.cof o l c b a;have G:=g.cof o i j b a;simp_all
    have M:d.lo=u.lo:=g.canon o k _ _ E B (by omega) (by omega) (F ψ);have J:d.hi=u.hi:=g.canon o k _ _ z D (by omega) (by omega) (F τ);have C:d=u:=by cases d;simp_all
    subst C;have:=g.YZ c j;omega
theorem Good.eq(g:Good n lv N)(a:0<=n)(c:Ok N e)(b:Ok N f)(h:den N e=den N f):e=f:=g.canon a 65 e f c b (g.fuel a c) (g.fuel a b) h
theorem Good.eq_iff(g:Good n lv N)(a:0<=n)(c:Ok N e)(b:Ok N f):e=f↔den N e=den N f:=⟨λh=>by rw[h],g.eq a c b⟩
theorem Tp:Ok N 0:=⟨by omega,.inl (by decide)⟩
theorem ok_one:Ok N 1:=⟨by omega,.inl (by decide)⟩
def Ko(N:Tb)(i:Int)(d:Nd):Tb:=λj=>if j=i then ν d else N j
variable {i:Int}
theorem Vf:Ko N i d i=ν d:=UV rfl
theorem Ud(h:N i=δ):∀j c,N j=ν c->Ko N i d j=ν c:=by intro j c a;unfold Ko;rw[GT];exact a;intro e;subst e;rw[h]at a;cases a
theorem Good.add(g:Good n lv N){lo hi:Int}(u:0<i)(c:N i=δ)(s:0<=v)(r:v<n)(m:Ok N lo)(o:Ok N hi)(A:lv v<el n lv N lo)(w:lv v<el n lv N hi)(t:lo≠hi)(l:hi%2=0)(a:∀j,N j≠ν ⟨v,lo,hi⟩):Good n lv (Ko N i ⟨v,lo,hi⟩):=by
 have b:=Ud (d:=⟨v,lo,hi⟩) c;have f:∀{j d},Ko N i ⟨v,lo,hi⟩ j=ν d->(j=i/\d=⟨v,lo,hi⟩)∨N j=ν d:=by grind[Ko]
 refine⟨g.od,?_,?_,?_,?_,?_,?_⟩
 .intro j d h;rcases f h with ⟨rfl,rfl⟩|h
  .grind
  .exact g.var h
 .intro j d h;rcases f h with ⟨rfl,rfl⟩|h
  .exact⟨m.ext b,by grind[Qa]⟩
  .have:=g.lo h;exact⟨this.1.ext b,by grind[Qa]⟩
 .intro j d h;rcases f h with ⟨rfl,rfl⟩|h
  .exact⟨o.ext b,by grind[Qa]⟩
  .have:=g.hi h;exact⟨this.1.ext b,by grind[Qa]⟩
 .intro j d h;rcases f h with ⟨rfl,rfl⟩|h
  .exact t
  .exact g.ne h
 .intro j d h;rcases f h with ⟨rfl,rfl⟩|h
  .exact l
  .exact g.reg h
 .intro j k d p q;rcases f p with ⟨B,x⟩|p<;>rcases f q with ⟨y,z⟩|q
  .rw[B,y]
  .grind
  .grind
  .exact g.YZ p q
theorem Good.cut(g:Good n lv N)(k:0<=n)(a:∀i d,M i=ν d->N i=ν d)(j:∀i d,M i=ν d->Ok M d.lo/\Ok M d.hi):Good n lv M/\∀e,Ok M e->den M e=den N e/\el n lv M e=el n lv N e:=by
 have f:Good n lv M:=by
  refine⟨g.od,λh=>g.var (a _ _ h),λh=>?_,λh=>?_,λh=>g.ne (a _ _ h),λh=>g.reg (a _ _ h),λb l=>g.YZ (a _ _ b) (a _ _ l)⟩
  .have b:=(j _ _ h).1;exact⟨b,by rw[<-Qa a b];exact(g.lo (a _ _ h)).2⟩
  .have b:=(j _ _ h).2;exact⟨b,by rw[<-Qa a b];exact(g.hi (a _ _ h)).2⟩
 exact⟨f,λe c=>⟨(f.Aj0 k a c).symm,(Qa a c).symm⟩⟩
end
end
section
def sm:Nat->(Int->Int)->Int
 |0,_=>0
 |k+1,f=>sm k f+f k
theorem Fl{f g:Int->Int}:∀{m:Nat},(∀k:Int,0<=k->k<m->f k=g k)->sm m f=sm m g
 |0,_=>rfl
 |m+1,h=>by show sm m f+f m=sm m g+g m;rw[Fl (m:=m) λk a b=>h k a (by omega),h m (by omega) (by omega)]
theorem An4{f g:Int->Int}:∀{m:Nat},sm m (λk=>f k+g k)=sm m f+sm m g
 |0=>rfl
 |m+1=>by show sm m _+(f m+g m)=(sm m f+f m)+(sm m g+g m);rw[An4 (m:=m)];omega
theorem Uz{f:Int->Int}:∀{m:Nat},(∀k:Int,0<=k->k<m->0<=f k)->0<=sm m f
 |0,_=>aw _
 |m+1,h=>by show 0<=sm m f+f m;have:=Uz (m:=m) λk a b=>h k a (by omega);grind
theorem Aih{f g:Int->Int}:∀{m:Nat},(∀k:Int,0<=k->k<m->f k<=g k)->sm m f<=sm m g
 |0,_=>aw _
 |m+1,h=>by show sm m f+f m<=sm m g+g m;have:=Aih (m:=m) λk a b=>h k a (by omega);grind
theorem Wb{m:Nat}:sm m (λ_=>0)=0:=by
 induction m with
 |zero=>rfl
 |succ m a=>grind[sm]
theorem Ac1{m:Nat}{c:Int}:sm m (λ_=>c)=m*c:=by
 induction m with
 |zero=>show (0:Int)=_;simp
 |succ m a=>grind[sm]
theorem Aga{i c:Int}:∀{m:Nat},0<=i->i<m->sm m (λk=>if k=i then c else 0)=c
 |0,a,b=>by omega
 |m+1,a,b=>by
  show sm m _+(if (m:Int)=i then c else 0)=c;by_cases h:(m:Int)=i
  .rw[UV h];have:sm m (λk=>if k=i then c else 0)=sm m (λ_=>0):=Fl λk e d=>GT (by omega);grind[Wb]
  .rw[GT h,Aga (m:=m) a (by omega)];omega
variable {i:Int}
theorem Awh{f:Int->Int}{m:Nat}(h:∀k:Int,0<=k->k<m->0<=f k)(a:0<=i)(g:i<m):f i<=sm m f:=by have d:sm m (λk=>if k=i then f i else 0)=f i:=Aga a g;rw[<-d];exact Aih λk c b=>by by_cases e:k=i<;>simp only[e,if_true,if_false]<;>first|exact aw _|grind
theorem U0{f g:Int->Int}{m:Nat}(a:0<=i)(c:i<m)(h:∀k,k≠i->f k=g k):sm m f=sm m g+(f i-g i):=by have b:sm m (λk=>if k=i then f i-g i else 0)=f i-g i:=Aga a c;rw[<-b,<-An4];grind[Fl]
theorem Aai{f:Int->Int}{m:Nat}:∀{q:Nat},m<=q->(∀k:Int,m<=k->k<q->f k=0)->sm q f=sm m f
 |0,h,_=>by
  have:m=0:=by omega
  rw[this]
 |q+1,h,a=>by
  by_cases e:m=q+1
  .rw[e]
  .show sm q f+f q=_;rw[Aai (q:=q) (by omega) λk b c=>a k b (by omega),a q (by omega) (by omega)];omega
def dl(f i:Int):Int:=if f/2=i then 1 else 0
def mu(d:Nd)(i:Int):Int:=dl d.lo i+dl d.hi i
theorem Ia{f i:Int}:0<=dl f i/\dl f i<=1:=by unfold dl;split<;>omega
theorem A3o{d:Nd}{i:Int}:0<=mu d i/\mu d i<=2:=by have:=@Ia d.lo i;have:=@Ia d.hi i;grind[mu]
theorem IH{f:Int}:dl f (f/2)=1:=UV rfl
theorem L3{f:Int}(h:i≠f/2):dl f i=0:=GT (Ne.symm h)
def pt(N:Tb)(c:Int->Int)(i p:Int):Int:=match N p with
 |some d=>if 0<c p then mu d i else 0
 |none=>0
theorem Aoj{N:Tb}{c:Int->Int}{p:Int}:0<=pt N c i p/\pt N c i p<=2:=by
 unfold pt;split
 .rename_i d _;have:=@A3o d i;split<;>omega
 .omega
def zr(N:Tb)(c:Int->Int)(p:Int):Int:=match N p with
 |some _=>if c p=0 then 1 else 0
 |none=>0
structure Cn(N:Tb)(m:Nat)(c r:Int->Int):Prop where
 N6:∀{i d},N i=ν d->0<i/\i<m
 nn:∀{i d},N i=ν d->0<=c i
 eq:∀{i d},N i=ν d->c i=r i+sm m (pt N c i)
section
variable {N:Tb} {m:Nat} {c r:Int->Int}
theorem Ak3{i:Int}:0<=sm m (pt N c i):=Uz λ_ _ _=>Aoj.1
variable {i:Int}
theorem Ak4:sm m (pt N c i)<=2*m:=by have h:sm m (pt N c i)<=sm m (λ_=>2):=Aih λ_ _ _=>Aoj.2;rw[Ac1]at h;omega
variable {d:Nd}
theorem Cn.ge(h:Cn N m c r)(a:N i=ν d):r i<=c i:=by have:=h.eq a;have:=@Ak3 N m c i;omega
theorem Cn.le(h:Cn N m c r)(a:N i=ν d):c i<=r i+2*m:=by have:=h.eq a;simp_all[Ak4]
theorem Cn.congr(h:Cn N m c r){r':Int->Int}(b:∀i,0<i->r i=r' i):Cn N m c r':=
 ⟨h.N6,h.nn,λa=>by rw[h.eq a,b _ (h.N6 a).1]⟩
variable {p:Int}
theorem Cn.kid(h:Cn N m c r)(g:∀{i d},N i=ν d->0<=r i){d':Nd}(a:N p=ν d)(k:0<c p)(hi:N i=ν d')(j:i=d.lo/2∨i=d.hi/2):0<c i:=by
 have n:=h.eq hi;have q:pt N c i p<=sm m (pt N c i):=Awh (λ_ _ _=>Aoj.1) (by have:=h.N6 a;omega) (h.N6 a).2;have l:pt N c i p=mu d i:=by grind[pt]
 have o:1<=mu d i:=by have f:=@Ia d.lo i;have b:=@Ia d.hi i;grind[mu,IH]
 grind
def bump(c:Int->Int)(i x:Int):Int->Int:=λj=>if j=i then c j+x else c j
variable {x:Int}
theorem Gn:bump c i x i=c i+x:=UV rfl
variable {j:Int}
theorem KF(h:j≠i):bump c i x j=c j:=GT h
theorem Ti(h:(0<c p)↔0<c p+x):pt N (bump c p x) i j=pt N c i j:=by
 unfold pt;split
 .by_cases e:j=p
  .subst e;rw[Gn];by_cases a:0<c j
   .rw[UV a,UV (h.1 a)]
   .rw[GT a,GT (λb=>a (h.2 b))]
  .rw[KF e]
 .rfl
theorem Ah1(h:(c p=0)↔c p+x=0):zr N (bump c p x) j=zr N c j:=by
 unfold zr;split
 .by_cases e:j=p;all_goals simp_all[Gn,KF]
 .rfl
variable {f:Int}
theorem Cn.A3p(h:Cn N m c r)(_:N (f/2)=ν d)(j:0<c (f/2)):Cn N m (bump c (f/2) 1) (λi=>r i+dl f i)/\sm m (zr N (bump c (f/2) 1))=sm m (zr N c):=by
 refine⟨⟨h.N6,λ{i b}a=>?_,λ{i b}a=>?_⟩,Fl λk _ _=>Ah1 (by omega)⟩
 .have:=h.nn a;unfold bump;split<;>omega
 .rw[Fl (g:=pt N c i) λk _ _=>Ti (by omega)];have:=h.eq a;grind[Gn,IH,KF,L3]
theorem Cn.A3q(h:Cn N m c r)(a:N (f/2)=ν d)(b:c (f/2)=0):Cn N m (bump c (f/2) 1) (λi=>r i+dl f i-mu d i)/\sm m (zr N (bump c (f/2) 1))=sm m (zr N c)-1:=by
 have p:=h.N6 a;refine⟨⟨h.N6,λ{i q}l=>?_,λ{i q}l=>?_⟩,?_⟩
 .have:=h.nn l;unfold bump;split<;>omega
 .have s:sm m (pt N (bump c (f/2) 1) i)=sm m (pt N c i)+(pt N (bump c (f/2) 1) i (f/2)-pt N c i (f/2)):=U0 (by omega) p.2 λk n=>by grind[pt,KF]
  have j:pt N (bump c (f/2) 1) i (f/2)=mu d i:=by grind[pt,Gn]
  have o:pt N c i (f/2)=0:=by grind[pt]
  rw[s,j,o];have:=h.eq l;grind[Gn,IH,KF,L3]
 .rw[U0 (g:=zr N c) (i:=f/2) (by omega) p.2 λk n=>by grind[zr,KF]]
  grind[zr,bump,Gn]
theorem Cn.A3u(h:Cn N m c r)(_:N (f/2)=ν d)(j:1<c (f/2)):Cn N m (bump c (f/2) (-1)) (λi=>r i-dl f i)/\sm m (zr N (bump c (f/2) (-1)))=sm m (zr N c):=by
 refine⟨⟨h.N6,λ{i b}a=>?_,λ{i b}a=>?_⟩,Fl λk _ _=>Ah1 (by omega)⟩
 .have:=h.nn a;grind[bump]
 .rw[Fl (g:=pt N c i) λk _ _=>Ti (by omega)];have:=h.eq a;grind[Gn,IH,KF,L3]
theorem Cn.A3v(h:Cn N m c r)(a:N (f/2)=ν d)(b:c (f/2)=1):Cn N m (bump c (f/2) (-1)) (λi=>r i-dl f i+mu d i)/\sm m (zr N (bump c (f/2) (-1)))=sm m (zr N c)+1:=by
 have p:=h.N6 a;refine⟨⟨h.N6,λ{i q}l=>?_,λ{i q}l=>?_⟩,?_⟩
 .have:=h.nn l;grind[bump]
 .have s:sm m (pt N (bump c (f/2) (-1)) i)=sm m (pt N c i)+(pt N (bump c (f/2) (-1)) i (f/2)-pt N c i (f/2)):=U0 (by omega) p.2 λk n=>by grind[pt,KF]
  have j:pt N (bump c (f/2) (-1)) i (f/2)=0:=by grind[pt,Gn]
  have o:pt N c i (f/2)=mu d i:=by grind[pt]
  rw[s,j,o];have:=h.eq l;grind[Gn,IH,KF,L3]
 .rw[U0 (g:=zr N c) (i:=f/2) (by omega) p.2 λk n=>by grind[zr,KF]]
  grind[zr,bump,Gn]
structure Dag(N:Tb)(rk:Int->Int)(n:Int):Prop where
 N7:∀{i d},N i=ν d->0<=rk i/\rk i<n
 lo:∀{i d},N i=ν d->Ok N d.lo/\(d.lo/2≠0->rk i<rk (d.lo/2))
 hi:∀{i d},N i=ν d->Ok N d.hi/\(d.hi/2≠0->rk i<rk (d.hi/2))
theorem Good.dag{n:Int}{lv:Int->Int}(g:Good n lv N):Dag N (λi=>match N i with|some d=>lv d.v|none=>0) n:=by
 have a:∀{i d e},N i=ν d->Ok N e->lv d.v<el n lv N e->(e/2≠0->lv d.v<(match N (e/2) with|some d=>lv d.v|none=>0)):=by intro i d e k j c f;obtain⟨l,b⟩:=j.2.resolve_left f;grind[Bn]
 refine⟨λh=>?_,λh=>?_,λh=>?_⟩
 .have:=g.var h;simp only[h];exact g.od.N7 _ this.2.1 this.2.2
 .have:=g.lo h;grind
 .have:=g.hi h;grind
end
end
end Go.B
