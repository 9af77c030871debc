/-
  The store: Swap, the walk. (Merged by program out of 23 texts.)
-/
import Derived.Test.YtcbkbpjlbmalmaaGreatDoorEad
import Derived.Recover
import Derived.Shelf.SlSortCmp.NoneTotal
open Bool renaming true->τ,false->ψ
open Decidable renaming decide->ω
open List renaming mem_singleton->a4,mem_cons_self->a5,mem_of_mem_drop->a6,getElem?_eq_some_iff->a7,take_succ_eq_append_getElem->a8,drop_eq_getElem_cons->a9,mem_cons_of_mem->aa,not_mem_nil->ad,length_map->ae,mem_append_left->ag,getElem?_set_ne->ah,mem_map_of_mem->ai,getElem?_set_self->aj,map_append->ak,mem_append->al,mem_cons->an,nodup_append->aq,replicate->au,getElem_mem->b0,mem_iff_getElem->ba,mem_map->bb,pairwise_map->be,getElem?_eq_getElem->bf,drop_eq_nil_of_le->bg,append_nil->bi,nodup_cons->bj,take_append_drop->bk,mem_append_right->bn,nodup_nil->bq,map_cons->br,append_assoc->bv,take_length->bz,length_take->c0,length_cons->c6,mapM_cons->cb,Perm.refl->cd,Nodup->ce,map_nil->ch,length->ν
open Nat renaming zero_le->ac,lt_of_lt_of_eq->bc,lt_or_ge->cf,le_of_eq->cg
open Option renaming some.inj->am,bind_some->bw,some->σ,none->δ
open Array renaming getD_eq_getD_getElem?->ap,getElem?_append_left->av,getElem?_eq_some_iff->aw,getElem?_append->ay,getElem?_modify->az,getElem?_eq_none->bh,replicate->ca
open Classical renaming not_not->ax
open Int renaming lt_of_lt_of_le->bt,le_trans->bu,le_of_lt->ci
open Go.IntKind (u64)
namespace Go.Proofs.YtcbkbpjlbmalmaaGreatDoor
open Go Go.X Go.Y
section
set_option maxRecDepth 100000
set_option maxHeartbeats 2000000
def VP(e:Int)(H:HY)(Q:qV->UU)(_:PX):=IK e->Q (GI BinOp.xor .i64 e 1,()) () H
theorem VO e H Q X(h_:VP e H Q X):qK 169 EG (e,()) H Q X:=wF Tryz.f169 {} h_
def OD(m:Option Nat)(op a b c:Int)(H:HY)(Q:Int×qU->UU)(_:PX):=letI E:=[a,b,c];letI F:={op:=op,Gb:={a0:=a,a1:=b,a2:=c:DM}:Lh};letI I:=2^min (Int.toNat (29:Int)) 64;letI O:=u64.wrap 0;(m=δ->Q (0,ψ,()) () H)/\(¬m=δ->∃(b1:Nat),m=σ b1/\∃(x:B7),letI R:=Go.IntKind.wrap .i64 (x.asked+1);letI P:=Ac H b1 (Ob.st CC {x with entries:=δ,asked:=R});H b1=σ (Ob.st CC x)/\(x.entries=δ->(0=0->Q (0,ψ,()) () P)/\(¬0=0->IK op->∃(V:Nat->Int×Nat×UT->HP),(∃(n:Nat),V n (u64.wrap op,0,()) P)/\∀n x H,V n x H->(x.2.1<3->x.2.1<=2^63-1->∃(h:x.2.1<ν E),letI Y:=E[x.2.1];letI W:=GI BinOp.xor u64 x.1 (u64.wrap Y);letI S:=u64.wrap (W*11400714819323198485);letI B:=Bl u64 S;IK Y->Bl u64 x.1->Bl u64 (u64.wrap Y)->Bl u64 W->B->(BinOp.shr=BinOp.shr->B)/\(0:Int)<=29/\(B->Bl u64 (S.fdiv I)->x.2.1+1<=2^63-1/\∃m,m<n/\V m (GI BinOp.xor u64 S (S.fdiv I),x.2.1+1,()) H))/\(¬x.2.1<3->∃(x1:B7),letI C:=Q (0,ψ,()) () H;H b1=σ (Ob.st CC x1)/\(x1.entries=δ->Bl u64 x.1->Bl u64 O->¬O=0/\Bl u64 (x.1.tmod O)/\False)/\∀(xs:List BB),x1.entries=σ xs->ν xs<=2^63-1->Bl u64 x.1->Bl u64 (u64.wrap ((ν xs):Int))->¬u64.wrap ((ν xs):Int)=0/\Bl u64 (x.1.tmod (u64.wrap ((ν xs):Int)))/\(Bl u64 (x.1.tmod (u64.wrap ((ν xs):Int)))->(Bl u64 (x.1.tmod (u64.wrap ((ν xs):Int)))->0<=x.1.tmod (u64.wrap ((ν xs):Int)))/\∃(h:(x.1.tmod (u64.wrap ((ν xs):Int))).toNat<ν xs),letI D:=(x.1.tmod (u64.wrap ((ν xs):Int))).toNat;letI A:={x1 with entries:=σ xs}=x1/\C;∃(h:D<ν xs),letI Z:=¬xs[D].full=τ;(Z->A)/\(¬Z->∃(h:D<ν xs),letI U:=xs[D].key;letI T:=¬U=F;(T->A)/\(¬T->∃(h:D<ν xs),Q (xs[D].r,τ,()) () (Ac H b1 (Ob.st CC {x1 with entries:=σ xs,found:=Go.IntKind.wrap .i64 (x1.found+1)}))))))))/\∀(xs:List BB),x.entries=σ xs->ν xs<=2^63-1->(ν xs=0->Q (0,ψ,()) () (Ac H b1 (Ob.st CC {x with entries:=σ xs,asked:=R})))/\(¬ν xs=0->IK op->∃(V:Nat->Int×Nat×UT->HP),(∃(n:Nat),V n (u64.wrap op,0,()) (Ac H b1 (Ob.st CC {x with entries:=σ xs,asked:=R})))/\∀n x H,V n x H->(x.2.1<3->x.2.1<=2^63-1->∃(h:x.2.1<ν E),letI J:=E[x.2.1];letI L:=GI BinOp.xor u64 x.1 (u64.wrap J);letI N:=u64.wrap (L*11400714819323198485);letI K:=Bl u64 N;IK J->Bl u64 x.1->Bl u64 (u64.wrap J)->Bl u64 L->K->(BinOp.shr=BinOp.shr->K)/\(0:Int)<=29/\(K->Bl u64 (N.fdiv I)->x.2.1+1<=2^63-1/\∃m,m<n/\V m (GI BinOp.xor u64 N (N.fdiv I),x.2.1+1,()) H))/\(¬x.2.1<3->∃(x1:B7),H b1=σ (Ob.st CC x1)/\(x1.entries=δ->Bl u64 x.1->Bl u64 O->¬O=0/\Bl u64 (x.1.tmod O)/\False)/\∀(xs:List BB),x1.entries=σ xs->ν xs<=2^63-1->Bl u64 x.1->Bl u64 (u64.wrap ((ν xs):Int))->¬u64.wrap ((ν xs):Int)=0/\Bl u64 (x.1.tmod (u64.wrap ((ν xs):Int)))/\(Bl u64 (x.1.tmod (u64.wrap ((ν xs):Int)))->(Bl u64 (x.1.tmod (u64.wrap ((ν xs):Int)))->0<=x.1.tmod (u64.wrap ((ν xs):Int)))/\∃(h:(x.1.tmod (u64.wrap ((ν xs):Int))).toNat<ν xs),∃(h:(x.1.tmod (u64.wrap ((ν xs):Int))).toNat<ν xs),(¬xs[(x.1.tmod (u64.wrap ((ν xs):Int))).toNat].full->{x1 with entries:=σ xs}=x1/\Q (0,ψ,()) () H)/\(¬¬xs[(x.1.tmod (u64.wrap ((ν xs):Int))).toNat].full->∃(h:(x.1.tmod (u64.wrap ((ν xs):Int))).toNat<ν xs),(¬xs[(x.1.tmod (u64.wrap ((ν xs):Int))).toNat].key=F->{x1 with entries:=σ xs}=x1/\Q (0,ψ,()) () H)/\(¬¬xs[(x.1.tmod (u64.wrap ((ν xs):Int))).toNat].key=F->∃(h:(x.1.tmod (u64.wrap ((ν xs):Int))).toNat<ν xs),Q (xs[(x.1.tmod (u64.wrap ((ν xs):Int))).toNat].r,τ,()) () (Ac H b1 (Ob.st CC {x1 with entries:=σ xs,found:=Go.IntKind.wrap .i64 (x1.found+1)}))))))))
def OC(m:Option Nat)(op a b c r:Int)(H:HY)(Q:UT->UU)(_:PX):=letI E:=[a,b,c];letI F:=2^min (Int.toNat (29:Int)) 64;letI I:={key:={op:=op,Gb:={a0:=a,a1:=b,a2:=c:DM}:Lh},r:=r,full:=τ:BB};letI O:=u64.wrap 0;letI P:={key:={op:=0,Gb:={a0:=0,a1:=0,a2:=0:DM}:Lh},r:=0,full:=ψ:BB};letI R:=u64.wrap op;letI S:=IK op;letI W:=Bl u64 O;letI Y:=BinOp.shr=BinOp.shr;letI B:=¬O=0;(m=δ->Q () () H)/\(¬m=δ->∃(b1:Nat),m=σ b1/\∃(x:B7),letI C:=S->∃(V:Nat->Int×Nat×UT->HP),(∃(n:Nat),V n (R,0,()) (Ac H b1 (Ob.st CC {x with entries:=σ (au x.size.toNat P)})))/\∀n x H,V n x H->(x.2.1<3->x.2.1<=2^63-1->∃(h:x.2.1<ν E),IK E[x.2.1]->Bl u64 x.1->Bl u64 (u64.wrap E[x.2.1])->Bl u64 (GI BinOp.xor u64 x.1 (u64.wrap E[x.2.1]))->Bl u64 (u64.wrap (GI BinOp.xor u64 x.1 (u64.wrap E[x.2.1])*11400714819323198485))->(Y->Bl u64 (u64.wrap (GI BinOp.xor u64 x.1 (u64.wrap E[x.2.1])*11400714819323198485)))/\(0:Int)<=29/\(Bl u64 (u64.wrap (GI BinOp.xor u64 x.1 (u64.wrap E[x.2.1])*11400714819323198485))->Bl u64 ((u64.wrap (GI BinOp.xor u64 x.1 (u64.wrap E[x.2.1])*11400714819323198485)).fdiv F)->x.2.1+1<=2^63-1/\∃m,m<n/\V m (GI BinOp.xor u64 (u64.wrap (GI BinOp.xor u64 x.1 (u64.wrap E[x.2.1])*11400714819323198485)) ((u64.wrap (GI BinOp.xor u64 x.1 (u64.wrap E[x.2.1])*11400714819323198485)).fdiv F),x.2.1+1,()) H))/\(¬x.2.1<3->∃(x1:B7),H b1=σ (Ob.st CC x1)/\(x1.entries=δ->Bl u64 x.1->W->B/\Bl u64 (x.1.tmod O)/\False)/\∀(xs:List BB),x1.entries=σ xs->ν xs<=2^63-1->Bl u64 x.1->Bl u64 (u64.wrap ((ν xs):Int))->¬u64.wrap ((ν xs):Int)=0/\Bl u64 (x.1.tmod (u64.wrap ((ν xs):Int)))/\(Bl u64 (x.1.tmod (u64.wrap ((ν xs):Int)))->(Bl u64 (x.1.tmod (u64.wrap ((ν xs):Int)))->0<=x.1.tmod (u64.wrap ((ν xs):Int)))/\∃(h:(x.1.tmod (u64.wrap ((ν xs):Int))).toNat<ν xs),(x.1.tmod (u64.wrap ((ν xs):Int))).toNat<ν xs/\Q () () (Ac H b1 (Ob.st CC {x1 with entries:=σ (xs.set (x.1.tmod (u64.wrap ((ν xs):Int))).toNat I)}))));H b1=σ (Ob.st CC x)/\(x.entries=δ->True/\(IK x.size->IK x.size->0<=x.size/\x.size=x.size/\x.size.toNat*48<=281474976710656/\C/\C))/\∀(xs:List BB),x.entries=σ xs->¬xs=[]/\(S->∃(V:Nat->Int×Nat×UT->HP),(∃(n:Nat),V n (R,0,()) (Ac H b1 (Ob.st CC {x with entries:=σ xs})))/\∀n x H,V n x H->(x.2.1<3->x.2.1<=2^63-1->∃(h:x.2.1<ν E),letI Z:=E[x.2.1];letI A:=GI BinOp.xor u64 x.1 (u64.wrap Z);letI D:=u64.wrap (A*11400714819323198485);letI T:=Bl u64 D;IK Z->Bl u64 x.1->Bl u64 (u64.wrap Z)->Bl u64 A->T->(Y->T)/\(0:Int)<=29/\(T->Bl u64 (D.fdiv F)->x.2.1+1<=2^63-1/\∃m,m<n/\V m (GI BinOp.xor u64 D (D.fdiv F),x.2.1+1,()) H))/\(¬x.2.1<3->∃(x1:B7),H b1=σ (Ob.st CC x1)/\(x1.entries=δ->Bl u64 x.1->W->B/\Bl u64 (x.1.tmod O)/\False)/\∀(xs:List BB),x1.entries=σ xs->ν xs<=2^63-1->Bl u64 x.1->Bl u64 (u64.wrap ((ν xs):Int))->¬u64.wrap ((ν xs):Int)=0/\Bl u64 (x.1.tmod (u64.wrap ((ν xs):Int)))/\(Bl u64 (x.1.tmod (u64.wrap ((ν xs):Int)))->(Bl u64 (x.1.tmod (u64.wrap ((ν xs):Int)))->0<=x.1.tmod (u64.wrap ((ν xs):Int)))/\∃(h:(x.1.tmod (u64.wrap ((ν xs):Int))).toNat<ν xs),letI U:=(x.1.tmod (u64.wrap ((ν xs):Int))).toNat;U<ν xs/\Q () () (Ac H b1 (Ob.st CC {x1 with entries:=σ (xs.set U I)})))))/\(S->∃(V:Nat->Int×Nat×UT->HP),(∃(n:Nat),V n (R,0,()) (Ac H b1 (Ob.st CC {x with entries:=σ xs})))/\∀n x H,V n x H->(x.2.1<3->x.2.1<=2^63-1->∃(h:x.2.1<ν E),letI J:=E[x.2.1];letI L:=GI BinOp.xor u64 x.1 (u64.wrap J);letI N:=u64.wrap (L*11400714819323198485);letI K:=Bl u64 N;IK J->Bl u64 x.1->Bl u64 (u64.wrap J)->Bl u64 L->K->(Y->K)/\(0:Int)<=29/\(K->Bl u64 (N.fdiv F)->x.2.1+1<=2^63-1/\∃m,m<n/\V m (GI BinOp.xor u64 N (N.fdiv F),x.2.1+1,()) H))/\(¬x.2.1<3->∃(x1:B7),H b1=σ (Ob.st CC x1)/\(x1.entries=δ->Bl u64 x.1->W->B/\Bl u64 (x.1.tmod O)/\False)/\∀(xs:List BB),x1.entries=σ xs->ν xs<=2^63-1->Bl u64 x.1->Bl u64 (u64.wrap ((ν xs):Int))->¬u64.wrap ((ν xs):Int)=0/\Bl u64 (x.1.tmod (u64.wrap ((ν xs):Int)))/\(Bl u64 (x.1.tmod (u64.wrap ((ν xs):Int)))->(Bl u64 (x.1.tmod (u64.wrap ((ν xs):Int)))->0<=x.1.tmod (u64.wrap ((ν xs):Int)))/\∃(h:(x.1.tmod (u64.wrap ((ν xs):Int))).toNat<ν xs),(x.1.tmod (u64.wrap ((ν xs):Int))).toNat<ν xs/\Q () () (Ac H b1 (Ob.st CC {x1 with entries:=σ (xs.set (x.1.tmod (u64.wrap ((ν xs):Int))).toNat I)}))))))
def T2(m:Option Nat)(H:HY)(Q:UT->UU)(_:PX):=(¬m=δ->∃(b:Nat),m=σ b/\∃(x:B7),H b=σ (Ob.st CC x)/\(x.entries=δ->{x with entries:=δ}=x/\Q () () H)/\∀(xs:List BB),x.entries=σ xs->Q () () (Ac H b (Ob.st CC {x with entries:=σ (au (ν xs) {key:={op:=0,Gb:={a0:=0,a1:=0,a2:=0:DM}:Lh},r:=0,full:=ψ:BB})})))/\(¬¬m=δ->Q () () H)
theorem Tz m H Q X(h_:T2 m H Q X):qK 162 DR (m,()) H Q X:=wF Tryz.f162 {} h_
def Xm(size:Int)(H:HY)(Q:Option Nat×UT->UU)(_:PX):=∀(b:Nat),H b=δ->Q (σ b,()) () (Ac H b (Ob.st CC {size:=KL ψ (KL τ size [(.i64,1)]) [(.i64,65536)],entries:=δ,asked:=0,found:=0:B7}))
theorem Agx size H Q X(h_:Xm size H Q X):qK 81 RX (size,()) H Q X:=wF Tryz.f81 {pr:=[(7,4)]} h_
def Mi(yield:AE×UT->HY->(qU->HP)->PX->Prop)(p1:Option Nat)(H:HY)(Q:UT->UU)(X:PX):=∀(l:Nat)(r:Loop),H l=δ->qK 278 Jq (λ(a:qV)(H:HY)(Q:qU->HP)(X:Nat->Lf Y0.D->HP)=>letI E:=Ob.lp (HW r);letI F:=H l=σ (Ob.lp r);F/\F/\∃(b:Nat),p1=σ b/\∃(x:A7),Ac H l E b=σ (Ob.st Da x)/\(IK a.1->(IK a.1->0<=a.1)/\∃(h:(a.1.toNat<ν x.at_)),∃(h:(a.1.toNat<ν x.at_)),x=x/\yield (x.at_[a.1.toNat],()) (Ac H l E) (λ(b:qU)(G:HY)=>(¬b.1->G l=σ E/\Q (ψ,()) (Ac G l (Ob.lp (Rj r Code.ret))))/\(¬¬b.1->G l=σ E/\Q (τ,()) (Ac G l (Ob.lp r)))) X),p1,()) (Ac H l (Ob.lp r)) (λ(b io:UT)(G:HY)=>letI O:=∀(r':Loop),Q () () (Ac G l (Ob.lp r'));G l=σ (Ob.lp r)/\O∨G l=σ (Ob.lp (Rj r Code.ret))/\O) X
end
section
structure MeI(m:B7):Prop where
 s1:1<=m.size
 s2:m.size<=65536
 en:∀xs,m.entries=σ xs->1<=ν xs/\ν xs<=65536
def YV(m:B7)(e:BB):Prop:=∃xs,m.entries=σ xs/\e∈xs
theorem Abp{x:Int}:Bl .u64 x↔0<=x/\x<=18446744073709551615:=by
 have a:u64.min=0:=by decide
 have b:u64.max=18446744073709551615:=by decide
 unfold Bl;rw[a,b]
theorem wrap_u64{L:Nat}(h:L<=65536):u64.wrap (L:Int)=L:=FO (Abp.2 (by omega))
theorem Abf{x:Int}{L:Nat}(c:Bl .u64 x)(g:1<=L)(b:L<=65536):¬(u64.wrap (L:Int))=0/\Bl .u64 (x.tmod (u64.wrap (L:Int)))/\0<=x.tmod (u64.wrap (L:Int))/\(x.tmod (u64.wrap (L:Int))).toNat<L:=by rw[wrap_u64 b];obtain⟨d,f⟩:=Abp.1 c;have e:x.tmod L=x%L:=Int.tmod_eq_emod_of_nonneg d;have a:0<=x%(L:Int):=Int.emod_nonneg _ (by omega);have h:x%(L:Int)<L:=Int.emod_lt_of_pos _ (by omega);grind[Abp]
variable {bm:Nat} {m:B7} {H:HY} {X:PX}
theorem Ady{op a b c:Int}{Q:Int×Bool×Unit->UU}(I:H bm=σ (.st CC m))(G:MeI m)(r:∀m',m'.entries=m.entries->m'.size=m.size->Q (0,ψ,()) () (Ac H bm (.st CC m')))(z:∀m' e,m'.entries=m.entries->m'.size=m.size->YV m e->e.full=τ->e.key=⟨op,⟨a,b,c⟩⟩->Q (e.r,τ,()) () (Ac H bm (.st CC m'))):qK 197 FR (σ bm,op,a,b,c,()) H Q X:=by
 refine wF Tryz.f197 {wr:=[20,55],il:=ilT} (?_:OD (σ bm) op a b c H Q X);unfold OD;refine⟨λh=>qG h (by simp),λ_=>⟨bm,rfl,m,I,λv=>⟨λ_=>r _ v.symm rfl,λh=>qG rfl h⟩,λj d y=>?_⟩⟩;have w:=G.en j d;refine⟨λh=>?_,λ_ J=>?_⟩
 .grind
 refine⟨λn x u=>u=Ac H bm (.st CC {size:=m.size,entries:=σ j,asked:=Go.IntKind.wrap .i64 (m.asked+1),found:=m.found})/\n=3-x.2.1/\x.2.1<=3,⟨3,rfl,rfl,ac _⟩,?_⟩;rintro n ⟨x,k,_⟩ u ⟨rfl,l,s⟩;have v:n=3-k:=l;have t:k<=3:=s;refine⟨λf _=>?_,λf=>?_⟩
 .have i:k<3:=f;refine⟨by omega,λ_ _ _ _ F=>⟨λ_=>F,by decide,λ_ _=>⟨by grind,2-k,by omega,rfl,by simp,by grind⟩⟩⟩
 .refine⟨_,Ah _ _ _,λh=>(by cases h),λL o _ B _=>?_⟩;cases o;obtain⟨C,A,E,g⟩:=Abf B w.1 w.2;refine⟨C,A,λ_=>⟨λ_=>E,g,g,λ_=>⟨rfl,r _ d.symm rfl⟩,λD=>⟨g,λ_=>⟨rfl,r _ d.symm rfl⟩,λt=>⟨g,?_⟩⟩⟩⟩;rw[Z8];have p:=ax.1 D;have q:=ax.1 t;refine z _ _ d.symm rfl ⟨j,d,b0 g⟩ p ?_;exact q
theorem Adx{op a b c r:Int}{Q:Unit->UU}(J:H bm=σ (.st CC m))(w:MeI m)(h:∀m',MeI m'->(∀e,YV m' e->e.full=τ->YV m e∨e=⟨⟨op,⟨a,b,c⟩⟩,r,τ⟩)->Q () () (Ac H bm (.st CC m'))):qK 200 FQ (σ bm,op,a,b,c,r,()) H Q X:=by
 refine wF Tryz.f200 {il:=ilT} (?_:OC (σ bm) op a b c r H Q X);unfold OC;have v:∀(d:List BB),1<=ν d/\ν d<=65536->(∀e∈d,e.full=τ->YV m e)->∀(j:Nat),j<ν d->Q () () (Ac (Ac H bm (.st CC {size:=m.size,entries:=σ d,asked:=m.asked,found:=m.found})) bm (.st CC {size:=m.size,entries:=σ (d.set j ⟨⟨op,⟨a,b,c⟩⟩,r,τ⟩),asked:=m.asked,found:=m.found})):=λd i g j M=>by
  rw[Z8];refine h _ ⟨w.s1,w.s2,λC f=>?_⟩ λe⟨C,f,p⟩z=>?_
  .cases f;simpa using i
  .cases f;rcases List.mem_or_eq_of_mem_set p with p|p
   .exact .inl (g e p z)
   .exact .inr p
 refine⟨λh=>qG h (by simp),λ_=>⟨bm,rfl,m,J,λI=>⟨trivial,λ_ _=>?_⟩,λd u=>?_⟩⟩
 .have L:=w.s1;have N:=w.s2;refine⟨by omega,rfl,by omega,?_⟩;have i:1<=ν (au m.size.toNat (⟨⟨0,⟨0,0,0⟩⟩,0,ψ⟩:BB))/\ν (au m.size.toNat (⟨⟨0,⟨0,0,0⟩⟩,0,ψ⟩:BB))<=65536:=by simp only[List.length_replicate];omega
  have g:∀e∈au m.size.toNat (⟨⟨0,⟨0,0,0⟩⟩,0,ψ⟩:BB),e.full=τ->YV m e:=λe p z=>by rw[List.eq_of_mem_replicate p]at z;cases z
  generalize au m.size.toNat (⟨⟨0,⟨0,0,0⟩⟩,0,ψ⟩:BB)=d at i g;constructor <;>
  .intro G;refine⟨λn x y=>y=Ac H bm (.st CC {size:=m.size,entries:=σ d,asked:=m.asked,found:=m.found})/\n=3-x.2.1/\x.2.1<=3,⟨3,rfl,rfl,ac _⟩,?_⟩;rintro n ⟨x,k,_⟩ y ⟨rfl,t,s⟩;have I:n=3-k:=t;have K:k<=3:=s;refine⟨λl _=>?_,λl=>?_⟩
   .have o:k<3:=l;refine⟨by show k<3;exact o,λ_ _ _ _ F=>⟨λ_=>F,by decide,λ_ _=>⟨by show k+1<=_;omega,2-k,by omega,rfl,by show 2-k=3-(k+1);omega,by show k+1<=3;omega⟩⟩⟩
   .refine⟨_,Ah _ _ _,λh=>(by cases h),λC f _ A _=>?_⟩;cases f;obtain⟨E,D,B,q⟩:=Abf A i.1 i.2;exact⟨E,D,λ_=>⟨λ_=>B,q,q,v d i g _ q⟩⟩
 .have i:=w.en d u;have g:∀e∈d,e.full=τ->YV m e:=λe p _=>⟨d,u,p⟩
  refine⟨λh=>by grind,?_⟩;constructor <;>
  .intro G;refine⟨λn x y=>y=Ac H bm (.st CC {size:=m.size,entries:=σ d,asked:=m.asked,found:=m.found})/\n=3-x.2.1/\x.2.1<=3,⟨3,rfl,rfl,ac _⟩,?_⟩;rintro n ⟨x,k,_⟩ y ⟨rfl,t,s⟩;have I:n=3-k:=t;have K:k<=3:=s;refine⟨λl _=>?_,λl=>?_⟩
   .have o:k<3:=l;refine⟨by show k<3;exact o,λ_ _ _ _ F=>⟨λ_=>F,by decide,λ_ _=>⟨by show k+1<=_;omega,2-k,by omega,rfl,by show 2-k=3-(k+1);omega,by show k+1<=3;omega⟩⟩⟩
   .refine⟨_,Ah _ _ _,λh=>(by cases h),λC f _ A _=>?_⟩;grind[Abf]
theorem Nz{Q:Unit->UU}(d:H bm=σ (.st CC m))(c:MeI m)(h:∀m',MeI m'->(∀e,YV m' e->e.full=ψ)->Q () () (Ac H bm (.st CC m'))):qK 162 DR (σ bm,()) H Q X:=by
 refine Tz _ _ _ _ ?_;refine⟨λ_=>⟨bm,rfl,m,d,λf=>?_,λg a=>?_⟩,λh=>qG (by simp) h⟩
 .have e:({size:=m.size,entries:=δ,asked:=m.asked,found:=m.found}:B7)=m:=by cases m;grind
  refine⟨e,?_⟩;have:=h m c λe⟨g,a,_⟩=>by grind
  rwa [LP d]at this
 .have k:=c.en g a;refine h _ ⟨c.s1,c.s2,λj b=>?_⟩ λe⟨j,b,i⟩=>?_;all_goals grind
end
section
theorem MY{e:Int}{H:HY}{X:PX}{Q:Int×Unit->UU}(h:Q (B.flip e,()) () H):qK 169 EG (e,()) H Q X:=by refine VO _ _ _ _ λa=>?_;grind[Ae8]
def Db(F G H:B.Fn):B.Fn:=λa=>if F a then G a else H a
section
variable {n:Int} {lv:Int->Int} {N:B.Tb}
def At(n:Int)(lv:Int->Int)(N:B.Tb)(k e:Int):Prop:=B.Ok N e/\k<=B.el n lv N e
variable {k:Int}
theorem At.flip{e:Int}(h:At n lv N k e):At n lv N k (B.flip e):=⟨h.1.flip,by rw[B.Au4];exact h.2⟩
theorem At.fl{e s:Int}(h:At n lv N k e):At n lv N k (B.fl e s):=⟨h.1.fl,by rw[B.MA];exact h.2⟩
theorem Wq(h:k<=n):At n lv N k 0:=⟨B.Tp,by grind[B.Cs]⟩
theorem at_one(h:k<=n):At n lv N k 1:=⟨B.ok_one,by grind[B.Cs]⟩
end
theorem Aex{n k:Int}{lv:Int->Int}{N:B.Tb}{f g h:Int}{H:HY}{X:PX}{Q:Int×Int×Int×Bool×Int×Bool×Unit->UU}(C:k<=n)(j:At n lv N k f)(T:At n lv N k g)(V:At n lv N k h)(v:∀r,At n lv N k r->B.den N r=Db (B.den N f) (B.den N g) (B.den N h)->Q (0,0,0,ψ,r,τ,()) () H)(K:∀a b c t,At n lv N k a->At n lv N k b->At n lv N k c->a/2≠0->(∀x,Db (B.den N a) (B.den N b) (B.den N c) x=(t ^^ Db (B.den N f) (B.den N g) (B.den N h) x))->Q (a,b,c,t,0,ψ,()) () H):qK 196 RZ (f,g,h,()) H Q X:=by
 refine wF Tryz.f196 {jn:=[(14,⟨[(1,.one (.dat I6))],[0,2,12],τ⟩),(23,⟨[(2,.one (.dat I6))],[0,1,12],τ⟩)]} (?_:∃(M:qV->HP),(∀x H,M x H->∃(M:qV->HP),(∀x1 H,M x1 H->(f=0->Q (0,0,0,ψ,x.1,τ,()) () H)/\(¬f=0->(x.1=x1.1->Q (0,0,0,ψ,x.1,τ,()) () H)/\(¬x.1=x1.1->(f=1->Q (0,0,0,ψ,x1.1,τ,()) () H)/\(¬f=1->({a0:=x.1,a1:=x1.1:Ak}={a0:=0,a1:=1:Ak}->Q (0,0,0,ψ,f,τ,()) () H)/\(¬{a0:=x.1,a1:=x1.1:Ak}={a0:=0,a1:=1:Ak}->({a0:=x.1,a1:=x1.1:Ak}={a0:=1,a1:=0:Ak}->qK 169 EG (f,()) H (λ(b:qV)_ G=>Q (0,0,0,ψ,b.1,τ,()) () G) X)/\(¬{a0:=x.1,a1:=x1.1:Ak}={a0:=1,a1:=0:Ak}->(Cj f->qK 169 EG (f,()) H (λ(b:qV)_ G=>letI E:=Cj x1.1;Q (b.1,AO x1.1 E,AO x.1 E,E,0,ψ,()) () G) X)/\(¬Cj f->Q (f,AO x.1 (Cj x.1),AO x1.1 (Cj x.1),Cj x.1,0,ψ,()) () H)))))))/\(h=f->M (1,()) H)/\(¬h=f->qK 169 EG (f,()) H (λ(b:qV)_ G=>(h=b.1->M (0,()) G)/\(¬h=b.1->M (h,()) G)) X))/\(g=f->M (0,()) H)/\(¬g=f->qK 169 EG (f,()) H (λ(b:qV)_ G=>(g=b.1->M (1,()) G)/\(¬g=b.1->M (g,()) G)) X));refine⟨λx E=>E=H/\At n lv N k x.1/\∀a,B.den N f a=τ->B.den N x.1 a=B.den N g a,?_,λe=>⟨rfl,Wq C,λa d=>?_⟩,λG=>MY ⟨λe=>⟨rfl,at_one C,λa d=>?_⟩,λ_=>⟨rfl,T,λ_ _=>rfl⟩⟩⟩
 .rintro⟨x,_⟩ E ⟨rfl,J,z⟩;have o:At n lv N k x:=J;have D:∀a,B.den N f a=τ->B.den N x a=B.den N g a:=z;refine⟨λy l=>l=E/\At n lv N k y.1/\∀a,B.den N f a=ψ->B.den N y.1 a=B.den N h a,?_,λe=>⟨rfl,at_one C,λa d=>?_⟩,λG=>MY ⟨λe=>⟨rfl,Wq C,λa d=>?_⟩,λ_=>⟨rfl,V,λ_ _=>rfl⟩⟩⟩
  .rintro⟨y,_⟩ l ⟨rfl,F,A⟩;have p:At n lv N k y:=F;have I:∀a,B.den N f a=ψ->B.den N y a=B.den N h a:=A;have L:Db (B.den N f) (B.den N g) (B.den N h)=Db (B.den N f) (B.den N x) (B.den N y):=by
    funext a;unfold Db;by_cases d:B.den N f a=τ
    .rw[UV d,UV d,D a d]
    .rw[GT d,GT d,I a (by simpa using d)]
   rw[L]at v;simp only[L]at K;refine⟨λe=>v x o ?_,λS=>⟨λe=>v x o ?_,λP=>⟨λe=>v y p ?_,λM=>⟨λe=>v f j ?_,λU=>⟨λe=>MY (v _ j.flip ?_),λW=>⟨λw=>MY ?_,λw=>?_⟩⟩⟩⟩⟩⟩
   .grind[Db,B.JB]
   .funext a;unfold Db;have m:x=y:=e;rw[<-m];split<;>rfl
   .grind[Db,B.Fw]
   .injection e with O R;have q:x=0:=O;have u:y=1:=R
    funext a;unfold Db;rw[q,u,B.JB,B.Fw];cases B.den N f a<;>rfl
   .injection e with O R;have q:x=1:=O;have u:y=0:=R
    funext a;unfold Db;rw[q,u,B.JB,B.Fw,B.IA j.1];cases i:B.den N f a<;>simp [i]
   .have s:f/2≠0:=by omega
    show Q (B.flip f,AO y (Cj y),AO x (Cj y),Cj y,0,ψ,()) () l;rw[K7 p.1.1,K7 p.1.1,Agv p.1.1];refine K _ _ _ _ j.flip p.fl o.fl (by grind[B.Mq]) λa=>?_;unfold Db;rw[B.IA j.1,B.Kn p.1,B.Kn o.1];cases i:B.den N f a<;>simp [i]
   .have s:f/2≠0:=by omega
    show Q (f,AO x (Cj x),AO y (Cj x),Cj x,0,ψ,()) () l;rw[K7 o.1.1,K7 o.1.1,Agv o.1.1];refine K _ _ _ _ j o.fl p.fl s λa=>?_;unfold Db;rw[B.Kn o.1,B.Kn p.1];cases i:B.den N f a<;>simp
  .have m:h=f:=e;show B.den N 1 a=B.den N h a;rw[m,d,B.Fw]
  .have m:h=B.flip f:=e;show B.den N 0 a=B.den N h a;rw[m,B.IA j.1,B.JB];grind
 .have m:g=f:=e;show B.den N 0 a=B.den N g a;rw[m,d,B.JB]
 .have m:g=B.flip f:=e;show B.den N 1 a=B.den N g a;rw[m,B.IA j.1,B.Fw];grind
end
section
abbrev Mn.T(M:Mn):B.Tb:=Ax M.S.po
abbrev Mn.lv(M:Mn):Int->Int:=DW M.S.lv
structure MEn(M:Mn)(f g h r:Int):Prop where
 of:B.Ok M.T f
 og:B.Ok M.T g
 oh:B.Ok M.T h
 or:B.Ok M.T r
 den:B.den M.T r=Db (B.den M.T f) (B.den M.T g) (B.den M.T h)
 lev:∀k,k<=B.el M.S.n M.lv M.T f->k<=B.el M.S.n M.lv M.T g->k<=B.el M.S.n M.lv M.T h->k<=B.el M.S.n M.lv M.T r
structure MV(M:Mn):Prop where
 me:MeI M.me
 en:∀e,YV M.me e->e.full=τ->e.key.op=1->MEn M e.key.Gb.a0 e.key.Gb.a1 e.key.Gb.a2 e.r
variable {e:Int}
theorem MP{S S':B9}(h:Jk S S')(a:B.Ok (Ax S.po) e):B.el S'.n (DW S'.lv) (Ax S'.po) e=B.el S.n (DW S.lv) (Ax S.po) e:=by rw[h.n,h.lv];exact B.Qa h.Ax a
variable {M M':Mn} {f h:Int}
theorem MEn.ext{g r:Int}(a:SI M.S)(e:Jk M.S M'.S)(k:MEn M f g h r):MEn M' f g h r where
 of:=k.of.ext e.Ax
 og:=k.og.ext e.Ax
 oh:=k.oh.ext e.Ax
 or:=k.or.ext e.Ax
 den:=by show B.den (Ax M'.S.po) r=Db (B.den (Ax M'.S.po) f) (B.den (Ax M'.S.po) g) (B.den (Ax M'.S.po) h);rw[e.den a k.of,e.den a k.og,e.den a k.oh,e.den a k.or];exact k.den
 lev j d c b:=by have d:j<=B.el M'.S.n (DW M'.S.lv) (Ax M'.S.po) f:=d;have c:j<=B.el M'.S.n (DW M'.S.lv) (Ax M'.S.po) g:=c;have b:j<=B.el M'.S.n (DW M'.S.lv) (Ax M'.S.po) h:=b;rw[MP e k.of]at d;rw[MP e k.og]at c;rw[MP e k.oh]at b;show j<=B.el M'.S.n (DW M'.S.lv) (Ax M'.S.po) r;rw[MP e k.or];exact k.lev j d c b
theorem MV.ext(h:MV M)(f:SI M.S)(e:Jk M.S M'.S)(b:M'.me=M.me):MV M':=
 ⟨by rw[b];exact h.me,λg a c d=>by rw[b]at a;exact(h.en g a c d).ext f e⟩
structure NQ(M M':Mn):Prop where
 bs:DD M M'
 se:Jk M.S M'.S
 si:SI M'.S
 hs:M'.hs=M.hs
 nx:M'.nx=M.nx
 mv:MV M'
theorem DD.refl:DD M M:=⟨rfl,rfl,rfl,rfl,rfl⟩
variable {M'':Mn}
theorem DD.trans(h:DD M M')(k:DD M' M''):DD M M'':=⟨k.sb.trans h.sb,k.mb.trans h.mb,k.bl.trans h.bl,k.bp.trans h.bp,k.tb.trans h.tb⟩
theorem NQ.refl(h:SI M.S)(v:MV M):NQ M M:=⟨.refl,.refl,h,rfl,rfl,v⟩
theorem NQ.trans(h:NQ M M')(k:NQ M' M''):NQ M M'':=⟨h.bs.trans k.bs,h.se.trans k.se,k.si,k.hs.trans h.hs,k.nx.trans h.nx,k.mv⟩
def MJ(M M':Mn)(F:B.Fn):Prop:=∀R,F∈R->B.Uf M.S.n M.lv M.T R->B.Uf M'.S.n M'.lv M'.T R
theorem MJ.refl{F:B.Fn}:MJ M M F:=λ_ _ h=>h
theorem MJ.trans{F:B.Fn}(h:MJ M M' F)(k:MJ M' M'' F):MJ M M'' F:=λR a b=>k R a (h R a b)
def YT(M M':Mn)(l:Lf Y0.D):Prop:=(l=Ats 7/\M'.ws=M.ws/\M'.S.po.many=M'.S.po.room)∨∃ev,l=pEv ev/\M.ws=ev::M'.ws
abbrev Mn.At(M:Mn)(k e:Int):Prop:=YtcbkbpjlbmalmaaGreatDoor.At M.S.n M.lv M.T k e
theorem NQ.at(h:NQ M M'){k:Int}(a:M.At k e):M'.At k e:=⟨a.1.ext h.se.Ax,by have:=MP h.se a.1;show k<=B.el M'.S.n (DW M'.S.lv) (Ax M'.S.po) e;rw[this];exact a.2⟩
theorem NQ.den(h:NQ M M')(hI:SI M.S)(a:B.Ok M.T e):B.den M'.T e=B.den M.T e:=h.se.den hI a
theorem NQ.lv(h:NQ M M'):M'.lv=M.lv:=by show DW _=DW _;rw[h.se.lv]
theorem NQ.n(h:NQ M M'):M'.S.n=M.S.n:=h.se.n
def Mn.wm(M:Mn)(m:B7):Mn:={M with me:=m}
theorem NR.An7{H:HY}{c b:Nat}(a:NR H c b M)(m:B7):NR (Ac H M.mb (.st CC m)) c b (M.wm m)/\Kr b M H (Ac H M.mb (.st CC m)):=by
 refine⟨⟨?_,?_,?_,Ah _ _ _⟩,λx _ d _ _ _ _=>Ad _ _ d⟩
 .rw[Ad _ _ (Bk a.cx a.Pe.me (by decide))];exact a.cx
 .rw[Ad _ _ (Bk a.Pe.ob a.Pe.me (by decide))];exact a.Pe.ob
 .exact a.Pe.st.other a.Pe.me (by decide) (by decide) (by decide) (by decide)
theorem Ap5{n:Int}{lv:Int->Int}{N:B.Tb}(g:B.Good n lv N){g' v:Int}{c:Bool}(b:0<=v/\v<n){f1 g1 h1:Int}(p:B.Ok N f1)(i:B.Ok N g1)(o:B.Ok N h1)(l:lv v<B.el n lv N f1)(d:lv v<B.el n lv N g1)(m:lv v<B.el n lv N h1)(j:∀a,a v=c->B.den N f a=B.den N f1 a)(k:∀a,a v=c->B.den N g' a=B.den N g1 a)(e:∀a,a v=c->B.den N h a=B.den N h1 a)(a:B.As):Db (B.den N f1) (B.den N g1) (B.den N h1) a=Db (B.den N f) (B.den N g') (B.den N h) (B.Ac5 a v c):=by unfold Db;rw[j _ B.QA,k _ B.QA,e _ B.QA,g.QW p b.1 b.2 l,g.QW i b.1 b.2 d,g.QW o b.1 b.2 m]
theorem Xw{n:Int}{lv:Int->Int}{N:B.Tb}(g:B.Good n lv N){k g':Int}(i:At n lv N k f)(e:At n lv N k g')(d:At n lv N k h):B.Dep n lv k (Db (B.den N f) (B.den N g') (B.den N h)):=λa b c=>by unfold Db;rw[g.dep i.1 i.2 a b c,g.dep e.1 e.2 a b c,g.dep d.1 d.2 a b c]
end
section
def Akj(c b d:Nat):Prop:=∀(k:Int)(M:Mn)(H:HY)(f g h:Int)(F:B.Fn)(X:PX)(Q:Int×Unit->UU),NR H c b M->SI M.S->MV M->M.S.n-k<=d->k<=M.S.n->M.At k f->M.At k g->M.At k h->B.S3 M.lv k F (Db (B.den M.T f) (B.den M.T g) (B.den M.T h))->(∀M' H' l,NR H' c b M'->NQ M M'->MJ M M' F->Kr b M H H'->YT M M' l->X 231 l H')->(∀e M' H',NR H' c b M'->NQ M M'->MJ M M' F->Kr b M H H'->M'.ws=M.ws->M'.At k e->B.den M'.T e=Db (B.den M.T f) (B.den M.T g) (B.den M.T h)->Q (e,()) () H')->qK 148 DF (σ c,f,g,h,()) H Q X
variable {M:Mn}
theorem YT.step{M1 M':Mn}{l:Lf Y0.D}(c:M1.ws=M.ws)(h:YT M1 M' l):YT M M' l:=by
 rcases h with ⟨a,b,d⟩|⟨e,a,b⟩
 .exact .inl ⟨a,b.trans c,d⟩
 .exact .inr ⟨e,a,by grind⟩
theorem UW{c b:Nat}{v lo hi:Int}{F:B.Fn}{H:HY}{X:PX}{Q:Int×Unit->UU}(P:NR H c b M)(n:SI M.S)(z:MV M)(U:0<=v/\v<M.S.n)(r:M.At (M.lv v+1) lo)(t:M.At (M.lv v+1) hi)(m:B.S3 M.lv (M.lv v) F (λa=>if a v=τ then B.den M.T hi a else B.den M.T lo a))
  (I:∀M' H' l,NR H' c b M'->NQ M M'->MJ M M' F->Kr b M H H'->YT M M' l->X 231 l H')
  (h:∀e M' H',NR H' c b M'->NQ M M'->MJ M M' F->Kr b M H H'->M'.ws=M.ws->M'.At (M.lv v) e->B.den M'.T e=(λa=>if a v=τ then B.den M.T hi a else B.den M.T lo a)->Q (e,()) () H') :
  qK 127 DF (σ c,v,lo,hi,()) H Q X:=by
 refine Aq2 P n U r.1 t.1 (bt (Int.lt_succ _) r.2) (bt (Int.lt_succ _) t.2) (λJ L H' D j w=>?_) (λH' O j w=>?_) λe f H' j C o w p A y u=>?_
 .exact I _ _ _ j ⟨⟨rfl,rfl,rfl,rfl,rfl⟩,Jk.refl,n,rfl,rfl,z.ext n Jk.refl rfl⟩ MJ.refl w (.inr ⟨J,rfl,D⟩)
 .exact I _ _ _ j ⟨⟨rfl,rfl,rfl,rfl,rfl⟩,Jk.refl,n,rfl,rfl,z.ext n Jk.refl rfl⟩ MJ.refl w (.inl ⟨rfl,rfl,O⟩)
 .have x:NQ M (M.wk f):=⟨⟨rfl,rfl,o.bl,o.bp,o.tb⟩,o,C,rfl,rfl,z.ext n o rfl⟩
  have E:=x.lv
  refine h e _ _ j x (λR Y q i d hi=>?_) w rfl ⟨p,by show M.lv v<=B.el f.n (DW f.lv) _ e;rw[o.n,o.lv];exact y⟩ A
  rw[E,x.n]
  rcases u i d hi with hi|⟨hi,G⟩
  .refine(q i d hi).imp id λ⟨g,W,V⟩=>⟨g,W,?_⟩
   have s:B.Ok M.T (2*i):=by have:=(n.ib hi).1;exact⟨by omega,.inr ⟨d,by grind⟩⟩
   rw[x.den n s];exact V
  .refine .inr ⟨F,Y,?_⟩
   rw[G]
   have k:e=2*i∨e=B.flip (2*i):=by grind[B.flip]
   have s:B.Ok (M.wk f).T (2*i):=by
    rcases k with k|k
    .rw[<-k];exact p
    .have:=p.flip;rw[k,B.flip_flip]at this;exact this
   rcases k with k|k
   .rw[<-k]
    show B.S3 _ _ F (B.den (Ax f.po) e)
    grind
   .have K:B.den (M.wk f).T (2*i)=λa=>!B.den (M.wk f).T e a:=by grind[B.flip,B.flip_flip,B.IA]
    rw[K];refine B.S3.not ?_;show B.S3 _ _ F (B.den (Ax f.po) e);grind
theorem Aeg{c b d:Nat}(ih:∀d',d'<d->Akj c b d'){k:Int}{H:HY}{f g h:Int}{F:B.Fn}{t:Bool}{X:PX}{Q:Int×Unit->UU}(hC:NR H c b M)(r:SI M.S)(hV:MV M)(hd:M.S.n-k<=d)(R:M.At k f)(Y:M.At k g)(z:M.At k h)(hnc:f/2≠0)(hcof:B.S3 M.lv k F (Db (B.den M.T f) (B.den M.T g) (B.den M.T h)))(hx:∀M' i l,NR i c b M'->NQ M M'->MJ M M' F->Kr b M H i->YT M M' l->X 231 l i)(hq:∀e M' i,NR i c b M'->NQ M M'->MJ M M' F->Kr b M H i->M'.ws=M.ws->M'.At k e->B.den M'.T e=Db (B.den M.T f) (B.den M.T g) (B.den M.T h)->Q (AO e t,()) () i):qK 197 FR (M.ob.T3,1,f,g,h,()) H (λ(b_2:Int×Bool×Unit)(_:Unit)(i:HY)=>
   (b_2.2.1=τ->Q (AO b_2.1 t,()) () i)/\
   (¬b_2.2.1=τ->qK 198 Em (σ c,[f,g,h],()) i (λ(V:Int×Unit)(_:Unit)(i:HY)=>
    qK 199 NB (σ c,f,V.1,()) i (λ(b_4:Int×Int×Unit)(_:Unit)(i:HY)=>
    qK 199 NB (σ c,g,V.1,()) i (λ(b_5:Int×Int×Unit)(_:Unit)(i:HY)=>
    qK 199 NB (σ c,h,V.1,()) i (λ(b_6:Int×Int×Unit)(_:Unit)(i:HY)=>
    qK 148 DF (σ c,b_4.1,b_5.1,b_6.1,()) i (λ(b_7:Int×Unit)(_:Unit)(i:HY)=>
    qK 148 DF (σ c,b_4.2.1,b_5.2.1,b_6.2.1,()) i (λ(b_8:Int×Unit)(_:Unit)(i:HY)=>
    qK 127 DF (σ c,V.1,b_7.1,b_8.1,()) i (λ(b_9:Int×Unit)(_:Unit)(i:HY)=>
     ∃(x:Hz),i c=σ (Ob.st EM x)/\∃(b:Nat),x.m=σ b/\{m:=x.m:Hz}=x/\∃(x:Be),i b=σ (Ob.st CW x)/\{store:=x.store,T3:=x.T3,BF:=x.BF,EK:=x.EK,waits:=x.waits,calls:=x.calls:Be}=x/\
      qK 200 FQ (x.T3,1,f,g,h,b_9.1,()) i (λ(_ _:Unit)(i:HY)=>Q (AO b_9.1 t,()) () i) X) X) X) X) X) X) X) X)) X:=by
 have hn:0<=M.S.n:=B9.Lm
 have wm:∀q,q.entries=M.me.entries->q.size=M.me.size->MV (M.wm q):=λq u s=>⟨⟨by show 1<=q.size;rw[s];exact hV.me.s1,by show q.size<=_;rw[s];exact hV.me.s2,λxs hxs=>hV.me.en xs (by rw[<-u];exact hxs)⟩,λe⟨xs,h3,h4⟩R ho=>(hV.en e ⟨xs,by rw[<-u];exact h3,h4⟩ R ho).ext (M':=M.wm q) r Jk.refl⟩
 have stp1:∀q,MV (M.wm q)->NQ M (M.wm q):=λq hv=>⟨⟨rfl,rfl,rfl,rfl,rfl⟩,Jk.refl,r,rfl,rfl,hv⟩
 refine Ady hC.Pe.me hV.me (λq u s=>⟨λh=>(by cases h),λ_=>?_⟩) λq e u s hin hfu hkey=>⟨λ_=>?_,λh=>qG rfl h⟩
 .obtain⟨c1,f1⟩:=hC.An7 q
  have v1:=wm q u s
  have s1:=stp1 q v1
  generalize Ac H M.mb (.st CC q)=H1 at c1 f1
  have D:SI (M.wm q).S:=r
  refine Amc c1 D (by intro x hx;simp only[an,ad,or_false]at hx;rcases hx with rfl|rfl|rfl;exact R.1;exact Y.1;exact z.1) λv w hT=>?_
  rcases hT with ⟨_,hT⟩|⟨v0,vn,_,hle,j,hj,_,hje⟩
  .exact qG (hT 0 (by simp) (by simp)) hnc
  have lf:M.lv v<=B.el M.S.n M.lv M.T f:=hle 0 (by simp) (by simp)
  have lg:M.lv v<=B.el M.S.n M.lv M.T g:=hle 1 (by simp) (by simp)
  have lh:M.lv v<=B.el M.S.n M.lv M.T h:=hle 2 (by simp) (by simp)
  have I:0<=v/\v<M.S.n:=⟨v0,vn⟩
  have one:B.el M.S.n M.lv M.T f=M.lv v∨B.el M.S.n M.lv M.T g=M.lv v∨B.el M.S.n M.lv M.T h=M.lv v:=by
   have hj3:j<3:=hj;match j,hj3 with
   |0,_=>exact .inl hje
   |1,_=>exact .inr (.inl hje)
   |2,_=>exact .inr (.inr hje)
  have hkv:k<=M.lv v:=by have:=R.2;have:=Y.2;have:=z.2;rcases one with h|h|h<;>omega
  have hvlt:M.lv v<M.S.n:=(r.BN.od.N7 v v0 vn).2
  obtain⟨pf1,J,pf3,pf4,pf5,_⟩:=r.BN.Jo hn I R.1 lf
  obtain⟨pg1,K,pg3,pg4,Z,_⟩:=r.BN.Jo hn I Y.1 lg
  obtain⟨ph1,P,ph3,ph4,ph5,_⟩:=r.BN.Jo hn I z.1 lh
  refine Qh c1 D R.1 (Qh c1 D Y.1 (Qh c1 D z.1 ?_))
  change B.Ok M.T (B.sp M.T v f).1 at pf1
  generalize hF2:B.sp M.T v f=f2 at pf1 J pf3 pf4 pf5
  generalize hG2:B.sp M.T v g=g2 at pg1 K pg3 pg4 Z
  generalize hH2:B.sp M.T v h=s at ph1 P ph3 ph4 ph5
  have hF2':B.sp (Ax (M.wm q).S.po) v f=f2:=hF2
  have hG2':B.sp (Ax (M.wm q).S.po) v g=g2:=hG2
  have hH2':B.sp (Ax (M.wm q).S.po) v h=s:=hH2
  rw[hF2',hG2',hH2']
  obtain⟨d',hd'⟩:∃d':Nat,(d':Int)=M.S.n-(M.lv v+1):=⟨(M.S.n-(M.lv v+1)).toNat,by omega⟩
  have hdd:d'<d:=by omega
  have U:∀{x:Int},B.Ok M.T x->M.lv v<B.el M.S.n M.lv M.T x->M.At (M.lv v+1) x:=λu s=>⟨u,by omega⟩
  have cofs:∀(cc:Bool){f' g' h':Int},B.Ok M.T f'->B.Ok M.T g'->B.Ok M.T h'->M.lv v<B.el M.S.n M.lv M.T f'->M.lv v<B.el M.S.n M.lv M.T g'->M.lv v<B.el M.S.n M.lv M.T h'->
    (∀a,a v=cc->B.den M.T f a=B.den M.T f' a)->(∀a,a v=cc->B.den M.T g a=B.den M.T g' a)->(∀a,a v=cc->B.den M.T h a=B.den M.T h' a)->B.S3 M.lv (M.lv v+1) F (Db (B.den M.T f') (B.den M.T g') (B.den M.T h')):=λcc f' g' h' o1 o2 o3 l1 l2 l3 e1 e2 e3=>
   hcof.set (v:=v) (c:=cc) (by omega) hkv (Ap5 r.BN I o1 o2 o3 l1 l2 l3 e1 e2 e3) (Xw r.BN (U o1 l1) (U o2 l2) (U o3 l3))
  have lo0:∀{x x0 x1:Int},(∀a,B.den M.T x a=if a v=τ then B.den M.T x1 a else B.den M.T x0 a)->∀a,a v=ψ->B.den M.T x a=B.den M.T x0 a:=λz a ha=>by grind
  have hi1:∀{x x0 x1:Int},(∀a,B.den M.T x a=if a v=τ then B.den M.T x1 a else B.den M.T x0 a)->∀a,a v=τ->B.den M.T x a=B.den M.T x1 a:=λz a ha=>by grind
  refine ih d' hdd (M.lv v+1) (M.wm q) H1 _ _ _ F _ _ c1 D v1 (by show M.S.n-_<=_;omega) (by show _<=M.S.n;omega) (U pf1 pf3) (U pg1 pg3) (U ph1 ph3) (cofs ψ pf1 pg1 ph1 pf3 pg3 ph3 (lo0 pf5) (lo0 Z) (lo0 ph5)) (λM' i l L O E C hp=>hx M' i l L (s1.trans O) E (f1.trans C ⟨rfl,rfl,rfl,rfl,rfl⟩) (hp.step rfl)) λlo M2 H2' c2 s2 cv2 fr2 w2 at2 den2=>?_
  have n:=s1.trans s2
  have I2:=s2.si
  have den2':B.den M2.T lo=Db (B.den M.T f2.1) (B.den M.T g2.1) (B.den M.T s.1):=den2
  have n2:M2.S.n=M.S.n:=n.n
  have lv2:M2.lv=M.lv:=n.lv
  refine ih d' hdd (M.lv v+1) M2 H2' _ _ _ F _ _ c2 I2 s2.mv (by omega) (by omega) (n.at (U J pf4)) (n.at (U K pg4)) (n.at (U P ph4)) (by rw[lv2,n.den r J,n.den r K,n.den r P];exact cofs τ J K P pf4 pg4 ph4 (hi1 pf5) (hi1 Z) (hi1 ph5)) (λM' i l L O E C hp=>hx M' i l L (n.trans O) (cv2.trans E) ((f1.trans fr2 ⟨rfl,rfl,rfl,rfl,rfl⟩).trans C n.bs) (hp.step w2)) λhi T H3 c3 s3 cv3 fr3 w3 at3 den3=>?_
  have y:=n.trans s3
  have I3:=s3.si
  have n3:T.S.n=M.S.n:=y.n
  have N:T.lv=M.lv:=y.lv
  have den3':B.den T.T hi=Db (B.den M.T f2.2) (B.den M.T g2.2) (B.den M.T s.2):=by rw[den3,n.den r J,n.den r K,n.den r P]
  have W:B.den T.T lo=Db (B.den M.T f2.1) (B.den M.T g2.1) (B.den M.T s.1):=by rw[s3.den I2 at2.1];omega
  have G:(λa=>if a v=τ then B.den T.T hi a else B.den T.T lo a)=Db (B.den M.T f) (B.den M.T g) (B.den M.T h):=by funext a;rw[den3',W];unfold Db;rw[pf5 a,Z a,ph5 a];cases a v<;>rfl
  have fr13:=((f1.trans fr2 ⟨rfl,rfl,rfl,rfl,rfl⟩).trans fr3 n.bs)
  have atl:T.At (T.lv v+1) lo:=by rw[N];exact s3.at at2
  have ath:T.At (T.lv v+1) hi:=by rw[N];omega
  have dv:=Xw r.BN ⟨R.1,lf⟩ ⟨Y.1,lg⟩ ⟨z.1,lh⟩
  refine UW (F:=F) c3 I3 s3.mv (by omega) atl ath (by rw[N,G];exact hcof.A0w hkv dv) (λM' i l L O E C hp=>hx M' i l L (y.trans O) ((cv2.trans cv3).trans E) (fr13.trans C y.bs) ((hp.step w3).step w2)) λe p H4 c4 s4 cv4 fr4 w4 at4 den4=>?_
  have o:=y.trans s4
  have fr14:=fr13.trans fr4 y.bs
  have A:B.den p.T e=Db (B.den M.T f) (B.den M.T g) (B.den M.T h):=by rw[den4,G]
  have lv4:p.lv=M.lv:=o.lv
  have n4:p.S.n=M.S.n:=o.n
  have at4':p.At k e:=⟨at4.1,by have:=at4.2;rw[N]at this;exact bu hkv this⟩
  refine⟨⟨σ b⟩,c4.cx,b,rfl,rfl,p.ob,c4.Pe.ob,rfl,?_⟩
  refine Adx c4.Pe.me s4.mv.me λm4 hI4 hen=>?_
  obtain⟨c5,f5⟩:=c4.An7 m4
  have v5:MV (p.wm m4):=⟨hI4,λen hin hfu ho=>by
   rcases hen en hin hfu with h|h
   .exact(s4.mv.en en h hfu ho).ext (M':=p.wm m4) s4.si Jk.refl
   .subst h;refine⟨R.1.ext o.se.Ax,Y.1.ext o.se.Ax,z.1.ext o.se.Ax,at4.1,?_,λj u s h3=>?_⟩
    .show B.den p.T e=Db (B.den p.T f) (B.den p.T g) (B.den p.T h);rw[A,o.den r R.1,o.den r Y.1,o.den r z.1]
    .have u:j<=B.el p.S.n (DW p.S.lv) (Ax p.S.po) f:=u;have s:j<=B.el p.S.n (DW p.S.lv) (Ax p.S.po) g:=s;have h3:j<=B.el p.S.n (DW p.S.lv) (Ax p.S.po) h:=h3;rw[MP o.se R.1]at u;rw[MP o.se Y.1]at s;rw[MP o.se z.1]at h3;show j<=B.el p.S.n p.lv p.T e;have h4:=at4.2;rw[N]at h4;have u:j<=B.el M.S.n M.lv M.T f:=u;have s:j<=B.el M.S.n M.lv M.T g:=s;have h3:j<=B.el M.S.n M.lv M.T h:=h3;refine bu ?_ h4;show j<=M.lv v;rcases one with h|h|h<;>omega⟩
  have s5:NQ p (p.wm m4):=⟨⟨rfl,rfl,rfl,rfl,rfl⟩,Jk.refl,s4.si,rfl,rfl,v5⟩
  exact hq e (p.wm m4) _ c5 (o.trans s5) ((cv2.trans cv3).trans cv4) (fr14.trans f5 o.bs) (w4.trans (w3.trans w2)) at4' A
 .obtain⟨c1,f1⟩:=hC.An7 q
  have v1:=wm q u s
  have en:=hV.en e hin hfu (by rw[hkey])
  rw[hkey]at en
  refine hq e.r (M.wm q) _ c1 (stp1 q v1) MJ.refl f1 rfl ⟨en.or,en.lev k R.2 Y.2 z.2⟩ en.den
end
theorem Aml{n k:Int}{lv:Int->Int}{N:B.Tb}{e:Int}{t:Bool}(h:At n lv N k e):At n lv N k (AO e t):=by
 unfold AO;split
 .exact h.flip
 omega
theorem Ahg{N:B.Tb}{e:Int}{t:Bool}(h:B.Ok N e):B.den N (AO e t)=λa=>(t ^^ B.den N e a):=by
 unfold AO;cases t
 .simp
 simp_all[B.IA]
theorem Xh(a b:Bool):not (ω (a=τ)==ω (b=τ))=(a ^^ b):=by cases a<;>cases b<;>rfl
theorem Ap4{c b:Nat}:∀d,Akj c b d:=by
 intro d;induction d using Nat.strongRecOn with
 |_ d ih=>
 intro k M H f g h F X Q u T hV hd hk hf hg hh J hx hq;apply Ab1;unfold TW;refine⟨λn x y=>y=H/\M.At k x.1/\M.At k x.2.1/\M.At k x.2.2.1/\(∀a,Db (B.den M.T x.1) (B.den M.T x.2.1) (B.den M.T x.2.2.1) a=(x.2.2.2.1 ^^ Db (B.den M.T f) (B.den M.T g) (B.den M.T h) a))/\n=3-x.2.2.2.2.1/\x.2.2.2.2.1<=3/\(0<x.2.2.2.2.1->x.1/2≠0),⟨3,rfl,hf,hg,hh,λa=>by simp,rfl,ac _,λh=>qG h (Nat.lt_irrefl 0)⟩,?_⟩;rintro n ⟨v,A,z,j,m,_⟩ y ⟨rfl,K,E,I,L,G,C,s⟩;have hn:n=3-m:=G;have hm:m<=3:=C;have hnc:0<m->v/2≠0:=s;replace K:M.At k v:=K;replace E:M.At k A:=E;replace I:M.At k z:=I;replace L:∀a,Db (B.den M.T v) (B.den M.T A) (B.den M.T z) a=(j ^^ Db (B.den M.T f) (B.den M.T g) (B.den M.T h) a):=L;have q:B.S3 M.lv k F (Db (B.den M.T v) (B.den M.T A) (B.den M.T z)):=by rw[show Db (B.den M.T v) (B.den M.T A) (B.den M.T z)=λa=>(j ^^ Db (B.den M.T f) (B.den M.T g) (B.den M.T h) a) from funext L];exact J.sign j
 have l:∀e o w,NR w c b o->NQ M o->MJ M o F->Kr b M y w->o.ws=M.ws->o.At k e->B.den o.T e=Db (B.den M.T v) (B.den M.T A) (B.den M.T z)->Q (AO e j,()) () w:=λe o w c1 c2 Y V W P S=>by refine hq _ o w c1 c2 Y V W (Aml P) ?_;rw[Ahg P.1,S];funext a;rw[L a];cases j<;>simp
 refine⟨λhlt=>Aex hk K E I (λr hr D=>⟨λ_=>l r M y u (NQ.refl T hV) MJ.refl Kr.refl rfl hr D,λh=>qG rfl h⟩) (λa b' R t ha hb hc p N=>⟨λh=>(by cases h),λ_=>?_⟩),λU=>?_⟩
 .have hlt':m<3:=hlt;have i:m+1<=9223372036854775807/\∃(m':Nat),m'<n/\(y=y/\M.At k a/\M.At k b'/\M.At k R/\(∀x,Db (B.den M.T a) (B.den M.T b') (B.den M.T R) x=((not (ω (j=τ)==ω (t=τ))) ^^ Db (B.den M.T f) (B.den M.T g) (B.den M.T h) x))/\m'=3-(m+1)/\m+1<=3/\(0<m+1->a/2≠0)):=
   ⟨by grind,3-(m+1),by omega,rfl,ha,hb,hc,λx=>by rw[N x,L x,Xh];cases t<;>cases j<;>simp,rfl,by omega,λ_=>p⟩
  refine⟨λO=>⟨λZ=>⟨λe3=>?_,λ_=>i⟩,λ_=>i⟩,λ_=>i⟩;have O:a=v:=O;have Z:b'=A:=Z;have e3:R=z:=e3;have ht:t=ψ:=by have:=N (λ_=>ψ);grind
  subst ht;have et:(not (ω (j=τ) == ω (ψ=τ)))=j:=by simp
  refine⟨c,rfl,⟨σ b⟩,u.cx,b,rfl,rfl,M.ob,u.Pe.ob,rfl,?_⟩;exact Aeg (t:=not (ω (j=τ)==ω (ψ=τ))) ih u T hV hd K E I (O▸p) q hx λe o w c1 c2 Y V W P S=>by grind
 .have hge':¬m<3:=U;refine⟨c,rfl,⟨σ b⟩,u.cx,b,rfl,rfl,M.ob,u.Pe.ob,rfl,?_⟩;exact Aeg (t:=j) ih u T hV hd K E I (hnc (by omega)) q hx l
theorem ZI{c b:Nat}{M:Mn}{f g h:Int}{H:HY}{X:PX}{Q:Int×Unit->UU}(o:NR H c b M)(d:SI M.S)(u:MV M)(i:B.Ok M.T f)(k:B.Ok M.T g)(j:B.Ok M.T h)(q:∀M' H' l,NR H' c b M'->NQ M M'->MJ M M' (Db (B.den M.T f) (B.den M.T g) (B.den M.T h))->Kr b M H H'->YT M M' l->X 231 l H')(t:∀e M' H',NR H' c b M'->NQ M M'->MJ M M' (Db (B.den M.T f) (B.den M.T g) (B.den M.T h))->Kr b M H H'->M'.ws=M.ws->B.Ok M'.T e->B.den M'.T e=Db (B.den M.T f) (B.den M.T g) (B.den M.T h)->Q (e,()) () H'):qK 148 DF (σ c,f,g,h,()) H Q X:=by
 have m:0<=M.S.n:=B9.Lm;have a:∀{e:Int},B.Ok M.T e->M.At 0 e:=λh=>⟨h,(d.BN.XH h m).1⟩
 exact Ap4 M.S.n.toNat 0 M H f g h _ X Q o d u (by omega) m (a i) (a k) (a j) (B.S3.refl (Xw d.BN (a i) (a k) (a j))) q λe M' H' r x w n v p s=>t e M' H' r x w n v p.1 s
end Go.Proofs.YtcbkbpjlbmalmaaGreatDoor
namespace Go.Proofs.YtcbkbpjlbmalmaaGreatDoor
open Go Go.X Go.Y Go.RowKit
section
set_option maxRecDepth 20000
section
variable {P:Program} {N:Nat} {f:Fr} {w w':World} {cs cs':List Frame} {ops:Array Oper} {Q:Exit->Act->List Frame->World->Prop}
def WS(P:Program)(N:Nat)(ops:Array Oper)(Q:Exit->Act->List Frame->World->Prop)(l:List Nat)(f:Fr)(cs:List Frame)(w:World):Prop:=∀arr,Is N arr f->wpOpsS P ops Q l ⟨arr,[]⟩ cs w
def WC(P:Program)(N:Nat)(Q:Exit->Act->List Frame->World->Prop)(c:Code)(f:Fr)(cs:List Frame)(w:World):Prop:=∀arr,Is N arr f->c.wpS P Q ⟨arr,[]⟩ cs w
theorem Axk(h:∀arr,Is N arr f->Q .normal ⟨arr,[]⟩ cs w):WS P N ops Q [] f cs w:=λ_ a=>h _ a
variable {y:Code}
theorem SF(h:WC P N Q y f cs w):WS P N ops (Exit.thenS (λa cs w=>y.wpS P Q a cs w) Q) [] f cs w:=λb c=>h b c
variable {o:Oper}
theorem Pk{y:Nat->Option Bool}(a:o.guard=δ):Region.wanted o y=τ:=by grind[Region.wanted]
variable {i:Nat} {l:List Nat} {d:Option Tmp} {v:Value}
theorem Kd(g:ops[i]?=σ o)(m:o.dst=d)(k:o.guard=δ)(j:(execOp (ev f) o).run P w=.ok (.value v) w')(h:WS P N ops Q l (put N f d v) cs w'):WS P N ops Q (i::l) f cs w:=λa c=>by
 subst m;obtain⟨p,n,e⟩:=c.put (ds:=[]) o.dst v;have b:(execOp (Act.eval ⟨a,[]⟩) o).run P w=.ok (.value v) w':=by grind[Hu]
 simp  [wpOpsS,g,Pk k,b,Oper.upon,n];exact h p e
theorem Ah4(e:ops[i]?=σ o)(k:o.dst=d)(n:o.guard=δ)(g:(execOp (ev f) o).run P w=.ok .skip w')(h:WS P N ops Q l (put N f d undef) cs w'):WS P N ops Q (i::l) f cs w:=λb c=>by
 subst k;obtain⟨p,m,j⟩:=c.put (ds:=[]) o.dst undef;have a:(execOp (Act.eval ⟨b,[]⟩) o).run P w=.ok .skip w':=by grind[Hu]
 simp  [wpOpsS,e,Pk n,a,Oper.upon,m];exact h p j
theorem Axj(p:ops[i]?=σ o)(n:o.dst=d)(m:o.guard=δ)(j:(execOp (ev f) o).run P w=.ok .recover w')(a:recoverD cs=σ (v,cs'))(h:WS P N ops Q l (put N f d v) cs' w'):WS P N ops Q (i::l) f cs w:=λb e=>by
 subst n;obtain⟨g,k,q⟩:=e.put (ds:=[]) o.dst v;have c:(execOp (Act.eval ⟨b,[]⟩) o).run P w=.ok .recover w':=by grind[Hu]
 simp  [wpOpsS,p,Pk m,c,a,k];exact h g q
theorem LM{id:Nat}(h:WS P N ops Q (List.range ops.size) f cs w):WC P N Q (.region id ops ψ) f cs w:=λa b=>wpS_region (h a b)
theorem Pj{x:Code}(h:WC P N (Exit.thenS (λa cs w=>y.wpS P Q a cs w) Q) x f cs w):WC P N Q (.seq x y) f cs w:=λb c=>wpS_seq (h b c)
theorem ZY{c:Operand}{x:Code}{t:Bool}(d:ev f c=.bool t)(h:WC P N Q (if t then x else y) f cs w):WC P N Q (.cond c x y) f cs w:=λa b=>wpS_cond  (by rw[Hu b];exact d) (h a b)
theorem Ah6(h:∀arr,Is N arr f->Q .normal ⟨arr,[]⟩ cs w):WC P N Q .skip f cs w:=λ_ a=>wpS_of_wp (wp_skip (h _ a))
theorem Axn(h:∀arr,Is N arr f->Q .ret ⟨arr,[]⟩ cs w):WC P N Q .ret f cs w:=λ_ a=>wpS_of_wp (wp_ret (h _ a))
theorem Ja{op:Op}{ty:TypeId}(h:∀(a:String)(b:Array Edge)(K:Fr->World->Prop),K (put 1 f (σ 0) v) w'->WL P 1 #[] (λ_ _=>False) τ K [⟨σ 0,op,ty,a,b,δ⟩] f w)(dst:Option Tmp)(a:String)(b:Array Edge):(execOp (ev f) ⟨dst,op,ty,a,b,δ⟩).run P w=.ok (.value v) w':=by
 have c:=h a b (λi d=>i 0=v/\d=w') ⟨rfl,rfl⟩;simp  [WL]at c;obtain⟨g,d,e,j,k⟩:=Aca _ c;have l:g=v:=by simp_all[put,DO]
 rw[l,k]at e;exact e
end
variable {v:Value}
theorem Dw{N d:Nat}{f:Fr}(h:d<N):put N f (σ d) v d=v:=by simp [put,DO,h]
theorem Bg{N d j:Nat}{f:Fr}(h:j≠d):put N f (σ d) v j=f j:=by simp [put,DO,h]
theorem Az5{vs:List Value}{n:Nat}:Is (ν vs+n) (⟨vs⟩++ca n undef) (YE vs):=by refine⟨by simp,λi=>?_⟩;rw[<-MT,ap,ay];grind
theorem Aco{P:Program}{N n:Nat}{Q:Exit->Act->List Frame->World->Prop}{c:Code}{vs:List Value}{cs:List Frame}{w:World}(hN:ν vs+n=N)(h:WC P N Q c (YE vs) cs w):c.wpS P Q {tmps:=⟨vs⟩++ca n undef,defers:=[]} cs w:=h _ (hN▸Az5)
theorem Anq{bd bs:Nat}{w:World}{ed:TypeId}{I:Cb}{T:Bi}(hs:St I w ([(bd,.cells #[.bool τ] ed (0,0))]++T)):CallsD Y0.P 256 ⟨[.pointer (σ ⟨bd,0,δ⟩),.pointer (σ ⟨bs,0,δ⟩)]⟩ .returning w λe u' w'=>e=.returned (.tuple #[])/\u'=.returning/\w'=w:=by refine callsD_of_wpS (fn:=Tryz.f256) (by kernel_rfl) rfl λc₀ cs hu=>?_;refine Aco (N:=16) (n:=14) rfl ?_;refine Pj (Pj (LM (Kd (d:=σ 5) (i:=0) (l:=[]) rfl rfl rfl (Ja (w':=w) (v:=.bool τ) (λpos af K hk=>Wd (by kernel_rfl) hs rfl rfl hk) _ _ _) (SF ?_))));refine ZY (t:=τ) (Dw (by decide)) (Axn λarr' ha'=>?_);exact⟨rfl,.returning,by cases c₀;cases hu;rfl,.tuple #[],results_none rfl _ _ _,rfl,rfl,rfl⟩
theorem U4{P:Program}{f:Fr}{w:World}{e:TypeId}{z:Value}(a:zrB P e z)(dst:Option Tmp)(ty:TypeId)(b:String)(d:Array Edge):(execOp (ev f) ⟨dst,.alloc e,ty,b,d,δ⟩).run P w=.ok (.value (.pointer (σ ⟨w.heap.size,0,δ⟩))) (w.alloc (.cells z.cells e)):=by
 unfold zrB at a;cases c:P.info? e with
 |none=>grind
 |some i=>
  simp  [c]at a;simp_all[execOp,Instr.alloc,newVar,newRow,zeroValue,typeInfo]
variable {x:Operand}
theorem Nu{P:Program}{f:Fr}{w:World}(h:ev f x=v)(dst:Option Tmp)(ty:TypeId)(pos:String)(af:Array Edge):(execOp (ev f) ⟨dst,.move x,ty,pos,af,δ⟩).run P w=.ok (.value v) w:=by simp [execOp,h]
theorem Om{P:Program}{f:Fr}{w:World}(h:ev f x=v)(dst:Option Tmp)(ty:TypeId)(pos:String)(af:Array Edge):(execOp (ev f) ⟨dst,.assign x,ty,pos,af,δ⟩).run P w=.ok (.value v) w:=by simp [execOp,h]
theorem Aak{P:Program}{f:Fr}{w w':World}{t:TypeId}{y:Operand}{p:Value}(b:ev f x=p)(c:ev f y=v)(h:(Instr.storeAt t p v).run P w=.ok () w')(dst:Option Tmp)(ty:TypeId)(a:String)(d:Array Edge):(execOp (ev f) ⟨dst,.store t x y,ty,a,d,δ⟩).run P w=.ok .skip w':=by simp_all[execOp]
theorem Anr{bd bs:Nat}{w:World}{ed es:TypeId}{ar:Array Value}{I:Cb}{T:Bi}{u:Value}{st:FN}(hs:St I w ([(bs,.cells ar es (0,0))]++([(bd,.cells #[.bool ψ] ed (0,0))]++T)))(has:ar.size=5)(hu:rp Y0.toUS (.u 15) I w u st):CallsD Y0.P 256 ⟨[.pointer (σ ⟨bd,0,δ⟩),.pointer (σ ⟨bs,0,δ⟩)]⟩ (.panicking [{v:=.iface 231 u,recovered:=ψ}]) w λe u' w'=>e=.returned (.tuple #[])/\u'=.panicking [{v:=.iface 231 u,recovered:=τ}]/\Ext I w I w'/\∃row:Array Value,row.toList=u.cells.toList/\St I w' ([(bs,.cells row es (0,0))]++([(bd,.cells #[.bool ψ] ed (0,0))]++T)):=by
 obtain⟨us,rfl,hF⟩:=HO.1 hu;have hus:ν us=5:=by rw[hF.len];rfl
 have huc:(Value.agg ⟨us⟩).cells=⟨us⟩:=rfl;have hone:∀v∈(Value.agg ⟨us⟩).cells.toList,v.oneCell'=τ:=Yh hF QT;have h231:Q5 Y0.P 231 τ 5=τ:=by kernel_rfl
 have hz:∃z,zrB Y0.P 231 z/\z.cells.size=5:=⟨.agg #[.int .i64 0,.bool ψ,.int .i64 0,.int .i64 0,.int .i64 0],by unfold zrB;kernel_rfl,rfl⟩
 obtain⟨z,hz1,hz2⟩:=hz;have hst:GG Y0.P 231 Ae1=τ:=by kernel_rfl
 obtain⟨fs,hfs⟩:∃fs,Y0.P.underlying 231=σ (.struct fs):=by
  unfold GG at hst;split at hst
  .rename_i d hd;cases d<;>simp [Ae1]at hst;exact⟨_,hd⟩
  .cases hst
 refine callsD_of_wpS (fn:=Tryz.f256) (by kernel_rfl) rfl λc₀ cs hm=>?_;refine Aco (N:=16) (n:=14) rfl ?_;have hrec:recoverD (c₀::cs)=σ (.iface 231 (.agg ⟨us⟩),{c₀ with mode:=.panicking [{v:=.iface 231 (.agg ⟨us⟩),recovered:=τ}]}::cs):=by simp [recoverD,hm]
 generalize hf0:YE [.pointer (σ ⟨bd,0,δ⟩),.pointer (σ ⟨bs,0,δ⟩)]=f;have f0:f 0=.pointer (σ ⟨bd,0,δ⟩):=by rw[<-hf0];rfl
 have f1:f 1=.pointer (σ ⟨bs,0,δ⟩):=by rw[<-hf0];rfl
 refine Pj (Pj (LM (Kd (d:=σ 5) (i:=0) (l:=[]) rfl rfl rfl (Ja (w':=w) (v:=.bool ψ) (λpos af K hk=>Wd (by kernel_rfl) hs.Y2 (by exact f0) rfl hk) _ _ _) (SF ?_))));refine ZY (t:=ψ) (Dw (by decide)) (Ah6 λarr ha=>?_);refine(?_:WC _ 16 _ _ _ _ _) arr ha;refine Pj (LM (Axj (d:=σ 6) (i:=0) (l:=[1]) rfl rfl rfl (by simp [execOp,resolve,invoke,builtin];rfl) hrec ?_));refine Kd (d:=σ 2) (i:=1) (l:=[]) (v:=.iface 231 (.agg ⟨us⟩)) rfl rfl rfl (Om ?_ _ _ _ _) (SF ?_)
 .exact Dw (by decide)
 generalize hg:put 16 (put 16 (put 16 f (σ 5) (.bool ψ)) (σ 6) (.iface 231 (.agg ⟨us⟩))) (σ 2) (.iface 231 (.agg ⟨us⟩))=g;have g1:g 1=.pointer (σ ⟨bs,0,δ⟩):=by rw[<-hg,Bg (by decide),Bg (by decide),Bg (by decide),f1]
 have g2:g 2=.iface 231 (.agg ⟨us⟩):=by rw[<-hg];exact Dw (by decide)
 change WC _ _ _ _ g _ _;refine Pj (LM (Kd (d:=σ 8) (i:=0) (l:=[1,2,3,4,5,6,7]) (v:=.iface 231 (.agg ⟨us⟩)) rfl rfl rfl (Nu ?_ _ _ _ _) ?_))
 .exact g2
 refine Kd (w':=w) (d:=σ 9) (i:=1) (v:=.tuple #[.agg ⟨us⟩,.bool τ]) rfl rfl rfl ?_ ?_
 .have:ev (put 16 g (σ 8) (.iface 231 (.agg ⟨us⟩))) (.tmp 8)=.iface 231 (.agg ⟨us⟩):=Dw (by decide);simp [execOp,Instr.typeAssert,this,run_underlying hfs]
 refine Kd (d:=σ 7) (i:=2) (v:=.tuple #[.agg ⟨us⟩,.bool τ]) rfl rfl rfl (Nu ?_ _ _ _ _) ?_
 .exact Dw (by decide)
 generalize hg2:put 16 (put 16 (put 16 g (σ 8) (.iface 231 (.agg ⟨us⟩))) (σ 9) (.tuple #[.agg ⟨us⟩,.bool τ])) (σ 7) (.tuple #[.agg ⟨us⟩,.bool τ])=k;have k1:k 1=.pointer (σ ⟨bs,0,δ⟩):=by rw[<-hg2,Bg (by decide),Bg (by decide),Bg (by decide),g1]
 have k7:k 7=.tuple #[.agg ⟨us⟩,.bool τ]:=by rw[<-hg2];exact Dw (by decide)
 change WS _ _ _ _ _ k _ _;refine Kd (w':=w) (d:=σ 10) (i:=3) (v:=.agg ⟨us⟩) rfl rfl rfl ?_ ?_
 .have:ev k (.tmp 7)=.tuple #[.agg ⟨us⟩,.bool τ]:=k7;simp [execOp,Instr.extract,this]
 refine Kd (w':=w) (d:=σ 11) (i:=4) (v:=.bool τ) rfl rfl rfl ?_ ?_
 .have:ev (put 16 k (σ 10) (.agg ⟨us⟩)) (.tmp 7)=.tuple #[.agg ⟨us⟩,.bool τ]:=by show put 16 k (σ 10) _ 7=_;rw[Bg (by decide),k7]
  simp [execOp,Instr.extract,this]
 obtain⟨e1,s1⟩:=hs.alloc (.cells z.cells 231);refine Kd (d:=σ 3) (i:=5) (v:=.pointer (σ ⟨w.heap.size,0,δ⟩)) rfl rfl rfl (U4 hz1 _ _ _ _) ?_;generalize hg3:put 16 (put 16 (put 16 k (σ 10) (.agg ⟨us⟩)) (σ 11) (.bool τ)) (σ 3) (.pointer (σ ⟨w.heap.size,0,δ⟩))=m;have m1:m 1=.pointer (σ ⟨bs,0,δ⟩):=by rw[<-hg3,Bg (by decide),Bg (by decide),Bg (by decide),k1]
 have m3:m 3=.pointer (σ ⟨w.heap.size,0,δ⟩):=by rw[<-hg3];exact Dw (by decide)
 have m10:m 10=.agg ⟨us⟩:=by rw[<-hg3,Bg (by decide),Bg (by decide)];exact Dw (by decide)
 have m11:m 11=.bool τ:=by rw[<-hg3,Bg (by decide)];exact Dw (by decide)
 change WS _ _ _ _ _ m _ _;obtain⟨w2,row2,r2,e2,s2,hr2⟩:=Go.Y.storeCells (P:=Y0.P) (t:=231) (y:=.agg ⟨us⟩) (o:=0) (n:=5) h231 s1 (by rw[huc];exact hus) hone (by omega);refine Ah4 (d:=δ) (i:=6) (w':=w2) rfl rfl rfl (Aak (p:=.pointer (σ ⟨w.heap.size,0,δ⟩)) (v:=.agg ⟨us⟩) ?_ ?_ r2 _ _ _ _) ?_
 .exact m3
 .exact m10
 have hr2':row2.toList=us:=by
  rw[hr2,huc];have:ν z.cells.toList=5:=by simpa using hz2
  simp [bg,this]
 refine Kd (d:=σ 4) (i:=7) (l:=[]) (v:=.bool τ) rfl rfl rfl (Om ?_ _ _ _ _) (SF ?_)
 .exact m11
 refine Pj (Pj (LM (Kd (d:=σ 12) (i:=0) (l:=[1]) (v:=.bool τ) rfl rfl rfl (Nu ?_ _ _ _ _) ?_)))
 .exact Dw (by decide)
 refine Kd (w':=w2) (d:=σ 13) (i:=1) (l:=[]) (v:=.bool ψ) rfl rfl rfl ?_ (SF ?_)
 .have:ev (put 16 (put 16 (put 16 m δ undef) (σ 4) (.bool τ)) (σ 12) (.bool τ)) (.tmp 12)=.bool τ:=Dw (by decide);simp only[execOp];rfl
 refine ZY (t:=ψ) (Dw (by decide)) (Ah6 λarr2 ha2=>?_);refine(?_:WC _ 16 _ _ _ _ _) arr2 ha2;generalize hg4:put 16 (put 16 (put 16 (put 16 m δ undef) (σ 4) (.bool τ)) (σ 12) (.bool τ)) (σ 13) (.bool ψ)=p;have p1:p 1=.pointer (σ ⟨bs,0,δ⟩):=by rw[<-hg4,Bg (by decide),Bg (by decide),Bg (by decide)];exact m1
 have p3:p 3=.pointer (σ ⟨w.heap.size,0,δ⟩):=by rw[<-hg4,Bg (by decide),Bg (by decide),Bg (by decide)];exact m3
 refine LM (Kd (d:=σ 15) (i:=0) (l:=[1]) (v:=.agg ⟨us⟩) (w':=w2) rfl rfl rfl (Ja (λpos af K hk=>Tq (n:=5) h231 s2 (by exact p3) (vs:=us) (by rw[hr2',<-hus];simp) hus hk) _ _ _) ?_);have s3:St I w2 ([(bs,.cells ar es (0,0))]++([(w.heap.size,.cells row2 231 (0,0))]++([(bd,.cells #[.bool ψ] ed (0,0))]++T))):=s2.Y2;obtain⟨w3,row3,r3,e3,s4,hr3⟩:=Go.Y.storeCells (P:=Y0.P) (t:=231) (y:=.agg ⟨us⟩) (o:=0) (n:=5) h231 s3 (by rw[huc];exact hus) hone (by omega);refine Ah4 (d:=δ) (i:=1) (l:=[]) (w':=w3) rfl rfl rfl (Aak (p:=.pointer (σ ⟨bs,0,δ⟩)) (v:=.agg ⟨us⟩) ?_ ?_ r3 _ _ _ _) (Axk λarr3 ha3=>?_)
 .show put 16 p (σ 15) _ 1=_;rw[Bg (by decide),p1]
 .exact Dw (by decide)
 have hr3':row3.toList=us:=by
  rw[hr3,huc];have:ν ar.toList=5:=by simpa using has
  simp [bg,this]
 refine⟨rfl,.panicking [{v:=.iface 231 (.agg ⟨us⟩),recovered:=τ}],rfl,.tuple #[],results_none rfl _ _ _,rfl,rfl,e1.trans (e2.trans e3),row3,by rw[hr3',huc],?_⟩;have:St I w3 ([(w.heap.size,.cells row2 231 (0,0))]++([(bs,.cells row3 es (0,0))]++([(bd,.cells #[.bool ψ] ed (0,0))]++T))):=s4.Y2;exact this.drop
end
section
set_option maxRecDepth 100000
set_option maxHeartbeats 1000000
noncomputable def Yn:Go.Y.Sys:={Y0 with gls:=λ_=>δ}
theorem A3n(a:Jl Yn [G6])(F:Jl Yn [.bool]):((ω ¬a.1=a.1,PUnit.unit)=F)=pfP (Y:=Yn) (λ_=>δ) Tryz.f265 [G6] [.bool] a F:=by kernel_rfl
noncomputable def A2r:PF Yn 265 where
 ta:=[G6]
 tr:=[.bool]
 N6:=δ
 F a:=(ψ,())
 pa:=rfl
 pr:=rfl
 can:=by kernel_rfl
 ok a hr _ I w hG:=Mj (pf:=λ_=>δ) (fn:=Tryz.f265) (by kernel_rfl) rfl rfl hr (Eq.mp (A3n a _) (by show (ω ¬a.1=a.1,())=(ψ,());simp)) I w hG
theorem Azd(a:Jl Yn [G6])(F:Jl Yn [.bool]):((ω ¬a.1=a.1,PUnit.unit)=F)=pfP (Y:=Yn) (λ_=>δ) Tryz.f280 [G6] [.bool] a F:=by kernel_rfl
noncomputable def Ayq:PF Yn 280 where
 ta:=[G6]
 tr:=[.bool]
 N6:=δ
 F a:=(ψ,())
 pa:=rfl
 pr:=rfl
 can:=by kernel_rfl
 ok a hr _ I w hG:=Mj (pf:=λ_=>δ) (fn:=Tryz.f280) (by kernel_rfl) rfl rfl hr (Eq.mp (Azd a _) (by show (ω ¬a.1=a.1,())=(ψ,());simp)) I w hG
noncomputable def pfC:(q:FuncId)->Option (PF Yn q)
 |265=>σ A2r
 |280=>σ Ayq
 |_=>δ
def Jj(x y:Int):Int:=if x<y then -1 else if y<x then 1 else 0
theorem A4d(a:Jl Yn [G6,G6])(F:Jl Yn [G6]):((ψ=τ->(ψ=τ->((0:Int),PUnit.unit)=F)/\(¬ψ=τ->((-1:Int),PUnit.unit)=F))/\(¬ψ=τ->(ψ=τ->((1:Int),PUnit.unit)=F)/\(¬ψ=τ->(a.1<a.2.1->((-1:Int),PUnit.unit)=F)/\(¬a.1<a.2.1->(a.2.1<a.1->((1:Int),PUnit.unit)=F)/\(¬a.2.1<a.1->((0:Int),PUnit.unit)=F)))))=pfP (Y:=Yn) pfC Tryz.f272 [G6,G6] [G6] a F:=by kernel_rfl
theorem Amf(x y:Int)(hx:Bl .i64 x)(hy:Bl .i64 y)(w:World):Calls Y0.P 272 #[.int .i64 x,.int .i64 y] w λe w'=>e=.returned (.int .i64 (Jj x y))/\w'=w:=by
 have h:=Mj (Y:=Yn) (pf:=pfC) (fn:=Tryz.f272) (q:=272) (a:=(show Jl Yn [G6,G6] from (x,y,()))) (F:=(show Jl Yn [G6] from (Jj x y,()))) (by kernel_rfl) rfl rfl ⟨hx,hy,trivial⟩ (Eq.mp (A4d (x,y,()) (Jj x y,())) (by
  refine⟨λh=>qG h (by simp),λ_=>⟨λh=>qG h (by simp),λ_=>⟨λh=>?_,λh=>⟨λh2=>?_,λh2=>?_⟩⟩⟩⟩
  .have h':x<y:=h;show ((-1:Int),())=(Jj x y,());unfold Jj;rw[UV h']
  .have h':¬x<y:=h;have h2':y<x:=h2;show ((1:Int),())=(Jj x y,());unfold Jj;rw[GT h',UV h2']
  .have h':¬x<y:=h;have h2':¬y<x:=h2;show ((0:Int),())=(Jj x y,());unfold Jj;rw[GT h',GT h2'])) (λ_=>False) w ⟨λ_ h=>h.elim,λg q hq=>by cases hq⟩
 exact Calls.mono h λe w' he=>⟨he.1,he.2.1⟩
theorem A04(a:Jl Yn [G6,G6])(F:Jl Yn [G6]):((ψ=τ->(ψ=τ->((0:Int),PUnit.unit)=F)/\(¬ψ=τ->((-1:Int),PUnit.unit)=F))/\(¬ψ=τ->(ψ=τ->((1:Int),PUnit.unit)=F)/\(¬ψ=τ->(a.1<a.2.1->((-1:Int),PUnit.unit)=F)/\(¬a.1<a.2.1->(a.2.1<a.1->((1:Int),PUnit.unit)=F)/\(¬a.2.1<a.1->((0:Int),PUnit.unit)=F)))))=pfP (Y:=Yn) pfC Tryz.f273 [G6,G6] [G6] a F:=by kernel_rfl
theorem XU(x y:Int)(hx:Bl .i64 x)(hy:Bl .i64 y)(w:World):Calls Y0.P 273 #[.int .i64 x,.int .i64 y] w λe w'=>e=.returned (.int .i64 (Jj x y))/\w'=w:=by
 have h:=Mj (Y:=Yn) (pf:=pfC) (fn:=Tryz.f273) (q:=273) (a:=(show Jl Yn [G6,G6] from (x,y,()))) (F:=(show Jl Yn [G6] from (Jj x y,()))) (by kernel_rfl) rfl rfl ⟨hx,hy,trivial⟩ (Eq.mp (A04 (x,y,()) (Jj x y,())) (by
  refine⟨λh=>qG h (by simp),λ_=>⟨λh=>qG h (by simp),λ_=>⟨λh=>?_,λh=>⟨λh2=>?_,λh2=>?_⟩⟩⟩⟩
  .have h':x<y:=h;show ((-1:Int),())=(Jj x y,());unfold Jj;rw[UV h']
  .have h':¬x<y:=h;have h2':y<x:=h2;show ((1:Int),())=(Jj x y,());unfold Jj;rw[GT h',UV h2']
  .have h':¬x<y:=h;have h2':¬y<x:=h2;show ((0:Int),())=(Jj x y,());unfold Jj;rw[GT h',GT h2'])) (λ_=>False) w ⟨λ_ h=>h.elim,λg q hq=>by cases hq⟩
 exact Calls.mono h λe w' he=>⟨he.1,he.2.1⟩
end
section
set_option maxRecDepth 100000
set_option maxHeartbeats 1000000
def orI(l:Nat->Int):Int:=if l 0=0 then if l 1=0 then l 2 else l 1 else l 0
theorem Aov{W:World}{rb:Nat}{e:TypeId}{fr:Nat×Nat}{cs:Array Value}{l:Nat->Int}(hb:W.heap[rb]?=σ (.cells cs e fr))(hc:∀j,j<3->cs[j]?=σ (.int .i64 (l j))):Calls Y0.P 271 #[.slice (σ ⟨rb,0,δ⟩) 3 3] W λe w'=>e=.returned (.int .i64 (orI l))/\w'=W:=by
 refine Jg (F:=Tryz.f271) (N:=18) (vs:=[.slice (σ ⟨rb,0,δ⟩) 3 3]) (by kernel_rfl) rfl rfl (by simp) ?_;have hs23:Yl Y0.P 23 3 1 8=τ:=by kernel_rfl
 have h3:Q5 Y0.P 3 ψ 1=τ:=by kernel_rfl
 generalize hf0:YE [.slice (σ ⟨rb,0,δ⟩) 3 3]=f0;have f00:f0 0=.slice (σ ⟨rb,0,δ⟩) 3 3:=by rw[<-hf0];rfl
 have ret:∀{f:Fr}{k:List Item},f 2=.int .i64 (orI l)->WT Y0.P ⟨271,δ,[]⟩ 18 (.code .ret::k) (Amr Y0.P Tryz.f271 18 λe w'=>e=.returned (.int .i64 (orI l))/\w'=W) f W:=λ{f k}h2=>
  NU ⟨.int .i64 (orI l),λa ha=>by refine Hf (vs:=[.int .i64 (orI l)]) ?_;have hR:Tryz.f271.results.toList=[.tmp 2]:=rfl;have h4:=ha.2 2;rw[h2,ap]at h4;rw[hR];simp [cb,Rs,h4],rfl,rfl⟩
 refine DE (CK (Ao (v:=.int .i64 0) (Om rfl _ _ _ _) ?_));refine DE (CK (Ao (v:=.int .i64 0) (Om rfl _ _ _ _) ?_));generalize hf1:put 18 (put 18 f0 (σ 2) (.int .i64 0)) (σ 3) (.int .i64 0)=f1;have f10:f1 0=.slice (σ ⟨rb,0,δ⟩) 3 3:=by rw[<-hf1];simp [put,DO,f00]
 have f13:f1 3=.int .i64 0:=by rw[<-hf1];simp [put,DO]
 refine DE (DE (CK (Ao (v:=.slice (σ ⟨rb,0,δ⟩) 3 3) (Nu (x:=.tmp 0) f10 _ _ _ _) (Ao (w':=W) (v:=.int .i64 3) ?_ (Ao (v:=.int .i64 0) (Nu rfl _ _ _ _) ?_)))))
 .have:ev (put 18 f1 (σ 6) (.slice (σ ⟨rb,0,δ⟩) 3 3)) (.tmp 6)=.slice (σ ⟨rb,0,δ⟩) 3 3:=by simp [ev,put,DO]
  simp [execOp,resolve,invoke,builtin,Builtin.len_,this,run_underlying (EZ hs23).under,goInt]
 generalize hf2:put 18 (put 18 (put 18 f1 (σ 6) (.slice (σ ⟨rb,0,δ⟩) 3 3)) (σ 7) (.int .i64 3)) (σ 8) (.int .i64 0)=f2;have f23:f2 3=.int .i64 0:=by rw[<-hf2];simp [put,DO,f13]
 have f26:f2 6=.slice (σ ⟨rb,0,δ⟩) 3 3:=by rw[<-hf2];simp [put,DO]
 have f27:f2 7=.int .i64 3:=by rw[<-hf2];simp [put,DO]
 have f28:f2 8=.int .i64 0:=by rw[<-hf2];simp [put,DO]
 refine LS (ZW (λn f w=>w=W/\∃j:Nat,n=3-j/\j<=3/\f 3=.int .i64 0/\f 6=.slice (σ ⟨rb,0,δ⟩) 3 3/\f 7=.int .i64 3/\f 8=.int .i64 (j:Int)/\∀i,i<j->l i=0) 3 ⟨rfl,0,rfl,by omega,f23,f26,f27,f28,λi hi=>qG hi (by omega)⟩ ?_);rintro n f w ⟨rfl,j,hn,hj,g3,g6,g7,g8,hz⟩ ih;refine DE (CK (Ao8 (a:=(j:Int)) (b:=3) (kd:=.i64) g8 g7 ?_));by_cases hlt:j<3
 .have hd:ω ((j:Int)<3)=τ:=by simp;omega
  rw[hd];refine DE (SB (by simp [ev,put,DO]) (SE ?_));refine DE (LS (DE (CK (Ao (w':=w) (v:=.pointer (σ ⟨rb,j,δ⟩)) ?_ (Ao (w':=w) (v:=.int .i64 (l j)) ?_ (Ao (w':=w) (v:=.int .i64 (l j)) ?_ ?_))))))
  .have e6:ev (put 18 f (σ 9) (.bool τ)) (.tmp 6)=.slice (σ ⟨rb,0,δ⟩) 3 3:=by simp [ev,put,DO,g6]
   have e8:ev (put 18 f (σ 9) (.bool τ)) (.tmp 8)=.int .i64 (j:Int):=by simp [ev,put,DO,g8]
   have h1:(0:Int)<=j/\(j:Int)<(3:Nat):=by omega
   have hsl:=EZ hs23;simp [execOp,Instr.indexAt,e6,e8,asIntOf,run_underlying hsl.under,hsl.size,DZ];omega
  .have e10:ev (put 18 (put 18 f (σ 9) (.bool τ)) (σ 10) (.pointer (σ ⟨rb,j,δ⟩))) (.tmp 10)=.pointer (σ ⟨rb,j,δ⟩):=by simp [ev,put,DO]
   have hcell:w.cell? ⟨rb,j,δ⟩=σ (.int .i64 (l j)):=by rw[Bz hb];exact hc j hlt
   simp [execOp,Instr.loadAt,e10,Instr.sureAddr,loadVar,(HB (w:=w) h3).1,hcell]
  .exact Om (by simp [ev,put,DO]) _ _ _ _
  refine DE (CK (Ao (v:=.int .i64 (l j)) (Nu (by simp [ev,put,DO]) _ _ _ _) (Ao (v:=.int .i64 0) (Nu (by simp [ev,put,DO,g3]) _ _ _ _) (Ao7 (a:=l j) (b:=0) (kd:=.i64) (by simp [ev,put,DO]) (by simp [ev,put,DO]) ?_))));by_cases h0:l j=0
  .have hd2:(!ω (l j=0))=ψ:=by simp [h0]
   rw[hd2];refine Pg (by simp [ev,put,DO]) (SE (LR ?_));refine CK (Ai0 (a:=(j:Int)) (b:=1) (kd:=.i64) (by simp [ev,put,DO,g8]) rfl (Ao (v:=.int .i64 ((j+1:Nat):Int)) (Nu ?_ _ _ _ _) ?_))
   .have:IntKind.i64.wrap ((j:Int)+1)=((j+1:Nat):Int):=by have h2:Bl .i64 ((j:Int)+1):=Aq.2 (by omega);rw[FO h2];omega
    simp [ev,put,DO,this]
   .refine ih.out (3-(j+1)) _ _ (by omega) ⟨rfl,j+1,rfl,by omega,by simp [put,DO,g3],by simp [put,DO,g6],by simp [put,DO,g7],by simp [put,DO],λi hi=>?_⟩;by_cases e:i=j
    .rw[e];exact h0
    .exact hz i (by omega)
  .have hd2:(!ω (l j=0))=τ:=by simp [h0]
   rw[hd2];have ho:orI l=l j:=by
    unfold orI;match j,hlt with
    |0,_=>rw[GT h0]
    |1,_=>rw[UV (hz 0 (by omega)),GT h0]
    |2,_=>rw[UV (hz 0 (by omega)),UV (hz 1 (by omega))]
   refine SB (by simp [ev,put,DO]) (DE (CK (Ao (v:=.int .i64 (l j)) (Nu (by simp [ev,put,DO]) _ _ _ _) (Ao (v:=.int .i64 (l j)) (Om (by simp [ev,put,DO]) _ _ _ _) ?_))));exact ret (by rw[ho];simp [put,DO])
 .have hd:ω ((j:Int)<3)=ψ:=by simp;omega
  rw[hd];refine DE (Pg (by simp [ev,put,DO]) (VX (by simp [exitTo];rfl) ?_));have ho:orI l=0:=by unfold orI;rw[UV (hz 0 (by omega)),UV (hz 1 (by omega)),hz 2 (by omega)]
  refine DE (CK (Ao (v:=.int .i64 0) (Nu (by simp [ev,put,DO,g3]) _ _ _ _) (Ao (v:=.int .i64 0) (Om (by simp [ev,put,DO]) _ _ _ _) ?_)));exact ret (by rw[ho];simp [put,DO])
end
section
set_option maxRecDepth 100000
set_option maxHeartbeats 2000000
section
variable {P:Program} {φ:FK} {N:Nat} {k:List Item} {R:RL->World->Prop} {f:Fr} {w:World} {ops:Array Oper} {S:World->Prop} {n:Nat} {l:Array Bool} {E:List Nat}
theorem Aw2{i:Nat}{o:Oper}(hi:ops[i]?=σ o)(d:Region.ready .any ops l=[i])(h:WL P N ops (φ.at R) ψ (λf' w'=>S w'/\WG P φ N ops k R S n (l.setIfInBounds i τ) f' w') [o] f w):WG P φ N ops k R S (n+1) l f w:=λa p=>by refine⟨λm=>qG (d.symm.trans m) (by simp),λj c=>?_⟩;rw[d,a4]at c;subst c;exact QL p hi (λf' w' e g b=>⟨b.1,b.2 e g⟩) h
theorem A4a{i:Nat}{o:Oper}(hi:ops[i]?=σ o)(m:E.contains i=τ)(c:Region.ready .any ops l=[i])(h:WL P N ops (φ.at R) ψ (λf' w'=>S w'/\WG P φ N ops k R S n (l.setIfInBounds i τ) f' w') [o] f w):WE P φ N ops k R S E (n+1) l f w:=λa q=>by refine⟨λp=>qG (c.symm.trans p) (by simp),λj e=>?_⟩;rw[c,a4]at e;subst e;refine(QL (ds:=φ.ds) q hi (K':=λb w'=>S w'/\Yk P ops (φ.at R) (VG P φ N k R) S n (l.setIfInBounds j τ) b w') (λf' w' b r d=>⟨d.1,d.2 b r⟩) h).mono λb w' g=>?_;grind
theorem A0h(c:Region.ready .any ops l=[])(h:WT P φ N k R f w):WG P φ N ops k R S 0 l f w:=λ_ b=>⟨c,rfl,f,b,h⟩
end
structure ClW(W:World)(ab ao tb mb:Nat)(m:List (K2×Int)):Prop where
 box:W.cell? ⟨ab,ao,δ⟩=σ (.pointer (σ ⟨tb,0,δ⟩))
 tab:W.cell? ⟨tb,0,δ⟩=σ (.map (σ mb))
 map:∃es cl,W.heap[mb]?=σ (.map es cl)/\Yo Y0 (.u 17) I6 (λ_=>False) W [(mb,.map es cl)] (.map (σ mb)) m
variable {x:K2}
theorem Aob{I I':Cb}{w w':World}{v:Value}(h:rp Y0.toUS (.u 17) I w v x):rp Y0.toUS (.u 17) I' w' v x:=by obtain⟨f,rfl,e⟩:=HO.1 h;refine HO.2 ⟨f,rfl,?_⟩;cases e with|cons a b=>cases b with|cons c d=>cases d;exact .cons (AS.2 (AS.1 a)) (.cons (AS.2 (AS.1 c)) .nil)
theorem ClW.BX{W W':World}{ab ao tb mb:Nat}{m:List (K2×Int)}(h:ClW W ab ao tb mb m)(e:∀b,b=ab∨b=tb∨b=mb->W'.heap[b]?=W.heap[b]?):ClW W' ab ao tb mb m:=by
 obtain⟨n,q,p,f⟩:=h.map;refine⟨?_,?_,n,q,?_,?_⟩
 .rw[cell?_of_heap (e ab (.inl rfl))];exact h.box
 .rw[cell?_of_heap (e tb (.inr (.inl rfl)))];exact h.tab
 .grind
 .obtain⟨b,d,c,k,l,o,i⟩:=@C3.ex _ _ (RT Y0.toUS (.u 17)) (RT Y0.toUS I6) _ _ _ _ _ f;exact @C3.mk _ _ (RT Y0.toUS (.u 17)) (RT Y0.toUS I6) _ _ _ _ _ ⟨b,d,c,k,l,o,λj g a=>⟨Aob (i j g a).1,AS.2 (AS.1 (i j g a).2)⟩⟩ (@C3.bo _ _ (RT Y0.toUS (.u 17)) (RT Y0.toUS I6) _ _ _ _ _ f)
def idK(m:List (K2×Int))(x:K2):Int:=(Ag m x).getD 0
def NK(x:K2):List Value:=[.int .i64 x.a0,.int .i64 x.a1]
def okK(x:K2):Prop:=Bl .i64 x.a0/\Bl .i64 x.a1
theorem Ail{I:Cb}{w:World}(h:okK x):rp Y0.toUS (.u 17) I w (.agg ⟨NK x⟩) x:=HO.2 ⟨_,rfl,.cons (AS.2 ⟨rfl,h.1⟩) (.cons (AS.2 ⟨rfl,h.2⟩) .nil)⟩
def cfK(m:List (K2×Int))(x y:K2):Int:=orI λj=>match j with
 |0=>Jj (idK m x) (idK m y)
 |1=>Jj x.a0 y.a0
 |_=>Jj x.a1 y.a1
theorem XT{x y:Int}:Bl .i64 (Jj x y):=by unfold Jj;split<;>(try split)<;>exact Aq.2 (by omega)
theorem Jb{P:Program}{f:Fr}{w:World}{t ty:TypeId}{x:Operand}{a:Addr}{v:Value}(g:Q5 P t ψ 1=τ)(c:ev f x=.pointer (σ a))(d:w.cell? a=σ v)(dst:Option Tmp)(b:String)(e:Array Edge):(execOp (ev f) ⟨dst,.load t x,ty,b,e,δ⟩).run P w=.ok (.value v) w:=by simp [execOp,Instr.loadAt,c,Instr.sureAddr,loadVar,(HB (w:=w) g).1,d]
theorem Agh{q:FuncId}{f:Fr}{w:World}{a b:Operand}{x y:Value}{at_:Array TypeId}(h:CS Y0.P q=τ)(g:ev f a=x)(d:ev f b=y)(dst:Option Tmp)(ty:TypeId)(c:String)(e:Array Edge):(execOp (ev f) ⟨dst,.call ⟨.value (.func q),#[a,b],at_⟩,ty,c,e,δ⟩).run Y0.P w=.ok (.enter q #[x,y]) w:=by grind[U3,Y0]
theorem Atf{f:Fr}{w:World}{a b c:Operand}{p q r:Int}(ha:ev f a=.int .i64 p)(hb:ev f b=.int .i64 q)(hc:ev f c=.int .i64 r)(hp:Bl .i64 p)(hq:Bl .i64 q)(hr:Bl .i64 r)(dst:Option Tmp)(ty:TypeId)(pos:String)(af:Array Edge):(execOp (ev f) ⟨dst,.buildSlice 23 3 #[(0,a),(1,b),(2,c)],ty,pos,af,δ⟩).run Y0.P w=.ok (.value (.slice (σ ⟨w.heap.size,0,δ⟩) 3 3)) (w.alloc (.cells #[.int .i64 p,.int .i64 q,.int .i64 r] 3)):=by
 have hs23:Yl Y0.P 23 3 1 8=τ:=by kernel_rfl
 letI:AT (den Y0.D I6):=RT Y0.toUS I6
 have hrun:=Me (P:=Y0.P) (I:=λ_=>False) (w:=w) (α:=den Y0.D I6) (t:=23) (e:=3) (nb:=8) (ps:=#[(0,.int .i64 p),(1,.int .i64 q),(2,.int .i64 r)]) (vs:=[.int .i64 p,.int .i64 q,.int .i64 r]) (xs:=[p,q,r]) (EZ hs23) rfl rfl (λj h h'=>by
  match j,h with
  |0,_=>exact AS.2 ⟨rfl,hp⟩
  |1,_=>exact AS.2 ⟨rfl,hq⟩
  |2,_=>exact AS.2 ⟨rfl,hr⟩) (by show 3*1<=16777216;decide)
 have hps:((#[(0,a),(1,b),(2,c)]:Array (Nat×Operand)).map λ(x:Nat×Operand)=>match x with|(i,x)=>(i,ev f x))=#[(0,.int .i64 p),(1,.int .i64 q),(2,.int .i64 r)]:=by simp [ha,hb,hc]
 simp only[execOp,Sem.run_bind];rw[hps];have hl:ν ([p,q,r]:List (den Y0.D I6))=3:=rfl;rw[hl]at hrun;rw[hrun];rfl
theorem Amh{W:World}{ab ao tb mb:Nat}{m:List (K2×Int)}{y:K2}(hx:okK x)(hy:okK y)(hW:ClW W ab ao tb mb m):Calls Y0.P 270 #[.agg ⟨NK x⟩,.agg ⟨NK y⟩,.pointer (σ ⟨ab,ao,δ⟩)] W λe w'=>e=.returned (.int .i64 (cfK m x y))/\∃q os',w'=Sort.grow (W.drewN q) os':=by
 refine Jg (F:=Tryz.f270) (N:=31) (vs:=[.agg ⟨NK x⟩,.agg ⟨NK y⟩,.pointer (σ ⟨ab,ao,δ⟩)]) (by kernel_rfl) rfl rfl (by simp) ?_;have t201:Q5 Y0.P 201 ψ 1=τ:=by kernel_rfl
 have t248:Q5 Y0.P 248 ψ 1=τ:=by kernel_rfl
 have t140:Q5 Y0.P 140 ψ 1=τ:=by kernel_rfl
 have t288:Q5 Y0.P 288 τ 2=τ:=by kernel_rfl
 have fl250:flB Y0.P 250 0 0=τ:=by kernel_rfl
 have hm:Sp Y0.P 248=σ (288,3):=by kernel_rfl
 have hkm:Y0.km 288 (.u 17)=τ:=by kernel_rfl
 have hT:=Abg (e:=.int .i64) hm hkm;have und288:Y0.P.underlying 288=σ (.array 2 140):=by kernel_rfl
 have sz140:∀w,(Go.sizeOf 140).run Y0.P w=.ok 1 w:=λw=>(HB (w:=w) t140).2;generalize hf0:YE [.agg ⟨NK x⟩,.agg ⟨NK y⟩,.pointer (σ ⟨ab,ao,δ⟩)]=f0;have f00:f0 0=.agg ⟨NK x⟩:=by rw[<-hf0];rfl
 have f01:f0 1=.agg ⟨NK y⟩:=by rw[<-hf0];rfl
 have f02:f0 2=.pointer (σ ⟨ab,ao,δ⟩):=by rw[<-hf0];rfl
 let bx:Obj:=.cells ⟨NK x⟩ 288 (0,0);let b_y:Obj:=.cells ⟨NK y⟩ 288 (0,0);refine DE (CK (Ao (w':=W.alloc bx) (v:=.pointer (σ ⟨W.heap.size,0,δ⟩)) ?_ (Ao (w':=(W.alloc bx).alloc b_y) (v:=.pointer (σ ⟨W.heap.size+1,0,δ⟩)) ?_ (Ao (v:=.int .i64 0) (Om rfl _ _ _ _) ?_))))
 .have e0:ev f0 (.tmp 0)=.agg ⟨NK x⟩:=f00;simp [execOp,Instr.box,newVar,newRow,e0];rfl
 .have e1:ev (put 31 f0 (σ 3) (.pointer (σ ⟨W.heap.size,0,δ⟩))) (.tmp 1)=.agg ⟨NK y⟩:=by simp [ev,put,DO,f01]
  simp [execOp,Instr.box,newVar,newRow,e1];rfl
 generalize hf1:put 31 (put 31 (put 31 f0 (σ 3) (.pointer (σ ⟨W.heap.size,0,δ⟩))) (σ 4) (.pointer (σ ⟨W.heap.size+1,0,δ⟩))) (σ 5) (.int .i64 0)=f1;have f12:f1 2=.pointer (σ ⟨ab,ao,δ⟩):=by rw[<-hf1];simp [put,DO,f02]
 have f13:f1 3=.pointer (σ ⟨W.heap.size,0,δ⟩):=by rw[<-hf1];simp [put,DO]
 have f14:f1 4=.pointer (σ ⟨W.heap.size+1,0,δ⟩):=by rw[<-hf1];simp [put,DO]
 let wd:World:={(W.alloc bx).alloc b_y with drawn:=((W.alloc bx).alloc b_y).drawn+1}
 have hwd:wd=Sort.grow (W.drewN 1) #[bx,b_y]:=by show ({(W.alloc bx).alloc b_y with drawn:=((W.alloc bx).alloc b_y).drawn+1}:World)=_;rw[Sort.alloc_eq_grow,Sort.alloc_eq_grow,Sort.grow_grow];rfl
 let S:World->Prop:=λw=>∃os,w=Sort.grow wd os;have hS:S wd:=⟨#[],by simp⟩
 have Lu:∀w,S w->∀b,b<W.heap.size->w.heap[b]?=W.heap[b]?:=λw⟨os,e⟩b hb=>by rw[e,hwd,Sort.grow_grow];show (W.heap++_)[b]?=_;rw[av hb]
 have lt:∀{b:Nat}{o:Obj},W.heap[b]?=σ o->b<W.heap.size:=λh=>(aw.1 h).1;have ltc:∀{b o:Nat}{v:Value},W.cell? ⟨b,o,δ⟩=σ v->b<W.heap.size:=λ{b o v}h=>by
  rcases cf b W.heap.size with h1|h1
  .exact h1
  .simp [World.cell?,bh h1]at h
 have cl:∀w,S w->ClW w ab ao tb mb m:=λw hw=>hW.BX λb hb=>Lu w hw b (by
  obtain⟨es,c,h1,_⟩:=hW.map;rcases hb with rfl|rfl|rfl
  .exact ltc hW.box
  .exact ltc hW.tab
  .exact lt h1)
 have hbx:∀w,S w->w.heap[W.heap.size]?=σ bx:=λw⟨os,e⟩=>by rw[e,hwd,Sort.grow_grow];show (W.heap++_)[W.heap.size]?=_;simp [ay]
 have hby:∀w,S w->w.heap[W.heap.size+1]?=σ b_y:=λw⟨os,e⟩=>by rw[e,hwd,Sort.grow_grow];show (W.heap++_)[W.heap.size+1]?=_;simp [ay]
 have look:∀(z:K2),okK z->∀w,S w->∀(f:Fr)(a b:Operand)(dst:Option Tmp)(ty:TypeId)(pos:String)(af:Array Edge),ev f a=.map (σ mb)->ev f b=.agg ⟨NK z⟩->(execOp (ev f) ⟨dst,.lookup 248 a b ψ,ty,pos,af,δ⟩).run Y0.P w=.ok (.value (.int .i64 (idK m z))) w:=λz hz w hw f a b dst ty pos af ha hb=>by
  obtain⟨es,c,h1,h2⟩:=(cl w hw).map;have hs:St (λ_=>False) w ([(mb,.map es c)]++[]):=⟨λ_ h=>h.elim,λp hp=>by simp at hp;subst hp;exact⟨h1,λh=>h⟩,by simp⟩
  refine Ja (P:=Y0.P) (f:=f) (w:=w) (w':=w) (v:=.int .i64 (idK m z)) (ty:=ty) (λpos af K hk=>?_) dst pos af;have hzr:(zeroValue 3).run Y0.P w=.ok (.int .i64 0) w:=by
   have:zrB Y0.P 3 (.int .i64 0):=by unfold zrB;kernel_rfl
   unfold zrB at this;cases hi:Y0.P.info? 3 with
   |none=>simp [hi]at this
   |some i=>simp only[hi,bw]at this;simp [zeroValue,typeInfo,hi,this]
  letI:AT (den Y0.D (.u 17)):=RT Y0.toUS (.u 17)
  letI:AT (den Y0.D I6):=RT Y0.toUS I6
  letI:DecidableEq (den Y0.D (.u 17)):=I4 Y0 (.u 17)
  refine Xb (P:=Y0.P) (κ:=den Y0.D (.u 17)) (β:=den Y0.D I6) (k:=z) (zd:=(0:Int)) hT h2 hs ha hb (Ail hz) hzr (AS.2 ⟨rfl,Aq.2 (by omega)⟩) λu hu=>?_;have hu':=(AS.1 (show rp Y0.toUS I6 _ _ u _ from hu)).1;rw[hu'];exact hk
 have ink:∀z,okK z->Bl .i64 (idK m z):=λz hz=>by
  obtain⟨es,c,h1,h2⟩:=(cl wd hS).map;obtain⟨b,es',c',k1,k2,k3,k4⟩:=@C3.ex _ _ (RT Y0.toUS (.u 17)) (RT Y0.toUS I6) _ _ _ _ _ h2;unfold idK;cases hg:Ag m z with
  |none=>exact Aq.2 (by simp)
  |some v=>
   rw[Option.getD_some];have:∃j,∃(hj:j<ν m),m[j].2=v:=by
    rw[Tw]at hg;cases hi:(m.map (·.1)).findIdx? (· == z) with
    |none=>rw[hi]at hg;cases hg
    |some i=>
     rw[hi,bw]at hg;cases hm:m[i]? with
     |none=>rw[hm]at hg;cases hg
     |some p=>
      rw[hm]at hg;obtain⟨hj,e⟩:=a7.1 hm;exact⟨i,hj,by rw[e];simpa using hg⟩
   obtain⟨j,hj,e⟩:=this;have:=AS.1 (k4 j (by rw[k3];exact hj) hj).2;rw[<-e];exact this.2
 have arr:∀(b j:Nat)(w:World)(f:Fr)(a:Operand)(dst:Option Tmp)(ty:TypeId)(pos:String)(af:Array Edge),j<2->ev f a=.pointer (σ ⟨b,0,δ⟩)->(execOp (ev f) ⟨dst,.indexAddr 288 a (.const (.int .i64 (j:Int))),ty,pos,af,δ⟩).run Y0.P w=.ok (.value (.pointer (σ ⟨b,j,δ⟩))) w:=λb j w f a dst ty pos af hj ha=>by
  have h1:(0:Int)<=j/\(j:Int)<(2:Nat):=by omega
  have ec:ev f (.const (.int .i64 (j:Int)))=.int .i64 (j:Int):=rfl;simp [execOp,Instr.indexAt,ha,ec,asIntOf,run_underlying und288,Instr.sureAddr,sz140,DZ];omega
 refine DE (Ah3 (m:=26) S (by kernel_rfl) rfl rfl (Aby [23,24,25] hS ?_));refine N5 (i:=0) (d:=6) rfl rfl rfl (by kernel_rfl) rfl hS (λw hw=>Ao (v:=.pointer (σ ⟨tb,0,δ⟩)) (Jb t201 (a:=⟨ab,ao,δ⟩) (by simp [ev,f12]) (cl w hw).box _ _ _) ⟨rfl,rfl⟩) ?_;refine N5 (i:=1) (d:=7) rfl rfl rfl (by kernel_rfl) rfl hS (λw hw=>Sj (a:=⟨tb,0,δ⟩) (by simp [ev,put,DO]) ⟨rfl,rfl⟩) ?_;refine N5 (i:=2) (d:=8) rfl rfl rfl (by kernel_rfl) rfl hS (λw hw=>Xc fl250 (b:=tb) (o:=0) (by simp [ev,put,DO]) ⟨rfl,rfl⟩) ?_;refine N5 (i:=3) (d:=9) rfl rfl rfl (by kernel_rfl) rfl hS (λw hw=>Ao (v:=.map (σ mb)) (Jb t248 (a:=⟨tb,0,δ⟩) (by simp [ev,put,DO]) (cl w hw).tab _ _ _) ⟨rfl,rfl⟩) ?_;refine N5 (i:=4) (d:=10) rfl rfl rfl (by kernel_rfl) rfl hS (λw hw=>Ao (v:=.agg ⟨NK x⟩) (Ja (λpos af K hk=>Tq (n:=2) (I:=λ_=>False) (T:=[]) t288 (b:=W.heap.size) (o:=0) (cs:=⟨NK x⟩) ⟨λ_ h=>h.elim,λp hp=>by simp at hp;subst hp;exact⟨hbx w hw,λh=>h⟩,by simp⟩ (by simp [ev,put,DO,f13]) rfl rfl hk) _ _ _) ⟨rfl,rfl⟩) ?_;refine N5 (i:=5) (d:=11) rfl rfl rfl (by kernel_rfl) rfl hS (λw hw=>Ao (v:=.int .i64 (idK m x)) (look x hx w hw _ _ _ _ _ _ _ (by simp [ev,put,DO]) (by simp [ev,put,DO])) ⟨rfl,rfl⟩) ?_;refine N5 (i:=6) (d:=12) rfl rfl rfl (by kernel_rfl) rfl hS (λw hw=>Ao (v:=.pointer (σ ⟨tb,0,δ⟩)) (Jb t201 (a:=⟨ab,ao,δ⟩) (by simp [ev,put,DO,f12]) (cl w hw).box _ _ _) ⟨rfl,rfl⟩) ?_;refine N5 (i:=7) (d:=13) rfl rfl rfl (by kernel_rfl) rfl hS (λw hw=>Sj (a:=⟨tb,0,δ⟩) (by simp [ev,put,DO]) ⟨rfl,rfl⟩) ?_;refine N5 (i:=8) (d:=14) rfl rfl rfl (by kernel_rfl) rfl hS (λw hw=>Xc fl250 (b:=tb) (o:=0) (by simp [ev,put,DO]) ⟨rfl,rfl⟩) ?_;refine N5 (i:=9) (d:=15) rfl rfl rfl (by kernel_rfl) rfl hS (λw hw=>Ao (v:=.map (σ mb)) (Jb t248 (a:=⟨tb,0,δ⟩) (by simp [ev,put,DO]) (cl w hw).tab _ _ _) ⟨rfl,rfl⟩) ?_;refine N5 (i:=10) (d:=16) rfl rfl rfl (by kernel_rfl) rfl hS (λw hw=>Ao (v:=.agg ⟨NK y⟩) (Ja (λpos af K hk=>Tq (n:=2) (I:=λ_=>False) (T:=[]) t288 (b:=W.heap.size+1) (o:=0) (cs:=⟨NK y⟩) ⟨λ_ h=>h.elim,λp hp=>by simp at hp;subst hp;exact⟨hby w hw,λh=>h⟩,by simp⟩ (by simp [ev,put,DO,f14]) rfl rfl hk) _ _ _) ⟨rfl,rfl⟩) ?_;refine N5 (i:=11) (d:=17) rfl rfl rfl (by kernel_rfl) rfl hS (λw hw=>Ao (v:=.int .i64 (idK m y)) (look y hy w hw _ _ _ _ _ _ _ (by simp [ev,put,DO]) (by simp [ev,put,DO])) ⟨rfl,rfl⟩) ?_;refine Ajv (i:=12) (d:=18) (v:=.int .i64 (Jj (idK m x) (idK m y))) rfl rfl (by kernel_rfl) hS rfl (λw hw=>.inr ⟨272,#[.int .i64 (idK m x),.int .i64 (idK m y)],?_,Amf _ _ (ink x hx) (ink y hy) w⟩) ?_
 .have hcan:CS Y0.P 272=τ:=by kernel_rfl
  exact Agh hcan (by simp [ev,put,DO]) (by simp [ev,put,DO]) _ _ _ _
 refine N5 (i:=13) (d:=19) rfl rfl rfl (by kernel_rfl) rfl hS (λw hw=>Ao (v:=.pointer (σ ⟨W.heap.size,0,δ⟩)) (arr (W.heap.size) 0 w _ _ _ _ _ _ (by decide) (by simp [ev,put,DO,f13])) ⟨rfl,rfl⟩) ?_;refine N5 (i:=14) (d:=20) rfl rfl rfl (by kernel_rfl) rfl hS (λw hw=>Ao (v:=.int .i64 x.a0) (Jb t140 (a:=⟨W.heap.size,0,δ⟩) (by simp [ev,put,DO]) (by rw[Bz (hbx w hw)];rfl) _ _ _) ⟨rfl,rfl⟩) ?_;refine N5 (i:=15) (d:=21) rfl rfl rfl (by kernel_rfl) rfl hS (λw hw=>Ao (v:=.pointer (σ ⟨W.heap.size+1,0,δ⟩)) (arr (W.heap.size+1) 0 w _ _ _ _ _ _ (by decide) (by simp [ev,put,DO,f14])) ⟨rfl,rfl⟩) ?_;refine N5 (i:=16) (d:=22) rfl rfl rfl (by kernel_rfl) rfl hS (λw hw=>Ao (v:=.int .i64 y.a0) (Jb t140 (a:=⟨W.heap.size+1,0,δ⟩) (by simp [ev,put,DO]) (by rw[Bz (hby w hw)];rfl) _ _ _) ⟨rfl,rfl⟩) ?_;refine Ajv (i:=17) (d:=23) (v:=.int .i64 (Jj (x.a0) (y.a0))) rfl rfl (by kernel_rfl) hS rfl (λw hw=>.inr ⟨273,#[.int .i64 (x.a0),.int .i64 (y.a0)],?_,XU _ _ (hx.1) (hy.1) w⟩) ?_
 .have hcan:CS Y0.P 273=τ:=by kernel_rfl
  exact Agh hcan (by simp [ev,put,DO]) (by simp [ev,put,DO]) _ _ _ _
 refine N5 (i:=18) (d:=24) rfl rfl rfl (by kernel_rfl) rfl hS (λw hw=>Ao (v:=.pointer (σ ⟨W.heap.size,1,δ⟩)) (arr (W.heap.size) 1 w _ _ _ _ _ _ (by decide) (by simp [ev,put,DO,f13])) ⟨rfl,rfl⟩) ?_;refine N5 (i:=19) (d:=25) rfl rfl rfl (by kernel_rfl) rfl hS (λw hw=>Ao (v:=.int .i64 x.a1) (Jb t140 (a:=⟨W.heap.size,1,δ⟩) (by simp [ev,put,DO]) (by rw[Bz (hbx w hw)];rfl) _ _ _) ⟨rfl,rfl⟩) ?_;refine N5 (i:=20) (d:=26) rfl rfl rfl (by kernel_rfl) rfl hS (λw hw=>Ao (v:=.pointer (σ ⟨W.heap.size+1,1,δ⟩)) (arr (W.heap.size+1) 1 w _ _ _ _ _ _ (by decide) (by simp [ev,put,DO,f14])) ⟨rfl,rfl⟩) ?_;refine N5 (i:=21) (d:=27) rfl rfl rfl (by kernel_rfl) rfl hS (λw hw=>Ao (v:=.int .i64 y.a1) (Jb t140 (a:=⟨W.heap.size+1,1,δ⟩) (by simp [ev,put,DO]) (by rw[Bz (hby w hw)];rfl) _ _ _) ⟨rfl,rfl⟩) ?_;refine Ajv (i:=22) (d:=28) (v:=.int .i64 (Jj (x.a1) (y.a1))) rfl rfl (by kernel_rfl) hS rfl (λw hw=>.inr ⟨273,#[.int .i64 (x.a1),.int .i64 (y.a1)],?_,XU _ _ (hx.2) (hy.2) w⟩) ?_
 .have hcan:CS Y0.P 273=τ:=by kernel_rfl
  exact Agh hcan (by simp [ev,put,DO]) (by simp [ev,put,DO]) _ _ _ _
 have hcan271:CS Y0.P 271=τ:=by kernel_rfl
 have hs23:Yl Y0.P 23 3 1 8=τ:=by kernel_rfl
 let lv:Nat->Int:=λj=>match j with
  |0=>Jj (idK m x) (idK m y)
  |1=>Jj x.a0 y.a0
  |_=>Jj x.a1 y.a1
 let row:Array Value:=#[.int .i64 (lv 0),.int .i64 (lv 1),.int .i64 (lv 2)];refine A4a (i:=23) rfl rfl (by kernel_rfl) (Ao (v:=.slice (σ ⟨wd.heap.size,0,δ⟩) 3 3) (w':=wd.alloc (.cells row 3)) ?_ ⟨⟨#[.cells row 3 (0,0)],Sort.alloc_eq_grow _ _⟩,?_⟩)
 .exact Atf (by simp [ev,put,DO]) (by simp [ev,put,DO]) (by simp [ev,put,DO]) XT XT XT _ _ _ _
 have hrow:(wd.alloc (.cells row 3)).heap[wd.heap.size]?=σ (.cells row 3 (0,0)):=heap_alloc_new _ _;have hS2:S (wd.alloc (.cells row 3)):=⟨#[.cells row 3 (0,0)],Sort.alloc_eq_grow _ _⟩
 refine Aw2 (i:=24) rfl (by kernel_rfl) (Xe (vs:=[.slice (σ ⟨wd.heap.size,0,δ⟩) 3 3]) hcan271 (by simp [ev,put,DO]) (Calls.mono (Aov (l:=lv) hrow λj hj=>?_) ?_))
 .match j,hj with
  |0,_|1,_|2,_=>rfl
 rintro e w' ⟨rfl,rfl⟩;refine⟨hS2,?_⟩;refine Aw2 (i:=25) rfl (by kernel_rfl) (Ao (v:=.int .i64 (orI lv)) (Om (by simp [ev,put,DO]) _ _ _ _) ⟨hS2,?_⟩);refine A0h (by kernel_rfl) (NU ⟨.int .i64 (orI lv),λa ha=>?_,rfl,1,#[bx,b_y,.cells row 3 (0,0)],?_⟩)
 .refine Hf (vs:=[.int .i64 (orI lv)]) ?_;have hR:Tryz.f270.results.toList=[.tmp 5]:=rfl;have h4:=ha.2 5;rw[ap]at h4;rw[hR];have h5:(a[5]?).getD undef=.int .i64 (orI lv):=by rw[h4];simp [put,DO]
  simp [cb,Rs,h5]
 .rw[Sort.alloc_eq_grow,hwd,Sort.grow_grow];rfl
end
section
set_option maxRecDepth 100000
set_option maxHeartbeats 1000000
abbrev KS:Type:={x:K2 // okK x}
instance:Inhabited KS:=⟨⟨⟨0,0⟩,Aq.2 (by show _<=(0:Int)/\(0:Int)<=_;omega),Aq.2 (by show _<=(0:Int)/\(0:Int)<=_;omega)⟩⟩
def encS(x:KS):List Value:=NK x.1
def cfS(m:List (K2×Int))(x y:KS):Int:=cfK m x.1 y.1
theorem ltS(m:List (K2×Int))(x y:KS):Go.Proofs.ltOf (cfS m) x y=ω (idK m x.1<idK m y.1∨idK m x.1=idK m y.1/\(x.1.a0<y.1.a0∨x.1.a0=y.1.a0/\x.1.a1<y.1.a1)):=by grind[Go.Proofs.ltOf,cfS,cfK,orI,Jj]
theorem A56(m:List (K2×Int)):Sort.SWO (Go.Proofs.ltOf (cfS m)) where
 irrefl x:=by grind[ltS]
 trans x y z a b:=by grind[ltS]
 ntrans x y z a b:=by grind[ltS]
theorem Anz{I:Cb}{w:World}{T:Bi}(os:Array Obj)(h:St I w T):Ext I w I (Sort.grow w os)/\St I (Sort.grow w os) T:=by
 have a:∀b,b<w.heap.size->(Sort.grow w os).heap[b]?=w.heap[b]?:=λb c=>by show (w.heap++os)[b]?=_;rw[av c]
 refine⟨⟨rfl,rfl,rfl,by simp,λ_ h=>h,λb c=>a b (h.imm b c)⟩,λb c=>?_,λp d=>⟨?_,(h.own p d).2⟩,h.nodup⟩
 .have:=h.imm b c;grind
 .have:=(h.own p d).1;grind
theorem Af7{I:Cb}{W:World}{A T:Bi}{v:Value}{xs:List K2}{ab ao tb mb:Nat}{m:List (K2×Int)}(ho:OO Y0 (.u 17) I W A v xs)(hs:St I W (A++T))(hW:ClW W ab ao tb mb m)(hne:∀p∈A,p.1≠ab/\p.1≠tb/\p.1≠mb)(hmax:ν xs<4611686018427387904):Calls Y0.P 269 #[v,.func (.func 270) #[] #[.pointer (σ ⟨ab,ao,δ⟩)]] W λe w'=>e=.returned (.tuple #[])/\∃xs' A',xs'.Perm xs/\Ext I W I w'/\St I w' (A'++T)/\OO Y0 (.u 17) I w' A' v xs':=by
 rcases @Bw.ex _ (RT Y0.toUS (.u 17)) _ _ _ _ _ ho with ⟨rfl,rfl,rfl⟩|⟨b,arr,cap,e0,off,rfl,rfl,h3,h4,h5,h6⟩
 .have key:=Go.Proofs.AnyF.slices_SortFunc_none (P:=Y0.P) {Acz with} δ 0 (.func (.func 270) #[] #[.pointer (σ ⟨ab,ao,δ⟩)]) W;change Calls Y0.P 269 _ _ _ at key;refine Calls.mono key λe w'⟨he,hw⟩=>⟨he,[],[],.refl _,?_⟩
  subst hw;exact⟨Ext.refl _ _,hs,ho⟩
 .have hok:∀x∈xs,okK x:=λx hx=>by obtain⟨j,hj,rfl⟩:=ba.1 hx;obtain⟨u,hu,_⟩:=h6 j hj;obtain⟨cs,rfl,hF⟩:=HO.1 (show rp Y0.toUS (.u 17) _ _ u _ from hu);cases hF with|cons a c=>cases c with|cons d f=>exact⟨(AS.1 a).2,(AS.1 d).2⟩
  obtain⟨ys,hys⟩:∃ys:List KS,ys.map (·.1)=xs:=⟨xs.attach.map λx=>⟨x.1,hok x.1 x.2⟩,by simp⟩
  subst hys;let d:Array KS:=⟨ys⟩
  letI:AT (den Y0.D (.u 17)):=RT Y0.toUS (.u 17)
  have hsz:AT.size (den Y0.D (.u 17))=2:=rfl;have hlen:ν (ys.map (·.1))=ν ys:=by simp
  replace h3:ν ys<=cap:=hlen▸h3;have cell:∀j(hj:j<ν ys)(i:Nat)(hi:i<2),arr[off+(j*2+i)]?=σ ((encS ys[j])[i]!):=λj hj i hi=>by
   obtain⟨u,hu,hc⟩:=h6 j (bc hj hlen.symm);have hu':rp Y0.toUS (.u 17) I W u ys[j].1:=by
    have e:(ys.map (·.1))[j]'(bc hj hlen.symm)=ys[j].1:=by simp
    rw[<-e];exact hu
   obtain⟨cs,rfl,hF⟩:=HO.1 hu';have hcs:cs=encS ys[j]:=by cases hF with|cons a c=>cases c with|cons d f=>cases f;rw[(AS.1 a).1,(AS.1 d).1];rfl
   subst hcs;have:=hc i (by show i<ν (encS ys[j]);exact hi);rw[hsz]at this;refine(show arr[off+(j*2+i)]?=_ from this).trans ?_;match i,hi with
   |0,_|1,_=>rfl
  have hb:=hs.heap;have hblk:b<W.heap.size:=(aw.1 hb).1;have hH:Go.Sort.HoldsK encS 2 W b off d:=by
   intro t ht;have ht':t<ν ys*2:=by have:=ht;rw[Go.Sort.size_flatK]at this;exact this
   refine⟨?_,by simp [World.frozen?,hb]⟩;rw[Bz hb,id,Go.Sort.get_flatK _ _ _ _ (show t<d.size*2 from ht')];have h1:t/2<ν ys:=by omega
   have h2:=cell (t/2) h1 (t%2) (by omega);have e1:t/2*2+t%2=t:=by omega
   rw[e1]at h2;rw[h2];have e2:d[t/2]! = ys[t/2]:=by rw[getElem!_pos d (t/2) h1];rfl
   rw[e2]
  obtain⟨n1,n2,n3⟩:=hne _ (a4.2 rfl);have ltc:∀{b o:Nat}{v:Value},W.cell? ⟨b,o,δ⟩=σ v->b<W.heap.size:=λ{b o v}h=>by
   rcases cf b W.heap.size with h1|h1
   .exact h1
   .simp [World.cell?,bh h1]at h
  have oth:∀(n:Nat)(dk:Array KS)(os:Array Obj)(c:Nat),c<W.heap.size->c≠b->(Go.Proofs.sortWorldK encS 2 W b off n dk os).heap[c]?=W.heap[c]?:=λn dk os c hc hcb=>by show ((W.heap.modify b _)++os)[c]?=_;rw[av (by simpa using hc),az,GT (Ne.symm hcb)]
  have hcmp:Go.Proofs.CmpLays Y0.P 270 #[.pointer (σ ⟨ab,ao,δ⟩)] encS 2 (cfS m) b off d.size W:=by
   intro n os dk hdk x y;have hW':ClW (Go.Proofs.sortWorldK encS 2 W b off n dk os) ab ao tb mb m:=hW.BX λc hc=>by
    obtain⟨es,cl,h1,_⟩:=hW.map;rcases hc with rfl|rfl|rfl
    .exact oth n dk os _ (ltc hW.box) (Ne.symm n1)
    .exact oth n dk os _ (ltc hW.tab) (Ne.symm n2)
    .exact oth n dk os _ (aw.1 h1).1 (Ne.symm n3)
   exact Amh x.2 y.2 hW'
  have key:=Go.Proofs.AnyQ.slices_SortFunc (P:=Y0.P) Acz 2 (λw=>(HB (w:=w) (show Q5 Y0.P 288 τ 2=τ by kernel_rfl)).1) (λw=>(HB (w:=w) (show Q5 Y0.P 288 τ 2=τ by kernel_rfl)).2) encS (λ_=>rfl) (λx v hv=>by simp [encS,NK]at hv;rcases hv with rfl|rfl<;>rfl) (cfS m) (A56 m) 270 #[.pointer (σ ⟨ab,ao,δ⟩)] b off cap d W (λargs w=>NC (by kernel_rfl)) hcmp hH hblk (Nat.lt_of_le_of_lt (cg hlen.symm) hmax);change Calls Y0.P 269 _ _ _ at key;suffices hN:∀N,N=ν ys->Calls Y0.P 269 #[.slice (σ ⟨b,off,δ⟩) N cap,.func (.func 270) #[] #[.pointer (σ ⟨ab,ao,δ⟩)]] W λe w'=>e=.returned (.tuple #[])/\∃xs' A',xs'.Perm (ys.map (·.1))/\Ext I W I w'/\St I w' (A'++T)/\OO Y0 (.u 17) I w' A' (.slice (σ ⟨b,off,δ⟩) N cap) xs' from hN _ hlen
  intro N hN;subst hN;refine key.mono λe w'⟨he,d',n,os,hp,_,hw⟩=>⟨he,d'.toList.map (·.1),?_⟩
  obtain⟨p1,_,p3⟩:=hp;have hd':d'.toList.Perm ys:=by
   have e1:d'.extract 0 d.size=d':=by rw[<-p1];simp
   have e2:d.extract 0 d.size=d:=by simp
   rw[e1,e2]at p3;exact p3
  have hl':ν d'.toList=ν ys:=hd'.length_eq;have hlm:ν (d'.toList.map (·.1))=ν ys:=by rw[ae];exact hl'
  let arr':Array Value:=Go.Sort.putCells id off (Go.Sort.flatK encS 2 d') arr;have harr':arr'.size=arr.size:=by simp [arr',Go.Sort.putCells]
  refine⟨[(b,.cells arr' e0 (0,0))],hd'.map _,?_⟩;obtain⟨x1,s1⟩:=hs.write (w':=Go.Sort.putRowK encS 2 (Go.Sort.ahead W n) b off d') (o':=.cells arr' e0 (0,0)) rfl rfl rfl (by simp [Go.Sort.putRowK,Go.Sort.putRow,Go.Sort.mapBlock,Go.Sort.ahead]) (by
   show (W.heap.modify b _)[b]?=_;rw[az,UV rfl,hb];rfl) (λc hc=>by
   show (W.heap.modify b _)[c]?=_;rw[az,GT (Ne.symm hc)])
  obtain⟨x2,s2⟩:=Anz os s1;subst hw;refine⟨x1.trans x2,s2,⟨.inr ⟨b,arr',cap,e0,off,rfl,congrArg (λn=>Value.slice (σ ⟨b,off,δ⟩) n cap) hlm.symm,Nat.le_trans (cg hlm) h3,h4,by rw[harr'];exact h5,λj hj=>?_⟩⟩⟩;have hj':j<ν d'.toList:=bc hj (hlm.trans hl'.symm);have hjs:j<d'.size:=hj';refine⟨.agg ⟨encS d'.toList[j]⟩,?_,λi hi=>?_⟩
  .have e:(d'.toList.map (·.1))[j]'(by rw[ae];exact hj')=d'.toList[j].1:=by simp
   exact cast (congrArg (λz=>rp Y0.toUS (.u 17) I _ _ z) e.symm) (Ail d'.toList[j].2)
  .have hi2:i<2:=hi;show arr'[off+(j*2+i)]?=(⟨encS d'.toList[j]⟩:Array Value)[i]?;have hlt:off+(j*2+i)<arr.size:=by
    rw[hsz]at h5;have:j*2+i<cap*2:=by omega
    omega
   simp only[arr',Go.Sort.putCells,Array.getElem?_mapIdx,Array.getElem?_eq_getElem hlt,Option.map_some];have hr:off<=off+(j*2+i)/\off+(j*2+i)<off+(Go.Sort.flatK encS 2 d').size:=by rw[Go.Sort.size_flatK];omega
   rw[UV hr];have e1:off+(j*2+i)-off=j*2+i:=by omega
   rw[e1,id,Go.Sort.get_flatK _ _ _ _ (by omega)];have e2:(j*2+i)/2=j:=by omega
   have e3:(j*2+i)%2=i:=by omega
   rw[e2,e3,getElem!_pos d' j hjs];match i,hi2 with
   |0,_|1,_=>rfl
end
section
set_option maxRecDepth 100000
set_option maxHeartbeats 1000000
def Awf(c:Cf Y0)(la:List (AV Y0))(_:PX)(k:AV Y0->Cf Y0->Prop):Prop:=match la with
 | [.own j,.own j2]=>match c.op,IT c.sg j,IT c.sg j2 with
  |none,σ (.sl (.u 17) xs),σ (.clo 270 [] [.del .ptr p 0])=>(∃tb y,p=σ tb/\c.H tb=σ (.st 7 y))/\ν xs<4611686018427387904/\∀xs':List (den Y0.D (.u 17)),xs'.Perm xs->k (.own c.nx) {c with sg:=(c.nx,.tp [])::(j,.sl (.u 17) xs')::G4 c.sg j,nx:=c.nx+1}
  |_,_,_=>False
 |_=>False
noncomputable def Aun:Vh Y0 269 where
 tr:=Awf
 can:=by kernel_rfl
 ok {g0 g T AH A c f la vs X k} h ha hx R K _ next:=by
  unfold Awf at hx;split at hx
  .rename_i j j2;split at hx
   .rename_i xs p hop hj hj2;obtain⟨⟨tb,y,rfl,hH⟩,hlen,hx⟩:=hx;rcases ha with _|⟨a1,_|⟨a2,_|_⟩⟩
    obtain⟨hjn,rfl⟩:=a1;obtain⟨hj2n,rfl⟩:=a2;obtain⟨A1,A2,hp,_,hsl,hsg⟩:=h.sg.take hj;obtain⟨B1,B2,_,_,⟨rfl,vs,us,hm,hv1,hv2⟩,_⟩:=h.sg.take hj2;rcases hv1 with _|_
    rcases hv2 with _|⟨b1,_|_⟩
    obtain⟨ab,ao,u,hu,hpt,hI,rfl⟩:=b1;replace hu:u=.pointer (σ ⟨tb,0,δ⟩):=by have:=Mf.1 hu;exact this
    subst hu;have hr:=h.hr;rw[hop]at hr;obtain⟨C1,C2,hob,hX,hst⟩:=Ip.take (T:=A++T) hr hH h.st;obtain⟨arr,e,A',rfl,hor⟩:=hob;obtain⟨cell,hcell,mA,hmp⟩:∃v,arr.toList=[v]/\∃A1,A'=A1/\Yo Y0 (.u 17) I6 g.I g.w A1 v y.ids:=by
     have hor:OR Y0 g.I g.w arr.toList [.map (.u 17) I6 y.ids] A':=hor;revert hor;cases arr.toList with
     |nil=>exact λhor=>hor.elim
     |cons v vs=>
      intro hor;obtain⟨D1,D2,rfl,hm,hn⟩:=hor;cases vs with
      |nil=>cases (show D2=[] from hn);exact⟨v,rfl,_,bi _,hm⟩
      |cons _ _=>exact hn.elim
    obtain⟨rfl,hmp⟩:=hmp;obtain⟨mb,es,cl,k1,k2,k3,k4⟩:=@C3.ex _ _ (RT Y0.toUS (.u 17)) (RT Y0.toUS I6) _ _ _ _ _ hmp;subst k1 k2;have st1:St g.I g.w (A1++(((tb,.cells arr e (0,0))::[(mb,.map es cl)])++(C2++(A2++T)))):=by refine hst.perm ?_;have:=FU (T:=T) hp (((tb,Obj.cells arr e (0,0))::[(mb,Obj.map es cl)])++C2);simpa [bv] using this
    have inT:∀p,p∈((tb,Obj.cells arr e (0,0))::[(mb,Obj.map es cl)])->g.w.heap[p.1]?=σ p.2/\¬g.I p.1:=λp hm=>hst.own p (ag _ hm);have hbox:g.w.cell? ⟨ab,ao,δ⟩=σ (.pointer (σ ⟨tb,0,δ⟩)):=hpt.2 0 Nat.zero_lt_one;have hW:ClW g.w ab ao tb mb y.ids:=by
     refine⟨hbox,?_,es,cl,(inT (mb,.map es cl) (aa _ a5)).1,?_⟩
     .rw[Bz (inT (tb,.cells arr e (0,0)) a5).1];show arr[0]?=σ (Value.map (σ mb));rw[<-Array.getElem?_toList,hcell];rfl
     .exact @C3.mk _ _ (RT Y0.toUS (.u 17)) (RT Y0.toUS I6) _ _ _ _ _ ⟨mb,es,cl,rfl,rfl,k3,λj hj hj'=>⟨Aob (k4 j hj hj').1,AS.2 (AS.1 (k4 j hj hj').2)⟩⟩ (@C3.bo _ _ (RT Y0.toUS (.u 17)) (RT Y0.toUS I6) _ _ _ _ _ hmp)
    have nd:∀p∈A1,p.1≠ab/\p.1≠tb/\p.1≠mb:=λp hm=>by have h1:=(st1.own p (ag _ hm)).2;have h2:=st1.nodup;rw[ak,aq]at h2;have h3:=h2.2.2 p.1 (ai hm);exact⟨λe'=>h1 (e'▸hI),h3 tb (by simp),h3 mb (by simp)⟩
    have key:=Af7 (I:=g.I) (T:=((tb,.cells arr e (0,0))::[(mb,.map es cl)])++(C2++(A2++T))) (ao:=ao) hsl st1 hW nd hlen;rw[hm];refine Calls.mono key λen w'⟨he,xs',A1',hpm,hext,hst',hsl'⟩=>?_;subst he;have hle:Le g (g.new w' (.tuple #[])):=Le.new hext;refine next (.tuple #[]) (.own c.nx) _ (g.new w' (.tuple #[])) (((tb,.cells arr e (0,0))::[(mb,.map es cl)])++C2) (A1'++A2) hle ?_ ?_ (hx xs' hpm)
    .refine⟨by show g.n+1=c.nx+1;rw[h.n],h.le.trans hext,?_,?_,⟨[],A1'++A2,rfl,by show c.nx<g.n+1;rw[h.n];omega,⟨rfl,[],by rw[<-h.n];exact B3.BA _ _ _,.nil⟩,A1',A2,rfl,Nat.lt_succ_of_lt hjn,?_,hsg.mono hle⟩,h.hs.mono hle,hle.pt h.pt,λj a hj=>(h.fr j a hj).mono hle⟩
     .refine hst'.perm ?_;have:=(FU (T:=T) (cd (A1'++A2)) (((tb,Obj.cells arr e (0,0))::[(mb,Obj.map es cl)])++C2)).symm;simpa [bv] using this
     .show HR _ c.H _ _ c.op;rw[hop];exact Ip.mono (HpX.back hX hH ⟨arr,e,_,rfl,by show OR Y0 g.I g.w arr.toList [.map (.u 17) I6 y.ids] _;rw[hcell];exact⟨_,[],(bi _).symm,hmp,rfl⟩⟩) hext
     .show OO Y0 (.u 17) g.I w' A1' ((g.new w' (.tuple #[])).μ j) xs';rw[hle.μ j hjn];exact hsl'
    .rw[<-h.n];exact Gy rfl
   .exact hx.elim
  .exact hx.elim
noncomputable def ilS:(q:FuncId)->Option (Vh Y0 q)
 |269=>σ Aun
 |q=>ilT q
end
end Go.Proofs.YtcbkbpjlbmalmaaGreatDoor
namespace Go.Proofs.YtcbkbpjlbmalmaaGreatDoor
open Go Go.X Go.Y
section
set_option maxRecDepth 100000
set_option maxHeartbeats 2000000
def Lt(yield:Ak×qV->HY->(qU->HP)->PX->Prop)(p1:Option Nat)(H:HY)(Q:UT->UU)(X:PX):=letI E:=σ (CU.blk (Y:=Y0) [AV.own (2)]);letI F:=E=E/\True;(p1=δ->Q () () H)/\(¬p1=δ->∃(b:Nat),letI I:={i:=1,b:=b,n:=7,x:=δ:Opn Y0};p1=σ b/\∃(x:AZ),letI O:=Ob.st Cy x;H b=σ O/\F/\∃(V:List (Ak×Int)->List Ak×UT->HP),(I=I/\F/\V x.ids ([],()) H)/\∀(left:List (Ak×Int))(x1:List Ak×UT)(H1:HY),V left x1 H1->(left=[]->(∃(tb:Nat),∃(y:AZ),p1=σ tb/\Ac H1 b O tb=σ (Ob.st Cy y))/\ν x1.1<4611686018427387904/\∀(xs':List Ak),xs'.Perm x1.1->ν xs'<=2^63-1->∃(V:Nat->List Ak×Nat×UT->HP),(∃(n:Nat),V n (xs',0,()) (Ac H1 b O))/\∀n x H,V n x H->(x.2.1<ν xs'->x.2.1<=2^63-1->∃(h:x.2.1<ν x.1),∃(h:x.2.1<ν x.1),∃(b:Nat),p1=σ b/\∃(x2:AZ),H b=σ (Ob.st Cy x2)/\x2=x2/\yield (x.1[x.2.1],(Ag x2.ids x.1[x.2.1]).getD 0,()) H (λ(b:qU)(G:HY)=>(¬b.1->Q () () G)/\(¬¬b.1->x.2.1+1<=2^63-1/\∃m,m<n/\V m (x.1,x.2.1+1,()) G)) X)/\(¬x.2.1<ν xs'->Q () () H))/\∀(l1:List (Ak×Int))(p:Ak×Int)(l2:List (Ak×Int)),left=l1++p::l2->(ν x1.1+ν [p.1])*16<=2^47/\I=I/\F/\V (l1++l2) (x1.1++[p.1],()) H1)
end
section
variable {x:A7}
theorem Aa4{k:Nat}(h:k<ν x.taken):Pb x (k:Int)=x.taken[k]:=by unfold Pb;simp [h]
theorem Adm{p:Nat}{y:FT Y0 [.int .i64] [.bool]}{H:HY}{X:PX}{Q:Unit->UU}(l:F4 x)(J:Nat->HP)(s:J 0 H)(r:∀k H,J k H->H p=σ (.st Da x))(t:∀(k:Nat)H(Q:Bool×Unit->HP),Pb x k=τ->J k H->(∀H',J (k+1) H'->Q (τ,()) H')->y ((k:Int),()) H Q X)(hs:∀(k:Nat)H,Pb x k=ψ->k<ν x.at_->J k H->J (k+1) H)(u:∀H,J (ν x.at_) H->Q () () H):qK 278 Jq (y,σ p,()) H Q X:=by
 refine wF Tryz.f278 {lp:=[(2,⟨[(11,.nat)],[0,1,10],τ⟩)]} (?_:((σ p)=δ->Q () () H)/\(¬(σ p)=δ->∃(b:Nat),(σ p)=σ b/\∃(x:A7),H b=σ (Ob.st Da x)/\(ν x.at_<=2^63-1->x=x/\∃(V:Nat->Nat×UT->HP),(∃(n:Nat),V n (0,()) H)/\∀n x1 H,V n x1 H->(x1.1<ν x.at_->∃(b:Nat),letI E:=x1.1+1;(σ p)=σ b/\∃(x:A7),H b=σ (Ob.st Da x)/\(x1.1<=2^63-1->∃(h:x1.1<ν x.taken),∃(h:x1.1<ν x.taken),letI F:=x.taken[x1.1]=τ;(F->x=x/\y ((x1.1:Int),()) H (λ(b:qU)(G:HY)=>(¬b.1->Q () () G)/\(¬¬b.1->E<=2^63-1/\∃m,m<n/\V m (E,()) G)) X)/\(¬F->E<=2^63-1/\∃m,m<n/\x=x/\V m (E,()) H)))/\(¬x1.1<ν x.at_->Q () () H))));have A:ν x.at_<2000000:=by have:=l.len;have:=l.room;omega
 refine⟨λh=>qG h (by simp),λ_=>⟨p,rfl,x,r _ _ s,λ_=>⟨rfl,λn z H'=>n=ν x.at_-z.1/\z.1<=ν x.at_/\J z.1 H',⟨_,rfl,ac _,s⟩,?_⟩⟩⟩;rintro n ⟨k,_⟩ H' ⟨g,f,e⟩;have B:n=ν x.at_-k:=g;have C:k<=ν x.at_:=f;have j:J k H':=e;refine⟨λd=>?_,λd=>?_⟩
 .have a:k<ν x.at_:=d;have c:k<ν x.taken:=by rw[<-l.ln];exact a
  have i:∀b,J (k+1) b->∃m,m<n/\(m=ν x.at_-(k+1)/\k+1<=ν x.at_/\J (k+1) b):=λb h=>⟨ν x.at_-(k+1),by omega,rfl,by omega,h⟩
  refine⟨p,rfl,x,r _ _ j,λ_=>⟨c,c,λo=>⟨rfl,?_⟩,λo=>⟨by show k+1<=_;omega,?_⟩⟩⟩
  .refine t k H' _ ((Aa4 c).trans o) j λb h=>⟨λh=>qG rfl h,λ_=>⟨by show k+1<=_;omega,i b h⟩⟩
  .have q:Pb x k=ψ:=by rw[Aa4 c];simpa using o
   obtain⟨m,w,v⟩:=i H' (hs k H' q a j);exact⟨m,w,rfl,v⟩
 .have a:¬k<ν x.at_:=d;have:k=ν x.at_:=by omega
  subst this;exact u H' j
theorem Aa0{p:Nat}{y:FT Y0 [.u 13] [.bool]}{H0:HY}{X:PX}{Q:Unit->UU}(w:F4 x)(J:Nat->HP)(z:J 0 H0)(t:∀k H,J k H->H p=σ (.st Da x))(i:∀l k H o,H0 l=δ->J k H->J k (Ac H l o))(D:∀(k:Nat)(n:AE)H(Q:Bool×Unit->HP),GJ x k=σ n->J k H->(∀H',J (k+1) H'->(∀c,H0 c=δ->H' c=H c)->Q (τ,()) H')->y (n,()) H Q X)(hs:∀(k:Nat)H,GJ x k=δ->k<ν x.at_->J k H->J (k+1) H)(A:∀H,J (ν x.at_) H->Q () () H):qK 266 IL (y,σ p,()) H0 Q X:=by
 refine wFS Tryz.f266 {im:=[2],il:=ilT} (?_:Mi y (σ p) H0 Q X);unfold Mi;intro l r a;have q:p≠l:=λe=>by have:=t _ _ z;rw[e,a]at this;cases this
 refine Adm w (λk H=>J k H/\H l=σ (.lp r)) ⟨i l 0 H0 _ a z,Ah _ _ _⟩ (λk H h=>t k H h.1) (λk H v s d h=>?_) (λk H s C d=>⟨hs k H ?_ C d.1,d.2⟩) λH d=>.inl ⟨d.2,λI=>A _ (i l _ H _ a d.1)⟩
 .obtain⟨G,F,n,B,E⟩:=w.tk s;obtain⟨f,g⟩:=a7.1 E;have e:n=x.at_[((k:Int)).toNat]'f:=g.symm;refine⟨d.2,d.2,p,rfl,x,by rw[Ad _ _ q];exact t _ _ d.1,λ_=>⟨λ_=>by show (0:Int)<=(k:Int);omega,f,f,rfl,?_⟩⟩;have:=D k n (Ac H l (.lp (HW r))) (λb H'=>(¬b.1=τ->H' l=σ (Ob.lp (HW r))/\v (ψ,()) (Ac H' l (Ob.lp (Rj r Code.ret))))/\(¬¬b.1=τ->H' l=σ (Ob.lp (HW r))/\v (τ,()) (Ac H' l (Ob.lp r)))) B (i l k H _ a d.1) λH' m j=>⟨λh=>qG rfl h,λ_=>⟨by rw[j l a,Ah],h _ ⟨i l _ H' _ a m,Ah _ _ _⟩⟩⟩
  rw[e]at this;exact this
 .unfold GJ;rw[s];rfl
end
section
def Rl(b:Nat)(S:B9)(H H':HY):Prop:=∀c,H c≠δ->c≠b->c≠S.bl->c≠S.bp->c∉S.tb->H' c=H c
variable {b:Nat} {S:B9} {H:HY}
theorem OP.n{H':HY}(h:OP b S H H'):Rl b S H H':=λc _ e f d a=>h c e f d a
theorem Rl.refl:Rl b S H H:=λ_ _ _ _ _ _=>rfl
theorem Rl.trans{S':B9}{H' H'':HY}(h:Rl b S H H')(k:Rl b S' H' H'')(m:S'.bl=S.bl)(l:S'.bp=S.bp)(j:S'.tb=S.tb):Rl b S H H'':=λc f i a g d=>by have e:=h c f i a g d;rw[k c (by rw[e];exact f) i (by rw[m];exact a) (by rw[l];exact g) (by rw[j];exact d),e]
def gl(S:B9):Nat->List AE
 |0=>[]
 |k+1=>gl S k++(match GJ S.po k with
  |some n=>if Gd S.cn k=0 then [n] else []
  |none=>[])
theorem Ag7{S:B9}(d:F4 S.po){n:AE}:∀{k:Nat},n∈gl S k↔GJ S.po n.ID=σ n/\Gd S.cn n.ID=0/\0<=n.ID/\n.ID<k
 |0=>by simp only[gl,ad,false_iff];intro ⟨_,_,a,b⟩;omega
 |k+1=>by
  simp only[gl,al,Ag7 d (k:=k)];constructor
  .rintro(⟨a,b,c,g⟩|h)
   .exact⟨a,b,c,by omega⟩
   .split at h
    .rename_i m f;split at h
     .rename_i i;rw[a4]at h;subst h;have:=d.id _ _ f;exact⟨by rw[this];exact f,by rw[this];exact i,by omega,by omega⟩
     .cases h
    .cases h
  .rintro⟨a,b,c,g⟩;by_cases e:n.ID=k
   .right;rw[e]at a b;rw[a];simp only[b,if_true,a4]
   .exact .inl ⟨a,b,c,by omega⟩
theorem Aqj{S:B9}(c:F4 S.po):∀{k:Nat},((gl S k).map (·.ID)).Nodup/\ν (gl S k)<=k
 |0=>by simp [gl]
 |k+1=>by
  obtain⟨d,j⟩:=Aqj c (k:=k);simp only[gl];split
  .rename_i m e;split
   .rename_i l;refine⟨?_,by simp;omega⟩;rw[ak,aq];refine⟨d,by simp,λa f b g=>?_⟩;obtain⟨n,h,rfl⟩:=bb.1 f;have:=((Ag7 c).1 h).2.2.2;have i:=c.id _ _ e;simp only[br,ch,a4]at g;omega
   .simpa using ⟨d,by omega⟩
  .simpa using ⟨d,by omega⟩
structure YW(S S':B9)(l:List Int):Prop where
 po:F4 S'.po
 nd:∀j,GJ S'.po j=if j∈l then δ else GJ S.po j
 many:S'.po.many=S.po.many-ν l
 room:S'.po.room=S.po.room
 len:ν S'.po.at_=ν S.po.at_
 lv:S'.lv=S.lv
 tb:S'.tb=S.tb
 bl:S'.bl=S.bl
 bp:S'.bp=S.bp
 cn:S'.cn=S.cn
 tn:∀v:Nat,v<ν S.tb->Pc (S'.ta v).ids
 tg:∀v:Nat,v<ν S.tb->∀lo hi i,Ag (S'.ta v).ids (⟨lo,hi⟩:K2)=σ i↔i∉l/\Ax S.po i=σ ⟨(v:Int),lo,hi⟩
theorem YW.refl(h:SI S):YW S S []:=⟨h.sc.po,λj=>by simp,by simp,rfl,rfl,rfl,rfl,rfl,rfl,rfl,h.tn,λv a c b i=>by simpa using h.tg v a c b i⟩
structure Clt(S S':B9):Prop where
 lv:S'.lv=S.lv
 tb:S'.tb=S.tb
 bl:S'.bl=S.bl
 bp:S'.bp=S.bp
 room:S'.po.room=S.po.room
 Ax:∀i,Ax S'.po i=if Gd S.cn i=0 then δ else YtcbkbpjlbmalmaaGreatDoor.Ax S.po i
 rf:∀i,Fq S'.po i=Fq S.po i
 cn:S'.cn=S.cn
theorem YW.si{S':B9}{l:List Int}(h:SI S)(c:YW S S' l)(w:∀i,i∈l↔Ax S.po i≠δ/\Gd S.cn i=0):SI {S' with dead:=0}/\Clt S {S' with dead:=0}:=by
 have x:∀i,Ax S'.po i=if Gd S.cn i=0 then δ else Ax S.po i:=λi=>by
  unfold Ax;rw[c.nd];by_cases f:i∈l
  .rw[UV f,UV ((w i).1 f).2];rfl
  .rw[GT f];by_cases j:Gd S.cn i=0
   .rw[UV j];have:Ax S.po i=δ:=by
     cases e:Ax S.po i with
     |none=>rfl
     |some d=>exact qG ((w i).2 ⟨by rw[e];simp,j⟩) f
    exact this
   .rw[GT j]
 have a:∀i d,Ax S'.po i=σ d->Ax S.po i=σ d/\Gd S.cn i≠0:=λi d b=>by
  rw[x]at b;split at b
  .cases b
  .rename_i o;exact⟨b,o⟩
 have m:∀i d,Ax S'.po i=σ d->0<Gd S.cn i:=λi d b=>by have:=a i d b;have:=h.sc.cn.nn this.1;omega
 have q:∀i,Fq S'.po i=Fq S.po i:=λi=>by
  unfold Fq;rw[c.nd];by_cases f:i∈l
  .rw[UV f];obtain⟨j,F⟩:=(w i).1 f;cases e:Ax S.po i with
   |none=>exact qG e j
   |some d=>
    have D:=h.sc.cn.ge e;have E:=h.rf i;unfold Fq at D E;cases z:GJ S.po i with
    |none=>rfl
    |some n=>rw[z]at D E;simp only at D E ⊢;omega
  .rw[GT f]
 have s:∀i d,Ax S'.po i=σ d->B.Ok (Ax S'.po) d.lo/\B.Ok (Ax S'.po) d.hi:=λi d b=>by
  obtain⟨f,j⟩:=a i d b;obtain⟨J,I⟩:=h.kids i d f;have u:∀e,B.Ok (Ax S.po) e->(e/2=d.lo/2∨e/2=d.hi/2)->B.Ok (Ax S'.po) e:=λe H M=>by
   refine⟨H.1,?_⟩;rcases H.2 with F|⟨L,r⟩
   .exact .inl F
   .have:=h.sc.cn.kid (λ_=>h.rf _) f (m i d b) r M;exact .inr ⟨L,by rw[x,GT (by omega)];exact r⟩
  exact⟨u _ J (.inl rfl),u _ I (.inr rfl)⟩
 have t:=h.BN.cut B9.Lm (λi d b=>(a i d b).1) s;have z:S'.n=S.n:=by unfold B9.n;rw[c.tb]
 have A:∀i p,B.pt (Ax S'.po) (Gd S.cn) i p=B.pt (Ax S.po) (Gd S.cn) i p:=λi p=>by
  unfold B.pt;rw[x];by_cases o:Gd S.cn p=0
  .rw[UV o];cases Ax S.po p with
   |none=>rfl
   |some d=>simp only;rw[GT (by omega)]
  .rw[GT o]
 refine⟨⟨⟨c.po,⟨λ{i d}b=>?_,λ{i d}b=>?_,λ{i d}b=>?_⟩,λi d b=>?_,?_⟩,?_,?_,?_,?_,c.tb▸c.tn,?_,λi=>by rw[q];exact h.rf i⟩,c.lv,c.tb,c.bl,c.bp,c.room,x,q,c.cn⟩
 .show 0<i/\i<(ν S'.po.at_:Int);rw[c.len];exact h.sc.cn.N6 (a i d b).1
 .show 0<=Gd S'.cn i;rw[c.cn];exact h.sc.cn.nn (a i d b).1
 .show Gd S'.cn i=Fq S'.po i+B.sm (ν S'.po.at_) (B.pt (Ax S'.po) (Gd S'.cn) i);rw[c.cn,c.len,q,h.sc.cn.eq (a i d b).1];congr 1;exact(B.Fl λk _ _=>A i k).symm
 .show i.toNat<ν S'.cn;rw[c.cn];exact h.sc.ln i d (a i d b).1
 .show (0:Int)=B.sm (ν S'.po.at_) (B.zr (Ax S'.po) (Gd S'.cn));rw[B.Fl (g:=λ_=>0) λk _ _=>?_,B.Wb];unfold B.zr;rw[c.cn];cases e:Ax S'.po k with
  |none=>rfl
  |some d=>have:=m k d e;simp only;rw[GT (by omega)]
 .show B.Good S'.n (DW S'.lv) (Ax S'.po);rw[z,c.lv];exact t.1
 .show ν S'.lv.vars=ν S'.tb;rw[c.lv,c.tb];exact h.vl
 .show ν S'.lv.level=ν S'.tb;rw[c.lv,c.tb];exact h.ll
 .show ∀(l:Nat)(v:Int),S'.lv.vars[l]?=σ v->0<=v/\v<S'.n/\DW S'.lv v=(l:Int);rw[c.lv,z];exact h.inv
 .intro v K G y i;show Ag (S'.ta v).ids (⟨G,y⟩:K2)=σ i↔Ax S'.po i=σ ⟨(v:Int),G,y⟩;have C:v<ν S.tb:=by rw[<-c.tb];exact K
  rw[c.tg v C,x];constructor
  .rintro⟨f,j⟩;rw[GT λo=>f ((w i).2 ⟨by rw[j];simp,o⟩)];exact j
  .intro f;split at f
   .cases f
   .rename_i o;exact⟨λy=>o ((w i).1 y).2,f⟩
end
section
variable {S:B9}
theorem Ca.Lu{H H':HY}{b:Nat}(h:Ca H b S)(f:∀c,H c≠δ->H' c=H c):Ca H' b S:=by
 refine⟨?_,?_,?_,h.nd,λv a=>?_⟩
 .rw[f _ (by rw[h.st];simp)];exact h.st
 .rw[f _ (by rw[h.lv];simp)];exact h.lv
 .rw[f _ (by rw[h.po];simp)];exact h.po
 .rw[f _ (by rw[h.ta v a];simp)];exact h.ta v a
variable {k:Nat}
theorem Aus(h:GJ S.po k=δ):gl S (k+1)=gl S k:=by simp [gl,h]
variable {n:AE}
theorem Auu(h:GJ S.po k=σ n)(h0:Gd S.cn k=0):gl S (k+1)=gl S k++[n]:=by simp [gl,h,h0]
theorem Aut(h:GJ S.po k=σ n)(h0:¬Gd S.cn k=0):gl S (k+1)=gl S k:=by simp [gl,h,h0]
theorem YW.step{S1:B9}{l:List Int}(h:SI S)(c:YW S S1 l)(F:GJ S.po n.ID=σ n)(_:n.ID∉l){x':A7}(z:F4 x')(D:∀j,GJ x' j=if j=n.ID then δ else GJ S1.po j)(f:x'.many=S1.po.many-1)(B:x'.room=S1.po.room)(s:ν x'.at_=ν S1.po.at_){t:AZ}(A:t=⟨Dl (S1.ta n.Var.toNat).ids (⟨n.Lo,n.Hi⟩:K2)⟩):YW S {S1 with ta:=λw=>if w=n.Var.toNat then t else S1.ta w,po:=x'} (n.ID::l):=by
 subst A;have o:=Ic F;have y:0<=n.Var/\n.Var<S.n:=(h.BN.var o).2;have g:n.Var.toNat<ν S.tb:=by grind[B9.n]
 have x:n.Var.toNat=n.Var:=by omega
 refine⟨z,λj=>?_,?_,B.trans c.room,s.trans c.len,c.lv,c.tb,c.bl,c.bp,c.cn,λv m=>?_,λv m r q i=>?_⟩
 .show GJ _ j=_;rw[D,c.nd];grind
 .show x'.many=_;rw[f,c.many];grind
 .show Pc (if v=n.Var.toNat then _ else S1.ta v).ids;split
  .exact T4 (c.tn _ g) _
  .exact c.tn v m
 .show Ag (if v=n.Var.toNat then _ else S1.ta v).ids _=σ i↔_;by_cases e:v=n.Var.toNat
  .subst e;rw[UV rfl];simp only;rw[Jd (c.tn _ g)];by_cases p:(⟨r,q⟩:K2)=⟨n.Lo,n.Hi⟩
   .rw[UV p];obtain⟨rfl,rfl⟩:r=n.Lo/\q=n.Hi:=by grind
    constructor
    .simp
    .rintro⟨k,d⟩;exfalso;rw[<-h.tg _ g]at d;have u:=(h.tg _ g _ _ _).2 (by rw[o,x]);grind
   .rw[GT p,c.tg _ g];grind
  .rw[GT e,c.tg v m];grind
theorem Arb(h:SI S)(c:S.dead=0):Clt S S:=by
 refine⟨rfl,rfl,rfl,rfl,rfl,λi=>?_,λ_=>rfl,rfl⟩;split
 .rename_i b;cases e:Ax _ i with
  |none=>rfl
  |some d=>
   have j:=h.sc.dead;have a:=h.sc.cn.N6 e;have k:=B.Awh (f:=B.zr (Ax S.po) (Gd S.cn))  (λ_ _ _=>Am9.1) (ci a.1) a.2;grind[B.zr,Ax,Gd]
 .rfl
theorem HF{b:Nat}{H:HY}{X:PX}{Q:Int×Unit->UU}(L:Ca H b S)(F:SI S)(h:∀S' H' k,Ca H' b S'->SI S'->Clt S S'->Rl b S H H'->Q (k,()) () H'):qK 207 Cv (σ b,()) H Q X:=by
 refine wFS Tryz.f207 {lp:=[(9,⟨[(3,.blk [.dat (.sl (.u 13))]),(37,.nat)],[1,35,36],τ⟩)],pr:=[(3,46)],im:=[1],il:=ilT,tk:=[35]} (?_:letI E:=Ob.st FX [];letI F:=Q (0,()) () H;((σ b)=δ->F)/\(¬(σ b)=δ->∃(c:Nat),(σ b)=σ c/\∃(x:Ai),H c=σ (Ob.st AD x)/\(x.dead=0->x=x/\F)/\(¬x.dead=0->x=x/\∀(c:Nat),H c=δ->∃(b1:Nat),(σ b)=σ b1/\∃(x:Ai),Ac H c E b1=σ (Ob.st AD x)/\x=x/\∀(l:Nat)(r:Loop),Ac H c E l=δ->qK 266 IL (λ(a:AE×UT)(H:HY)(Q:qU->HP)(X:Nat->Lf Y0.D->HP)=>letI I:=Ob.lp (HW r);letI O:=a.1.ID.toNat;letI P:=H l=σ (Ob.lp r);letI R:=Ac H l I;P/\P/\∃(b2:Nat),(σ b)=σ b2/\∃(x:Ai),R b2=σ (Ob.st AD x)/\(IK a.1.ID->(IK a.1.ID->0<=a.1.ID)/\∃(h:O<ν x.counts),∃(h:O<ν x.counts),(x.counts[O]=0->x=x/\∃(x:List AE),letI S:=Ob.st FX (x++[a.1]);R c=σ (Ob.st FX x)/\(ν x+ν [a.1])*40<=2^47/\Ac R c S l=σ I/\Q (τ,()) (Ac (Ac R c S) l (Ob.lp r)))/\(¬x.counts[O]=0->x=x/\R l=σ I/\Q (τ,()) (Ac R l (Ob.lp r)))),x.Gx,()) (Ac (Ac H c E) l (Ob.lp r)) (λ(b2 io:UT)(G:HY)=>(G l=σ (Ob.lp r)/\∀(r':Loop),∃(x:List AE),Ac G l (Ob.lp r') c=σ (Ob.st FX x)/\(ν x<=2^63-1->∃(V:Nat->(List AE×UT)×Nat×UT->HP),(∃(n:Nat),V n ((x,()),0,()) (CI (Ac G l (Ob.lp r')) c))/\∀n x1 H,V n x1 H->(x1.2.1<ν x->x1.2.1<=2^63-1->∃(h:x1.2.1<ν x),letI Y:=x[x1.2.1];letI W:=λ(c:qV)_ G=>∃(c:Nat),(σ b)=σ c/\∃(x3:Ai),G c=σ (Ob.st AD x3)/\x3=x3/\qK 251 Iv (x3.Gx,Y.ID,()) G (λ(c:qV)_ G=>x1.2.1+1<=2^63-1/\∃m,m<n/\V m ((x1.1.1,()),x1.2.1+1,()) G) X;letI B:=Y.Var.toNat;letI C:=IK Y.Var;∃(c:Nat),letI A:=∃(x2:Ai),H c=σ (Ob.st AD x2)/\(C->(C->(0:Int)<=Y.Var)/\∃(h1:B<ν x2.tables),∃(h2:B<ν x2.tables),x2=x2/\qK 213 Bo (x2.tables[B],Y.Lo,Y.Hi,()) H W X);(σ b)=σ c/\A/\A)/\(¬x1.2.1<ν x->∃(c:Nat),(σ b)=σ c/\∃(x:Ai),H c=σ (Ob.st AD x)/\(ν x1.1.1<=2^63-1->Q (((ν x1.1.1):Int),()) () (Ac H c (Ob.st AD {x with dead:=0}))))))∨G l=σ (Ob.lp (Rj r Code.ret))/\∀(r':Loop),Q (0,()) () (Ac G l (Ob.lp r'))) X)));refine⟨λh=>qG h (by simp),λ_=>⟨b,rfl,S.ob,L.st,λhd=>⟨rfl,h S H 0 L F (Arb F hd) Rl.refl⟩,λhd=>⟨rfl,λI hb2=>?_⟩⟩⟩;have K:=F.sc.po;have hL:ν S.po.at_<2000000:=by have:=K.len;have:=K.room;omega
 have bne:∀{c:Nat}{o:Ob Y0},H c=σ o->c≠I:=λg e=>by rw[e,hb2]at g;cases g
 refine⟨b,rfl,S.ob,by rw[Ad _ _ (bne L.st)];exact L.st,rfl,λl r J=>?_⟩;have p:l≠I:=λe=>by rw[e,Ah]at J;cases J
 have hl:H l=δ:=by rw[Ad _ _ p]at J;exact J
 have y:∀{c:Nat},H c≠δ->c≠l:=λg e=>g (by rw[e];exact hl);have E:∀{c:Nat},H c≠δ->c≠I:=λg e=>g (by rw[e];exact hb2);refine Aa0 K (λk H'=>H' I=σ (.st FX (gl S k))/\H' l=σ (.lp r)/\∀c,H c≠δ->H' c=H c) ⟨?_,Ah _ _ _,λc g=>?_⟩ (λk H' C=>(L.Lu C.2.2).po) (λl' k H' o B C=>?_) (λk n H' Q' w C hQ=>?_) (λk H' w hk C=>?_) λH' C=>.inl ⟨C.2.1,λr'=>⟨gl S (ν S.po.at_),?_,λ_=>?_⟩⟩
 .rw[Ad _ _ (Ne.symm p),Ah];rfl
 .rw[Ad _ _ (y g),Ad _ _ (E g)]
 .have M:l'≠l:=λe=>by rw[e,Ah]at B;cases B
  have e2:l'≠I:=λe=>by rw[e,Ad _ _ (Ne.symm p),Ah]at B;cases B
  rw[Ad _ _ M,Ad _ _ e2]at B;exact⟨by rw[Ad _ _ (Ne.symm e2)];exact C.1,by rw[Ad _ _ (Ne.symm M)];exact C.2.1,λc g=>by rw[Ad _ _ (λe=>g (by rw[e];exact B))];exact C.2.2 c g⟩
 .obtain⟨j1,j2,O⟩:=C;have D:=K.id _ _ w;have hk:k<ν S.cn:=by have:=F.sc.ln k _ (Ic w);simpa using this
  have hkk:n.ID.toNat=k:=by omega
  have Z:∀h,S.cn[n.ID.toNat]=Gd S.cn k:=λh=>by rw[<-D,Wm (by omega) h]
  have G:n.ID.toNat<ν S.cn:=by omega
  have hlen:=(Aqj K (k:=k)).2;have hkL:=by have:=F.sc.cn.N6 (Ic w);omega
  have st':Ac H' l (Ob.lp (HW r)) b=σ (Ob.st AD S.ob):=by rw[Ad _ _ (y (by rw[L.st];simp))];exact(L.Lu O).st
  refine⟨j2,j2,b,rfl,S.ob,st',λ_=>⟨λ_=>(by show 0<=n.ID;omega),G,G,λh0=>⟨rfl,gl S k,?_,?_,?_,?_⟩,λh0=>⟨rfl,Ah _ _ _,?_⟩⟩⟩
  .rw[Ad _ _ (Ne.symm p)];exact j1
  .show (ν (gl S k)+1)*40<=_;omega
  .rw[Ad _ _ p,Ah]
  .have T:Gd S.cn k=0:=(Z G).symm.trans h0;refine hQ _ ⟨?_,Ah _ _ _,λc g=>?_⟩ λc g=>?_
   .rw[Ad _ _ (Ne.symm p),Ah,Auu w T]
   .rw[Ad _ _ (y g),Ad _ _ (E g),Ad _ _ (y g)];exact O c g
   .have M:c≠l:=λe=>by rw[e,Ah]at g;cases g
    have e2:c≠I:=λe=>by rw[e,Ad _ _ (Ne.symm p),Ah]at g;cases g
    rw[Ad _ _ M,Ad _ _ e2,Ad _ _ M]
  .have T:¬Gd S.cn k=0:=λe=>h0 ((Z G).trans e);refine hQ _ ⟨?_,Ah _ _ _,λc g=>?_⟩ λc g=>?_
   .rw[Ad _ _ (Ne.symm p),Ad _ _ (Ne.symm p),Aut w T];exact j1
   .rw[Ad _ _ (y g),Ad _ _ (y g)];exact O c g
   .have M:c≠l:=λe=>by rw[e,Ah]at g;cases g
    rw[Ad _ _ M,Ad _ _ M]
 .obtain⟨j1,j2,O⟩:=C;exact⟨by rw[Aus w];exact j1,j2,O⟩
 .rw[Ad _ _ (Ne.symm p)];exact C.1
 .obtain⟨j1,j2,O⟩:=C;have hg:∀n,n∈gl S (ν S.po.at_)↔GJ S.po n.ID=σ n/\Gd S.cn n.ID=0/\0<=n.ID/\n.ID<ν S.po.at_:=λn=>Ag7 K;obtain⟨g1,g2⟩:=Aqj K;generalize gl S (ν S.po.at_)=N at hg g1 g2;have s0:Ca (CI (Ac H' l (Ob.lp r')) I) b S/\Rl b S H (CI (Ac H' l (Ob.lp r')) I):=by
   have f:∀c,H c≠δ->CI (Ac H' l (Ob.lp r')) I c=H c:=λc g=>by unfold CI;rw[GT (E g),Ad _ _ (y g)];exact O c g
   exact⟨L.Lu f,λc g _ _ _ _=>f c g⟩
  refine⟨λn x H2=>x.1.1=N/\n=ν N-x.2.1/\x.2.1<=ν N/\∃q,Ca H2 b q/\YW S q ((N.take x.2.1).map (·.ID))/\q.dead=S.dead/\Rl b S H H2,⟨_,rfl,rfl,ac _,S,s0.1,YW.refl F,rfl,s0.2⟩,?_⟩;rintro m ⟨⟨a,_⟩,k,_⟩ H2 ⟨e0,W,hk0,q,U,z,d1,f1⟩;have e0:a=N:=e0;have hm:m=ν N-k:=W;have hk:k<=ν N:=hk0;replace z:=z;subst e0;refine⟨λP _=>?_,λP=>?_⟩
  .have s:k<ν a:=P;obtain⟨w,h0,hid0,hid1⟩:=(hg a[k]).1 (b0 s);have hd:=Ic w;have V:=F.BN.var hd;simp only at V;have hv':(a[k]).Var.toNat<ν S.tb:=by have:=V.2.2;unfold B9.n at this;omega
   have u:(a[k]).Var.toNat<ν q.tb:=by rw[z.tb];exact hv'
   have hvv:(((a[k]).Var.toNat:Nat):Int)=(a[k]).Var:=by omega
   have R:(a[k]).ID∉(a.take k).map (·.ID):=λA=>by
    have h1:a.map (·.ID)=(a.take k).map (·.ID)++(a[k]).ID::(a.drop (k+1)).map (·.ID):=by rw[<-br,<-ak,<-a9 s,bk]
    rw[h1,aq]at g1;exact g1.2.2 _ A _ (a5) rfl
   have hob:q.ob.tables[(a[k]).Var.toNat]'(by simpa [B9.ob] using u)=σ q.tb[(a[k]).Var.toNat]:=by simp [B9.ob]
   have cut:qK 213 Bo (q.ob.tables[(a[k]).Var.toNat]'(by simpa [B9.ob] using u),(a[k]).Lo,(a[k]).Hi,()) H2 (λ(b_2:Int×Unit)io H'=>∃(Y:Nat),σ b=σ Y/\∃(t:Ai),H' Y=σ (Ob.st AD t)/\({levels:=t.levels,Gx:=t.Gx,tables:=t.tables,counts:=t.counts,dead:=t.dead}:Ai)=t/\
     qK 251 Iv (t.Gx,(a[k]).ID,()) H' (λ(b_4:Int×Unit)io H'=>k+1<=9223372036854775807/\∃(m':Nat),m'<m/\(a=a/\m'=ν a-(k+1)/\k+1<=ν a/\∃q,Ca H' b q/\YW S q ((a.take (k+1)).map (·.ID))/\q.dead=S.dead/\Rl b S H H')) X) X:=by
    rw[hob]
    refine W7 (U.ta _ u) ((z.tg _ hv' _ _ _).2 ⟨R,by rw[hd,hvv]⟩) ⟨b,rfl,?_⟩
    obtain⟨s2,f2⟩:=U.An5 u _
    refine⟨_,s2.st,rfl,?_⟩
    refine Aaz (m:=a[k]) s2.po z.po (by rw[z.nd,GT R];exact w) λx' hx hj hm' hr hle=>?_
    obtain⟨s3,f3⟩:=s2.An6 x'
    refine⟨by show k+1<=_;omega,ν a-(k+1),by omega,rfl,rfl,by show k+1<=_;omega,_,s3,?_,d1,?_⟩
    .have:=z.step F w R hx hj hm' hr hle rfl
     have A:∀j,j∈(a[k]).ID::(a.take k).map (·.ID)↔j∈(a.take k).map (·.ID)++[(a[k]).ID]:=λj=>by rw[al,an,a4];exact or_comm
     have e:(a.take (k+1)).map (·.ID)=(a.take k).map (·.ID)++[(a[k]).ID]:=by show (a.take (k+1)).map (·.ID)=_;rw[a8 s,ak];rfl
     rw[e]
     refine⟨this.po,λj=>?_,?_,this.room,this.len,this.lv,this.tb,this.bl,this.bp,this.cn,this.tn,λv V lo hi i=>?_⟩
     .rw[this.nd];simp only[A j]
     .rw[this.many];simp
     .rw[this.tg v V,A i]
    .exact(f1.trans (f2.trans f3 rfl rfl rfl).n z.bl z.bp z.tb)
   refine⟨s,b,rfl,⟨q.ob,U.st,λ_=>⟨λ_=>V.2.1,by simpa [B9.ob] using u,by simpa [B9.ob] using u,rfl,cut⟩⟩,q.ob,U.st,λ_=>⟨λ_=>V.2.1,by simpa [B9.ob] using u,by simpa [B9.ob] using u,rfl,cut⟩⟩
  .have s:¬k<ν a:=P;have:k=ν a:=by omega
   subst this;rw[bz]at z;obtain⟨s2,f2⟩:=U.U1 q.cn 0;obtain⟨i1,i2⟩:=z.si F λi=>by
    rw[bb];constructor
    .rintro⟨n,w,rfl⟩;have:=(hg n).1 w;exact⟨by rw[Ic this.1];simp,this.2.1⟩
    .rintro⟨h1,h2⟩;cases e:Ax S.po i with
     |none=>exact qG e h1
     |some d=>
      obtain⟨n,w,_⟩:=GK e;have D:=K.id _ _ w;have hdm:=F.sc.cn.N6 e;exact⟨n,(hg n).2 ⟨by rw[D];exact w,by rw[D];exact h2,by omega,by omega⟩,D⟩
   exact⟨b,rfl,q.ob,U.st,λ_=>h {q with dead:=0} _ _ s2 i1 i2 (f1.trans f2.n z.bl z.bp z.tb)⟩
end
section
section
variable {κ β:Type} [DecidableEq κ]
theorem FV:∀{m:List (κ×β)}{p:κ×β},Pc m->p∈m->Ag m p.1=σ p.2
 |q::m,p,h,a=>by
  obtain⟨c,b⟩:=bj.1 h;show (if q.1=p.1 then σ _ else Ag m _)=σ _;rcases an.1 a with rfl|a
  .simp
  .rw[GT λe=>c (by grind)];exact FV b a
theorem Jw:∀{m:List (κ×β)}{k:κ}{v:β},Ag m k=σ v->(k,v)∈m
 |q::m,k,v,h=>by
  have h:(if q.1=k then σ _ else Ag m k)=σ v:=h;split at h
  .rename_i e;cases h;subst e;exact a5
  .exact aa _ (Jw h)
end
theorem Ajb{α:Type}(f:α->Nat){l:List α}{n:Nat}(h:l.Nodup)(i:∀a∈l,f a<n)(hi:∀a∈l,∀b∈l,f a=f b->a=b):ν l<=n:=by
 have j:(l.map f).Nodup:=by rw[ce,be];exact h.imp_of_mem λ{a b}d g c e=>c (hi a d b g e)
 have:=HS (m:=List.range n) j λk o=>by grind
 grind
theorem Acv{b:Nat}{x:AZ}{y:FT Y0 [.u 17,.int .i64] [.bool]}{H0:HY}{X:PX}{Q:Unit->UU}(R:H0 b=σ (.st Cy x))(B:Pc x.ids)(F:ν x.ids<=2000000)(J:List K2->HP)(V:J [] H0)(hp:∀d H,J d H->H b=σ (.st Cy x))(Z:∀(d:List K2)(k:K2)(i:Int)H(Q:Bool×Unit->HP),J d H->Ag x.ids k=σ i->k∉d->ν d<2000000->(∀H',J (d++[k]) H'->Q (τ,()) H')->y (k,i,()) H Q X)(K:∀d H,J d H->d.Nodup->(∀k i,Ag x.ids k=σ i->k∈d)->Q () () H):qK 268 Ih (y,σ b,()) H0 Q X:=by
 refine wFS Tryz.f268 {lp:=[(8,⟨[(25,.one (.own (.u 17))),(27,.nat)],[0,1,25,26],τ⟩),(3,⟨[(3,.one (.own (.u 17)))],[0,1,13],τ⟩)],il:=ilS,hd:=[(10,[6])]} (?_:Lt y (σ b) H0 Q X);unfold Lt;refine⟨λh=>qG h (by simp),λ_=>⟨b,rfl,x,R,⟨rfl,trivial⟩,λr z H=>H=H0/\∃d:List _,d.map (·.1)=z.1/\(d++r).Perm x.ids,⟨rfl,⟨rfl,trivial⟩,⟨rfl,[],rfl,cd _⟩⟩,?_⟩⟩;rintro r ⟨ks,_⟩ H ⟨rfl,d,N,l⟩;have N:d.map (·.1)=ks:=N;subst N;refine⟨λL=>?_,λl1 p T L=>?_⟩
 .subst L;rw[bi]at l;have v:ν d<=2000000:=by rw[l.length_eq];exact F
  refine⟨⟨b,x,rfl,Ah _ _ _⟩,by show ν (d.map (·.1))<_;rw[ae];omega,λm o _=>?_⟩;rw[LP R];have o:=o;have Y:ν m<=2000000:=by rw[o.length_eq,ae];exact v
  have G:=o.trans (l.map _);have D:=G.nodup_iff.2 B;have s:∀k,k∈m↔∃i,Ag x.ids k=σ i:=λk=>by
   rw[G.mem_iff];constructor
   .intro h;obtain⟨q,K,rfl⟩:=bb.1 h;exact⟨_,FV B K⟩
   .rintro⟨i,h⟩;exact ai  (Jw h)
  refine⟨λn z H'=>z.1=m/\n=ν m-z.2.1/\z.2.1<=ν m/\J (m.take z.2.1) H',⟨_,rfl,rfl,ac _,V⟩,?_⟩;rintro n ⟨g,k,_⟩ H' ⟨P,w,A,C⟩;have P:g=m:=P;subst P;have hn:n=ν g-k:=w;have hk:k<=ν g:=A;have I:=C;refine⟨λt _=>?_,λt=>?_⟩
  .have c:=t;obtain⟨i,S⟩:=(s _).1 (b0 c);refine⟨c,c,b,rfl,x,hp _ _ I,rfl,?_⟩;have O:(Ag x.ids g[k]).getD 0=i:=by rw[S];rfl
   show y _ H' _ X;rw[O];refine Z _ g[k] i H' _ I S (λhm=>?_) (by rw[c0];omega) λM E=>⟨λh=>qG rfl h,λ_=>⟨by show k+1<=_;omega,ν g-(k+1),by omega,rfl,rfl,by show k+1<=_;omega,?_⟩⟩
   .obtain⟨j,U,e⟩:=ba.1 hm;rw[c0]at U;rw[List.getElem_take]at e;have:=(List.getElem_inj D).1 e;omega
   .show J (g.take (k+1)) M;rw[a8 c];exact E
  grind
 .subst L;have W:ν d+1<=ν x.ids:=by rw[<-l.length_eq];grind
  refine⟨?_,rfl,⟨rfl,trivial⟩,rfl,d++[p],by simp,?_⟩;all_goals grind
theorem SI.A2j{S:B9}(h:SI S){v:Nat}(m:v<ν S.tb):ν (S.ta v).ids<=2000000:=by
 have j:=h.tn v m;have d:∀p∈(S.ta v).ids,Ax _ _=σ _:=λp f=>(h.tg v m _ _ _).1 (FV j f);refine Ajb (λp=>p.2.toNat) ?_ (λp f=>?_) λp f q o e=>?_
 .have:((S.ta v).ids.map _).Nodup:=j;rw[ce,be]at this;exact this.imp λh e=>h (by rw[e])
 .have:=h.ib (d p f);omega
 .have n:=d p f;have g:=d q o;have:=h.ib n;have:=h.ib g;have e:p.2=q.2:=by omega
  rw[<-e,n]at g;have i:=am g;have l:=congrArg B.Nd.lo i;have k:=congrArg B.Nd.hi i;obtain⟨⟨a,b⟩,c⟩:=p;simp_all
structure TnE(S:B9)(x y:Int)(t:Ba):Prop where
 nd:GJ S.po t.n.ID=σ t.n
 v:t.n.Var=x
 l:(t.ll,t.lh)=B.sp (Ax S.po) y t.n.Lo
 h:(t.hl,t.hh)=B.sp (Ax S.po) y t.n.Hi
 ne:t.ll≠t.lh∨t.hl≠t.hh
def kyT(t:Ba):K2:=⟨t.n.Lo,t.n.Hi⟩
theorem Yw{b:Nat}{S:B9}{x y:Int}{H:HY}{X:PX}{Q:List Ba×Unit->UU}(Z:Ca H b S)(F:SI S)(hx:0<=x/\x<S.n)(h:∀L H',Ca H' b S->Rl b S H H'->(L.map (·.n.ID)).Nodup->ν L<=2000000->(∀t∈L,TnE S x y t)->(∀i n,GJ S.po i=σ n->n.Var=x->(B.NS (Ax S.po) y n.Lo∨B.NS (Ax S.po) y n.Hi)->∃t∈L,t.n=n)->Q (L,()) () H'):qK 208 IM (σ b,x,y,()) H Q X:=by
 refine wFS Tryz.f208 {pr:=[(7,48)],im:=[3,5],il:=ilT,tk:=[70]} (?_:letI E:=Ob.st BK [];∀(c:Nat),H c=δ->∃(b1:Nat),(σ b)=σ b1/\∃(x1:Ai),Ac H c E b1=σ (Ob.st AD x1)/\(IK x->(IK x->0<=x)/\∃(h:(x.toNat<ν x1.tables)),∃(h:(x.toNat<ν x1.tables)),x1=x1/\∀(l:Nat)(r:Loop),Ac H c E l=δ->qK 268 Ih (λ(a:Ak×qV)(H:HY)(Q:qU->HP)(X:Nat->Lf Y0.D->HP)=>letI I:=Ob.lp (HW r);letI O:=H l=σ (Ob.lp r);O/\O/\∃(b2:Nat),(σ b)=σ b2/\∃(x:Ai),Ac H l I b2=σ (Ob.st AD x)/\x=x/\qK 183 Bc (x.Gx,a.2.1,()) (Ac H l I) (λ(b3:AE×qU)_ G=>qK 253 NB ((σ b),b3.1.Lo,y,()) G (λ(b4:Int×qV)_ G=>letI P:=¬b4.1=b4.2.1;qK 253 NB ((σ b),b3.1.Hi,y,()) G (λ(b5:Int×qV)_ G=>letI S:=[{n:=b3.1,ll:=b4.1,lh:=b4.2.1,hl:=b5.1,hh:=b5.2.1:Ba}];letI R:=∃(x:List Ba),G c=σ (Ob.st BK x)/\(ν x+ν S)*72<=2^47/\Ac G c (Ob.st BK (x++S)) l=σ I/\Q (τ,()) (Ac (Ac G c (Ob.st BK (x++S))) l (Ob.lp r));letI W:=¬b5.1=b5.2.1;(P->R)/\(¬P->(W->R)/\(¬W->G l=σ I/\Q (τ,()) (Ac G l (Ob.lp r))))) X) X) X,x1.tables[x.toNat],()) (Ac (Ac H c E) l (Ob.lp r)) (λ(b2 io:UT)(G:HY)=>(G l=σ (Ob.lp r)/\∀(r':Loop),∃(x:List Ba),Ac G l (Ob.lp r') c=σ (Ob.st BK x)/\Q (x,()) () (CI (Ac G l (Ob.lp r')) c))∨G l=σ (Ob.lp (Rj r Code.ret))/\∀(r':Loop),Q ([],()) () (Ac G l (Ob.lp r'))) X));intro O hb2;have hP:=F.sc.po;have I:∀{c:Nat},H c≠δ->c≠O:=λj e=>j (by rw[e];exact hb2);have q:x.toNat<ν S.tb:=by have:=hx.2;unfold B9.n at this;omega
 have hxx:((x.toNat:Nat):Int)=x:=by omega
 refine⟨b,rfl,S.ob,by rw[Ad _ _ (I (by rw[Z.st];simp))];exact Z.st,λ_=>⟨λ_=>hx.1,by simpa [B9.ob] using q,by simpa [B9.ob] using q,rfl,λl r J=>?_⟩⟩;have u:l≠O:=λe=>by rw[e,Ah]at J;cases J
 have hl:H l=δ:=by rw[Ad _ _ u]at J;exact J
 have A:∀{c:Nat},H c≠δ->c≠l:=λj e=>j (by rw[e];exact hl);have hob:S.ob.tables[x.toNat]'(by simpa [B9.ob] using q)=σ S.tb[x.toNat]:=by simp [B9.ob]
 rw[hob];have N:∀c,H c≠δ->Ac (Ac H O (Ob.st BK [])) l (Ob.lp r) c=H c:=λc j=>by rw[Ad _ _ (A j),Ad _ _ (I j)]
 have hg:=F.tg x.toNat q;simp only[hxx]at hg;refine Acv  (Z.Lu N |>.ta x.toNat q) (F.tn _ q) (F.A2j q) (λd H'=>∃L:List Ba,H' O=σ (.st BK L)/\H' l=σ (.lp r)/\(∀c,H c≠δ->H' c=H c)/\ν L<=ν d/\(L.map kyT).Nodup/\(∀t∈L,TnE S x y t/\kyT t∈d)/\
  ∀i n,GJ S.po i=σ n->n.Var=x->(⟨n.Lo,n.Hi⟩:K2)∈d->(B.NS (Ax S.po) y n.Lo∨B.NS (Ax S.po) y n.Hi)->∃t∈L,t.n=n) ?_ (λd H'⟨L,_,_,V,_⟩=>(Z.Lu V).ta x.toNat q) (λd k i H' Q'⟨L,j1,j2,j3,j4,Y,C,j7⟩hk hkd hdl hQ=>?_) λd H'⟨L,j1,j2,j3,j4,Y,C,j7⟩hdn hall=>.inl ⟨j2,λr'=>⟨L,?_,?_⟩⟩
 .exact⟨[],by rw[Ad _ _ (Ne.symm u),Ah],Ah _ _ _,N,Nat.le_refl _,bq,λt o=>qG o ad,λi n _ _ W=>qG W ad⟩
 .have W:=(hg k.a0 k.a1 i).1 hk;obtain⟨n,K,hv,T,P⟩:=GK W;simp only at hv T P;have hid:=hP.id _ _ K;have old1:∀c,H c≠δ->Ac H' l (Ob.lp (HW r)) c=H c:=λc j=>by rw[Ad _ _ (A j)];exact j3 c j
  have s1:=Z.Lu old1;refine⟨j2,j2,b,rfl,S.ob,s1.st,rfl,?_⟩;refine Hh (x:=S.po) s1.po hP (λh0=>qG (h0.symm.trans K) (by simp)) λp hn'=>?_;have:p=n:=by rw[K]at hn';cases hn';rfl
  subst this;obtain⟨kl,kh⟩:=F.kids _ _ W;simp only at kl kh;rw[<-T]at kl;rw[<-P]at kh;refine Ps s1 hP kl (Ps s1 hP kh ?_);have M:(⟨p.Lo,p.Hi⟩:K2)=k:=by rw[T,P]
  have yes:((B.sp (Ax S.po) y p.Lo).1≠(B.sp (Ax S.po) y p.Lo).2∨(B.sp (Ax S.po) y p.Hi).1≠(B.sp (Ax S.po) y p.Hi).2)->∃z:List Ba,Ac H' l (Ob.lp (HW r)) O=σ _/\(ν z+1)*72<=140737488355328/\Ac (Ac H' l _) O (Ob.st BK (z++[⟨p,(B.sp (Ax S.po) y p.Lo).1,(B.sp (Ax S.po) y p.Lo).2,(B.sp (Ax S.po) y p.Hi).1,(B.sp (Ax S.po) y p.Hi).2⟩])) l=σ (Ob.lp (HW r))/\
    Q' (τ,()) (Ac (Ac (Ac H' l (Ob.lp (HW r))) O (Ob.st BK (z++[⟨p,(B.sp (Ax S.po) y p.Lo).1,(B.sp (Ax S.po) y p.Lo).2,(B.sp (Ax S.po) y p.Hi).1,(B.sp (Ax S.po) y p.Hi).2⟩]))) l (Ob.lp r)):=λw=>by
   refine⟨L,by rw[Ad _ _ (Ne.symm u)];exact j1,by omega,by rw[Ad _ _ u,Ah],hQ _ ⟨L++[⟨p,(B.sp (Ax S.po) y p.Lo).1,(B.sp (Ax S.po) y p.Lo).2,(B.sp (Ax S.po) y p.Hi).1,(B.sp (Ax S.po) y p.Hi).2⟩],by rw[Ad _ _ (Ne.symm u),Ah];rfl,Ah _ _ _,λc j=>by rw[Ad _ _ (A j),Ad _ _ (I j),Ad _ _ (A j)];exact j3 c j,by simp;omega,?_,λt o=>?_,λi2 R D E g G=>?_⟩⟩
   .rw[ak,aq]
    refine⟨Y,by simp,λa ha c j=>?_⟩
    obtain⟨t,o,rfl⟩:=bb.1 ha
    simp only[br,ch,a4]at j
    intro e
    rw[j]at e
    have:=(C t o).2
    rw[e]at this
    exact hkd (by rw[<-M];exact this)
   .rcases al.1 o with o|o
    .exact⟨(C t o).1,ag _ (C t o).2⟩
    .rw[a4]at o
     subst o
     refine⟨⟨by rw[hid];exact K,hv,rfl,rfl,w⟩,bn _ ?_⟩
     rw[a4];exact M
   .rcases al.1 g with g|g
    .obtain⟨t,o,e⟩:=j7 i2 R D E g G
     exact⟨t,ag _ o,e⟩
    .rw[a4]at g
     have e1:R.Lo=k.a0:=congrArg Ak.a0 g
     have e2:R.Hi=k.a1:=congrArg Ak.a1 g
     have V:=Ic D
     rw[E,e1,e2]at V
     have:i2=i:=F.BN.YZ V W
     subst this
     rw[K]at D;cases D
     exact⟨_,bn _ (a4.2 rfl),rfl⟩
  refine⟨λw=>yes (.inl w),λhe1=>⟨λw=>yes (.inr w),λhe2=>⟨Ah _ _ _,hQ _ ⟨L,?_,Ah _ _ _,λc j=>?_,by simp;omega,Y,λt o=>⟨(C t o).1,ag _ (C t o).2⟩,λi2 R D E g G=>?_⟩⟩⟩⟩
  .rw[Ad _ _ (Ne.symm u),Ad _ _ (Ne.symm u)];exact j1
  .rw[Ad _ _ (A j),Ad _ _ (A j)];exact j3 c j
  .rcases al.1 g with g|g
   .exact j7 i2 R D E g G
   .exfalso;rw[a4]at g;have e1:R.Lo=k.a0:=congrArg Ak.a0 g;have e2:R.Hi=k.a1:=congrArg Ak.a1 g;have V:=Ic D;rw[E,e1,e2]at V;have:i2=i:=F.BN.YZ V W;subst this;rw[K]at D;cases D;rcases G with h4|h4
    .exact(F.BN.Zf.1 h4) (ax.1 he1)
    .exact(F.BN.Zf.1 h4) (ax.1 he2)
 .rw[Ad _ _ (Ne.symm u)];exact j1
 .have f:∀c,H c≠δ->CI (Ac H' l (Ob.lp r')) O c=H c:=λc j=>by unfold CI;rw[GT (I j),Ad _ _ (A j)];exact j3 c j
  refine h L _ (Z.Lu f) (λc j _ _ _ _=>f c j) ?_ ?_ (λt o=>(C t o).1) λi n K hv hy=>?_
  .rw[ce,be]at Y ⊢;refine Y.imp_of_mem λ{s t}hs o w e=>w ?_;have U:=(C s hs).1.nd;have D:=(C t o).1.nd;rw[e,D]at U;unfold kyT;rw[am U]
  .have U:ν (L.map kyT)<=ν (S.ta x.toNat).ids:=by
    have:=HS  Y λk hk=>by obtain⟨t,o,rfl⟩:=bb.1 hk;have:=Ic (C t o).1.nd;rw[(C t o).1.v]at this;exact ai (f:=Prod.fst) (Jw ((hg _ _ _).2 this))
    simpa using this
   rw[ae]at U;have:=F.A2j q;omega
  .have U:=Ic K;rw[hv]at U;exact j7 i n K hv (hall _ _ ((hg _ _ _).2 U)) hy
end
end Go.Proofs.YtcbkbpjlbmalmaaGreatDoor
namespace Go.B
section
theorem Af9{f:Int->Int}:∀{m:Nat},0<sm m f->∃k:Int,0<=k/\k<m/\0<f k
 |0,h=>by grind[sm]
 |m+1,h=>by
  by_cases d:0<f m
  .grind
  .have e:sm (m+1) f=sm m f+f m:=rfl;obtain⟨k,a,b,c⟩:=Af9 (f:=f) (m:=m) (by omega);grind
theorem Aym{N:Tb}{c:Int->Int}{i p:Int}(h:0<pt N c i p):∃d,N p=σ d/\0<c p/\(i=d.lo/2∨i=d.hi/2):=by grind[pt,mu,dl]
section
variable {n:Int} {lv:Int->Int} {N:Tb} {m:Nat} {c r:Int->Int}
variable {i:Int} {d:Nd}
theorem Cn.why(h:Cn N m c r)(g:N i=σ d)(l:0<c i):0<r i∨∃p dp,N p=σ dp/\0<c p/\(i=dp.lo/2∨i=dp.hi/2):=by
 have n:=h.eq g;by_cases k:0<r i
 .omega
 .obtain⟨p,_,_,j⟩:=Af9 (f:=pt N c i) (m:=m) (by omega);grind[Aym]
theorem Good.par(g:Good n lv N){p:Int}{dp:Nd}(a:N i=σ d)(b:N p=σ dp)(h:i=dp.lo/2∨i=dp.hi/2):lv dp.v<lv d.v:=by
 have c:=(g.var a).1;rcases h with e|e
 .have:=(g.lo b).2;rwa [Bn (by omega) (by rw[<-e];exact a)]at this
 .have:=(g.hi b).2;rwa [Bn (by omega) (by rw[<-e];exact a)]at this
theorem Good.node2(g:Good n lv N)(a:N i=σ d):2*i/2=i/\Ok N (2*i)/\el n lv N (2*i)=lv d.v:=by
 have c:=(g.var a).1;have b:2*i/2=i:=by omega
 exact⟨b,⟨by omega,.inr ⟨d,by grind⟩⟩,Bn (by omega) (by grind)⟩
theorem Cn.A00(g:Good n lv N)(L:0<=n)(h:Cn N m c r)(S:∀i d,N i=σ d->0<c i){R:List Fn}(V:∀i d,N i=σ d->0<r i->∃f∈R,∃s:Bool,∀a,den N (2*i) a=(s ^^ f a)):Uf n lv N R:=by
 have x:∀(k:Nat)i d,N i=σ d->lv d.v<k->∃f∈R,S3 lv (lv d.v) f (den N (2*i)):=by
  intro k;induction k with
  |zero=>intro i d j Q;have:=g.var j;have:=g.od.N7 _ this.2.1 this.2.2;omega
  |succ k O=>
   intro i d j Q;obtain⟨W,z,F⟩:=g.node2 j;have A:=g.dep z (k:=lv d.v) (by omega);rcases h.why j (S i d j) with K|⟨p,o,l,_,D⟩
   .obtain⟨f,B,s,G⟩:=V i d j K;refine⟨f,B,s,λ_=>ψ,λa=>?_⟩;rw[<-G];exact A _ _ λv _ _ W=>(GT (by omega)).symm
   .have w:=g.par j l D;obtain⟨f,B,t⟩:=O p o l (by omega);obtain⟨P,I,J⟩:=g.node2 l;have E:=(g.var l).1;refine⟨f,B,?_⟩;have q:∀(b:Bool)(e:Int),e=(if b=τ then o.hi else o.lo)->i=e/2->Ok N e->S3 lv (lv d.v) f (den N (2*i)):=λb e U H u=>by
     have T:S3 lv (lv d.v) f (den N e):=t.set (v:=o.v) (c:=b) w (Int.le_refl _) (λa=>by rw[g.cof L (e:=2*p) (by omega) (by grind) b a,<-U];simp) (g.dep u (by rw[Bn (by have:=(g.var j).1;omega) (by rw[<-H];exact j)];omega))
     have y:den N (2*i)=λa=>(ω (e%2=1)) ^^ den N e a:=by
      have M:2*i=fl e e:=by grind[fl,flip]
      funext a;rw[M,Kn u]
     rw[y];exact T.sign _
    rcases D with e|e
    .exact q ψ o.lo rfl e (g.lo l).1
    .exact q τ o.hi rfl e (g.hi l).1
 intro i d j;have C:=g.var j;have:=g.od.N7 _ C.2.1 C.2.2;exact .inr (x (lv d.v+1).toNat i d j (by omega))
theorem Cn.Auf(g:Good n lv N)(h:Cn N m c r)(v:∀i d,N i=σ d->0<c i){M:Tb}{m':Nat}{c' r':Int->Int}(s:Cn M m' c' r')(u:∀i,0<=r i)(f:∀i,r i<=r' i){a:Int}(hs:∀i d,N i=σ d->lv d.v<a->M i=σ d):∀(k:Nat)i d d',N i=σ d->lv d.v<=a->lv d.v<k->M i=σ d'->0<c' i:=by
 intro k;induction k with
 |zero=>intro i d _ b _ t;have:=g.var b;have:=g.od.N7 _ this.2.1 this.2.2;omega
 |succ k x=>
  intro i d d' b z t e;rcases h.why b (v i d b) with w|⟨p,o,l,_,q⟩
  .have:=s.ge e;grind
  .have y:=g.par b l q;have j:=hs p o l (by omega);exact s.kid (λ{i _}_=>bu (u i) (f i)) j (x p o o l (by omega) (by omega) j) e q
theorem Cn.set(h:Cn N m c r){p:Int}{d':Nd}(n:N p=σ d)(s:0<c p):Cn (λj=>if j=p then σ d' else N j) m c (λi=>r i+mu d i-mu d' i)/\sm m (zr (λj=>if j=p then σ d' else N j) c)=sm m (zr N c):=by
 have b:=h.N6 n;have o:∀{i e},(if i=p then σ d' else N i)=σ e->∃u,N i=σ u:=λ{i e}a=>by grind
 have q:∀i,sm m (pt (λj=>if j=p then σ d' else N j) c i)=sm m (pt N c i)+(mu d' i-mu d i):=λi=>by rw[U0 (f:=pt (λj=>if j=p then σ d' else N j) c i) (g:=pt N c i) (ci b.1) b.2 λk t=>by grind[pt]];simp_all[pt]
 refine⟨⟨λa=>?_,λa=>?_,λ{i e}a=>?_⟩,Fl λk _ _=>?_⟩
 .obtain⟨_,l⟩:=o a;exact h.N6 l
 .obtain⟨_,l⟩:=o a;exact h.nn l
 .obtain⟨_,l⟩:=o a;rw[q,h.eq l];omega
 grind[zr]
end
def Tn(N:Tb)(x y i:Int)(d:Nd):Prop:=N i=σ d/\d.v=x/\(NS N y d.lo∨NS N y d.hi)
structure Yg(n:Int)(lv:Int->Int)(N:Tb)(x y:Int)(D:Int->Prop)(M:Tb):Prop where
 stay:∀{i d},N i=σ d->¬(Tn N x y i d/\D i)->M i=σ d
 Uv:∀{i d},Tn N x y i d->D i->∃lo hi,M i=σ ⟨y,lo,hi⟩/\S6 M x (sp N y d.lo).1 (sp N y d.hi).1 lo/\S6 M x (sp N y d.lo).2 (sp N y d.hi).2 hi
 new:∀{i d},N i=δ->M i=σ d->0<i/\d.v=x/\Ok N d.lo/\Ok N d.hi/\lv y<el n lv N d.lo/\lv y<el n lv N d.hi/\d.lo≠d.hi/\d.hi%2=0
 YZ:∀{i j d},d.v=x->M i=σ d->M j=σ d->i=j
section
variable {n:Int} {lv:Int->Int} {N:Tb} {x y:Int} {D:Int->Prop} {M:Tb}
theorem Yg.swp(h:Yg n lv N x y D M)(e:∀{i d},Tn N x y i d->D i):Swp n lv N x y M where
 stay a f:=h.stay a λ⟨k,_⟩=>f k.2
 Uv a b c:=h.Uv ⟨a,b,c⟩ (e ⟨a,b,c⟩)
 new:=h.new
 YZ:=h.YZ
theorem Yg.start(g:Good n lv N):Yg n lv N x y (λ_=>False) N where
 stay a _:=a
 Uv _ h:=h.elim
 new h k:=by grind
 YZ _ h k:=g.YZ h k
variable {i:Int} {d:Nd}
theorem Yg.N6(h:Yg n lv N x y D M)(b:N i=σ d):∃d',M i=σ d'/\(d'=d∨(d.v=x/\d'.v=y)):=by
 by_cases a:Tn N x y i d/\D i
 .obtain⟨f,e,c,_⟩:=h.Uv a.1 a.2;exact⟨_,c,.inr ⟨a.1.2.1,rfl⟩⟩
 .exact⟨d,h.stay b a,.inl rfl⟩
variable {e:Int}
theorem Yg.ok(h:Yg n lv N x y D M)(a:Ok N e):Ok M e:=⟨a.1,a.2.imp id λ⟨_,d⟩=>by obtain⟨c,b,_⟩:=h.N6 d;grind⟩
theorem Yg.Apf(g:Good n lv N)(o:lv y=lv x+1)(h:Yg n lv N x y D M)(m:Ok N e)(b:lv y<el n lv N e)(i:M (e/2)=σ d):d.v≠x:=by
 by_cases f:e/2=0
 .rw[f]at i;cases j:N 0 with
  |some l=>have:=(g.var j).1;omega
  |none=>exact qG (h.new j i).1 (by omega)
 .obtain⟨l,a⟩:=m.2.resolve_left f;rw[Bn f a]at b;obtain⟨p,k,c⟩:=h.N6 a;grind
theorem Good.four(g:Good n lv N)(o:0<=n)(h:0<=y/\y<n)(p:lv y=lv x+1)(c:N i=σ d)(e:d.v=x):(∀k,k=d.lo∨k=d.hi->Ok N (sp N y k).1/\Ok N (sp N y k).2/\lv y<el n lv N (sp N y k).1/\lv y<el n lv N (sp N y k).2/\∀a,den N k a=if a y=τ then den N (sp N y k).2 a else den N (sp N y k).1 a):=by
 intro k f;obtain⟨r,v⟩:=g.lo c;obtain⟨j,l⟩:=g.hi c;rw[e]at v l;have b:Ok N k/\lv y<=el n lv N k:=by grind
 obtain⟨s,m,t,u,q,_⟩:=g.Jo o h b.1 b.2;grind
theorem Good.Af6(g:Good n lv N)(i:0<=n){f:Int}(d:Ok N e)(h:Ok N f)(c:∀a,den N e a=if a y=τ then den N (sp N y e).2 a else den N (sp N y e).1 a)(k:∀a,den N f a=if a y=τ then den N (sp N y f).2 a else den N (sp N y f).1 a)(b:(sp N y e).1=(sp N y f).1)(j:(sp N y e).2=(sp N y f).2):e=f:=
 g.eq i d h (by funext a;rw[c,k,b,j])
theorem Yg.A5r(g:Good n lv N)(r:0<=n)(hx:0<=x/\x<n)(z:0<=y/\y<n)(c:lv y=lv x+1)(h:Yg n lv N x y D M)(hi:Tn N x y i d)(P:¬D i){lo hh:Int}(G:S6 M x (sp N y d.lo).1 (sp N y d.hi).1 lo)(I:S6 M x (sp N y d.lo).2 (sp N y d.hi).2 hh)(j:Int):M j≠σ ⟨y,lo,hh⟩:=by
 intro B;have A:x≠y:=λe=>by grind
 obtain⟨p,w,hc⟩:=hi;have s:=g.four r z c p w _ (.inl rfl);have K:=g.four r z c p w _ (.inr rfl);cases v:N j with
 |none=>exact A (h.new v B).2.1.symm
 |some t=>
  by_cases k:Tn N x y j t/\D j
  .obtain⟨C,E,q,S,Y⟩:=h.Uv k.1 k.2;rw[B]at q;injection q with q
   obtain⟨rfl,rfl⟩:lo=C/\hh=E:=⟨congrArg Nd.lo q,congrArg Nd.hi q⟩
   obtain⟨f,l,_⟩:=k.1;have u:=g.four r z c f l _ (.inl rfl);have W:=g.four r z c f l _ (.inr rfl);obtain⟨V,Z⟩:=G.inj S (λ_=>h.Apf g c s.1 s.2.2.1) (λ_=>h.Apf g c u.1 u.2.2.1);obtain⟨Q,R⟩:=I.inj Y (λ_=>h.Apf g c s.2.1 s.2.2.2.1) (λ_=>h.Apf g c u.2.1 u.2.2.2.1);have H:d.lo=t.lo:=g.Af6 r (g.lo p).1 (g.lo f).1 s.2.2.2.2 u.2.2.2.2 V Q;have J:d.hi=t.hi:=g.Af6 r (g.hi p).1 (g.hi f).1 K.2.2.2.2 W.2.2.2.2 Z R;have e7:d=t:=by cases d;cases t;simp only at H J w l;subst w;subst H;subst J;rw[l]
   rw[<-e7]at f;exact P (by rw[g.YZ p f];grind)
  .have q:=h.stay v k;rw[B]at q;injection q with q
   have m:=g.lo v;have o:=g.hi v;rw[<-q]at m o;simp only at m o;have L:∀{a b e:Int},Ok N e->lv y<el n lv N e->S6 M x a b e->a=b/\e=a:=λ{a b e}T U F=>by
    rcases F with F|⟨_,_,_,_,h5⟩
    .exact F
    .exact qG rfl (h.Apf g c T U h5)
   have X:=L m.1 m.2 G;have O:=L o.1 o.2 I;exact g.ne p (g.Af6 r (g.lo p).1 (g.hi p).1 s.2.2.2.2 K.2.2.2.2 X.1 O.1)
noncomputable def Mm(lv:Int->Int)(N:Tb)(x y i:Int):Int:=open Classical in match N i with
 |some d=>if d.v=x then (if NS N y d.lo∨NS N y d.hi then 3*lv x else 3*lv x+2) else if d.v=y then 3*lv x+1 else 3*lv d.v
 |none=>3*lv x+2
theorem Yg.dag(g:Good n lv N)(hn:0<=n)(R:0<=x/\x<n)(G:0<=y/\y<n)(w:lv y=lv x+1)(h:Yg n lv N x y D M):Dag M (Mm lv N x y) (3*n):=by
 have Z:x≠y:=λe=>by rw[e]at w;omega
 have rx:=g.od.N7 x R.1 R.2;have ry:=g.od.N7 y G.1 G.2;have rN:∀{i d},N i=σ d->0<=lv d.v/\lv d.v<n:=λc=>g.od.N7 _ (g.var c).2.1 (g.var c).2.2;have I:∀{i d},N i=σ d->d.v≠x->d.v≠y->lv d.v<lv x∨lv y<lv d.v:=λ{i d}c a b=>by have B:=(g.var c).2;have E:lv d.v≠lv x:=λe=>a (g.od.inj _ _ B.1 B.2 R.1 R.2 e);have X:lv d.v≠lv y:=λe=>b (g.od.inj _ _ B.1 B.2 G.1 G.2 e);omega
 have A:∀{e},Ok N e->lv y<el n lv N e->e/2≠0->3*lv x+6<=Mm lv N x y (e/2):=λ{e}S m l=>by obtain⟨d,c⟩:=S.2.resolve_left l;rw[Bn l c]at m;unfold Mm;rw[c];simp only;rw[GT (λe=>by rw[e]at m;omega),GT (λe=>by rw[e]at m;omega)];omega
 have K:∀i,(∃d,M i=σ d)->0<=Mm lv N x y i/\Mm lv N x y i<3*n:=λi⟨d,q⟩=>by
  unfold Mm;cases c:N i with
  |none=>simp only;omega
  |some d=>have:=rN c;simp only;split<;>(try split)<;>(try split)<;>omega
 have v:∀{i d e},N i=σ d->¬(Tn N x y i d/\D i)->Ok N e->lv d.v<el n lv N e->(NS N y e->NS N y d.lo∨NS N y d.hi)->e/2≠0->Mm lv N x y i<Mm lv N x y (e/2):=λ{i d e}c hs S m hy0 l=>by
  obtain⟨f,s⟩:=S.2.resolve_left l;rw[Bn l s]at m;have r1:=rN c;unfold Mm;rw[c,s];simp only;have V:d.v≠x->d.v≠y->_:=I c;have P:f.v≠x->f.v≠y->_:=I s;by_cases W:d.v=x
  .rw[W]at m;have t:f.v≠x:=λe=>by rw[e]at m;omega
   rw[UV W,GT t];by_cases r:f.v=y
   .rw[UV r,UV (hy0 ⟨f,s,r⟩)];omega
   .rw[GT r];have:=P t r;split<;>omega
  .rw[GT W];by_cases U:d.v=y
   .rw[U]at m;have t:f.v≠x:=λe=>by rw[e]at m;omega
    have r:f.v≠y:=λe=>by rw[e]at m;omega
    rw[UV U,GT t,GT r];have:=P t r;omega
   .have:=V W U;rw[GT U];by_cases t:f.v=x
    .rw[t]at m;rw[UV t];split<;>omega
    .rw[GT t];by_cases r:f.v=y
     .rw[r]at m;rw[UV r];omega
     .rw[GT r];omega
 have L:∀{j d},M j=σ d->d.v=x->Ok N d.lo->lv y<el n lv N d.lo->Ok N d.hi->lv y<el n lv N d.hi->Mm lv N x y j=3*lv x+2:=λ{j d}hj B C J F H=>by
  unfold Mm;cases c:N j with
  |none=>rfl
  |some d0=>
   simp only;by_cases p:Tn N x y j d0/\D j
   .obtain⟨_,_,k,_⟩:=h.Uv p.1 p.2;rw[hj]at k;cases k;exact qG B.symm Z
   .have:=h.stay c p;rw[hj]at this;cases this;have no:∀e,Ok N e->lv y<el n lv N e->¬NS N y e:=λe S m⟨dy,z,hy2⟩=>by
     by_cases l:e/2=0
     .rw[l,g.zero]at z;cases z
     .rw[Bn l z,hy2]at m;omega
    rw[UV B,GT (λo=>o.elim (no _ C J) (no _ F H))]
 have O:∀{a b e i},Ok N a->Ok N b->lv y<el n lv N a->lv y<el n lv N b->S6 M x a b e->Mm lv N x y i=3*lv x->Ok M e/\(e/2≠0->Mm lv N x y i<Mm lv N x y (e/2)):=λ{a b e i}Y hb la lb hB q=>by
  rcases hB with ⟨C,rfl⟩|⟨C,J,F,H,E⟩
  .exact⟨h.ok Y,λl=>by have:=A Y la l;omega⟩
  .refine⟨⟨J,.inr ⟨_,E⟩⟩,λ_=>?_⟩;rw[q,L E rfl Y.fl (by rw[MA];exact la) hb.fl (by rw[MA];exact lb)];omega
 have u:∀{i f},M i=σ f->(Ok M f.lo/\(f.lo/2≠0->Mm lv N x y i<Mm lv N x y (f.lo/2)))/\(Ok M f.hi/\(f.hi/2≠0->Mm lv N x y i<Mm lv N x y (f.hi/2))):=λ{i f}q=>by
  cases c:N i with
  |none=>
   obtain⟨C,J,F,H,E,X,_⟩:=h.new c q;have e:=L q J F E H X;exact⟨⟨h.ok F,λl=>by have:=A F E l;omega⟩,h.ok H,λl=>by have:=A H X l;omega⟩
  |some d=>
   by_cases p:Tn N x y i d/\D i
   .obtain⟨lo,hh,C,k1,k2⟩:=h.Uv p.1 p.2;rw[q]at C;cases C;have ri:Mm lv N x y i=3*lv x:=by unfold Mm;rw[c];simp only;rw[UV p.1.2.1,UV p.1.2.2]
    have Q:=g.four hn G w c p.1.2.1 _ (.inl rfl);have T:=g.four hn G w c p.1.2.1 _ (.inr rfl);exact⟨O Q.1 T.1 Q.2.2.1 T.2.2.1 k1 ri,O Q.2.1 T.2.1 Q.2.2.2.1 T.2.2.2.1 k2 ri⟩
   .have:=h.stay c p;rw[q]at this;cases this;obtain⟨V,P⟩:=g.lo c;obtain⟨u1,u2⟩:=g.hi c;exact⟨⟨h.ok V,v c p V P .inl⟩,h.ok u1,v c p u1 u2 .inr⟩
 exact⟨λq=>K _ ⟨_,q⟩,λq=>(u q).1,λq=>(u q).2⟩
theorem S6.ext{M':Tb}(i:∀j d,M j=σ d->M' j=σ d){a b:Int}(h:S6 M x a b e):S6 M' x a b e:=by
 rcases h with h|⟨l,k,f,g,c⟩
 .exact .inl h
 .exact .inr ⟨l,k,f,g,i _ _ c⟩
theorem noY(g:Good n lv N)(c:lv y<el n lv N e):¬NS N y e:=λ⟨f,a,d⟩=>by
 by_cases b:e/2=0
 .rw[b,g.zero]at a;cases a
 grind[Bn]
theorem Yg.add(_:Good n lv N)(h:Yg n lv N x y D M){a b:Int}(q:0<i)(A:M i=δ)(E:Ok N a)(I:Ok N b)(H:lv y<el n lv N a)(J:lv y<el n lv N b)(r:a≠b)(o:b%2=0)(p:∀j,M j≠σ ⟨x,a,b⟩):Yg n lv N x y D (Ko M i ⟨x,a,b⟩):=by
 have c:=Ud (d:=⟨x,a,b⟩) A;refine⟨λm B=>c _ _ (h.stay m B),λF u=>?_,λ{j d}v m=>?_,λ{j k d}C l f=>?_⟩
 .obtain⟨s,t,l,f,w⟩:=h.Uv F u;exact⟨s,t,c _ _ l,f.ext c,w.ext c⟩
 .unfold Ko at m;split at m
  .grind
  .exact h.new v m
 .unfold Ko at l f;split at l
  .grind
  .split at f
   .grind
   .exact h.YZ C l f
theorem Yg.set(g:Good n lv N)(K:0<=n)(_:0<=x/\x<n)(J:0<=y/\y<n)(l:lv y=lv x+1)(h:Yg n lv N x y D M)(hi:Tn N x y i d)(Q:¬D i){lo hh:Int}(O:S6 M x (sp N y d.lo).1 (sp N y d.hi).1 lo)(W:S6 M x (sp N y d.lo).2 (sp N y d.hi).2 hh):Yg n lv N x y (λj=>D j∨j=i) (λj=>if j=i then σ ⟨y,lo,hh⟩ else M j):=by
 have v:x≠y:=λe=>by grind
 have w:=h.stay hi.1 (λk=>Q k.2);have c:∀{a b e:Int},lv y<el n lv N a->lv y<el n lv N b->S6 M x a b e->S6 (λj=>if j=i then σ ⟨y,lo,hh⟩ else M j) x a b e:=λ{a b e}V Y B=>by
  rcases B with B|⟨t,s,z,U,r⟩
  .exact .inl B
  .refine .inr ⟨t,s,z,U,?_⟩;show (if e/2=i then _ else M (e/2))=_;rw[GT λP=>?_]
   .exact r
   .rw[P,w]at r;injection r with r
    have S:d.lo=fl a b:=congrArg Nd.lo r;have T:d.hi=fl b b:=congrArg Nd.hi r;rcases hi.2.2 with k|k
    all_goals grind[noY,MA]
 refine⟨λ{j o}f L=>?_,λ{j o}p G=>?_,λ{j o}A f=>?_,λ{j k o}H t s=>?_⟩
 .have m:j≠i:=λe=>L (by subst e;rw[hi.1]at f;grind);show (if j=i then _ else M j)=_;rw[GT m];exact h.stay f λ⟨R,X⟩=>L ⟨R,.inl X⟩
 .have fl:=g.four K J l p.1 p.2.1 _ (.inl rfl);have u:=g.four K J l p.1 p.2.1 _ (.inr rfl);by_cases m:j=i
  .subst m;have e:=p.1.symm.trans hi.1;grind
  .obtain⟨E,F,t,s,z⟩:=h.Uv p (G.resolve_right m);grind
 .have m:j≠i:=λe=>by subst e;rw[hi.1]at A;cases A
  have f:(if j=i then _ else M j)=σ o:=f;rw[GT m]at f;exact h.new A f
 .have I:∀{q},(if q=i then σ ⟨y,lo,hh⟩ else M q)=σ o->M q=σ o:=λ{q}C=>by grind
  exact h.YZ H (I t) (I s)
end
end
end Go.B
namespace Go.Proofs.YtcbkbpjlbmalmaaGreatDoor
open Go Go.X Go.Y
section
section
variable {κ β:Type} [DecidableEq κ]
theorem Ml{k:κ}{v:β}:∀{m:List (κ×β)},Ag m k=δ->ν (C4 m k v)=ν m+1
 | [],_=>rfl
 |p::m,h=>by have h:(if p.1=k then σ _ else Ag m k)=δ:=h;split at h;all_goals simp_all[C4,Ml]
theorem Xj{k:κ}{v:β}:∀{m:List (κ×β)}{p:κ×β},p∈C4 m k v->p∈m∨p.2=v
 | [],p,h=>by have h:p∈[(k,v)]:=h;rw[a4]at h;right;rw[h]
 |q::m,p,h=>by
  unfold C4 at h;split at h
  .grind
  .rcases an.1 h with rfl|h
   .simp
   .exact(Xj h).imp (aa _) id
end
def UD(p:Int×Int):K2:=⟨B.fl p.1 p.2,B.fl p.2 p.2⟩
def kyQ(t:Ba):List (Int×Int):=[(t.ll,t.hl),(t.lh,t.hh)]
variable {H:HY} {X:PX} {b:Nat} {S:B9} {x:Int}
theorem Wv{m:List (K2×Bool)}{p:Int×Int}{N1 N2:HP}(u:Ca H b S)(n:x.toNat<ν S.tb)(h:x.toNat<ν S.ob.tables)(l:0<=p.2)(o:∀q∈m,q.2=τ)(d:(p.1≠p.2->Ag (S.ta x.toNat).ids (UD p)=δ->UD p∈m.map (·.1))->N1 H)(s:Ag m (UD p)=δ->N2 H):qK 232 CY (S.ob.tables[x.toNat]'h,AO p.1 (Cj p.2),AO p.2 (Cj p.2),()) H (λb _ H'=>(AO p.1 (Cj p.2)=AO p.2 (Cj p.2)->N1 H')/\(¬AO p.1 (Cj p.2)=AO p.2 (Cj p.2)->(b.2.1=τ->N1 H')/\(¬b.2.1=τ->((Ag m (⟨AO p.1 (Cj p.2),AO p.2 (Cj p.2)⟩:K2)).getD ψ=τ->N1 H')/\(¬(Ag m (⟨AO p.1 (Cj p.2),AO p.2 (Cj p.2)⟩:K2)).getD ψ=τ->N2 H')))) X:=by
 have g:S.ob.tables[x.toNat]'h=σ S.tb[x.toNat]:=by simp [B9.ob]
 have k:∀e,AO e _=B.fl e _:=λe=>K7 l;rw[g,k,k];have t:⟨B.fl _ _,B.fl _ _⟩=UD p:=rfl;rw[t];refine Pp (u.ta _ n) (λj=>⟨λe=>d λa=>qG (B.UJ e) a,λ_=>⟨λh=>(by cases h),λ_=>⟨λc=>d λ_ _=>?_,λc=>s ?_⟩⟩⟩) λi r=>⟨λe=>d λa=>qG (B.UJ e) a,λ_=>⟨λ_=>d λ_ j=>?_,λh=>qG rfl h⟩⟩
 .cases e:Ag m (UD p) with
  |none=>grind
  |some v=>simp_all[Jw]
 .cases e:Ag m (UD p) with
  |none=>rfl
  |some v=>
   have:=o _ (Jw e);grind
 grind
theorem W8{l:List Ba}{Q:Int×Unit->UU}(hS:Ca H b S)(hx:0<=x/\x<S.n)(hl:∀t∈l,∀p∈kyQ t,0<=p.2)(hlen:ν l<=2000000)(h:∀K:List K2,K.Nodup->ν K<=2*ν l->(∀t∈l,∀p∈kyQ t,p.1≠p.2->Ag (S.ta x.toNat).ids (UD p)=δ->UD p∈K)->Q (ν K,()) () H):qK 209 Ij (σ b,x,l,()) H Q X:=by
 refine wF Tryz.f209 {lp:=[(7,⟨[(7,.map (.u 17) .bool),(8,.nat),(36,.one (.own (.u 17))),(38,.nat)],[0,1,20,21,22,36,37],τ⟩),(4,⟨[(7,.map (.u 17) .bool),(8,.nat),(22,.nat)],[0,1,20,21],τ⟩)]} (?_:ν l<=2^63-1->∃(V:Nat->List (Ak×Bool)×Nat×Nat×UT->HP),(∃(n:Nat),V n ([],0,0,()) H)/\∀n x1 H,V n x1 H->(x1.2.2.1<ν l->x1.2.2.1<=2^63-1->∃(h:x1.2.2.1<ν l),letI F:=l[x1.2.2.1];letI E:=[{a0:=F.ll,a1:=F.hl:Ak},{a0:=F.lh,a1:=F.hh:Ak}];ν E<=2^63-1->∃(V1:Nat->List (Ak×Bool)×Nat×List Ak×Nat×UT->HP),(∃(n:Nat),V1 n (x1.1,x1.2.1,E,0,()) H)/\∀n1 x2 H,V1 n1 x2 H->(x2.2.2.2.1<ν E->x2.2.2.2.1<=2^63-1->∃(h:x2.2.2.2.1<ν x2.2.2.1),letI I:=x2.2.2.2.1+1;∃(h:x2.2.2.2.1<ν x2.2.2.1),letI O:=x2.2.2.1[x2.2.2.2.1];letI R:=AO O.a0 (Cj O.a1);letI S:=AO O.a1 (Cj O.a1);letI P:={a0:=R,a1:=S:Ak};letI W:=(Ag x2.1 P).getD ψ=τ;∃(a:Nat),(σ b)=σ a/\∃(x3:Ai),H a=σ (Ob.st AD x3)/\(IK x->(IK x->0<=x)/\∃(h1:(x.toNat<ν x3.tables)),∃(h2:(x.toNat<ν x3.tables)),x3=x3/\qK 232 CY (x3.tables[x.toNat],R,S,()) H (λ(a:Int×qU)_ G=>letI B:=I<=2^63-1/\∃m,m<n1/\V1 m (x2.1,x2.2.1,x2.2.2.1,I,()) G;(R=S->B)/\(¬R=S->(a.2.1->B)/\(¬a.2.1->(W->B)/\(¬W->x2.2.1+1<=2^63-1/\I<=2^63-1/\∃m,m<n1/\V1 m (C4 x2.1 P τ,x2.2.1+1,x2.2.2.1,I,()) G)))) X))/\(¬x2.2.2.2.1<ν E->x1.2.2.1+1<=2^63-1/\∃m,m<n/\V m (x2.1,x2.2.1,x1.2.2.1+1,()) H))/\(¬x1.2.2.1<ν l->Q ((x1.2.1:Int),()) () H));have o:x.toNat<ν S.tb:=by have:=hx.2;unfold B9.n at this;omega
 have hob:∀h,S.ob.tables[x.toNat]'h=σ S.tb[x.toNat]:=λh=>by simp [B9.ob]
 let W (m:List (K2×Bool)) (c:Nat):Prop:=Pc m/\c=ν m/\∀p∈m,p.2=τ;let G (m:List (K2×Bool)) (p:Int×Int):Prop:=p.1≠p.2->Ag (S.ta x.toNat).ids (UD p)=δ->UD p∈m.map (·.1);have v:∀{m:List (K2×Bool)}{k:K2}{p:Int×Int},G m p->G (C4 m k τ) p:=λO h1 h2=>(U9 _ _ _ _).2 (.inl (O h1 h2));intro _;refine⟨λn z H'=>H'=H/\n=ν l-z.2.2.1/\z.2.2.1<=ν l/\W z.1 z.2.1/\z.2.1<=2*z.2.2.1/\∀j(_:j<ν l),j<z.2.2.1->∀p∈kyQ l[j],G z.1 p,⟨_,rfl,rfl,ac _,⟨bq,rfl,λp d=>qG d ad⟩,Nat.le_refl _,λj _ M=>qG M (Nat.not_lt_zero j)⟩,?_⟩;rintro n ⟨m,c,k,_⟩ H' ⟨rfl,hn0,hk0,U,hc0,hG0⟩;have T:n=ν l-k:=hn0;have hk:k<=ν l:=hk0;have hW:W m c:=U;have hc:c<=2*k:=hc0;have hG:=hG0;refine⟨λN _=>?_,λN=>?_⟩
 .have r:k<ν l:=N;have f:=hl l[k] (b0 r);refine⟨r,λ_=>⟨λn1 z A=>A=H'/\n1=2-z.2.2.2.1/\z.2.2.2.1<=2/\z.2.2.1=(kyQ l[k]).map (λp=>(⟨p.1,p.2⟩:K2))/\W z.1 z.2.1/\z.2.1<=2*k+z.2.2.2.1/\(∀j(_:j<ν l),j<k->∀p∈kyQ l[j],G z.1 p)/\∀p∈(kyQ l[k]).take z.2.2.2.1,G z.1 p,⟨2,rfl,rfl,ac _,rfl,hW,hc,hG,λp d=>qG d ad⟩,?_⟩⟩;rintro n1 ⟨s,y,ks,j,_⟩ A ⟨rfl,D,E,I,C,F,J,L⟩;have hn1:n1=2-j:=D;have hj1:j<=2:=E;have hks:=I;have a:W s y:=C;have hc1:y<=2*k+j:=F;have V:=J;have hT1:=L;subst hks;have g:∀P c2,W P c2->c2<=2*k+(j+1)->(∀p,G s p->G P p)->(M:j<2)->G P ((kyQ l[k])[j]'M)->j+1<=9223372036854775807/\∃m',m'<n1/\(A=A/\m'=2-(j+1)/\j+1<=2/\(kyQ l[k]).map (λp=>(⟨p.1,p.2⟩:K2))=(kyQ l[k]).map _/\W P c2/\c2<=2*k+(j+1)/\(∀j(_:j<ν l),j<k->∀p∈kyQ l[j],G P p)/\∀p∈(kyQ l[k]).take (j+1),G P p):=λP c2 hW2 hc2 Y M O=>by
   refine⟨by show j+1<=_;omega,2-(j+1),by omega,rfl,rfl,by omega,rfl,hW2,hc2,λi hi B p d=>Y p (V i hi B p d),λp d=>?_⟩;rw[a8 (by exact M)]at d;rcases al.1 d with d|d
   .exact Y p (hT1 p d)
   .rw[a4]at d;rw[d];exact O
  have Z:∀(κ:K2)p,κ=UD p->Ag s (UD p)=δ->W (C4 s κ τ) (y+1)/\G (C4 s κ τ) p:=fun κ p e T=>by subst e;refine⟨⟨K8 a.1 _ _,by rw[Ml T,a.2.1],λq hq=>(Xj hq).elim (a.2.2 q) id⟩,λ_ _=>(U9 _ _ _ _).2 (.inr rfl)⟩
  refine⟨λR _=>?_,λR=>?_⟩
  .have u:j<2:=R;obtain rfl|rfl:j=0∨j=1:=by omega
   .refine⟨by show 0<2;decide,by show 0<2;decide,b,rfl,S.ob,hS.st,λ_=>⟨λ_=>hx.1,by simpa [B9.ob] using o,by simpa [B9.ob] using o,rfl,?_⟩⟩;refine Wv (p:=(l[k].ll,l[k].hl)) hS o _ (f (l[k].ll,l[k].hl) a5) a.2.2 (λO=>g s y a (by omega) (λ_ h=>h) u O) λT=>⟨by show y+1<=_;omega,?_⟩
    have w:=Z (⟨AO l[k].ll (Cj l[k].hl),AO l[k].hl (Cj l[k].hl)⟩:K2) (l[k].ll,l[k].hl) (by unfold UD;simp only[K7 (f (l[k].ll,l[k].hl) a5)]) T;exact g _ (y+1) w.1 (by omega) (λ_ h=>v h) u w.2
   .refine⟨by show 1<2;decide,by show 1<2;decide,b,rfl,S.ob,hS.st,λ_=>⟨λ_=>hx.1,by simpa [B9.ob] using o,by simpa [B9.ob] using o,rfl,?_⟩⟩;refine Wv (p:=(l[k].lh,l[k].hh)) hS o _ (f (l[k].lh,l[k].hh) (aa _ a5)) a.2.2 (λO=>g s y a (by omega) (λ_ h=>h) u O) λT=>⟨by show y+1<=_;omega,?_⟩
    have w:=Z (⟨AO l[k].lh (Cj l[k].hh),AO l[k].hh (Cj l[k].hh)⟩:K2) (l[k].lh,l[k].hh) (by unfold UD;simp only[K7 (f (l[k].lh,l[k].hh) (aa _ a5))]) T;exact g _ (y+1) w.1 (by omega) (λ_ h=>v h) u w.2
  .have u:¬j<2:=R;have:j=2:=by omega
   subst this;refine⟨by show k+1<=_;omega,ν l-(k+1),by omega,rfl,rfl,by show k+1<=_;omega,a,by show y<=2*(k+1);omega,λi hi B p d=>?_⟩;have B:i<k+1:=B;by_cases e:i=k
   .subst e;exact hT1 p d
   .exact V i hi (by omega) p d
 .have r:¬k<ν l:=N;have hke:k=ν l:=by omega
  have a:(m.map (·.1)).Nodup:=hW.1;have:=h (m.map (·.1)) a (by rw[ae,<-hW.2.1];omega) λt ht p d=>by obtain⟨j,M,rfl⟩:=ba.1 ht;exact hG j M (by omega) p d
  rw[ae,<-hW.2.1]at this;exact this
theorem W9{r:Int->Int}{lo hi:Int}{Q:Int×Unit->UU}(j:Ca H b S)(A:SC S r)(C:∀p d,Ax S.po p=σ d->B.Ok (Ax S.po) d.lo/\B.Ok (Ax S.po) d.hi)(v:∀i,Ax S.po i=δ->r i=0)(m:0<=x/\x<S.n)(w:0<=hi)(f:lo≠hi->Ag (S.ta x.toNat).ids (UD (lo,hi))=δ->S.po.many≠S.po.room)(E:∀i,Ag (S.ta x.toNat).ids (UD (lo,hi))=σ i->0<i/\i<2000000)(y:lo=hi->Q (lo,()) () H)(u:∀i,lo≠hi->Ag (S.ta x.toNat).ids (UD (lo,hi))=σ i->Q (B.fl (2*i) hi,()) () H)(D:∀i S' H',lo≠hi->Ag (S.ta x.toNat).ids (UD (lo,hi))=δ->Ahr S x (B.fl lo hi) (B.fl hi hi) i S'->Ca H' b S'->SC S' r->OP b S H H'->Q (B.fl (2*i) hi,()) () H'):qK 214 DF (σ b,x,lo,hi,()) H Q X:=by
 refine wF Tryz.f214 {} (?_:letI E:=Cj hi;(lo=hi->Q (lo,()) () H)/\(¬lo=hi->∃(a:Nat),(σ b)=σ a/\∃(x1:Ai),H a=σ (Ob.st AD x1)/\(IK x->(IK x->0<=x)/\∃(h:(x.toNat<ν x1.tables)),∃(h:(x.toNat<ν x1.tables)),x1=x1/\qK 232 CY (x1.tables[x.toNat],AO lo E,AO hi E,()) H (λ(a:Int×qU)_ G=>(¬a.2.1->qK 233 Oi ((σ b),x,AO lo E,AO hi E,()) G (λ(a:Int×qV)_ G=>(IK a.1/\True/\True->a.1<=(4611686018427387903:den Y0.D G6))/\Q (AO (2*max a.1 (0:den Y0.D G6)) E,()) () G) X)/\(¬¬a.2.1->(IK a.1/\True/\True->a.1<=(4611686018427387903:den Y0.D G6))/\Q (AO (2*max a.1 (0:den Y0.D G6)) E,()) () G)) X)));have a:x.toNat<ν S.tb:=by grind[B9.n]
 have l:S.ob.tables[x.toNat]'(by grind[B9.ob])=σ S.tb[x.toNat]:=by simp [B9.ob]
 have n:∀e,AO e _=B.fl e _:=λe=>K7 w;refine⟨y,λc=>⟨b,rfl,S.ob,j.st,λ_=>⟨λ_=>m.1,by grind,by grind,rfl,?_⟩⟩⟩;rw[l];simp only[n];refine Pp (j.ta _ a) (λk=>⟨λ_=>?_,λh=>qG (by simp) h⟩) λi g=>⟨λh=>qG rfl h,λ_=>?_⟩
 .refine SY j A C v m k (λq=>qG q (f c k)) λi S' H' _ o s t z=>⟨λ_=>?_,?_⟩
  .have:=o.lt;omega
  .have:=o.pos;show Q _ _ _;rw[show max i 0=i by omega];exact D i _ _ c k o s t z
 .have:=E i g;refine⟨λ_=>by omega,?_⟩;show Q _ _ H;rw[show max i 0=i by omega];exact u i c g
def swL(x:AX)(k:Nat)(a b:Int):AX:={vars:=(x.vars.set k b).set (k+1) a,level:=(x.level.set a.toNat ((k:Int)+1)).set b.toNat k}
theorem Xq{c:Nat}{x:AX}{k:Nat}{a b:Int}{Q:Unit->UU}(j:H c=σ (.st CR x))(n:x.vars[k]?=σ a)(q:x.vars[k+1]?=σ b)(f:0<=a/\a.toNat<ν x.level)(e:0<=b/\b.toNat<ν x.level)(r:ν x.vars<=64)(h:Q () () (Ac H c (.st CR (swL x k a b)))):qK 212 Ii (σ c,(k:Int),()) H Q X:=by
 refine wF Tryz.f212 {} (?_:letI E:=(k:Int)+1;letI F:=(k:Int).toNat;letI I:=IK (k:Int);letI O:=E.toNat;letI P:=IK E;∃(b:Nat),(σ c)=σ b/\∃(x:AX),letI R:=ν x.vars;H b=σ (Ob.st CR x)/\(I->(I->0<=(k:Int))/\∃(h:F<R),∃(h:F<R),I->P/\(P->(P->0<=E)/\∃(h1:O<R),∃(h2:O<R),letI S:=x.vars[O];letI W:=x.vars.set F S;I->P/\(I->(I->0<=(k:Int))/\∃(h3:F<R),letI Y:=x.vars[F];letI B:=x.level.set Y.toNat E;F<R/\(P->(P->0<=E)/\∃(h4:O<ν W),O<ν W/\(I->P/\(IK Y->(IK Y->0<=Y)/\∃(h5:Y.toNat<ν x.level),Y.toNat<ν x.level/\(IK S->(IK S->0<=S)/\∃(h6:S.toNat<ν B),S.toNat<ν B/\Q () () (Ac H b (Ob.st CR {vars:=W.set O Y,level:=B.set S.toNat (k:Int):AX}))))))))));obtain⟨g,p⟩:=a7.1 n;obtain⟨d,l⟩:=a7.1 q;have o:=by omega
 have m:=by omega
 have i:Bl _ (k+1):=Aq.2 (by omega);subst p l;simp only[List.length_set];exact⟨c,rfl,x,j,λ_=>⟨λ_=>by omega,g,g,λ_=>⟨i,λ_=>⟨λ_=>by omega,d,d,λ_=>⟨i,λ_=>⟨λ_=>by omega,g,g,λ_=>⟨λ_=>by omega,d,d,λ_=>⟨i,λ_=>⟨λ_=>f.1,f.2,f.2,λ_=>⟨λ_=>e.1,e.2,e.2,h⟩⟩⟩⟩⟩⟩⟩⟩⟩⟩
end
section
structure Cx(S1:B9)(x y:Int)(L:List Ba)(K:List K2):Prop where
 si:SI S1
 live:∀i d,Ax S1.po i=σ d->0<Gd S1.cn i
 hx:0<=x/\x<S1.n
 hy:0<=y/\y<S1.n
 hxy:DW S1.lv y=DW S1.lv x+1
 nd:(L.map (·.n.ID)).Nodup
 te:∀t∈L,TnE S1 x y t
 all:∀i n,GJ S1.po i=σ n->n.Var=x->(B.NS (Ax S1.po) y n.Lo∨B.NS (Ax S1.po) y n.Hi)->∃t∈L,t.n=n
 kn:K.Nodup
 ka:∀t∈L,∀p∈kyQ t,p.1≠p.2->Ag (S1.ta x.toNat).ids (UD p)=δ->UD p∈K
 room:S1.po.many+ν K<=S1.po.room
structure YU(S1:B9)(x y:Int)(L:List Ba)(K:List K2)(k:Nat)(S:B9):Prop where
 mix:B.Yg S1.n (DW S1.lv) (Ax S1.po) x y (λi=>∃t∈L.take k,t.n.ID=i) (Ax S.po)
 rf:∀j,Fq S.po j=Fq S1.po j
 tb:S.tb=S1.tb
 bl:S.bl=S1.bl
 bp:S.bp=S1.bp
 room:S.po.room=S1.po.room
 tn:∀v:Nat,v<ν S1.tb->Pc (S.ta v).ids
 tx:∀lo hi i,Ag (S.ta x.toNat).ids (⟨lo,hi⟩:K2)=σ i↔Ax S.po i=σ ⟨x,lo,hi⟩/\¬∃t∈L.drop k,t.n.ID=i
 tv:∀v:Nat,v<ν S1.tb->(v:Int)≠x->∀lo hi i,Ag (S.ta v).ids (⟨lo,hi⟩:K2)=σ i↔Ax S.po i=σ ⟨(v:Int),lo,hi⟩
 add:∃A:List K2,A.Nodup/\(∀κ∈A,κ∈K/\Ag (S.ta x.toNat).ids κ≠δ)/\S.po.many=S1.po.many+ν A
section
variable {S1:B9} {x y:Int} {L:List Ba} {K:List K2}
variable {t:Ba}
theorem Cx.tn(c:Cx S1 x y L K)(j:t∈L):B.Tn (Ax S1.po) x y t.n.ID ⟨x,t.n.Lo,t.n.Hi⟩/\∀p∈kyQ t,B.Ok (Ax S1.po) p.1/\B.Ok (Ax S1.po) p.2/\DW S1.lv y<B.el S1.n (DW S1.lv) (Ax S1.po) p.1/\DW S1.lv y<B.el S1.n (DW S1.lv) (Ax S1.po) p.2:=by
 have e:=c.te t j;have f:=Ic e.nd;rw[e.v]at f;have a:=c.si.BN.four B9.Lm c.hy c.hxy f rfl _ (.inl rfl);have b:=c.si.BN.four B9.Lm c.hy c.hxy f rfl _ (.inr rfl);simp  at a b;have g:=e.l.symm;have i:=e.h.symm;rw[g]at a;rw[i]at b;refine⟨⟨f,rfl,?_⟩,λp d=>?_⟩
 .rcases e.ne with h|h
  .refine .inl (c.si.BN.Zf.2 ?_);grind
  .refine .inr (c.si.BN.Zf.2 ?_);grind
 grind[kyQ]
theorem Cx.A3j(c:Cx S1 x y L K)(e:t∈L){a b:Int}(d:DW S1.lv y<B.el S1.n (DW S1.lv) (Ax S1.po) a)(f:DW S1.lv y<B.el S1.n (DW S1.lv) (Ax S1.po) b):¬(t.n.Lo=a/\t.n.Hi=b):=by
 rintro⟨rfl,rfl⟩;rcases(c.tn e).1.2.2 with h|h
 .exact B.noY c.si.BN d h
 .exact B.noY c.si.BN f h
variable {k:Nat}
theorem Tv{l:List Ba}(h:(l.map (·.n.ID)).Nodup){s:Ba}(hs:s∈l.take k)(b:t∈l.drop k):s.n.ID≠t.n.ID:=by
 have a:l.map (·.n.ID)=(l.take k).map (·.n.ID)++(l.drop k).map (·.n.ID):=by rw[<-ak,bk]
 rw[a,aq]at h;exact h.2.2 _ (ai hs) _ (ai b)
theorem YU.Wy(c:Cx S1 x y L K){S:B9}(m:YU S1 x y L K k S)(a:t∈L.drop k):Ax S.po t.n.ID=σ ⟨x,t.n.Lo,t.n.Hi⟩/\¬∃s∈L.take k,s.n.ID=t.n.ID:=by have b:¬∃s∈L.take k,s.n.ID=t.n.ID:=λ⟨s,d,e⟩=>Tv c.nd d a e;exact⟨m.mix.stay (c.tn (a6 a)).1.1 λh=>b h.2,b⟩
theorem Arm{M:B.Tb}{i lo hi:Int}(d:0<i)(a:lo≠hi)(h:M i=σ ⟨x,B.fl lo hi,B.fl hi hi⟩):B.S6 M x lo hi (B.fl (2*i) hi)/\B.Ok M (B.fl (2*i) hi):=by
 have c:B.fl (2*i) hi/2=i:=by grind[B.Aha]
 have b:0<=B.fl (2*i) hi:=by unfold B.fl B.flip;split<;>omega
 have e:B.fl (2*i) hi%2=hi%2:=by grind[B.Aqp]
 exact⟨.inr ⟨a,b,by omega,e,by grind⟩,b,.inr ⟨_,by rw[c];exact h⟩⟩
theorem Z0{b:Nat}{S:B9}{p:Int×Int}{H:HY}{X:PX}{Q:Int×Unit->UU}(c:Cx S1 x y L K)(m:YU S1 x y L K k S)(N:SC S (Fq S1.po))(hS:Ca H b S)(ht:t∈L.drop k)(hp:p∈kyQ t)(h:∀e S' H',YU S1 x y L K k S'->SC S' (Fq S1.po)->Ca H' b S'->OP b S H H'->S'.lv=S.lv->B.Ok (Ax S'.po) e->B.S6 (Ax S'.po) x p.1 p.2 e->(∀i d,Ax S.po i=σ d->Ax S'.po i=σ d)->Q (e,()) () H'):qK 214 DF (σ b,x,p.1,p.2,()) H Q X:=by
 have V:=a6 ht;obtain⟨U,P,la,lb⟩:=(c.tn V).2 p hp;have hn:S.n=S1.n:=by unfold B9.n;rw[m.tb]
 have hx':x.toNat<ν S1.tb:=by have:=c.hx;unfold B9.n at this;omega
 have W:=m.mix.dag c.si.BN B9.Lm c.hx c.hy c.hxy;have u:∀{j d},Ax S.po j=σ d->0<j/\j<2000000:=λ{j d}r=>by have:=N.cn.N6 r;have:=N.po.len;have:=N.po.room;omega
 have T:p.1≠p.2->Ag _ _=δ->UD p∈K:=λl g=>by
  refine c.ka t V p hp l ?_;cases e:Ag _ (UD p) with
  |none=>rfl
  |some j=>
   exfalso;have o:=(c.si.tg _ hx' _ _ _).1 e;rw[show x.toNat=x by have:=c.hx;omega]at o;have I:∀s∈L,s.n.ID≠j:=λs w D=>by have J:=(c.tn w).1.1;rw[D,o]at J;have C:=am J;exact c.A3j w   (by rw[B.MA];exact la) (by rw[B.MA];exact lb) ⟨(congrArg B.Nd.lo C).symm,(congrArg B.Nd.hi C).symm⟩
   have J:=m.mix.stay o λ⟨_,s,w,D⟩=>I s (List.mem_of_mem_take w) D;have:=(m.tx _ _ j).2 ⟨J,λ⟨s,w,D⟩=>I s (a6 w) D⟩;rw[show Ag _ (UD p)=σ j from this]at g;cases g
 refine W9 hS N (λq d hd=>⟨(W.lo hd).1,(W.hi hd).1⟩) (λi z=>?_) (by rw[hn];exact c.hx) P.1 (λl g=>?_) (λi z=>?_) (λhe=>?_) (λi l z=>?_) λi S' H' l g f s1 c1 f1=>?_
 .rw[<-m.rf];exact WD z
 .obtain⟨A,a1,M,a3⟩:=m.add;have hk:=T l g;have hlt:=HS (bj.2 ⟨λhm=>(M _ hm).2 g,a1⟩) λq hq=>by
   rcases an.1 hq with rfl|hq
   .exact hk
   .exact(M q hq).1
  have:=c.room;rw[c6]at hlt;rw[a3,m.room];omega
 .exact u ((m.tx _ _ _).1 z).1
 .exact h p.1 S H m N hS OP.refl rfl (m.mix.ok U) (.inl ⟨he,rfl⟩) λ_ _ h=>h
 .have o:=((m.tx _ _ _).1 z).1;have:=Arm (u o).1 l o;exact h _ S H m N hS OP.refl rfl this.2 this.1 λ_ _ h=>h
 .have n:Ax S'.po i=σ ⟨x,B.fl p.1 p.2,B.fl p.2 p.2⟩:=by rw[f.Ax];exact B.Vf
  have F:=Arm f.pos l n;have R:∀j d,Ax S.po j=σ d->Ax S'.po j=σ d:=λj d r=>by rw[f.Ax];exact B.Ud f.Lu j d r
  have G:∀j,Ax S.po j≠σ _:=λj r=>by
   have:=(m.tx _ _ j).2 ⟨r,λ⟨s,w,D⟩=>by have J:=(m.Wy c w).1;rw[D,r]at J;have C:=am J;exact c.A3j (a6 w) (a:=B.fl p.1 p.2) (b:=B.fl p.2 p.2) (by rw[B.MA];exact la) (by rw[B.MA];exact lb) ⟨(congrArg B.Nd.lo C).symm,(congrArg B.Nd.hi C).symm⟩⟩
   rw[show Ag _ (UD p)=σ j from this]at g;cases g
  refine h _ S' H' ⟨?_,λj=>(f.rf j).trans (m.rf j),f.tb.trans m.tb,f.bl.trans m.bl,f.bp.trans m.bp,f.room.trans m.room,λv hv=>?_,λY z j=>?_,λv hv O Y z j=>?_,?_⟩ c1 s1 f1 f.lv F.2 F.1 R
  .rw[f.Ax];exact m.mix.add c.si.BN f.pos f.Lu U.fl P.fl (by rw[B.MA];exact la) (by rw[B.MA];exact lb) (λe=>l (B.UJ e)) B.Vu G
  .rw[f.ta];split
   .exact K8 (m.tn v hv) _ _
   .exact m.tn v hv
  .rw[f.ta,UV rfl,f.Ax];simp only;rw[Cw];by_cases Z:(⟨Y,z⟩:K2)=⟨B.fl p.1 p.2,B.fl p.2 p.2⟩
   .rw[UV Z];obtain⟨rfl,rfl⟩:Y=B.fl p.1 p.2/\z=B.fl p.2 p.2:=by injection Z with a b;exact⟨a,b⟩
    constructor
    .intro r;obtain rfl:i=j:=by injection r
     refine⟨B.Vf,λ⟨s,w,D⟩=>?_⟩;have:=(m.Wy c w).1;rw[D,f.Lu]at this;cases this
    .rintro⟨r,_⟩;unfold B.Ko at r;split at r
     .rename_i e;rw[e]
     .exact qG r (G j)
   .rw[GT Z,m.tx];unfold B.Ko;split
    .rename_i e;subst e;rw[f.Lu];constructor
     .rintro⟨o,_⟩;cases o
     .rintro⟨o,_⟩;have C:=am o;exact qG (by rw[show Y=_ from (congrArg B.Nd.lo C).symm,show z=_ from (congrArg B.Nd.hi C).symm]) Z
    .rfl
  .rw[f.ta,GT (by have:=c.hx;omega),f.Ax,m.tv v hv O];unfold B.Ko;split
   .rename_i e;subst e;rw[f.Lu];constructor
    .intro o;cases o
    .intro o;have C:=am o;exact qG (congrArg B.Nd.v C).symm O
   .rfl
  .obtain⟨A,a1,M,a3⟩:=m.add;have n:Ag (S'.ta x.toNat).ids (UD p)≠δ:=by rw[f.ta,UV rfl];show Ag (C4 _ (UD p) i) _≠δ;rw[Cw,UV rfl];simp
   refine⟨UD p::A,bj.2 ⟨λhm=>(M _ hm).2 g,a1⟩,fun κ E=>?_,by rw[f.many,a3,c6];omega⟩;rcases an.1 E with rfl|E
   .exact⟨T l g,n⟩
   .refine⟨(M κ E).1,?_⟩;rw[f.ta,UV rfl];simp only;rw[Cw];split
    .simp
    .exact(M κ E).2
end
end
section
section
variable {S1:B9} {x y:Int} {L:List Ba} {K:List K2}
variable {k:Nat} {S:B9}
theorem YU.wc(m:YU S1 x y L K k S)(b:List Int)(a:Int):YU S1 x y L K k (S.wc b a):=⟨m.mix,m.rf,m.tb,m.bl,m.bp,m.room,m.tn,m.tx,m.tv,m.add⟩
theorem Aie(b:k<ν L)(i:Int):(∃t∈L.take (k+1),t.n.ID=i)↔(∃t∈L.take k,t.n.ID=i)∨i=(L[k]).n.ID:=by grind[a8]
theorem Au5(b:k<ν L)(i:Int):(∃t∈L.drop k,t.n.ID=i)↔i=(L[k]).n.ID∨∃t∈L.drop (k+1),t.n.ID=i:=by grind[a9]
theorem Auc(c:Cx S1 x y L K)(m:YU S1 x y L K k S)(G:k<ν L){lo hi:Int}(b1:B.S6 (Ax S.po) x (L[k]).ll (L[k]).hl lo)(Y:B.S6 (Ax S.po) x (L[k]).lh (L[k]).hh hi){x':A7}(p:∀j,GJ x' j=if j=(L[k]).n.ID then σ (⟨(L[k]).n.ID,y,lo,hi,(L[k]).n.Refs⟩:AE) else GJ S.po j)(r:x'.many=S.po.many)(s:x'.room=S.po.room):Ag (S.ta y.toNat).ids (⟨lo,hi⟩:K2)=δ/\YU S1 x y L K (k+1) {S with po:=x',ta:=λw=>if w=y.toNat then ⟨C4 (S.ta y.toNat).ids (⟨lo,hi⟩:K2) (L[k]).n.ID⟩ else S.ta w}/\Ax x'=λj=>if j=(L[k]).n.ID then σ ⟨y,lo,hi⟩ else Ax S.po j:=by
 have o:x≠y:=λe=>by have:=c.hxy;rw[e]at this;omega
 have C:y.toNat<ν S1.tb:=by have:=c.hy;unfold B9.n at this;omega
 have q:y.toNat=y:=by have:=c.hy;omega
 have l:L[k]∈L.drop k:=by rw[a9 G];grind
 have J:=a6 l;have e:=c.te _ J;obtain⟨V,W⟩:=m.Wy c l;have E:Ax x'=λj=>if j=(L[k]).n.ID then σ ⟨y,lo,hi⟩ else Ax S.po j:=by funext j;unfold Ax;rw[p];split<;>rfl
 have P:=e.l.symm;have Q:=e.h.symm;have T:B.S6 (Ax S.po) x (B.sp (Ax S1.po) y (L[k]).n.Lo).1 (B.sp (Ax S1.po) y (L[k]).n.Hi).1 lo:=by grind
 have N:B.S6 (Ax S.po) x (B.sp (Ax S1.po) y (L[k]).n.Lo).2 (B.sp (Ax S1.po) y (L[k]).n.Hi).2 hi:=by grind
 have u:=m.mix.A5r c.si.BN B9.Lm c.hx c.hy c.hxy (c.tn J).1 W T N;have D:=m.tv _ C (by omega);rw[q]at D;have M:Ag (S.ta y.toNat).ids ⟨lo,hi⟩=δ:=by
  cases e:Ag (S.ta _).ids _ with
  |none=>rfl
  |some j=>grind
 refine⟨M,⟨?_,λj=>?_,m.tb,m.bl,m.bp,s.trans m.room,λv D=>?_,λf g i=>?_,λv H z f g i=>?_,?_⟩,E⟩
 .show B.Yg _ _ _ _ _ _ _;rw[E,show (λi=>∃t∈L.take _,t.n.ID=i)=λj=>(∃t∈L.take k,t.n.ID=j)∨j=(L[k]).n.ID from funext λi=>propext (Aie G i)];exact m.mix.set c.si.BN B9.Lm c.hx c.hy c.hxy (c.tn J).1 W T N
 .rw[<-m.rf];show Fq x' j=_;by_cases R:j=(L[k]).n.ID
  .subst R;rw[m.rf];unfold Fq;rw[p,UV rfl,e.nd]
  simp_all[Fq]
 .show Pc (if v=y.toNat then ⟨_⟩ else S.ta v).ids;split
  .exact K8 (m.tn _ C) _ _
  .exact m.tn v D
 .show Ag (if x.toNat=y.toNat then ⟨_⟩ else S.ta _).ids _=σ i↔Ax x' i=_/\_;rw[GT (by have:=c.hx;omega),m.tx,E,Au5 G];grind
 .show Ag (if v=y.toNat then ⟨_⟩ else S.ta v).ids _=σ i↔Ax x' i=_;rw[E];show _↔(if i=(L[k]).n.ID then σ _ else Ax S.po i)=_;by_cases U:v=y.toNat
  .subst U;rw[UV rfl,q];simp only;rw[Cw];grind
  .rw[GT U,m.tv v H z];grind
 .obtain⟨A,a1,X,Z⟩:=m.add;refine⟨A,a1,fun κ I=>?_,by grind⟩;show κ∈K/\Ag (if x.toNat=y.toNat then ⟨_⟩ else S.ta _).ids κ≠δ;rw[GT (by have:=c.hx;omega)];grind
theorem YU.live(c:Cx S1 x y L K)(m:YU S1 x y L K k S){r:Int->Int}(f:SC S r)(j:∀i,Fq S1.po i<=r i){t:Ba}(e:t∈L.drop k):0<Gd S.cn t.n.ID:=by have g:=(c.tn (a6 e)).1.1;have n:=c.si.BN.od.N7 x c.hx.1 c.hx.2;refine B.Cn.Auf (a:=DW _ x) c.si.BN c.si.sc.cn c.live f.cn c.si.rf j (λi d l b=>m.mix.stay l λh=>?_) (DW S1.lv x+1).toNat _ _ _ g (Int.le_refl _) (by grind) (m.Wy c e).1;rw[h.1.2.1]at b;omega
theorem Ayl{p:Option Nat}{b:Nat}{lo hi i:Int}{H:HY}{X:PX}{Q:Int×Unit->UU}(hp:p=σ b)(h:qK 217 DF (σ b,lo,hi,i,()) H Q X):qK 217 DF (p,lo,hi,i,()) H Q X:=by subst hp;exact h
theorem Apo{b:Nat}{H:HY}{X:PX}{N:HP}(c:Cx S1 x y L K)(V:∀i,Fq S1.po i<=576460752303423488)(m:YU S1 x y L K k S)(hk:k<ν L)(hC:SC S (Fq S1.po))(hS:Ca H b S)(h:∀S' f,YU S1 x y L K (k+1) S'->SC S' (Fq S1.po)->Ca f b S'->OP b S H f->S'.lv=S.lv->N f):qK 214 DF (σ b,x,(L[k]).ll,(L[k]).hl,()) H (λ(A:Int×Unit)(_:Unit)(f:HY)=>qK 214 DF (σ b,x,(L[k]).lh,(L[k]).hh,()) f (λ(z:Int×Unit)(_:Unit)(f:HY)=>qK 215 Ii (σ b,A.1,()) f (λ(_ _:Unit)(f:HY)=>qK 215 Ii (σ b,z.1,()) f (λ(_ _:Unit)(f:HY)=>∃(x:Ai),f b=σ (Ob.st AD x)/\x=x/\qK 216 Di (x.Gx,{ID:=(L[k]).n.ID,Var:=y,Lo:=A.1,Hi:=z.1,Refs:=(L[k]).n.Refs:AE},()) f (λ(_:Int×Unit)(_:Unit)(f:HY)=>∃(x:Ai),f b=σ (Ob.st AD x)/\(Bl .i64 y->(Bl .i64 y->0<=y)/\∃(_:y.toNat<ν x.tables),∃(_:y.toNat<ν x.tables),x=x/\qK 217 DF (x.tables[y.toNat],A.1,z.1,(L[k]).n.ID,()) f (λ(_:Int×Unit)(_:Unit)(f:HY)=>qK 218 Ii (σ b,(L[k]).n.Lo,()) f (λ(_ _:Unit)(f:HY)=>qK 218 Ii (σ b,(L[k]).n.Hi,()) f (λ(_ _:Unit)(f:HY)=>N f) X) X) X)) X) X) X) X) X:=by
 have l:L[k]∈L.drop k:=by rw[a9 hk];grind
 have hL:=a6 l;have hy':y.toNat<ν S1.tb:=by have:=c.hy;grind[B9.n]
 have Z:=(c.tn hL).1.1;have Y:∀e,B.Ok (Ax S1.po) e->∀{j:Nat}{S:B9},YU S1 x y L K j S->B.Ok (Ax S.po) e:=λe he j S m=>m.mix.ok he;refine Z0 (p:=((L[k]).ll,(L[k]).hl)) c m hC hS l a5 λt S2 H2 m2 c2 s2 f2 v2 o2 b2 _=>?_;refine Z0  c m2 c2 s2 l (aa _ a5) λo g H3 U c3 s3 f3 v3 o3 b3 E=>?_;have b2:=b2.ext E;have o2:=o2.ext E;have u:=U.mix.dag c.si.BN B9.Lm c.hx c.hy c.hxy;have s:∀{N:B.Tb}{e:Int},B.Dag N (B.Mm (DW S1.lv) (Ax S1.po) x y) (3*S1.n)->B.Ok N e->e/2≠0->3*S1.n-B.Mm (DW S1.lv) (Ax S1.po) x y (e/2)<(3*S1.n+1).toNat:=λ{N e}u he h0=>by obtain⟨d,Z⟩:=he.2.resolve_left h0;have:=u.N7 Z;omega
 refine Nh  (n:=3*S1.n) _ u (s u o2) s3 c3 o2 (λi d _=>by grind[B.Ia,Fq,B.dl]) λcn4 M H4 s4 c4 _ f4=>?_;refine Nh (S:=g.wc cn4 M)  (n:=3*S1.n) _ u (s u o3) s4 c4 o3 (λi d _=>by grind[B.Ia,Fq,B.dl]) λq a H5 s5 P _ f5=>?_;have m5:=U.wc q a;have W:=YU.live c m5 P (λi=>by have:=@B.Ia t i;have:=@B.Ia o i;show _<=Fq S1.po i+B.dl t i+B.dl o i;omega) l;have v:=(m5.Wy c l).1;refine⟨_,s5.st,rfl,?_⟩;refine P6 (x:=g.po) s5.po P.po (λh0=>?_) λn0 x' hn0 hI' hnd O I F=>?_
 .obtain⟨n1,hn1,_⟩:=GK v;exact qG (h0.symm.trans hn1) (by simp)
 obtain⟨t1,t2,t3⟩:=Auc (S:=g.wc q a) c m5 hk b2 b3 (x':=x') hnd O I;obtain⟨s6,f6⟩:=s5.An6 x';have D:y.toNat<ν g.tb:=by rw[U.tb];exact hy'
 refine⟨_,s6.st,λ_=>⟨λ_=>c.hy.1,by simpa [B9.ob,B9.wc] using D,by simpa [B9.ob,B9.wc] using D,rfl,?_⟩⟩;refine Ayl (b:=g.tb[y.toNat]) (by simp [B9.ob,B9.wc]) ?_;refine W6 (s6.ta _ D) t1 ?_;obtain⟨s7,f7⟩:=s6.An5 D _;obtain⟨k1,k2⟩:=P.cn.set  v W;have c7:SC {g.wc q a with po:=x',ta:=λw=>if w=y.toNat then ⟨C4 (g.ta y.toNat).ids (⟨t,o⟩:K2) (L[k]).n.ID⟩ else g.ta w} (λi=>Fq S1.po i+B.mu ⟨x,(L[k]).n.Lo,(L[k]).n.Hi⟩ i):=by
  refine⟨hI',?_,λi d o=>?_,?_⟩
  .show B.Cn (Ax x') (ν x'.at_) (Gd q) _;rw[t3,F];refine k1.congr λi _=>?_;simp only[B.mu];omega
  .have o:=o;rw[t3]at o;simp only at o;split at o
   .rename_i e;rw[e];exact P.ln _ _ v
   .exact P.ln _ _ o
  .show a=B.sm (ν x'.at_) _;rw[t3,F];exact P.dead.trans k2.symm
 have r:=t2.mix.dag c.si.BN B9.Lm c.hx c.hy c.hxy;have kl:=Y _ (c.si.kids _ _ Z).1 t2;have kh:=Y _ (c.si.kids _ _ Z).2 t2;simp only at kl kh;refine Ni   (n:=3*S1.n) _ r (s r kl) s7 c7 kl (λi d _=>?_) λcn8 J H8 s8 c8 f8=>?_
 .have:=c.si.rf i;have:=@B.Ia (L[k]).n.Hi i;simp only[B.mu];omega
 refine Ni (S:=B9.wc _ cn8 J)  (n:=3*S1.n) _ r (s r kh) s8 c8 kh (λi d _=>?_) λcn9 G H9 s9 c9 f9=>?_
 .have:=c.si.rf i;have:=@B.Ia (L[k]).n.Lo i;simp only[B.mu];omega
 refine h _ H9 (t2.wc cn9 G) ⟨c9.po,c9.cn.congr λi _=>?_,c9.ln,c9.dead⟩ s9 ?_ (v3.trans v2)
 .simp only[B.mu];omega
 .have g1:=f2.trans f3 (m2.bl.trans m.bl.symm) (m2.bp.trans m.bp.symm) (m2.tb.trans m.tb.symm);have T:=U.bl.trans m.bl.symm;have R:=U.bp.trans m.bp.symm;have Q:=U.tb.trans m.tb.symm;exact(((((g1.trans f4 T R Q).trans f5 T R Q).trans f6 T R Q).trans f7 T R Q).trans f8 T R Q).trans f9 T R Q
end
end
section
structure ZS(S S':B9):Prop where
 tb:S'.tb=S.tb
 bl:S'.bl=S.bl
 bp:S'.bp=S.bp
 room:S'.po.room=S.po.room
 rf:∀j,Fq S'.po j=Fq S.po j
 ok:∀e,B.Ok (Ax S.po) e->(e/2=0∨0<Fq S.po (e/2))->B.Ok (Ax S'.po) e/\B.den (Ax S'.po) e=B.den (Ax S.po) e
variable {S:B9}
theorem ZS.refl:ZS S S:=⟨rfl,rfl,rfl,rfl,λ_=>rfl,λ_ h _=>⟨h,rfl⟩⟩
variable {S':B9}
theorem ZS.trans{S'':B9}(h:ZS S S')(k:ZS S' S''):ZS S S'':=⟨k.tb.trans h.tb,k.bl.trans h.bl,k.bp.trans h.bp,k.room.trans h.room,λj=>(k.rf j).trans (h.rf j),λe d a=>by obtain⟨b,g⟩:=h.ok e d a;obtain⟨c,f⟩:=k.ok e b (by rw[h.rf];exact a);grind⟩
theorem XW(h:SI S)(c:Clt S S'):∀i d,Ax S'.po i=σ d->0<Gd S'.cn i:=λi d a=>by
 rw[c.Ax]at a;split at a
 .cases a
 .have:=h.sc.cn.nn a;rw[c.cn];omega
theorem Wn(h:SI S)(m:SI S')(c:Clt S S'):ZS S S':=by
 have f:∀i d,Ax S'.po i=σ d->Ax S.po i=σ d:=λi d a=>by rw[c.Ax]at a;grind
 have b:=h.BN.cut B9.Lm f m.kids;refine⟨c.tb,c.bl,c.bp,c.room,c.rf,λe k g=>?_⟩;have j:B.Ok (Ax S'.po) e:=by
  refine⟨k.1,?_⟩;rcases g with g|g
  .omega
  .rcases k.2 with l|⟨d,a⟩
   .omega
   .have:=h.sc.cn.ge a;exact .inr ⟨d,by rw[c.Ax,GT (by omega)];exact a⟩
 grind
section
variable {S1:B9} {x y:Int} {L:List Ba} {K:List K2}
structure Ctt(S1:B9)(lv2:AX)(x:Int)(L:List Ba)(k:Nat)(S:B9):Prop where
 eq:S={S1 with lv:=lv2,ta:=S.ta}
 tn:∀v:Nat,v<ν S1.tb->Pc (S.ta v).ids
 tx:∀lo hi i,Ag (S.ta x.toNat).ids (⟨lo,hi⟩:K2)=σ i↔Ax S1.po i=σ ⟨x,lo,hi⟩/\¬∃t∈L.take k,t.n.ID=i
 tv:∀v:Nat,v<ν S1.tb->(v:Int)≠x->∀lo hi i,Ag (S.ta v).ids (⟨lo,hi⟩:K2)=σ i↔Ax S1.po i=σ ⟨(v:Int),lo,hi⟩
variable {k:Nat} {S:B9}
theorem Ctt.step{lv2:AX}(c:Cx S1 x y L K)(h:Ctt S1 lv2 x L k S)(A:k<ν L):Ag (S.ta x.toNat).ids (⟨(L[k]).n.Lo,(L[k]).n.Hi⟩:K2)=σ (L[k]).n.ID/\Ctt S1 lv2 x L (k+1) {S with ta:=λw=>if w=x.toNat then ⟨Dl (S.ta x.toNat).ids (⟨(L[k]).n.Lo,(L[k]).n.Hi⟩:K2)⟩ else S.ta w}:=by
 have d:L[k]∈L.drop k:=by grind[a9]
 have j:x.toNat<ν S1.tb:=by have:=c.hx;grind[B9.n]
 have z:=(c.tn (a6 d)).1.1;have p:¬∃t∈L.take k,t.n.ID=(L[k]).n.ID:=λ⟨s,C,e⟩=>Tv c.nd C d e;refine⟨(h.tx _ _ _).2 ⟨z,p⟩,?_,λv u=>?_,λo m i=>?_,λv u r o m i=>?_⟩
 .rw[h.eq]
 .show Pc (if v=x.toNat then (⟨_⟩:AZ) else S.ta v).ids;split
  .exact T4 (h.tn _ j) _
  .exact h.tn v u
 .show Ag (if x.toNat=x.toNat then (⟨_⟩:AZ) else S.ta x.toNat).ids _=σ i↔_;rw[UV rfl];simp only;rw[Jd (h.tn _ j),Aie A];by_cases q:(⟨o,m⟩:K2)=⟨(L[k]).n.Lo,(L[k]).n.Hi⟩
  .rw[UV q];obtain⟨rfl,rfl⟩:o=(L[k]).n.Lo/\m=(L[k]).n.Hi:=by grind
   constructor
   .simp
   .rintro⟨f,l⟩;exact qG (.inr (c.si.BN.YZ f z)) l
  .rw[GT q,h.tx];grind
 .show Ag (if v=x.toNat then (⟨_⟩:AZ) else S.ta v).ids _=σ i↔_;rw[GT (by have:=c.hx;omega)];exact h.tv v u r o m i
theorem Ctt.mid{lv2:AX}(c:Cx S1 x y L K)(h:Ctt S1 lv2 x L (ν L) S):YU S1 x y L K 0 S/\SC S (Fq S1.po):=by
 have e:=h.eq;have a:S.po=S1.po:=by rw[e]
 have f:(λi:Int=>∃t∈L.take 0,t.n.ID=i)=λ_=>False:=by simp
 refine⟨⟨by rw[f,a];exact B.Yg.start c.si.BN,λj=>by rw[a],by rw[e],by rw[e],by rw[e],by rw[a],h.tn,λk l i=>?_,λv m g k l i=>by rw[a];exact h.tv v m g k l i,[],bq,fun κ d=>qG d ad,by grind⟩,?_⟩
 .rw[h.tx,a,bz];rfl
 .have b:=c.si.sc;refine⟨by rw[a];exact b.po,?_,?_,?_⟩
  .rw[a,show S.cn=S1.cn by rw[e]];exact b.cn
  .rw[a,show S.cn=S1.cn by rw[e]];exact b.ln
  .rw[a,show S.cn=S1.cn by rw[e],show S.dead=S1.dead by rw[e]];exact b.dead
theorem Ax2{lv:AX}(b:0<=x/\x.toNat<ν lv.level)(d:0<=y/\y.toNat<ν lv.level)(f:x≠y)(e:DW lv x=k)(g:DW lv y=k+1):DW (swL lv k x y)=B.sw (DW lv) x y:=by
 funext v;unfold B.sw;by_cases a:v=x
 .subst a;rw[UV rfl,g];unfold DW swL;simp only;rw[UV b.1,ah (by omega),aj b.2];rfl
 .rw[GT a];by_cases c:v=y
  .subst c;rw[UV rfl,e];unfold DW swL;simp only;rw[UV d.1,aj (by simpa using d.2)];rfl
  .rw[GT c];unfold DW swL;simp only;split
   .rw[ah (by omega),ah (by omega)]
   .rfl
theorem YU.si(c:Cx S1 x y L K)(r:S1.lv.vars[k]?=σ x)(h:S1.lv.vars[k+1]?=σ y)(m:YU S1 x y L K (ν L) S)(T:SC S (Fq S1.po))(b:S.lv=swL S1.lv k x y):SI S/\ZS S1 S:=by
 have j:x≠y:=λe=>by have:=c.hxy;grind
 have o:S.n=S1.n:=by unfold B9.n;rw[m.tb]
 have F:=c.si.inv k x r;have H:=c.si.inv (k+1) y h;have E:0<=x/\x.toNat<ν S1.lv.level:=⟨c.hx.1,by rw[c.si.ll];grind[B9.n]⟩
 have u:0<=y/\y.toNat<ν S1.lv.level:=⟨c.hy.1,by rw[c.si.ll];grind[B9.n]⟩
 have q:DW S.lv=B.sw (DW S1.lv) x y:=by grind[Ax2]
 have C:=m.mix.swp λ{i d}A=>by obtain⟨n,o,D,J,p⟩:=GK A.1;obtain⟨t,w,e⟩:=c.all i n o (D.trans A.2.1) (by rw[J,p];exact A.2.2);refine⟨t,by grind,?_⟩;rw[e];exact c.si.sc.po.id _ _ o
 obtain⟨V,Q,R⟩:=c.si.BN.swap B9.Lm c.hx c.hy c.hxy C;have f:Fq S.po=Fq S1.po:=funext m.rf;have G:ν S.lv.vars=ν S1.lv.vars:=by grind[swL]
 refine⟨⟨by grind,by grind,by rw[G,m.tb];exact c.si.vl,by rw[b,m.tb];simpa [swL] using c.si.ll,λl v a=>?_,λv s=>m.tn v (by rw[<-m.tb];exact s),λv s U P i=>?_,λi=>by rw[f];exact c.si.rf i⟩,m.tb,m.bl,m.bp,m.room,m.rf,λe O _=>⟨Q e O,R e O⟩⟩
 .rw[o,q];rw[b]at a;have a:((S1.lv.vars.set k y).set (k+1) x)[l]?=σ v:=a;have I:=(a7.1 r).1;have g:=(a7.1 h).1;by_cases N:l=k+1
  .subst N;rw[aj (by grind)]at a;cases a;refine⟨c.hx.1,c.hx.2,?_⟩;rw[B.Yt,H.2.2]
  .rw[ah (Ne.symm N)]at a;by_cases M:l=k
   .subst M;rw[aj I]at a;cases a;refine⟨c.hy.1,c.hy.2,?_⟩;rw[B.Aab j,F.2.2]
   .rw[ah (Ne.symm M)]at a;obtain⟨D,J,p⟩:=c.si.inv l v a;grind[B.Aac]
 .rw[m.tb]at s;by_cases e:(v:Int)=x
  .have z:v=x.toNat:=by omega
   rw[e,z,m.tx,List.drop_length];simp
  .exact m.tv v s e U P i
end
end
section
variable {b:Nat} {S:B9} {H:HY} {X:PX} {Q:Int×Unit->UU}
theorem Yy(a:Ca H b S)(h:Q (S.po.room,()) () H):qK 210 Cv (σ b,()) H Q X:=by refine Sm _ _ _ _ ?_;refine⟨λh=>qG h (by simp),λ_=>⟨b,rfl,S.ob,a.st,rfl,?_⟩⟩;refine U6 _ _ _ _ ?_;exact⟨λh=>qG h (by simp [B9.ob]),λ_=>⟨S.bp,rfl,S.po,a.po,rfl,h⟩⟩
theorem Aae(a:Ca H b S)(h:Q (S.po.many,()) () H):qK 211 Cv (σ b,()) H Q X:=by refine Tt _ _ _ _ ?_;refine⟨λh=>qG h (by simp),λ_=>⟨b,rfl,S.ob,a.st,rfl,?_⟩⟩;refine VJ _ _ _ _ ?_;exact⟨λh=>qG h (by simp [B9.ob]),λ_=>⟨S.bp,rfl,S.po,a.po,rfl,h⟩⟩
theorem Rq{level:Int}(hS:Ca H b S)(hI:SI S)(hrb:∀i,Fq S.po i<=576460752303423488)(h2:¬(0<=level/\level<S.n-1)->Q (2,()) () H)(h7:∀S' H',(∃i d,Ax S.po i=σ d)->Ca H' b S'->SI S'->ZS S S'->Rl b S H H'->S'.lv=S.lv->Q (7,()) () H')(h:∀S' H'(x y:Int),0<=level->level<S.n-1->S.lv.vars[level.toNat]?=σ x->S.lv.vars[level.toNat+1]?=σ y->Ca H' b S'->SI S'->ZS S S'->Rl b S H H'->S'.lv=swL S.lv level.toNat x y->(∀i d,Ax S'.po i=σ d->0<Gd S'.cn i)->Q (0,()) () H'):qK 163 Iv (σ b,level,()) H Q X:=by
 refine wF Tryz.f163 {lp:=[(17,⟨[(98,.nat)],[0,5,6,96,97],τ⟩),(12,⟨[(77,.nat)],[0,5,6,7,75,76],τ⟩)],hd:=[(19,[11])]} (?_:letI I:=level+1;letI E:=I.toNat;letI F:=level.toNat;letI O:=IK level;letI P:=IK I;letI R:=Q (2,()) () H;((σ b)=δ->Q (5,()) () H)/\(¬(σ b)=δ->(level<0->R)/\(¬level<0->∃(a:Nat),(σ b)=σ a/\∃(x:Ai),H a=σ (Ob.st AD x)/\∃(b1:Nat),x.levels=σ b1/\x=x/\∃(x:AX),letI S:=ν x.vars;H b1=σ (Ob.st CR x)/\(S<=2^63-1->S<=2^63-1->IK ((S:Int)-1)/\((S:Int)-1<=level->x=x/\R)/\(¬(S:Int)-1<=level->x=x/\qK 207 Cv ((σ b),()) H (λ(b2:qV)_ G=>∃(x:Ai),G a=σ (Ob.st AD x)/\∃(b3:Nat),x.levels=σ b3/\x=x/\∃(x:AX),G b3=σ (Ob.st CR x)/\(O->(O->0<=level)/\∃(h:F<ν x.vars),∃(h:F<ν x.vars),letI W:=x.vars[F];x=x/\∃(x1:Ai),G a=σ (Ob.st AD x1)/\∃(b4:Nat),x1.levels=σ b4/\x1=x1/\∃(x2:AX),G b4=σ (Ob.st CR x2)/\(O->P/\(P->(P->0<=I)/\∃(h1:E<ν x2.vars),∃(h2:E<ν x2.vars),letI Y:=x2.vars[E];x2=x2/\qK 208 IM ((σ b),W,Y,()) G (λ(b5:List Ba×UT)_ G=>letI B:=ν b5.1;qK 209 Ij ((σ b),W,b5.1,()) G (λ(b6:qV)_ G=>qK 210 Cv ((σ b),()) G (λ(b7:qV)_ G=>qK 211 Cv ((σ b),()) G (λ(b8:qV)_ G=>letI C:=b7.1-b8.1;IK b7.1->IK b8.1->IK C/\(C<b6.1->Q ((7:Int),()) () G)/\(¬C<b6.1->∃(x3:Ai),G a=σ (Ob.st AD x3)/\x3=x3/\qK 212 Ii (x3.levels,level,()) G (λ(b9 io:UT)(G:HY)=>B<=(2^63-1:Nat)->∃(V:Nat->Nat×UT->HP),(∃(n:Nat),V n (0,()) G)/\∀n x4 H,V n x4 H->(x4.1<B->x4.1<=(2^63-1:Nat)->∃(h3:x4.1<B),let D:=b5.1[x4.1].n;∃(x5:Ai),let A:=W.toNat<ν x5.tables;H a=σ (Ob.st AD x5)/\(IK W->(IK W->0<=W)/\∃(h4:A),∃(h5:A),x5=x5/\qK 213 Bo (x5.tables[W.toNat],D.Lo,D.Hi,()) H (λ(a:qV)_ G=>x4.1+1<=(2^63-1:Nat)/\∃m,m<n/\V m (x4.1+1,()) G) X))/\(¬x4.1<B->B<=(2^63-1:Nat)->∃(V:Nat->Nat×UT->HP),(∃(n:Nat),V n (0,()) H)/\∀n x5 H,V n x5 H->(x5.1<B->x5.1<=(2^63-1:Nat)->∃(h3:x5.1<B),let Z:=b5.1[x5.1];qK 214 DF ((σ b),W,Z.ll,Z.hl,()) H (λ(b10:qV)_ G=>qK 214 DF ((σ b),W,Z.lh,Z.hh,()) G (λ(b11:qV)_ G=>qK 215 Ii ((σ b),b10.1,()) G (λ(b12 io:UT)(G:HY)=>qK 215 Ii ((σ b),b11.1,()) G (λ(b13 io:UT)(G:HY)=>∃(x:Ai),G a=σ (Ob.st AD x)/\x=x/\qK 216 Di (x.Gx,{ID:=Z.n.ID,Var:=Y,Lo:=b10.1,Hi:=b11.1,Refs:=Z.n.Refs:AE},()) G (λ(b14:qV)_ G=>∃(x:Ai),G a=σ (Ob.st AD x)/\(IK Y->(IK Y->0<=Y)/\∃(h:Y.toNat<ν x.tables),∃(h:Y.toNat<ν x.tables),x=x/\qK 217 DF (x.tables[Y.toNat],b10.1,b11.1,Z.n.ID,()) G (λ(a:qV)_ G=>qK 218 Ii ((σ b),Z.n.Lo,()) G (λ(a io:UT)(G:HY)=>qK 218 Ii ((σ b),Z.n.Hi,()) G (λ(a io:UT)(G:HY)=>x5.1+1<=(2^63-1:Nat)/\∃m,m<n/\V m (x5.1+1,()) G) X) X) X)) X) X) X) X) X)/\(¬x5.1<B->qK 207 Cv ((σ b),()) H (λ(a:qV)_ G=>Q ((0:Int),()) () G) X))) X)) X) X) X) X)))) X)))));have A:(ν S.lv.vars:Int)=S.n:=by unfold B9.n;rw[hI.vl]
 have hn64:=hI.BN.od.n64;refine⟨λh=>qG h (by simp),λ_=>⟨λhl=>h2 (by omega),λhl=>⟨b,rfl,S.ob,hS.st,S.bl,rfl,rfl,S.lv,hS.lv,λ_ _=>⟨Aq.2 (by omega),λT=>⟨rfl,h2 (by omega)⟩,λT=>⟨rfl,?_⟩⟩⟩⟩⟩;rw[A]at T;refine HF hS hI λa H1 _ Y l f f1=>?_;have hn1:a.n=S.n:=by unfold B9.n;rw[f.tb]
 have E:=Wn hI l f;have hvl1:(ν a.lv.vars:Int)=S.n:=by rw[f.lv];exact A
 obtain⟨k,hk⟩:∃k:Nat,level=k:=⟨level.toNat,by omega⟩
 subst hk;have t0:((k:Int)).toNat=k:=by omega
 have t1:((k:Int)+1).toNat=k+1:=by omega
 have J:k<ν a.lv.vars:=by omega
 have I:k+1<ν a.lv.vars:=by omega
 have ik:Bl .i64 ((k:Int)+1):=Aq.2 (by omega);refine⟨a.ob,Y.st,a.bl,rfl,rfl,a.lv,Y.lv,λ_=>⟨λ_=>by omega,by omega,by omega,rfl,a.ob,Y.st,a.bl,rfl,rfl,a.lv,Y.lv,λ_=>⟨ik,λ_=>⟨λ_=>by omega,by omega,by omega,rfl,?_⟩⟩⟩⟩;generalize hx:a.lv.vars[((k:Int)).toNat]'_=x;generalize hy:a.lv.vars[((k:Int)+1).toNat]'_=y;replace hx:a.lv.vars[k]=x:=hx;replace hy:a.lv.vars[k+1]=y:=hy;have C:a.lv.vars[k]?=σ x:=by rw[bf J,hx]
 have D:a.lv.vars[k+1]?=σ y:=by rw[bf I,hy]
 have u:=l.inv k x C;have F:=l.inv (k+1) y D;have O:=l.sc.po;refine Yw Y l ⟨u.1,u.2.1⟩ λL H2 U f2 l1 l2 l3 l4=>?_;have Z:∀t∈L,∀p∈kyQ t,0<=p.2:=λt ht p hp=>by
  have e:=l3 t ht;have M:=Ic e.nd;rw[e.v]at M;have q1:=l.BN.four B9.Lm ⟨F.1,F.2.1⟩ (by grind) M rfl _ (.inr rfl);simp only at q1;rw[show B.sp (Ax a.po) y t.n.Hi=(t.hl,t.hh) from e.h.symm]at q1;rcases an.1 hp with rfl|hp
  .exact q1.1.1
  .rw[a4]at hp;subst hp;exact q1.2.1.1
 refine W8 U ⟨u.1,u.2.1⟩ Z l2 λK k1 k2 k3=>?_;replace k2:ν K<=2*ν L:=k2;have hfree:ν a.po.free<=ν a.po.at_:=Ajb (λi:Int=>i.toNat) O.nd (λi hi=>by have:=O.fr i hi;omega) λi hi j hj e=>by have:=O.fr i hi;have:=O.fr j hj;have e:i.toNat=j.toNat:=e;omega
 have hlen:=O.len;have hroom:=O.room;have hcnt:=O.cnt;refine Yy U (Aae U λ_ _=>⟨?_,λhlt=>?_,λhge=>?_⟩)
 .exact Aq.2 (by show _<=a.po.room-a.po.many/\a.po.room-a.po.many<=_;omega)
 .have hlt:a.po.room-a.po.many<(ν K:Int):=hlt;refine h7 a H2 ?_ U l E (f1.trans f2 f.bl f.bp f.tb) f.lv;have:0<ν L:=by omega
  obtain⟨t,ht⟩:=List.exists_mem_of_length_pos this;have M:=Ic (l3 t ht).nd;rw[f.Ax]at M;split at M
  .cases M
  .exact⟨_,_,M⟩
 have hge:¬a.po.room-a.po.many<(ν K:Int):=hge;have cx:Cx a x y L K:=⟨l,XW hI f,⟨u.1,u.2.1⟩,⟨F.1,F.2.1⟩,by rw[u.2.2,F.2.2];omega,l1,l3,l4,k1,k3,by omega⟩
 have V:x.toNat<ν a.tb:=by have:=u.2.1;unfold B9.n at this;omega
 have hy':y.toNat<ν a.tb:=by have:=F.2.1;unfold B9.n at this;omega
 refine⟨_,U.st,rfl,?_⟩;refine Xq U.lv C D ⟨u.1,by rw[l.ll];exact V⟩ ⟨F.1,by rw[l.ll];exact hy'⟩ (by omega) λ_=>?_;obtain⟨P,f3⟩:=U.A6d (swL a.lv k x y);refine⟨λn z H'=>n=ν L-z.1/\z.1<=ν L/\∃S',Ctt a (swL a.lv k x y) x L z.1 S'/\Ca H' b S'/\Rl b a H1 H',⟨_,rfl,ac _,{a with lv:=swL a.lv k x y},⟨rfl,l.tn,λlo hi i=>?_,λv hv _=>l.tg v hv⟩,P,f2.trans f3.n rfl rfl rfl⟩,?_⟩
 .have:=l.tg x.toNat V lo hi i;rw[show ((x.toNat:Nat):Int)=x by omega]at this;simpa using this
 rintro n ⟨q,_⟩ H3 ⟨r,s,W,G,P,f3⟩;have hn:n=ν L-q:=r;have hq:q<=ν L:=s;replace G:Ctt a (swL a.lv k x y) x L q W:=G;have tb3:W.tb=a.tb:=by rw[G.eq]
 refine⟨λg _=>?_,λg _=>?_⟩
 .have c:q<ν L:=g;obtain⟨e1,ct2⟩:=G.step cx c;have o:x.toNat<ν W.tb:=by rw[tb3];exact V
  refine⟨c,_,P.st,λ_=>⟨λ_=>u.1,by simpa [B9.ob] using o,by simpa [B9.ob] using o,rfl,?_⟩⟩;have hob:W.ob.tables[x.toNat]'(by simpa [B9.ob] using o)=σ W.tb[x.toNat]:=by simp [B9.ob]
  rw[hob];refine W7 (P.ta _ o) e1 ⟨by show q+1<=_;omega,ν L-(q+1),by omega,rfl,by show q+1<=_;omega,_,ct2,(P.An5 o _).1,f3.trans (P.An5 o _).2.n (by rw[G.eq]) (by rw[G.eq]) tb3⟩
 have c:¬q<ν L:=g;have:q=ν L:=by omega
 subst this;obtain⟨m0,sc0⟩:=G.mid cx;have hrb1:∀i,Fq a.po i<=576460752303423488:=λi=>by rw[f.rf];exact hrb i
 refine⟨λn z H'=>n=ν L-z.1/\z.1<=ν L/\∃S',YU a x y L K z.1 S'/\SC S' (Fq a.po)/\Ca H' b S'/\Rl b a H1 H'/\S'.lv=swL a.lv k x y,⟨_,rfl,ac _,W,m0,sc0,P,f3,by rw[G.eq]⟩,?_⟩;rintro n2 ⟨q,_⟩ H4 ⟨r,s,S4,w,sc4,s4,f4,v4⟩;have hn2:n2=ν L-q:=r;have hq:q<=ν L:=s;replace w:YU a x y L K q S4:=w;refine⟨λg _=>?_,λg=>?_⟩
 .have c:q<ν L:=g;refine⟨c,?_⟩;exact Apo (N:=λH'=>q+1<=9223372036854775807/\∃m,m<n2/\(m=ν L-(q+1)/\q+1<=ν L/\∃S',YU a x y L K (q+1) S'/\SC S' (Fq a.po)/\Ca H' b S'/\Rl b a H1 H'/\S'.lv=swL a.lv k x y)) cx hrb1 w c sc4 s4 λS5 H5 m5 sc5 s5 f5 v5=>⟨by omega,ν L-(q+1),by omega,rfl,by omega,S5,m5,sc5,s5,f4.trans f5.n w.bl w.bp w.tb,v5.trans v4⟩
 .have c:¬q<ν L:=g;have:q=ν L:=by omega
  subst this;obtain⟨i4,chg4⟩:=w.si cx C D sc4 v4;refine HF s4 i4 λS5 H5 _ s5 i5 c5 f5=>?_;have R:S.lv=a.lv:=f.lv.symm;refine h S5 H5 x y (by omega) (by omega) (by rw[t0,R];exact C) (by rw[t0,R];exact D) s5 i5 ((E.trans chg4).trans (Wn i4 i5 c5)) ?_ (by rw[t0,c5.lv,v4,R]) (XW i4 c5);exact(f1.trans f4 f.bl f.bp f.tb).trans f5 (w.bl.trans f.bl) (w.bp.trans f.bp) (w.tb.trans f.tb)
end
end Go.Proofs.YtcbkbpjlbmalmaaGreatDoor
