/-
  What it says that a variable is valid; the chapter's example. (Merged by program out of 19 texts.)
-/
import Derived.Test.YtcbkbpjlbmalmaaGreatDoorEaf
open Decidable renaming decide->φ
open Int renaming toNat->a0,mul_le_mul_of_nonneg_right->ab,eq_ofNat_of_zero_le->al,tmod_lt_of_pos->bf
open List renaming getElem?_eq_getElem->a5,take_succ_eq_append_getElem->aa,length_map->ac,replicate->ad,length_cons->ae,take_of_length_le->af,mem_iff_getElem->ah,map_append->aj,mem_singleton->ak,range->am,length_take->ao,getElem_mem->ap,getElem?_set_ne->aq,mem_map_of_mem->au,take->av,mem_range->aw,perm_ext_iff_of_nodup->ax,mem_cons_self->ay,length_eq_zero_iff->az,drop->b5,mem_map->b8,length_nil->b9,mem_append_left->bb,mem_cons_of_mem->bc,nodup_nil->be,nodup_append->bg,map_map->bh,any_eq_true->bi,mem_append->bn,map->bq,map_id->bv,length->σ
open Nat renaming zero_le->a6,not_lt_zero->a8,pow_le_pow_right->ag,pow_succ->b6,div_div_eq_div_mul->b7,le_refl->ba,div_one->bk,div_le_self->bm,lt_irrefl->br,pow_zero->bt,mul_comm->bu
open Classical renaming not_not->a7,byContradiction->a9
open Option renaming some.inj->ai,getD_some->an,some->ν,none->ψ
open Bool renaming eq_iff_iff->ar,and_eq_true->bj,false->δ,true->τ
open Go.IntKind (u64)
namespace Go.Proofs.YtcbkbpjlbmalmaaGreatDoor
open Go Go.X Go.Y
section
set_option maxRecDepth 100000
set_option maxHeartbeats 2000000
def JE(x y h:Int)(p3:Ab)(p4 p5:Option Nat)(H:HY)(Q:UT->UU)(X:PX):=letI E:=λ(_ _:UT)(G:HY)=>Q () () G;letI F:=IK y;letI I:=x.tmod y;letI O:=IK x;(p3.Op=14->O->F->IK (x+y)/\∃(b:Nat),p5=ν b/\∃(x1:Option Nat),H b=ν (Ob.st Aj x1)/\x1=x1/\qK 134 BZ (p4,x1,x+y,h,()) H E X)/\(¬p3.Op=14->(p3.Op=15->O->F->IK (x-y)/\∃(b:Nat),p5=ν b/\∃(x1:Option Nat),H b=ν (Ob.st Aj x1)/\x1=x1/\qK 134 BZ (p4,x1,x-y,h,()) H E X)/\(¬p3.Op=15->(p3.Op=16->O->F->IK (x*y)/\∃(b:Nat),p5=ν b/\∃(x1:Option Nat),H b=ν (Ob.st Aj x1)/\x1=x1/\qK 134 BZ (p4,x1,x*y,h,()) H E X)/\(¬p3.Op=16->(p3.Op=17->O->F->¬y=0/\IK I/\(IK I->F->IK (I+y)/\(IK (I+y)->F->¬y=0/\IK ((I+y).tmod y)/\∃(b:Nat),p5=ν b/\∃(x1:Option Nat),H b=ν (Ob.st Aj x1)/\x1=x1/\qK 134 BZ (p4,x1,(I+y).tmod y,h,()) H E X)))/\(¬p3.Op=17->∃(b:Nat),p5=ν b/\∃(x1:Option Nat),H b=ν (Ob.st Aj x1)/\x1=x1/\qK 134 BZ (p4,x1,x,h,()) H E X))))
theorem O0 x y h p3 p4 p5 H Q X(h_:JE x y h p3 p4 p5 H Q X):qK 136 CZ (x,y,h,p3,p4,p5,()) H Q X:=wF Tryz.f136 {} h_
def Lg(w:Option Nat)(a b:Ab)(holds:Int×qV->HY->(qU->HP)->PX->Prop)(H:HY)(Q:qV->UU)(X:PX):=qK 59 Bu (w,δ,()) H (λ(b1:qV)_ G=>∀(b2:Nat),G b2=ψ->qK 135 FA (w,a,b,λ(a:Int×Int×qV)(H:HY)(Q:UT->HP)(X:Nat->Lf Y0.D->HP)=>qK 171 Ee (a.1,a.2.1,a.2.2.1,holds,w,ν b2,()) H (λ(_ _:UT)(G:HY)=>Q () G) X,()) (Ac G b2 (Ob.st Cc b1.1)) (λ(_ _:UT)(G:HY)=>∃(x:Int),G b2=ν (Ob.st Cc x)/\x=x/\Q (x,()) () G) X) X
def JF(x y h:Int)(p3:Int×qV->HY->(qU->HP)->PX->Prop)(p4 p5:Option Nat)(H:HY)(Q:UT->UU)(X:PX):=p3 (x,y,()) H (λ(b:qU)(G:HY)=>(b.1->∃(b:Nat),p5=ν b/\∃(x:Int),G b=ν (Ob.st Cc x)/\x=x/\qK 56 A6 (p4,λ(a:Option Nat×List Int×UT)(H:HY)(Q:Int×qV->HP)(X:Nat->Lf Y0.D->HP)=>qK 28 Ck (a.1,a.2.1,()) H (λ(b:Int×qV)(_:UT)(G:HY)=>Q (b.1,b.2.1,()) G) X,[x,h],()) G (λ(b1:qV)_ G=>∃(x:Int),G b=ν (Ob.st Cc x)/\Q () () (Ac G b (Ob.st Cc b1.1))) X)/\(¬b.1->qK 128 AI (p4,[h],()) G (λ(_ _:UT)(G:HY)=>Q () () G) X)) X
theorem O3 x y h p3 p4 p5 H Q X(h_:JF x y h p3 p4 p5 H Q X):qK 171 Ee (x,y,h,p3,p4,p5,()) H Q X:=wF Tryz.f171 {} h_
def Ld(L2:Option Nat×Int×qV->HY->(Int×qV->HP)->PX->Prop)(p1:Option Nat)(p2:UT->HY->(List Int×UT->HP)->PX->Prop)(H:HY)(Q:qV->UU)(X:PX):=dup (p2 () H (λ(b:List Int×UT)(G:HY)=>qK 56 A6 (p1,λ(a:Option Nat×List Int×UT)(H:HY)(Q:Int×qV->HP)(X:Nat->Lf Y0.D->HP)=>qK 95 F9 (a.1,a.2.1,L2,()) H (λ(b:Int×qV)(_:UT)(G:HY)=>Q (b.1,b.2.1,()) G) X,b.1,()) G (λ(b:qV)_ G=>Q (b.1,()) () G) X) X)
theorem Qt L2 p1 p2 H Q X(h_:Ld L2 p1 p2 H Q X):qK 94 Cm (L2,p1,p2,()) H Q X:=wF Tryz.f94 {im:=[3]} h_
def JD(m:Option Nat)(l:List Int)(p2:Option Nat×Int×qV->HY->(Int×qV->HP)->PX->Prop)(H:HY)(Q:Int×qV->UU)(X:PX):=(True->(0:Int)<=0)/\∃(h:a0 (0:Int)<σ l),(True->(0:Int)<=1)/\∃(h1:a0 (1:Int)<σ l),p2 (m,l[a0 (0:Int)],l[a0 (1:Int)],()) H (λ(b:Int×qV)(G:HY)=>Q (b.1,b.2.1,()) () G) X
theorem Oz m l p2 H Q X(h_:JD m l p2 H Q X):qK 95 F9 (m,l,p2,()) H Q X:=wF Tryz.f95 {} h_
def Lc(m:Option Nat)(l:List Int)(H:HY)(Q:Int×qV->UU)(X:PX):=(True->(0:Int)<=0)/\∃(h:a0 (0:Int)<σ l),qK 98 Oh (m,l[a0 (0:Int)],()) H (λ(b:Int×qV)_ G=>Q (b.1,b.2.1,()) () G) X
theorem Qs m l H Q X(h_:Lc m l H Q X):qK 97 Ck (m,l,()) H Q X:=wF Tryz.f97 {} h_
def Lb(m:Option Nat)(l:List Int)(H:HY)(Q:Int×qV->UU)(X:PX):=(True->(0:Int)<=0)/\∃(h:a0 (0:Int)<σ l),(True->(0:Int)<=1)/\∃(h1:a0 (1:Int)<σ l),(True->(0:Int)<=2)/\∃(h2:a0 (2:Int)<σ l),qK 101 Oi (m,l[a0 (0:Int)],l[a0 (1:Int)],l[a0 (2:Int)],()) H (λ(b:Int×qV)_ G=>Q (b.1,b.2.1,()) () G) X
theorem Qr m l H Q X(h_:Lb m l H Q X):qK 100 Ck (m,l,()) H Q X:=wF Tryz.f100 {} h_
def Qq(x y:Int)(H:HY)(Q:qU->UU)(_:PX):=Q (φ (x<y),()) () H
theorem Qp x y H Q X(h_:Qq x y H Q X):qK 103 Ce (x,y,()) H Q X:=wF Tryz.f103 {} h_
def Qo(x y:Int)(H:HY)(Q:qU->UU)(_:PX):=Q (φ (x<=y),()) () H
theorem Qn x y H Q X(h_:Qo x y H Q X):qK 104 Ce (x,y,()) H Q X:=wF Tryz.f104 {} h_
def Qm(x y:Int)(p2:Option Nat)(H:HY)(Q:qU->UU)(_:PX):=∃(b:Nat),p2=ν b/\∃(x1:Bool),H b=ν (Ob.st Jx x1)/\x1=x1/\Q (φ (x=y)==φ (x1=τ),()) () H
theorem Ql x y p2 H Q X(h_:Qm x y p2 H Q X):qK 106 GY (x,y,p2,()) H Q X:=wF Tryz.f106 {} h_
def Qk(m:Option Nat)(f g:Int)(H:HY)(Q:Int×qV->UU)(X:PX):=qK 108 Ck (m,[f,g],()) H (λ(b:Int×qV)_ G=>Q (b.1,b.2.1,()) () G) X
theorem Qj m f g H Q X(h_:Qk m f g H Q X):qK 107 NB (m,f,g,()) H Q X:=wF Tryz.f107 {} h_
def OM(m:Option Nat)(l:List Int)(H:HY)(Q:Int×qV->UU)(X:PX):=(True->(0:Int)<=0)/\∃(h:a0 (0:Int)<σ l),(True->(0:Int)<=1)/\∃(h1:a0 (1:Int)<σ l),qK 58 NB (m,l[a0 (0:Int)],l[a0 (1:Int)],()) H (λ(b:Int×qV)_ G=>Q (b.1,b.2.1,()) () G) X
theorem VR m l H Q X(h_:OM m l H Q X):qK 57 Ck (m,l,()) H Q X:=wF Tryz.f57 {} h_
def Bp(w:Option Nat)(t:Ab)(H:HY)(Q:qV->UU)(X:PX):=letI E:=λ(b:qV)_ G=>Q (b.1,()) () G;letI P:=Y0.D;letI F:=λ(a:UT)(H:HY)(Q:List Int×UT->HP)(X:Nat->Lf P->HP)=>qK 93 BE (t,w,()) H (λ(b:List Int×UT)(x:UT)(G:HY)=>Q (b.1,()) G) X;letI I:=λ(a:Option Nat×Int×qV)(H:HY)(Q:Int×qV->HP)(X:Nat->Lf P->HP)=>qK 58 NB (a.1,a.2.1,a.2.2.1,()) H (λ(b:Int×qV)(x:UT)(G:HY)=>Q (b.1,b.2.1,()) G) X;letI O:=∃(b:Nat),w=ν b/\∃(x:Am),H b=ν (Ob.st Co x)/\x=x/\qK 96 D5 (x.l,t.qJ,()) H (λ(b:qV)_ G=>qK 63 Bb (w,b.1,(1:den P (Ty.int .i64)),φ (t.Op=4),()) G E X) X;letI B:=a0 (0:Int);letI W:=True->(0:Int)<=0;letI Y:=True->(0:Int)<=1;(t.Op=2->qK 59 Bu (w,φ (t.N=1),()) H E X)/\(¬t.Op=2->(t.Op=3->O)/\(¬t.Op=3->(t.Op=4->O)/\(¬t.Op=4->(t.Op=5->qK 93 BE (t,w,()) H (λ(b:List Int×UT)(x:UT)(G:HY)=>qK 56 A6 (w,λ(a:Option Nat×List Int×UT)(H:HY)(Q:Int×qV->HP)(X:Nat->Lf P->HP)=>qK 97 Ck (a.1,a.2.1,()) H (λ(b:Int×qV)(x:UT)(G:HY)=>Q (b.1,b.2.1,()) G) X,b.1,()) G E X) X)/\(¬t.Op=5->(t.Op=6->qK 93 BE (t,w,()) H (λ(b:List Int×UT)(x:UT)(G:HY)=>qK 56 A6 (w,λ(a:Option Nat×List Int×UT)(H:HY)(Q:Int×qV->HP)(X:Nat->Lf P->HP)=>qK 25 Ck (a.1,a.2.1,()) H (λ(b:Int×qV)(x:UT)(G:HY)=>Q (b.1,b.2.1,()) G) X,b.1,()) G E X) X)/\(¬t.Op=6->(t.Op=7->qK 93 BE (t,w,()) H (λ(b:List Int×UT)(x:UT)(G:HY)=>qK 56 A6 (w,λ(a:Option Nat×List Int×UT)(H:HY)(Q:Int×qV->HP)(X:Nat->Lf P->HP)=>qK 28 Ck (a.1,a.2.1,()) H (λ(b:Int×qV)(x:UT)(G:HY)=>Q (b.1,b.2.1,()) G) X,b.1,()) G E X) X)/\(¬t.Op=7->(t.Op=8->qK 94 Cm (λ(a:Option Nat×Int×qV)(H:HY)(Q:Int×qV->HP)(X:Nat->Lf P->HP)=>qK 99 NB (a.1,a.2.1,a.2.2.1,()) H (λ(b:Int×qV)(x:UT)(G:HY)=>Q (b.1,b.2.1,()) G) X,w,F,()) H E X)/\(¬t.Op=8->(t.Op=9->qK 94 Cm (I,w,F,()) H E X)/\(¬t.Op=9->(t.Op=18->qK 93 BE (t,w,()) H (λ(b:List Int×UT)(x:UT)(G:HY)=>qK 56 A6 (w,λ(a:Option Nat×List Int×UT)(H:HY)(Q:Int×qV->HP)(X:Nat->Lf P->HP)=>qK 100 Ck (a.1,a.2.1,()) H (λ(b:Int×qV)(x:UT)(G:HY)=>Q (b.1,b.2.1,()) G) X,b.1,()) G E X) X)/\(¬t.Op=18->(t.Op=12->W/\∃(h:(B<σ t.qZ)),Y/\∃(h1:(a0 (1:Int)<σ t.qZ)),qK 102 DG (w,t.qZ[B],t.qZ[a0 (1:Int)],λ(a:Int×qV)(H:HY)(Q:qU->HP)(X:Nat->Lf P->HP)=>qK 103 Ce (a.1,a.2.1,()) H (λ(b:qU)(x:UT)(G:HY)=>Q (b.1,()) G) X,()) H E X)/\(¬t.Op=12->(t.Op=13->W/\∃(h:(B<σ t.qZ)),Y/\∃(h1:(a0 (1:Int)<σ t.qZ)),qK 102 DG (w,t.qZ[B],t.qZ[a0 (1:Int)],λ(a:Int×qV)(H:HY)(Q:qU->HP)(X:Nat->Lf P->HP)=>qK 104 Ce (a.1,a.2.1,()) H (λ(b:qU)(x:UT)(G:HY)=>Q (b.1,()) G) X,()) H E X)/\(¬t.Op=13->∀(b:Nat),H b=ψ->W/\∃(h:(B<σ t.qZ)),qK 105 Jv (w,t.qZ[B],()) (Ac H b (Ob.st Jx (φ (t.Op=10)))) (λ(b1:qU)_ G=>(¬b1.1->W/\∃(h:(B<σ t.qZ)),Y/\∃(h1:(a0 (1:Int)<σ t.qZ)),qK 102 DG (w,t.qZ[B],t.qZ[a0 (1:Int)],λ(a:Int×qV)(H:HY)(Q:qU->HP)(X:Nat->Lf P->HP)=>qK 106 GY (a.1,a.2.1,ν b,()) H (λ(b:qU)(x:UT)(G:HY)=>Q (b.1,()) G) X,()) G E X)/\(¬¬b1.1->∃(x:Bool),G b=ν (Ob.st Jx x)/\(x->x=x/\qK 94 Cm (I,w,F,()) G E X)/\(¬x->x=x/\qK 94 Cm (λ(a:Option Nat×Int×qV)(H:HY)(Q:Int×qV->HP)(X:Nat->Lf P->HP)=>qK 107 NB (a.1,a.2.1,a.2.2.1,()) H (λ(b:Int×qV)(x:UT)(G:HY)=>Q (b.1,b.2.1,()) G) X,w,F,()) G E X))) X)))))))))))
theorem Bv w t H Q X(h_:Bp w t H Q X):qK 42 D6 (w,t,()) H Q X:=wF Tryz.f42 {pr:=[(7,9)],im:=[2,3]} h_
end
section
def gV(V:B.As->Option Int):Int->B.Fn:=λn a=>φ (V a=ν n)
variable {n:Int} {a:B.As}
theorem Hk{V:B.As->Option Int}:gV V n a=τ↔V a=ν n:=decide_eq_true_iff
theorem Ajj{V:B.As->Option Int}(h:∀a,V a≠ν n):gV V n=λ_=>δ:=by funext a;exact decide_eq_false (h a)
theorem Ae9{N k:Nat}(a:N<1073741824)(i:k<60):Arl (N:Int) k=φ (N/2^k%2=1):=by
 unfold Arl;have b:min (k:Int).toNat 64=k:=by omega
 have h:(N:Int).fdiv (2^k)=(N/2^k:Nat):=by grind
 rw[b,h];have c:N/2^k<1073741824:=Nat.lt_of_le_of_lt (bm _ _) a;generalize N/2^k=q at c;have d:GI .and .i64 q 1=q%2:=by
  have e:(BitVec.ofInt 64 q&&&BitVec.ofInt _ 1).toNat=q%2:=by grind
  show IntKind.i64.wrap (BitVec.ofInt 64 q&&&BitVec.ofInt _ 1).toNat=_;grind[FO,Aq]
 grind
def CE(a:B.As):List Int->Nat
 | []=>0
 |v::l=>(if a v=τ then 1 else 0)+2*CE a l
theorem Hw{v:Int}{l:List Int}:CE a (v::l)=(if a v=τ then 1 else 0)+2*CE a l:=rfl
theorem TY{a:B.As}:∀{l:List Int},CE a l<2^(σ l)
 | []=>Nat.one_pos
 |v::l=>by have:=TY (a:=a) (l:=l);rw[ae,b6,Hw];split<;>omega
theorem QY{a:B.As}:∀{l:List Int}{k:Nat}(h:k<σ l),(a l[k]=τ↔CE a l/2^k%2=1)
 |v::l,0,_=>by show a v=τ↔CE a _/2^0%2=1;rw[bt,bk,Hw];grind
 |v::l,k+1,h=>by
  have b:k<σ l:=by grind
  have c:=QY (a:=a)   b;show a (l[k]'b)=τ↔_;rw[c];have e:CE a (v::l)/2^(k+1)=CE a l/2^k:=by rw[b6,bu,<-b7,Hw];congr 1;split<;>omega
  rw[e]
theorem Akb:∀{n x y:Nat},x<2^n->y<2^n->(∀k,k<n->(x/2^k%2=1↔y/2^k%2=1))->x=y
 |0,x,y,a,b,_=>by omega
 |n+1,x,y,a,b,h=>by
  rw[b6]at a b;have c:=h 0 (by omega);rw[bt,bk,bk]at c;have:=Akb (n:=n) (x:=x/2) (y:=y/2) (by omega) (by omega) λk d=>by grind[b6,bu,b7]
  omega
theorem Amd{vars:List Int}{N:Int}(o:σ vars<=30)(i:0<=N)(f:N<2^(σ vars)):E7 (JU vars N) a=τ↔(CE a vars:Int)=N:=by
 obtain⟨m,rfl⟩:=al i;have p:m<2^(σ vars):=by grind
 have q:2^(σ vars)<=2^30:=ag (by omega) o;have hm30:m<1073741824:=by omega
 have g:E7 (JU vars m) a=τ↔∀k h,a vars[k]=τ↔m/2^k%2=1:=by
  rw[HV];refine⟨λh k b=>?_,λh t j=>?_⟩
  .have e:=QC (n:=m) b;have:=h _ (List.mem_of_getElem? e);have this:=this;rw[this,Ae9 hm30 (by omega),decide_eq_true_iff]
  .obtain⟨k,b,rfl⟩:=ah.1 j;have d:k<σ vars:=by grind[U2]
   have e:=QC (n:=m) d;rw[a5 b]at e;rw[ai e];show a _=Arl m k;rw[Ae9 hm30 (by omega),ar,decide_eq_true_iff];grind
 rw[g];refine⟨λh=>?_,λh k b=>?_⟩
 .have:=Akb TY p λk b=>(QY b).symm.trans (h k b);omega
 grind[CE,Int.ofNat_inj,QY]
def AY(l:List Al)(name:ByteArray):Nat:=l.findIdx λv=>φ (v.qJ=name)
variable {L:Ae} {i:Nat}
theorem TS{name:ByteArray}{H:HY}{X:PX}{Q:Int×Unit->UU}(k:LK L)(a:AY L.Aa name=i)(hi:i<σ L.Aa)(h:Q ((i:Int),()) () H):qK 96 D5 (L,name,()) H Q X:=by
 subst a;refine wF Tryz.f96 {lp:=[(2,⟨[(10,.one (.dat I6))],[1,8,9],δ⟩)],im:=[2]} (?_:letI E:=σ L.Aa;E<=2^63-1->∃(V:Nat->qV->Prop),(∃(n:Nat),H=H/\V n (0,()))/\∀n x,V n x->(x.1<(E:Int)->IK x.1->(IK x.1->0<=x.1)/\∃(h:x.1.toNat<E),letI F:=L.Aa[x.1.toNat].qJ=name;(F->Q (x.1,()) () H)/\(¬F->IK x.1->IK (x.1+1)/\∃m,m<n/\H=H/\V m (x.1+1,())))/\(¬x.1<(E:Int)->Q ((-1:Int),()) () H));have g:=k.ln;refine λ_=>⟨λn z=>∃j:Nat,z.1=j/\n=σ L.Aa-j/\j<=AY L.Aa name,⟨_,rfl,0,rfl,rfl,a6 _⟩,?_⟩
 rintro n ⟨x,_⟩ ⟨j,d,o,m⟩;have l:=d;subst l;have f:=by omega
 refine⟨λ_ _=>⟨λ_=>by omega,by omega,λa=>?_,λa _=>⟨Aq.2 (by omega),σ L.Aa-(j+1),by omega,rfl,j+1,by rfl,rfl,?_⟩⟩,λb=>qG (show (j:Int)<_ by omega) b⟩
 .grind[AY,List.not_of_lt_findIdx,decide_eq_true]
 .have a:=a;simp   at a;have:j≠AY L.Aa name:=λe=>by have c:=List.findIdx_getElem   (w:=hi);have c:=of_decide_eq_true c;subst e;exact a c
  omega
def CB(L:Ae)(next:Bool)(i:Nat)(a:B.As):Option Int:=match L.Aa[i]? with
 |some v=>if FW v+(CE a (Cu L i next):Int)<=QS v then ν (FW v+(CE a (Cu L i next):Int)) else ψ
 |none=>ψ
theorem QB{next:Bool}(hi:i<σ L.Bits):σ (Cu L i next)=L.Bits[i].toNat:=by unfold Cu Ny;rw[a5 hi];split<;>simp
theorem Jc(c:JJ L){next:Bool}(hi:i<σ L.Aa):CB L next i a=ν n↔(FW L.Aa[i]<=n/\n<=QS L.Aa[i])/\Ym L next i n a=τ:=by
 have b:i<σ L.Bits:=by rw[c.lb];exact hi
 obtain⟨q,p,l,m⟩:=c.fit i hi b;have k:GM L i n=n-FW L.Aa[i]:=by unfold GM FW;rw[a5 hi];show (if _ then _ else _)=_;split<;>simp
 have e:=QB (next:=next) b;have d:=SZ c.toLK hi (next:=next).1;unfold CB Ym;grind[a5,ai,FW,Amd]
theorem QM{H:HY}{wb b r c:Nat}{M0 M:Mn}{lv:List (Int×Bool)}{y z:Ob Y0}(w:WK H wb b M0 M L lv)(g:H r=ψ)(f:Ac H r y c=ψ):Wk H (Ac (Ac H r y) c z) wb b M0 M M L lv lv []/\Ac (Ac H r y) c z r=ν y/\Ac (Ac H r y) c z c=ν z/\r≠wb/\c≠wb/\r≠c/\G5 b M0 r/\G5 b M0 c/\H c=ψ:=by
 have d:r≠c:=λe=>by grind[Ah]
 have a:H c=ψ:=by simp_all[Ad,Ne.symm]
 have h:r≠wb:=λe=>by rw[e,w.ob]at g;cases g
 have i:c≠wb:=λe=>by rw[e,w.ob]at a;cases a
 refine⟨((Wk.of w).fresh g).fresh f,?_,Ah _ _ _,h,i,d,(w.mg.h.notM g).back w.bs,(w.mg.h.notM a).back w.bs,a⟩;rw[Ad _ _ d,Ah]
theorem Ts{n0:Int}{t:Ab}(E:t.Op=1):VV L n0 t (gV λ_=>ν t.N) 1 1 1:=by
 intro C b O M G H X Q w S R P l;apply EP;unfold DL;intro r s c J;obtain⟨q,v,o,y,F,A,B,N,I⟩:=QM  w s J;generalize Ac _ c _=K at q v o;refine⟨λ_=>?_,λh=>qG E h⟩;have n:∀{k:Mn}{d g},Wk K g C b O M k L G d [(M.nx,λ_=>τ)]->k.nx=M.nx+1->g r=ν _/\g c=ν _/\Q _ _ _:=λ{k d g}i f=>by
  refine⟨by rw[i.f r (by rw[v];simp) y B];exact v,by rw[i.f c (by grind) F N];exact o,?_⟩;refine l k d _ r [(t.N,M.nx)] ((q.trans i).perm ?_ |>.Ac3 y B s) s (Ah _ _ _) (K8 (m:=[]) (by simp [Pc]) _ _) (λj D=>Ajj λa e=>?_) (ba _) (by omega)
  .have:gV (λ_=>ν t.N) t.N=λ_=>τ:=by funext a;exact decide_eq_true rfl
   show [(M.nx,gV _ _)].Perm _;simp_all
  grind[ai,Ag]
 refine⟨⟨ν r,o,rfl,(Wk.of q.w).const (by omega) λk d g i f=>?_⟩,(Wk.of q.w).const (by omega) λk d g i f=>?_⟩
 .obtain⟨x,p,u⟩:=n i f;exact⟨r,rfl,[],x,ν r,by rw[Ad _ _ (Ne.symm A)];exact p,rfl,u⟩
 .obtain⟨x,p,u⟩:=n i f;exact⟨ν r,p,rfl,r,rfl,[],x,ν r,by simp_all[Ad,Ne.symm],rfl,u⟩
end
theorem Aur{m:List (Int×Int)}{G:Int->B.Fn}{n h:Int}(a:Ag m n=ψ):(JH (C4 m n h) G).Perm ((h,G n)::JH m G):=by
 have p:=(QO (k:=n) (v:=h) (m:=m)).map λp=>(p.2,G p.1)
 rw[UC a]at p;exact p
theorem Vr{L:Ae}{n0:Int}{t:Ab}(G:JJ L)(N:2*Fy L<=n0)(ht:t.Op=3∨t.Op=4)(hi:AY L.Aa t.qJ<σ L.Aa):VV L n0 t (gV (CB L (φ (t.Op=4)) (AY L.Aa t.qJ))) 16 20 20:=by
 intro I b Z M lv H X Q w hn hl hS B;apply EP;unfold DL;intro r Y c hc;obtain⟨V,e1,e2,d1,d2,d3,n1,n2,hcn⟩:=QM (z:=.st Aj (ν r)) w Y hc;generalize Ac (Ac H r (.mp I6 I6 [])) c (.st Aj (ν r))=H2 at V e1 e2;obtain⟨o,K⟩:∃o,φ (t.Op=(4:Int))=o:=⟨_,rfl⟩
 obtain⟨i,g⟩:∃i,AY L.Aa t.qJ=i:=⟨_,rfl⟩
 rw[K,g]at B;rw[g]at hi;have h8:2*Fy L<=8:=by have:=w.mg.n8;omega
 obtain⟨c1,c2,c3,c4,c5⟩:=G.cnt h8 hi;have hwl:=w.ln;have hln:=G.ln;have t0:((i:Int)).toNat=i:=by omega
 refine⟨λh=>by omega,λ_=>⟨λh3=>?_,λh3=>⟨λh4=>?_,λh4=>by omega⟩⟩⟩;all_goals
  refine⟨I,rfl,_,V.w.ob,rfl,TS G.toLK g hi ⟨I,rfl,_,V.w.ob,λ_=>⟨λ_=>by show (0:Int)<=(i:Int);omega,by show ((i:Int)).toNat<σ L.Aa;omega,rfl,OK ⟨λn z D=>∃j:Nat,z.1=FW L.Aa[i]+(j:Int)/\j<=Oy L.Aa[i]/\n=Oy L.Aa[i]-j/\∃l A m,Wk H D I b Z M l L lv A (JH m (Ym L o i))/\D r=ν (.mp I6 I6 m)/\D c=ν (.st Aj (ν r))/\Pc m/\(∀x,Ag m x=ψ↔¬(FW L.Aa[i]<=x/\x<FW L.Aa[i]+(j:Int)))/\σ m=j/\l.nx<=M.nx+(j:Int),⟨_,0,?_,a6 _,rfl,M,lv,[],V,e1,e2,by simp [Pc],λx=>⟨λ_=>by omega,λ_=>rfl⟩,rfl,by simp⟩,?_⟩⟩⟩⟩
  .show FW L.Aa[i]=FW L.Aa[i]+((0:Nat):Int);omega
  rintro n ⟨x,u⟩ D ⟨j,hx0,hj,hn1,l,A,m,O,F,q,E,d,C,nx4⟩
  have hx:x=FW L.Aa[i]+(j:Int):=hx0
  subst hx
  have l4:=O.ln
  have lm:σ (JH m (Ym L o i))=j:=by unfold JH;rw[ac];exact C
  rw[lm]at l4
  refine⟨λf=>?_,λf=>?_⟩
  .have f:FW L.Aa[i]+(j:Int)<=QS L.Aa[i]:=f
   have R:Ag m (FW L.Aa[i]+(j:Int))=ψ:=(d _).2 (by omega)
   have fin:∀{S:Mn}{s v},Wk D v I b Z l S L A s [(l.nx,Ym L o i (FW L.Aa[i]+(j:Int)))]->S.nx=l.nx+1->v r=ν (.mp I6 I6 m)/\v c=ν (.st Aj (ν r))/\∃k<n,∃J:Nat,FW L.Aa[i]+(j:Int)+1=FW L.Aa[i]+(J:Int)/\J<=Oy L.Aa[i]/\k=Oy L.Aa[i]-J/\∃M6 lv6 P,Wk H (Ac v r (.mp I6 I6 (C4 m (FW L.Aa[i]+(j:Int)) l.nx))) I b Z M M6 L lv lv6 (JH P (Ym L o i))/\Ac v r (.mp I6 I6 (C4 m (FW L.Aa[i]+(j:Int)) l.nx)) r=ν (.mp I6 I6 P)/\Ac v r (.mp I6 I6 (C4 m (FW L.Aa[i]+(j:Int)) l.nx)) c=ν (.st Aj (ν r))/\Pc P/\(∀x,Ag P x=ψ↔¬(FW L.Aa[i]<=x/\x<FW L.Aa[i]+(J:Int)))/\σ P=J/\M6.nx<=M.nx+(J:Int):=λ{S s v}T U=>by
    have W:v c=ν (.st Aj (ν r)):=by rw[T.f c (by rw[q];simp) d2 n2];exact q
    refine⟨by rw[T.f r (by rw[F];simp) d1 n1];exact F,W,Oy L.Aa[i]-(j+1),by omega,j+1,by omega,by omega,rfl,S,s,_,((O.trans T).perm (Aur R)).Ac3 d1 n1 Y,Ah _ _ _,by rw[Ad _ _ (Ne.symm d3)];exact W,K8 E _ _,λx=>?_,by rw[Ml R,C],by omega⟩;rw[Cw];by_cases ex:x=FW L.Aa[i]+(j:Int)
    .rw[UV ex];simp;omega
    .rw[GT ex,d];omega
   have ik:Bl .i64 (FW L.Aa[i]+(j:Int)+1):=Aq.2 (by omega)
   refine⟨⟨ν r,q,rfl,?_⟩,?_⟩
   all_goals
    show qK 63 Bb (ν I,(i:Int),FW L.Aa[i]+(j:Int),φ (t.Op=(4:Int)),()) D _ X
    rw[K]
    refine(Wk.of O.w).Age (by omega) (by omega) G.toLK hi (by rw[O.w.bs.n,<-w.bs.n,hS];exact N) (G.Age h8 hi (by omega) f) λS s v T U=>?_
    obtain⟨a1,W,a3⟩:=fin T U
   .exact⟨r,rfl,m,a1,λ_=>⟨ik,a3⟩⟩
   .exact⟨ν r,W,rfl,r,rfl,m,a1,λ_=>⟨ik,a3⟩⟩
  .have f:¬FW L.Aa[i]+(j:Int)<=QS L.Aa[i]:=f
   have hjc:j=Oy L.Aa[i]:=by omega
   subst hjc
   refine⟨ν r,q,rfl,B l A D r m ?_ Y F E (λy hy=>Ajj λa e=>?_) (by omega) (by omega)⟩
   .have e:JH m (gV (CB L o i))=JH m (Ym L o i):=by
     refine List.map_congr_left λp hp=>?_;have hk:=a7.1 λh=>qG ((d p.1).2 h) (by rw[FV E hp];simp);have:gV (CB L o i) p.1=Ym L o i p.1:=by funext a;rw[ar,Hk,Jc G hi];exact⟨λh=>h.2,λh=>⟨by omega,h⟩⟩
     rw[this]
    rw[e];exact O
   .have:=((Jc G hi).1 e).1
    have:=(d y).1 hy
    omega
section
def VD(n:Int)(V:B.As->Option Int):Prop:=∀a b:B.As,(∀v,0<=v->v<n->a v=b v)->V a=V b
def VB(V:B.As->Option Int):Prop:=∀a n,V a=ν n->-2000000<=n/\n<=2000000
def as8(k:Nat):B.As:=λv=>φ (k/2^v.toNat%2=1)
theorem A1i(a:B.As):∃k,k<256/\∀v:Int,0<=v->v<8->a v=as8 k v:=by
 refine⟨CE a [0,1,2,3,4,5,6,7],TY (l:=[0,1,2,3,4,5,6,7]),λv c d=>?_⟩;obtain⟨m,rfl⟩:=al c;have b:m<8:=by omega
 have h:=QY (a:=a) (l:=[0,1,2,3,4,5,6,7]) (k:=m) b;have e:([0,1,2,3,4,5,6,7]:List Int)[m]'b=(m:Int):=by
  have:m=0∨m=1∨m=2∨m=3∨m=4∨m=5∨m=6∨m=7:=by omega
  rcases this with rfl|rfl|rfl|rfl|rfl|rfl|rfl|rfl<;>rfl
 rw[e]at h;show a (m:Int)=φ (CE a [0,1,2,3,4,5,6,7]/2^(m:Int).toNat%2=1);rw[ar,decide_eq_true_iff];exact h
theorem Anh{V:B.As->Option Int}(c:VD 8 V){l:List Int}(b:l.Nodup)(h:∀n∈l,∃a,V a=ν n):σ l<=256:=by
 have j:=HS (m:=(am 256).filterMap λk=>V (as8 k)) b λn d=>by obtain⟨a,f⟩:=h n d;obtain⟨k,i,e⟩:=A1i a;exact List.mem_filterMap.2 ⟨k,aw.2 i,by rw[<-c a _ e];exact f⟩
 grind
def Zs(f:Int->Int->Int)(Va Vc:B.As->Option Int):B.As->Option Int:=λa=>(Va a).bind λx=>(Vc a).map (f x)
variable {f:Int->Int->Int} {Va Vc:B.As->Option Int} {a:B.As} {n:Int}
theorem QK:Zs f Va Vc a=ν n↔∃x y,Va a=ν x/\Vc a=ν y/\f x y=n:=by simp[Zs,Option.bind_eq_some_iff]
theorem Att(c:VD n Va)(d:VD n Vc):VD n (Zs f Va Vc):=λa b e=>by unfold Zs;rw[c a b e,d a b e]
def dsF(f:Int->Int->Int)(Va Vc:B.As->Option Int)(ds:List (Int×Int)):Int->B.Fn:=λn a=>ds.any λp=>φ (f p.1 p.2=n)&&(gV Va p.1 a&&gV Vc p.2 a)
variable {ds:List (Int×Int)}
theorem Ajx:dsF f Va Vc ds n a=τ↔∃x y,(x,y)∈ds/\f x y=n/\Va a=ν x/\Vc a=ν y:=by simp[dsF,bi,bj,Hk]
theorem Aey{x y:Int}:Re (dsF f Va Vc ds) (f x y) (CJ (gV Va x) (gV Vc y))=dsF f Va Vc (ds++[(x,y)]):=by
 funext n a;unfold Re;by_cases h:n=f x y
 .subst h;rw[UV rfl];simp[PA,CJ,dsF]
 .have b:¬f x y=n:=λe=>h e.symm;simp_all[dsF]
theorem Aez{x y:Int}(h:∀a,CJ (gV Va x) (gV Vc y) a=δ):dsF f Va Vc (ds++[(x,y)])=dsF f Va Vc ds:=by funext n a;simp_all[CJ,dsF]
theorem Ajw(h:dsF f Va Vc ds n a=τ):Zs f Va Vc a=ν n:=by grind[Ajx,QK]
theorem Ajy(h:∀x y a,gV Va x a=τ->gV Vc y a=τ->(x,y)∈ds):dsF f Va Vc ds=gV (Zs f Va Vc):=by funext n a;rw[ar,Hk];refine⟨Ajw,λe=>?_⟩;obtain⟨x,y,b,c,d⟩:=QK.1 e;exact Ajx.2 ⟨x,y,h x y a (Hk.2 b) (Hk.2 c),d,b,c⟩
structure OpU(r c:Nat)(f:Int->Int->Int)(Va Vc:B.As->Option Int)(ds:List (Int×Int))(H:HY)(hs:List (Int×B.Fn))(m:List (Int×Int)):Prop where
 hs:hs=JH m (dsF f Va Vc ds)
 c:H c=ν (.st Aj (ν r))
 r:H r=ν (.mp I6 I6 m)
 nd:Pc m
 k:∀n,Ag m n=ψ↔∀a,dsF f Va Vc ds n a=δ
theorem OpU.le{r c:Nat}{H:HY}{hs:List (Int×B.Fn)}{m:List (Int×Int)}(u:OpU r c f Va Vc ds H hs m)(d:VD 8 Va)(j:VD 8 Vc):σ m<=256:=by
 have:=Anh (Att (f:=f) d j) (l:=m.map λ(p:Int×Int)=>p.1) u.nd λn g=>by have b:¬∀a,dsF f Va Vc ds n a=δ:=λh=>En.1 ((u.k n).2 h) g;obtain⟨a,i⟩:=Classical.not_forall.1 b;exact⟨a,Ajw (ds:=ds) (by grind)⟩
 grind
end
section
theorem Ayw{Hb:HY}{wb b r c:Nat}{M0 Mb:Mn}{L:Ae}{lvb:List (Int×Bool)}{f:Int->Int->Int}{Va Vc:B.As->Option Int}{L2:Int×Int×Int×Unit->HY->(Unit->HP)->PX->Prop}(P:VD 8 Va)(Y:VD 8 Vc)(E:r≠wb)(G:c≠wb)(S:r≠c)(C:G5 b M0 r)(F:G5 b M0 c)(T:Hb r=ψ)(q:∀x y h H(N:HP)X,(∃a,Va a=ν x)->(∃a,Vc a=ν y)->H c=ν (.st Aj (ν r))->qK 134 BZ (ν wb,ν r,f x y,h,()) H (λ_ _ H'=>N H') X->L2 (x,y,h,()) H (λ_ H'=>N H') X):DoU Hb wb b M0 Mb L lvb (gV Va) (gV Vc) (λds H hs=>∃m,OpU r c f Va Vc ds H hs m) r 256 1 L2:=by
 refine⟨λds H hs⟨m,u⟩=>?_,λds H H' hs⟨m,u⟩z=>⟨m,u.hs,?_,?_,u.nd,u.k⟩,λds H hs x y⟨m,u⟩v=>⟨m,?_,u.c,u.r,u.nd,?_⟩,λds H hs M lv x y h Q N X⟨m,u⟩V k hn hl i=>?_⟩
 .rw[u.hs];unfold JH;rw[ac];exact u.le P Y
 .rw[z c (by rw[u.c];simp) G F];exact u.c
 .rw[z r (by rw[u.r];simp) E C];exact u.r
 .rw[Aez v];exact u.hs
 .rw[Aez v];exact u.k
 .obtain⟨a,D⟩:=V;have g:=D;unfold CJ at g;rw[bj,Hk,Hk]at g;refine q x y h H N X ⟨a,g.1⟩ ⟨a,g.2⟩ u.c ?_;have A:=k;rw[u.hs]at A;refine Vm A (by omega) (by omega) u.r E C T u.nd (λj U=>funext λa=>(u.k j).1 U a) λR s H' O w K p t l o=>?_;rw[Aey]at w;refine i R s H' _ w ⟨O,rfl,by rw[o c (by rw[u.c];simp) (Ne.symm S) G F];exact u.c,p,t,λn=>?_⟩ (by omega) λd Z W I J=>o d Z W I J;rw[l,u.k,<-Aey];unfold Re;by_cases e:n=f x y
  .rw[UV e];refine⟨λh=>qG e h.2,λh=>?_⟩;simp_all[PA]
  simp_all
def opF(op:Int)(x y:Int):Int:=if op=14 then x+y else if op=15 then x-y else if op=16 then x*y else (x.tmod y+y).tmod y
variable {x y:Int}
theorem We(c:-2000000<=x/\x<=2000000)(b:-2000000<=y/\y<=2000000):-4000000000000<=x*y/\x*y<=4000000000000:=by
 have a:(x*y).natAbs<=2000000*2000000:=by rw[Int.natAbs_mul];exact Nat.mul_le_mul (by omega) (by omega)
 omega
theorem Pn(b:1<=y):-y<x.tmod y/\x.tmod y<y:=by
 have a:x.tmod y<y:=bf _ (by omega);rcases Int.le_total 0 x with h|h
 .have:=Int.tmod_nonneg y h;omega
 .have e:(-x).tmod y=-(x.tmod y):=Int.neg_tmod ..;have c:(-x).tmod y<y:=bf _ (by omega);omega
theorem Atz{t:Ab}{wb r c:Nat}{h:Int}{H:HY}{N:HP}{X:PX}(l:t.Op=14∨t.Op=15∨t.Op=16∨t.Op=17)(k:-2000000<=x/\x<=2000000)(j:-2000000<=y/\y<=2000000)(m:t.Op=17->1<=y)(d:H c=ν (.st Aj (ν r)))(a:qK 134 BZ (ν wb,ν r,opF t.Op x y,h,()) H (λ_ _ f=>N f) X):qK 136 CZ (x,y,h,t,ν wb,ν c,()) H (λ(_ _:Unit)(f:HY)=>N f) X:=by
 apply O0;unfold JE;have g:=We k j;rcases l with e|e|e|e
 .rw[e]at a;exact⟨λ_ _ _=>⟨Aq.2 (by omega),c,rfl,_,d,rfl,a⟩,λh=>qG e h⟩
 .rw[e]at a;exact⟨λh=>by omega,λ_=>⟨λ_ _ _=>⟨Aq.2 (by omega),c,rfl,_,d,rfl,a⟩,λh=>qG e h⟩⟩
 .rw[e]at a;exact⟨λh=>by omega,λ_=>⟨λh=>by omega,λ_=>⟨λ_ _ _=>⟨Aq.2 (by omega),c,rfl,_,d,rfl,a⟩,λh=>qG e h⟩⟩⟩
 .rw[e]at a;have i:=m e;have n:=Pn (x:=x) i;have o:=Pn (x:=x.tmod y+y) i;exact⟨λh=>by omega,λ_=>⟨λh=>by omega,λ_=>⟨λh=>by omega,λ_=>⟨λ_ _ _=>⟨by omega,Aq.2 (by omega),λ_ _=>⟨Aq.2 (by omega),λ_ _=>⟨by omega,Aq.2 (by omega),c,rfl,_,d,rfl,a⟩⟩⟩,λh=>qG e h⟩⟩⟩⟩
theorem Zw{L:Ae}{n0:Int}{t ta tc:Ab}{Va Vc:B.As->Option Int}{bda ca pka bdc cc pkc W Z PK:Nat}(hp:pka<=PK/\bda+pkc<=PK/\256+bda+bdc<=PK)(ht:t.Op=14∨t.Op=15∨t.Op=16∨t.Op=17)(g:t.qZ=[ta,tc])(na:VV L n0 ta (gV Va) bda ca pka)(nc:VV L n0 tc (gV Vc) bdc cc pkc)(K:VD 8 Va)(T:VD 8 Vc)(b1:VB Va)(b2:VB Vc)(hm:t.Op=17->∀a y,Vc a=ν y->1<=y)(hb1:bda<=20000)(hb2:bdc<=20000)(hW:W=bdc*2)(hZ:Z=bda*W):VV L n0 t (gV (Zs (opF t.Op) Va Vc)) 256 (ca+cc+Z+2000) PK:=by
 intro wb b M0 M lv H X Q w hn hl hS l;apply EP;unfold DL;intro r q c hc;obtain⟨G,A,O,J,d2,d3,P,Y,hcn⟩:=QM (z:=.st Aj (ν r)) w q hc;generalize Ac (Ac H r (.mp I6 I6 [])) c (.st Aj (ν r))=H2 at G A O;have wln:=w.ln;have p:t.qZ[a0 (0:Int)]'(by grind)=ta:=by simp [g]
 have C:t.qZ[a0 (1:Int)]'(by grind)=tc:=by simp [g]
 refine⟨λh=>by omega,λ_=>⟨λh3=>by omega,λh3=>⟨λh4=>by omega,λh4=>⟨λV=>by omega,λV=>⟨λ_=>by omega,by grind,λ_=>by omega,by grind,?_⟩⟩⟩⟩⟩;rw[p,C];have D:=Ayw (Hb:=H) (wb:=wb) (b:=b) (r:=r) (c:=c) (M0:=M0) (Mb:=M) (L:=L) (lvb:=lv) (f:=opF t.Op) (Va:=Va) (Vc:=Vc) (L2:=λ(a:Int×Int×Int×Unit)(H:HY)(Q:Unit->HP)(X:Nat->Lf Y0.D->HP)=>qK 136 CZ (a.1,a.2.1,a.2.2.1,t,ν wb,ν c,()) H (λ(b x:Unit)(o:HY)=>Q () o) X) K T J d2 d3 P Y q (λx y h H N X⟨a,hx⟩⟨E,F⟩v U=>by have v1:=b1 a x hx;have v2:=b2 E y F;exact Atz ht v1 v2 (λe=>hm e E y F) v U)
 refine Rn (ctx:=[]) (hsU:=[]) (k:=by simpa using G) (u:=⟨[],rfl,O,A,by simp [Pc],λn=>by simp [Ag,dsF]⟩) (d:=D) (na:=na) (nc:=nc) hS (by grind) J P (by omega) (by omega) hW hZ (by omega) (by omega) (by omega) (by grind) λM' s o S ds I⟨m,u⟩i nx'=>?_;rw[List.append_nil]at I;refine⟨ν r,u.c,rfl,l M' s o r m ?_ q u.r u.nd (λj hj=>?_) (u.le K T) (by omega)⟩
 .rw[<-Ajy (f:=opF t.Op) i,<-u.hs];exact I
 .rw[<-Ajy (f:=opF t.Op) i];exact funext ((u.k j).1 hj)
end
section
variable {wb b:Nat} {M0 M M':Mn} {L:Ae} {lv:List (Int×Bool)} {H H':HY}
theorem WK.kp(w:WK H wb b M0 M L lv)(g:MG H' b M')(kp:Kp M M')(f:JG b M H H'):WK H' wb b M0 M' L lv:=
 ⟨by rw[f.at (by rw[w.ob];simp) w.wn];exact w.ob,g,w.bs.trans kp.bs,w.n0,by rw[kp.nx];exact w.nx,w.nd,w.tr,λh a=>⟨(kp.Ar h).trans (w.lo h a).1,(w.lo h a).2⟩,λh a=>by rw[kp.Ar];exact w.hi h a,by rw[kp.hs];exact w.ln⟩
theorem WK.Lu(w:WK H wb b M0 M L lv)(f:∀c,H c≠ψ->H' c=H c):WK H' wb b M0 M L lv:=
 ⟨by rw[f _ (by rw[w.ob];simp)];exact w.ob,w.mg.Lu f,w.bs,w.n0,w.nx,w.nd,w.tr,w.lo,w.hi,w.ln⟩
theorem Has.kp{Mb:Mn}{lvb:List (Int×Bool)}{hs:List (Int×B.Fn)}(h:Has Mb M lvb lv hs)(kp:Kp M M'):Has Mb M' lvb lv hs:=
 ⟨h.nb,h.nd,λp a=>by rw[kp.nx];exact h.ge p a,h.get,λp a=>(kp.Ar _).trans (h.Ar p a),λk b=>(kp.Ar k).trans (h.Lu k b),h.len,by rw[kp.nx];exact h.nx⟩
theorem Wk.kp{Hb:HY}{Mb:Mn}{lvb:List (Int×Bool)}{hs:List (Int×B.Fn)}(k:Wk Hb H wb b M0 Mb M L lvb lv hs)(g:MG H' b M')(kp:Kp M M')(f:JG b M H H'):Wk Hb H' wb b M0 Mb M' L lvb lv hs:=k.step (k.w.kp g kp f) (k.h.kp kp) f.w
variable {m:List (Int×Int)}
theorem Asz(a:Pc m):(m.map (·.1)).map (λn=>(Ag m n).getD 0)=m.map (·.2):=by simp_all[FV]
theorem OF{BX:List Int}(b:Pc lv)(f:BX.Nodup)(c:∀k∈BX,(Ag lv k).isSome=τ):σ (lv.filter λp=>φ (p.1∈BX))=σ BX:=by
 have e:(lv.filter λp=>φ (p.1∈BX)).map (·.1)=(lv.map (·.1)).filter λk=>φ (k∈BX):=by rw[List.filter_map];rfl
 have p:((lv.map (·.1)).filter λk=>φ (k∈BX)).Perm BX:=by refine(ax (List.Pairwise.filter _ b) f).2 λa=>?_;rw[List.mem_filter];refine⟨λh=>of_decide_eq_true h.2,λh=>⟨?_,decide_eq_true h⟩⟩;refine a9 λd=>?_;grind[En]
 have:=p.length_eq;grind
open Classical in
noncomputable def EL(V:B.As->Option Int)(W:B.Fn)(l:List Int):List Int:=l.filter λn=>φ (∃a,V a=ν n/\W a=τ)
def Na(m:List (Int×Int))(l:List Int):List Df:=l.map λn=>{N:=n,H:=(Ag m n).getD 0}
variable {V:B.As->Option Int} {W:B.Fn} {l:List Int}
open Classical in
theorem Xt{n:Int}:EL V W (l++[n])=if ∃a,V a=ν n/\W a=τ then EL V W l++[n] else EL V W l:=by unfold EL;rw[List.filter_append];split;all_goals grind
theorem Al3{n:Int}:n∈EL V W l↔n∈l/\∃a,V a=ν n/\W a=τ:=by grind[EL]
theorem QP:(EL V W l).Sublist l:=List.filter_sublist
structure Ahu(M M':Mn)(V:B.As->Option Int)(W:B.Fn)(cs:List Df):Prop where
 bs:DD M M'
 nx:M.nx<=M'.nx
 ln:σ M'.hs=σ M.hs+σ cs
 srt:(cs.map (·.N)).Pairwise (·<·)
 mem:∀n,n∈cs.map (·.N)↔∃a,V a=ν n/\W a=τ
 Ar:∀c∈cs,M'.Ar c.H=ν (gV V c.N)
 Lu:∀k F,M.Ar k=ν F->M'.Ar k=ν F
theorem An3(d:Pc m):(Au m).Pairwise (·<·):=by have f:(Au m).Pairwise (·<=·):=(List.pairwise_mergeSort (by grind) (by grind) _).imp (by simp);have e:=(Dz m).nodup_iff.2 d;exact(f.and e).imp λh=>by omega
theorem Amj{Hb:HY}{Mx:Mn}{wh:Int}(k:Wk Hb H wb b M M Mx L [] lv (JH m (gV V)++[(wh,W)]))(p:Pc m)(y:∀j,Ag m j=ψ->gV V j=λ_=>δ)(e:Akl M Mx M' lv ((EL V W (Au m)).map λn=>(Ag m n).getD 0)):Ahu M M' V W (Na m (EL V W (Au m))):=by
 have i:∀n∈EL V W (Au m),∃h,Ag m n=ν h:=λn f=>by obtain⟨h,e,_⟩:=Q9 p (QP.subset f);exact⟨h,e⟩
 have q:(m.map (·.2)).Nodup:=by
  have:=k.h.nd;rw[aj,bg]at this;have o:=this.1;have:(JH m (gV V)).map (·.1)=m.map (·.2):=by unfold JH;rw[bh];rfl
  rw[this]at o;exact o
 have s:((EL V W (Au m)).map λn=>(Ag m n).getD 0).Nodup:=by
  have o:((Au m).map λn=>(Ag m n).getD 0).Nodup:=by grind[Dz,Asz]
  exact(QP.map _).nodup o
 have d:∀n∈EL V W (Au m),∃h,Ag m n=ν h/\(h,gV V n)∈JH m (gV V)++[(wh,W)]:=λn f=>by grind[bb,Wh]
 have t:∀{h F},(h,F)∈JH m _++[(wh,W)]->Ag lv h=ν _:=λ{h F}v=>by rw[k.h.get,UV (au v)]
 refine⟨k.w.bs.trans e.bs,by rw[e.nx];exact k.h.nx,?_,?_,λn=>?_,λc w=>?_,λj F l=>?_⟩
 .rw[e.ln,OF k.w.nd s _,ac]
  .unfold Na;rw[ac]
  grind
 .unfold Na;rw[bh];grind[EL,Au,Ag,bv,An3,QP]
 .unfold Na;rw[bh];have:(EL V W (Au m)).map ((λx:Df=>x.N)∘λn=>{N:=n,H:=(Ag m n).getD 0})=EL V W _:=bv _;rw[this,Al3];refine⟨λh=>h.2,λh=>⟨(Dz m).mem_iff.2 (a9 λf=>?_),h⟩⟩;obtain⟨a,z,_⟩:=h;have:=congrFun (y n (En.2 f)) a;grind[Hk]
 .unfold Na at w;obtain⟨n,f,rfl⟩:=b8.1 w;obtain⟨h,u,r⟩:=d n f;show M'.Ar _=ν _;rw[e.Ar,GT λv=>v.2 (au f),u,an];exact k.h.Ar _ r
 .have g:j<M.nx:=by
   have C:∃x,Ag M.hs j=ν x:=by grind[Mn.Gj]
   refine a9 λf=>?_;have:=(k.h.nb j (by omega)).2;grind
  rw[e.Ar,(k.w.lo j g).2,GT (by simp),(k.w.lo j g).1,l]
theorem Yb{t:Ab}{bd c pk:Nat}{y:Af}{e:Int}{X:PX}{Q:List Df×Int×Unit->UU}(hM:MG H b M)(hn:M.nx+(c:Int)<576460752303410000)(hl:σ M.hs+bd+pk<=59000)(hL:JJ L)(v:2*Fy L<=M.S.n)(hT:∀(H:HY)(X:PX)(Q:Af×Int×Unit->UU),(∀H',(∀c,H c≠ψ->H' c=H c)->Q (y,e,()) () H')->qK 41 EE (L.Aa,t,τ,()) H Q X)(na:e=0->y.Bool=δ->VV L M.S.n t (gV V) bd c pk)(he:e≠0->∀H',MG H' b M->FrO b M H H'->Q ([],e,()) () H')(hb:e=0->y.Bool=τ->∀H',MG H' b M->FrO b M H H'->Q ([],13,()) () H')(h0:e=0->y.Bool=δ->∀M' H' cs,MG H' b M'->Ahu M M' V (CJ (Io L δ (σ L.Aa)) (Io L τ (σ L.Aa))) cs->M'.nx<=M.nx+(c:Int)+7000->FrO b M H H'->Q (cs,0,()) () H'):qK 30 Nt (ν b,L,t,()) H Q X:=by
 refine wF Tryz.f30 {lp:=[(14,⟨[(13,.one (.own (.u 10))),(14,.one (.own I6)),(55,.one (.own I6)),(57,.nat)],[0,8,11,12,55,56],τ⟩)],im:=[4,5],il:=ilT} (?_:RJ (ν b) L t H Q X);unfold RJ;refine MD hM hL.toLK (λhlt=>by omega) λ_ o H0 hwb w0 f0=>⟨λu=>qG rfl u,λ_=>hT _ _ _ λS fT=>⟨λu=>?_,λu=>⟨λi=>?_,λi=>?_⟩⟩⟩
 all_goals
  have w:=w0.Lu fT
  have f1:∀c,H c≠ψ->S c=H c:=λc k=>by have e0:=f0 c λe=>k (by rw[e];exact hwb);rw[fT c (by rw[e0];exact k),e0]
 .exact he u S w.mg λc k _=>f1 c k
 .exact hb (a7.1 u) i S w.mg λc k _=>f1 c k
 have u:e=0:=a7.1 u;have i:y.Bool=δ:=by simpa using i
 have na':VV L M.S.n t (gV V) bd c pk:=na u i;have fix:∀{M':Mn},DD M M'->M'.S.n=M.S.n:=λe=>e.n;refine Nb w (by omega) (by omega) hL v λM2 lv2 H2 r2 k2 nx2=>?_;have l2:=k2.ln;simp only[ae,b9]at l2;refine Nb k2.w (by omega) (by omega) hL (by rw[fix k2.w.bs];exact v) λR lv3 H3 r3 k3 nx3=>?_;have Y:=k2.trans k3;have l3:=Y.ln;simp only[List.length_append,ae,b9]at l3;refine(Y.perm (.swap _ _ _)).two (by omega) (λhM ha k=>Ahf hM (by omega) (by omega) ha k) λM4 lv4 H4 E nx4=>?_;have l4:=E.ln;simp only[ae,b9]at l4;refine na' E.w (by omega) (by omega) (fix E.w.bs) λM5 g H5 r m k5 J D hm hz hlm nx5=>?_;have k5':=E.trans k5;have hrw:r≠o:=λe=>by rw[e,E.w.ob]at J;cases J
 have hrm:G5 b M r:=(E.w.mg.h.notM J).back E.w.bs;refine Iq (b:=r) D (by omega) λc1 lo r1 N F=>?_;have k6:=k5'.fresh (y:=.lp N) F;have hr6:Ac H5 lo (.lp N) r=ν (.mp I6 I6 m):=by rw[Ad _ _ λe=>by rw[<-e,D]at F;cases F];exact D
 generalize Ac H5 lo (.lp N)=H6 at k6 hr6;generalize hW:CJ (Io L δ (σ L.Aa)) (Io L τ (σ L.Aa))=W at k6 h0;have hsl:=N9 m;refine λ_=>⟨λn z H'=>n=σ m-z.2.2.2.1/\z.2.2.2.1<=σ m/\z.2.2.1=Au m/\z.1=Na m (EL V W ((Au m).take z.2.2.2.1))/\z.2.1=(EL V W ((Au m).take z.2.2.2.1)).map (λn=>(Ag m n).getD 0)/\∃M',Wk S H' o b M M M' L [] g (JH m (gV V)++[(R.nx,W)])/\H' r=ν (.mp I6 I6 m)/\M'.nx=M5.nx,⟨_,rfl,a6 _,rfl,rfl,rfl,M5,k6,hr6,rfl⟩,?_⟩
 rintro n ⟨cs,kp,ks,j,_⟩ H7 ⟨hn0,Z,A,x,C,M7,p,K,U⟩;have hn1:n=σ m-j:=hn0;have hj:j<=σ m:=Z;have hks:ks=Au m:=A;have hcs:cs=Na m (EL V W ((Au m).take j)):=x;have hkp:kp=(EL V W ((Au m).take j)).map (λn=>(Ag m n).getD 0):=C;subst hks hcs hkp;have len:=λ{q}=>by have h1:=(QP (V:=V) (W:=W) (l:=(Au m).take q)).length_le;rw[ao]at h1;omega
 refine⟨λd _=>?_,λd=>?_⟩
 .have d:j<σ (Au m):=d;obtain⟨h,eh,_⟩:=Q9 hm (ap d);have mh:=p.h.Ar (h,gV V (Au m)[j]) (bb _ (Wh eh));have mw:=p.h.Ar (R.nx,W) (by simp);have l7:=p.ln;have l7':σ (JH m (gV V)++[(R.nx,W)])=σ m+1:=by unfold JH;simp
  rw[l7']at l7;have tk:=aa d;refine⟨d,d,r,rfl,m,K,?_⟩;show qK 27 MR _ H7 _ X;rw[eh,an];refine Aa7 p.w.mg (by omega) (by simp at l7;omega) mh mw λM8 P t ht g8 O f8=>?_;have k8:=p.kp g8 O f8;have T:P r=ν (.mp I6 I6 m):=by rw[f8.at (by rw[K];simp) (hrm.same p.w.bs)];exact K
  have f:=LP k8.w.ob;refine⟨o,rfl,_,k8.w.ob,λ_=>⟨λI=>?_,λI=>?_⟩,λh=>qG rfl h⟩
  .have G:∃a,V a=ν (Au m)[j]/\W a=τ:=by obtain⟨a,h1,h2⟩:=ht.1 I;exact⟨a,Hk.1 h1,h2⟩
   have q1:Ac P o (.st Co ({m:=ν b,l:=L,live:=g,e:=0}:Am)) r=ν (.mp I6 I6 m):=by rw[f];exact T
   have q2:Wk S (Ac P o (.st Co ({m:=ν b,l:=L,live:=g,e:=0}:Am))) o b M M M8 L [] g (JH m (gV V)++[(R.nx,W)]):=by rw[f];exact k8
   have ln:=len (q:=j);have s:EL V W ((Au m).take (j+1))=EL V W ((Au m).take j)++[(Au m)[j]]:=by rw[tk,Xt,UV G]
   refine⟨r,rfl,m,q1,?_,r,rfl,m,q1,?_,by show j+1<=_;omega,σ m-(j+1),by omega,rfl,by show j+1<=_;omega,rfl,?_,?_,M8,q2,q1,O.nx.trans U⟩
   .show (σ (Na m (EL V W ((Au m).take j)))+1)*16<=_;unfold Na;rw[ac];omega
   .show (σ ((EL V W ((Au m).take j)).map λn=>(Ag m n).getD 0)+1)*8<=_;rw[ac];omega
   .show Na m _++[_]=Na m (EL V W ((Au m).take (j+1)));rw[s];unfold Na;rw[aj];rfl
   .show bq _ _++[_]=bq _ (EL V W ((Au m).take (j+1)));rw[s,aj];rfl
  .have G:¬∃a,V a=ν (Au m)[j]/\W a=τ:=λ⟨a,h1,h2⟩=>I (ht.2 ⟨a,Hk.2 h1,h2⟩);have q1:Ac P o (.st Co ({m:=ν b,l:=L,live:=g,e:=0}:Am)) r=ν (.mp I6 I6 m):=by rw[f];exact T
   have q2:Wk S (Ac P o (.st Co ({m:=ν b,l:=L,live:=g,e:=0}:Am))) o b M M M8 L [] g (JH m (gV V)++[(R.nx,W)]):=by rw[f];exact k8
   have s:EL V W ((Au m).take (j+1))=EL V W ((Au m).take j):=by rw[tk,Xt,GT G]
   refine⟨by show j+1<=_;omega,σ m-(j+1),by omega,rfl,by show j+1<=_;omega,rfl,?_,?_,M8,q2,q1,O.nx.trans U⟩
   .show Na m _=Na m (EL V W ((Au m).take (j+1)));rw[s]
   .show bq _ _=bq _ (EL V W ((Au m).take (j+1)));rw[s]
 .have d:¬j<σ (Au m):=d;have hjm:j=σ m:=by omega
  have tk:(Au m).take j=Au m:=af (by omega);have ln:=len (q:=j);rw[tk]at ln;rw[tk];refine ML p.w (by omega) (by rw[ac];omega) λM9 H9 g9 e9 f9=>⟨λh=>qG rfl h,λ_=>h0 u i M9 H9 _ g9 (Amj p hm hz e9) (by rw[e9.nx];omega) λc k nc=>?_⟩
  have hcw:c≠o:=λe=>k (by rw[e];exact hwb);have s:=f1 c k;have e2:=p.f c (by rw[s];exact k) hcw nc;rw[f9 c (by rw[e2,s];exact k) hcw (nc.same p.w.bs),e2,s]
end
section
set_option maxRecDepth 100000
set_option maxHeartbeats 2000000
def Rz(c:Int)(H:HY)(Q:qU->UU)(_:PX):=letI E:=Q (τ,()) () H;(DH c->E)/\(¬DH c->(isDigit c->E)/\(¬isDigit c->Q (φ (c=95),()) () H))
theorem YC c H Q X(h_:Rz c H Q X):qK 204 Gh (c,()) H Q X:=wF Tryz.f204 {} h_
def FP(s:List ByteArray)(v:ByteArray)(H:HY)(Q:qV->UU)(_:PX):=σ s<=2^63-1->∃(V:Nat->qV->Prop),(∃(n:Nat),H=H/\V n (0,()))/\∀n x,V n x->(x.1<((σ s):Int)->IK x.1->(IK x.1->0<=x.1)/\∃(h:x.1.toNat<σ s),(v=s[x.1.toNat]->Q (x.1,()) () H)/\(¬v=s[x.1.toNat]->IK x.1->IK (x.1+1)/\∃m,m<n/\H=H/\V m (x.1+1,())))/\(¬x.1<((σ s):Int)->Q (-1,()) () H)
theorem Li s v H Q X(h_:FP s v H Q X):qK 249 DT (s,v,()) H Q X:=wF Tryz.f249 {lp:=[(2,⟨[(8,.one (.dat I6))],[0,1,7],δ⟩)]} h_
def O8(w:Al)(p1:Option Nat)(H:HY)(Q:qU->UU)(_:PX):=∃(b:Nat),p1=ν b/\∃(x:Al),H b=ν (Ob.st LO x)/\x=x/\Q (φ (w.qJ=x.qJ),()) () H
theorem V7 w p1 H Q X(h_:O8 w p1 H Q X):qK 158 IE (w,p1,()) H Q X:=wF Tryz.f158 {im:=[2]} h_
def BW(s:List Al)(f:Al×UT->HY->(qU->HP)->PX->Prop)(H:HY)(Q:qU->UU)(X:PX):=qK 206 Bx (s,f,()) H (λ(b:qV)_ G=>Q (φ (0<=b.1),()) () G) X
theorem DN s f H Q X(h_:BW s f H Q X):qK 160 AU (s,f,()) H Q X:=wF Tryz.f160 {} h_
def Ch(s:List Al)(f:Al×UT->HY->(qU->HP)->PX->Prop)(H:HY)(Q:qV->UU)(X:PX):=σ s<=2^63-1->∃(V:Nat->qV->HP),(∃(n:Nat),V n (0,()) H)/\∀n x H,V n x H->(x.1<((σ s):Int)->IK x.1->(IK x.1->0<=x.1)/\∃(h:x.1.toNat<σ s),f (s[x.1.toNat],()) H (λ(b:qU)(G:HY)=>(b.1->Q (x.1,()) () G)/\(¬b.1->IK x.1->IK (x.1+1)/\∃m,m<n/\V m (x.1+1,()) G)) X)/\(¬x.1<((σ s):Int)->Q (-1,()) () H)
theorem Ea s f H Q X(h_:Ch s f H Q X):qK 206 Bx (s,f,()) H Q X:=wF Tryz.f206 {lp:=[(2,⟨[(8,.one (.dat I6))],[0,1,7],τ⟩)]} h_
def JR(H:HY)(Q:List ByteArray×UT->UU)(_:PX):=Q (Ib,()) () H
theorem OX H Q X(h_:JR  H Q X):qK 157 Gu (()) H Q X:=wF Tryz.f157 {} h_
def Jm(n:Int)(H:HY)(Q:qU->UU)(_:PX):=((-255:Int)<=n->Q (φ (n<=255),()) () H)/\(¬(-255:Int)<=n->Q (δ,()) () H)
theorem NX n H Q X(h_:Jm n H Q X):qK 83 CX (n,()) H Q X:=wF Tryz.f83 {} h_
def KI(m:O7)(H:HY)(Q:qV->UU)(X:PX):=letI E:=σ m.Aa;∃(V:Nat->Int×Nat×UT->Prop),(∃(n:Nat),H=H/\V n (0,0,()))/\∀n x,V n x->E<=2^63-1->(x.2.1<E->x.2.1<=2^63-1->∃(h:x.2.1<E),qK 65 CM (m.Aa[x.2.1],()) H (λ(b:qV)_ G=>qK 64 EG (b.1,()) G (λ(b:qV)_ G=>IK x.1->IK b.1->IK (x.1+b.1)/\x.2.1+1<=2^63-1/\∃m,m<n/\G=H/\V m (x.1+b.1,x.2.1+1,())) X) X)/\(¬x.2.1<E->Q (x.1,()) () H)
theorem Pl m H Q X(h_:KI m H Q X):qK 79 GO (m,()) H Q X:=wF Tryz.f79 {lp:=[(3,⟨[(3,.one (.dat I6)),(4,.nat)],[1],δ⟩)],im:=[1]} h_
def JS(l:List Int)(n:Int)(H:HY)(Q:qU->UU)(_:PX):=letI E:=Q (δ,()) () H;σ l<=2^63-1->(¬((σ l):Int)=n->E)/\(¬¬((σ l):Int)=n->∃(V:Nat->Nat×UT->Prop),(∃(n:Nat),H=H/\V n (0,()))/\∀n1 x,V n1 x->((x.1:Int)<n->∃(V1:Nat->Nat×Nat×UT->Prop),(∃(n:Nat),H=H/\V1 n (0,0,()))/\∀n2 x1,V1 n2 x1->((x1.2.1:Int)<n->x1.2.1<=2^63-1->∃(h:x1.2.1<σ l),letI F:=x1.2.1+1;letI I:=l[x1.2.1]=(x.1:Int);(I->x1.1+1<=2^63-1/\F<=2^63-1/\∃m,m<n2/\H=H/\V1 m (x1.1+1,F,()))/\(¬I->F<=2^63-1/\∃m,m<n2/\H=H/\V1 m (x1.1,F,())))/\(¬(x1.2.1:Int)<n->(¬x1.1=1->E)/\(¬¬x1.1=1->x.1+1<=2^63-1/\∃m,m<n1/\H=H/\V m (x.1+1,()))))/\(¬(x.1:Int)<n->Q (τ,()) () H))
end
section
def byI(s:ByteArray)(i:Nat)(h:i<s.size):Int:=(↑(↑s[i].toBitVec.toFin:Nat):Int)
def UF(c:Int):Bool:=DH c ||isDigit c ||decide (c=95)
structure Ar5(s:ByteArray):Prop where
 n0:1<=s.size
 n1:s.size<=24
 l0:∀h:0<s.size,DH (byI s 0 h)=τ
 ins:∀i(h:i<s.size),UF (byI s i h)=τ
 nw:s∉Ib
variable {s:ByteArray}
theorem Aii:(¬s={data:={toList:=[]:Array UInt8}:ByteArray})↔1<=s.size:=by
 refine⟨λh=>a9 λb=>h ?_,λh e=>?_⟩
 .have:s.size=0:=by omega
  obtain⟨⟨l⟩⟩:=s;cases l with
  |nil=>rfl
  |cons a l=>exact qG (show σ (a::l)=0 from this) (by simp)
 .rw[e]at h;exact qG h (by decide)
variable {H:HY} {X:PX} {Q:Bool×Unit->UU}
theorem Xp{c:Int}(h:Q (UF c,()) () H):qK 204 Gh (c,()) H Q X:=by grind[YC,Rz,UF,DH,isDigit]
def Av4(s:ByteArray)(n:Nat):Prop:=n<=s.size/\(∀i(h:i<s.size),i<n->UF (byI s i h)=τ)/\(∀h:n<s.size,UF (byI s n h)=δ)
theorem Av4.all{n:Nat}(h:Av4 s n):n=s.size↔∀i(h:i<s.size),UF (byI s i h)=τ:=by
 refine⟨λe i c=>h.2.1 i c (by omega),λb=>a9 λf=>?_⟩;have d:=h.1;have a:n<s.size:=by omega
 have:=h.2.2 a;grind
theorem Aeb{Q:Int×Unit->UU}(hs:s.size<=1000000)(h:∀n,Av4 s n->Q ((n:Int),()) () H):qK 203 RY (s,λ(a:Int×Unit)(H:HY)(Q:Bool×Unit->HP)(X:Nat->Lf Y0.D->HP)=>qK 204 Gh (a.1,()) H (λ(b:Bool×Unit)(_:Unit)(m:HY)=>Q (b.1,()) m) X,()) H Q X:=by
 refine wF Tryz.f203 {lp:=[(2,⟨[(5,.nat)],[0,1],τ⟩)]} (?_:∃(V:Nat->Nat×UT->HP),(∃(n:Nat),V n (0,()) H)/\∀n e H,V n e H->s.size<=2^63-1->(e.1<s.size->e.1<=2^63-1->∃(h:e.1<s.size),(λ(a:qV)(H:HY)(Q:qU->HP)(X:Nat->Lf Y0.D->HP)=>qK 204 Gh (a.1,()) H (λ(b:qU)(x:UT)(m:HY)=>Q (b.1,()) m) X) ((↑(↑s[e.1].toBitVec.toFin:Nat):Int),()) H (λ(c:qU)(G:HY)=>(c.1->e.1+1<=2^63-1/\∃d,d<n/\V d (e.1+1,()) G)/\(¬c.1->Q ((e.1:Int),()) () G)) X)/\(¬e.1<s.size->Q ((e.1:Int),()) () H));refine⟨λn z m=>m=H/\n=s.size-z.1/\z.1<=s.size/\∀i h,i<z.1->UF (byI s i h)=τ,⟨_,rfl,rfl,a6 _,λi _ g=>qG g (a8 _)⟩,?_⟩;rintro n ⟨k,_⟩ m ⟨rfl,f,l,d⟩;have r:=f;have q:=l;have o:=d;refine λ_=>⟨λc _=>?_,λc=>?_⟩
 .have c:=c;refine⟨c,Xp ⟨λg=>⟨by grind,s.size-(k+1),by omega,rfl,rfl,by grind,λi h j=>?_⟩,λg=>?_⟩⟩
  .have j:=j;by_cases e:i=k
   .subst e;exact g
   grind
  .refine h k ⟨q,o,λp=>?_⟩;grind[UF,byI]
 .have c:=c;have:k=s.size:=by omega
  subst this;exact h _ ⟨q,o,λp=>qG p (br _)⟩
theorem Ab3{l:List ByteArray}(m:σ l<=1000)(h:∀t:Bool,(t=τ↔s∈l)->Q (t,()) () H):qK 205 Gt (l,s,()) H Q X:=by
 refine wF Tryz.f205 {} (?_:qK 249 DT (l,s,()) H (λ(b:qV)_ G=>Q (φ (0<=b.1),()) () G) X);apply Li;unfold FP;refine λ_=>⟨λn z=>∃k:Nat,z.1=k/\n=σ l-k/\k<=σ l/\s∉l.take k,⟨_,rfl,0,rfl,rfl,a6 _,by simp⟩,?_⟩
 rintro n ⟨x,_⟩ ⟨k,d,o,p,f⟩;have i:=d;subst i;have g:=by omega
 refine⟨λa _=>?_,λa=>?_⟩
 .have a:=a;have c:k<σ l:=by omega
  refine⟨λ_=>by omega,by omega,λb=>?_,λb _=>⟨Aq.2 (by omega),σ l-(k+1),by omega,rfl,k+1,by rfl,rfl,by omega,?_⟩⟩
  .grind
  .have b:=b;simp   at b;rw[aa c,bn,ak];exact λj=>j.elim f b
 grind
theorem Ag1(hs:Ar5 s)(h:Q (τ,()) () H):qK 159 IJ (s,()) H Q X:=by
 refine wF Tryz.f159 {} (?_:letI E:=Q (δ,()) () H;letI F:=s.size;letI I:=¬s={data:={toList:=[]:Array UInt8}:ByteArray};(I->F<=2^63-1->(F<=24->(True->(0:Int)<=0)/\∃(h:a0 (0:Int)<F),letI O:=DH (↑(↑s[a0 (0:Int)].toBitVec.toFin:Nat):Int)=τ;(O->qK 203 RY (s,λ(a:qV)(H:HY)(Q:qU->HP)(X:Nat->Lf Y0.D->HP)=>qK 204 Gh (a.1,()) H (λ(b:qU)(x:UT)(G:HY)=>Q (b.1,()) G) X,()) H (λ(b:qV)_ G=>F<=2^63-1->(b.1=(F:Int)->qK 205 Gt (Ib,s,()) G (λ(b:qU)_ G=>Q (φ ¬b.1=τ,()) () G) X)/\(¬b.1=(F:Int)->Q (δ,()) () G)) X)/\(¬O->E))/\(¬F<=24->E))/\(¬I->E));have c:=hs.n0;have b:=hs.n1;refine⟨λ_ _=>⟨λ_=>⟨λ_=>by omega,by omega,λ_=>Aeb (by omega) λn d _=>⟨λ_=>Ab3 (by decide) λt f=>?_,λa=>qG (congrArg _ (d.all.2 hs.ins)) a⟩,λa=>qG (hs.l0 _) a⟩,λa=>qG b a⟩,λa=>qG (Aii.2 c) a⟩;have e:t=δ:=by
  cases e:t with
  |false=>rfl
  |true=>exact qG (f.1 e) hs.nw
 grind
theorem Aap{Q:Int×Unit->UU}(hs:s.size<=1000000)(h:∀n,Av4 s n->Q ((n:Int),()) () H):qK 155 Ie (s,0,δ,()) H Q X:=by
 refine wF Tryz.f155 {lp:=[(1,⟨[(1,.one (.dat I6))],[0,2],δ⟩)]} (?_:letI E:=s.size;∃(V:Nat->qV->Prop),(∃(n:Nat),H=H/\V n (0,()))/\∀n x,V n x->E<=2^63-1->(x.1<(E:Int)->IK x.1->(IK x.1->0<=x.1)/\∃(h:x.1.toNat<E),letI O:=IK x.1;letI F:=O->IK (x.1+1)/\∃m,m<n/\H=H/\V m (x.1+1,());letI I:=x.1.toNat;letI P:=isDigit (↑(↑s[I].toBitVec.toFin:Nat):Int)=τ;letI R:=Q (x.1,()) () H;(P->F)/\(¬P->(¬δ->O->(O->0<=x.1)/\∃(h:I<E),letI S:=DH (↑(↑s[I].toBitVec.toFin:Nat):Int)=τ;(S->F)/\(¬S->O->(O->0<=x.1)/\∃(h:I<E),letI W:=(↑(↑s[I].toBitVec.toFin:Nat):Int)=95;(W->F)/\(¬W->R)))/\(¬¬δ->R)))/\(¬x.1<(E:Int)->Q (x.1,()) () H));refine⟨λn z=>∃k:Nat,z.1=k/\n=s.size-k/\k<=s.size/\∀i h,i<k->UF (byI s i h)=τ,⟨_,rfl,0,rfl,rfl,a6 _,λi _ o=>qG o (a8 _)⟩,?_⟩;rintro n ⟨x,_⟩ ⟨k,t,G,y,v⟩;have F:=t;subst F;have E:=by omega
 refine λ_=>⟨λb _=>?_,λb=>?_⟩
 .have b:=b;have a:k<s.size:=by omega
  have w:Bl .i64 k->0<=(k:Int):=λ_=>by omega
  have d:=by omega
  have r:Bl _ (k+1):=Aq.2 (by omega);have g:∀q,↑↑(s[(k:Int).toNat]'q).toBitVec.toFin=byI s k a:=λq=>by rfl
  have u:UF (byI s k a)=τ->∃m<n,H=H/\∃p:Nat,(k:Int)+1=p/\m=s.size-p/\p<=s.size/\∀i h,i<p->UF (byI s i h)=τ:=λo=>⟨s.size-(k+1),by omega,rfl,k+1,by omega,rfl,by omega,λi h D=>by grind⟩
  have l:UF (byI s k a)=δ->Q _ _ H:=λo=>h k ⟨y,v,λA=>o⟩;grind[isDigit,UF,DH,byI,decide_eq_false]
 .have b:=b;have:k=s.size:=by omega
  subst this;exact h _ ⟨y,v,λA=>qG A (br _)⟩
theorem WO{l:List ByteArray}(o:σ l<=1000)(h:∀t:Bool,(t=τ↔s∈l)->Q (t,()) () H):qK 156 Gt (l,s,()) H Q X:=by
 refine wF Tryz.f156 {lp:=[(2,⟨[(5,.nat)],[0,1],δ⟩)]} (?_:∃(V:Nat->Nat×UT->Prop),(∃(n:Nat),H=H/\V n (0,()))/\∀n x,V n x->σ l<=2^63-1->(x.1<σ l->x.1<=2^63-1->∃(h:x.1<σ l),(l[x.1]=s->Q (τ,()) () H)/\(¬l[x.1]=s->x.1+1<=2^63-1/\∃m,m<n/\H=H/\V m (x.1+1,())))/\(¬x.1<σ l->Q (δ,()) () H));refine⟨λn z=>n=σ l-z.1/\z.1<=σ l/\s∉l.take z.1,⟨_,rfl,rfl,a6 _,by simp⟩,?_⟩;rintro n ⟨k,_⟩ ⟨c,d,b⟩;have j:=c;have m:=d;have f:=b;refine λ_=>⟨λa _=>?_,λa=>?_⟩
 .have a:=a;refine⟨a,λg=>?_,λg=>⟨by grind,σ l-(k+1),by omega,rfl,rfl,by grind,?_⟩⟩
  .grind
  .show s∉l.take _;rw[aa a,bn,ak];exact λi=>i.elim f λe=>g e.symm
 grind
theorem Adi(h:∀t:Bool,(t=τ↔Ar5 s)->Q (t,()) () H):qK 82 IJ (s,()) H Q X:=by
 refine wF Tryz.f82 {} (?_:letI E:=s.size;letI F:=Q (δ,()) () H;E<=2^63-1->(1<=E->E<=2^63-1->(E<=24->(True->(0:Int)<=0)/\∃(h:a0 (0:Int)<E),letI I:=DH (↑(↑s[a0 (0:Int)].toBitVec.toFin:Nat):Int)=τ;(I->qK 155 Ie (s,(0:den Y0.D (Ty.int .i64)),δ,()) H (λ(b:qV)_ G=>E<=2^63-1->(b.1=(E:Int)->qK 157 Gu () G (λ(b:List ByteArray×UT)_ G=>qK 156 Gt (b.1,s,()) G (λ(b:qU)_ G=>Q (φ ¬b.1=τ,()) () G) X) X)/\(¬b.1=(E:Int)->Q (δ,()) () G)) X)/\(¬I->F))/\(¬E<=24->F))/\(¬1<=E->F));have b:∀{P:Prop},¬P->(Ar5 s->P)->Q _ _ H:=λi j=>h δ ⟨λe=>qG e (by decide),λe=>qG (j e) i⟩;refine λ_=>⟨λg _=>⟨λd=>⟨λ_=>by omega,by grind,λl=>Aap (by grind) λn f _=>⟨λc=>?_,λa=>b a λe=>congrArg _ (f.all.2 e.ins)⟩,λa=>b a λe=>e.l0 _⟩,λa=>b a λe=>e.n1⟩,λa=>b a λe=>e.n0⟩
 have c:=c;have c:n=s.size:=by omega
 apply OX;unfold JR;refine WO (by decide) λt k=>h _ ?_;show decide _=τ↔_;rw[decide_eq_true_iff,k];exact⟨λe=>⟨g,d,λ_=>l,f.all.1 c,e⟩,λe=>e.nw⟩
end
section
set_option maxRecDepth 100000
set_option maxHeartbeats 2000000
def Ls(t:Ab)(most:Int)(H:HY)(Q:qV->UU)(X:PX):=letI E:=σ t.qZ;∃(V:Nat->Int×Nat×UT->Prop),(∃(n:Nat),H=H/\V n (most,0,()))/\∀n x,V n x->E<=2^63-1->(x.2.1<E->(0<=x.1->x.2.1<=2^63-1->∃(h:x.2.1<E),IK x.1->IK (x.1-1)/\qK 9 DX (t.qZ[x.2.1],x.1-(1:den Y0.D (Ty.int .i64)),()) H (λ(b:qV)_ G=>x.2.1+1<=2^63-1/\∃m,m<n/\G=H/\V m (b.1,x.2.1+1,())) X)/\(¬0<=x.1->Q (x.1,()) () H))/\(¬x.2.1<E->Q (x.1,()) () H)
theorem Rc t most H Q X(h_:Ls t most H Q X):qK 9 DX (t,most,()) H Q X:=wF Tryz.f9 {lp:=[(2,⟨[(1,.one (.dat I6)),(5,.nat)],[2],δ⟩)],im:=[2]} h_
def IZ(m:Option Nat)(order:List Int)(H:HY)(Q:qU->UU)(X:PX):=letI E:=σ order;∃(V:Nat->qV->HP),(∃(n:Nat),V n (0,()) H)/\∀n x H,V n x H->E<=2^63-1->(x.1<(E:Int)->qK 87 Mc (m,()) H (λ(b:List Int×UT)_ G=>letI F:=IK x.1;letI I:=x.1+1;∃(V1:Nat->List Int×qV->HP),(∃(n:Nat),V1 n (b.1,x.1,()) G)/\∀n1 x1 H,V1 n1 x1 H->σ x1.1<=2^63-1->(x1.2.1<((σ x1.1):Int)->IK x1.2.1->(IK x1.2.1->0<=x1.2.1)/\∃(h:x1.2.1.toNat<σ x1.1),letI O:=σ x1.1;letI P:=x1.2.1.toNat;letI R:=Q (δ,()) () H;∃(h:P<O),F->(F->0<=x.1)/\∃(h1:x.1.toNat<E),letI S:=¬x1.1[P]=order[x.1.toNat];(S->IK x1.2.1->IK (x1.2.1+1)/\∃m,m<n1/\V1 m (x1.1,x1.2.1+1,()) H)/\(¬S->O<=2^63-1->E<=2^63-1->(¬O=E->R)/\(¬¬O=E->O<=2^63-1->(x1.2.1=(O:Int)->R)/\(¬x1.2.1=(O:Int)->∃(V2:Nat->qV->HP),(∃(n:Nat),V2 n (x1.2.1,()) H)/\∀n2 x2 H,V2 n2 x2 H->(x.1<x2.1->IK x2.1->IK (x2.1-1)/\qK 88 Iv (m,x2.1-(1:den Y0.D (Ty.int .i64)),()) H (λ(b:qV)_ G=>(¬b.1=0->Q (δ,()) () G)/\(¬¬b.1=0->IK x2.1->IK (x2.1-1)/\∃m,m<n2/\V2 m (x2.1-1,()) G)) X)/\(¬x.1<x2.1->F->IK I/\∃m,m<n/\V m (I,()) H)))))/\(¬x1.2.1<((σ x1.1):Int)->σ x1.1<=2^63-1->E<=2^63-1->(¬σ x1.1=E->Q (δ,()) () H)/\(¬¬σ x1.1=E->σ x1.1<=2^63-1->(x1.2.1=((σ x1.1):Int)->Q (δ,()) () H)/\(¬x1.2.1=((σ x1.1):Int)->∃(V2:Nat->qV->HP),(∃(n:Nat),V2 n (x1.2.1,()) H)/\∀n2 x2 H,V2 n2 x2 H->(x.1<x2.1->IK x2.1->IK (x2.1-1)/\qK 88 Iv (m,x2.1-(1:den Y0.D (Ty.int .i64)),()) H (λ(b:qV)_ G=>(¬b.1=0->Q (δ,()) () G)/\(¬¬b.1=0->IK x2.1->IK (x2.1-1)/\∃m,m<n2/\V2 m (x2.1-1,()) G)) X)/\(¬x.1<x2.1->F->IK I/\∃m,m<n/\V m (I,()) H))))) X)/\(¬x.1<(E:Int)->Q (τ,()) () H)
def LV(m:Option Nat)(h k:Int)(H:HY)(Q:qU->UU)(X:PX):=∃(V:Nat->List Bool×Nat×UT->HP),(∃(n:Nat),V n ([],0,()) H)/\∀n x H,V n x H->qK 50 Cv (m,()) H (λ(b:qV)_ G=>letI E:=(x.2.1:Int);(E<b.1->qK 51 Ce (k,E,()) G (λ(b:qU)_ G=>(σ x.1+σ [b.1])*1<=2^47/\x.2.1+1<=2^63-1/\∃m,m<n/\V m (x.1++[b.1],x.2.1+1,()) G) X)/\(¬E<b.1->qK 52 No (m,h,x.1,()) G (λ(b:Bool×qV)_ G=>(b.1->Q (φ (b.2.1=0),()) () G)/\(¬b.1->Q (δ,()) () G)) X)) X
def JT(H:HY)(Q:qU->UU)(X:PX):=letI E:={data:={toList:=[(110:UInt8)]:Array UInt8}:ByteArray};qK 11 E0 ({Aa:=[{qJ:=E,Bool:=δ,Lo:=0,Hi:=2:Al}],Order:=[],MH:=[]:B0},()) H (λ(b:Option Nat×Ae×qU)_ G=>(¬b.2.2.1->Q (δ,()) () G)/\(¬¬b.2.2.1->qK 30 Nt (b.1,b.2.1,{Op:=14,N:=0,qJ:={data:={toList:=[]:Array UInt8}:ByteArray},qZ:=[{Op:=3,N:=0,qJ:=E,qZ:=[]:Ab},{Op:=1,N:=1,qJ:={data:={toList:=[]:Array UInt8}:ByteArray},qZ:=[]:Ab}]:Ab},()) G (λ(b1:List Df×qV)_ G=>letI F:=σ b1.1;qK 20 Nr (b.1,b.2.1,δ,()) G (λ(b2:Int×qV)_ G=>letI I:=Q (δ,()) () G;(b1.2.1=0->(b2.2.1=0->F<=2^63-1->(F=3->(True->(0:Int)<=0)/\∃(h:a0 (0:Int)<F),∃(h:a0 (0:Int)<F),letI O:=b1.1[a0 (0:Int)].N=1;(O->(True->(0:Int)<=2)/\∃(h:a0 (2:Int)<F),∃(h:a0 (2:Int)<F),letI P:=b1.1[a0 (2:Int)].N=3;(P->qK 17 BR (b.1,b2.1,(4:den Y0.D (Ty.int .i64)),()) G (λ(b3:qU)_ G=>(b3.1->qK 17 BR (b.1,b2.1,(5:den Y0.D (Ty.int .i64)),()) G (λ(b4:qU)_ G=>(¬b4.1->(True->(0:Int)<=1)/\∃(h:a0 (1:Int)<F),∃(h:a0 (1:Int)<F),qK 17 BR (b.1,b1.1[a0 (1:Int)].H,(1:den Y0.D (Ty.int .i64)),()) G (λ(b:qU)_ G=>Q (b.1,()) () G) X)/\(¬¬b4.1->Q (δ,()) () G)) X)/\(¬b3.1->Q (δ,()) () G)) X)/\(¬P->I))/\(¬O->I))/\(¬F=3->I))/\(¬b2.2.1=0->I))/\(¬b1.2.1=0->I)) X) X)) X
theorem OY H Q X(h_:JT  H Q X):qK 10 Bt (()) H Q X:=wF Tryz.f10 {} h_
def HE(op:Int)(H:HY)(Q:Int×qV->UU)(_:PX):=letI E:=Q (2,2,()) () H;letI F:=Q (0,0,()) () H;letI I:=Q (1,64,()) () H;(op=1->F)/\(¬op=1->(op=2->F)/\(¬op=2->(op=3->F)/\(¬op=3->(op=4->F)/\(¬op=4->(op=5->Q (1,1,()) () H)/\(¬op=5->(op=6->I)/\(¬op=6->(op=7->I)/\(¬op=7->(op=8->E)/\(¬op=8->(op=9->E)/\(¬op=9->(op=10->E)/\(¬op=10->(op=11->E)/\(¬op=11->(op=12->E)/\(¬op=12->(op=13->E)/\(¬op=13->(op=14->E)/\(¬op=14->(op=15->E)/\(¬op=15->(op=16->E)/\(¬op=16->(op=17->E)/\(¬op=17->(op=18->Q (3,3,()) () H)/\(¬op=18->Q ((-1:Int),(-1:Int),()) () H))))))))))))))))))
theorem Aaa op H Q X(h_:HE op H Q X):qK 219 HI (op,()) H Q X:=wF Tryz.f219 {} h_
def Kv(t:Ab)(H:HY)(Q:qV->UU)(X:PX):=letI E:=Ob.st Cc (0:Int);∀(b:Nat),H b=ψ->∀(b1:Nat),Ac H b E b1=ψ->∃(x:Int),letI F:=Ac (Ac H b E) b1 E;F b=ν (Ob.st Cc x)/\∃(x:Int),Ac F b E b1=ν (Ob.st Cc x)/\qK 164 HG (t,(1:den Y0.D (Ty.int .i64)),λ(a:Ab×qV)(H:HY)(Q:qU->HP)(X:Nat->Lf Y0.D->HP)=>qK 165 EA (a.1,a.2.1,ν b1,ν b,()) H (λ(b:qU)(_:UT)(G:HY)=>Q (b.1,()) G) X,()) (Ac (Ac F b E) b1 E) (λ(_:qU)_ G=>∃(x:Int),G b=ν (Ob.st Cc x)/\x=x/\Q (x,()) () G) X
def IC(t:Ab)(deep:Int)(p2 p3:Option Nat)(H:HY)(Q:qU->UU)(X:PX):=∃(b:Nat),p2=ν b/\∃(x:Int),letI E:=Ac H b (Ob.st Cc (x+1));H b=ν (Ob.st Cc x)/\(IK x->IK (x+1)/\(64<deep->∃(b1:Nat),p3=ν b1/\∃(x1:Int),E b1=ν (Ob.st Cc x1)/\Q (φ ((17:Int)=0),()) () (Ac E b1 (Ob.st Cc (17:Int))))/\(¬64<deep->qK 166 Gr (t,()) E (λ(b1:qV)_ G=>letI F:=Ob.st Cc b1.1;letI I:=b1.1=0;∃(b2:Nat),letI O:=Ac G b2 F;p3=ν b2/\∃(x:Int),G b2=ν (Ob.st Cc x)/\(I->∃(x:Int),O b=ν (Ob.st Cc x)/\(4096<x->x=x/\∃(x:Int),O b2=ν (Ob.st Cc x)/\Q (φ ((4:Int)=0),()) () (Ac O b2 (Ob.st Cc (4:Int))))/\(¬4096<x->x=x/\∃(x:Int),O b2=ν (Ob.st Cc x)/\x=x/\Q (φ (x=0),()) () O))/\(¬I->Q (decide I,()) () O)) X))
def NZ(t:Ab)(deep:Int)(L2:Ab×qV->HY->(qU->HP)->PX->Prop)(H:HY)(Q:qU->UU)(X:PX):=letI E:=σ t.qZ;L2 (t,deep,()) H (λ(b:qU)(G:HY)=>(¬b.1->Q (δ,()) () G)/\(¬¬b.1->E<=2^63-1->∃(V:Nat->Nat×UT->HP),(∃(n:Nat),V n (0,()) G)/\∀n x H,V n x H->(x.1<E->x.1<=2^63-1->∃(h:x.1<E),IK deep->IK (deep+1)/\qK 164 HG ({Op:=t.qZ[x.1].Op,N:=t.qZ[x.1].N,qJ:=t.qZ[x.1].qJ,qZ:=t.qZ[x.1].qZ:Ab},deep+(1:den Y0.D (Ty.int .i64)),L2,()) H (λ(b:qU)_ G=>(¬b.1->Q (δ,()) () G)/\(¬¬b.1->x.1+1<=2^63-1/\∃m,m<n/\V m (x.1+1,()) G)) X)/\(¬x.1<E->Q (τ,()) () H))) X
theorem SP t deep L2 H Q X(h_:NZ t deep L2 H Q X):qK 164 HG (t,deep,L2,()) H Q X:=wF Tryz.f164 {lp:=[(4,⟨[(17,.nat)],[1,2,15,16],τ⟩)],im:=[3]} h_
def Gf(t:Ab)(H:HY)(Q:qV->UU)(X:PX):=letI E:=σ t.qZ;letI F:=t.qJ={data:={toList:=[]:Array UInt8}:ByteArray};letI I:=t.qJ.size;letI O:=¬t.Op=4;letI P:=t.N<0;letI R:=t.Op=3;letI S:=t.N<(-255:Int);letI W:=¬24<I;letI Y:=¬¬F;letI B:=255<t.N;letI C:=0<t.N;letI D:=1<t.N;qK 219 HI (t.Op,()) H (λ(b:Int×qV)_ G=>letI K:=Q (3,()) () G;letI A:=E<=2^63-1->((E:Int)<b.1->K)/\(¬(E:Int)<b.1->E<=2^63-1->(b.2.1<(E:Int)->K)/\(¬b.2.1<(E:Int)->Q (0,()) () G));letI L:=Q (12,()) () G;letI J:=(O->(¬F->L)/\(Y->A))/\(¬O->A);letI Z:=(t.Op=4->(F->L)/\(¬F->I<=2^63-1->(24<I->L)/\(W->J)))/\(O->J);letI T:=Q (2,()) () G;letI U:=(F->L)/\(¬F->I<=2^63-1->(24<I->L)/\(W->A));(b.1<0->Q (11,()) () G)/\(¬b.1<0->(t.Op=1->(R->(S->T)/\(¬S->(B->T)/\(¬B->U)))/\(¬R->(S->T)/\(¬S->(B->T)/\(¬B->Z))))/\(¬t.Op=1->(t.Op=2->(R->(P->T)/\(¬P->(D->T)/\(¬D->U)))/\(¬R->(P->T)/\(¬P->(D->T)/\(¬D->Z))))/\(¬t.Op=2->(R->(P->T)/\(¬P->(C->T)/\(¬C->U)))/\(¬R->(P->T)/\(¬P->(C->T)/\(¬C->Z))))))) X
theorem Nc t H Q X(h_:Gf t H Q X):qK 166 Gr (t,()) H Q X:=wF Tryz.f166 {im:=[1]} h_
def Ku(vars:List Al)(H:HY)(Q:List (ByteArray×Int)×UT->UU)(_:PX):=letI E:=σ vars;E<=2^63-1->∃(V:Nat->List (ByteArray×Int)×Nat×UT->Prop),(∃(n:Nat),H=H/\V n ([],0,()))/\∀n x,V n x->(x.2.1<E->x.2.1<=2^63-1->∃(h:x.2.1<E),letI O:=vars[x.2.1].qJ;letI F:=¬(Ag x.1 O).isSome=τ;letI I:=x.2.1+1;(F->I<=2^63-1/\∃m,m<n/\H=H/\V m (C4 x.1 O (x.2.1:Int),I,()))/\(¬F->I<=2^63-1/\∃m,m<n/\H=H/\V m (x.1,I,())))/\(¬x.2.1<E->Q (x.1,()) () H)
def L6(lo hi:Int)(H:HY)(Q:Af×qV->UU)(_:PX):=letI E:=Q ({Bool:=δ,Lo:=0,Hi:=0:Af},2,()) () H;(lo<(-1048576:Int)->E)/\(¬lo<(-1048576:Int)->(1048576<hi->E)/\(¬1048576<hi->(hi<lo->E)/\(¬hi<lo->IK hi->IK lo->IK (hi-lo)/\(4096<hi-lo->E)/\(¬4096<hi-lo->Q ({Bool:=δ,Lo:=lo,Hi:=hi:Af},0,()) () H))))
theorem ZZ lo hi H Q X(h_:L6 lo hi H Q X):qK 220 AL (lo,hi,()) H Q X:=wF Tryz.f220 {} h_
def HD(op:Int)(a b:Af)(H:HY)(Q:Af×qV->UU)(X:PX):=letI E:=λ(b:Af×qV)_ G=>Q (b.1,b.2.1,()) () G;letI F:=-b.Lo;letI I:=-b.Hi;letI O:=IK a.Hi;letI P:=IK a.Lo;letI R:=[(.i64,a.Lo*b.Hi),(.i64,a.Hi*b.Lo),(.i64,a.Hi*b.Hi)];letI S:=[(.i64,a.Lo*F),(.i64,a.Hi*I),(.i64,a.Hi*F)];letI W:=IK b.Hi;letI Y:=IK b.Lo;letI B:=IK I;letI C:=IK F;letI D:=a.Lo*b.Lo;(op=15->W->B/\(Y->C/\((14:Int)=14->P->B->IK (a.Lo+I)/\(O->C->IK (a.Hi+F)/\qK 220 AL (a.Lo+I,a.Hi+F,()) H E X))/\(¬(14:Int)=14->P->B->IK (a.Lo*I)/\(P->C->IK (a.Lo*F)/\(O->B->IK (a.Hi*I)/\(O->C->IK (a.Hi*F)/\qK 220 AL (KL δ (a.Lo*I) S,KL τ (a.Lo*I) S,()) H E X))))))/\(¬op=15->(op=14->P->Y->IK (a.Lo+b.Lo)/\(O->W->IK (a.Hi+b.Hi)/\qK 220 AL (a.Lo+b.Lo,a.Hi+b.Hi,()) H E X))/\(¬op=14->P->Y->IK D/\(P->W->IK (a.Lo*b.Hi)/\(O->Y->IK (a.Hi*b.Lo)/\(O->W->IK (a.Hi*b.Hi)/\qK 220 AL (KL δ D R,KL τ D R,()) H E X)))))
theorem Ux op a b H Q X(h_:HD op a b H Q X):qK 222 Fo (op,a,b,()) H Q X:=wF Tryz.f222 {im:=[4]} h_
def ED(vars:List Al)(at_:List (ByteArray×Int))(t:Ab)(EK:Bool)(l:List Af)(H:HY)(Q:Af×qV->List (ByteArray×Int)×UT->HP)(X:PX):=letI F:=λ(b:Af×qV)_ G=>Q (b.1,b.2.1,()) (at_,()) G;letI I:=(Ag at_ t.qJ).getD 0;letI R:=Q ({Bool:=τ,Lo:=0,Hi:=0:Af},0,()) (at_,()) H;letI A:=IK I;letI E:=A->(A->0<=I)/\∃(h:I.toNat<σ vars),(vars[I.toNat].Bool->R)/\(¬vars[I.toNat].Bool->A->(A->0<=I)/\∃(h:I.toNat<σ vars),A->(A->0<=I)/\∃(h1:I.toNat<σ vars),qK 220 AL (vars[I.toNat].Lo,vars[I.toNat].Hi,()) H F X);letI C:={Bool:=δ,Lo:=0,Hi:=0:Af};letI S:=Q (C,13,()) (at_,()) H;letI Y:=a0 (1:Int);letI B:=True->(0:Int)<=1;letI O:=(True->(0:Int)<=0)/\∃(h:a0 (0:Int)<σ l),B/\∃(h1:Y<σ l),((!φ (l[a0 (0:Int)].Bool=τ)==φ (l[Y].Bool=τ))->S)/\(¬(!φ (l[a0 (0:Int)].Bool=τ)==φ (l[Y].Bool=τ))->R);letI P:=(¬(Ag at_ t.qJ).isSome->Q (C,12,()) (at_,()) H)/\(¬¬(Ag at_ t.qJ).isSome->(t.Op=4->(¬EK->Q (C,24,()) (at_,()) H)/\(¬¬EK->E))/\(¬t.Op=4->E));letI W:=qK 221 Jp (l,()) H F X;(t.Op=1->qK 220 AL (t.N,t.N,()) H F X)/\(¬t.Op=1->(t.Op=2->R)/\(¬t.Op=2->(t.Op=3->P)/\(¬t.Op=3->(t.Op=4->P)/\(¬t.Op=4->(t.Op=5->W)/\(¬t.Op=5->(t.Op=6->W)/\(¬t.Op=6->(t.Op=7->W)/\(¬t.Op=7->(t.Op=8->W)/\(¬t.Op=8->(t.Op=9->W)/\(¬t.Op=9->(t.Op=18->(True->(0:Int)<=0)/\∃(h:a0 (0:Int)<σ l),letI Z:=a0 (2:Int);letI U:=¬l[a0 (0:Int)].Bool=τ;letI L:=True->(0:Int)<=2;(U->S)/\(¬U->B/\∃(h:(Y<σ l)),letI J:=φ (l[Y].Bool=τ);L/\∃(h1:Z<σ l),letI K:=(!J==φ (l[Z].Bool=τ))=τ;(K->S)/\(¬K->B/\∃(h:(Y<σ l)),(l[Y].Bool->B/\∃(h:(Y<σ l)),Q (l[Y],0,()) (at_,()) H)/\(¬l[Y].Bool->B/\∃(h:(Y<σ l)),L/\∃(h2:Z<σ l),B/\∃(h3:(Y<σ l)),L/\∃(h4:Z<σ l),qK 220 AL (KL δ l[Y].Lo [(.i64,l[Z].Lo)],KL τ l[Y].Hi [(.i64,l[Z].Hi)],()) H F X))))/\(¬t.Op=18->(t.Op=10->O)/\(¬t.Op=10->(t.Op=11->O)/\(¬t.Op=11->(True->(0:Int)<=0)/\∃(h:a0 (0:Int)<σ l),(l[a0 (0:Int)].Bool->S)/\(¬l[a0 (0:Int)].Bool->B/\∃(h:Y<σ l),(l[Y].Bool->S)/\(¬l[Y].Bool->(t.Op=12->R)/\(¬t.Op=12->(t.Op=13->R)/\(¬t.Op=13->(t.Op=17->B/\∃(h:Y<σ t.qZ),(¬t.qZ[Y].Op=1->Q (C,2,()) (at_,()) H)/\(¬¬t.qZ[Y].Op=1->(t.qZ[Y].N<1->Q (C,2,()) (at_,()) H)/\(¬t.qZ[Y].N<1->B/\∃(h:Y<σ t.qZ),IK t.qZ[Y].N->IK (t.qZ[Y].N-1)/\qK 220 AL ((0:den Y0.D (Ty.int .i64)),t.qZ[Y].N-(1:den Y0.D (Ty.int .i64)),()) H F X)))/\(¬t.Op=17->(True->(0:Int)<=0)/\∃(h:a0 (0:Int)<σ l),B/\∃(h1:Y<σ l),qK 222 Fo (t.Op,l[a0 (0:Int)],l[Y],()) H F X)))))))))))))))))
def L7(vars:List Al)(t:Ab)(EK:Bool)(H:HY)(Q:Af×qV->UU)(X:PX):=qK 90 Gr (t,()) H (λ(b:qV)_ G=>(¬b.1=0->Q ({Bool:=δ,Lo:=0,Hi:=0:Af},b.1,()) () G)/\(¬¬b.1=0->qK 92 Ky (vars,()) G (λ(b:List (ByteArray×Int)×UT)_ G=>qK 91 Gg (vars,b.1,t,EK,()) G (λ(b:Af×qV)(_:List (ByteArray×Int)×UT)(G:HY)=>Q (b.1,b.2.1,()) () G) X) X)) X
def Kt(vars:List Al)(at_:List (ByteArray×Int))(t:Ab)(EK:Bool)(H:HY)(Q:Af×qV->List (ByteArray×Int)×UT->HP)(X:PX):=letI E:=σ t.qZ;E<=2^63-1->∃(V:Nat->List (ByteArray×Int)×(Bool×Int×qV)×List Af×Nat×UT->Prop),(∃(n:Nat),H=H/\V n (at_,(δ,0,0,()),[],0,()))/\∀n x,V n x->(x.2.2.2.1<E->x.2.2.2.1<=2^63-1->∃(h:x.2.2.2.1<E),qK 91 Gg (vars,x.1,{Op:=t.qZ[x.2.2.2.1].Op,N:=t.qZ[x.2.2.2.1].N,qJ:=t.qZ[x.2.2.2.1].qJ,qZ:=t.qZ[x.2.2.2.1].qZ:Ab},EK,()) H (λ(b:Af×qV)(io:List (ByteArray×Int)×UT)(G:HY)=>(¬b.2.1=0->Q ({Bool:=δ,Lo:=0,Hi:=0:Af},b.2.1,()) (io.1,()) G)/\(¬¬b.2.1=0->(σ x.2.2.1+σ [b.1])*24<=2^47/\x.2.2.2.1+1<=2^63-1/\∃m,m<n/\G=H/\V m (io.1,(x.2.1.1,x.2.1.2.1,x.2.1.2.2.1,()),x.2.2.1++[b.1],x.2.2.2.1+1,()))) X)/\(¬x.2.2.2.1<E->qK 167 F5 (vars,x.1,t,EK,x.2.2.1,()) H (λ(b:Af×qV)(io:List (ByteArray×Int)×UT)(G:HY)=>Q (b.1,b.2.1,()) (io.1,()) G) X)
theorem Nf vars at_ t EK H Q X(h_:Kt vars at_ t EK H Q X):qK 91 Gg (vars,at_,t,EK,()) H Q X:=wF Tryz.f91 {lp:=[(3,⟨[(1,.map .str I6),(8,.blk [.dat .bool,.dat I6,.dat I6]),(10,.one (.own (.u 5))),(18,.nat)],[0,1,3,6,16,17],δ⟩)],im:=[6]} h_
end
section
variable {M:Mn}
theorem Alz(h:MI M)(u:∀i d,M.T i=ν d->0<Gd M.S.cn i)(r:∀p∈M.hs,p.2/2=0):∀i,M.T i=ψ:=by
 have c:∀{m:List (Int×Int)}{i:Int},(∀p∈m,p.2/2=0)->i≠0->Mo m i=0:=by
  intro m i g D;induction m with
  |nil=>rfl
  |cons p m l=>
   have z:=g p ay;have:B.dl p.2 i=0:=GT (by omega);grind[Mo]
 have o:∀(k:Nat)(i:Int)(d:B.Nd),M.T i=ν d->M.lv d.v<k->False:=by
  intro k;induction k with
  |zero=>
   intro i d b n;have:=(h.si.BN.od.N7 d.v (h.si.BN.var b).2.1 (h.si.BN.var b).2.2).1;grind
  |succ k l=>
   intro i d b n;have C:=u i d b;have A:=h.si.sc.cn.eq b;have x:=(h.si.BN.var b).1;have v:=h.rf i (by omega);rw[c r (by omega)]at v;obtain⟨p,y,s,a⟩:=B.Af9 (show 0<B.sm (σ M.S.po.at_) (B.pt (Ax M.S.po) (Gd M.S.cn) i) by omega);unfold B.pt at a;split at a
   .rename_i j f;split at a
    .have g:j.lo/2=i∨j.hi/2=i:=by grind[B.mu,B.dl]
     have w:M.lv j.v<M.lv d.v:=by
      rcases g with e|e
      .have:=(h.si.BN.lo f).2;grind[B.el]
      .have:=(h.si.BN.hi f).2;grind[B.el]
     grind
    .omega
   .omega
 intro i;cases e:M.T i with
 |none=>rfl
 |some d=>
  have:=(h.si.BN.od.N7 d.v (h.si.BN.var e).2.1 (h.si.BN.var e).2.2).2;have:M.lv d.v<M.S.n:=this;exact(o (M.S.n.toNat+1) i d e (by omega)).elim
theorem Abi{b:Nat}{H:HY}{X:PX}{Q:List Int×Unit->UU}(c:JI H b M)(a:MI M)(h:Q (M.S.lv.vars,()) () H):qK 87 Mc (ν b,()) H Q X:=by refine wF Tryz.f87 {} (?_:((ν b)=ψ->Q ([],()) () H)/\(¬(ν b)=ψ->∃(a:Nat),(ν b)=ν a/\∃(x:Be),H a=ν (Ob.st CW x)/\x=x/\qK 161 Mc (x.store,()) H (λ(a:List Int×UT)_ G=>Q (a.1,()) () G) X));have d:=a.si.BN.od.n64;refine⟨λh=>qG h (by simp),λ_=>⟨b,rfl,M.ob,c.ob,rfl,?_⟩⟩;show qK 161 Mc (ν M.sb,()) H _ X;exact Pt c.st (by rw[a.si.vl];grind[B9.n]) h
theorem Ad6{b:Nat}{g:Int}{F:B.Fn}{l:List Bool}{H:HY}{X:PX}{Q:Bool×Int×Unit->UU}(K:JI H b M)(q:MI M)(hg:M.Ar g=ν F)(hl:σ l=M.S.n.toNat)(h:Q (F λv=>l.getD v.toNat δ,0,()) () H):qK 52 No (ν b,g,l,()) H Q X:=by
 refine wF Tryz.f52 {lp:=[(6,⟨[(8,.one (.dat I6))],[0,2],τ⟩)]} (?_:RC (ν b) g l H Q X);unfold RC;obtain⟨e,T,Z⟩:=Mn.Gj hg;have y:Ag M.ob.BF g=ν e:=T;have I:=@B9.Lm M.S;refine⟨λh=>qG h (by simp),λ_=>⟨b,rfl,M.ob,K.ob,λG=>qG (by rw[y];rfl) G,λ_=>⟨rfl,?_⟩⟩⟩;rw[y,an];generalize ha:(λv:Int=>l.getD v.toNat δ)=a at h;have J:=(q.ok g e T).1;have h64:=q.si.BN.od.n64;have w:=q.si.BN.od.N7;refine⟨λn z E=>E=H/\B.Ok (Ax M.S.po) z.1/\B.den (Ax M.S.po) z.1 a=F a/\n=(M.S.n-B.el M.S.n (DW M.S.lv) (Ax M.S.po) z.1).toNat,⟨_,rfl,J,by rw[Z],rfl⟩,?_⟩;rintro n ⟨f,_⟩ E ⟨rfl,C,x,s⟩;have S:B.Ok (Ax M.S.po) f:=C;have V:B.den (Ax M.S.po) f a=F a:=x;have G:n=(M.S.n-B.el M.S.n (DW M.S.lv) (Ax M.S.po) f).toNat:=s;have P:0<=f:=S.1;have m:=K6 P;refine⟨λk=>?_,λk=>?_⟩
 .have k:¬φ (FM f=0)=τ:=k;rw[m,decide_eq_true_iff]at k;refine⟨M.ob,K.ob,rfl,?_⟩;show qK 122 D4 (ν M.sb,f,()) E _ X;refine MO K.st q.si.sc.po S (λh=>qG h k) λd _ i _=>?_;have L:=q.si.BN.var i;have j:=q.si.BN.lo i;have o:=q.si.BN.hi i;have u:B.el M.S.n (DW M.S.lv) (Ax M.S.po) f=(DW M.S.lv) d.v:=by unfold B.el;rw[GT k,show Ax M.S.po (f/2)=ν d from i]
  have hr:=w d.v L.2.1 L.2.2;have r:∀{c:Int},B.Ok (Ax M.S.po) c->(DW M.S.lv) d.v<B.el M.S.n (DW M.S.lv) (Ax M.S.po) c->B.el M.S.n (DW M.S.lv) (Ax M.S.po) (B.fl c f)=B.el M.S.n (DW M.S.lv) (Ax M.S.po) c:=λ{c}D _=>by
   unfold B.el;have:B.fl c f/2=c/2:=by
    unfold B.fl B.flip;split
    .split<;>omega
    .rfl
   rw[this]
  have t:∀{c:Int},B.Ok (Ax M.S.po) c->(if a d.v=τ then d.hi else d.lo)=c->B.den (Ax M.S.po) (B.fl c f) a=F a:=λ{c}D R=>by
   rw[<-V,B.Kn D];have Y:=q.si.BN.JC I (e:=f) k i a;rw[Y,<-R];have:(if a d.v=τ then B.den (Ax M.S.po) d.hi a else B.den (Ax M.S.po) d.lo a)=B.den (Ax M.S.po) (if a d.v=τ then d.hi else d.lo) a:=by split<;>rfl
   rw[this,Bool.xor_comm]
  have N:d.v<(σ l:Int):=by omega
  have A:a d.v=l[d.v.toNat]'(by omega):=by rw[<-ha];show l.getD d.v.toNat δ=_;rw[List.getD_eq_getElem?_getD,a5 (by omega)];rfl
  refine⟨λ_ _=>⟨λ_=>L.2.1,by omega,λp=>?_,λp=>?_⟩,λO=>qG N O⟩
  .have p:l[d.v.toNat]'(by omega)=τ:=p;rw[<-A]at p;refine⟨_,?_,rfl,o.1.fl,t o.1 (UV p),rfl⟩;rw[G,u];have:=r o.1 o.2;show (M.S.n-B.el M.S.n (DW M.S.lv) (Ax M.S.po) (B.fl d.hi f)).toNat<_;have U:(DW M.S.lv) d.v<B.el M.S.n (DW M.S.lv) (Ax M.S.po) d.hi:=o.2;rw[this];omega
  .have p:¬l[d.v.toNat]'(by omega)=τ:=p;rw[<-A]at p;refine⟨_,?_,rfl,j.1.fl,t j.1 (GT p),rfl⟩;grind
 .have k:¬¬φ (FM f=0)=τ:=k;rw[m,a7,decide_eq_true_iff]at k;have:φ (f=0)=F a:=by rw[<-V,B.NL k];grind
  grind
end
section
def Sc(n:Nat):List Int:=(am n).map λ(k:Nat)=>(k:Int)
variable {n:Nat}
theorem Oo{x:Int}:x∈Sc n↔0<=x/\x<n:=by unfold Sc;rw[b8];refine⟨λ⟨k,a,e⟩=>?_,λh=>⟨x.toNat,aw.2 (by omega),by omega⟩⟩;grind
theorem Zm:(Sc n).Nodup:=List.Pairwise.map _ (λa b h e=>h (by omega)) (List.nodup_range (n:=n))
theorem Oq:σ (Sc n)=n:=by grind[Sc]
theorem P8:∀{R l:List Int},R.Nodup->(∀x∈R,x∈l)->σ R=σ l->R.Perm l
 | [],l,_,_,a=>by have:l=[]:=az.1 a.symm;rw[this]
 |r::R,l,h,c,a=>by
  obtain⟨f,d⟩:=List.nodup_cons.1 h;have g:=c r ay;have p:=List.perm_cons_erase g;have i:=p.length_eq;refine(List.Perm.cons r (P8 d (λx b=>?_) ?_)).trans p.symm
  .exact(List.mem_erase_of_ne λe:x=r=>f (by rw[<-e];exact b)).2 (c x (bc _ b))
  .simp only[ae]at a i;omega
structure Afl(l:List Int)(n:Nat):Prop where
 ln:σ l=n
 nd:l.Nodup
 rg:∀x∈l,0<=x/\x<n
variable {H:HY} {X:PX}
theorem WQ{l:List Int}{Q:Bool×Unit->UU}(M:n<=1000)(h:∀t:Bool,(t=τ->Afl l n)->Q (t,()) () H):qK 35 Ey (l,(n:Int),()) H Q X:=by
 refine wF Tryz.f35 {lp:=[(8,⟨[(6,.nat),(7,.nat)],[0,1,5],δ⟩),(4,⟨[(5,.nat)],[0,1],δ⟩)]} (?_:JS l (n:Int) H Q X);unfold JS;have E:Q (δ,()) () H:=h δ λe=>qG e (by decide);refine λ_=>⟨λ_=>E,λA=>?_⟩
 have A:σ l=n:=by omega
 refine⟨λm z=>m=n-z.1/\z.1<=n/\∀v:Nat,v<z.1->l.count (v:Int)=1,⟨_,rfl,rfl,a6 _,λv D=>qG D (a8 _)⟩,?_⟩;rintro m ⟨v,_⟩ ⟨g,j,o⟩;have G:m=n-v:=g;have D:v<=n:=j;have C:∀u:Nat,u<v->l.count (u:Int)=1:=o;refine⟨λa=>?_,λa=>?_⟩
 .have a:(v:Int)<(n:Int):=a;refine⟨λm z=>m=n-z.2.1/\z.2.1<=n/\z.1=(l.take z.2.1).count (v:Int),⟨_,rfl,rfl,a6 _,by simp⟩,?_⟩;rintro J ⟨k,i,_⟩ ⟨c,s,w⟩;have I:J=n-i:=c;have L:i<=n:=s;have r:k=(l.take i).count (v:Int):=w;have K:k<=i:=by grind[Nat.le_trans,List.count_le_length,ao]
  refine⟨λb _=>?_,λb=>⟨λ_=>E,λd=>?_⟩⟩
  .have b:(i:Int)<(n:Int):=b;have q:i<σ l:=by omega
   have F:l.take (i+1)=l.take i++[l[i]]:=aa q;refine⟨q,λf=>⟨by grind,by grind,n-(i+1),by omega,rfl,rfl,by grind,?_⟩,λf=>⟨by grind,n-(i+1),by omega,rfl,rfl,by grind,?_⟩⟩;all_goals grind
  .have b:¬(i:Int)<(n:Int):=b;have d:k=1:=a7.1 d;rw[af (by omega)]at r;refine⟨by omega,n-(v+1),by omega,rfl,rfl,by omega,λu B=>?_⟩;grind
 .have a:¬(v:Int)<(n:Int):=a;have:v=n:=by omega
  subst this;refine h τ λ_=>?_;have p:(Sc v).Perm l:=P8 Zm (λx y=>?_) (by rw[Oq,A])
  .exact⟨A,(p.nodup_iff).1 Zm,λx y=>Oo.1 (p.mem_iff.2 y)⟩
  .have y:=Oo.1 y;have:=C x.toNat (by omega);grind
def Asd(n:Int)(l:List BQ):Prop:=∀i(h:i<σ l),1<=l[i].Kind/\l[i].Kind<=3/\1<=l[i].IB/\(l[i].Kind=2->0<=l[i].Level/\l[i].Level<=n-2)
theorem Ru{n:Int}{l:List BQ}{Q:Int×Unit->UU}(y:0<=n/\n<=1000)(h:∀e:Int,(e=0->Asd n l)->Q (e,()) () H):qK 36 EF (n,0,l,()) H Q X:=by
 refine wF Tryz.f36 {lp:=[(4,⟨[(7,.nat)],[0,2],δ⟩)]} (?_:letI E:=Q (2,()) () H;letI F:=Q (11,()) () H;letI I:=256-0;σ l<=2^63-1->IK 0->IK I/\(I<((σ l):Int)->Q (18,()) () H)/\(¬I<((σ l):Int)->∃(V:Nat->Nat×UT->Prop),(∃(a:Nat),H=H/\V a (0,()))/\∀a x,V a x->σ l<=2^63-1->(x.1<σ l->x.1<=2^63-1->∃(h:x.1<σ l),letI O:=x.1+1<=2^63-1/\∃m,m<a/\H=H/\V m (x.1+1,());letI R:=x.1<=2^63-1;(l[x.1].Kind<1->F)/\(¬l[x.1].Kind<1->R->∃(h:(x.1<σ l)),(3<l[x.1].Kind->F)/\(¬3<l[x.1].Kind->R->∃(h:(x.1<σ l)),(l[x.1].IB<1->E)/\(¬l[x.1].IB<1->R->∃(h:(x.1<σ l)),(l[x.1].Kind=2->R->∃(h:(x.1<σ l)),(l[x.1].Level<0->E)/\(¬l[x.1].Level<0->R->∃(h:(x.1<σ l)),letI S:=n-2<l[x.1].Level;IK n->IK (n-2)/\(S->E)/\(¬S->O)))/\(¬l[x.1].Kind=2->O)))))/\(¬x.1<σ l->Q (0,()) () H)));have c:∀{e:Int},e≠0->Q (e,()) () H:=λx=>h _ λe=>qG e x;refine λ_ _=>⟨Aq.2 (by omega),λ_=>c (by decide),λ_=>⟨λm z=>m=σ l-z.1/\z.1<=σ l/\∀i(h:i<σ l),i<z.1->1<=l[i].Kind/\l[i].Kind<=3/\1<=l[i].IB/\(l[i].Kind=2->0<=l[i].Level/\l[i].Level<=n-2),⟨_,rfl,rfl,a6 _,λi _ d=>qG d (a8 _)⟩,?_⟩⟩
 rintro m ⟨k,_⟩ ⟨j,f,g⟩;have A:m=σ l-k:=j;have B:k<=σ l:=f;have t:∀i(h:i<σ l),i<k->1<=l[i].Kind/\l[i].Kind<=3/\1<=l[i].IB/\(l[i].Kind=2->0<=l[i].Level/\l[i].Level<=n-2):=g;refine λ_=>⟨λa _=>?_,λa=>?_⟩
 .have a:k<σ l:=a;have s:1<=l[k].Kind/\l[k].Kind<=3/\1<=l[k].IB/\(l[k].Kind=2->0<=l[k].Level/\l[k].Level<=n-2)->k+1<=9223372036854775807/\∃q,q<m/\H=H/\q=σ l-(k+1)/\k+1<=σ l/\∀i(h:i<σ l),i<k+1->1<=l[i].Kind/\l[i].Kind<=3/\1<=l[i].IB/\(l[i].Kind=2->0<=l[i].Level/\l[i].Level<=n-2):=λb=>⟨by omega,σ l-(k+1),by omega,rfl,rfl,by omega,λi d w=>by grind⟩
  refine⟨a,λ_=>c (by decide),λb _=>⟨a,λ_=>c (by decide),λp _=>⟨a,λ_=>c (by decide),λo _=>⟨a,λr _=>⟨a,λ_=>c (by decide),λv _=>⟨a,λ_=>⟨Aq.2 (by omega),λ_=>c (by decide),λu=>s ?_⟩⟩⟩,λr=>s ?_⟩⟩⟩⟩;all_goals grind
 .have a:¬k<σ l:=a;exact h 0 λ_ i d=>t i d (by omega)
theorem Ad4{b:Nat}{M:Mn}{l:List BQ}{Q:Int×Unit->UU}(o:JI H b M)(s:MI M)(B:σ l<=6)(D:σ M.ws<=100)(u:Asd M.S.n l)(h:∀M':Mn,M'={M with ws:=M.ws++l,ca:=M'.ca}->Q (0,()) () (Ac H b (.st CW M'.ob))):qK 39 Nl (ν b,l,()) H Q X:=by
 refine wF Tryz.f39 {lp:=[(6,⟨[(20,.nat)],[0,1,18,19],τ⟩)]} (?_:RA (ν b) l H Q X);unfold RA;have A:=@B9.Lm M.S;have v:=s.si.BN.od.n64;refine⟨λh=>qG h (by simp),λ_ _=>⟨b,rfl,M.ob,o.ob,λ_ _=>⟨Aq.2 (by omega),λg=>?_,λ_ _=>⟨rfl,λm z c=>c=H/\m=σ l-z.1/\z.1<=σ l,⟨_,rfl,rfl,a6 _⟩,?_⟩⟩⟩⟩
 .have g:256-(σ M.ws:Int)<(σ l:Int):=g;omega
 rintro m ⟨k,_⟩ c ⟨rfl,f,i⟩;have F:m=σ l-k:=f;have x:k<=σ l:=i;refine⟨λa _=>?_,λa=>⟨M.ob,o.ob,λ_=>⟨λw=>⟨?_,h {M with ws:=M.ws++l,ca:=0} rfl⟩,λw=>⟨?_,h {M with ws:=M.ws++l,ca:=M.ca} rfl⟩⟩⟩⟩
 .have a:k<σ l:=a;obtain⟨C,E,y,t⟩:=u k a;have p:k+1<=9223372036854775807/\∃j,j<m/\c=c/\j=σ l-(k+1)/\k+1<=σ l:=⟨by omega,σ l-(k+1),by omega,rfl,rfl,by omega⟩
  have r:∀(_:l[k].Kind=2),qK 50 Cv (ν b,()) c (λ(n:Int×Unit)(_:Unit)(d:HY)=>Bl .i64 n.1->Bl .i64 (n.1-1)/\(n.1-(1:Int)<=l[k].Level->Q (2,()) () d)/\(¬n.1-(1:Int)<=l[k].Level->k+1<=9223372036854775807/\∃j,j<m/\d=c/\j=σ l-(k+1)/\k+1<=σ l)) X:=λe=>MS o s λ_=>⟨Aq.2 (by omega),λq=>by omega,λ_=>p⟩
  grind
 all_goals omega
end
structure ArS(b:Nat)(M0:Mn)(H0:HY)(M:Mn)(H:HY):Prop where
 mn:JI H b M
 mi:MI M
 mv:MV M
 t:∀i,M.T i=ψ
 kp:Kp M0 M
 ws:M.ws=M0.ws
 fr:JG b M0 H0 H
theorem ArS.swap{b:Nat}{M0 M:Mn}{H0 H:HY}{level:Int}{X:PX}{Q:Int×Unit->UU}(s:ArS b M0 H0 M H)(u:∀p∈M0.hs,p.2/2=0)(j:M0.nx<576460752303423488)(q:0<=level)(l:level<M.S.n-1)(h:∀M' H'(x y:Int),ArS b M0 H0 M' H'->M.S.lv.vars[level.toNat]?=ν x->M.S.lv.vars[level.toNat+1]?=ν y->M'.S.lv.vars=(M.S.lv.vars.set level.toNat y).set (level.toNat+1) x->Q (0,()) () H'):qK 88 Iv (ν b,level,()) H Q X:=by refine Ad2 s.mn s.mi s.mv.me (by rw[s.kp.nx];exact j) (λn=>qG ⟨q,l⟩ n) (λ_ _⟨i,d,w⟩=>qG w (by rw[s.t i];simp)) λM' H' x y _ _ o m v e g c r k t a=>?_;refine h M' H' x y ⟨v,e,g,Alz e a λp f=>u p (by rw[<-s.kp.hs,<-c.hs];exact f),s.kp.trans c,r.trans s.ws,s.fr.trans k s.kp.bs⟩ o m (by rw[t];rfl)
theorem MI.perm{M:Mn}(h:MI M):M.S.lv.vars.Perm (Sc M.S.n.toNat):=by
 have c:σ M.S.lv.vars=M.S.n.toNat:=by rw[h.si.vl];rfl
 have l:=@B9.Lm M.S;refine P8 ?_ (λx g=>?_) (by rw[Oq,c])
 .refine List.pairwise_iff_getElem.2 λi j a d f e=>?_;have b:=(h.si.inv i _ (a5 a)).2.2;have k:=(h.si.inv j _ (a5 d)).2.2;grind
 .obtain⟨i,a,rfl⟩:=ah.1 g;have b:=h.si.inv i _ (a5 a);grind[Oo]
theorem Ahn{b:Nat}{M0:Mn}{order:List Int}{H0:HY}{X:PX}{Q:Bool×Unit->UU}(s0:ArS b M0 H0 M0 H0)(hc:∀p∈M0.hs,p.2/2=0)(P:M0.nx<576460752303423488)(ho:order=[]∨Afl order M0.S.n.toNat)(h:∀M' H',ArS b M0 H0 M' H'->Q (τ,()) () H'):qK 38 Fm (ν b,order,()) H0 Q X:=by
 refine wF Tryz.f38 {lp:=[(10,⟨[(7,.one (.dat I6))],[0,1,5],τ⟩),(6,⟨[(6,.one (.own I6)),(7,.one (.dat I6))],[0,1,5,6],τ⟩),(2,⟨[(5,.one (.dat I6))],[0,1],τ⟩)]} (?_:IZ (ν b) order H0 Q X);unfold IZ;have hn0:=@B9.Lm M0.S;have h64:=s0.mi.si.BN.od.n64;have hol:σ order<=M0.S.n.toNat:=by
  rcases ho with e|e
  .grind
  .rw[e.ln];omega
 refine⟨λm z H=>∃i:Nat,z.1=(i:Int)/\m=σ order-i/\i<=σ order/\∃M,ArS b M0 H0 M H/\∀k,k<i->M.S.lv.vars[k]?=order[k]?,⟨_,0,rfl,rfl,a6 _,M0,s0,λk r=>qG r (a8 _)⟩,?_⟩;rintro m ⟨xi,_⟩ H ⟨i,T,hm,hi,M,s,o⟩;have Z:xi=(i:Int):=T;subst Z;have ti:((i:Int)).toNat=i:=by omega
 refine λ_=>⟨λt=>?_,λt=>h M H s⟩
 have t:(i:Int)<(σ order:Int):=t;have n:i<σ order:=by omega
 have f:Afl order M0.S.n.toNat:=ho.elim (λe=>by grind) id;have D:M.S.n=M0.S.n:=s.kp.n;have J:σ M.S.lv.vars=σ order:=by rw[s.mi.perm.length_eq,Oq,D,f.ln]
 refine Abi s.mn s.mi ⟨λm2 z H'=>H'=H/\z.1=M.S.lv.vars/\∃a:Nat,z.2.1=(a:Int)/\m2=σ M.S.lv.vars-a/\i<=a/\a<=σ M.S.lv.vars/\∀k(r:k<σ M.S.lv.vars),i<=k->k<a->M.S.lv.vars[k]≠order[i],⟨_,rfl,rfl,i,rfl,rfl,ba _,by omega,λk _ v h2=>by omega⟩,?_⟩;rintro m2 ⟨L,xa,_⟩ H' ⟨U,g,a,I,hm2,S,hal,C⟩;have U:H'=H:=U;have g:L=M.S.lv.vars:=g;have K:xa=(a:Int):=I;subst U g K;have ta:((a:Int)).toNat=a:=by omega
 have p1:Bl .i64 (i:Int)->(0:Int)<=(i:Int):=λ_=>by omega
 have u:∃p,∃E:p<σ M.S.lv.vars,M.S.lv.vars[p]=order[i]:=by
  have:order[i]∈M.S.lv.vars:=by refine s.mi.perm.mem_iff.2 (Oo.2 ?_);rw[D];exact f.rg _ (ap n)
  grind[ah]
 obtain⟨p,E,B⟩:=u;have R:i<=p:=by refine a9 λc=>?_;have v:=o p (by omega);rw[a5 E,a5 (by omega),B]at v;have v:=ai v;have:=(List.getElem_inj f.nd).1 v;omega
 refine λ_=>⟨λc _=>?_,λc=>?_⟩
 .have c:(a:Int)<(σ M.S.lv.vars:Int):=c;have O:a<σ M.S.lv.vars:=by omega
  refine⟨λ_=>by omega,by omega,by omega,λ_=>⟨p1,by omega,λl _=>⟨Aq.2 (by omega),σ M.S.lv.vars-(a+1),by omega,rfl,rfl,a+1,by rfl,rfl,by omega,by omega,λk r v h2=>?_⟩,λd _ _=>⟨λhl=>qG J hl,λ_ _=>⟨λhe=>?_,λ_=>?_⟩⟩⟩⟩
  .grind
  .omega
  .have d:¬¬M.S.lv.vars[((a:Int)).toNat]'(by omega)=order[((i:Int)).toNat]'(by omega):=d;simp only[ta,ti]at d;have d:=a7.1 d;refine⟨λm3 z H=>∃q:Nat,z.1=(q:Int)/\m3=q/\i<=q/\q<σ order/\∃M',ArS b M0 H0 M' H/\M'.S.lv.vars[q]?=order[i]?/\∀k,k<i->M'.S.lv.vars[k]?=order[k]?,⟨_,a,rfl,rfl,S,by omega,M,s,by rw[a5 O,d,a5 n],o⟩,?_⟩;rintro m3 ⟨xq,_⟩ H3 ⟨q,Y,hm3,hiq,hqo,W,G,A,j⟩;have N:xq=(q:Int):=Y;subst N;have F:W.S.n=M0.S.n:=G.kp.n;have hvl3:σ W.S.lv.vars=σ order:=by rw[G.mi.perm.length_eq,Oq,F,f.ln]
   have oln:=f.ln;refine⟨λc _=>⟨Aq.2 (by omega),?_⟩,λc _=>⟨Aq.2 (by omega),σ order-(i+1),by omega,i+1,by rfl,rfl,by omega,W,G,λk r=>?_⟩⟩
   .have c:(i:Int)<(q:Int):=c;have tq:((q:Int)-1).toNat=q-1:=by omega
    refine G.swap hc P (level:=(q:Int)-1) (by omega) (by omega) λM4 H4 x y s4 e1 V w=>⟨λhh=>qG rfl hh,λ_ _=>⟨Aq.2 (by omega),q-1,by omega,q-1,by omega,rfl,by omega,by omega,M4,s4,?_,λk r=>?_⟩⟩
    .rw[tq]at V w;rw[show q-1+1=q by omega]at V w;rw[w,aq (by omega),List.getElem?_set_self (by omega),<-V,A]
    .rw[tq]at w;rw[w,aq (by omega),aq (by omega)];simp_all
   grind
 grind
section
structure Arv(v:Al):Prop where
 nm:Ar5 v.qJ
 bo:v.Bool=τ->v.Lo=0/\v.Hi=0
 nu:v.Bool=δ->v.Lo<=v.Hi/\-255<=v.Lo/\v.Hi<=255/\v.Hi-v.Lo<64
structure NP(l:List Al):Prop where
 ok:∀i(h:i<σ l),Arv l[i]
 ne:∀k i(hi:i<σ l)(hk:k<i),(l[k]'(by omega)).qJ≠l[i].qJ
def DC(v:Al):Int:=if v.Bool=τ then 2 else if v.Hi<v.Lo then 0 else min (v.Hi-v.Lo) 1073741824+1
theorem Pu(v:Al):0<=DC v/\DC v<=1073741825:=by grind[DC]
theorem A2g(x:Int):u64.wrap x=x%18446744073709551616:=by rfl
variable {v:Al}
theorem Ze(a:Bl .i64 v.Hi)(b:Bl .i64 v.Lo)(h:¬v.Hi<v.Lo):u64.wrap (u64.wrap v.Hi-u64.wrap v.Lo)=v.Hi-v.Lo:=by grind[Aq,A2g]
variable {H:HY} {X:PX} {Q:Int×Unit->UU}
theorem W1(h:Q (DC v,()) () H):qK 86 CM (v,()) H Q X:=by refine wF Tryz.f86 {im:=[1]} (?_:letI E:=u64.wrap (u64.wrap v.Hi-u64.wrap v.Lo);letI F:=Go.IntKind.wrap .i64 E;(v.Bool->Q (2,()) () H)/\(¬v.Bool->(v.Hi<v.Lo->Q (0,()) () H)/\(¬v.Hi<v.Lo->IK v.Hi->IK v.Lo->Bl u64 (u64.wrap v.Hi)->Bl u64 (u64.wrap v.Lo)->(E<1073741824->Bl u64 E->IK F->IK (F+1)/\Q (F+1,()) () H)/\(¬E<1073741824->Q (1073741825,()) () H))));unfold DC at h;refine⟨λb=>by grind,λb=>?_⟩;rw[GT b]at h;refine⟨λa=>by grind,λa d f _ _=>?_⟩;rw[GT a]at h;rw[Ze d f a];grind[Go.IntKind.wrap,FO,Aq,min]
theorem K3(h:Q (DC v,()) () H):qK 65 CM (v,()) H Q X:=by refine wF Tryz.f65 {im:=[1]} (?_:letI E:=u64.wrap (u64.wrap v.Hi-u64.wrap v.Lo);letI F:=Go.IntKind.wrap .i64 1073741824;letI I:=Go.IntKind.wrap .i64 E;(v.Bool->Q (2,()) () H)/\(¬v.Bool->(v.Hi<v.Lo->Q (0,()) () H)/\(¬v.Hi<v.Lo->IK v.Hi->IK v.Lo->Bl u64 (u64.wrap v.Hi)->Bl u64 (u64.wrap v.Lo)->(1073741824<E->IK F->IK (F+1)/\Q (F+1,()) () H)/\(¬1073741824<E->Bl u64 E->IK I->IK (I+1)/\Q (I+1,()) () H))));unfold DC at h;refine⟨λb=>by grind,λb=>?_⟩;rw[GT b]at h;refine⟨λa=>by grind,λa d f _ _=>?_⟩;rw[GT a]at h;rw[Ze d f a];grind[Go.IntKind.wrap,FO,Aq,min]
def IsB(n:Int)(k:Nat):Prop:=n<=2^k/\∀j,j<k->(2:Int)^j<n
variable {n:Int}
theorem IsB.YZ{k k':Nat}(h:IsB n k)(c:IsB n k'):k=k':=by
 refine a9 λa=>?_;rcases Nat.lt_or_gt_of_ne a with b|b
 .have:=c.2 k b;have:=h.1;omega
 .have:=h.2 _ b;have:=c.1;omega
noncomputable def GF(n:Int):Nat:=Classical.epsilon (IsB n)
theorem Qv{k:Nat}(h:IsB n k):GF n=k:=(Classical.epsilon_spec  ⟨k,h⟩).YZ h
theorem Awk(k:Nat):(2:Int)^k=((2^k:Nat):Int):=by norm_cast
theorem Adu(u:n<=1073741825)(h:IsB n (GF n)->GF n<=31->Q ((GF n:Int),()) () H):qK 85 EG (n,()) H Q X:=by
 refine wF Tryz.f85 {lp:=[(2,⟨[(4,.nat)],[0],δ⟩)]} (?_:∃(V:Nat->Nat×UT->Prop),(∃(n:Nat),H=H/\V n (0,()))/\∀n1 x,V n1 x->(x.1<63->x.1<=2^63-1->(BinOp.shl=BinOp.shr->IK 1)/\0<=(x.1:Int)/\(n<=Go.IntKind.wrap .i64 (1*2^min (x.1:Int).toNat 64)->Q ((x.1:Int),()) () H)/\(¬n<=Go.IntKind.wrap .i64 (1*2^min (x.1:Int).toNat 64)->x.1+1<=2^63-1/\∃m,m<n1/\H=H/\V m (x.1+1,())))/\(¬x.1<63->Q (63,()) () H));refine⟨λm z=>m=31-z.1/\z.1<=31/\∀j,j<z.1->2^j<n,⟨_,rfl,rfl,a6 _,λj g=>qG g (a8 _)⟩,?_⟩;rintro m ⟨k,_⟩ ⟨b,d,c⟩;have v:=b;have q:=d;have g:=c;have w:2^k<=2^31:=ag (by omega) q;have i:2^31=2147483648:=by decide
 have r:Go.IntKind.wrap .i64 (1*2^min (k:Int).toNat 64)=2^k:=by rw[show min _ _=k by omega,Int.one_mul];grind[Awk,Int.natCast_nonneg,Int.ofNat_le,FO,Aq]
 refine⟨λ_ _=>⟨λe=>qG e (by decide),by omega,λa=>?_,λa=>?_⟩,λo=>qG (show k<63 by omega) o⟩
 .have a:=a;rw[r]at a;have s:IsB n k:=⟨a,g⟩
  grind[Qv]
 .have a:=a;rw[r]at a;have t:k≠31:=λe=>by grind
  refine⟨by grind,31-(k+1),by omega,rfl,rfl,by grind,λj f=>?_⟩;grind
theorem Rv(D:0<=n)(J:n<=1073741825)(h:IsB n (GF n)->GF n<=40->Q ((GF n:Int),()) () H):qK 64 EG (n,()) H Q X:=by
 refine wF Tryz.f64 {lp:=[(2,⟨[(0,.one (.dat I6)),(3,.nat)],[],δ⟩)]} (?_:∃(V:Nat->Int×Nat×UT->Prop),(∃(n1:Nat),H=H/\V n1 (n,0,()))/\∀n x,V n x->(1<x.1->IK x.1->¬(2:Int)=0/\IK (x.1.tdiv 2)/\(IK x.1->¬(2:Int)=0/\IK (x.1.tmod 2)/\(IK (x.1.tdiv 2)->IK (x.1.tmod 2)->IK (x.1.tdiv 2+x.1.tmod 2)/\x.2.1+1<=2^63-1/\∃m,m<n/\H=H/\V m (x.1.tdiv 2+x.1.tmod 2,x.2.1+1,()))))/\(¬1<x.1->Q ((x.2.1:Int),()) () H));refine⟨λm z=>m=z.1.toNat/\0<=z.1/\z.1*2^z.2.1<n+2^z.2.1/\n<=z.1*2^z.2.1/\z.2.1<=31/\(z.1<=1∨z.2.1<=30)/\∀j,j<z.2.1->2^j<n,⟨_,rfl,rfl,D,by grind,by simp,a6 _,.inr (a6 _),λj r=>qG r (a8 _)⟩,?_⟩;rintro m ⟨x,k,_⟩ ⟨q,o,p,g,i,a,f⟩;have M:=q;have w:=o;have G:x*2^k<n+2^k:=p;have K:=g;have L:=i;have E:=a;have r:=f;have v:(0:Int)<2^k:=by grind
 have y:(2:Int)^(k+1)=2*2^k:=by omega
 have I:x<=n+1:=by refine a9 λC=>?_;have d:(x-1)*1<=(x-1)*2^k:=Int.mul_le_mul_of_nonneg_left (by omega) (by omega);grind
 refine⟨λd _=>?_,λd=>?_⟩
 .have d:=d;have c:x.tdiv 2=x/2:=Int.tdiv_eq_ediv_of_nonneg w;have b:x.tmod 2=x%2:=Int.tmod_eq_emod_of_nonneg w;refine⟨by decide,Aq.2 (by grind),λ_=>⟨by decide,Aq.2 (by grind),λ_ _=>⟨Aq.2 (by grind),by grind,(x.tdiv 2+x.tmod 2).toNat,?_,rfl,rfl,?_,?_,?_,?_,?_,λj l=>?_⟩⟩⟩
  .omega
  .grind
  .show (x.tdiv 2+x.tmod 2)*2^(k+1)<n+2^(k+1);rw[c,b,y];have s:2*(x/2+x%2)<=x+1:=by omega
   have A:(2*(x/2+x%2))*2^k<=(x+1)*2^k:=ab s (by omega);grind
  .show n<=(x.tdiv 2+x.tmod 2)*2^(k+1);rw[c,b,y];have s:x<=2*(x/2+x%2):=by omega
   have A:x*2^k<=(2*(x/2+x%2))*2^k:=ab s (by omega);grind
  .grind
  .grind
  .have l:=l;by_cases e:j=k
   .rw[e];have F:2*2^k<=x*2^k:=ab (by omega) (by omega);omega
   grind
 .have d:=d;have B:IsB n k:=by refine⟨?_,r⟩;grind
  grind[Qv]
end
section
noncomputable def Cd(l:List Al):List Int:=l.map λv=>(GF (DC v):Int)
variable {l:List Al}
theorem Cl:σ (Cd l)=σ l:=by unfold Cd;rw[ac]
theorem HX{i:Nat}(h:i<σ l):(Cd l)[i]'(by rw[Cl];exact h)=(GF (DC l[i]):Int):=by unfold Cd;rw[List.getElem_map]
noncomputable def GH(l:List Al):Int:=Dj (Cd l) (σ l)
variable {H:HY} {X:PX}
theorem Nx{Q:Int×Unit->UU}(t:σ l<=1000000000000000)(h:0<=GH l->GH l<=40*(σ l:Int)->Q (GH l,()) () H):qK 32 Dr (l,()) H Q X:=by
 refine wF Tryz.f32 {} (?_:qK 79 GO ({Aa:=l,Defs:=[],Init:=[],Ar8:=[],Next:=[],Trans:=[],Fair:=[],Arz:=[]:O7},()) H (λ(b:qV)_ G=>Q (b.1,()) () G) X);apply Pl;unfold KI;refine⟨λm z=>m=σ l-z.2.1/\z.2.1<=σ l/\z.1=Dj (Cd l) z.2.1/\0<=z.1/\z.1<=40*z.2.1,⟨_,rfl,rfl,a6 _,rfl,by omega,by omega⟩,?_⟩;rintro m ⟨s,k,_⟩ ⟨i,g,f,e,d⟩;have r:m=σ l-k:=i;have p:k<=σ l:=g;have n:s=Dj _ k:=f;have j:=e;have o:=d;refine λ_=>⟨λa _=>?_,λa=>?_⟩
 .have a:k<σ l:=a;have c:=Pu l[k];refine⟨a,K3 (Rv c.1 c.2 λq b _ _=>⟨Aq.2 ?_,by grind,σ l-(k+1),by omega,rfl,rfl,by grind,?_,?_,?_⟩)⟩
  .omega
  .show s+GF _=Dj _ _;rw[Ek (by grind[Cl]),HX a,n]
  all_goals grind
 .have a:¬k<σ l:=a;have:k=σ l:=by omega
  subst this;show Q _ _ H;rw[n]at j o ⊢;exact h j o
theorem OB{n:Int}{Q:Bool×Unit->UU}(h:Q (φ (-255<=n/\n<=255),()) () H):qK 83 CX (n,()) H Q X:=by grind[NX,Jm]
theorem Y3{Q:Int×Int×Unit->UU}(h:∀i e:Int,(e=0->NP l)->Q (i,e,()) () H):qK 34 GN (l,()) H Q X:=by
 refine wF Tryz.f34 {lp:=[(7,⟨[(5,.nat)],[0,4],δ⟩),(2,⟨[(4,.nat)],[0],δ⟩)]} (?_:∃(V:Nat->Nat×UT->Prop),(∃(n:Nat),H=H/\V n (0,()))/\∀n x,V n x->σ l<=2^63-1->(x.1<σ l->x.1<=2^63-1->∃(h:x.1<σ l),letI I:=x.1<=2^63-1;letI O:=(x.1:Int);letI P:=x.1+1;letI E:=λ(b:qU)_ G=>(¬b.1->Q (O,2,()) () G)/\(¬¬b.1->I->∃(h:(x.1<σ l)),qK 83 CX (l[x.1].Hi,()) G (λ(b:qU)_ G=>(¬b.1->Q (O,2,()) () G)/\(¬¬b.1->I->∃(h:(x.1<σ l)),qK 65 CM (l[x.1],()) G (λ(b:qV)_ G=>(64<b.1->Q (O,2,()) () G)/\(¬64<b.1->P<=2^63-1/\∃m,m<n/\G=H/\V m (P,()))) X)) X);qK 82 IJ (l[x.1].qJ,()) H (λ(b:qU)_ G=>letI R:=I->∃(h:(x.1<σ l)),(¬l[x.1].Bool->I->∃(h:(x.1<σ l)),I->∃(h1:(x.1<σ l)),(l[x.1].Hi<l[x.1].Lo->Q (O,2,()) () G)/\(¬l[x.1].Hi<l[x.1].Lo->I->∃(h:(x.1<σ l)),qK 83 CX (l[x.1].Lo,()) G E X))/\(¬¬l[x.1].Bool->dup (P<=2^63-1/\∃m,m<n/\G=H/\V m (P,())));letI S:=Q (O,3,()) () G;(¬b.1->Q (O,12,()) () G)/\(¬¬b.1->∃(V1:Nat->Nat×UT->Prop),(∃(n:Nat),G=G/\V1 n (0,()))/\∀n1 x1,V1 n1 x1->(x1.1<x.1->x1.1<=2^63-1->∃(h:x1.1<σ l),I->∃(h1:(x.1<σ l)),letI W:=l[x1.1].qJ=l[x.1].qJ;(W->Q (O,6,()) () G)/\(¬W->x1.1+1<=2^63-1/\∃m,m<n1/\G=G/\V1 m (x1.1+1,())))/\(¬x1.1<x.1->I->∃(h:(x.1<σ l)),(l[x.1].Bool->I->∃(h:(x.1<σ l)),letI Y:=¬l[x.1].Lo=0;(Y->S)/\(¬Y->I->∃(h:(x.1<σ l)),letI B:=¬l[x.1].Hi=0;(B->S)/\(¬B->R)))/\(¬l[x.1].Bool->R)))) X)/\(¬x.1<σ l->Q (0,0,()) () H));have o:∀{i e:Int},e≠0->Q (i,e,()) () H:=λS=>h _ _ λe=>qG e S;refine⟨λm z=>m=σ l-z.1/\z.1<=σ l/\(∀i h,i<z.1->Arv l[i])/\∀k i(v:i<σ l)(g:k<i),i<z.1->(l[k]'(by omega)).qJ≠l[i].qJ,⟨_,rfl,rfl,a6 _,λi _ v=>qG v (a8 _),λk i _ _ v=>qG v (a8 _)⟩,?_⟩;rintro m ⟨i,_⟩ ⟨y,x,q,r⟩;have hm:=y;have v:=x;have O:=q;have M:=r;refine λV=>⟨λa _=>?_,λa=>?_⟩
 .have a:i<σ l:=a;have Y:i+1<=9223372036854775807:=by omega
  refine⟨a,Adi λt T=>⟨λ_=>o (by decide),λD=>⟨λm z=>m=i-z.1/\z.1<=i/\∀k(g:k<σ l),k<z.1->l[k].qJ≠l[i].qJ,⟨_,rfl,rfl,a6 _,λk _ g=>qG g (a8 _)⟩,?_⟩⟩⟩;have L:=T.1 (a7.1 D);rintro B ⟨k,_⟩ ⟨p,w,s⟩;have Z:B=i-k:=p;have g:k<=i:=w;have N:=s;refine⟨λc _=>?_,λc _=>⟨a,?_⟩⟩
  .have c:k<i:=c;refine⟨by omega,λ_=>⟨a,λ_=>o (by decide),λI=>⟨by grind,i-(k+1),by omega,rfl,rfl,by grind,λd J u=>?_⟩⟩⟩;grind
  .have c:¬k<i:=c;have P:Arv l[i]->i+1<=9223372036854775807/\∃B,B<m/\H=H/\B=σ l-(i+1)/\i+1<=σ l/\(∀j h,j<i+1->Arv l[j])/\∀k j(f:j<σ l)(g:k<j),j<i+1->(l[k]'(by omega)).qJ≠l[j].qJ:=λU=>⟨Y,σ l-(i+1),by omega,rfl,rfl,by omega,λj f K=>by
    grind,λd j f F K=>by
    grind⟩
   refine⟨λn _=>⟨a,λ_=>o (by decide),λR _=>⟨a,λ_=>o (by decide),λW _=>⟨a,λb=>qG n b,λ_=>Qb (P ⟨L,λ_=>⟨a7.1 R,a7.1 W⟩,λe=>qG (show l[i].Bool=τ from n) (by grind)⟩)⟩⟩⟩,λb _=>⟨a,λ_ _=>⟨a,λ_=>⟨a,λ_=>o (by decide),λE _=>⟨a,OB ⟨λ_=>o (by decide),λG _=>⟨a,OB ⟨λ_=>o (by decide),λC _=>⟨a,K3 ⟨λ_=>o (by decide),λA=>P ?_⟩⟩⟩⟩⟩⟩⟩⟩,λn=>qG b n⟩⟩;have b:=b;have E:¬l[i].Hi<l[i].Lo:=E;have G:=of_decide_eq_true (a7.1 G);have C:=of_decide_eq_true (a7.1 C);have A:¬(64:Int)<DC l[i]:=A;unfold DC at A;rw[GT b,GT E]at A;exact⟨L,λe=>qG e b,λ_=>⟨by omega,G.1,C.2,by omega⟩⟩
 .have a:=a;exact h 0 0 λ_=>⟨λj f=>O j f (by omega),λk j f g=>M k j f g (by omega)⟩
theorem W0{Q:Int×Int×Unit->UU}(C:NP l)(V:σ l<=1000)(h:∀H',(∀c,H c≠ψ->H' c=H c)->Q (0,0,()) () H'):qK 84 GN (l,()) H Q X:=by
 refine wF Tryz.f84 {lp:=[(2,⟨[(10,.nat)],[0,8,9],τ⟩)],pr:=[(5,23)]} (?_:σ l<=2^63-1->∃(V:Nat->Nat×UT->HP),(∃(n:Nat),V n (0,()) H)/\∀n x H,V n x H->(x.1<σ l->x.1<=2^63-1->∃(h:x.1<σ l),letI I:=l[x.1];letI E:=KL δ I.Lo [(.i64,I.Hi)]<(-255:Int);letI F:=(x.1:Int);letI O:=x.1+1;letI P:=255<KL τ I.Lo [(.i64,I.Hi)];letI R:=av (x.1-0) (b5 0 l);∀(b:Nat),H b=ψ->(P->qK 159 IJ (I.qJ,()) (Ac H b (Ob.st LO I)) (λ(b1:qU)_ G=>(¬b1.1->Q (F,12,()) () G)/\(¬¬b1.1->0<=x.1/\x.1<=σ l/\qK 160 AU (R,λ(a:Al×UT)(H:HY)(Q:qU->HP)(X:Nat->Lf Y0.D->HP)=>qK 158 IE (a.1,ν b,()) H (λ(b:qU)(x:UT)(G:HY)=>Q (b.1,()) G) X,()) G (λ(b2:qU)_ G=>letI S:=Q (F,2,()) () G;letI W:=Q (F,3,()) () G;(b2.1->Q (F,6,()) () G)/\(¬b2.1->∃(x1:Al),letI B:=x1.Bool=τ;letI C:=x1=x1;letI A:=x1.Hi<x1.Lo;letI Y:=(¬B->(A->C/\S)/\(¬A->C/\S))/\(¬¬B->O<=2^63-1/\∃m,m<n/\C/\V m (O,()) G);G b=ν (Ob.st LO x1)/\(B->(¬x1.Lo=0->C/\W)/\(¬¬x1.Lo=0->(¬x1.Hi=0->C/\W)/\(¬¬x1.Hi=0->Y)))/\(¬B->Y))) X)) X)/\(¬P->qK 159 IJ (I.qJ,()) (Ac H b (Ob.st LO I)) (λ(b1:qU)_ G=>(¬b1.1->Q (F,12,()) () G)/\(¬¬b1.1->0<=x.1/\x.1<=σ l/\qK 160 AU (R,λ(a:Al×UT)(H:HY)(Q:qU->HP)(X:Nat->Lf Y0.D->HP)=>qK 158 IE (a.1,ν b,()) H (λ(b:qU)(x:UT)(G:HY)=>Q (b.1,()) G) X,()) G (λ(b2:qU)_ G=>letI Z:=Q (F,2,()) () G;letI T:=Q (F,3,()) () G;(b2.1->Q (F,6,()) () G)/\(¬b2.1->∃(x1:Al),letI L:=x1=x1;letI N:=O<=2^63-1/\∃m,m<n/\L/\V m (O,()) G;letI J:=x1.Hi-x1.Lo;letI K:=x1.Bool=τ;letI U:=(¬K->(x1.Hi<x1.Lo->L/\Z)/\(¬x1.Hi<x1.Lo->(E->L/\Z)/\(¬E->IK x1.Hi->IK x1.Lo->IK J/\(64<=J->L/\Z)/\(¬64<=J->N))))/\(¬¬K->N);G b=ν (Ob.st LO x1)/\(K->(¬x1.Lo=0->L/\T)/\(¬¬x1.Lo=0->(¬x1.Hi=0->L/\T)/\(¬¬x1.Hi=0->U)))/\(¬K->U))) X)) X))/\(¬x.1<σ l->Q (0,0,()) () H));refine λ_=>⟨λm z H'=>m=σ l-z.1/\z.1<=σ l/\∀c,H c≠ψ->H' c=H c,⟨_,rfl,a6 _,λ_ _=>rfl⟩,?_⟩
 rintro m ⟨i,_⟩ p ⟨n,o,F⟩;have q:=n;have T:=o;refine⟨λa _=>?_,λa=>h p F⟩;have a:i<σ l:=a;refine⟨a,λb O=>?_⟩;have t:=C.ok i a;have L:∀c,H c≠ψ->Ac p b (.st LO l[i]) c=H c:=λc D=>by grind[Ad]
 have M:KL τ l[i].Lo [(.i64,l[i].Hi)]=max l[i].Lo l[i].Hi:=by rfl
 have N:KL δ l[i].Lo [(.i64,l[i].Hi)]=min l[i].Lo l[i].Hi:=by rfl
 have W:l[i].Lo<=l[i].Hi/\-255<=l[i].Lo/\l[i].Hi<=255/\l[i].Hi-l[i].Lo<64:=by
  cases e:l[i].Bool with
  |true=>have:=t.bo e;omega
  |false=>exact t.nu e
 have G:∀A,A=l[i]->(i+1<=9223372036854775807/\∃r,r<m/\A=A/\r=σ l-(i+1)/\i+1<=σ l/\∀c,H c≠ψ->Ac p b _ c=H c):=λ_ _=>⟨by omega,σ l-(i+1),by omega,rfl,rfl,by omega,L⟩
 refine⟨λq=>?_,λq=>Ag1 t.nm ⟨λI=>qG rfl I,λ_=>⟨a6 _,by omega,?_⟩⟩⟩
 .grind
 apply DN;unfold BW;apply Ea;unfold Ch;have u:σ (av (i-0) (b5 0 l))=i:=by grind
 refine λ_=>⟨λr z H'=>H'=Ac p b _/\∃k:Nat,z.1=k/\r=i-k/\k<=i,⟨_,rfl,0,rfl,rfl,a6 _⟩,?_⟩
 rintro r ⟨P,_⟩ S ⟨w,k,B,R,U⟩;have w:=w;have y:=B;subst w y;have J:=by omega
 refine⟨λf _=>?_,λf=>?_⟩
 .have f:k<(σ (av (i-0) (b5 0 l)):Int):=f;rw[u]at f;have x:k<i:=by omega
  refine⟨λ_=>by omega,by omega,?_⟩;apply V7;unfold O8;refine⟨b,rfl,l[i],Ah _ _ _,rfl,λg=>?_,λ_ _=>⟨Aq.2 (by omega),i-(k+1),by omega,rfl,k+1,by rfl,rfl,by omega⟩⟩;have g:=of_decide_eq_true g;have K:((av (i-0) (b5 0 l))[((k:Int)).toNat]'(by omega))=l[k]'(by omega):=by simp
  have g:((av (i-0) (b5 0 l))[((k:Int)).toNat]'(by omega)).qJ=l[i].qJ:=g;rw[K]at g;exact qG g (C.ne k i a x)
 .refine⟨λg=>qG g (by decide),λ_=>⟨l[i],Ah _ _ _,λd=>⟨λv=>qG (t.bo d).1 v,λ_=>⟨λs=>qG (t.bo d).2 s,λ_=>⟨λj=>qG d j,λ_=>G _ rfl⟩⟩⟩,λj=>⟨λ_=>⟨λv=>?_,λ_=>⟨λs=>?_,λ_ _ _=>⟨Aq.2 ?_,λE=>?_,λ_=>G _ rfl⟩⟩⟩,λd=>qG j d⟩⟩⟩;all_goals grind
end
section
theorem Ap7{n:Int}:∀{m:Nat},n<=2^m->∃k,k<=m/\IsB n k
 |0,h=>⟨0,ba _,h,λj a=>qG a (a8 _)⟩
 |m+1,h=>by
  by_cases c:n<=2^m
  .obtain⟨k,e,b⟩:=Ap7 c;exact⟨k,by omega,b⟩
  .refine⟨m+1,ba _,h,λj a=>?_⟩;have:2^j<=2^m:=ag (by omega) (by omega);grind
theorem Yd{n:Int}{m:Nat}(h:n<=2^m):GF n<=m/\IsB n (GF n):=by grind[Ap7,Qv]
theorem Ark(v:Al):GF (DC v)<=31:=by
 have:=Pu v;have a:2^31=2147483648:=by decide
 exact(Yd (by omega)).1
theorem Aig{l:List Al}:∀{k:Nat},k<=σ l->0<=Dj (Cd l) k/\Dj (Cd l) k<=31*(k:Int)
 |0,_=>by simp [Dj]
 |k+1,h=>by have a:=Aig (l:=l) (k:=k) (by omega);grind[Ark,Ek,Cl,HX]
noncomputable def Uc(l:List Al):List Int:=(am (σ l)).map λi=>Dj (Cd l) i
variable {l:List Al}
theorem ME:σ (Uc l)=σ l:=by unfold Uc;simp
theorem Afa{i:Nat}(h:i<σ l):(Uc l)[i]'(by rw[ME];exact h)=Dj (Cd l) i:=by unfold Uc;simp
noncomputable def AM(l:List Al):Ae:={Aa:=l,Bits:=Cd l,At:=Uc l}
theorem Ama{H:HY}{X:PX}{Q:Ae×Int×Unit->UU}(B:NP l)(F:σ l<=1000)(C:GH l<=30)(h:∀H',(∀c,H c≠ψ->H' c=H c)->Q (AM l,0,()) () H'):qK 37 WB (l,()) H Q X:=by
 refine wF Tryz.f37 {lp:=[(8,⟨[(2,.blk [.own (.u 0),.own I6,.own I6]),(6,.one (.dat I6)),(29,.nat)],[27,28],τ⟩)]} (?_:letI F:=σ l;letI E:=ad (F:Int).toNat {qJ:={data:={toList:=[]:Array UInt8}:ByteArray},Bool:=δ,Lo:=0,Hi:=0:Al};letI I:={Aa:=[],Bits:=[],At:=[]:Ae};qK 84 GN (l,()) H (λ(b:Int×qV)_ G=>(¬b.2.1=0->Q (I,b.2.1,()) () G)/\(¬¬b.2.1=0->F<=2^63-1->F<=2^63-1->F<=2^63-1->0<=(F:Int)/\(F:Int)=(F:Int)/\(F:Int).toNat*40<=281474976710656/\0<=σ E/\(F<=2^63-1->∃(V:Nat->(List Al×List Int×List Int×UT)×Int×Nat×UT->HP),(∃(n:Nat),V n ((av 0 E++(av (min F (σ E-0)) l++b5 (0+min F (σ E-0)) E),[],[],()),0,0,()) G)/\∀n x H,V n x H->(x.2.2.1<F->x.2.2.1<=2^63-1->∃(h:x.2.2.1<F),letI O:=(σ x.1.2.2.1+σ [x.2.1])*8<=2^47;letI P:=x.1.2.2.1++[x.2.1];letI R:=x.2.2.1+1;letI S:=IK x.2.1;letI W:=σ x.1.2.1;qK 86 CM (l[x.2.2.1],()) H (λ(b:qV)_ G=>qK 85 EG (b.1,()) G (λ(b:qV)_ G=>letI B:=O/\(S->IK b.1->IK (x.2.1+b.1)/\R<=2^63-1/\∃m,m<n/\V m ((x.1.1,x.1.2.1++[b.1],P,()),x.2.1+b.1,R,()) G);letI A:=(W+σ [b.1])*8<=2^47;letI Y:=A/\B;letI D:=dup Y;letI C:=(A/\dup B)/\dup D;letI Z:=D/\Y;(C/\dup Z)/\(C/\Z/\D)/\(Z/\Z/\D)/\Z/\dup D) X) X)/\(¬x.2.2.1<F->(30<x.2.1->Q (I,18,()) () H)/\(¬30<x.2.1->Q ({Aa:=x.1.1,Bits:=x.1.2.1,At:=x.1.2.2.1:Ae},0,()) () H))))) X);refine W0 B F λH' f=>⟨λG=>qG rfl G,λ_ _ _ _=>⟨by omega,rfl,by omega,a6 _,λ_=>⟨λm z o=>o=H'/\m=σ l-z.2.2.1/\z.2.2.1<=σ l/\z.1.1=l/\z.1.2.1=(Cd l).take z.2.2.1/\z.1.2.2.1=(Uc l).take z.2.2.1/\z.2.1=Dj (Cd l) z.2.2.1,⟨_,rfl,rfl,a6 _,?_,rfl,rfl,rfl⟩,?_⟩⟩⟩
 .simp
 rintro m ⟨⟨b,M,x,_⟩,a,i,_⟩ o ⟨p,t,s,n,g,j,r⟩;have K:=p;have S:m=σ l-i:=t;have I:i<=σ l:=s;have u:b=l:=n;have v:M=(Cd l).take i:=g;have y:x=(Uc l).take i:=j;have R:a=Dj (Cd l) i:=r;subst K u v y R;have T:=Aig (l:=b) I;refine⟨λd _=>?_,λd=>?_⟩
 .have d:=d;have w:=Pu b[i];refine⟨d,W1 (Adu w.2 λ_ k=>?_)⟩;have k:GF (DC b[i])<=31:=k;have N:σ ((Cd b).take i)=i:=by grind[ao,Cl]
  have P:σ ((Uc b).take i)=i:=by grind[ao,ME]
  have E:=by omega
  have J:=by omega
  have D:Bl .i64 (Dj (Cd b) i)->Bl .i64 (GF (DC b[i]):Int)->Bl .i64 (Dj (Cd b) i+GF (DC b[i]))/\i+1<=9223372036854775807/\∃A,A<m/\o=o/\A=σ b-(i+1)/\i+1<=σ b/\b=b/\(Cd b).take i++[(GF (DC b[i]):Int)]=(Cd b).take (i+1)/\(Uc b).take i++[Dj (Cd b) i]=(Uc b).take (i+1)/\Dj (Cd b) i+(GF (DC b[i]):Int)=Dj (Cd b) (i+1):=λ_ _=>by refine⟨Aq.2 (by omega),by omega,σ b-(i+1),by omega,rfl,rfl,by omega,rfl,?_,?_,?_⟩;all_goals grind[aa,Cl,HX,ME,Afa,Ek]
  grind[Qb]
 .have d:=d;have e:i=σ b:=by omega
  subst e;have O:(Cd b).take (σ b)=Cd b:=af (by grind[Cl]);have L:(Uc b).take (σ b)=Uc b:=af (by grind[ME]);refine⟨λq=>?_,λ_=>?_⟩
  .grind[Dj,Cd,GH]
  .show Q _ () o;rw[O,L];exact h o f
theorem TT:Fy (AM l)=GH l:=by show Dj (Cd l) (σ (Cd l))=Dj _ _;rw[Cl]
theorem XG(c:NP l)(b:σ l<=64):JJ (AM l):=by
 have a:∀i(h:i<σ l),DC l[i]=QS l[i]-FW l[i]+1/\FW l[i]<=QS l[i]/\QS l[i]-FW l[i]<64/\-255<=FW l[i]/\QS l[i]<=255:=λi h=>by
  have f:=c.ok i h;unfold DC QS FW;cases e:l[i].Bool with
  |true=>simp
  |false=>
   have:=f.nu e;grind
 have g:(2:Int)^6=64:=by decide
 refine {lb:=?_,la:=?_,ln:=b,b0:=λi h=>?_,at_:=λi h=>?_,fit:=λi h j=>?_}
 .exact Cl
 .exact ME
 .have h:i<σ (Cd l):=h;rw[Cl]at h;show 0<=(Cd l)[i]'(by simp_all[Cl])/\(Cd l)[i]'(by simp_all[Cl])<=30;rw[HX h];have:=(Yd (n:=DC l[i]) (m:=6) (by grind)).1;omega
 .have h:i<σ (Uc l):=h;rw[ME]at h;show (Uc l)[i]'(by simp_all[ME])=Dj (Cd l) i;exact Afa h
 .have h:i<σ l:=h;have s:=a i h;show FW l[i]<=QS l[i]/\QS l[i]-FW l[i]<2^((Cd l)[i]'(by grind[Cl])).toNat/\-1152921504606846976<=FW l[i]/\QS l[i]<=1152921504606846976;rw[HX h];have:=(Yd (n:=DC l[i]) (m:=6) (by omega)).2.1;grind
end
section
theorem Azk{n:Int}(a:0<=n)(b:n<=64):KL δ (KL τ n [(.i64,0)]) [(.i64,64)]=n:=by show min (max n 0) _=n;omega
variable {H:HY} {X:PX}
theorem Rx{n:Int}{Q:List Int×Unit->UU}(r:0<=n)(u:n<=64)(h:∀l:List Int,σ l=n.toNat->(∀k(_:k<σ l),l[k]=(k:Int))->Q (l,()) () H):qK 152 L9 (n,()) H Q X:=by
 refine wF Tryz.f152 {lp:=[(3,⟨[(3,.one (.own I6)),(11,.nat)],[3,10],δ⟩)]} (?_:letI E:=KL δ (KL τ n [(.i64,0)]) [(.i64,64)];letI F:=ad E.toNat (0:Int);IK E->IK E->0<=E/\E=E/\E.toNat*8<=281474976710656/\(σ F<=2^63-1->∃(V:Nat->List Int×Nat×UT->Prop),(∃(n1:Nat),H=H/\V n1 (F,0,()))/\∀n1 x,V n1 x->(x.2.1<σ F->x.2.1<=2^63-1->∃(h:x.2.1<σ x.1),x.2.1<σ x.1/\x.2.1+1<=2^63-1/\∃m,m<n1/\H=H/\V m (x.1.set x.2.1 (x.2.1:Int),x.2.1+1,()))/\(¬x.2.1<σ F->Q (x.1,()) () H)));have e:=Azk r u;simp only[e,List.length_replicate];refine λ_ _=>⟨r,trivial,by omega,λ_=>⟨λm z=>m=n.toNat-z.2.1/\z.2.1<=n.toNat/\σ z.1=n.toNat/\∀k(_:k<σ z.1),k<z.2.1->z.1[k]=(k:Int),⟨_,trivial,rfl,a6 _,by simp,λk _ s=>qG s (a8 k)⟩,?_⟩⟩
 rintro m ⟨l,k,_⟩ ⟨b,i,g,d⟩;have v:m=n.toNat-k:=b;have s:=i;have q:=g;have t:=d;refine⟨λa _=>?_,λa=>?_⟩
 .have f:k<n.toNat:=a;refine⟨by grind,by grind,by omega,n.toNat-(k+1),by omega,trivial,rfl,by grind,by grind,λj o c=>?_⟩;grind
 grind
variable {room:Int} {Q:Option Nat×Int×Unit->UU}
theorem Adn(l:1<=room)(k:room<=1048576)(h:∀b x,H b=ψ->F4 x->x.room=room->σ x.at_=1->(∀i,GJ x i=ψ)->Q (ν b,0,()) () (Ac H b (.st Da x))):qK 151 RU (room,()) H Q X:=by
 refine wF Tryz.f151 {pr:=[(14,6)]} (?_:letI I:=a0 (1:Int);letI E:=∀(b:Nat),H b=ψ->Q (ν b,0,()) () (Ac H b (Ob.st Da {room:=room,at_:=ad I {ID:=0,Var:=0,Lo:=0,Hi:=0,Refs:=0:AE},taken:=ad I δ,free:=[],many:=0:A7}));letI F:=Q (ψ,2,()) () H;(room<1->F)/\(¬room<1->(1048576<room->F)/\(¬1048576<room->((0:Int)<=1/\(1:Int)=1/\I*40<=281474976710656/\(0:Int)<=1/\(1:Int)=1/\I*1<=281474976710656/\E)/\(0:Int)<=1/\(1:Int)=1/\I*1<=281474976710656/\(0:Int)<=1/\(1:Int)=1/\I*40<=281474976710656/\E)));have a:=λb m=>by
  have o:∀i,Pb {room:=room,at_:=ad (a0 1) {ID:=0,Var:=0,Lo:=0,Hi:=0,Refs:=0:AE},taken:=ad (a0 1) δ,free:=[],many:=0:A7} i=δ:=λi=>by grind[Pb,decide]
  have f:∀i,GJ {room:=room,at_:=ad (a0 1) {ID:=0,Var:=0,Lo:=0,Hi:=0,Refs:=0:AE},taken:=ad (a0 1) δ,free:=[],many:=0:A7} i=ψ:=λi=>by grind[GJ]
  refine h b _ m ⟨rfl,by simp,⟨l,k⟩,by grind,rfl,λi d=>qG d List.not_mem_nil,be,rfl,λi d c=>?_,λi n e=>by grind⟩ rfl rfl f;grind
 grind
theorem Abb{vars:Int}(hv:0<=vars/\vars<=64)(M:1<=room)(P:room<=1048576)(h:∀b S H',Ca H' b S->SI S->S.n=vars->S.po.room=room->(∀i,Ax S.po i=ψ)->(∀v,0<=v->v<vars->S.lv.vars[v.toNat]?=ν v)->(∀i,Fq S.po i=0)->(∀c,H c≠ψ->H' c=H c)->Q (ν b,0,()) () H'):qK 80 Td (vars,room,()) H Q X:=by
 refine wF Tryz.f80 {lp:=[(8,⟨[(31,.nat)],[4,30],τ⟩)],pr:=[(26,2),(29,3)],il:=ilT,oc:=[38]} (?_:letI E:=Ob.st Cy {ids:=[]:AZ};letI F:=Q (ψ,2,()) () H;(vars<0->F)/\(¬vars<0->(64<vars->F)/\(¬64<vars->qK 151 RU (room,()) H (λ(b:Option Nat×qV)_ G=>(¬b.2.1=0->Q (ψ,b.2.1,()) () G)/\(¬¬b.2.1=0->qK 152 L9 (vars,()) G (λ(b1:List Int×UT)_ G=>qK 152 L9 (vars,()) G (λ(b2:List Int×UT)_ G=>letI I:=Ob.st CR {vars:=b1.1,level:=b2.1:AX};∀(b3:Nat),G b3=ψ->∀(b4:Nat),Ac G b3 I b4=ψ->∃(V:Nat->Nat×UT->HP),(∃(n:Nat),V n (0,()) (Ac (Ac G b3 I) b4 (Ob.st AD {levels:=ν b3,Gx:=b.1,tables:=[],counts:=[],dead:=0:Ai})))/\∀n x H,V n x H->((x.1:Int)<vars->(∃(x1:Ai),H b4=ν (Ob.st AD x1)/\∀(b:Nat),CI H b4 b=ψ->Ac (CI H b4) b E b4=ψ->(σ x1.tables+σ [ν b])*8<=2^47/\x.1+1<=2^63-1/\∃m,m<n/\V m (x.1+1,()) (Ac (Kj (Ac (CI H b4) b E) b4 (H b4)) b4 (Ob.st AD {x1 with tables:=x1.tables++[ν b]})))/\∀(b:Nat),H b=ψ->(∃(x1:Ai),Ac H b E b4=ν (Ob.st AD x1)/\(σ x1.tables+σ [ν b])*8<=2^47/\x.1+1<=2^63-1/\∃m,m<n/\V m (x.1+1,()) (Ac (Ac H b E) b4 (Ob.st AD {x1 with tables:=x1.tables++[ν b]})))/\∃(x1:Ai),Ac H b E b4=ν (Ob.st AD x1)/\(σ x1.tables+σ [ν b])*8<=2^47/\x.1+1<=2^63-1/\∃m,m<n/\V m (x.1+1,()) (Ac (Ac H b E) b4 (Ob.st AD {x1 with tables:=x1.tables++[ν b]})))/\(¬(x.1:Int)<vars->Q (ν b4,0,()) () H)) X) X)) X)));refine⟨λV=>by omega,λ_=>⟨λV=>by omega,λ_=>Adn M P λbp x hbp hP L hlen hnd=>⟨λh=>qG rfl h,λ_=>Rx hv.1 hv.2 λlv hlv K=>Rx hv.1 hv.2 λs hll hllk=>?_⟩⟩⟩;intro F I p t;have n3:F≠bp:=λe=>by rw[e,Ah]at I;cases I
 have n4:p≠F:=λe=>by rw[e,Ah]at t;cases t
 have n5:p≠bp:=λe=>by rw[e,Ad _ _ (Ne.symm n3),Ah]at t;cases t
 have z3:H F=ψ:=by rw[Ad _ _ n3]at I;exact I
 have z4:H p=ψ:=by rw[Ad _ _ n4,Ad _ _ n5]at t;exact t
 let st (tb:List Nat):Ai:={levels:=ν F,Gx:=ν bp,tables:=tb.map ν,counts:=[],dead:=0}
 refine⟨λn z H'=>n=vars.toNat-z.1/\z.1<=vars.toNat/\∃tb:List Nat,σ tb=z.1/\H' p=ν (.st AD (st tb))/\H' F=ν (.st CR ⟨lv,s⟩)/\H' bp=ν (.st Da x)/\tb.Nodup/\(∀j(h:j<σ tb),H' tb[j]=ν (.st Cy ⟨[]⟩))/\∀c,H c≠ψ->H' c=H c,⟨_,rfl,a6 _,[],rfl,Ah _ _ _,?_,?_,be,λj hj=>qG hj (a8 j),λc y=>?_⟩,?_⟩
 .rw[Ad _ _ (Ne.symm n4),Ah]
 .rw[Ad _ _ (Ne.symm n5),Ad _ _ (Ne.symm n3),Ah]
 .rw[Ad _ _ (λe=>y (by rw[e];exact z4)),Ad _ _ (λe=>y (by rw[e];exact z3)),Ad _ _ (λe=>y (by rw[e];exact hbp))]
 rintro n ⟨k,_⟩ H' ⟨hn0,Z,tb,t1,Y,t3,t4,t5,t6,t7⟩;have hn:n=vars.toNat-k:=hn0;have hk:k<=vars.toNat:=Z;have t1:σ tb=k:=t1;refine⟨λN=>?_,λN=>?_⟩
 .have hkl':(k:Int)<vars:=N;have W:∀(b:Nat)(E:HY),H' b=ψ->E p=ν (.st AD (st (tb++[b])))->E b=ν (.st Cy ⟨[]⟩)->(∀c,c≠b->c≠p->E c=H' c)->∃m,m<n/\(m=vars.toNat-(k+1)/\k+1<=vars.toNat/\∃tb:List Nat,σ tb=k+1/\E p=ν (.st AD (st tb))/\E F=ν (.st CR ⟨lv,s⟩)/\E bp=ν (.st Da x)/\tb.Nodup/\(∀j(h:j<σ tb),E tb[j]=ν (.st Cy ⟨[]⟩))/\∀c,H c≠ψ->E c=H c):=λb E u e1 e2 e3=>by
   have ne:∀{c:Nat}{o:Ob Y0},H' c=ν o->c≠b:=λy e=>by rw[e,u]at y;cases y
   refine⟨vars.toNat-(k+1),by omega,rfl,by omega,tb++[b],by simp [t1],e1,by rw[e3 _ (ne t3) (Ne.symm n4)];exact t3,by rw[e3 _ (ne t4) (Ne.symm n5)];exact t4,?_,λj hj=>?_,λc y=>?_⟩
   .rw[bg];refine⟨t5,by simp,λc y d f e=>?_⟩;rw[ak]at f;subst f;subst e;obtain⟨j,hj,e⟩:=ah.1 y;exact ne (t6 j hj) e
   .by_cases G:j<σ tb
    .rw[List.getElem_append_left G,e3 _ (ne (t6 j G)) (Bk (t6 j G) Y (by decide))];exact t6 j G
    .have:j=σ tb:=by simp at hj;omega
     subst this;simpa using e2
   .have h2:=t7 c y;rw[e3 c (λe=>y (by rw[<-h2,e];exact u)) (λe=>y (by rw[e];exact z4))];exact h2
  have lenb:σ (tb.map ν)+1<=64:=by simp;omega
  have s0:∀b,st (tb++[b])={levels:=ν F,Gx:=ν bp,tables:=tb.map ν++[ν b],counts:=[],dead:=0}:=λb=>by show ({levels:=_,Gx:=_,tables:=(tb++[b]).map ν,counts:=_,dead:=_}:Ai)=_;rw[aj];rfl
  refine⟨⟨st tb,Y,λb u hb2=>?_⟩,λb u=>?_⟩
  .have R:b≠p:=λe=>by rw[e,Ah]at hb2;cases hb2
   have hb':H' b=ψ:=by unfold CI at u;rw[GT R]at u;exact u
   refine⟨by show (σ (tb.map ν)+1)*8<=_;omega,by show k+1<=_;omega,?_⟩;refine W b _ hb' (by rw[s0];exact Ah _ _ _) ?_ λc c1 c2=>?_
   .rw[Ad _ _ R];unfold Kj;rw[GT R,Ah]
   .rw[Ad _ _ c2];unfold Kj;rw[GT c2,Ad _ _ c1];unfold CI;rw[GT c2]
  .have R:b≠p:=λe=>by rw[e,Y]at u;cases u
   have U:∃(a:Ai),Ac H' b (Ob.st Cy {ids:=[]:AZ}) p=ν (Ob.st AD a)/\(σ a.tables+σ [ν b])*8<=140737488355328/\k+1<=9223372036854775807/\∃m,m<n/\(m=vars.toNat-(k+1)/\k+1<=vars.toNat/\∃tb:List Nat,σ tb=k+1/\Ac (Ac H' b (Ob.st Cy {ids:=[]:AZ})) p (Ob.st AD {a with tables:=a.tables++[ν b]}) p=ν (.st AD (st tb))/\Ac (Ac H' b (Ob.st Cy {ids:=[]:AZ})) p (Ob.st AD {a with tables:=a.tables++[ν b]}) F=ν (.st CR ⟨lv,s⟩)/\Ac (Ac H' b (Ob.st Cy {ids:=[]:AZ})) p (Ob.st AD {a with tables:=a.tables++[ν b]}) bp=ν (.st Da x)/\tb.Nodup/\(∀j(h:j<σ tb),Ac (Ac H' b (Ob.st Cy {ids:=[]:AZ})) p (Ob.st AD {a with tables:=a.tables++[ν b]}) tb[j]=ν (.st Cy ⟨[]⟩))/\∀c,H c≠ψ->Ac (Ac H' b (Ob.st Cy {ids:=[]:AZ})) p (Ob.st AD {a with tables:=a.tables++[ν b]}) c=H c):=by
    refine⟨st tb,by rw[Ad _ _ (Ne.symm R)];exact Y,by show (σ (tb.map ν)+1)*8<=_;omega,by show k+1<=_;omega,?_⟩;refine W b _ u (by rw[s0];exact Ah _ _ _) ?_ λc c1 c2=>?_
    .rw[Ad _ _ R,Ah]
    .rw[Ad _ _ c2,Ad _ _ c1]
   exact⟨U,U⟩
 .have hkl':¬(k:Int)<vars:=N;have hke:k=vars.toNat:=by omega
  let S:B9:={bl:=F,bp:=bp,tb:=tb,lv:=⟨lv,s⟩,po:=x,ta:=λ_=>⟨[]⟩,cn:=[],dead:=0}
  have r:S.n=vars:=by show (σ tb:Int)=vars;omega
  have D:∀i,Ax x i=ψ:=λi=>by unfold Ax;rw[hnd];rfl
  have T:∀i,Fq x i=0:=λi=>WD (D i);have q:∀v,0<=v->v<vars->DW ⟨lv,s⟩ v=v:=λv M P=>by
   unfold DW;have A:v.toNat<σ s:=by rw[hll];omega
   rw[UV M];show (s[v.toNat]?).getD (-1)=v;rw[a5 A,hllk _ A];show ((v.toNat:Nat):Int)=v;omega
  have C:∀{i d},Ax S.po i=ν d->False:=λ{i d}f=>by rw[show Ax S.po i=ψ from D i]at f;cases f
  have hlvS:∀v,0<=v->v<vars->S.lv.vars[v.toNat]?=ν v:=λv M P=>by
   have A:v.toNat<σ lv:=by rw[hlv];omega
   show lv[v.toNat]?=ν v;rw[a5 A,K _ A];congr 1;omega
  have hsi:SI S:=by
   refine⟨⟨hP,⟨λf=>(C f).elim,λf=>(C f).elim,λf=>(C f).elim⟩,λi d f=>(C f).elim,?_⟩,⟨⟨by rw[r];exact hv.2,λv M P=>?_,λv w a1 a2 a3 a4 e=>?_⟩,λf=>(C f).elim,λf=>(C f).elim,λf=>(C f).elim,λf=>(C f).elim,λf=>(C f).elim,λf=>(C f).elim⟩,by show σ lv=σ tb;omega,by show σ s=σ tb;omega,λl v V=>?_,λv _=>be,λv _ lo hi i=>⟨λh=>(by cases h),λh=>(C h).elim⟩,λi=>by rw[show Fq S.po i=0 from T i];exact Int.le_refl _⟩
   .show (0:Int)=B.sm (σ x.at_) (B.zr (Ax x) (Gd []));rw[B.Fl (g:=λ_=>0) λk _ _=>by unfold B.zr;rw[D],B.Wb]
   .rw[r]at P;show 0<=DW ⟨lv,s⟩ v/\DW ⟨lv,s⟩ v<S.n;rw[q v M P,r];exact⟨M,P⟩
   .rw[r]at a2 a4;have e:=e;rw[q v a1 a2,q w a3 a4]at e;exact e
   .have V:lv[l]?=ν v:=V;obtain⟨J,e⟩:=List.getElem?_eq_some_iff.1 V;rw[K l J]at e;have u:(l:Int)<vars:=by rw[hlv]at J;omega
    refine⟨by omega,by rw[r];omega,?_⟩;show DW ⟨lv,s⟩ v=l;rw[<-e];exact q _ (by omega) u
  exact h p S H' ⟨Y,t3,t4,t5,t6⟩ hsi r L D hlvS T t7
theorem Amb{vars:Int}(G:0<=vars/\vars<=64)(I:1<=room)(A:room<=1048576)(h:∀b M H',JI H' b M->MI M->MV M->M.ws=[]->M.S.n=vars->M.S.po.room=room->(∀i,M.T i=ψ)->(∀v,0<=v->v<vars->M.S.lv.vars[v.toNat]?=ν v)->M.nx=2->σ M.hs=2->(∀g,M.Ar g=if g=0 then ν (λ_=>δ) else if g=1 then ν (λ_=>τ) else ψ)->(∀c,H c≠ψ->H' c=H c)->H b=ψ->Q (ν b,0,()) () H'):qK 33 Td (vars,room,()) H Q X:=by
 refine wF Tryz.f33 {pr:=[(23,0)]} (?_:qK 80 Td (vars,room,()) H (λ(b:Option Nat×qV)_ G=>(¬b.2.1=0->Q (ψ,b.2.1,()) () G)/\(¬¬b.2.1=0->qK 81 RX (4096,()) G (λ(b1:Option Nat×UT)_ G=>∀(b2:Nat),G b2=ψ->Q (ν b2,0,()) () (Ac G b2 (Ob.st CW {store:=b.1,T3:=b1.1,BF:=C4 (C4 [] 0 1) 1 0,EK:=2,waits:=[],calls:=0:Be}))) X)) X);refine Abb G I A λF S m E K D C t w x k=>⟨λh=>qG rfl h,λ_=>Agx _ _ _ _ ?_⟩
 unfold Xm;intro y q b p;have l:b≠y:=λe=>by rw[e,Ah]at p;cases p
 have d:=by rw[Ad _ _ l]at p;exact p
 let me:B7:={size:=KL δ (KL τ 4096 [(.i64,1)]) [(.i64,65536)],entries:=ψ,asked:=0,found:=0}
 let M:Mn:={sb:=F,S:=S,mb:=y,me:=me,hs:=[(0,1),(1,0)],nx:=2,ws:=[],ca:=0}
 have f:∀c,m c≠ψ->Ac (Ac m y (.st CC me)) b (.st CW M.ob) c=m c:=λc j=>by rw[Ad _ _ λe=>j (by rw[e];exact d),Ad _ _ λe=>j (by rw[e];exact q)]
 have r:MeI me:=⟨by show 1<=min _ _;decide,by show min _ _<=65536;decide,λJ u=>by cases u⟩
 have z:∀g,Ag M.hs g=if g=0 then ν 1 else if g=1 then ν 0 else ψ:=λg=>by
  show (if 0=g then ν _ else if 1=g then ν 0 else ψ)=_;by_cases n:g=0
  .subst n;rfl
  .rw[GT (Ne.symm n),GT n];by_cases s:g=1
   .subst s;rfl
   .rw[GT (Ne.symm s),GT s]
 refine h b M _ ⟨Ah _ _ _,E.Lu f,by rw[Ad _ _ (Ne.symm l),Ah]⟩ ⟨K,?_,λg e a=>?_,rfl,rfl,by show 2<=2;decide,λi L=>?_,by show 2<=2;decide⟩ (MV.empty r λe⟨J,u,_⟩=>by cases u) rfl D C t w rfl rfl (λg=>?_) (λc j=>?_) ?_
 .show [0,1].Nodup;decide
 .rw[z]at a;split at a
  .rename_i n;cases a;exact⟨B.ok_one,by omega,by show g<2;omega⟩
  .split at a
   .cases a;exact⟨B.Tp,by omega,by show g<2;omega⟩
   .cases a
 .rw[show Fq _ i=0 from x i];show 0=B.dl 1 i+(B.dl 0 i+0);rw[B.L3 (by omega),B.L3 (by omega)];rfl
 .show (Ag _ g).map _=_;rw[z];split
  .show ν _=_;rw[B.Fw]
  .split
   .show ν _=_;rw[B.JB]
   .rfl
 .have:=k c j;exact(f c (by rw[this];exact j)).trans this
 .cases e:H b with
  |none=>rfl
  |some o=>
   have:=k b (by rw[e];simp);rw[d,e]at this;cases this
end
section
structure Av3(a:B0):Prop where
 v:NP a.Aa
 n:σ a.Aa<=8
 t:0<=GH a.Aa/\GH a.Aa<=4
 p:σ a.MH<=6
 e:Asd (2*GH a.Aa) a.MH
 o:a.Order=[]∨Afl a.Order (2*GH a.Aa).toNat
theorem VF{l:List Int}{n:Int}{H:HY}{X:PX}{Q:Bool×Unit->UU}(a:0<=n)(b:n<=1000)(h:∀t:Bool,(t=τ->Afl l n.toNat)->Q (t,()) () H):qK 35 Ey (l,n,()) H Q X:=by obtain⟨m,rfl⟩:=al a;grind[WQ]
theorem Ar0{a:B0}{H:HY}{X:PX}{Q:Bool×Unit->UU}(y:σ a.Aa<=1000000000000000)(h:∀t:Bool,(t=τ->Av3 a)->Q (t,()) () H):qK 8 Gv (a,()) H Q X:=by
 refine wF Tryz.f8 {lp:=[(6,⟨[(6,.nat)],[1],δ⟩)],im:=[1]} (?_:letI F:=σ a.MH;letI E:=λ(b:qV)_ G=>(¬b.1=0->Q (δ,()) () G)/\(¬¬b.1=0->∃(V:Nat->Nat×UT->Prop),(∃(n:Nat),G=G/\V n (0,()))/\∀n x,V n x->F<=2^63-1->(x.1<F->x.1<=2^63-1->∃(h:x.1<F),(300<a.MH[x.1].IB->Q (δ,()) () G)/\(¬300<a.MH[x.1].IB->x.1+1<=2^63-1/\∃m,m<n/\G=G/\V m (x.1+1,())))/\(¬x.1<F->Q (τ,()) () G));qK 34 GN (a.Aa,()) H (λ(b:Int×qV)_ G=>qK 32 Dr (a.Aa,()) G (λ(b1:qV)_ G=>letI I:=Q (δ,()) () G;letI O:=IK (2*b1.1);letI P:=IK b1.1;letI R:=(2:den Y0.D (Ty.int .i64))*b1.1;(¬b.2.1=0->I)/\(¬¬b.2.1=0->σ a.Aa<=2^63-1->(8<σ a.Aa->I)/\(¬8<σ a.Aa->(4<b1.1->I)/\(¬4<b1.1->F<=2^63-1->(6<F->I)/\(¬6<F->σ a.Order<=2^63-1->(0<σ a.Order->P->O/\qK 35 Ey (a.Order,R,()) G (λ(b:qU)_ G=>(¬b.1->Q (δ,()) () G)/\(¬¬b.1->P->O/\qK 36 EF (R,(0:den Y0.D (Ty.int .i64)),a.MH,()) G E X)) X)/\(¬0<σ a.Order->P->O/\qK 36 EF (R,(0:den Y0.D (Ty.int .i64)),a.MH,()) G E X)))))) X) X);have c:=h δ λe=>qG e (by decide);refine Y3 λi e p=>Nx y λw C=>⟨λ_=>c,λl _=>⟨λ_=>c,λs=>⟨λ_=>c,λu _=>⟨λ_=>c,λq _=>?_⟩⟩⟩⟩
 have p:=p (a7.1 l);have s:¬8<σ a.Aa:=s;have u:=u;have q:¬6<σ a.MH:=q;have n:Bl _ (2*GH a.Aa):=Aq.2 (by omega);have j:=λA d=>h τ λ_=>⟨p,by omega,⟨w,by omega⟩,by omega,d,A⟩
 refine⟨λ_ _=>⟨n,?_⟩,λr _=>⟨n,Ru (by omega) λe d=>⟨λ_=>c,λl=>⟨λm z=>m=σ a.MH-z.1/\z.1<=σ a.MH,⟨_,rfl,rfl,a6 _⟩,?_⟩⟩⟩⟩
 .refine VF (by omega) (by omega) λt v=>⟨λ_=>c,λo _=>⟨n,Ru (by omega) λe d=>⟨λ_=>c,λl=>⟨λm z=>m=σ a.MH-z.1/\z.1<=σ a.MH,⟨_,rfl,rfl,a6 _⟩,?_⟩⟩⟩⟩
  have d:=d (a7.1 l);rintro m ⟨k,_⟩ ⟨f,g⟩;have B:=f;have x:=g;refine λ_=>⟨λb _=>⟨b,λ_=>c,λ_=>⟨by grind,σ a.MH-(k+1),by omega,rfl,rfl,b⟩⟩,λ_=>j (.inr (v (a7.1 o))) d⟩
 .have d:=d (a7.1 l);rintro m ⟨k,_⟩ ⟨f,g⟩;have B:=f;have x:=g;have r:¬0<σ a.Order:=r;refine λ_=>⟨λb _=>⟨b,λ_=>c,λ_=>⟨by grind,σ a.MH-(k+1),by omega,rfl,rfl,b⟩⟩,λ_=>j (.inl (az.1 (by omega))) d⟩
mutual
def Er:Ab->Nat
 |⟨_,_,_,ks⟩=>1+Jh ks
def Jh:List Ab->Nat
 | []=>0
 |t::ts=>Er t+Jh ts
end
theorem Ng(t:Ab):Er t=1+Jh t.qZ:=by cases t;rw[Er]
theorem Fj(t:Ab)(ts:List Ab):Jh (t::ts)=Er t+Jh ts:=by rw[Jh]
theorem KJ:Jh []=0:=by rw[Jh]
theorem Acw(l m:List Ab):Jh (l++m)=Jh l+Jh m:=by
 induction l with
 |nil=>simp[KJ]
 |cons t l a=>rw[List.cons_append,Fj,Fj,a];omega
theorem Q7(t:Ab):1<=Er t:=by rw[Ng];omega
theorem Uy{l:List Ab}{i:Nat}(h:i<σ l):Jh (l.take (i+1))=Jh (l.take i)+Er l[i]:=by grind[aa,Acw,Fj,KJ]
theorem Aif{l:List Ab}(i:Nat):Jh (l.take i)<=Jh l:=by grind[Acw,List.take_append_drop]
theorem SX:∀(l:List Ab),σ l<=Jh l
 | []=>a6 _
 |t::l=>by have:=SX l;have:=Q7 t;rw[Fj,ae];omega
theorem Aqs:∀(n:Nat)(t:Ab){most:Int}{H:HY}{X:PX}{Q:Int×Unit->UU},SizeOf.sizeOf t<n->-1<=most->most<=30->(∀r:Int,-1<=r->r<=30->(0<=r->r+Er t<=most+1)->Q (r,()) () H)->qK 9 DX (t,most,()) H Q X
 |0,_,_,_,_,_,q,_,_,_=>qG q (a8 _)
 |n+1,t,most,H,X,Q,q,s,w,h=>by
  apply Rc;unfold Ls;rw[Ng]at h;refine⟨λm z=>m=σ t.qZ-z.2.1/\z.2.1<=σ t.qZ/\-1<=z.1/\z.1<=30/\(0<=z.1->z.1+Jh (t.qZ.take z.2.1)<=most),⟨_,rfl,rfl,a6 _,s,w,λ_=>by grind[Jh,KJ]⟩,?_⟩;rintro m ⟨x,k,_⟩ ⟨l,p,i,e,c⟩;have E:m=σ t.qZ-k:=l;have B:=p;have g:=i;have f:=e;have d:=c;refine λ_=>⟨λa=>⟨λb _=>?_,λb=>h x g f λj=>qG j b⟩,λa=>h x g f λj=>?_⟩
  .have a:k<σ t.qZ:=a;have b:=b;have o:SizeOf.sizeOf t.qZ[k]<n:=by
    have j:=List.sizeOf_lt_of_mem (ap a);have C:SizeOf.sizeOf t.qZ<SizeOf.sizeOf t:=by cases t;grind
    omega
   refine⟨a,λ_=>⟨Aq.2 (by omega),Aqs n _ o (by omega) (by omega) λr A u y=>⟨by grind,σ t.qZ-(k+1),by omega,rfl,rfl,by grind,A,u,λv=>?_⟩⟩⟩;grind[Er,Uy,Jh]
  grind
structure A4l(M:Mn)(n:Int):Prop where
 n:M.S.n=n
 nx:M.nx=2
 ln:σ M.hs=2
variable {H:HY} {X:PX}
theorem Av7{vars room:Int}{Q:Option Nat×Int×Unit->UU}(j:0<=vars/\vars<=64)(q:1<=room)(k:room<=1048576)(h:∀b M H',ArS b M H' M H'->M.ws=[]->M.S.po.room=room->A4l M vars->(∀p∈M.hs,p.2/2=0)->(∀c,H c≠ψ->H' c=H c)->H b=ψ->Q (ν b,0,()) () H'):qK 33 Td (vars,room,()) H Q X:=by
 refine Amb j q k λb M H' r a l i n m t _ s o _ f v=>h b M _ ⟨r,a,l,t,.refl,rfl,.refl⟩ i m ⟨n,s,o⟩ (λp g=>?_) f v;have u:=(a.ok _ _ (FV a.nd g)).1;rcases u.2 with e|⟨d,e⟩
 all_goals grind
theorem Afi{a:B0}{Q:Option Nat×Ae×Bool×Unit->UU}(s:Av3 a)(h:∀b M H',JI H' b M->MI M->MV M->M.ws=a.MH->M.S.po.room=1048576->A4l M (2*GH a.Aa)->Q (ν b,AM a.Aa,τ,()) () H'):qK 11 E0 (a,()) H Q X:=by
 refine wF Tryz.f11 {im:=[1]} (?_:qK 37 WB (a.Aa,()) H (λ(b:Ae×qV)_ G=>qK 32 Dr (a.Aa,()) G (λ(b1:qV)_ G=>IK b1.1->IK (2*b1.1)/\qK 33 Td ((2:den Y0.D (Ty.int .i64))*b1.1,(1048576:den Y0.D (Ty.int .i64)),()) G (λ(b2:Option Nat×qV)_ G=>letI E:=Q (b2.1,b.1,δ,()) () G;(b2.1=ψ->E)/\(¬b2.1=ψ->(¬b.2.1=0->E)/\(¬¬b.2.1=0->(¬b2.2.1=0->E)/\(¬¬b2.2.1=0->qK 38 Fm (b2.1,a.Order,()) G (λ(b3:qU)_ G=>(¬b3.1->Q (b2.1,b.1,δ,()) () G)/\(¬¬b3.1->dup (qK 39 Nl (b2.1,a.MH,()) G (λ(b4:qV)_ G=>Q (b2.1,b.1,φ (b4.1=0),()) () G) X))) X)))) X) X) X);have st:=s.t;have L:=s.n;refine Ama s.v (by omega) (by omega) λK I=>Nx (by omega) λ_ _ _=>⟨Aq.2 (by omega),Av7 (by omega) (by decide) (by decide) λb M G A ws D n v J N=>⟨λg=>qG g (by simp),λ_=>⟨λg=>qG rfl g,λ_=>⟨λg=>qG rfl g,λ_=>?_⟩⟩⟩⟩
 have k:=n.n;refine Ahn A v (by rw[n.nx];decide) (by rw[k];exact s.o) λj o d=>⟨λg=>qG rfl g,λ_=>Qb ?_⟩
 have y:=d.kp.n.trans k;refine Ad4 d.mn d.mi s.p (by rw[d.ws,ws];decide) (by rw[y];exact s.e) λi f=>?_;have p:MI i:=by rw[f];exact⟨d.mi.si,d.mi.nd,d.mi.ok,d.mi.k0,d.mi.k1,d.mi.nx,d.mi.rf,d.mi.ln⟩
 have t:MV i:=by rw[f];exact⟨d.mv.me,λe E C B=>let q:=d.mv.en e E C B;⟨q.of,q.og,q.oh,q.or,q.den,q.lev⟩⟩
 have l:=d.mn.ob;have u:∀{c m:Nat}{x:Y0.O m},o c=ν (.st m x)->m≠CW->c≠b:=λv z=>Bk v l z;have r:JI (Ac o b (.st CW i.ob)) b i:=by
  have w:JI (Ac o b (.st CW i.ob)) b {j with ws:=j.ws++a.MH,ca:=i.ca}:=by
   refine⟨?_,d.mn.st.other l (by decide) (by decide) (by decide) (by decide),?_⟩
   .rw[Ah];congr 2;rw[f]
   .rw[Ad _ _ (u d.mn.me (by decide))];exact d.mn.me
  grind
 refine h b i _ r p t ?_ ?_ ⟨?_,?_,?_⟩
 .rw[f];show j.ws++a.MH=a.MH;rw[d.ws,ws];rfl
 .rw[f];exact d.kp.room.trans D
 .grind
 .rw[f];exact d.kp.nx.trans n.nx
 .rw[f];show σ j.hs=2;rw[d.kp.hs];exact n.ln
theorem Aaq{v:Nat}{Q:Int×Unit->UU}(f:v<=30)(h:Q (2^v,()) () H):qK 120 EG ((v:Int),()) H Q X:=by
 refine wF Tryz.f120 {lp:=[(3,⟨[(3,.one (.dat I6)),(4,.nat)],[0],δ⟩)]} (?_:∃(V:Nat->Int×Nat×UT->Prop),(∃(n:Nat),H=H/\V n (1,0,()))/\∀n x,V n x->((x.2.1:Int)<(v:Int)->IK x.1->IK (2*x.1)/\x.2.1+1<=2^63-1/\∃m,m<n/\H=H/\V m (2*x.1,x.2.1+1,()))/\(¬(x.2.1:Int)<(v:Int)->Q (x.1,()) () H));refine⟨λm z=>m=v-z.2.1/\z.2.1<=v/\z.1=2^z.2.1,⟨_,rfl,rfl,a6 _,rfl⟩,?_⟩;rintro m ⟨x,k,_⟩ ⟨b,d,c⟩;have j:m=v-k:=b;have i:k<=v:=d;have e:x=2^k:=c;have g:(2:Int)^k<=1073741824/\0<=(2:Int)^k:=by have:2^k<=2^30:=ag (by omega) (by omega);grind
 refine⟨λa _=>?_,λa=>?_⟩
 .have a:=a;refine⟨Aq.2 (by omega),by grind,v-(k+1),by omega,rfl,rfl,by grind,?_⟩;show 2*x=2^(k+1);rw[e,Int.pow_succ,Int.mul_comm]
 grind
theorem Mh{i v:Nat}{Q:Bool×Unit->UU}(hi:i<=1000000)(e:v<=30)(h:Q (φ (i/2^v%2=1),()) () H):qK 51 Ce ((i:Int),(v:Int),()) H Q X:=by
 refine wF Tryz.f51 {} (?_:qK 120 EG ((v:Int),()) H (λ(b:qV)_ G=>letI E:=(i:Int).tdiv b.1;IK (i:Int)->IK b.1->¬b.1=0/\IK E/\(IK E->¬(2:Int)=0/\IK (E.tmod 2)/\Q (φ (E.tmod (2:Int)=1),()) () G)) X);have d:0<2^v:=Nat.pow_pos (by omega);have a:(i:Int).tdiv (2^v)=(i/2^v:Int):=by rfl
 have f:i/2^v<=i:=bm _ _;have b:=(Int.ofNat_tmod (i/2^v) 2).symm;refine Aaq e λ_ _=>⟨?_,?_,λ_=>⟨by decide,?_,?_⟩⟩
 .grind
 .grind[Bl,Aq]
 .grind[Bl,Nat.mod_lt,Aq]
 .show Q _ _ H;have:φ ((((i:Int)).tdiv (2^v)).tmod 2=1)=φ (i/2^v%2=1):=by grind
  grind
def NT(n k:Nat):B.As:=λv=>((am n).map λ(u:Nat)=>φ (k/2^u%2=1)).getD v.toNat δ
theorem Arp{n k u:Nat}(h:u<n):NT n k (u:Int)=φ (k/2^u%2=1):=by grind[NT]
theorem Afb{b:Nat}{M:Mn}{g:Int}{k:Nat}{F:B.Fn}{Q:Bool×Unit->UU}(p:JI H b M)(q:MI M)(t:M.Ar g=ν F)(y:M.S.n<=8)(s:k<=1000000)(h:Q (F (NT M.S.n.toNat k),()) () H):qK 17 BR (ν b,g,(k:Int),()) H Q X:=by
 refine wF Tryz.f17 {lp:=[(3,⟨[(7,.one (.own .bool)),(8,.nat)],[0,1,2],τ⟩)]} (?_:LV (ν b) g (k:Int) H Q X);unfold LV;have x:=@B9.Lm M.S;refine⟨λm z r=>r=H/\m=M.S.n.toNat-z.2.1/\z.2.1<=M.S.n.toNat/\z.1=(am z.2.1).map λu=>φ (k/2^u%2=1),⟨_,rfl,rfl,a6 _,rfl⟩,?_⟩;rintro m ⟨l,v,_⟩ r ⟨rfl,d,j,f⟩;have A:m=M.S.n.toNat-v:=d;have w:v<=M.S.n.toNat:=j;have n:l=(am v).map _:=f;have o:σ l=v:=by grind
 refine MS p q ⟨λa=>?_,λa=>?_⟩
 .have a:=a;refine Mh s (by omega) ⟨by grind,by grind,M.S.n.toNat-(v+1),by omega,rfl,rfl,by grind,?_⟩;show l++[_]=(am _).map _;rw[List.range_succ,aj,n];rfl
 .have a:=a;have i:v=M.S.n.toNat:=by omega
  refine Ad6 p q t (by grind) ?_;have e:(λv=>l.getD v.toNat δ)=NT M.S.n.toNat k:=by unfold NT;rw[n,i]
  grind
end
section
def nmE:ByteArray:={data:={toList:=[]:Array UInt8}:ByteArray}
def nmN:ByteArray:={data:={toList:=[(110:UInt8)]:Array UInt8}:ByteArray}
def Uk:Al:={qJ:=nmN,Bool:=δ,Lo:=(0:Int),Hi:=(2:Int):Al}
def trN:Ab:={Op:=(3:Int),N:=(0:Int),qJ:=nmN,qZ:=[]:Ab}
def tr1:Ab:={Op:=(1:Int),N:=(1:Int),qJ:=nmE,qZ:=[]:Ab}
def trL:Ab:={Op:=(14:Int),N:=(0:Int),qJ:=nmE,qZ:=[trN,tr1]:Ab}
theorem A6q:¬nmN={data:={toList:=[]:Array UInt8}:ByteArray}:=Aii.2 (by decide)
theorem SS(t:Ab):Ab.mk t.Op t.N t.qJ t.qZ=t:=by cases t;rfl
variable {H:HY} {X:PX}
theorem TA{op:Int}{Q:Int×Int×Unit->UU}(a:op=1∨op=3)(h:Q (0,0,()) () H):qK 219 HI (op,()) H Q X:=by
 refine wF Tryz.f219 {} (?_:HE op H Q X);unfold HE;rcases a with e|e<;>subst e <;>
 repeat' first
  |exact h
  |(intro b;exact qG b (by decide))
  |refine⟨?_,?_⟩
  |intro _
theorem Aef{Q:Int×Int×Unit->UU}(h:Q (2,2,()) () H):qK 219 HI (14,()) H Q X:=by grind[Aaa,HE]
def Aru(t:Ab):Prop:=∀(H:HY)(X:PX)(Q:Int×Unit->UU),Q (0,()) () H->qK 166 Gr (t,()) H Q X
theorem Asw:Aru trN:=by
 intro H X Q h;apply Nc;unfold Gf;refine TA (.inr rfl) ?_;repeat' first
  |exact h
  |(intro a;exact qG a _)
  |(intro a;exact qG _ a)
  |(intro a;exact qG a (by decide))
  |refine⟨?_,?_⟩
  |intro _
theorem Asy:Aru tr1:=by
 intro H X Q h;apply Nc;unfold Gf;refine TA (.inl rfl) ?_;repeat' first
  |exact h
  |(intro a;exact qG _ a)
  |(intro a;exact qG a (by decide))
  |refine⟨?_,?_⟩
  |intro _
theorem Asx:Aru trL:=by
 intro H X Q h;apply Nc;unfold Gf;refine Aef ?_;repeat' first
  |exact h
  |(intro a;exact qG _ a)
  |(intro a;exact qG a (by decide))
  |refine⟨?_,?_⟩
  |intro _
def CkP:Nat->Int->Ab->Prop
 |0,_,_=>False
 |f+1,deep,t=>deep<=64/\Aru t/\σ t.qZ<=64/\∀k∈t.qZ,CkP f (deep+1) k
def CkN:Nat->Nat
 |0=>0
 |f+1=>1+64*CkN f
abbrev CkC(n w:Nat):FT Y0 [.u 3,.int .i64] [.bool]:=λ(a:Ab×Int×Unit)(H:HY)(Q:Bool×Unit->HP)(X:Nat->Lf Y0.D->HP)=>qK 165 EA (a.1,a.2.1,ν n,ν w,()) H (λ(b:Bool×Unit)(_:Unit)(H':HY)=>Q (b.1,()) H') X
variable {t:Ab}
theorem Avn{deep x y:Int}{n w:Nat}{Q:Bool×Unit->UU}(c:Aru t)(g:deep<=64)(f:0<=x/\x+1<=4096)(a:n≠w)(e:H n=ν (.st Cc x))(d:H w=ν (.st Cc y))(h:Q (τ,()) () (Ac (Ac H n (.st Cc (x+1))) w (.st Cc (0:Int)))):qK 165 EA (t,deep,ν n,ν w,()) H Q X:=by refine wF Tryz.f165 {im:=[4]} (?_:IC t deep (ν n) (ν w) H Q X);unfold IC;refine⟨n,rfl,x,e,λ_=>⟨Aq.2 (by omega),λb=>qG b (by omega),λ_=>c _ _ _ ⟨w,rfl,y,by simp_all[Ad,Ne.symm],λ_=>⟨x+1,by grind[Ad,Ah],λb=>qG b (by omega),λ_=>⟨rfl,0,Ah _ _ _,rfl,h⟩⟩,λb=>qG rfl b⟩⟩⟩
theorem Ah7{n w:Nat}(d:n≠w):∀(f:Nat)(a:Int)(t:Ab)(x:Int){H:HY}{X:PX}{Q:Bool×Unit->UU},CkP f a t->0<=a->H n=ν (.st Cc x)->H w=ν (.st Cc (0:Int))->0<=x->x+(CkN f:Int)<=4096->(∀H' x',x<=x'->x'<=x+(CkN f:Int)->H' n=ν (.st Cc x')->H' w=ν (.st Cc (0:Int))->(∀c,c≠n->c≠w->H' c=H c)->Q (τ,()) () H')->qK 164 HG (t,a,CkC n w,()) H Q X
 |0,_,_,_,_,_,_,h,_,_,_,_,_,_=>h.elim
 |f+1,a,t,x,H,X,Q,⟨F,J,W,K⟩,V,G,I,D,E,h=>by
  apply SP;unfold NZ;have O:(CkN (f+1):Int)=1+64*(CkN f:Int):=by rfl
  rw[O]at E h;refine Avn J F ⟨D,by omega⟩ d G I ⟨λo=>qG rfl o,λ_ _=>⟨λm z H'=>m=σ t.qZ-z.1/\z.1<=σ t.qZ/\∃x',x<=x'/\x'<=x+1+(z.1:Int)*CkN f/\H' n=ν (.st Cc x')/\H' w=ν _/\∀c,c≠n->c≠w->H' c=H c,⟨_,rfl,a6 _,x+1,by omega,by simp,by grind[Ad,Ah],Ah _ _ _,λc i g=>by rw[Ad _ _ g,Ad _ _ i]⟩,?_⟩⟩;rintro m ⟨k,_⟩ H' ⟨j,r,x',q,e,u,y,A⟩;have U:=j;have P:=r;have B:x'<=x+1+(k:Int)*(CkN f:Int):=e;have v:(k:Int)*(CkN f:Int)<=64*(CkN f:Int):=ab (by omega) (by omega);refine⟨λb _=>?_,λ_=>h H' x' q (by omega) u y A⟩;have b:=b;refine⟨b,λ_=>⟨Aq.2 (by omega),?_⟩⟩;have p:(k+1:Nat)*CkN f=k*CkN f+(CkN f:Int):=by rw[show ((k+1:Nat):Int)=(k:Int)+1 by omega,Int.add_mul,Int.one_mul]
  have l:((k+1:Nat):Int)*CkN f<=64*CkN f:=ab (by omega) (by omega);show qK _ _ _ H' _ X;rw[SS];refine Ah7 d f (a+1) t.qZ[k] x' (K _ (ap b)) (by omega) u y (by omega) (by omega) λR s T S L C M=>⟨λo=>qG rfl o,λ_=>⟨by grind,σ t.qZ-(k+1),by omega,rfl,by grind,s,by omega,?_,L,C,λc i g=>(M c i g).trans (A c i g)⟩⟩
  grind
theorem Ase{f:Nat}{Q:Int×Unit->UU}(m:CkP f 1 t)(q:CkN f<=4096)(h:∀H',(∀c,H c≠ψ->H' c=H c)->Q (0,()) () H'):qK 90 Gr (t,()) H Q X:=by
 refine wF Tryz.f90 {pr:=[(3,8),(4,8)],im:=[1]} (?_:Kv t H Q X);unfold Kv;intro w l n d;have a:n≠w:=λe=>by grind[Ah]
 have j:H n=ψ:=by grind[Ad]
 refine⟨0,by rw[Ad _ _ (Ne.symm a),Ah],0,by rw[Ad _ _ a,Ah],?_⟩;refine Ah7 a f 1 t 0 m (by decide) (Ah _ _ _) (by rw[Ad _ _ (Ne.symm a),Ah]) (Int.le_refl _) (by omega) λH' p _ _ _ o k=>⟨0,o,rfl,h _ λc b=>?_⟩
 have i:c≠n:=λe=>b (by grind);have g:c≠w:=λe=>b (by grind);rw[k c i g,Ad _ _ i,Ad _ _ g,Ad _ _ i,Ad _ _ g]
theorem A7y:CkP 2 1 trL:=by
 refine⟨by decide,Asx,by decide,λk a=>?_⟩;rcases List.mem_cons.1 a with e|a
 .rw[e];exact⟨by decide,Asw,by decide,λk a=>by cases a⟩
 .rw[ak.1 a];exact⟨by decide,Asy,by decide,λk a=>by cases a⟩
def YA:List (ByteArray×Int):=[(nmN,0)]
theorem Apj{Q:List (ByteArray×Int)×Unit->UU}(h:Q (YA,()) () H):qK 92 Ky ([Uk],()) H Q X:=by
 refine wF Tryz.f92 {lp:=[(3,⟨[(3,.map .str I6),(11,.nat)],[9,10],δ⟩)]} (?_:Ku [Uk] H Q X);unfold Ku;refine λ_=>⟨λm z=>m=1/\z.1=[]/\z.2.1=0∨m=0/\z.1=YA/\z.2.1=1,⟨_,rfl,.inl ⟨rfl,rfl,rfl⟩⟩,?_⟩
 rintro m ⟨d,k,_⟩ e;rcases e with ⟨f,a,b⟩|⟨f,a,b⟩
 .have a:=a;have b:=b;subst a b;refine⟨λ_ _=>⟨by omega,λ_=>⟨by omega,0,by omega,rfl,.inr ⟨rfl,rfl,rfl⟩⟩,λc=>qG (show ¬(Ag _ _).isSome=τ by simp [Ag]) c⟩,λc=>qG (show 0<1 by decide) c⟩
 .have a:=a;have b:=b;subst a b;exact⟨λc=>qG c (by show ¬1<1;decide),λ_=>h⟩
theorem Aag{lo hi:Int}{Q:Af×Int×Unit->UU}(e:-1048576<=lo)(d:hi<=1048576)(c:lo<=hi)(b:hi-lo<=4096)(h:Q ({Bool:=δ,Lo:=lo,Hi:=hi:Af},0,()) () H):qK 220 AL (lo,hi,()) H Q X:=by grind[ZZ,L6,Aq]
theorem Azo:Ag YA nmN=ν 0:=by simp [Ag,YA]
variable {Q:Af×Int×Unit->List (ByteArray×Int)×Unit->HP}
theorem Ayt(h:Q ({Bool:=δ,Lo:=1,Hi:=1:Af},0,()) (YA,()) H):qK 167 F5 ([Uk],YA,tr1,τ,[],()) H Q X:=by refine wF Tryz.f167 {im:=[7]} (?_:ED [Uk] YA tr1 τ [] H Q X);unfold ED;exact⟨λ_=>Aag (by decide) (by decide) (by decide) (by decide) h,λa=>qG rfl a⟩
theorem Ayr(h:Q ({Bool:=δ,Lo:=0,Hi:=2:Af},0,()) (YA,()) H):qK 167 F5 ([Uk],YA,trN,τ,[],()) H Q X:=by
 refine wF Tryz.f167 {im:=[7]} (?_:ED [Uk] YA trN τ [] H Q X);unfold ED;have e:Ag YA trN.qJ=ν 0:=Azo;rw[e];have a:Wp _ _ AL _ H (λb f d=>Q (b.1,b.2.1,()) _ d) X:=Aag (by decide) (by decide) (by decide) (by decide) h;repeat' first
  |exact a
  |(intro c;exact qG c (by decide))
  |refine⟨?_,?_⟩
  |intro _
  |decide
theorem Ays(h:Q ({Bool:=δ,Lo:=1,Hi:=3:Af},0,()) (YA,()) H):qK 167 F5 ([Uk],YA,trL,τ,[{Bool:=δ,Lo:=0,Hi:=2:Af},{Bool:=δ,Lo:=1,Hi:=1:Af}],()) H Q X:=by
 refine wF Tryz.f167 {im:=[7]} (?_:ED [Uk] YA trL τ [{Bool:=δ,Lo:=0,Hi:=2:Af},{Bool:=δ,Lo:=1,Hi:=1:Af}] H Q X);unfold ED;have a:Wp _ 222 Fo (14,{Bool:=δ,Lo:=0,Hi:=2:Af},{Bool:=δ,Lo:=1,Hi:=1:Af},()) H (λb f d=>Q (b.1,b.2.1,()) (YA,()) d) X:=by apply Ux;unfold HD;exact⟨λc=>qG c (by decide),λ_=>⟨λ_ _ _=>⟨Aq.2 (by decide),λ_ _=>⟨Aq.2 (by decide),Aag (by decide) (by decide) (by decide) (by decide) h⟩⟩,λc=>qG rfl c⟩⟩
 repeat' first
  |exact a
  |(intro e;exact qG e (by decide))
  |refine⟨?_,?_⟩
  |intro _
  |decide
def Av2(t:Ab)(ty:Af):Prop:=∀(H:HY)(X:PX)(Q:Af×Int×Unit->List (ByteArray×Int)×Unit->HP),Q (ty,0,()) (YA,()) H->qK 91 Gg ([Uk],YA,t,τ,()) H Q X
theorem Ah9{ty:Af}(f:t.qZ=[])(e:∀(H:HY)(X:PX)(Q:Af×Int×Unit->List (ByteArray×Int)×Unit->HP),Q (ty,0,()) (YA,()) H->qK 167 F5 ([Uk],YA,t,τ,[],()) H Q X):Av2 t ty:=by
 intro H X Q h;apply Nf;unfold Kt;refine λ_=>⟨λm z=>z.1=YA/\z.2.2.1=[]/\z.2.2.2.1=0,⟨0,rfl,rfl,rfl,rfl⟩,?_⟩
 rintro m ⟨g,i,l,k,_⟩ ⟨a,b,c⟩;have a:=a;have b:=b;have c:=c;subst a b c;exact⟨λd=>qG d (by grind),λ_=>e _ _ _ h⟩
theorem A50:Av2 trN {Bool:=δ,Lo:=0,Hi:=2:Af}:=Ah9 rfl λ_ _ _ h=>Ayr h
theorem A52:Av2 tr1 {Bool:=δ,Lo:=1,Hi:=1:Af}:=Ah9 rfl λ_ _ _ h=>Ayt h
theorem A51:Av2 trL {Bool:=δ,Lo:=1,Hi:=3:Af}:=by
 intro H X Q h;apply Nf;unfold Kt;refine λ_=>⟨λm z=>m=2-z.2.2.2.1/\z.1=YA/\(z.2.2.2.1=0/\z.2.2.1=[]∨z.2.2.2.1=1/\z.2.2.1=[{Bool:=δ,Lo:=0,Hi:=2:Af}]∨z.2.2.2.1=2/\z.2.2.1=[{Bool:=δ,Lo:=0,Hi:=2:Af},{Bool:=δ,Lo:=1,Hi:=1:Af}]),⟨_,rfl,rfl,rfl,.inl ⟨rfl,rfl⟩⟩,?_⟩
 rintro m ⟨g,i,l,k,_⟩ ⟨f,e,d⟩;have e:=e;subst e;rcases d with ⟨a,b⟩|⟨a,b⟩|⟨a,b⟩
 .have a:=a;have b:=b;subst a b;refine⟨λ_ _=>⟨by omega,?_⟩,λc=>qG (show 0<2 by decide) c⟩;show Wp _ _ _ _ H _ X;exact A50 _ _ _ ⟨λc=>qG rfl c,λ_=>⟨by simp,by simp,1,by omega,rfl,rfl,rfl,.inr (.inl ⟨rfl,rfl⟩)⟩⟩
 .have a:=a;have b:=b;subst a b;refine⟨λ_ _=>⟨by omega,?_⟩,λc=>qG (show 1<2 by decide) c⟩;show Wp _ _ _ _ H _ X;exact A52 _ _ _ ⟨λc=>qG rfl c,λ_=>⟨by simp,by simp,0,by omega,rfl,rfl,rfl,.inr (.inr ⟨rfl,rfl⟩)⟩⟩
 .have a:=a;have b:=b;subst a b;exact⟨λc=>qG c (by show ¬2<2;decide),λ_=>Ays h⟩
theorem A1p{Q:Af×Int×Unit->UU}(h:∀H',(∀c,H c≠ψ->H' c=H c)->Q ({Bool:=δ,Lo:=1,Hi:=3:Af},0,()) () H'):qK 41 EE ([Uk],trL,τ,()) H Q X:=by refine wF Tryz.f41 {im:=[4]} (?_:L7 [Uk] trL τ H Q X);unfold L7;exact Ase A7y (by decide) λH' f=>⟨λa=>qG rfl a,λ_=>Apj (A51 _ _ _ (h _ f))⟩
end
section
variable {L:Ae} {i:Nat}
theorem JJ.A7u(h:JJ L)(hi:i<σ L.Aa):FW L.Aa[i]<=QS L.Aa[i]/\(Oy L.Aa[i]:Int)=QS L.Aa[i]-FW L.Aa[i]+1:=by obtain⟨a,b,d,c⟩:=h.fit i hi (by rw[h.lb];exact hi);grind[Oy]
variable {next:Bool} {a:B.As}
theorem Zg(b:JJ L)(hi:i<σ L.Aa):Rr L next i ((L.Aa[i]?.map Oy).getD 0) a=τ↔(CB L next i a).isSome=τ:=by
 have g:=b.A7u hi;unfold Rr Aou;rw[a5 hi];simp only[Option.map_some,an,bi,b8,aw];constructor
 .rintro⟨F,⟨j,f,rfl⟩,c⟩;have:=(Jc b _   ).2 ⟨by omega,c⟩;grind
 .intro h;obtain⟨n,e⟩:=Option.isSome_iff_exists.1 h;obtain⟨k,d⟩:=(Jc b _).1 e;exact⟨_,⟨(n-FW L.Aa[i]).toNat,by omega,rfl⟩,by grind⟩
theorem NO(c:JJ L):Io L next (σ L.Aa) a=τ↔∀i(_:i<σ L.Aa),(CB L next i a).isSome=τ:=by
 unfold Io Afc;simp only[List.all_eq_true,b8,aw];constructor
 .intro h i b;exact(Zg c b).1 (h _ ⟨i,b,rfl⟩)
 .rintro h F ⟨i,b,rfl⟩;grind[Zg]
theorem MZ{a b:B.As}:∀{l:List Int},(∀v∈l,a v=b v)->CE a l=CE b l
 | [],_=>rfl
 |v::l,h=>by rw[Hw,Hw,h v ay,MZ λu c=>h u (bc _ c)]
theorem Alx(f:LK L){n:Int}(g:2*Fy L<=n)(hi:i<σ L.Aa):VD n (CB L next i):=λa b e=>by have:=SZ f hi (next:=next).2.2;have d:=MZ λv c=>e v (this v c).1 (by grind);unfold CB;rw[d]
noncomputable def LL:Ae:=AM [Uk]
def aL:B0:={Aa:=[Uk],Order:=[],MH:=[]}
theorem Aza:Ar5 nmN:=by
 refine⟨by decide,by decide,λ_=>?_,λi h=>?_,λh=>?_⟩
 .rfl
 .have h:i<1:=h;obtain rfl:i=0:=by omega
  rfl
 .have:=au (f:=λs=>s.data.toList) h;revert this;show ¬[110]∈Ib.map _;decide
theorem Ang:NP [Uk]:=by
 refine⟨λi h=>?_,λk i a b=>?_⟩
 .have h:i<1:=h;obtain rfl:i=0:=by omega
  exact⟨Aza,λe=>qG e (by show ¬Uk.Bool=τ;decide),λ_=>by show Uk.Lo<=Uk.Hi/\-255<=Uk.Lo/\Uk.Hi<=255/\Uk.Hi-Uk.Lo<64;decide⟩
 grind
theorem Aw9:GF (DC Uk)=2:=by
 have:DC Uk=3:=by decide
 rw[this];exact Qv ⟨by decide,λj a=>by
  have:j=0∨j=1:=by omega
  rcases this with e|e<;>subst e<;>decide⟩
theorem Axv:GH [Uk]=2:=by grind[GH,Dj,Cd,Aw9]
theorem Amv:JJ LL:=XG Ang (by decide)
theorem Ar6:Fy LL=2:=TT.trans Axv
theorem smL:Av3 aL:=⟨Ang,by decide,by show 0<=GH [Uk]/\GH [Uk]<=4;grind[Axv],by decide,λi h=>qG h (a8 _),.inl rfl⟩
theorem Atd:Cu LL 0 next=if next=τ then [1,3] else [0,2]:=by
 have c:Ny LL 0=[0,2]:=by
  unfold Ny;have a:LL.Bits[0]?=ν 2:=by show (Cd _)[0]?=ν 2;grind[Cd,Aw9]
  have b:LL.At[0]?=ν 0:=by rfl
  rw[a,b];rfl
 grind[Cu]
theorem QN:CB LL next 0 a=if CE a (if next=τ then [1,3] else [0,2])<=2 then ν (CE a (if next=τ then [1,3] else [0,2]):Int) else ψ:=by have e:LL.Aa[0]?=ν _:=rfl;unfold CB;rw[e,Atd];generalize CE a _=k;show (if (0:Int)+k<=2 then ν ((0:Int)+k) else ψ)=_;grind
theorem Ag4:AY LL.Aa trN.qJ=0:=by rfl
noncomputable def VL:B.As->Option Int:=Zs (opF trL.Op) (CB LL (φ (trN.Op=4)) (AY LL.Aa trN.qJ)) (λ_=>ν tr1.N)
theorem Arw:VL a=if CE a [0,2]<=2 then ν ((CE a [0,2]:Int)+1) else ψ:=by
 unfold VL Zs;rw[Ag4,show decide _=δ from rfl,QN];show Option.bind (if CE a [0,2]<=2 then ν _ else ψ) _=_;by_cases h:CE a [0,2]<=2
 .rw[UV h,UV h];rfl
 grind
theorem A3h{n0:Int}(c:2*Fy LL<=n0):VV LL n0 trL (gV VL) 256 (20+1+32+2000) (256+16+1+20+1):=by
 have f:AY LL.Aa trN.qJ<σ LL.Aa:=by rw[Ag4];decide
 unfold VL;intro j b i M g H X Q;refine Zw  (by decide)      (.inl rfl) rfl (Vr Amv c (.inl rfl) f) (Ts  rfl) ?_ (λ_ _ _=>rfl) (λa n h=>?_) (λa n h=>?_) (λe=>qG e (by decide)) (by decide) (by decide) rfl rfl
 .exact Alx Amv.toLK (by grind[Ar6]) f
 .rw[Ag4,show decide _=δ from rfl,QN]at h;grind
 .have h:=ai h;have:n=1:=h.symm;omega
theorem A8r:CJ (Io LL δ (σ LL.Aa)) (Io LL τ (σ LL.Aa)) a=τ↔CE a [0,2]<=2/\CE a [1,3]<=2:=by
 have c:∀{b:Bool},Io _ b _ a=τ↔CE a (if b=τ then [1,3] else [0,2])<=2:=λ{b}=>by
  rw[NO Amv];refine⟨λh=>?_,λh i e=>?_⟩
  .have:=h 0 (by decide);simp_all[QN]
  .have e:i<1:=e;obtain rfl:i=0:=by omega
   simp_all[QN]
 grind[CJ]
theorem As7{l:List Int}(hs:l.Pairwise (·<·))(c:∀n,n∈l↔n=1∨n=2∨n=3):l=[1,2,3]:=by
 have p:l.Perm [1,2,3]:=(ax (hs.imp λh=>by omega) (by decide)).2 λn=>by grind
 exact List.Perm.eq_of_pairwise  λa b _ _ e d=>by omega hs (by decide) p
theorem Are{M M':Mn}{cs:List Df}(h:Ahu M M' VL (CJ (Io LL δ (σ LL.Aa)) (Io LL τ (σ LL.Aa))) cs):cs.map (·.N)=[1,2,3]:=by
 refine As7 h.srt λn=>?_;rw[h.mem];refine⟨λ⟨a,b,d⟩=>?_,λg=>?_⟩
 .grind[Arw]
 .have c:∀x y(k:Int),CE _ _<=2->CE (λv=>if v=0 then x else if v=2 then y else δ) _+1=k->CE _ _<=2->∃a,VL a=ν k/\CJ _ _ a=τ:=λx y k b d f=>⟨_,by rw[Arw,UV b,d],A8r.2 ⟨b,f⟩⟩
  rcases g with e|e|e
  .rw[e];exact c δ δ 1 (by decide) (by decide) (by decide)
  .rw[e];exact c τ δ 2 (by decide) (by decide) (by decide)
  .rw[e];exact c δ τ 3 (by decide) (by decide) (by decide)
theorem Apv{H:HY}{X:PX}{Q:Bool×Unit->UU}(h:∀H',Q (τ,()) () H'):qK 10 Bt () H Q X:=by
 apply OY;unfold JT;refine Afi  smL λb M H1 W mi mv Z rm D=>⟨λd=>qG rfl d,λ_=>?_⟩
 have w:M.S.n=4:=by rw[D.n];show 2*GH [Uk]=4;grind[Axv]
 have g:MG H1 b M:=⟨W,mi,mv,(by rw[Z];intro ev O;cases O),by omega,rm⟩
 have m:2*Fy LL<=M.S.n:=by grind[Ar6]
 have nx2:=D.nx;have G:=D.ln;refine Yb   (V:=VL)  (e:=0)    g (by omega) (by omega) Amv m (λH X Q U=>A1p U) (λ_ _=>A3h m) (λC=>qG rfl C) (λ_ C=>qG C (by decide)) λ_ _ S H2 E P A Y _=>?_;have B:=Are A;have l3:σ E=3:=by have:=congrArg σ B;grind
 obtain⟨v,n,u,rfl⟩:∃v n u,E=[v,n,u]:=by
  match E,l3 with
  | [v,n,u],_=>simp
 have e0:v.N=1:=by grind
 have e1:n.N=2:=by grind
 have e2:u.N=3:=by grind
 have K:=A.ln;have T:=A.bs.n.trans w;refine XZ (L:=LL) (next:=δ) P (by omega) (by omega) Amv (λF=>qG F (by omega)) λ_ f H3 r s j nx4 _=>?_;have n3:=j.bs.n.trans T;have N:=j.Ar r;rw[UV rfl]at N;have z:∀k,Io LL δ _ (NT f.S.n.toNat k)=τ↔CE (NT f.S.n.toNat k) [0,2]<=2:=λk=>by
  rw[NO Amv];refine⟨λh=>?_,λh i R=>?_⟩
  .have:=h 0 (by decide);grind[QN]
  .have R:i<1:=R;obtain rfl:i=0:=by omega
   grind[QN]
 have o:f.S.n.toNat=4:=by omega
 have I:f.Ar n.H=ν (gV VL 2):=by
  have p:=A.Ar n (by simp);rw[e1]at p;rw[j.Ar,GT _]
  .exact p
  .have h2:=j.ge;have h3:∃x,Ag S.hs n.H=ν x:=by grind[Mn.Gj]
   obtain⟨x,J⟩:=h3;have:=(P.i.ok _ _ J).2.2;omega
 refine⟨λ_=>⟨λ_ _=>⟨λ_=>⟨λ_=>by omega,by simp,by simp,λ_=>⟨λ_=>by omega,by simp,by simp,λ_=>Afb (k:=4) s.h s.i N (by omega) (by decide) ⟨λ_=>Afb (k:=5) s.h s.i N (by omega) (by decide) ⟨λ_=>⟨λ_=>by omega,by simp,by simp,Afb (k:=1) s.h s.i I (by omega) (by decide) ?_⟩,λd=>?_⟩,λd=>?_⟩,λd=>qG e2 d⟩,λd=>qG e0 d⟩,λd=>qG rfl d⟩,λd=>qG rfl d⟩,λd=>qG rfl d⟩
 .have:gV VL 2 (NT f.S.n.toNat 1)=τ:=by rw[Hk,Arw,o];rfl
  grind
 .have d:=d;have:=(z 5).1 (a7.1 d);rw[o]at this;exact qG this (by decide)
 .have d:=d;refine qG ((z 4).2 ?_) d;rw[o];decide
end
end Go.Proofs.YtcbkbpjlbmalmaaGreatDoor
