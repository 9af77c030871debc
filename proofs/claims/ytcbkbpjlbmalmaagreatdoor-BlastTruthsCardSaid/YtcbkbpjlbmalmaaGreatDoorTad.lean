/-
  What an operation sees: Level, Edge, Split, Top, Mk. (Merged by program out of 20 texts.)
-/
import Derived.Test.YtcbkbpjlbmalmaaGreatDoorTac
import Derived.Deep.Slices
import Derived.Below
import Derived.ChangeOld
import Derived.ProofKit
import Derived.OpenShut
import Derived.ShutString
import Derived.FnData
import Derived.Shelf.SlSortCmp.WholeK
open List renaming replicate->a2,getElem?_set_ne->a7,nodup_cons->ab,getElem?_append_left->ac,getElem?_eq_getElem->ad,getElem?_eq_none->ae,length_set->af,pairwise_map->ag,getElem?_eq_some_iff->ah,mem_append->ai,mem_map->ak,length_cons->am,mem_append_left->ao,getD_eq_getElem?_getD->aq,getElem?_append_right->au,Nodup->av,range->aw,length_map->ay,length_replicate->az,mem_range->ba,replicate_succ'->bb,mem_iff_getElem->bc,getElem?_range->be,map_cons->bg,length_append->bh,getElem?_map->bj,map_nil->bk,nodup_append->bm,append_assoc->bn,getElem_mem->bo,mem_filter->br,cons.injEq->bu,mem_cons->bw,drop->bx,length->c6
open Classical renaming not_not->a6,epsilon_spec->ax,epsilon->bi
open Option renaming isSome_iff_exists->a8
open Int renaming toNat->aa,le_refl->aj,le_trans->c0
open Bool renaming false_xor->ap
open Nat renaming mod_two_eq_zero_or_one->ar,testBit_div_two->bf,zero_le->bq,testBit_xor->bt,pow_succ->bz
open Eq renaming mp->b0
open Prod renaming mk.injEq->bv
namespace Go.B
section
def fl(e s:Int):Int:=if s%2=1 then flip e else e
variable {e s:Int}
theorem Aeh:fl e s/2=e/2:=by grind[fl,Lj]
theorem At4:fl (fl e s) s=e:=by grind[fl,flip_flip]
theorem QF{f:Int}(h:fl e s=fl f s):e=f:=by rw[<-At4 (e:=e) (s:=s),h,At4]
theorem TF:fl e e%2=0:=by grind[fl,RS]
theorem An2:fl e s%2=(e+s)%2:=by grind[fl,RS]
theorem RV{t:Int}(h:s%2=t%2):fl e s=fl e t:=by unfold fl;rw[h]
section
variable {n:Int} {lv:Int->Int} {N:Tb}
variable {e s:Int}
theorem Ok.fl(h:Ok N e):Ok N (fl e s):=by unfold B.fl;split;exact h.flip;exact h
theorem K8:el n lv N (fl e s)=el n lv N e:=by unfold el;rw[Aeh]
theorem J4(h:Ok N e)(a:As):den N (fl e s) a=(decide (s%2=1) ^^ den N e a):=by grind[fl,HM]
def sp(N:Tb)(y f:Int):Int×Int:=match N (f/2) with
 |some d=>if d.v=y then (fl d.lo f,fl d.hi f) else (f,f)
 |none=>(f,f)
theorem Good.zero(g:Good n lv N):N 0=none:=by
 cases h:N 0 with
 |none=>rfl
 |some d=>have:=(g.var h).1;omega
variable {y f:Int}
theorem Good.I8(g:Good n lv N)(q:0<=n)(i:0<=y/\y<n)(k:Ok N f)(s:lv y<=el n lv N f):Ok N (sp N y f).1/\Ok N (sp N y f).2/\lv y<el n lv N (sp N y f).1/\lv y<el n lv N (sp N y f).2/\(∀a,den N f a=if a y=true then den N (sp N y f).2 a else den N (sp N y f).1 a)/\(f%2=0->(sp N y f).2%2=0):=by
 have b:lv y<el n lv N f->Ok N f/\Ok N f/\lv y<el n lv N f/\lv y<el n lv N f/\(∀a:As,den N f a=if a y=true then den N f a else den N f a)/\(f%2=0->f%2=0):=λh=>⟨k,k,h,h,λa=>by split<;>rfl,id⟩
 unfold sp;cases c:N (f/2) with
 |none=>
  refine b ?_;have j:f/2=0:=by
   rcases k.2 with h|⟨d,h⟩
   all_goals grind
  rw[Cr j];exact(g.od.Mp y i.1 i.2).2
 |some d=>
  have j:f/2≠0:=λe=>by rw[e,g.zero]at c;cases c
  have l:=g.var c;simp only;split
  .rename_i e;subst e;obtain⟨m,p⟩:=g.lo c;obtain⟨o,r⟩:=g.hi c;refine⟨m.fl,o.fl,by grind[K8],by grind[K8],λa=>?_,λh=>?_⟩
   .rw[g.IZ q j c,J4 o,J4 m];split<;>rfl
   .simp only;rw[An2,<-Int.emod_add_emod];have:=g.reg c;omega
  .rename_i e;refine b ?_;rw[Bj j c]at s ⊢;have:lv y≠lv d.v:=λh=>e (g.od.inj _ _ l.2.1 l.2.2 i.1 i.2 h.symm);omega
def ME(N:Tb)(y f:Int):Prop:=∃d,N (f/2)=some d/\d.v=y
theorem Ah9(h:¬ME N y f):sp N y f=(f,f):=by
 unfold sp;split
 .rename_i d a;rw[GT λe=>h ⟨d,a,e⟩]
 .rfl
theorem Good.Xq(g:Good n lv N):ME N y f↔(sp N y f).1≠(sp N y f).2:=by
 constructor
 .rintro⟨d,b,c⟩;unfold sp;simp only[b,c,if_true];exact λe=>g.ne b (QF e)
 grind[ME,Ah9]
def QM(M:Tb)(x a b e:Int):Prop:=(a=b/\e=a)∨(a≠b/\0<=e/\e/2≠0/\e%2=b%2/\M (e/2)=some ⟨x,fl a b,fl b b⟩)
def sw(lv:Int->Int)(x y:Int):Int->Int:=λv=>if v=x then lv y else if v=y then lv x else lv v
structure Swp(n:Int)(lv:Int->Int)(N:Tb)(x y:Int)(M:Tb):Prop where
 stay:∀{i d},N i=some d->¬(d.v=x/\(ME N y d.lo∨ME N y d.hi))->M i=some d
 SJ:∀{i d},N i=some d->d.v=x->(ME N y d.lo∨ME N y d.hi)->∃lo hi,M i=some ⟨y,lo,hi⟩/\QM M x (sp N y d.lo).1 (sp N y d.hi).1 lo/\QM M x (sp N y d.lo).2 (sp N y d.hi).2 hi
 new:∀{i d},N i=none->M i=some d->0<i/\d.v=x/\Ok N d.lo/\Ok N d.hi/\lv y<el n lv N d.lo/\lv y<el n lv N d.hi/\d.lo≠d.hi/\d.hi%2=0
 Xg:∀{i j d},d.v=x->M i=some d->M j=some d->i=j
variable {x:Int}
theorem Wx:sw lv x y x=lv y:=UV rfl
theorem Y1(h:x≠y):sw lv x y y=lv x:=by unfold sw;rw[GT (Ne.symm h),UV rfl]
theorem Y2{v:Int}(h:v≠x)(k:v≠y):sw lv x y v=lv v:=by unfold sw;rw[GT h,GT k]
theorem Od.swap(o:Od n lv)(i:0<=x/\x<n)(d:0<=y/\y<n)(c:x≠y):Od n (sw lv x y):=by
 have t:=o.Mp x i.1 i.2;have s:=o.Mp y d.1 d.2;have m:∀{v},0<=v->v<n->lv v=lv x->v=x:=λa b e=>o.inj _ _ a b i.1 i.2 e;have p:∀{v},0<=v->v<n->lv v=lv y->v=y:=λa b e=>o.inj _ _ a b d.1 d.2 e;have r:∀v,v=x∨v=y∨(v≠x/\v≠y):=λv=>by omega
 refine⟨o.n64,λv a b=>?_,λv w a b q l h=>?_⟩
 .have:=o.Mp v a b;grind[sw]
 .rcases r v with rfl|rfl|⟨k,j⟩<;>rcases r w with rfl|rfl|⟨g,f⟩
  .rfl
  .grind[Wx,Y1]
  .grind[Wx,Y2]
  .grind[Wx,Y1]
  .rfl
  .grind[Y1,Y2]
  .grind[Wx,Y2]
  .grind[Y1,Y2]
  .rw[Y2 k j,Y2 g f]at h;exact o.inj _ _ a b q l h
theorem QM.inj{M:Tb}{a b a' b':Int}(h:QM M x a b e)(h':QM M x a' b' e)(ha:∀d,M (a/2)=some d->d.v≠x)(ha':∀d,M (a' / 2)=some d->d.v≠x):a=a'/\b=b':=by
 rcases h with ⟨h1,h2⟩|⟨h1,h2,h3,h4,h5⟩<;>rcases h' with ⟨k1,k2⟩|⟨k1,k2,k3,k4,k5⟩
 .omega
 .grind
 .grind
 .rw[h5]at k5;have e0:=Option.some.inj k5;have e1:fl a b=fl a' b':=congrArg Nd.lo e0;have e2:fl b b=fl b' b':=congrArg Nd.hi e0;rw[RV (s:=b) (t:=e) h4.symm]at e1;rw[RV (s:=b') (t:=e) k4.symm]at e1;rw[RV (e:=b) (s:=b) (t:=e) h4.symm,RV (e:=b') (s:=b') (t:=e) k4.symm]at e2;grind[QF]
theorem Good.swap(g:Good n lv N)(C:0<=n)(hx:0<=x/\x<n)(E:0<=y/\y<n)(hxy:lv y=lv x+1){M:Tb}(s:Swp n lv N x y M):Good n (sw lv x y) M/\(∀e,Ok N e->Ok M e)/\∀e,Ok N e->den M e=den N e:=by
 have U:x≠y:=λe=>by grind
 have ho:=g.od.swap hx E U;have lev:∀{v},0<=v->v<n->v≠x->v≠y->lv v<lv x∨lv y<lv v:=λ{v}w D a b=>by have V:lv v≠lv x:=λe=>a (g.od.inj _ _ w D hx.1 hx.2 e);have h6:lv v≠lv y:=λe=>b (g.od.inj _ _ w D E.1 E.2 e);omega
 have W:∀{i d},N i=some d->∃t,M i=some t/\((t=d/\¬(d.v=x/\(ME N y d.lo∨ME N y d.hi)))∨(d.v=x/\t.v=y)):=λ{i d}f=>by
  by_cases o:d.v=x/\(ME N y d.lo∨ME N y d.hi)
  .obtain⟨lo,hi,u,_⟩:=s.SJ f o.1 o.2;grind
  .exact⟨d,s.stay f o,.inl ⟨rfl,o⟩⟩
 have ok:∀e,Ok N e->Ok M e:=λe h=>⟨h.1,h.2.imp id λ⟨d,f⟩=>by grind⟩
 have O:∀{e},Ok N e->lv y<el n lv N e->el n (sw lv x y) M e=el n lv N e:=λ{e}L K=>by
  by_cases z:e/2=0
  .rw[Cr z,Cr z]
  .obtain⟨d,f⟩:=L.2.resolve_left z;obtain⟨t,u,m⟩:=W f;rw[Bj z f]at K ⊢;rw[Bj z u];rcases m with ⟨rfl,_⟩|⟨m,_⟩
   all_goals grind[Y2]
 have A:∀{e d},Ok N e->lv y<el n lv N e->M (e/2)=some d->d.v≠x:=λ{e d}L K f=>by
  by_cases z:e/2=0
  .rw[z]at f;cases hz:N 0 with
   |some d0=>have:=(g.var hz).1;omega
   |none=>exact qG (s.new hz f).1 (by omega)
  .obtain⟨d0,hd0⟩:=L.2.resolve_left z;rw[Bj z hd0]at K;grind
 have kid:∀{e v},Ok N e->0<=v->v<n->v≠x->lv v<el n lv N e->(v=y->lv y<el n lv N e)->sw lv x y v<el n (sw lv x y) M e:=λ{e v}L z hvn hvx K hyy=>by
  by_cases r:v=y
  .subst r;rw[Y1 U,O L (hyy rfl)];omega
  .rw[Y2 hvx r];rcases lev z hvn hvx r with u|u
   .by_cases m:e/2=0
    .grind[Cr]
    .obtain⟨d,f⟩:=L.2.resolve_left m;obtain⟨t,w,D⟩:=W f;rw[Bj m w];rw[Bj m f]at K;rcases D with ⟨rfl,_⟩|⟨D,V⟩
     all_goals grind[sw,Y1]
   grind
 have kidx:∀{e},Ok N e->¬ME N y e->lv x<el n lv N e->lv y<el n lv N e:=λ{e}L r K=>by
  by_cases m:e/2=0
  .rw[Cr m];exact(g.od.Mp y E.1 E.2).2
  .obtain⟨d,f⟩:=L.2.resolve_left m;rw[Bj m f]at K ⊢;have J:=g.var f;by_cases e1:lv d.v=lv y
   .exact(r ⟨d,f,g.od.inj _ _ J.2.1 J.2.2 E.1 E.2 e1⟩).elim
   .omega
 have l:∀{i d},N i=some d->d.v=x->∀k,k=d.lo∨k=d.hi->Ok N k/\lv y<=el n lv N k:=λ{i d}f r k hk=>by obtain⟨B,G⟩:=g.lo f;obtain⟨I,P⟩:=g.hi f;grind
 have bel:∀{a b e},Ok N a->Ok N b->lv y<el n lv N a->lv y<el n lv N b->QM M x a b e->Ok M e/\lv x<el n (sw lv x y) M e:=λ{a b e}ha hb la lb h=>by
  rcases h with ⟨u,rfl⟩|⟨u,m,w,D,V⟩
  .grind
  .exact⟨⟨m,.inr ⟨_,V⟩⟩,by rw[Bj w V,Wx];omega⟩
 have Q:Good n (sw lv x y) M:=by
  have F:∀{i t},M i=some t->(∃d,N i=some d/\((t=d/\¬(d.v=x/\(ME N y d.lo∨ME N y d.hi)))∨(d.v=x/\(ME N y d.lo∨ME N y d.hi)/\t.v=y/\QM M x (sp N y d.lo).1 (sp N y d.hi).1 t.lo/\QM M x (sp N y d.lo).2 (sp N y d.hi).2 t.hi))) ∨
    (0<i/\t.v=x/\Ok N t.lo/\Ok N t.hi/\lv y<el n lv N t.lo/\lv y<el n lv N t.hi/\t.lo≠t.hi/\t.hi%2=0):=λ{i t}h=>by
   cases f:N i with
   |none=>exact .inr (s.new f h)
   |some d=>
    refine .inl ⟨d,rfl,?_⟩;by_cases o:d.v=x/\(ME N y d.lo∨ME N y d.hi)
    .obtain⟨lo,hi,u,m,w⟩:=s.SJ f o.1 o.2;rw[h]at u;cases u;exact .inr ⟨o.1,o.2,rfl,m,w⟩
    .have:=s.stay f o;rw[h]at this;cases this;exact .inl ⟨rfl,o⟩
  refine⟨ho,λh=>?_,λ{i t}h=>?_,λ{i t}h=>?_,λ{i t}h=>?_,λ{i t}h=>?_,λ{i j t}h k=>?_⟩
  .rcases F h with ⟨d,f,(⟨rfl,_⟩|⟨_,_,m,_⟩)⟩|⟨z,u,_⟩
   .exact g.var f
   .rw[m];exact⟨(g.var f).1,E.1,E.2⟩
   .rw[u];exact⟨z,hx.1,hx.2⟩
  .rcases F h with ⟨d,f,(⟨rfl,o⟩|⟨r,o,m,w,D⟩)⟩|⟨z,u,m,w,D,V,_⟩
   .obtain⟨B,G⟩:=g.lo f;have J:=g.var f;refine⟨ok _ B,?_⟩;by_cases r:t.v=x
    .have:=kidx B (λe=>o ⟨r,.inl e⟩) (by rw[<-r];exact G);rw[r,Wx,O B this];exact this
    .exact kid B J.2.1 J.2.2 r G λe=>by rw[<-e];exact G
   .obtain⟨B,G⟩:=l f r _ (.inl rfl);obtain⟨I,P⟩:=l f r _ (.inr rfl);obtain⟨a1,Y,X,Z,_⟩:=g.I8 C E B G;obtain⟨b1,b2,b3,b4,_⟩:=g.I8 C E I P;rw[m,Y1 U];exact bel a1 b1 X b3 w
   .rw[u,Wx,O m D];exact⟨ok _ m,D⟩
  .rcases F h with ⟨d,f,(⟨rfl,o⟩|⟨r,o,m,w,D⟩)⟩|⟨z,u,m,w,D,V,_⟩
   .obtain⟨B,G⟩:=g.hi f;have J:=g.var f;refine⟨ok _ B,?_⟩;by_cases r:t.v=x
    .have:=kidx B (λe=>o ⟨r,.inr e⟩) (by rw[<-r];exact G);rw[r,Wx,O B this];exact this
    .exact kid B J.2.1 J.2.2 r G λe=>by rw[<-e];exact G
   .obtain⟨B,G⟩:=l f r _ (.inl rfl);obtain⟨I,P⟩:=l f r _ (.inr rfl);obtain⟨a1,Y,X,Z,_⟩:=g.I8 C E B G;obtain⟨b1,b2,b3,b4,_⟩:=g.I8 C E I P;rw[m,Y1 U];exact bel Y b2 Z b4 D
   .rw[u,Wx,O w V];exact⟨ok _ w,V⟩
  .rcases F h with ⟨d,f,(⟨rfl,o⟩|⟨r,o,m,w,D⟩)⟩|⟨z,u,m,w,D,V,h6,_⟩
   .exact g.ne f
   .obtain⟨B,G⟩:=l f r _ (.inl rfl);obtain⟨I,P⟩:=l f r _ (.inr rfl);obtain⟨a1,Y,X,Z,_⟩:=g.I8 C E B G;obtain⟨b1,b2,b3,b4,_⟩:=g.I8 C E I P;intro e;rw[<-e]at D;obtain⟨e1,e2⟩:=w.inj D (λ_=>A a1 X) (λ_=>A Y Z);rcases o with o|o
    .exact g.Xq.1 o e1
    .exact g.Xq.1 o e2
   .exact h6
  .rcases F h with ⟨d,f,(⟨rfl,o⟩|⟨r,o,m,w,D⟩)⟩|⟨z,u,m,w,D,V,h6,h7⟩
   .exact g.reg f
   .obtain⟨I,P⟩:=l f r _ (.inr rfl);obtain⟨b1,b2,b3,b4,_,b6⟩:=g.I8 C E I P;have:=b6 (g.reg f);rcases D with ⟨T,k2⟩|⟨_,_,_,k4,_⟩
    .rw[k2,T];exact this
    .rw[k4];exact this
   .exact h7
  .by_cases R:t.v=x
   .exact s.Xg R h k
   .have tt:∀{i:Int}{S d2:Nd},N i=some S->S.v=x->(ME N y S.lo∨ME N y S.hi)->QM M x (sp N y S.lo).1 (sp N y S.hi).1 d2.lo->QM M x (sp N y S.lo).2 (sp N y S.hi).2 d2.hi->Ok N d2.lo->lv y<el n lv N d2.lo->Ok N d2.hi->lv y<el n lv N d2.hi->False:=λ{i S d2}f r o w D ol ll oh lh=>by
     obtain⟨B,G⟩:=l f r _ (.inl rfl);obtain⟨I,P⟩:=l f r _ (.inr rfl);obtain⟨a1,Y,X,Z,a5,_⟩:=g.I8 C E B G;obtain⟨b1,b2,b3,b4,b5,_⟩:=g.I8 C E I P;have e1:(sp N y S.lo).1=(sp N y S.hi).1:=by
      rcases w with ⟨T,_⟩|⟨_,_,_,_,k5⟩
      .exact T
      .exact(A ol ll k5 rfl).elim
     have e2:(sp N y S.lo).2=(sp N y S.hi).2:=by
      rcases D with ⟨T,_⟩|⟨_,_,_,_,k5⟩
      .exact T
      .exact(A oh lh k5 rfl).elim
     exact g.ne f (g.eq C B I (by funext a;rw[a5,b5,e1,e2]))
    rcases F h with ⟨d,f,(⟨rfl,o⟩|⟨r,o,m,w,D⟩)⟩|⟨z,u,_⟩<;>rcases F k with ⟨c,H,(⟨rfl,kc⟩|⟨kv,kc,k2,k3,k4⟩)⟩|⟨k0,T,_⟩
    .exact g.Xg f H
    .refine(tt H kv kc k3 k4 (g.lo f).1 ?_ (g.hi f).1 ?_).elim
     .rw[<-k2];exact(g.lo f).2
     .rw[<-k2];exact(g.hi f).2
    .exact(R T).elim
    .refine(tt f r o w D (g.lo H).1 ?_ (g.hi H).1 ?_).elim
     .rw[<-m];exact(g.lo H).2
     .rw[<-m];exact(g.hi H).2
    .obtain⟨B,G⟩:=l f r _ (.inl rfl);obtain⟨I,P⟩:=l f r _ (.inr rfl);obtain⟨a1,Y,X,Z,a5,_⟩:=g.I8 C E B G;obtain⟨b1,b2,b3,b4,b5,_⟩:=g.I8 C E I P;obtain⟨m1,m2⟩:=l H kv _ (.inl rfl);obtain⟨w1,w2⟩:=l H kv _ (.inr rfl);obtain⟨c1,c2,c3,c4,c5,_⟩:=g.I8 C E m1 m2;obtain⟨e1,e2,e3,e4,e5,_⟩:=g.I8 C E w1 w2;obtain⟨q1,q2⟩:=w.inj k3 (λ_=>A a1 X) (λ_=>A c1 c3);obtain⟨q3,q4⟩:=D.inj k4 (λ_=>A Y Z) (λ_=>A c2 c4);have f1:d.lo=c.lo:=g.eq C B m1 (by funext a;rw[a5,c5,q1,q3]);have f2:d.hi=c.hi:=g.eq C I w1 (by funext a;rw[b5,e5,q2,q4]);have:d=c:=by cases d;cases c;simp_all
     subst this;exact g.Xg f H
    .exact(R T).elim
    .exact(R u).elim
    .exact(R u).elim
    .exact(R u).elim
 refine⟨Q,ok,?_⟩;have key:∀(k:Nat)(e:Int),Ok N e->n-el n lv N e<k->den M e=den N e:=by
  intro k;induction k with
  |zero=>intro e L hk;have:=g.VM L C;omega
  |succ k ih=>
   intro e L hk;by_cases z:e/2=0
   .rw[MA z,MA z]
   .obtain⟨d,f⟩:=L.2.resolve_left z;rw[Bj z f]at hk;obtain⟨B,G⟩:=g.lo f;obtain⟨I,P⟩:=g.hi f;funext a;by_cases o:d.v=x/\(ME N y d.lo∨ME N y d.hi)
    .obtain⟨lo,hi,u,m,w⟩:=s.SJ f o.1 o.2;obtain⟨l3,l4⟩:=l f o.1 _ (.inl rfl);obtain⟨u3,u4⟩:=l f o.1 _ (.inr rfl);obtain⟨a1,Y,X,Z,a5,_⟩:=g.I8 C E l3 l4;obtain⟨b1,b2,b3,b4,b5,_⟩:=g.I8 C E u3 u4;have hk':lv d.v<lv y:=by rw[o.1];omega
     have bd:∀{p q e},Ok N p->Ok N q->lv y<el n lv N p->lv y<el n lv N q->QM M x p q e->den M e a=if a x=true then den N q a else den N p a:=λ{p q e}op oq lp lq h=>by
      rcases h with ⟨T,rfl⟩|⟨T,k2,k3,k4,k5⟩
      .rw[ih _ op (by omega)];subst T;split<;>rfl
      .rw[Q.IZ C k3 k5];simp only;rw[J4 (ok _ oq),J4 (ok _ op),ih _ op (by omega),ih _ oq (by omega),k4];split<;>(rcases Int.emod_two_eq q with hq|hq<;>simp [hq])
     rw[Q.IZ C z u,g.IZ C z f];simp only;rw[bd a1 b1 X b3 m,bd Y b2 Z b4 w,a5,b5,o.1];congr 1;split<;>split<;>rfl
    .rw[Q.IZ C z (s.stay f o),g.IZ C z f,ih _ B (by omega),ih _ I (by omega)]
 exact λe L=>key 66 e L (by have:=g.fuel C L;omega)
end
end
section
theorem Wb:∀(L:Nat)(l:List (List Bool)),l.Nodup->(∀x∈l,x.length=L)->l.length<=2^L
 |0,[],_,_|0,[_],_,_=>by simp
 |0,x::y::l,k,h=>by simp_all
 |L+1,l,k,h=>by
  have a:∀b:Bool,((l.filter λx=>x.head?==some b).map List.tail).length<=2^L:=λb=>by
   refine Wb L _ ?_ ?_
   .rw[av,ag];refine(k.filter _).imp_of_mem λ{x y}m i j e=>j ?_;have d:=(br.1 m).2;have c:=(br.1 i).2;cases x with
    |nil=>grind
    |cons p x=>cases y with
     |nil=>grind
     |cons q y=>
      simp at d c e;rw[d,c,e]
   grind
  have o:∀(l:List (List Bool)),(∀x∈l,x.length=L+1)->l.length=(l.filter λx=>x.head?==some true).length+(l.filter λx=>x.head?==some false).length:=by
   intro l;induction l with
   |nil=>simp
   |cons x l n=>
    intro h;have f:=n λy i=>h y (by simp [i]);have g:=h x (by simp);cases x with
    |nil=>grind
    |cons b x=>cases b<;>simp [f]<;>omega
  have f:=a true;have g:=a false;rw[ay]at f g;rw[o l h,bz];omega
theorem Ah8{α:Type}(p:α->Bool)(l:List α):l.length=(l.filter p).length+(l.filter λx=>!p x).length:=by
 induction l with
 |nil=>rfl
 |cons x l a=>cases h:p x<;>simp [h,a]<;>omega
theorem X9{l:List (Nat×List Bool)}(b:l.Nodup){t:Nat}(h:∀x∈l,x.1=t):(l.map (·.2)).Nodup:=by rw[av,ag];exact b.imp_of_mem λ{x y}c d a e=>a (Prod.ext ((h x c).trans (h y d).symm) e)
theorem Aib{l:List (List Bool)}(j:l.Nodup)(h:∀x∈l,x.length<4):l.length<=15:=by
 have a:∀k,(l.filter λx=>x.length==k).length<=2^k:=λk=>Wb k _ (j.filter _) λx d=>by grind
 have g:∀(l:List (List Bool)),(∀x∈l,x.length<4)->l.length=(l.filter λx=>x.length==0).length+(l.filter λx=>x.length==1).length+(l.filter λx=>x.length==2).length+(l.filter λx=>x.length==3).length:=by
  intro l;induction l with
  |nil=>simp
  |cons x l n=>
   intro h;have b:=n λy i=>h y (by simp [i]);have c:=h x (by simp);have:x.length=0∨x.length=1∨x.length=2∨x.length=3:=by omega
   rcases this with e|e|e|e<;>simp only[List.filter_cons,e,am]<;>simp<;>omega
 have f:=a 0;have b:=a 1;have c:=a 2;have m:=a 3;rw[g l h];omega
theorem XZ:∀(K:Nat)(l:List (Nat×List Bool)),l.Nodup->(∀x∈l,x.1<=K/\(x.1=0->x.2.length=16)/\(x.1≠0->x.2.length<4))->l.length<=65536+15*K
 |0,l,b,h=>by
  have i:∀x∈l,x.1=0:=λx a=>by grind
  have:=Wb 16 (l.map (·.2)) (X9 b i) λx a=>by grind
  grind
 |K+1,l,b,h=>by
  have i:=Ah8 (λx:Nat×List Bool=>x.1==K+1) l;have k:=XZ K (l.filter λx=>!(x.1==K+1)) (b.filter _) λx a=>by grind
  have j:=Aib (X9 (b.filter (λx:Nat×List Bool=>x.1==K+1)) (t:=K+1) λx a=>by grind) (λx a=>by obtain⟨y,c,rfl⟩:=ak.1 a;grind)
  grind
def mix(lv:Int->Int)(k:Int)(b a:As):As:=λv=>if lv v<k then b v else a v
def S6(lv:Int->Int)(k:Int)(f r:Fn):Prop:=∃(s:Bool)(b:As),∀a,r a=(s ^^ f (mix lv k b a))
def Dep(n:Int)(lv:Int->Int)(k:Int)(r:Fn):Prop:=∀a b:As,(∀v,0<=v->v<n->k<=lv v->a v=b v)->r a=r b
section
variable {n:Int} {lv:Int->Int} {N:Tb}
variable {k:Int}
theorem Good.dep(g:Good n lv N){e:Int}(h:Ok N e)(j:k<=el n lv N e):Dep n lv k (den N e):=λa b c=>g.Sg h λv d f i=>c v d f (by omega)
variable {r:Fn}
theorem S6.refl(h:Dep n lv k r):S6 lv k r r:=⟨false,λ_=>false,λa=>by rw[ap];exact h _ _ λv _ _ b=>(GT (by omega)).symm⟩
variable {f:Fn}
theorem S6.not(h:S6 lv k f r):S6 lv k f (λa=>!r a):=by obtain⟨s,b,h⟩:=h;exact⟨!s,b,λa=>by show (!r a)=_;rw[h];cases s<;>cases f _<;>rfl⟩
theorem S6.sign(s:Bool)(h:S6 lv k f r):S6 lv k f (λa=>s ^^ r a):=by
 cases s
 .simp_all
 .simpa using h.not
theorem S6.set{r':Fn}{k' v:Int}{c:Bool}(h:S6 lv k f r)(j:lv v<k')(m:k<=lv v)(l:∀a,r' a=r (Aae a v c))(i:Dep n lv k' r'):S6 lv k' f r':=by obtain⟨s,b,h⟩:=h;refine⟨s,mix lv k b (Aae (λ_=>false) v c),λa=>?_⟩;rw[i a (mix lv k' (λ_=>false) a) λw _ _ d=>(GT (by omega)).symm,l,h];congr 2;grind[mix,Aae]
theorem S6.Axx{k':Int}(h:S6 lv k f r)(g:k<=k')(d:Dep n lv k' r):S6 lv k' f r:=by obtain⟨s,b,h⟩:=h;refine⟨s,mix lv k b (λ_=>false),λa=>?_⟩;rw[d a (mix lv k' (λ_=>false) a) λw _ _ i=>(GT (by omega)).symm,h];congr 2;grind[mix]
def QL(n:Int)(lv:Int->Int)(N:Tb)(R:List Fn):Prop:=∀i d,N i=some d->n-4<=lv d.v∨∃f∈R,S6 lv (lv d.v) f (den N (2*i))
theorem QL.mono{R R':List Fn}(h:QL n lv N R)(a:∀f∈R,f∈R'):QL n lv N R':=λi d e=>(h i d e).imp id λ⟨f,b,c⟩=>⟨f,a f b,c⟩
def asg(lv:Int->Int)(k:Int)(l:List Bool):As:=λv=>l.getD (lv v-k).toNat false
def WX:Nat->List (List Bool)
 |0=>[[]]
 |L+1=>(WX L).map (false::·)++(WX L).map (true::·)
theorem Ack:∀L,(WX L).length=2^L
 |0=>rfl
 |L+1=>by simp [WX,Ack L,bz];omega
theorem Acj:∀(L:Nat)(l:List Bool),l.length=L->l∈WX L
 |0,[],_=>by simp [WX]
 |0,_::_,h|L+1,[],h=>by grind
 |L+1,b::l,h=>by have:=Acj L l (by grind);cases b<;>simp [WX,this]
theorem Agf(g:Good n lv N)(c:0<=n){i j:Int}{d d':Nd}(f:N i=some d)(b:N j=some d')(s:Bool)(h:∀a,den N (2*i) a=(s ^^ den N (2*j) a)):i=j:=by
 have l:Ok N (2*i):=⟨by have:=g.var f;omega,.inr ⟨d,by grind⟩⟩
 have k:Ok N (2*j):=⟨by have:=g.var b;omega,.inr ⟨d',by grind⟩⟩
 have e:=h (λ_=>true);rw[g.Uu c l,g.Uu c k]at e;have m:s=false:=by grind
 subst m;have:=g.eq c l k (by funext a;rw[h a,ap]);omega
def RD(n:Int)(f:Fn):Prop:=∀a b:As,(∀v,0<=v->v<n->a v=b v)->f a=f b
theorem Good.rd(g:Good n lv N){e:Int}(h:Ok N e):RD n (den N e):=λ_ _ c=>g.Sg h λv d f _=>c v d f
theorem QL.few(g:Good n lv N)(W:0<=n)(h8:n<=8){R:List Fn}(hR:∀f∈R,RD n f)(h:QL n lv N R)(l:List Int)(Q:l.Nodup)(hm:∀i∈l,∃d,N i=some d):l.length<=65536+15*R.length:=by
 have F:∀i,∃c:Nat×List Bool,i∈l->(c.1<=R.length/\(c.1=0->c.2.length=16)/\(c.1≠0->c.2.length<4))/\
   ∃d,N i=some d/\((c.1=0/\n-4<=lv d.v/\c.2=(WX 4).map λt=>den N (2*i) (asg lv (n-4) t)) ∨
    (∃f,c.1≠0/\R[c.1-1]?=some f/\(c.2.length:Int)=lv d.v/\∃s:Bool,∀a,den N (2*i) a=(s ^^ f (mix lv (lv d.v) (asg lv 0 c.2) a)))):=by
  intro i
  by_cases C:i∈l
  .obtain⟨d,r⟩:=hm i C
   have V:=g.var r
   have hr:=g.od.Mp _ V.2.1 V.2.2
   by_cases w:n-4<=lv d.v
   .exact⟨⟨0,(WX 4).map λt=>den N (2*i) (asg lv (n-4) t)⟩,λ_=>⟨⟨bq _,λ_=>by rw[ay,Ack],λh=>qG rfl h⟩,d,r,.inl ⟨rfl,w,rfl⟩⟩⟩
   .obtain⟨f,hf,s,b,D⟩:=(h i d r).resolve_left w
    obtain⟨q,hq,G⟩:=List.getElem_of_mem hf
    let E:Nat->Int:=λk=>bi λv=>0<=v/\v<n/\lv v=k
    let t:List Bool:=(aw (lv d.v).toNat).map λk=>b (E k)
    refine⟨⟨q+1,t⟩,λ_=>⟨⟨by simp;omega,λh=>by simp at h,λ_=>by simp [t];omega⟩,d,r,.inr ⟨f,by simp,by simp [hq,G],by simp [t];omega,s,λa=>?_⟩⟩⟩
    rw[D a]
    congr 1
    refine hR f hf _ _ λv z m=>?_
    unfold mix
    by_cases A:lv v<lv d.v
    .rw[UV A,UV A]
     have O:=g.od.Mp v z m
     have B:E (lv v).toNat=v:=by have:=ax (p:=λu=>0<=u/\u<n/\lv u=((lv v).toNat:Int)) ⟨v,z,m,by omega⟩;exact g.od.inj _ _ this.1 this.2.1 z m (by rw[this.2.2];omega)
     show b v=t.getD (lv v-0).toNat false
     rw[Int.sub_zero,aq,bj,be (by omega)]
     simp [B]
    .rw[GT A,GT A]
  .exact⟨⟨0,[]⟩,λh=>(C h).elim⟩
 obtain⟨c,D⟩:=Classical.axiomOfChoice F;have I:∀i∈l,∀j∈l,c i=c j->i=j:=by
  intro i C j hj e;obtain⟨_,d,r,m⟩:=D i C;obtain⟨_,J,o,A⟩:=D j hj;rw[e]at m;rcases m with ⟨K,U,Y⟩|⟨f,K,U,Y,s,k4⟩<;>rcases A with ⟨T,S,M⟩|⟨f',T,S,M,Z,m4⟩
  .refine Agf g W r o false λa=>?_;rw[ap];rw[Y]at M;have o1:Ok N (2*i):=⟨by have:=g.var r;omega,.inr ⟨d,by rw[show 2*i/2=i by omega];exact r⟩⟩
   have o2:Ok N (2*j):=⟨by have:=g.var o;omega,.inr ⟨J,by rw[show 2*j/2=j by omega];exact o⟩⟩
   have l1:el n lv N (2*i)=lv d.v:=Bj (by have:=g.var r;omega) (by rw[show 2*i/2=i by omega];exact r);have l2:el n lv N (2*j)=lv J.v:=Bj (by have:=g.var o;omega) (by rw[show 2*j/2=j by omega];exact o);let E:Nat->Int:=λk=>bi λv=>0<=v/\v<n/\lv v=n-4+k;let t:List Bool:=(aw 4).map λk=>a (E k);have ht:t∈WX 4:=Acj 4 t (by simp [t]);have X:∀v,0<=v->v<n->n-4<=lv v->a v=asg lv (n-4) t v:=λv z m A=>by
    have O:=g.od.Mp v z m;have B:E (lv v-(n-4)).toNat=v:=by have:=ax (p:=λu=>0<=u/\u<n/\lv u=n-4+((lv v-(n-4)).toNat:Int)) ⟨v,z,m,by omega⟩;exact g.od.inj _ _ this.1 this.2.1 z m (by rw[this.2.2];omega)
    show a v=t.getD (lv v-(n-4)).toNat false;rw[aq,bj,be (by omega)];simp [B]
   rw[g.Sg o1 (b:=asg lv (n-4) t) λv z m A=>X v z m (by omega),g.Sg o2 (b:=asg lv (n-4) t) λv z m A=>X v z m (by omega)];exact List.map_inj_left.1 M t ht
  .exact(T K).elim
  .exact(K T).elim
  .rw[U]at S;cases S;have Q:lv d.v=lv J.v:=by omega
   refine Agf g W r o (s ^^ Z) λa=>?_;rw[k4 a,m4 a,Q];cases s<;>cases Z<;>simp
 have L:(l.map c).Nodup:=by rw[av,ag];exact Q.imp_of_mem λ{x y}H hy P e=>P (I x H y hy e)
 have:=XZ R.length (l.map c) L λx H=>by obtain⟨i,C,rfl⟩:=ak.1 H;exact(D i C).1
 simpa using this
end
end
end Go.B
namespace Go.Proofs.YtcbkbpjlbmalmaaGreatDoor
open Go Go.X Go.Y
section
abbrev FQ:Ty:=.int .i64
theorem A7{n:Int}:Bn .i64 n↔-9223372036854775808<=n/\n<=9223372036854775807:=by
 have h1:IntKind.i64.min=-9223372036854775808:=by decide
 have h2:IntKind.i64.max=9223372036854775807:=by decide
 unfold Bn;rw[h1,h2]
theorem A2s(n:Nat):n ^^^ 1=if n%2=0 then n+1 else n-1:=by
 have h1:(n ^^^ 1)/2=n/2:=by
  apply Nat.eq_of_testBit_eq;intro i;rw[bf,bf,bt];have:Nat.testBit 1 (i+1)=false:=by grind
  rw[this,Bool.xor_false]
 have h2:(n ^^^ 1)%2=1-n%2:=by have h3:=bt n 1 0;simp only[Nat.testBit_zero]at h3;rcases ar n with h|h<;>rcases ar (n ^^^ 1) with h'|h'<;>simp [h,h']at h3 ⊢
 split<;>omega
variable {e:Int}
theorem Acf(h:Bn .i64 e):C3 .xor .i64 e 1=B.flip e:=by
 have he:=A7.1 h;have h1:(BitVec.ofInt 64 e ^^^ BitVec.ofInt 64 1).toNat=if (e%18446744073709551616)%2=0 then (e%18446744073709551616).toNat+1 else (e%18446744073709551616).toNat-1:=by
  rw[BitVec.toNat_xor,BitVec.toNat_ofInt,BitVec.toNat_ofInt];have e1:((1:Int)%((2^64:Nat):Int)).toNat=1:=by decide
  have e2:((2^64:Nat):Int)=18446744073709551616:=by decide
  rw[e1,e2,A2s];split<;>split<;>omega
 show IntKind.i64.wrap ((BitVec.ofInt 64 e ^^^ BitVec.ofInt 64 1).toNat:Int)=_;rw[h1];have hw:∀m:Int,IntKind.i64.wrap m=if 9223372036854775808<=m%18446744073709551616 then m%18446744073709551616-18446744073709551616 else m%18446744073709551616:=λm=>by grind[IntKind.wrap,IntKind.bits,IntKind.signed]
 rw[hw];unfold B.flip;split<;>split<;>split<;>omega
def Av(e:Int):Int:=max e 0/2
def AW(e:Int):Bool:=decide (0<e/\e%2=1)
theorem JG(h:0<=e):Av e=e/2:=by grind[Av]
theorem Ad3(h:0<=e):AW e=decide (e%2=1):=by grind[AW]
def Az(e:Int)(b:Bool):Int:=if b=true then B.flip e else e
theorem JH{s:Int}(h:0<=s):Az e (AW s)=B.fl e s:=by rw[Ad3 h];unfold Az B.fl;by_cases h1:s%2=1<;>simp [h1]
noncomputable def pf0:(q:FuncId)->Option (PF Y0 q):=λ_=>none
variable {a1:I5 Y0 [FQ]}
theorem Awb(a:I5 Y0 [FQ])(F:I5 Y0 [FQ]):(Bn .i64 (GZ true a.1 [(.i64,0)])->¬(2:Int)=0/\Bn .i64 ((GZ true a.1 [(.i64,0)]).tdiv 2)/\((GZ true a.1 [(.i64,0)]).tdiv 2,PUnit.unit)=F)=pfP (Y:=Y0) pf0 Tryz.f182 [FQ] [FQ] a F:=by kernel_rfl
noncomputable def Adu:PF Y0 182 where
 ta:=[FQ]
 tr:=[FQ]
 Mg:=none
 F a:=(Av a.1,())
 pa:=rfl
 pr:=rfl
 can:=by kernel_rfl
 ok a hr _ I w hG:=Ld (pf:=pf0) (fn:=Tryz.f182) (by kernel_rfl) rfl rfl hr (b0 (Awb a _) (by have he:=A7.1 hr.1;have hm:GZ true a.1 [(.i64,0)]=max a.1 0:=rfl;rw[hm];intro h;have ht:(max a.1 0).tdiv 2=max a.1 0/2:=Int.tdiv_eq_ediv_of_nonneg (by omega);rw[ht];exact⟨by decide,A7.2 (by omega),rfl⟩)) I w hG
theorem A0k(a:I5 Y0 [FQ])(F:I5 Y0 [.bool]):((0<a.1->Bn .i64 a.1->¬(2:Int)=0/\Bn .i64 (a.1.tmod 2)/\(decide (a.1.tmod 2=1),PUnit.unit)=F)/\(¬0<a.1->(false,PUnit.unit)=F))=pfP (Y:=Y0) pf0 Tryz.f185 [FQ] [.bool] a F:=by kernel_rfl
noncomputable def Al2:PF Y0 185 where
 ta:=[FQ]
 tr:=[.bool]
 Mg:=none
 F a:=(AW a.1,())
 pa:=rfl
 pr:=rfl
 can:=by kernel_rfl
 ok a hr _ I w hG:=Ld (pf:=pf0) (fn:=Tryz.f185) (by kernel_rfl) rfl rfl hr (b0 (A0k a _) (by
  have he:=A7.1 hr.1;refine⟨λh _=>?_,λh=>?_⟩
  .have ht:a.1.tmod 2=a.1%2:=Int.tmod_eq_emod_of_nonneg (Int.le_of_lt h);rw[ht];refine⟨by decide,A7.2 (by omega),?_⟩;show (_,())=(_,());congr 1;unfold AW;simp [h]
  .show (_,())=(_,());congr 1;unfold AW;simp [h])) I w hG
theorem A0g(a:I5 Y0 [FQ])(F:I5 Y0 [FQ]):(Bn .i64 a.1->(C3 .xor .i64 a.1 1,PUnit.unit)=F)=pfP (Y:=Y0) pf0 Tryz.f169 [FQ] [FQ] a F:=by kernel_rfl
noncomputable def Al1:PF Y0 169 where
 ta:=[FQ]
 tr:=[FQ]
 Mg:=none
 F a:=(B.flip a.1,())
 pa:=rfl
 pr:=rfl
 can:=by kernel_rfl
 ok a hr _ I w hG:=Ld (pf:=pf0) (fn:=Tryz.f169) (by kernel_rfl) rfl rfl hr (b0 (A0g a _) (λh=>by rw[Acf h];rfl)) I w hG
noncomputable def pf1:(q:FuncId)->Option (PF Y0 q)
 |182=>some Adu
 |185=>some Al2
 |169=>some Al1
 |_=>none
theorem Axo(a:I5 Y0 [FQ,.bool])(F:I5 Y0 [FQ]):((a.2.1=true->(B.flip a.1,PUnit.unit)=F)/\(¬a.2.1=true->(a.1,PUnit.unit)=F))=pfP (Y:=Y0) pf1 Tryz.f184 [FQ,.bool] [FQ] a F:=by kernel_rfl
noncomputable def Al4:PF Y0 184 where
 ta:=[FQ,.bool]
 tr:=[FQ]
 Mg:=none
 F a:=(Az a.1 a.2.1,())
 pa:=rfl
 pr:=rfl
 can:=by kernel_rfl
 ok a hr _ I w hG:=Ld (pf:=pf1) (fn:=Tryz.f184) (by kernel_rfl) rfl rfl hr (b0 (Axo a _) ⟨λh=>by show (_,())=(_,());rw[Az,UV h],λh=>by show (_,())=(_,());rw[Az,GT h]⟩) I w hG
theorem Asd(a:I5 Y0 [FQ])(F:I5 Y0 [.bool]):((decide (Av a.1=0),PUnit.unit)=F)=pfP (Y:=Y0) pf1 Tryz.f121 [FQ] [.bool] a F:=by kernel_rfl
noncomputable def Af2:PF Y0 121 where
 ta:=[FQ]
 tr:=[.bool]
 Mg:=none
 F a:=(decide (Av a.1=0),())
 pa:=rfl
 pr:=rfl
 can:=by kernel_rfl
 ok a hr _ I w hG:=Ld (pf:=pf1) (fn:=Tryz.f121) (by kernel_rfl) rfl rfl hr (b0 (Asd a _) rfl) I w hG
noncomputable def pf2:(q:FuncId)->Option (PF Y0 q)
 |182=>some Adu
 |185=>some Al2
 |169=>some Al1
 |184=>some Al4
 |121=>some Af2
 |_=>none
theorem Awa(a:I5 Y0 [FQ,FQ])(F:I5 Y0 [FQ,FQ,.bool]):((Az a.1 (AW a.2.1),Az a.2.1 (AW a.2.1),AW a.2.1,PUnit.unit)=F)=pfP (Y:=Y0) pf2 Tryz.f231 [FQ,FQ] [FQ,FQ,.bool] a F:=by kernel_rfl
noncomputable def Avq:PF Y0 231 where
 ta:=[FQ,FQ]
 tr:=[FQ,FQ,.bool]
 Mg:=none
 F a:=(Az a.1 (AW a.2.1),Az a.2.1 (AW a.2.1),AW a.2.1,())
 pa:=rfl
 pr:=rfl
 can:=by kernel_rfl
 ok a hr hd I w hG:=Ld (pf:=pf2) (fn:=Tryz.f231) (by kernel_rfl) rfl rfl hr (b0 (Awa a _) (rfl)) I w hG
theorem A3l(c:Int)(h:c<=4611686018427387903):Bn .i64 (2*max c 0):=A7.2 (by omega)
theorem A3m(a:I5 Y0 [FQ,.bool])(F:I5 Y0 [FQ]):(Bn .i64 (GZ true a.1 [(.i64,0)])->Bn .i64 (2*GZ true a.1 [(.i64,0)])/\(Az (2*GZ true a.1 [(.i64,0)]) a.2.1,PUnit.unit)=F)=pfP (Y:=Y0) pf2 Tryz.f234 [FQ,.bool] [FQ] a F:=by kernel_rfl
noncomputable def A3j:PF Y0 234 where
 ta:=[FQ,.bool]
 tr:=[FQ]
 Mg:=some λa=>((a.1:Int)<=4611686018427387903)
 F a:=(Az (2*max a.1 0) a.2.1,())
 pa:=rfl
 pr:=rfl
 can:=by kernel_rfl
 ok a hr hd I w hG:=Ld (pf:=pf2) (fn:=Tryz.f234) (by kernel_rfl) rfl rfl hr (b0 (A3m a _) (by have h:(a.1:Int)<=4611686018427387903:=hd _ rfl;exact λ_=>⟨A3l _ h,rfl⟩)) I w hG
theorem Rf{α:Type}{x y:Bool}{z:α}(h:x=y):(x,z)=(y,z):=by rw[h]
def Cg(c:Int):Bool:=decide ((97<=c/\c<=122)∨(65<=c/\c<=90))
theorem HG(c:Int):(97<=c->(c<=122->true=Cg c)/\(¬c<=122->(65<=c->decide (c<=90)=Cg c)/\(¬65<=c->false=Cg c)))/\(¬97<=c->(65<=c->decide (c<=90)=Cg c)/\(¬65<=c->false=Cg c)):=by unfold Cg;refine⟨λh1=>⟨λh2=>?_,λh2=>⟨λh3=>?_,λh3=>?_⟩⟩,λh1=>⟨λh3=>?_,λh3=>?_⟩⟩<;>first|exact(decide_eq_true (by omega)).symm|exact(decide_eq_false (by omega)).symm|grind
def isDigit(c:Int):Bool:=decide (48<=c/\c<=57)
theorem Am9(a:I5 Y0 [.int .u8])(F:I5 Y0 [.bool]):((97<=a.1->(a.1<=122->(true,PUnit.unit)=F)/\(¬a.1<=122->(65<=a.1->(decide (a.1<=90),PUnit.unit)=F)/\(¬65<=a.1->(false,PUnit.unit)=F)))/\(¬97<=a.1->(65<=a.1->(decide (a.1<=90),PUnit.unit)=F)/\(¬65<=a.1->(false,PUnit.unit)=F)))=pfP (Y:=Y0) pf2 Tryz.f202 [.int .u8] [.bool] a F:=by kernel_rfl
noncomputable def Al3:PF Y0 202 where
 ta:=[.int .u8]
 tr:=[.bool]
 Mg:=none
 F a:=(Cg a.1,())
 pa:=rfl
 pr:=rfl
 can:=by kernel_rfl
 ok a hr hd I w hG:=Ld (pf:=pf2) (fn:=Tryz.f202) (by kernel_rfl) rfl rfl hr (b0 (Am9 a _) (⟨λh1=>⟨λh2=>Rf (((HG _).1 h1).1 h2),λh2=>⟨λh3=>Rf ((((HG _).1 h1).2 h2).1 h3),λh3=>Rf ((((HG _).1 h1).2 h2).2 h3)⟩⟩,λh1=>⟨λh3=>Rf (((HG _).2 h1).1 h3),λh3=>Rf (((HG _).2 h1).2 h3)⟩⟩)) I w hG
theorem Aja(a:I5 Y0 [.int .u8])(F:I5 Y0 [.bool]):((97<=a.1->(a.1<=122->(true,PUnit.unit)=F)/\(¬a.1<=122->(65<=a.1->(decide (a.1<=90),PUnit.unit)=F)/\(¬65<=a.1->(false,PUnit.unit)=F)))/\(¬97<=a.1->(65<=a.1->(decide (a.1<=90),PUnit.unit)=F)/\(¬65<=a.1->(false,PUnit.unit)=F)))=pfP (Y:=Y0) pf2 Tryz.f154 [.int .u8] [.bool] a F:=by kernel_rfl
noncomputable def Aik:PF Y0 154 where
 ta:=[.int .u8]
 tr:=[.bool]
 Mg:=none
 F a:=(Cg a.1,())
 pa:=rfl
 pr:=rfl
 can:=by kernel_rfl
 ok a hr hd I w hG:=Ld (pf:=pf2) (fn:=Tryz.f154) (by kernel_rfl) rfl rfl hr (b0 (Aja a _) (⟨λh1=>⟨λh2=>Rf (((HG _).1 h1).1 h2),λh2=>⟨λh3=>Rf ((((HG _).1 h1).2 h2).1 h3),λh3=>Rf ((((HG _).1 h1).2 h2).2 h3)⟩⟩,λh1=>⟨λh3=>Rf (((HG _).2 h1).1 h3),λh3=>Rf (((HG _).2 h1).2 h3)⟩⟩)) I w hG
theorem Asa(a:I5 Y0 [.int .u8])(F:I5 Y0 [.bool]):((48<=a.1->(decide (a.1<=57),PUnit.unit)=F)/\(¬48<=a.1->(false,PUnit.unit)=F))=pfP (Y:=Y0) pf2 Tryz.f248 [.int .u8] [.bool] a F:=by kernel_rfl
noncomputable def Aqs:PF Y0 248 where
 ta:=[.int .u8]
 tr:=[.bool]
 Mg:=none
 F a:=(isDigit a.1,())
 pa:=rfl
 pr:=rfl
 can:=by kernel_rfl
 ok a hr hd I w hG:=Ld (pf:=pf2) (fn:=Tryz.f248) (by kernel_rfl) rfl rfl hr (b0 (Asa a _) (by refine⟨λh1=>Rf ?_,λh1=>Rf ?_⟩<;>(unfold isDigit;first|exact(decide_eq_false (λh=>h1 h.1)).symm|exact decide_eq_decide.2 ⟨λh=>⟨h1,h⟩,λh=>h.2⟩))) I w hG
theorem Aof(a:I5 Y0 [.int .u8])(F:I5 Y0 [.bool]):((48<=a.1->(decide (a.1<=57),PUnit.unit)=F)/\(¬48<=a.1->(false,PUnit.unit)=F))=pfP (Y:=Y0) pf2 Tryz.f201 [.int .u8] [.bool] a F:=by kernel_rfl
noncomputable def Al5:PF Y0 201 where
 ta:=[.int .u8]
 tr:=[.bool]
 Mg:=none
 F a:=(isDigit a.1,())
 pa:=rfl
 pr:=rfl
 can:=by kernel_rfl
 ok a hr hd I w hG:=Ld (pf:=pf2) (fn:=Tryz.f201) (by kernel_rfl) rfl rfl hr (b0 (Aof a _) (by refine⟨λh1=>Rf ?_,λh1=>Rf ?_⟩<;>(unfold isDigit;first|exact(decide_eq_false (λh=>h1 h.1)).symm|exact decide_eq_decide.2 ⟨λh=>⟨h1,h⟩,λh=>h.2⟩))) I w hG
noncomputable def pfT:(q:FuncId)->Option (PF Y0 q)
 |182=>some Adu
 |185=>some Al2
 |169=>some Al1
 |184=>some Al4
 |121=>some Af2
 |231=>some Avq
 |234=>some A3j
 |202=>some Al3
 |154=>some Aik
 |248=>some Aqs
 |201=>some Al5
 |_=>none
end
abbrev AL:AK:=.dat I6
abbrev Bh:AK:=.dat .ptr
abbrev Xe:AK:=.dat .bool
abbrev AE:RK:=.dat I6
abbrev Ajy:RK:=.dat .ptr
abbrev EY:RK:=.dat .bool
abbrev Adt:=3
abbrev W4:Bi:=⟨[.dat (.u 2),.dat (.u 3)],[EY]⟩
abbrev Jq:=8
abbrev FH:Bi:=⟨[.dat (.u 2)],[EY]⟩
abbrev EI:=9
abbrev DD:Bi:=⟨[.dat (.u 3),AL],[AE]⟩
abbrev BM:=10
abbrev B7:Bi:=⟨[],[EY]⟩
abbrev FO:=11
abbrev Ej:Bi:=⟨[.dat (.u 2)],[Ajy,.dat (.u 4),EY]⟩
abbrev Akf:=12
abbrev Aez:Bi:=⟨[Bh,.dat (.u 4),.dat (.u 3)],[AE,AE]⟩
abbrev XA:=13
abbrev TI:Bi:=⟨[.dat (.sl (.u 0)),.dat (.u 3),Xe],[.dat (.u 5),AE]⟩
abbrev Hn:=14
abbrev GJ:Bi:=⟨[Bh],[AE]⟩
abbrev TV:=15
abbrev Nk:Bi:=⟨[.dat (.u 2)],[AE]⟩
abbrev Rw:=16
abbrev K7:Bi:=⟨[.dat (.sl (.u 0)),.dat (.u 3),AL],[AE,EY]⟩
abbrev Fv:=17
abbrev DX:Bi:=⟨[Bh,AL,AL],[EY]⟩
abbrev Xo:=19
abbrev Tu:Bi:=⟨[.dat (.sl (.u 0)),AL,Xe],[.own I6,.own .bool]⟩
abbrev JP:=20
abbrev HC:Bi:=⟨[Bh,.dat (.u 4),Xe],[AE,AE]⟩
abbrev Cy:=25
abbrev Ci:Bi:=⟨[Bh,.dat (.sl I6)],[AE,AE]⟩
abbrev Iv:=27
abbrev Gl:Bi:=⟨[Bh,AL,AL],[EY,AE]⟩
abbrev IS:=28
abbrev Hx:Bi:=⟨[Bh,.dat (.sl I6)],[AE,AE]⟩
abbrev CQ:=29
abbrev CB:Bi:=⟨[Bh,AL,AL],[EY,AE]⟩
abbrev Me:=30
abbrev JE:Bi:=⟨[Bh,.dat (.u 4),.dat (.u 3)],[.own (.u 10),AE]⟩
abbrev FM:=32
abbrev Eh:Bi:=⟨[.dat (.sl (.u 0))],[AE]⟩
abbrev VI:=33
abbrev Ro:Bi:=⟨[AL,AL],[Ajy,AE]⟩
abbrev JV:=34
abbrev Gg:Bi:=⟨[.dat (.sl (.u 0))],[AE,AE]⟩
abbrev FN:=35
abbrev Ei:Bi:=⟨[.dat (.sl I6),AL],[EY]⟩
abbrev G1:=36
abbrev Ew:Bi:=⟨[AL,AL,.dat (.sl (.u 1))],[AE]⟩
abbrev Ab1:=37
abbrev UK:Bi:=⟨[.dat (.sl (.u 0))],[.dat (.u 4),AE]⟩
abbrev Iu:=38
abbrev EO:Bi:=⟨[Bh,.dat (.sl I6)],[EY]⟩
abbrev Qa:=39
abbrev LP:Bi:=⟨[Bh,.dat (.sl (.u 1))],[AE]⟩
abbrev JO:=40
abbrev HB:Bi:=⟨[Bh,.dat (.u 4)],[Ajy,AE]⟩
abbrev Fx:=41
abbrev Ey:Bi:=⟨[.dat (.sl (.u 0)),.dat (.u 3),Xe],[.dat (.u 5),AE]⟩
abbrev Ed:=42
abbrev Dq:Bi:=⟨[Bh,.dat (.u 3)],[AE]⟩
abbrev J2:=43
abbrev GL:Bi:=⟨[Bh,.dat (.sl I6)],[AE]⟩
abbrev Acx:=44
abbrev VK:Bi:=⟨[.dat (.u 3)],[AE]⟩
abbrev RY:=45
abbrev Ll:Bi:=⟨[.dat (.sl (.u 0)),.dat (.u 3),Xe],[.dat (.u 5),AE]⟩
abbrev Wa:=46
abbrev Qn:Bi:=⟨[Xe,AL],[.own .bool]⟩
abbrev Acw:=47
abbrev UJ:Bi:=⟨[.dat (.u 3)],[.dat (.sl .str),.dat (.sl .str)]⟩
abbrev Ul:=48
abbrev NU:Bi:=⟨[.dat (.sl (.u 0)),.dat (.sl I6),.dat (.sl .bool),.dat (.sl .str)],[.own I6,EY]⟩
abbrev Ac4:=49
abbrev Xc:Bi:=⟨[.dat (.sl (.u 0)),.dat (.u 3),.dat (.sl I6),.dat (.sl I6)],[AE,EY]⟩
abbrev E9:=50
abbrev DM:Bi:=⟨[Bh],[AE]⟩
abbrev Jp:=51
abbrev FG:Bi:=⟨[AL,AL],[EY]⟩
abbrev Qc:=52
abbrev LR:Bi:=⟨[Bh,AL,.dat (.sl .bool)],[EY,AE]⟩
abbrev IV:=53
abbrev FV:Bi:=⟨[.dat (.u 4),AL],[.dat (.sl I6)]⟩
abbrev AJ:=54
abbrev AD:Bi:=⟨[Bh,AL,AL],[AE]⟩
abbrev Bk:=56
abbrev AY:Bi:=⟨[Bh,.fn [.ptr,(.sl I6)] [I6,I6],.dat (.sl I6)],[AE]⟩
abbrev P1:=58
abbrev Mm:Bi:=⟨[Bh,AL,AL],[AE,AE]⟩
abbrev BN:=59
abbrev B8:Bi:=⟨[Bh,Xe],[AE]⟩
abbrev CN:=60
abbrev Co:Bi:=⟨[Bh,.dat (.u 3)],[.dat .mref]⟩
abbrev BG:=63
abbrev B3:Bi:=⟨[Bh,AL,AL,Xe],[AE]⟩
abbrev JX:=64
abbrev Gi:Bi:=⟨[AL],[AE]⟩
abbrev BT:=65
abbrev BE:Bi:=⟨[.dat (.u 0)],[AE]⟩
abbrev Uv:=66
abbrev P7:Bi:=⟨[.dat (.u 0)],[AE]⟩
abbrev Fy:=67
abbrev DY:Bi:=⟨[Bh,Xe],[AE]⟩
abbrev J1:=71
abbrev Ib:Bi:=⟨[Bh,.dat (.sl (.u 11))],[AE,AE]⟩
abbrev Nc:=73
abbrev KX:Bi:=⟨[Bh,AL,.fn [.ptr,I6,I6] [I6],.dat (.sl I6)],[AE,AE]⟩
abbrev P0:=74
abbrev Ml:Bi:=⟨[Bh,AL,AL],[AE]⟩
abbrev VA:=76
abbrev Rm:Bi:=⟨[Bh,.fn [.ptr,I6,I6] [I6],AL,AL,AL],[EY,AE]⟩
abbrev V8:=77
abbrev Rl:Bi:=⟨[Bh,AL,AL],[AE]⟩
abbrev Pz:=78
abbrev Mj:Bi:=⟨[Bh,AL,AL],[AE]⟩
abbrev JW:=79
abbrev Gh:Bi:=⟨[.dat (.u 9)],[AE]⟩
abbrev TJ:=80
abbrev NV:Bi:=⟨[AL,AL],[Ajy,AE]⟩
abbrev VE:=81
abbrev Qw:Bi:=⟨[AL],[Ajy]⟩
abbrev Lk:=82
abbrev HV:Bi:=⟨[.dat .str],[EY]⟩
abbrev CW:=83
abbrev Cv:Bi:=⟨[AL],[EY]⟩
abbrev PY:=84
abbrev LN:Bi:=⟨[.dat (.sl (.u 0))],[AE,AE]⟩
abbrev VC:=85
abbrev Qv:Bi:=⟨[AL],[AE]⟩
abbrev PZ:=86
abbrev LO:Bi:=⟨[.dat (.u 0)],[AE]⟩
abbrev O0:=87
abbrev KY:Bi:=⟨[Bh],[.own I6]⟩
abbrev JN:=88
abbrev HA:Bi:=⟨[Bh,AL],[AE]⟩
abbrev Ik:=89
abbrev Fo:Bi:=⟨[.dat (.u 4)],[AE]⟩
abbrev Md:=90
abbrev JD:Bi:=⟨[.dat (.u 3)],[AE]⟩
abbrev DP:=91
abbrev Dy:Bi:=⟨[.dat (.sl (.u 0)),.map .str I6,.dat (.u 3),Xe],[.dat (.u 5),AE]⟩
abbrev Mc:=92
abbrev JC:Bi:=⟨[.dat (.sl (.u 0))],[.map .str I6]⟩
abbrev Bp:=93
abbrev Bb:Bi:=⟨[.del (.u 3),.del .ptr],[.dat (.sl I6)]⟩
abbrev CM:=94
abbrev Cm:Bi:=⟨[.fn [.ptr,I6,I6] [I6,I6],.del .ptr,.fbx [] [(.sl I6)]],[AE]⟩
abbrev IX:=95
abbrev Fp:Bi:=⟨[Bh,.dat (.sl I6),.fbx [.ptr,I6,I6] [I6,I6]],[AE,AE]⟩
abbrev Ds:=96
abbrev CH:Bi:=⟨[.dat (.u 4),.dat .str],[AE]⟩
abbrev Ke:=97
abbrev Gt:Bi:=⟨[Bh,.dat (.sl I6)],[AE,AE]⟩
abbrev KN:=98
abbrev IF:Bi:=⟨[Bh,AL],[AE,AE]⟩
abbrev To:=99
abbrev Pk:Bi:=⟨[Bh,AL,AL],[AE,AE]⟩
abbrev Kd:=100
abbrev Gr:Bi:=⟨[Bh,.dat (.sl I6)],[AE,AE]⟩
abbrev Sa:=101
abbrev MS:Bi:=⟨[Bh,AL,AL,AL],[AE,AE]⟩
abbrev E3:=102
abbrev D5:Bi:=⟨[Bh,.dat (.u 3),.dat (.u 3),.fn [I6,I6] [.bool]],[AE]⟩
abbrev Kc:=103
abbrev Gq:Bi:=⟨[AL,AL],[EY]⟩
abbrev Kb:=104
abbrev Gp:Bi:=⟨[AL,AL],[EY]⟩
abbrev LC:=105
abbrev IH:Bi:=⟨[Bh,.dat (.u 3)],[EY]⟩
abbrev Ka:=106
abbrev Gn:Bi:=⟨[AL,AL,Bh],[EY]⟩
abbrev G3:=107
abbrev E0:Bi:=⟨[Bh,AL,AL],[AE,AE]⟩
abbrev Tm:=108
abbrev Pj:Bi:=⟨[Bh,.dat (.sl I6)],[AE,AE]⟩
abbrev Hc:=109
abbrev Em:Bi:=⟨[.dat (.sl I6),AL],[EY]⟩
abbrev FC:=110
abbrev E7:Bi:=⟨[Bh,.dat (.sl I6)],[AE]⟩
abbrev Sn:=111
abbrev LB:Bi:=⟨[.dat (.u 3),AL,AL],[AE,AE]⟩
abbrev G6:=112
abbrev Gm:Bi:=⟨[AL,AL],[.dat (.u 5),AE]⟩
abbrev Kg:=113
abbrev IN:Bi:=⟨[.dat (.sl (.u 0)),.dat .str],[AE]⟩
abbrev Ac0:=114
abbrev W5:Bi:=⟨[.dat (.u 3),.dat (.sl (.u 5))],[.dat (.u 5),AE]⟩
abbrev J0:=115
abbrev Hg:Bi:=⟨[.dat (.u 3),AL,.dat (.sl .str)],[.dat (.sl .str)]⟩
abbrev Acv:=116
abbrev UI:Bi:=⟨[.dat (.sl (.u 0)),.dat (.sl .str),AL],[EY]⟩
abbrev Tr:=117
abbrev LV:Bi:=⟨[.dat (.u 3)],[EY]⟩
abbrev JY:=118
abbrev IC:Bi:=⟨[.dat (.sl (.u 0)),.dat (.u 3),.dat (.sl I6),.dat (.sl I6)],[AE,EY]⟩
abbrev Ii:=119
abbrev Fl:Bi:=⟨[Bh],[AE]⟩
abbrev K3:=120
abbrev Hj:Bi:=⟨[AL],[AE]⟩
abbrev DU:=122
abbrev Dp:Bi:=⟨[Bh,AL],[AE,AE,AE,EY]⟩
abbrev GV:=123
abbrev ET:Bi:=⟨[.dat (.u 4),AL],[.dat (.sl I6)]⟩
abbrev BB:=124
abbrev Bw:Bi:=⟨[Bh,AL],[AE]⟩
abbrev JZ:=125
abbrev Ip:Bi:=⟨[Bh,.fn [.ptr] [I6]],[AE,AE]⟩
abbrev E2:=127
abbrev DN:Bi:=⟨[Bh,AL,AL,AL],[AE]⟩
abbrev Ap:=128
abbrev Ao:Bi:=⟨[Bh,.dat (.sl I6)],[]⟩
abbrev QG:=129
abbrev MQ:Bi:=⟨[Bh,.fn [.ptr,I6,I6] [I6],AL,AL],[AE,AE]⟩
abbrev Tl:=130
abbrev Ph:Bi:=⟨[Bh,AL,AL],[AE]⟩
abbrev HL:=131
abbrev FB:Bi:=⟨[Bh,AL],[AE,AE]⟩
abbrev Lr:=132
abbrev IG:Bi:=⟨[Bh,Xe],[AE]⟩
abbrev IY:=133
abbrev Gu:Bi:=⟨[.dat (.u 0)],[AE,AE]⟩
abbrev Cb:=134
abbrev BQ:Bi:=⟨[Bh,.dat .mref,AL,AL],[]⟩
abbrev Il:=135
abbrev Fq:Bi:=⟨[Bh,.dat (.u 3),.dat (.u 3),.fn [I6,I6,I6] []],[]⟩
abbrev DK:=136
abbrev CT:Bi:=⟨[AL,AL,AL,.del (.u 3),.del .ptr,Bh],[]⟩
abbrev C9:=138
abbrev Cd:Bi:=⟨[.own I6],[]⟩
abbrev AU:=139
abbrev AM:Bi:=⟨[.fn [I6] [.bool],.del .mref],[]⟩
abbrev Qf:=143
abbrev LU:Bi:=⟨[Bh,.dat (.sl (.u 11))],[AE]⟩
abbrev Sb:=144
abbrev MT:Bi:=⟨[Bh,.del (.sl (.u 11))],[AE]⟩
abbrev CY:=145
abbrev CC:Bi:=⟨[Bh,AL],[AE]⟩
abbrev RW:=146
abbrev MO:Bi:=⟨[Bh,.del I6,.del (.sl I6),.fbx [.ptr,I6,I6] [I6]],[AE]⟩
abbrev CD:=147
abbrev Cs:Bi:=⟨[Bh,AL],[AE]⟩
abbrev BO:=148
abbrev BF:Bi:=⟨[Bh,AL,AL,AL],[AE]⟩
abbrev Qb:=149
abbrev LQ:Bi:=⟨[Bh,.fn [.ptr] []],[AE]⟩
abbrev V9:=150
abbrev Qu:Bi:=⟨[Bh,.del I6,.fbx [.ptr,I6,I6] [I6],.del I6,.del I6,Bh],[]⟩
abbrev V7:=151
abbrev Qt:Bi:=⟨[AL],[Ajy,AE]⟩
abbrev Nb:=152
abbrev KE:Bi:=⟨[AL],[.own I6]⟩
abbrev K0:=155
abbrev Hh:Bi:=⟨[.dat .str,AL,Xe],[AE]⟩
abbrev Jn:=156
abbrev FE:Bi:=⟨[.dat (.sl .str),.dat .str],[EY]⟩
abbrev Jo:=157
abbrev FF:Bi:=⟨[],[.own .str]⟩
abbrev Kt:=158
abbrev HQ:Bi:=⟨[.dat (.u 0),Bh],[EY]⟩
abbrev Tp:=159
abbrev Pl:Bi:=⟨[.dat .str],[EY]⟩
abbrev Bq:=160
abbrev AQ:Bi:=⟨[.dat (.sl (.u 0)),.fn [(.u 0)] [.bool]],[EY]⟩
abbrev EJ:=161
abbrev DE:Bi:=⟨[Bh],[.own I6]⟩
abbrev E1:=162
abbrev D9:Bi:=⟨[Bh],[]⟩
abbrev Ec:=163
abbrev Dm:Bi:=⟨[Bh,AL],[AE]⟩
abbrev Fw:=164
abbrev Ex:Bi:=⟨[.dat (.u 3),AL,.fn [(.u 3),I6] [.bool]],[EY]⟩
abbrev F7:=165
abbrev Ep:Bi:=⟨[.dat (.u 3),AL,Bh,Bh],[EY]⟩
abbrev JK:=166
abbrev Hw:Bi:=⟨[.dat (.u 3)],[AE]⟩
abbrev GR:=167
abbrev Fj:Bi:=⟨[.dat (.sl (.u 0)),.map .str I6,.dat (.u 3),Xe,.dat (.sl (.u 5))],[.dat (.u 5),AE]⟩
abbrev JM:=168
abbrev Hz:Bi:=⟨[Bh,AL],[AE]⟩
abbrev Et:=169
abbrev DC:Bi:=⟨[AL],[AE]⟩
abbrev O3:=170
abbrev KZ:Bi:=⟨[Bh,.del I6,.del I6,.del I6],[AE]⟩
abbrev Fz:=171
abbrev DI:Bi:=⟨[AL,AL,AL,.fbx [I6,I6] [.bool],.del .ptr,Bh],[]⟩
abbrev Tk:=172
abbrev Pg:Bi:=⟨[Bh,AL,AL],[AE]⟩
abbrev CX:=173
abbrev Fk:Bi:=⟨[.dat (.sl I6),AL],[AE]⟩
abbrev Lq:=174
abbrev Ia:Bi:=⟨[Bh,AL],[AE]⟩
abbrev Ac2:=175
abbrev W7:Bi:=⟨[.dat (.u 3),AL],[AE]⟩
abbrev Iw:=176
abbrev GY:Bi:=⟨[.dat (.sl (.u 5))],[EY]⟩
abbrev Yw:=177
abbrev Uf:Bi:=⟨[.dat (.u 5),.dat (.u 5)],[AE,AE]⟩
abbrev Ac1:=178
abbrev W6:Bi:=⟨[.dat (.sl .str),.dat .str],[.dat (.sl .str)]⟩
abbrev Gj:=179
abbrev Fi:Bi:=⟨[Xe],[AE]⟩
abbrev Ef:=180
abbrev C7:Bi:=⟨[AL],[EY]⟩
abbrev NT:=181
abbrev Kz:Bi:=⟨[AL],[AE]⟩
abbrev AF:=183
abbrev AB:Bi:=⟨[Bh,AL],[.dat (.u 13),EY]⟩
abbrev G2:=186
abbrev Ez:Bi:=⟨[Bh,AL],[AE]⟩
abbrev Nf:=187
abbrev KF:Bi:=⟨[Bh,.fn [.ptr] []],[AE]⟩
abbrev Qe:=188
abbrev LS:Bi:=⟨[Bh,.fbx [.ptr] [I6],Bh],[]⟩
abbrev DT:=189
abbrev Dn:Bi:=⟨[Bh,AL],[EY]⟩
abbrev GU:=190
abbrev ES:Bi:=⟨[Bh,AL,AL,AL],[AE,AE]⟩
abbrev RX:=191
abbrev MP:Bi:=⟨[Bh,.del I6,.fbx [.ptr,I6,I6] [I6],.del I6],[AE]⟩
abbrev VH:=196
abbrev Qz:Bi:=⟨[AL,AL,AL],[AE,AE,AE,EY,AE,EY]⟩
abbrev HT:=197
abbrev F5:Bi:=⟨[Bh,AL,AL,AL,AL],[AE,EY]⟩
abbrev IW:=198
abbrev GK:Bi:=⟨[Bh,.dat (.sl I6)],[AE]⟩
abbrev Cq:=199
abbrev BY:Bi:=⟨[Bh,AL,AL],[AE,AE]⟩
abbrev HS:=200
abbrev F4:Bi:=⟨[Bh,AL,AL,AL,AL,AL],[]⟩
abbrev VF:=203
abbrev Qy:Bi:=⟨[.dat .str,.fn [(.int .u8)] [.bool]],[AE]⟩
abbrev JL:=204
abbrev Hy:Bi:=⟨[.dat (.int .u8)],[EY]⟩
abbrev EB:=205
abbrev De:Bi:=⟨[.dat (.sl .str),.dat .str],[EY]⟩
abbrev Ch:=206
abbrev By:Bi:=⟨[.dat (.sl (.u 0)),.fn [(.u 0)] [.bool]],[AE]⟩
abbrev Dk:=207
abbrev C8:Bi:=⟨[Bh],[AE]⟩
abbrev Ln:=208
abbrev HX:Bi:=⟨[Bh,AL,AL],[.dat (.sl (.u 16))]⟩
abbrev K6:=209
abbrev Hm:Bi:=⟨[Bh,AL,.dat (.sl (.u 16))],[AE]⟩
abbrev Ij:=210
abbrev Fm:Bi:=⟨[Bh],[AE]⟩
abbrev IU:=211
abbrev FU:Bi:=⟨[Bh],[AE]⟩
abbrev K5:=212
abbrev Hl:Bi:=⟨[Bh,AL],[]⟩
abbrev DS:=213
abbrev Dl:Bi:=⟨[Bh,AL,AL],[AE]⟩
abbrev Da:=214
abbrev C5:Bi:=⟨[Bh,AL,AL,AL],[AE]⟩
abbrev B5:=215
abbrev Bt:Bi:=⟨[Bh,AL],[]⟩
abbrev BZ:=216
abbrev BP:Bi:=⟨[Bh,.dat (.u 13)],[AE]⟩
abbrev Dr:=217
abbrev CK:Bi:=⟨[Bh,AL,AL,AL],[AE]⟩
abbrev B6:=218
abbrev Bu:Bi:=⟨[Bh,AL],[]⟩
abbrev IP:=219
abbrev GI:Bi:=⟨[AL],[AE,AE]⟩
abbrev Bz:=220
abbrev Br:Bi:=⟨[AL,AL],[.dat (.u 5),AE]⟩
abbrev Eb:=221
abbrev D4:Bi:=⟨[.dat (.sl (.u 5))],[.dat (.u 5),AE]⟩
abbrev GQ:=222
abbrev EP:Bi:=⟨[AL,.dat (.u 5),.dat (.u 5)],[.dat (.u 5),AE]⟩
abbrev Lp:=223
abbrev HZ:Bi:=⟨[Bh,AL],[AE]⟩
abbrev Ac3:=224
abbrev WB:Bi:=⟨[AL],[AE,AE]⟩
abbrev Aes:=225
abbrev YF:Bi:=⟨[.dat (.sl .str),.dat .str],[EY]⟩
abbrev IQ:=226
abbrev Gk:Bi:=⟨[Bh,AL],[EY]⟩
abbrev RZ:=227
abbrev IE:Bi:=⟨[Bh,.fn [.ptr] []],[.dat (.u 15),EY]⟩
abbrev Nw:=228
abbrev Kn:Bi:=⟨[Bh,.dat (.u 1)],[]⟩
abbrev Mw:=229
abbrev Jw:Bi:=⟨[Bh],[AE]⟩
abbrev Hr:=230
abbrev EF:Bi:=⟨[Bh,AL,AL],[EY]⟩
abbrev DA:=232
abbrev CS:Bi:=⟨[Bh,AL,AL],[AE,EY]⟩
abbrev IT:=233
abbrev FR:Bi:=⟨[Bh,AL,AL,AL],[AE,AE]⟩
abbrev Be:=235
abbrev AS:Bi:=⟨[.fn [I6] [.bool],.del .mref],[]⟩
abbrev F8:=249
abbrev DB:Bi:=⟨[.dat (.sl .str),.dat .str],[AE]⟩
abbrev GS:=251
abbrev ER:Bi:=⟨[Bh,AL],[AE]⟩
abbrev Ht:=253
abbrev EG:Bi:=⟨[Bh,AL,AL],[AE,AE]⟩
abbrev Mv:=254
abbrev Jv:Bi:=⟨[Bh],[AE]⟩
abbrev Nv:=255
abbrev Km:Bi:=⟨[Bh],[AE]⟩
abbrev Oz:=256
abbrev KM:=257
abbrev IB:Bi:=⟨[.dat (.sl I6),.dat (.sl I6)],[.own I6,AE]⟩
abbrev Oy:=258
abbrev L6:Bi:=⟨[.dat (.sl I6)],[.own I6]⟩
abbrev Mu:=259
abbrev Ju:Bi:=⟨[Bh,.dat (.u 13)],[AE,AE]⟩
abbrev Lm:=266
abbrev HW:Bi:=⟨[.fn [(.u 13)] [.bool],.del .ptr],[]⟩
abbrev K4:=268
abbrev Hk:Bi:=⟨[.fn [(.u 17),I6] [.bool],.del .ptr],[]⟩
abbrev Na:=274
abbrev KD:Bi:=⟨[.dat (.sl I6)],[EY]⟩
abbrev KL:=275
abbrev IA:Bi:=⟨[.dat (.sl I6)],[.own I6]⟩
abbrev HJ:=276
abbrev E6:Bi:=⟨[.own I6],[]⟩
abbrev L9:=278
abbrev I9:Bi:=⟨[.fn [I6] [.bool],.del .ptr],[]⟩
abbrev CP:Nat:=0
abbrev BJ:Nat:=1
abbrev CG:Nat:=2
abbrev A8:Nat:=3
abbrev BX:Nat:=4
abbrev CL:Nat:=6
abbrev BK:Nat:=7
abbrev Ba:Nat:=8
abbrev Ho:Nat:=9
abbrev Am:Nat:=15
abbrev GP:Nat:=23
abbrev Ak:Nat:=35
abbrev Ea:Nat:=44
abbrev Dd:Nat:=46
abbrev AO:Nat:=48
def sgL:List (FuncId×Bi):=[(3,W4),(8,FH),(9,DD),(10,B7),(11,Ej),(12,Aez),(13,TI),(14,GJ),(15,Nk),(16,K7),(17,DX),(19,Tu),(20,HC),(25,Ci),(27,Gl),(28,Hx),(29,CB),(30,JE),(32,Eh),(33,Ro),(34,Gg),(35,Ei),(36,Ew),(37,UK),(38,EO),(39,LP),(40,HB),(41,Ey),(42,Dq),(43,GL),(44,VK),(45,Ll),(46,Qn),(47,UJ),(48,NU),(49,Xc),(50,DM),(51,FG),(52,LR),(53,FV),(54,AD),(56,AY),(58,Mm),(59,B8),(60,Co),(63,B3),(64,Gi),(65,BE),(66,P7),(67,DY),(71,Ib),(73,KX),(74,Ml),(76,Rm),(77,Rl),(78,Mj),(79,Gh),(80,NV),(81,Qw),(82,HV),(83,Cv),(84,LN),(85,Qv),(86,LO),(87,KY),(88,HA),(89,Fo),(90,JD),(91,Dy),(92,JC),(93,Bb),(94,Cm),(95,Fp),(96,CH),(97,Gt),(98,IF),(99,Pk),(100,Gr),(101,MS),(102,D5),(103,Gq),(104,Gp),(105,IH),(106,Gn),(107,E0),(108,Pj),(109,Em),(110,E7),(111,LB),(112,Gm),(113,IN),(114,W5),(115,Hg),(116,UI),(117,LV),(118,IC),(119,Fl),(120,Hj),(122,Dp),(123,ET),(124,Bw),(125,Ip),(127,DN),(128,Ao),(129,MQ),(130,Ph),(131,FB),(132,IG),(133,Gu),(134,BQ),(135,Fq),(136,CT),(138,Cd),(139,AM),(143,LU),(144,MT),(145,CC),(146,MO),(147,Cs),(148,BF),(149,LQ),(150,Qu),(151,Qt),(152,KE),(155,Hh),(156,FE),(157,FF),(158,HQ),(159,Pl),(160,AQ),(161,DE),(162,D9),(163,Dm),(164,Ex),(165,Ep),(166,Hw),(167,Fj),(168,Hz),(169,DC),(170,KZ),(171,DI),(172,Pg),(173,Fk),(174,Ia),(175,W7),(176,GY),(177,Uf),(178,W6),(179,Fi),(180,C7),(181,Kz),(183,AB),(186,Ez),(187,KF),(188,LS),(189,Dn),(190,ES),(191,MP),(196,Qz),(197,F5),(198,GK),(199,BY),(200,F4),(203,Qy),(204,Hy),(205,De),(206,By),(207,C8),(208,HX),(209,Hm),(210,Fm),(211,FU),(212,Hl),(213,Dl),(214,C5),(215,Bt),(216,BP),(217,CK),(218,Bu),(219,GI),(220,Br),(221,D4),(222,EP),(223,HZ),(224,WB),(225,YF),(226,Gk),(227,IE),(228,Kn),(229,Jw),(230,EF),(232,CS),(233,FR),(235,AS),(249,DB),(251,ER),(253,EG),(254,Jv),(255,Km),(257,IB),(258,L6),(259,Ju),(266,HW),(268,Hk),(274,KD),(275,IA),(276,E6),(278,I9)]
def lkG:List (FuncId×Bi)->FuncId->Option Bi
 | [],_=>none
 |p::l,i=>if p.1=i then some p.2 else lkG l i
def sg:FuncId->Option Bi:=lkG sgL
def A4i:List (TypeId×(List Ty×List Ty)):=[(1,[],[]),(68,[.ptr,(.sl I6)],[I6,I6]),(111,[I6,I6],[.bool]),(120,[.ptr,I6,I6],[I6,I6]),(133,[],[(.sl I6)]),(150,[I6],[.bool]),(174,[.ptr],[I6]),(181,[I6,I6,I6],[]),(187,[.ptr,I6,I6],[I6]),(191,[.ptr],[]),(206,[(.int .u8)],[.bool]),(210,[(.u 0)],[.bool]),(213,[(.u 3),I6],[.bool]),(287,[I6],[I6]),(316,[(.u 13)],[.bool]),(318,[(.u 17),I6],[.bool]),(323,[(.u 17),(.u 17)],[I6])]
def lkT:List (TypeId×(List Ty×List Ty))->TypeId->Option (List Ty×List Ty)
 | [],_=>none
 |p::l,i=>if p.1=i then some p.2 else lkT l i
def QE:TypeId->Option (List Ty×List Ty):=lkT A4i
end Go.Proofs.YtcbkbpjlbmalmaaGreatDoor
namespace Go.Proofs.YtcbkbpjlbmalmaaGreatDoor
open Go Go.X Go.Y Go.RowKit Go.ChangeShapes Go.WideShapes Go.ChangeAt Go.Deep
section
def Wm(w:World):Cc:=λb=>b<w.heap.size
theorem Wm.st(w:World):St (Wm w) w []:=⟨λ_ h=>h,λ_ h=>by grind,List.nodup_nil⟩
theorem Ayi{I':Cc}{w w':World}(h:Ext (Wm w) w I' w'):Below w.heap.size w w':=⟨h.os,h.tape,h.output,h.size,λk a=>h.BD k a⟩
theorem Aij{w:World}{base:Nat}{a:Addr}{n:Nat}{v:Value}(d:a.spot=none)(h:w.cells? base a n=some v.cells.toList):Di w a v:=by obtain⟨_,i,f⟩:=World.cells?_some h;refine⟨d,λj g=>?_⟩;have e:=f j (by grind);rw[Array.getElem?_toList]at e;rw[<-e];obtain⟨b,o,s⟩:=a;obtain rfl:s=none:=d;grind[Addr.add]
theorem Aos{α:Type}{n:Nat}{p:Nat->α->Prop}(h:∀i,i<n->∃x,p i x):∃xs:List α,xs.length=n/\∀i(hi:i<xs.length),p i xs[i]:=by
 induction n with
 |zero=>simp
 |succ n e=>
  obtain⟨xs,a,c⟩:=e (λi hi=>h i (by omega));obtain⟨x,d⟩:=h n (by omega);refine⟨xs++[x],by simp [a],λi hi=>?_⟩;grind
set_option maxRecDepth 100000
noncomputable abbrev Wq:US:=Y0.toUS
def RdF(n:Nat)(t:TypeId)(T:Ty):Prop:=∀{H:Type}{enc:TypeId×Value->H}{w:World}{base:Nat}{sp:Nat->Bool}{held:Bool}{cs:List Value}{x:DataW H×List MemPlace},DataW.trod enc Tryz.prog w base sp held n t cs=some x->∃v,∃y:den Wq.D T,cs=v.cells.toList/\rp Wq T (Wm w) w v y
theorem Oc{n:Nat}{t:TypeId}(b:Tryz.prog.underlying t=some (.int .i64)):RdF n t I6:=λh=>by obtain⟨m,rfl,_,a⟩:=DataW.trod_int b h;refine⟨_,m,rfl,AT.2 ⟨rfl,?_⟩⟩;grind[Lit.wf,IntKind.min,IntKind.max,IntKind.signed,IntKind.bits,A7]
theorem Aqo{n:Nat}{t:TypeId}(a:Tryz.prog.underlying t=some .bool):RdF n t .bool:=λh=>by obtain⟨m,rfl,_⟩:=DataW.trod_bool a h;exact⟨_,m,rfl,GN.2 rfl⟩
theorem Alr{n:Nat}{t:TypeId}(b:Tryz.prog.underlying t=some .string):RdF n t .str:=λh=>by obtain⟨m,rfl,_,a⟩:=DataW.trod_string b h;exact⟨_,m,rfl,LX.2 ⟨rfl,by grind[maxLen,NA]⟩⟩
theorem Aaq{n:Nat}{t e:TypeId}{T:Ty}(Z:Tryz.prog.underlying t=some (.slice e))(N:Tryz.prog.cellsOf e=sz Wq T)(X:∀m,m<n->RdF m e T){H:Type}{enc:TypeId×Value->H}{w:World}{base:Nat}{sp:Nat->Bool}{held:Bool}{cs:List Value}{x:DataW H×List MemPlace}(h:DataW.trod enc Tryz.prog w base sp held n t cs=some x):∃v,∃y:List (den Wq.D T),cs=v.cells.toList/\rp Wq (.sl T) (Wm w) w v y/\(y=[]∨∃es rs,x.1=.slice es rs/\es.length=y.length):=by
 rcases DataW.trod_slice Z h with ⟨rfl,_⟩|⟨a,d,k,A,I,m,rfl,rfl,rfl,hb,hl,M,l,z,_,_⟩
 .exact⟨.slice none 0 0,[],rfl,Rq.2 ⟨none,0,rfl,Nat.le_refl _,by decide,.inl rfl⟩,.inl rfl⟩
 .have C:∀i,i<d->∃y:den Wq.D T,(a.add (i*sz Wq T)).spot=none/\a.block<w.heap.size/\∃v,rp Wq T (Wm w) w v y/\Di w ⟨a.block,a.off+i*sz Wq T,none⟩ v:=by
   intro i O;have D:=z i O;rw[ad (by omega)]at D;obtain⟨K,p,U⟩:=Option.bind_eq_some_iff.1 D;obtain⟨v,y,rfl,r⟩:=X m (Nat.lt_succ_self _) U;rw[N]at p;obtain⟨W,q,V⟩:=World.cells?_some p;have c:=Ak6 (S:=Wq) T;obtain⟨E,L⟩:∃E,v.cells.toList[0]?=some E:=⟨_,ad (by omega)⟩
   have Y:=(V 0 c).trans L;have f:(a.add (i*sz Wq T)).spot=none:=by have:=World.cell?_spot Y;simpa [Addr.add] using this
   have g:a.block<w.heap.size:=by have:=World.cells?_block p c;unfold Addr.add at this;split at this<;>exact this
   have P:(⟨a.block,a.off+i*sz Wq T,none⟩:Addr)=a.add (i*sz Wq T):=by
    obtain⟨b,o,s⟩:=a;by_cases G:i*sz Wq T=0
    .rw[G]at f ⊢;simp [Addr.add]at f ⊢;exact f.symm
    .simp [Addr.add,G]
   grind[Aij]
  obtain⟨u,q,c⟩:=Aos C;refine⟨.slice (some a) d k,u,rfl,Rq.2 ⟨some a,k,by rw[q],by omega,by grind[maxLen,NA],?_⟩,.inr ⟨_,_,rfl,by rw[ay,l,q]⟩⟩;by_cases J:u=[]
  .grind
  .have B:0<u.length:=List.length_pos_iff.2 J;obtain⟨F,Q,_⟩:=c 0 B;refine .inr ⟨a.block,a.off,?_,Q,λj R=>(c j R).2.2⟩;rw[Nat.zero_mul]at F;obtain⟨b,o,s⟩:=a;exact congrArg some (by rw[show s=none from F])
theorem YJ{n:Nat}{t e:TypeId}{T:Ty}(d:Tryz.prog.underlying t=some (.slice e))(c:Tryz.prog.cellsOf e=sz Wq T)(b:∀m,m<n->RdF m e T):RdF n t (.sl T):=λh=>by grind[Aaq]
theorem Awy{α:Type}{l:List α}(h:l.length=4):∃a b c d,l=[a,b,c,d]:=by
 match l,h with
 | [a,b,c,d],_=>simp
theorem Awz{α:Type}{l:List α}(h:l.length=3):∃a b c,l=[a,b,c]:=by
 match l,h with
 | [a,b,c],_=>simp
section
variable {H:Type} {enc:TypeId×Value->H} {w:World} {base:Nat} {sp:Nat->Bool} {held:Bool} {n:Nat} {t:TypeId} {fs:Array Field} {cs:List Value} {x:DataW H×List MemPlace} {t0 t1 t2 t3:TypeId}
theorem X2(z:Tryz.prog.underlying t=some (.struct fs))(B:Tryz.prog.cellsOf t=4)(hs:fs.toList.map (λf=>(f.offset,f.type))=[(0,t0),(1,t1),(2,t2),(3,t3)])(A:Tryz.prog.cellsOf t0=1)(F:Tryz.prog.cellsOf t1=1)(H:Tryz.prog.cellsOf t2=1)(C:Tryz.prog.cellsOf t3=1)(h:DataW.trod enc Tryz.prog w base sp held n t cs=some x):∃m a b c d x0 x1 x2 x3,n=m+1/\cs=[a,b,c,d]/\x.1=.agg [x0.1,x1.1,x2.1,x3.1]/\DataW.trod enc Tryz.prog w base sp held m t0 [a]=some x0/\DataW.trod enc Tryz.prog w base sp held m t1 [b]=some x1/\DataW.trod enc Tryz.prog w base sp held m t2 [c]=some x2/\DataW.trod enc Tryz.prog w base sp held m t3 [d]=some x3:=by obtain⟨q,m,rfl,rfl,o,s,e⟩:=DataW.trod_struct z h;obtain⟨l⟩:=fs;obtain⟨y,r,G,u,rfl⟩:=Awy (show l.length=4 by simpa using congrArg c6 hs);simp only[bg,bk,bu,bv,and_true]at hs;obtain⟨⟨v,rfl⟩,⟨p,rfl⟩,⟨E,rfl⟩,⟨D,rfl⟩⟩:=hs;rw[B]at o;obtain⟨x0,x1,x2,x3,rfl⟩:=Awy (show q.length=4 from s);obtain⟨a,b,c,d,rfl⟩:=Awy o;have g:=e 0 y rfl;have j:=e 1 r rfl;have k:=e 2 G rfl;have i:=e 3 u rfl;rw[v,A]at g;rw[p,F]at j;rw[E,H]at k;rw[D,C]at i;exact⟨m,a,b,c,d,x0,x1,x2,x3,rfl,rfl,rfl,g,j,k,i⟩
theorem X3(A:Tryz.prog.underlying t=some (.struct fs))(y:Tryz.prog.cellsOf t=3)(hs:fs.toList.map (λf=>(f.offset,f.type))=[(0,t0),(1,t1),(2,t2)])(o:Tryz.prog.cellsOf t0=1)(v:Tryz.prog.cellsOf t1=1)(k:Tryz.prog.cellsOf t2=1)(h:DataW.trod enc Tryz.prog w base sp held n t cs=some x):∃m a b c x0 x1 x2,n=m+1/\cs=[a,b,c]/\x.1=.agg [x0.1,x1.1,x2.1]/\DataW.trod enc Tryz.prog w base sp held m t0 [a]=some x0/\DataW.trod enc Tryz.prog w base sp held m t1 [b]=some x1/\DataW.trod enc Tryz.prog w base sp held m t2 [c]=some x2:=by obtain⟨B,m,rfl,rfl,g,u,d⟩:=DataW.trod_struct A h;obtain⟨l⟩:=fs;obtain⟨z,q,s,rfl⟩:=Awz (show l.length=3 by simpa using congrArg c6 hs);simp only[bg,bk,bu,bv,and_true]at hs;obtain⟨⟨p,rfl⟩,⟨C,rfl⟩,⟨r,rfl⟩⟩:=hs;rw[y]at g;obtain⟨x0,x1,x2,rfl⟩:=Awz (show B.length=3 from u);obtain⟨a,b,c,rfl⟩:=Awz g;have j:=d 0 z rfl;have e:=d 1 q rfl;have i:=d 2 s rfl;rw[p,o]at j;rw[C,v]at e;rw[r,k]at i;exact⟨m,a,b,c,x0,x1,x2,rfl,rfl,rfl,j,e,i⟩
end
variable {v:Value}
theorem one_cell{T:Ty}(b:T.leaf=true){I:Cc}{w:World}{a:Value}{y:den Wq.D T}(h:[a]=v.cells.toList)(r:rp Wq T I w v y):rp Wq T I w a y:=by grind[JF]
theorem Avg{n:Nat}:RdF n 53 (.u 0):=λh=>by obtain⟨m,a,b,c,d,x0,x1,x2,x3,rfl,rfl,_,h0,h1,h2,h3⟩:=X2 Tryz.underlying53 (by kernel_rfl) rfl (by kernel_rfl) (by kernel_rfl) (by kernel_rfl) (by kernel_rfl) h;obtain⟨v0,y0,e0,r0⟩:=Alr Tryz.underlying9 h0;obtain⟨v1,y1,e1,r1⟩:=Aqo Tryz.underlying4 h1;obtain⟨v2,y2,e2,r2⟩:=Oc Tryz.underlying3 h2;obtain⟨v3,y3,e3,r3⟩:=Oc Tryz.underlying3 h3;exact⟨.agg ⟨[a,b,c,d]⟩,(⟨y0,y1,y2,y3⟩:Ar),rfl,GM.2 ⟨[a,b,c,d],rfl,F2.cons (one_cell rfl e0 r0) (F2.cons (one_cell rfl e1 r1) (F2.cons (one_cell rfl e2 r2) (F2.cons (one_cell rfl e3 r3) F2.nil)))⟩⟩
theorem Als{n:Nat}:RdF n 87 (.u 1):=λh=>by obtain⟨m,a,b,c,x0,x1,x2,rfl,rfl,_,h0,h1,h2⟩:=X3 Tryz.underlying87 (by kernel_rfl) rfl (by kernel_rfl) (by kernel_rfl) (by kernel_rfl) h;obtain⟨v0,y0,e0,r0⟩:=Oc Tryz.underlying3 h0;obtain⟨v1,y1,e1,r1⟩:=Oc Tryz.underlying3 h1;obtain⟨v2,y2,e2,r2⟩:=Oc Tryz.underlying3 h2;exact⟨.agg ⟨[a,b,c]⟩,(⟨y0,y1,y2⟩:BA),rfl,GM.2 ⟨[a,b,c],rfl,F2.cons (one_cell rfl e0 r0) (F2.cons (one_cell rfl e1 r1) (F2.cons (one_cell rfl e2 r2) F2.nil))⟩⟩
theorem Aqp:∀n:Nat,RdF n 29 (.u 3):=by
 intro n;induction n using Nat.strongRecOn with
 |_ n ih=>
  intro H enc w base sp held cs x h;obtain⟨m,a,b,c,d,x0,x1,x2,x3,rfl,rfl,_,h0,h1,h2,h3⟩:=X2 Tryz.underlying29 (by kernel_rfl) rfl (by kernel_rfl) (by kernel_rfl) (by kernel_rfl) (by kernel_rfl) h;obtain⟨v0,y0,e0,r0⟩:=Oc Tryz.underlying3 h0;obtain⟨v1,y1,e1,r1⟩:=Oc Tryz.underlying3 h1;obtain⟨v2,y2,e2,r2⟩:=Alr Tryz.underlying9 h2;obtain⟨v3,y3,e3,r3⟩:=YJ Tryz.underlying27 (by kernel_rfl) (λk hk=>ih k (by omega)) h3;exact⟨.agg ⟨[a,b,c,d]⟩,(⟨y0,y1,y2,y3⟩:Ae),rfl,GM.2 ⟨[a,b,c,d],rfl,F2.cons (one_cell rfl e0 r0) (F2.cons (one_cell rfl e1 r1) (F2.cons (one_cell rfl e2 r2) (F2.cons (one_cell rfl e3 r3) F2.nil)))⟩⟩
theorem Avh{n:Nat}{H:Type}{enc:TypeId×Value->H}{w:World}{base:Nat}{sp:Nat->Bool}{held:Bool}{x:DataW H×List MemPlace}(hv:∃cs,v=.agg cs)(h:DataW.trod enc Tryz.prog w base sp held n 26 v.cells.toList=some x):∃y:BH,rp Wq (.u 2) (Wm w) w v y/\(y.Aa=[]∨∃es rs ds,x.1=.agg (.slice es rs::ds)/\es.length=y.Aa.length):=by
 obtain⟨⟨l⟩,rfl⟩:=hv;obtain⟨m,a,b,c,x0,x1,x2,rfl,e,hx,h0,h1,h2⟩:=X3 Tryz.underlying26 (by kernel_rfl) rfl (by kernel_rfl) (by kernel_rfl) (by kernel_rfl) h;have e:l=[a,b,c]:=e;subst e;obtain⟨v0,y0,e0,r0,hl⟩:=Aaq Tryz.underlying22 (by kernel_rfl) (λk _=>Avg) h0;obtain⟨v1,y1,e1,r1⟩:=YJ Tryz.underlying23 (by kernel_rfl) (λk _=>Oc Tryz.underlying3) h1;obtain⟨v2,y2,e2,r2⟩:=YJ Tryz.underlying24 (by kernel_rfl) (λk _=>Als) h2;refine⟨(⟨y0,y1,y2⟩:BH),GM.2 ⟨[a,b,c],rfl,F2.cons (one_cell rfl e0 r0) (F2.cons (one_cell rfl e1 r1) (F2.cons (one_cell rfl e2 r2) F2.nil))⟩,?_⟩;rcases hl with hl|⟨es,rs,hs,hn⟩
 .exact .inl hl
 .exact .inr ⟨es,rs,[x1.1,x2.1],by rw[hx,hs],hn⟩
theorem Azp{n:Nat}{H:Type}{enc:TypeId×Value->H}{w:World}{base:Nat}{sp:Nat->Bool}{held:Bool}{x:DataW H×List MemPlace}(a:∃cs,v=.agg cs)(h:DataW.trod enc Tryz.prog w base sp held n 29 v.cells.toList=some x):∃y:Ae,rp Wq (.u 3) (Wm w) w v y:=by obtain⟨⟨l⟩,rfl⟩:=a;obtain⟨b,y,e,r⟩:=Aqp n h;obtain⟨cs,rfl,c⟩:=GM.1 r;have e:l=cs:=e;grind
theorem b53:Tryz.prog.bytesOf 53=40:=by kernel_rfl
theorem Asz{H:Type}{ds:List (DataW H)}{es rs dr:List (DataW H)}{ts:List TypeId}(h:(DataW.weightsEach Tryz.prog (26::ts) (.agg (.slice es rs::dr)::ds)).all (·<=reachBytes)=true):es.length<=1000000000000000:=by
 have a:=List.all_eq_true.1 h ((es.length+rs.length)*40) (by unfold DataW.weightsEach;refine ao _ ?_;unfold DataW.weights;rw[Tryz.underlying26];simp only[bg,bk];grind[DataW.weightsEach,ao,DataW.weights,Tryz.underlying22,b53,List.mem_cons_self])
 grind[reachBytes]
end
end Go.Proofs.YtcbkbpjlbmalmaaGreatDoor
namespace Go.Proofs.YtcbkbpjlbmalmaaGreatDoor
open Go Go.X Go.Y
theorem mpP{p q:Prop}(e:p=q)(h:p):q:=b0 e h
theorem wF(F:Func)(n:An Y0){q:FuncId}{σ:Bi}{a:Jg Y0 σ.args}{H:HY}{Q:L0 Y0 σ.res->No Y0 σ.args->HP}{X:PX}{p:Prop}(h:p)(hf:Y0.P.funcs[q]?=some F:=by kernel_rfl)(e:p=fnX sg QE pfT F σ n a H Q X:=by kernel_rfl):qK q σ a H Q X:=U2 hf (mpP e h)
theorem wFS(F:Func)(n:An Y0){q:FuncId}{σ:Bi}{a:Jg Y0 σ.args}{H:HY}{Q:L0 Y0 σ.res->No Y0 σ.args->HP}{X:PX}{p:Prop}(h:p)(hf:Y0.P.funcs[q]?=some F:=by kernel_rfl)(e:p=fnS sg QE pfT F σ n a H Q X:=by kernel_rfl):qK q σ a H Q X:=Ahz hf (mpP e h)
noncomputable def CV:T2 Y0 62:=RL {N:=0,NG:=QE,sigs:=sg,pf:=pfT,X:=λ_ _ _=>False,lp:=[],jn:=[],pr:=[],im:=[1]} 62 Tryz.f62 (by kernel_rfl) (by kernel_rfl)
noncomputable def Ou:T2 Y0 153:=RL {N:=0,NG:=QE,sigs:=sg,pf:=pfT,X:=λ_ _ _=>False,lp:=[],jn:=[],pr:=[(3,7)],im:=[]} 153 Tryz.f153 (by kernel_rfl) (by kernel_rfl)
noncomputable def CI:T2 Y0 192:=RL {N:=0,NG:=QE,sigs:=sg,pf:=pfT,X:=λ_ _ _=>False,lp:=[],jn:=[],pr:=[],im:=[1]} 192 Tryz.f192 (by kernel_rfl) (by kernel_rfl)
noncomputable def DJ:T2 Y0 193:=Axc {N:=0,NG:=QE,sigs:=sg,pf:=pfT,X:=λ_ _ _=>False,lp:=[],jn:=[],pr:=[(2,15)],im:=[],tk:=[12],tw:=[12]} 193 Tryz.f193 (by kernel_rfl) (by kernel_rfl)
noncomputable def Ih:T2 Y0 247:=RL {N:=0,NG:=QE,sigs:=sg,pf:=pfT,X:=λ_ _ _=>False,lp:=[(3,⟨[(5,.one (.dat (.int .u64))),(13,.nat)],[0,12],true⟩)],jn:=[],pr:=[],im:=[3]} 247 Tryz.f247 (by kernel_rfl) (by kernel_rfl)
noncomputable def IL:T2 Y0 250:=RL {N:=0,NG:=QE,sigs:=sg,pf:=pfT,X:=λ_ _ _=>False,lp:=[],jn:=[],pr:=[],im:=[1]} 250 Tryz.f250 (by kernel_rfl) (by kernel_rfl)
noncomputable def Ig:T2 Y0 252:=RL {N:=0,NG:=QE,sigs:=sg,pf:=pfT,X:=λ_ _ _=>False,lp:=[],jn:=[],pr:=[],im:=[1]} 252 Tryz.f252 (by kernel_rfl) (by kernel_rfl)
noncomputable def Jz:T2 Y0 267:=RL {N:=0,NG:=QE,sigs:=sg,pf:=pfT,X:=λ_ _ _=>False,lp:=[],jn:=[],pr:=[],im:=[1]} 267 Tryz.f267 (by kernel_rfl) (by kernel_rfl)
noncomputable def A4a:(q:FuncId)->Option (T2 Y0 q)
 |62=>some CV
 |153=>some Ou
 |192=>some CI
 |193=>some DJ
 |247=>some Ih
 |250=>some IL
 |252=>some Ig
 |267=>some Jz
 |_=>none
noncomputable def Jl:T2 Y0 137:=RL {N:=0,NG:=QE,sigs:=sg,pf:=pfT,X:=λ_ _ _=>False,lp:=[],jn:=[],pr:=[],im:=[],il:=A4a} 137 Tryz.f137 (by kernel_rfl) (by kernel_rfl)
noncomputable def A39:(q:FuncId)->Option (T2 Y0 q)
 |62=>some CV
 |137=>some Jl
 |153=>some Ou
 |192=>some CI
 |193=>some DJ
 |247=>some Ih
 |250=>some IL
 |252=>some Ig
 |267=>some Jz
 |_=>none
noncomputable def Ov:T2 Y0 61:=RL {N:=0,NG:=QE,sigs:=sg,pf:=pfT,X:=λ_ _ _=>False,lp:=[],jn:=[],pr:=[],im:=[],il:=A39} 61 Tryz.f61 (by kernel_rfl) (by kernel_rfl)
noncomputable def ilT:(q:FuncId)->Option (T2 Y0 q)
 |61=>some Ov
 |62=>some CV
 |137=>some Jl
 |153=>some Ou
 |192=>some CI
 |193=>some DJ
 |247=>some Ih
 |250=>some IL
 |252=>some Ig
 |267=>some Jz
 |_=>none
end Go.Proofs.YtcbkbpjlbmalmaaGreatDoor
namespace Go.Proofs.YtcbkbpjlbmalmaaGreatDoor
open Go Go.Shelf
def Y8:Go.Shelf.Ren:=⟨fun|6=>269|15=>195|14=>279|28=>245|29=>246|20=>281|21=>282|22=>283|23=>284|24=>285|25=>286|26=>287|27=>288|46=>289|47=>261|48=>262|49=>290|50=>291|57=>292|n=>n,fun|22=>305|24=>288|25=>323|3=>3|39=>237|0=>0|53=>285|55=>183|4=>4|46=>279|45=>278|50=>47|5=>5|9=>9|66=>310|70=>314|76=>325|77=>82|n=>n,fun|n=>n⟩
theorem ZX:Go.Proofs.SlLaysF0.n6 Tryz.prog Y8:={
 mixed:=by kernel_rfl,
 f6:=⟨Tryz.f269.name,by decide,Tryz.func269.trans (congrArg some (by kernel_rfl))⟩,
 f14:=⟨Tryz.f279.name,by decide,Tryz.func279.trans (congrArg some (by kernel_rfl))⟩,
 f15:=Tryz.func195.trans (congrArg some (by kernel_rfl)),
 f20:=⟨Tryz.f281.name,by decide,Tryz.func281.trans (congrArg some (by kernel_rfl))⟩,
 f21:=⟨Tryz.f282.name,by decide,Tryz.func282.trans (congrArg some (by kernel_rfl))⟩,
 f22:=⟨Tryz.f283.name,by decide,Tryz.func283.trans (congrArg some (by kernel_rfl))⟩,
 f23:=⟨Tryz.f284.name,by decide,Tryz.func284.trans (congrArg some (by kernel_rfl))⟩,
 f24:=⟨Tryz.f285.name,by decide,Tryz.func285.trans (congrArg some (by kernel_rfl))⟩,
 f25:=⟨Tryz.f286.name,by decide,Tryz.func286.trans (congrArg some (by kernel_rfl))⟩,
 f26:=⟨Tryz.f287.name,by decide,Tryz.func287.trans (congrArg some (by kernel_rfl))⟩,
 f27:=⟨Tryz.f288.name,by decide,Tryz.func288.trans (congrArg some (by kernel_rfl))⟩,
 f28:=Tryz.func245.trans (congrArg some (by kernel_rfl)),
 f29:=Tryz.func246.trans (congrArg some (by kernel_rfl)),
 f46:=⟨Tryz.f289.name,by decide,Tryz.func289.trans (congrArg some (by kernel_rfl))⟩,
 f47:=Tryz.func261.trans (congrArg some (by kernel_rfl)),
 f48:=Tryz.func262.trans (congrArg some (by kernel_rfl)),
 f49:=⟨Tryz.f290.name,by decide,Tryz.func290.trans (congrArg some (by kernel_rfl))⟩,
 f50:=⟨Tryz.f291.name,by decide,Tryz.func291.trans (congrArg some (by kernel_rfl))⟩,
 f57:=⟨Tryz.f292.name,by decide,Tryz.func292.trans (congrArg some (by kernel_rfl))⟩,
 t0:=Tryz.underlying0,
 a0:=Tryz.isAgg0,
 z0:=Tryz.sizeOf0,
 v0:=Tryz.zeroValue0,
 t3:=Tryz.underlying3,
 a3:=Tryz.isAgg3,
 z3:=Tryz.sizeOf3,
 v3:=Tryz.zeroValue3,
 t4:=Tryz.underlying4,
 a4:=Tryz.isAgg4,
 z4:=Tryz.sizeOf4,
 v4:=Tryz.zeroValue4,
 t5:=Tryz.underlying5,
 a5:=Tryz.isAgg5,
 z5:=Tryz.sizeOf5,
 v5:=Tryz.zeroValue5,
 t9:=Tryz.underlying9,
 a9:=Tryz.isAgg9,
 z9:=Tryz.sizeOf9,
 v9:=Tryz.zeroValue9,
 t22:=Tryz.underlying305,
 a22:=Tryz.isAgg305,
 z22:=Tryz.sizeOf305,
 v22:=Tryz.zeroValue305,
 t25:=Tryz.underlying323,
 a25:=Tryz.isAgg323,
 z25:=Tryz.sizeOf323,
 v25:=Tryz.zeroValue323,
 t39:=Tryz.underlying237,
 a39:=Tryz.isAgg237,
 z39:=Tryz.sizeOf237,
 v39:=Tryz.zeroValue237,
 t45:=Tryz.underlying278,
 a45:=Tryz.isAgg278,
 z45:=Tryz.sizeOf278,
 v45:=Tryz.zeroValue278,
 t46:=Tryz.underlying279,
 a46:=Tryz.isAgg279,
 z46:=Tryz.sizeOf279,
 v46:=Tryz.zeroValue279,
 t50:=Tryz.underlying47,
 a50:=Tryz.isAgg47,
 z50:=Tryz.sizeOf47,
 v50:=Tryz.zeroValue47,
 t53:=Tryz.underlying285,
 a53:=Tryz.isAgg285,
 z53:=Tryz.sizeOf285,
 v53:=Tryz.zeroValue285,
 t55:=Tryz.underlying183,
 a55:=Tryz.isAgg183,
 z55:=Tryz.sizeOf183,
 v55:=Tryz.zeroValue183,
 t66:=Tryz.underlying310,
 a66:=Tryz.isAgg310,
 z66:=Tryz.sizeOf310,
 v66:=Tryz.zeroValue310,
 t70:=Tryz.underlying314,
 a70:=Tryz.isAgg314,
 z70:=Tryz.sizeOf314,
 v70:=Tryz.zeroValue314,
 t76:=Tryz.underlying325,
 a76:=Tryz.isAgg325,
 z76:=Tryz.sizeOf325,
 v76:=Tryz.zeroValue325,
 t77:=Tryz.underlying82,
 a77:=Tryz.isAgg82,
 z77:=Tryz.sizeOf82,
 v77:=Tryz.zeroValue82}
end Go.Proofs.YtcbkbpjlbmalmaaGreatDoor
namespace Go.Proofs.YtcbkbpjlbmalmaaGreatDoor
open Go Go.X Go.Y
section
set_option maxRecDepth 100000
set_option maxHeartbeats 2000000
def PD(s:Option Nat)(v:Int)(H:HY)(Q:Int×UT->UU)(X:PX):=(s=none->Q (-1,()) () H)/\(¬s=none->∃(b:Nat),s=some b/\∃(x:Ah),H b=some (Ob.st A8 x)/\x=x/\qK G2 Ez (x.levels,v,()) H (λ(b:Int×UT)_ G=>Q (b.1,()) () G) X)
theorem PC s v H Q X(h_:PD s v H Q X):qK BB Bw (s,v,()) H Q X:=wF Tryz.f124 {} h_
def Q8(s:Option Nat)(H:HY)(Q:Int×UT->UU)(_:PX):=(s=none->Q (0,()) () H)/\(¬s=none->∃(b:Nat),s=some b/\∃(x:Ah),H b=some (Ob.st A8 x)/\∃(b:Nat),x.levels=some b/\x=x/\∃(x:AN),H b=some (Ob.st CG x)/\(x.vars.length<=2^63-1->x=x/\Q ((↑x.vars.length:Int),()) () H))
theorem Q7 s H Q X(h_:Q8 s H Q X):qK Ii Fl (s,()) H Q X:=wF Tryz.f119 {} h_
def QA(s:Option Nat)(H:HY)(Q:Int×UT->UU)(X:PX):=(s=none->Q (0,()) () H)/\(¬s=none->∃(b:Nat),s=some b/\∃(x:Ah),H b=some (Ob.st A8 x)/\x=x/\qK Mv Jv (x.DZ,()) H (λ(b:Int×UT)_ G=>Q (b.1,()) () G) X)
theorem Q9 s H Q X(h_:QA s H Q X):qK Ij Fm (s,()) H Q X:=wF Tryz.f210 {} h_
def R3(s:Option Nat)(H:HY)(Q:Int×UT->UU)(X:PX):=(s=none->Q (0,()) () H)/\(¬s=none->∃(b:Nat),s=some b/\∃(x:Ah),H b=some (Ob.st A8 x)/\x=x/\qK Nv Km (x.DZ,()) H (λ(b:Int×UT)_ G=>Q (b.1,()) () G) X)
theorem R2 s H Q X(h_:R3 s H Q X):qK IU FU (s,()) H Q X:=wF Tryz.f211 {} h_
def Ft(s:Option Nat)(f:Int)(H:HY)(Q:UT->UU)(X:PX):=(Av f=0->Q () () H)/\(¬Av f=0->∃(b:Nat),s=some b/\∃(x:Ah),H b=some (Ob.st A8 x)/\(IK (Av f)->(IK (Av f)->(0:Int)<=Av f)/\∃(h:(Av f).toNat<x.counts.length),∃(h:(Av f).toNat<x.counts.length),IK x.counts[(Av f).toNat]->IK (x.counts[(Av f).toNat]+1)/\(IK (Av f)->(IK (Av f)->(0:Int)<=Av f)/\∃(h1:(Av f).toNat<x.counts.length),(Av f).toNat<x.counts.length/\(IK (Av f)->(IK (Av f)->(0:Int)<=Av f)/\∃(h2:(Av f).toNat<(x.counts.set (Av f).toNat (x.counts[(Av f).toNat]+1)).length),∃(h3:(Av f).toNat<(x.counts.set (Av f).toNat (x.counts[(Av f).toNat]+1)).length),((1:Int)<(x.counts.set (Av f).toNat (x.counts[(Av f).toNat]+1))[(Av f).toNat]->Q () () (Ab H b (Ob.st A8 {x with counts:=x.counts.set (Av f).toNat (x.counts[(Av f).toNat]+1)})))/\(¬(1:Int)<(x.counts.set (Av f).toNat (x.counts[(Av f).toNat]+1))[(Av f).toNat]->IK x.dead->IK (x.dead-1)/\qK AF AB (x.DZ,Av f,()) (Ab H b (Ob.st A8 {x with counts:=x.counts.set (Av f).toNat (x.counts[(Av f).toNat]+1),dead:=x.dead-1})) (λ(b:Au×Bool×UT)_ G=>qK B5 Bt (s,b.1.Lo,()) G (λ(b1 io:UT)(G:HY)=>qK B5 Bt (s,b.1.Hi,()) G (λ(b io:UT)(G:HY)=>Q () () G) X) X) X)))))
def Fu(s:Option Nat)(f:Int)(H:HY)(Q:UT->UU)(X:PX):=(Av f=0->Q () () H)/\(¬Av f=0->∃(b:Nat),s=some b/\∃(x:Ah),H b=some (Ob.st A8 x)/\(IK (Av f)->(IK (Av f)->(0:Int)<=Av f)/\∃(h:(Av f).toNat<x.counts.length),∃(h:(Av f).toNat<x.counts.length),IK x.counts[(Av f).toNat]->IK (x.counts[(Av f).toNat]-1)/\(IK (Av f)->(IK (Av f)->(0:Int)<=Av f)/\∃(h1:(Av f).toNat<x.counts.length),(Av f).toNat<x.counts.length/\(IK (Av f)->(IK (Av f)->(0:Int)<=Av f)/\∃(h2:(Av f).toNat<(x.counts.set (Av f).toNat (x.counts[(Av f).toNat]-1)).length),∃(h3:(Av f).toNat<(x.counts.set (Av f).toNat (x.counts[(Av f).toNat]-1)).length),((0:Int)<(x.counts.set (Av f).toNat (x.counts[(Av f).toNat]-1))[(Av f).toNat]->Q () () (Ab H b (Ob.st A8 {x with counts:=x.counts.set (Av f).toNat (x.counts[(Av f).toNat]-1)})))/\(¬(0:Int)<(x.counts.set (Av f).toNat (x.counts[(Av f).toNat]-1))[(Av f).toNat]->IK x.dead->IK (x.dead+1)/\qK AF AB (x.DZ,Av f,()) (Ab H b (Ob.st A8 {x with counts:=x.counts.set (Av f).toNat (x.counts[(Av f).toNat]-1),dead:=x.dead+1})) (λ(b:Au×Bool×UT)_ G=>qK B6 Bu (s,b.1.Lo,()) G (λ(b1 io:UT)(G:HY)=>qK B6 Bu (s,b.1.Hi,()) G (λ(b io:UT)(G:HY)=>Q () () G) X) X) X)))))
end
section
set_option maxRecDepth 100000
set_option maxHeartbeats 2000000
def TZ(p:Option Nat)(H:HY)(Q:Int×UT->UU)(_:PX):=(p=none->Q (0,()) () H)/\(¬p=none->∃(b:Nat),p=some b/\∃(x:A6),H b=some (Ob.st CL x)/\x=x/\Q (x.many,()) () H)
theorem TY p H Q X(h_:TZ p H Q X):qK Nv Km (p,()) H Q X:=wF Tryz.f255 {} h_
def SX(p:Option Nat)(H:HY)(Q:Int×UT->UU)(_:PX):=(p=none->Q (0,()) () H)/\(¬p=none->∃(b:Nat),p=some b/\∃(x:A6),H b=some (Ob.st CL x)/\x=x/\Q (x.room,()) () H)
theorem SU p H Q X(h_:SX p H Q X):qK Mv Jv (p,()) H Q X:=wF Tryz.f254 {} h_
def Om(l:Option Nat)(v:Int)(H:HY)(Q:Int×UT->UU)(_:PX):=(l=none->Q (-1,()) () H)/\(¬l=none->(v<0->Q (-1,()) () H)/\(¬v<0->∃(b:Nat),l=some b/\∃(x:AN),H b=some (Ob.st CG x)/\(x.level.length<=2^63-1->((↑x.level.length:Int)<=v->x=x/\Q (-1,()) () H)/\(¬(↑x.level.length:Int)<=v->IK v->(IK v->(0:Int)<=v)/\∃(h:v.toNat<x.level.length),∃(h:v.toNat<x.level.length),x=x/\Q (x.level[v.toNat],()) () H))))
theorem Ol l v H Q X(h_:Om l v H Q X):qK G2 Ez (l,v,()) H Q X:=wF Tryz.f186 {} h_
def QY(t:Option Nat)(lo hi:Int)(H:HY)(Q:Int×Bool×UT->UU)(_:PX):=(t=none->Q (0,false,()) () H)/\(¬t=none->∃(b:Nat),t=some b/\∃(x:Ay),H b=some (Ob.st BK x)/\{ids:=x.ids:Ay}=x/\Q ((Ad x.ids {a0:=lo,a1:=hi:Aj}).getD 0,decide ((Ad x.ids {a0:=lo,a1:=hi:Aj}).isSome=true),()) () H)
theorem QX t lo hi H Q X(h_:QY t lo hi H Q X):qK DA CS (t,lo,hi,()) H Q X:=wF Tryz.f232 {} h_
def SE(t:Option Nat)(lo hi id:Int)(H:HY)(Q:Int×UT->UU)(_:PX):=(t=none->Q (5,()) () H)/\(¬t=none->∃(b:Nat),t=some b/\∃(x:Ay),H b=some (Ob.st BK x)/\((Ad x.ids {a0:=lo,a1:=hi:Aj}).isSome->{ids:=x.ids:Ay}=x/\Q (6,()) () H)/\(¬(Ad x.ids {a0:=lo,a1:=hi:Aj}).isSome->Q (0,()) () (Ab H b (Ob.st BK {ids:=BR x.ids {a0:=lo,a1:=hi:Aj} id:Ay}))))
theorem SB t lo hi id H Q X(h_:SE t lo hi id H Q X):qK Dr CK (t,lo,hi,id,()) H Q X:=wF Tryz.f217 {} h_
def SG(t:Option Nat)(lo hi:Int)(H:HY)(Q:Int×UT->UU)(_:PX):=(t=none->Q (5,()) () H)/\(¬t=none->∃(b:Nat),t=some b/\∃(x:Ay),H b=some (Ob.st BK x)/\(¬(Ad x.ids {a0:=lo,a1:=hi:Aj}).isSome->{ids:=x.ids:Ay}=x/\Q (5,()) () H)/\(¬¬(Ad x.ids {a0:=lo,a1:=hi:Aj}).isSome->Q (0,()) () (Ab H b (Ob.st BK {ids:=Db x.ids {a0:=lo,a1:=hi:Aj}:Ay}))))
theorem SF t lo hi H Q X(h_:SG t lo hi H Q X):qK DS Dl (t,lo,hi,()) H Q X:=wF Tryz.f213 {} h_
end
section
theorem GO{α:Type}[DecidableEq α]:∀{l m:List α},l.Nodup->(∀k∈l,k∈m)->l.length<=m.length
 | [],_,_,_=>by simp
 |a::l,m,hn,h=>by obtain⟨h1,h2⟩:=ab.1 hn;have:=GO (m:=m.erase a) h2 λk hk=>(List.mem_erase_of_ne (λe=>h1 (by grind))).2 (h k (by grind));grind
def N8(x:A6)(i:Int):Bool:=decide (0<=i)&&(x.taken[i.toNat]?).getD false
def FY(x:A6)(i:Int):Option Au:=if N8 x i=true then x.at_[i.toNat]? else none
structure Fh(x:A6):Prop where
 ln:x.at_.length=x.taken.length
 pos:0<x.at_.length
 room:1<=x.room/\x.room<=1048576
 len:(x.at_.length:Int)<=x.room+1
 t0:x.taken[0]?=some false
 fr:∀i∈x.free,1<=i/\i<x.at_.length/\x.taken[i.toNat]?=some false
 nd:x.free.Nodup
 cnt:x.many+x.free.length+1=x.at_.length
 al:∀i:Nat,1<=i->x.taken[i]?=some false->(i:Int)∈x.free
 id:∀(i:Int)n,FY x i=some n->n.ID=i
variable {x:A6} {i:Int}
theorem Oh(h:N8 x i=true):0<=i/\i.toNat<x.taken.length/\x.taken[i.toNat]?=some true:=by grind[N8]
theorem Fh.tk(h:Fh x)(ht:N8 x i=true):0<i/\i<x.at_.length/\∃n,FY x i=some n/\x.at_[i.toNat]?=some n:=by
 obtain⟨h0,h1,h2⟩:=Oh ht;have hne:i≠0:=by intro e;subst e;have:=h.t0;grind
 have hl:i.toNat<x.at_.length:=by rw[h.ln];exact h1
 refine⟨by omega,by omega,x.at_[i.toNat],?_,ad hl⟩;grind[FY]
variable {b:Nat} {H:HY} {X:PX}
theorem Q3{Q:Bool×Unit->UU}(hx:H b=some (.st CL x))(hI:Fh x)(h:Q (N8 x i,()) () H):qK IQ Gk (some b,i,()) H Q X:=by
 refine wF Tryz.f226 {} (?_:(¬(some b)=none->((0:Int)<i->∃(a:Nat),(some b)=some a/\∃(x:A6),H a=some (Ob.st CL x)/\(x.at_.length<=2^63-1->(i<(↑x.at_.length:Int)->IK i->(IK i->(0:Int)<=i)/\∃(h:i.toNat<x.taken.length),∃(h:i.toNat<x.taken.length),x=x/\Q (x.taken[i.toNat],()) () H)/\(¬i<(↑x.at_.length:Int)->x=x/\Q (false,()) () H)))/\(¬(0:Int)<i->Q (false,()) () H))/\(¬¬(some b)=none->Q (false,()) () H));refine⟨λ_=>⟨λh0=>⟨b,rfl,x,hx,λ_=>⟨λhl _=>⟨λ_=>by omega,?_⟩,λhl=>⟨rfl,?_⟩⟩⟩,λh0=>?_⟩,λhn=>qG (by simp) hn⟩
 .have hl':i.toNat<x.taken.length:=by rw[<-hI.ln];omega
  refine⟨hl',hl',rfl,?_⟩;grind[N8,ad]
 .have:N8 x i=false:=by
   cases ht:N8 x i with
   |false=>rfl
   |true=>have:=(hI.tk ht).2.1;omega
  grind
 .have:N8 x i=false:=by
   cases ht:N8 x i with
   |false=>rfl
   |true=>have:=(hI.tk ht).1;omega
  grind
theorem Gy{Q:Au×Bool×Unit->UU}(hx:H b=some (.st CL x))(hI:Fh x)(h0:FY x i=none->Q (⟨0,0,0,0,0⟩,false,()) () H)(h1:∀n,FY x i=some n->Q (n,true,()) () H):qK AF AB (some b,i,()) H Q X:=by
 refine wF Tryz.f183 {} (?_:qK IQ Gk ((some b),i,()) H (λ(a:Bool×UT)_ G=>(¬a.1->Q ({ID:=0,Var:=0,Lo:=0,Hi:=0,Refs:=0:Au},false,()) () G)/\(¬¬a.1->∃(a:Nat),(some b)=some a/\∃(x:A6),G a=some (Ob.st CL x)/\(IK i->(IK i->(0:Int)<=i)/\∃(h:i.toNat<x.at_.length),∃(h:i.toNat<x.at_.length),Q ({ID:=x.at_[i.toNat].ID,Var:=x.at_[i.toNat].Var,Lo:=x.at_[i.toNat].Lo,Hi:=x.at_[i.toNat].Hi,Refs:=x.at_[i.toNat].Refs:Au},true,()) () (Ab G a (Ob.st CL x))))) X);refine Q3 hx hI ⟨λhf=>?_,λht=>⟨b,rfl,x,hx,λ_=>⟨λ_=>?_,?_⟩⟩⟩
 .simp_all[FY]
 .grind[N8,Oh]
 .have ht:N8 x i=true:=by grind
  obtain⟨_,_,n,hn,hg⟩:=hI.tk ht;grind[ah,KQ]
theorem Af3{c:Bool}(hi:0<=i)(hl:i.toNat<x.taken.length){a:List Au}{f:List Int}{m:Int}(j:Int):N8 {room:=x.room,at_:=a,taken:=x.taken.set i.toNat c,free:=f,many:=m} j=if j=i then c else N8 x j:=by grind[N8]
theorem Oe{n:Au}{Q:Int×Unit->UU}(hx:H b=some (.st CL x))(hI:Fh x)(h0:FY x n.ID=none->Q (5,()) () H)(h1:∀m x',FY x n.ID=some m->Fh x'->(∀j,FY x' j=if j=n.ID then some n else FY x j)->x'.many=x.many->x'.room=x.room->x'.at_.length=x.at_.length->Q (0,()) () (Ab H b (.st CL x'))):qK BZ BP (some b,n,()) H Q X:=by
 refine wF Tryz.f216 {im:=[3]} (?_:qK IQ Gk ((some b),n.ID,()) H (λ(a:Bool×UT)_ G=>(¬a.1->Q (5,()) () G)/\(¬¬a.1->∃(a:Nat),(some b)=some a/\∃(x:A6),G a=some (Ob.st CL x)/\(IK n.ID->(IK n.ID->(0:Int)<=n.ID)/\∃(h:n.ID.toNat<x.at_.length),n.ID.toNat<x.at_.length/\Q (0,()) () (Ab G a (Ob.st CL {x with at_:=x.at_.set n.ID.toNat n}))))) X);refine Q3 hx hI ⟨λhf=>?_,λht=>⟨b,rfl,x,hx,λ_=>⟨λ_=>?_,?_⟩⟩⟩
 .exact h0 (by unfold FY;rw[GT hf])
 .grind[N8,Oh]
 .have ht:N8 x n.ID=true:=by grind
  obtain⟨hp,hlt,m,hm,hg⟩:=hI.tk ht;obtain⟨hl,_⟩:=ah.1 hg;refine⟨hl,hl,h1 m _ hm ?_ ?_ rfl rfl (by simp)⟩;all_goals
   have hN:∀j,FY {room:=x.room,at_:=x.at_.set n.ID.toNat n,taken:=x.taken,free:=x.free,many:=x.many} j=if j=n.ID then some n else FY x j:=λj=>by have hT:N8 {room:=x.room,at_:=x.at_.set n.ID.toNat n,taken:=x.taken,free:=x.free,many:=x.many} j=N8 x j:=rfl;unfold FY;grind
  .refine⟨by simpa using hI.ln,by grind,hI.room,by simpa using hI.len,hI.t0,λi hi=>by simpa using hI.fr i hi,hI.nd,by simpa using hI.cnt,hI.al,λj k hk=>?_⟩;rw[hN]at hk;split at hk
   .grind
   .exact hI.id j k hk
  omega
theorem YR{m:Au}{Q:Int×Unit->UU}(hx:H b=some (.st CL x))(hI:Fh x)(hm:FY x i=some m)(h1:∀x',Fh x'->(∀j,FY x' j=if j=i then none else FY x j)->x'.many=x.many-1->x'.room=x.room->x'.at_.length=x.at_.length->Q (0,()) () (Ab H b (.st CL x'))):qK GS ER (some b,i,()) H Q X:=by
 have ht:N8 x i=true:=by
  unfold FY at hm;split at hm
  .assumption
  .cases hm
 obtain⟨hp,hlt,m',hm',hg⟩:=hI.tk ht;obtain⟨hl,_⟩:=ah.1 hg;have hl':i.toNat<x.taken.length:=by rw[<-hI.ln];exact hl
 have hni:i∉x.free:=λhf=>by have:=(hI.fr i hf).2.2;rw[(Oh ht).2.2]at this;simp at this
 have hnd:(x.free++[i]).Nodup:=by rw[bm];exact⟨hI.nd,by simp,λa ha c hc=>by simp at hc;subst hc;exact λe=>hni (e▸ha)⟩
 have hfl:x.free.length+1<=x.at_.length/\1<=x.many:=by
  have h1:((x.free++[i]).map aa).Nodup:=by
   rw[av,ag];refine hnd.imp_of_mem λ{a c}ha hc hne e=>hne ?_;have pa:∀a∈x.free++[i],1<=a:=λa ha=>by
    rcases ai.1 ha with h|h
    .exact(hI.fr a h).1
    .simp at h;omega
   have:=pa a ha;have:=pa c hc;omega
  have h2:∀k∈(x.free++[i]).map aa,k∈aw x.at_.length:=λk hk=>by
   obtain⟨a,ha,rfl⟩:=ak.1 hk;rw[ba];rcases ai.1 ha with h|h
   .have:=hI.fr a h;omega
   .simp at h;subst h;exact hl
  have h3:∀k∈(x.free++[i]).map aa,k≠0:=λk hk=>by
   obtain⟨a,ha,rfl⟩:=ak.1 hk;rcases ai.1 ha with h|h
   .have:=hI.fr a h;omega
   .simp at h;omega
  have h5:(0::(x.free++[i]).map aa).Nodup:=ab.2 ⟨λh=>h3 0 h rfl,h1⟩;have h4:=GO h5 (m:=aw x.at_.length) (λk hk=>by
   rcases bw.1 hk with rfl|hk
   .rw[ba];exact hI.pos
   .exact h2 k hk)
  simp at h4;have:=hI.cnt;omega
 have hrm:=hI.room;have hln:=hI.len;refine wF Tryz.f251 {} (?_:qK IQ Gk ((some b),i,()) H (λ(a:Bool×UT)_ G=>(¬a.1->Q (5,()) () G)/\(¬¬a.1->∃(a:Nat),(some b)=some a/\∃(x:A6),G a=some (Ob.st CL x)/\(IK i->(IK i->(0:Int)<=i)/\∃(h:i.toNat<x.at_.length),i.toNat<x.at_.length/\(IK i->(IK i->(0:Int)<=i)/\∃(h:i.toNat<x.taken.length),i.toNat<x.taken.length/\(x.free.length+[i].length)*8<=2^47/\(IK x.many->IK (x.many-1)/\Q (0,()) () (Ab G a (Ob.st CL {x with at_:=x.at_.set i.toNat {ID:=0,Var:=0,Lo:=0,Hi:=0,Refs:=0:Au},taken:=x.taken.set i.toNat false,free:=x.free++[i],many:=x.many-1}))))))) X);refine Q3 hx hI ⟨λhf=>qG ht hf,λ_=>⟨b,rfl,x,hx,λ_=>⟨λ_=>by omega,hl,hl,λ_=>⟨λ_=>by omega,hl',hl',by simp;omega,λhk=>⟨A7.2 (by have:=A7.1 hk;omega),h1 _ ?_ ?_ rfl rfl (by simp)⟩⟩⟩⟩⟩;all_goals
  have hT:=λj=>Af3 (x:=x) (c:=false) (by omega:0<=i) hl' (a:=x.at_.set i.toNat ⟨0,0,0,0,0⟩) (f:=x.free++[i]) (m:=x.many-1) j
  have hN:∀j,FY {room:=x.room,at_:=x.at_.set i.toNat ⟨0,0,0,0,0⟩,taken:=x.taken.set i.toNat false,free:=x.free++[i],many:=x.many-1} j=if j=i then none else FY x j:=λj=>by
   unfold FY;rw[hT];by_cases hj:j=i
   .rw[UV hj,UV hj];simp
   .rw[GT hj,GT hj];by_cases hjt:N8 x j=true
    .rw[UV hjt,UV hjt];have:=(Oh hjt).1;exact a7 (by omega)
    .rw[GT hjt,GT hjt]
 .refine⟨by simpa using hI.ln,by simpa using hI.pos,hI.room,by simpa using hI.len,?_,λk hk=>?_,hnd,by have:=hI.cnt;simp;omega,λk hk h=>?_,λj k hk=>?_⟩
  .show (x.taken.set i.toNat false)[0]?=some false;rw[a7 (by omega)];exact hI.t0
  .simp only[af];rcases ai.1 hk with h|h
   .have:=hI.fr k h;refine⟨this.1,this.2.1,?_⟩;rw[a7 (λe=>hni (by
     have:i=k:=by omega
     rw[this];exact h))]
    exact this.2.2
   .simp at h;subst h;exact⟨by omega,hlt,by simp [hl']⟩
  .by_cases e:k=i.toNat
   .refine List.mem_append_right _ ?_;simp;omega
   .have h:(x.taken.set i.toNat false)[k]?=some false:=h;rw[a7 (Ne.symm e)]at h;exact ao _ (hI.al k hk h)
  .rw[hN]at hk;split at hk
   .cases hk
   .exact hI.id j k hk
 .exact hN
structure Ape(x:A6)(n:Au)(i:Int)(x':A6):Prop where
 inv:Fh x'
 pos:0<i
 lt:i<x'.at_.length
 KK:FY x i=none
 nd:∀j,FY x' j=if j=i then some {ID:=i,Var:=n.Var,Lo:=n.Lo,Hi:=n.Hi,Refs:=n.Refs} else FY x j
 many:x'.many=x.many+1
 room:x'.room=x.room
 len:x.at_.length<=x'.at_.length
theorem YQ{n:Au}{Q:Int×Int×Unit->UU}(hx:H b=some (.st CL x))(hI:Fh x)(h0:x.many=x.room->Q (0,7,()) () H)(h1:∀i x',Ape x n i x'->x.many<x.room->Q (i,0,()) () (Ab H b (.st CL x'))):qK Mu Ju (some b,n,()) H Q X:=by
 have hrm:=hI.room;have hln:=hI.len;have hcn:=hI.cnt;have hll:=hI.ln;have hps:=hI.pos;have hmn:0<=x.many:=by
  have h1:(x.free.map aa).Nodup:=by rw[av,ag];exact hI.nd.imp_of_mem λ{a c}ha hc hne e=>hne (by have:=hI.fr a ha;have:=hI.fr c hc;omega)
  have h5:(0::x.free.map aa).Nodup:=ab.2 ⟨λh=>by obtain⟨a,ha,e⟩:=ak.1 h;have:=hI.fr a ha;omega,h1⟩
  have h4:=GO h5 (m:=aw x.at_.length) (λk hk=>by
   rw[ba];rcases bw.1 hk with rfl|hk
   .exact hI.pos
   .obtain⟨a,ha,rfl⟩:=ak.1 hk;have:=hI.fr a ha;omega)
  simp at h4;omega
 refine wF Tryz.f259 {} (?_:((some b)=none->Q (0,5,()) () H)/\(¬(some b)=none->∃(a:Nat),(some b)=some a/\∃(x:A6),H a=some (Ob.st CL x)/\(x.free.length<=2^63-1->(0<x.free.length->x.free.length<=2^63-1->IK ((↑x.free.length:Int)-1)/\(IK ((↑x.free.length:Int)-1)->(IK ((↑x.free.length:Int)-1)->(0:Int)<=(↑x.free.length:Int)-1)/\∃(h:((↑x.free.length:Int)-1).toNat<x.free.length),∃(h:((↑x.free.length:Int)-1).toNat<x.free.length),x.free.length<=2^63-1->IK ((↑x.free.length:Int)-1)/\(x.free.length<=2^63-1->IK ((↑x.free.length:Int)-1)/\(IK ((↑x.free.length:Int)-1)->(0:Int)<=(↑x.free.length:Int)-1/\(IK ((↑x.free.length:Int)-1)->(0:Int)<=(↑x.free.length:Int)-1/\((↑x.free.length:Int)-1).toNat<=((↑x.free.length:Int)-1).toNat/\((↑x.free.length:Int)-1).toNat<=x.free.length/\(IK x.free[((↑x.free.length:Int)-1).toNat]->(IK x.free[((↑x.free.length:Int)-1).toNat]->(0:Int)<=x.free[((↑x.free.length:Int)-1).toNat])/\∃(h1:x.free[((↑x.free.length:Int)-1).toNat].toNat<x.at_.length),x.free[((↑x.free.length:Int)-1).toNat].toNat<x.at_.length/\(IK x.free[((↑x.free.length:Int)-1).toNat]->(IK x.free[((↑x.free.length:Int)-1).toNat]->(0:Int)<=x.free[((↑x.free.length:Int)-1).toNat])/\∃(h2:x.free[((↑x.free.length:Int)-1).toNat].toNat<x.taken.length),x.free[((↑x.free.length:Int)-1).toNat].toNat<x.taken.length/\(IK x.many->IK (x.many+1)/\Q (x.free[((↑x.free.length:Int)-1).toNat],0,()) () (Ab H a (Ob.st CL {x with at_:=x.at_.set x.free[((↑x.free.length:Int)-1).toNat].toNat {n with ID:=x.free[((↑x.free.length:Int)-1).toNat]},taken:=x.taken.set x.free[((↑x.free.length:Int)-1).toNat].toNat true,free:=List.take ((↑x.free.length:Int)-1).toNat x.free,many:=x.many+1}))))))))))/\(¬0<x.free.length->x.at_.length<=2^63-1->(x.room<(↑x.at_.length:Int)->x=x/\Q (0,7,()) () H)/\(¬x.room<(↑x.at_.length:Int)->x.at_.length<=2^63-1->(x.at_.length+[{ID:=0,Var:=0,Lo:=0,Hi:=0,Refs:=0:Au}].length)*40<=2^47/\(x.taken.length+[false].length)*1<=2^47/\(x.at_.length<=2^63-1->∃(h:x.at_.length<(x.at_++[{ID:=0,Var:=0,Lo:=0,Hi:=0,Refs:=0:Au}]).length),x.at_.length<(x.at_++[{ID:=0,Var:=0,Lo:=0,Hi:=0,Refs:=0:Au}]).length/\(x.at_.length<=2^63-1->∃(h:x.at_.length<(x.taken++[false]).length),x.at_.length<(x.taken++[false]).length/\(IK x.many->IK (x.many+1)/\Q ((↑x.at_.length:Int),0,()) () (Ab H a (Ob.st CL {x with at_:=(x.at_++[{ID:=0,Var:=0,Lo:=0,Hi:=0,Refs:=0:Au}]).set x.at_.length {n with ID:=(↑x.at_.length:Int)},taken:=(x.taken++[false]).set x.at_.length true,many:=x.many+1}))))))))));refine⟨λh=>qG h (by simp),λ_=>⟨b,rfl,x,hx,λ_=>⟨λhpos=>?_,λhneg=>?_⟩⟩⟩
 .intro _;replace hpos:0<x.free.length:=hpos;have hk:((x.free.length:Int)-1).toNat<x.free.length:=by omega
  generalize hkk:((x.free.length:Int)-1).toNat=k at *;have hki:((x.free.length:Int)-1)=k:=by omega
  obtain⟨i,hii⟩:∃i,i=x.free[k]:=⟨_,rfl⟩
  have hi:=hI.fr i (by rw[hii];exact bo hk);have hl:i.toNat<x.at_.length:=by omega
  have hl':i.toNat<x.taken.length:=by omega
  refine⟨A7.2 (by omega),λ_=>⟨λ_=>by omega,hk,hk,λ_=>⟨A7.2 (by omega),λ_=>⟨A7.2 (by omega),λ_=>⟨by omega,λ_=>⟨by omega,Nat.le_refl _,by omega,λ_=>⟨λ_=>by rw[<-hii];omega,by rw[<-hii];exact hl,by rw[<-hii];exact hl,λ_=>⟨λ_=>by rw[<-hii];omega,by rw[<-hii];exact hl',by rw[<-hii];exact hl',λhm=>⟨A7.2 (by omega),?_⟩⟩⟩⟩⟩⟩⟩⟩⟩;have hnt:N8 x i=false:=by unfold N8;rw[hi.2.2];simp
  have hfree:x.free=x.free.take k++[i]:=by
   have:x.free.length=k+1:=by omega
   rw[hii,<-List.take_succ_eq_append_getElem hk,<-this,List.take_length]
  have hnd:=hI.nd;rw[hfree,bm]at hnd;have hnin:i∉x.free.take k:=λh=>hnd.2.2 i h i (by simp) rfl;have hT:=λj=>Af3 (x:=x) (c:=true) (by omega:0<=i) hl' (a:=x.at_.set i.toNat {ID:=i,Var:=n.Var,Lo:=n.Lo,Hi:=n.Hi,Refs:=n.Refs}) (f:=x.free.take k) (m:=x.many+1) j;have hN:∀j,FY {room:=x.room,at_:=x.at_.set i.toNat {ID:=i,Var:=n.Var,Lo:=n.Lo,Hi:=n.Hi,Refs:=n.Refs},taken:=x.taken.set i.toNat true,free:=x.free.take k,many:=x.many+1} j=if j=i then some {ID:=i,Var:=n.Var,Lo:=n.Lo,Hi:=n.Hi,Refs:=n.Refs} else FY x j:=λj=>by
   unfold FY;rw[hT];by_cases hj:j=i
   .rw[UV hj,UV hj,UV rfl,hj];simp [hl]
   .rw[GT hj,GT hj];by_cases hjt:N8 x j=true
    .rw[UV hjt,UV hjt];have:=(Oh hjt).1;exact a7 (by omega)
    .rw[GT hjt,GT hjt]
  rw[<-hii];refine h1 i _ ⟨?_,by omega,by simpa using hi.2.1,by unfold FY;rw[hnt];simp,hN,rfl,rfl,by simp⟩ (by omega);refine⟨by simpa using hI.ln,by simpa using hI.pos,hI.room,by simpa using hI.len,?_,λj hj=>?_,hnd.1,?_,λj hj h=>?_,λj m hj=>?_⟩
  .show (x.taken.set i.toNat true)[0]?=some false;rw[a7 (by omega)];exact hI.t0
  .have hj:j∈x.free.take k:=hj;have hf:=hI.fr j (List.mem_of_mem_take hj);simp only[af];refine⟨hf.1,hf.2.1,?_⟩;rw[a7 (λe=>hnin (by
    have:i=j:=by omega
    rw[this];exact hj))]
   exact hf.2.2
  .show x.many+1+((x.free.take k).length:Int)+1=((x.at_.set i.toNat _).length:Int);simp;omega
  .have h:(x.taken.set i.toNat true)[j]?=some false:=h;by_cases e:j=i.toNat
   .subst e;simp [hl']at h
   .rw[a7 (Ne.symm e)]at h;have:=hI.al j hj h;rw[hfree]at this;rcases ai.1 this with h2|h2
    .exact h2
    .simp at h2;omega
  .rw[hN]at hj;split at hj
   .cases hj;rename_i e;exact e.symm
   .exact hI.id j m hj
 .replace hneg:¬0<x.free.length:=hneg;have hf0:x.free=[]:=List.length_eq_zero_iff.1 (by omega);have hfl:x.free.length=0:=by omega
  refine λ_=>⟨λhfull=>⟨rfl,h0 (by omega)⟩,λhroom _=>⟨by simp;omega,by simp;omega,λ_=>⟨by simp,by simp,λ_=>⟨by simp;omega,by simp;omega,λhm=>⟨A7.2 (by omega),?_⟩⟩⟩⟩⟩
  let z:Au:={ID:=0,Var:=0,Lo:=0,Hi:=0,Refs:=0}
  let v:Au:={ID:=(x.at_.length:Int),Var:=n.Var,Lo:=n.Lo,Hi:=n.Hi,Refs:=n.Refs}
  have ea:(x.at_++[z]).set x.at_.length v=x.at_++[v]:=by simp
  have et:(x.taken++[false]).set x.at_.length true=x.taken++[true]:=by rw[hll];simp
  show Q ((x.at_.length:Int),0,()) () (Ab H b (Ob.st CL {room:=x.room,at_:=(x.at_++[z]).set x.at_.length v,taken:=(x.taken++[false]).set x.at_.length true,free:=x.free,many:=x.many+1}));rw[ea,et];have hT:∀j,N8 {room:=x.room,at_:=x.at_++[v],taken:=x.taken++[true],free:=x.free,many:=x.many+1} j=if j=x.at_.length then true else N8 x j:=λj=>by
   unfold N8;by_cases h0:0<=j
   .simp only[h0,decide_true,Bool.true_and];by_cases hj:j=x.at_.length
    .rw[UV hj];have:j.toNat=x.taken.length:=by omega
     rw[this];simp
    .rw[GT hj];by_cases hjl:j.toNat<x.taken.length
     .rw[ac hjl]
     .rw[ae (by simp;omega),ae (by omega)]
   .rw[GT (by omega)];simp [h0]
  have hN:∀j,FY {room:=x.room,at_:=x.at_++[v],taken:=x.taken++[true],free:=x.free,many:=x.many+1} j=if j=x.at_.length then some v else FY x j:=λj=>by
   unfold FY;rw[hT];by_cases hj:j=x.at_.length
   .rw[UV hj,UV hj,UV rfl,hj];simp
   .rw[GT hj,GT hj];by_cases hjt:N8 x j=true
    .rw[UV hjt,UV hjt];have:=Oh hjt;exact ac (by omega)
    .rw[GT hjt,GT hjt]
  have hold:FY x (x.at_.length:Int)=none:=by
   unfold FY;split
   .rename_i h;have:=(Oh h).2.1;omega
   .rfl
  refine h1 _ _ ⟨?_,by omega,by simp;omega,hold,hN,rfl,rfl,by simp⟩ (by omega);refine⟨by simp [hll],by simp,hI.room,by simp;omega,?_,λj hj=>?_,hI.nd,by simp;omega,λj hj h=>?_,λj m hj=>?_⟩
  .show (x.taken++[true])[0]?=some false;rw[ac (by omega)];exact hI.t0
  .rw[hf0]at hj;simp at hj
  .have h:(x.taken++[true])[j]?=some false:=h;by_cases hjl:j<x.taken.length
   .rw[ac hjl]at h;have:=hI.al j hj h;exact this
   .rw[au (by omega)]at h;by_cases e:j-x.taken.length=0
    .rw[e]at h;simp at h
    .rw[ae (by simp;omega)]at h;simp at h
  .rw[hN]at hj;split at hj
   .cases hj;rename_i e;exact e.symm
   .exact hI.id j m hj
end
section
section
variable {κ β:Type} [DecidableEq κ]
theorem Cw:∀(m:List (κ×β))(k:κ)(v:β)(j:κ),Ad (BR m k v) j=if j=k then some v else Ad m j
 | [],k,v,j=>by
  show (if k=j then some v else none)=_;by_cases h:j=k
  .rw[UV h.symm,UV h]
  .rw[GT (Ne.symm h),GT h];rfl
 |p::m,k,v,j=>by
  unfold BR;by_cases h:p.1=k
  .rw[UV h];grind[Ad]
  .rw[GT h];show (if p.1=j then some p.2 else Ad (BR m k v) j)=if j=k then some v else (if p.1=j then some p.2 else Ad m j)
   rw[Cw m k v j];grind
def N9(m:List (κ×β)):Prop:=(m.map (·.1)).Nodup
variable {m:List (κ×β)}
theorem Er{k:κ}:Ad m k=none↔k∉m.map (·.1):=by
 induction m with
 |nil=>simp [Ad]
 |cons p m ih=>
  grind[Ad]
theorem SZ(m:List (κ×β))(k:κ)(v:β):∀j,j∈(BR m k v).map (·.1)↔j∈m.map (·.1)∨j=k:=by
 induction m with
 |nil=>grind[BR]
 |cons p m ih=>
  grind[BR]
theorem JI(h:N9 m)(k:κ)(v:β):N9 (BR m k v):=by
 induction m with
 |nil=>simp [BR,N9]
 |cons p m ih=>
  obtain⟨h1,h2⟩:=ab.1 h;unfold BR;split
  .rename_i e;exact ab.2 ⟨h1,h2⟩
  .rename_i e;refine ab.2 ⟨λhm=>?_,ih h2⟩;grind[SZ]
theorem Ai7(k:κ):∀j,j∈(Db m k).map (·.1)->j∈m.map (·.1):=by
 induction m with
 |nil=>intro j h;exact h
 |cons p m ih=>
  grind[Db]
theorem RB(h:N9 m)(k:κ):N9 (Db m k):=by
 induction m with
 |nil=>exact h
 |cons p m ih=>
  obtain⟨h1,h2⟩:=ab.1 h;unfold Db;split
  .exact h2
  .exact ab.2 ⟨λhm=>h1 (Ai7 k _ hm),ih h2⟩
theorem It(h:N9 m)(k j:κ):Ad (Db m k) j=if j=k then none else Ad m j:=by
 induction m with
 |nil=>simp [Db,Ad]
 |cons p m ih=>
  obtain⟨h1,h2⟩:=ab.1 h;unfold Db;by_cases e:p.1=k
  .rw[UV e];show Ad m j=if j=k then none else (if p.1=j then some p.2 else Ad m j)
   by_cases ej:j=k
   .simp_all[Er]
   grind
  .rw[GT e];show (if p.1=j then some p.2 else Ad (Db m k) j)=if j=k then none else (if p.1=j then some p.2 else Ad m j)
   rw[ih h2];grind
end
abbrev K2:=Aj
variable {b:Nat} {x:Ay} {lo hi:Int} {H:HY} {X:PX}
theorem NO{Q:Int×Bool×Unit->UU}(hx:H b=some (.st BK x))(h0:Ad x.ids (⟨lo,hi⟩:K2)=none->Q (0,false,()) () H)(h1:∀i,Ad x.ids (⟨lo,hi⟩:K2)=some i->Q (i,true,()) () H):qK DA CS (some b,lo,hi,()) H Q X:=by
 refine QX _ _ _ _ _ _ ?_;refine⟨λh=>qG h (by simp),λ_=>⟨b,rfl,x,hx,rfl,?_⟩⟩;cases h:Ad x.ids (⟨lo,hi⟩:K2) with
 |none|some i=>grind
variable {Q:Int×Unit->UU}
theorem UE{i:Int}(hx:H b=some (.st BK x))(hn:Ad x.ids (⟨lo,hi⟩:K2)=none)(h:Q (0,()) () (Ab H b (.st BK ⟨BR x.ids (⟨lo,hi⟩:K2) i⟩))):qK Dr CK (some b,lo,hi,i,()) H Q X:=by refine SB _ _ _ _ _ _ _ ?_;refine⟨λh=>qG h (by simp),λ_=>⟨b,rfl,x,hx,λh'=>?_,λ_=>h⟩⟩;grind
theorem UF{i:Int}(hx:H b=some (.st BK x))(hn:Ad x.ids (⟨lo,hi⟩:K2)=some i)(h:Q (0,()) () (Ab H b (.st BK ⟨Db x.ids (⟨lo,hi⟩:K2)⟩))):qK DS Dl (some b,lo,hi,()) H Q X:=by refine SF _ _ _ _ _ _ ?_;refine⟨λh=>qG h (by simp),λ_=>⟨b,rfl,x,hx,λh'=>?_,λ_=>h⟩⟩;grind
def Df(x:AN)(v:Int):Int:=if 0<=v then (x.level[v.toNat]?).getD (-1) else -1
theorem Ua{x:AN}{v:Int}(hx:H b=some (.st CG x))(h:Q (Df x v,()) () H):qK G2 Ez (some b,v,()) H Q X:=by
 refine Ol _ _ _ _ _ ?_;have hv:Df x v=if 0<=v then (x.level[v.toNat]?).getD (-1) else -1:=rfl
 refine⟨λh=>qG h (by simp),λ_=>⟨λhn=>?_,λhn=>⟨b,rfl,x,hx,λ_=>⟨λhl=>⟨rfl,?_⟩,λhl _=>⟨λ_=>by omega,?_⟩⟩⟩⟩⟩;all_goals grind
end
section
structure B9 where
 bl:Nat
 bp:Nat
 tb:List Nat
 lv:AN
 po:A6
 ta:Nat->Ay
 cn:List Int
 dead:Int
def B9.ob(S:B9):Ah:={levels:=some S.bl,DZ:=some S.bp,tables:=S.tb.map some,counts:=S.cn,dead:=S.dead}
structure Ca(H:HY)(b:Nat)(S:B9):Prop where
 st:H b=some (.st A8 S.ob)
 lv:H S.bl=some (.st CG S.lv)
 po:H S.bp=some (.st CL S.po)
 nd:S.tb.Nodup
 ta:∀v(h:v<S.tb.length),H S.tb[v]=some (.st BK (S.ta v))
variable {H:HY} {b:Nat}
theorem Bg{c m n:Nat}{x:Y0.O m}{y:Y0.O n}(d:H b=some (.st m x))(a:H c=some (.st n y))(h:m≠n):b≠c:=by grind
def N0(b:Nat)(S:B9)(H H':HY):Prop:=∀c,c≠b->c≠S.bl->c≠S.bp->c∉S.tb->H' c=H c
variable {S:B9}
theorem N0.refl:N0 b S H H:=λ_ _ _ _ _=>rfl
theorem N0.trans{S':B9}{H' H'':HY}(h:N0 b S H H')(k:N0 b S' H' H'')(j:S'.bl=S.bl)(i:S'.bp=S.bp)(g:S'.tb=S.tb):N0 b S H H'':=λc f e a d=>by rw[k c f (by omega) (by omega) (by grind),h c f e a d]
theorem Ca.SO(h:Ca H b S)(cn:List Int)(dead:Int):Ca (Ab H b (.st A8 {S with cn:=cn,dead:=dead}.ob)) b {S with cn:=cn,dead:=dead}/\N0 b S H (Ab H b (.st A8 {S with cn:=cn,dead:=dead}.ob)):=by
 refine⟨⟨Ai _ _ _,?_,?_,h.nd,λv a=>?_⟩,λc d _ _ _=>Ag _ _ d⟩
 .rw[Ag _ _ (Bg h.lv h.st (by decide))];exact h.lv
 .rw[Ag _ _ (Bg h.po h.st (by decide))];exact h.po
 .rw[Ag _ _ (Bg (h.ta v a) h.st (by decide))];exact h.ta v a
theorem Ca.Alg(h:Ca H b S)(po:A6):Ca (Ab H S.bp (.st CL po)) b {S with po:=po}/\N0 b S H (Ab H S.bp (.st CL po)):=by
 refine⟨⟨?_,?_,Ai _ _ _,h.nd,λv a=>?_⟩,λc _ _ d _=>Ag _ _ d⟩
 .rw[Ag _ _ (Bg h.st h.po (by decide))];exact h.st
 .rw[Ag _ _ (Bg h.lv h.po (by decide))];exact h.lv
 .rw[Ag _ _ (Bg (h.ta v a) h.po (by decide))];exact h.ta v a
theorem Ca.A3d(h:Ca H b S)(lv:AN):Ca (Ab H S.bl (.st CG lv)) b {S with lv:=lv}/\N0 b S H (Ab H S.bl (.st CG lv)):=by
 refine⟨⟨?_,Ai _ _ _,?_,h.nd,λv a=>?_⟩,λc _ d _ _=>Ag _ _ d⟩
 .rw[Ag _ _ (Bg h.st h.lv (by decide))];exact h.st
 .rw[Ag _ _ (Bg h.po h.lv (by decide))];exact h.po
 .rw[Ag _ _ (Bg (h.ta v a) h.lv (by decide))];exact h.ta v a
theorem Ca.Alf(h:Ca H b S){v:Nat}(d:v<S.tb.length)(t:Ay):Ca (Ab H S.tb[v] (.st BK t)) b {S with ta:=λw=>if w=v then t else S.ta w}/\N0 b S H (Ab H S.tb[v] (.st BK t)):=by
 have a:=h.ta v d;refine⟨⟨?_,?_,?_,h.nd,λw g=>?_⟩,λc _ _ _ i=>Ag _ _ λe=>i (by grind)⟩
 .rw[Ag _ _ (Bg h.st a (by decide))];exact h.st
 .rw[Ag _ _ (Bg h.lv a (by decide))];exact h.lv
 .rw[Ag _ _ (Bg h.po a (by decide))];exact h.po
 .simp only;by_cases e:w=v
  .subst e;rw[Ai,UV rfl]
  .rw[GT e,Ag]
   .exact h.ta w g
   .exact λf=>e ((List.getElem_inj h.nd).1 f)
def Ax(p:A6):B.Tb:=λi=>(FY p i).map λn=>⟨n.Var,n.Lo,n.Hi⟩
def EU(p:A6)(i:Int):Int:=match FY p i with
 |some n=>n.Refs
 |none=>0
variable {p:A6} {i:Int}
theorem Gb{d:B.Nd}(h:Ax p i=some d):∃n,FY p i=some n/\n.Var=d.v/\n.Lo=d.lo/\n.Hi=d.hi:=by grind[Ax,FY]
theorem Hf{n:Au}(h:FY p i=some n):Ax p i=some ⟨n.Var,n.Lo,n.Hi⟩:=by grind[Ax]
theorem Ak5(h:Ax p i=none):FY p i=none:=by grind[Ax,FY]
def F1(l:List Int)(i:Int):Int:=if 0<=i then (l[i.toNat]?).getD 0 else 0
theorem Uw{l:List Int}(a:0<=i)(h:i.toNat<l.length):F1 l i=l[i.toNat]:=by grind[F1]
theorem Ahf{l:List Int}{i x:Int}(b:0<=i)(h:i.toNat<l.length):F1 (l.set i.toNat (l[i.toNat]+x))=B.bump (F1 l) i x:=by
 funext j;unfold B.bump;by_cases e:j=i
 .subst e;rw[UV rfl,Uw b h];grind[F1]
 .rw[GT e];grind[F1]
structure SC(S:B9)(r:Int->Int):Prop where
 po:Fh S.po
 cn:B.Cn (Ax S.po) S.po.at_.length (F1 S.cn) r
 ln:∀i d,Ax S.po i=some d->i.toNat<S.cn.length
 dead:S.dead=B.sm S.po.at_.length (B.zr (Ax S.po) (F1 S.cn))
theorem Akk{N:B.Tb}{c:Int->Int}{p:Int}:0<=B.zr N c p/\B.zr N c p<=1:=by grind[B.zr]
theorem SC.db{r:Int->Int}(h:SC S r):0<=S.dead/\S.dead<=1048577:=by rw[h.dead];have b:0<=B.sm S.po.at_.length (B.zr (Ax S.po) (F1 S.cn)):=B.SM λ_ _ _=>Akk.1;have a:B.sm S.po.at_.length (B.zr (Ax S.po) (F1 S.cn))<=B.sm S.po.at_.length (λ_=>1):=B.Afr λ_ _ _=>Akk.2;rw[B.Aaa]at a;have:=h.po.len;have:=h.po.room;omega
def B9.wc(S:B9)(cn:List Int)(dead:Int):B9:={S with cn:=cn,dead:=dead}
theorem LK{rk:Int->Int}{n:Int}{X:PX}:∀(k:Nat){S:B9}{r:Int->Int}{f:Int}{H:HY}{Q:Unit->UU},B.Dag (Ax S.po) rk n->(f/2≠0->n-rk (f/2)<k)->Ca H b S->SC S r->B.Ok (Ax S.po) f->(∀i d,Ax S.po i=some d->r i+B.dl f i<=1152921504606846976)->(∀cn dead H',Ca H' b (S.wc cn dead)->SC (S.wc cn dead) (λi=>r i+B.dl f i)->(∀i,F1 S.cn i<=F1 cn i)->N0 b S H H'->Q () () H')->qK B5 Bt (some b,f,()) H Q X:=by
 intro k;induction k with
 |zero=>
  intro S r f H Q u E w a y C h;refine wF Tryz.f215 {} (?_:Ft (some b) f H Q X);unfold Ft;rw[JG y.1];refine⟨λt=>?_,λt=>?_⟩
  .refine h S.cn S.dead H w ⟨a.po,a.cn.congr λi o=>?_,a.ln,a.dead⟩ (λ_=>aj _) N0.refl;rw[B.K9 (by omega)];omega
  .obtain⟨d,g⟩:=y.2.resolve_left t;have:=E t;have:=u.Mp g;omega
 |succ k Z=>
  intro S r f H Q u E w a y C h;refine wF Tryz.f215 {} (?_:Ft (some b) f H Q X);unfold Ft;rw[JG y.1];refine⟨λt=>?_,λt=>?_⟩
  .refine h S.cn S.dead H w ⟨a.po,a.cn.congr λi o=>?_,a.ln,a.dead⟩ (λ_=>aj _) N0.refl;rw[B.K9 (by omega)];omega
  obtain⟨d,g⟩:=y.2.resolve_left t;obtain⟨nd,z,hv,L,N⟩:=Gb g;have hrk:=u.Mp g;have hk':=E t;have hdm:=a.cn.Mg g;have e:=a.ln _ _ g;have l:0<=f/2:=by have:=y.1;omega
  have hcl:=a.cn.le g;have hcg:=a.cn.nn g;have hrb:=C _ _ g;have hpl:=a.po.len;have hpr:=a.po.room;have K:=@B.GW f;have hcn:=Uw l e;have c:=@Ahf S.cn (f/2) 1 l e;have j:∀i,F1 S.cn i<=F1 (S.cn.set (f/2).toNat (S.cn[(f/2).toNat]+1)) i:=λi=>by rw[c];unfold B.bump;split<;>omega
  refine⟨b,rfl,S.ob,w.st,λ_=>⟨λ_=>l,e,e,λ_=>⟨A7.2 (by show _<=S.cn[(f/2).toNat]+1/\S.cn[(f/2).toNat]+1<=_;omega),λ_=>⟨λ_=>l,e,e,λ_=>⟨λ_=>l,by simpa [B9.ob] using e,by simpa [B9.ob] using e,λF=>?_,λF T=>?_⟩⟩⟩⟩⟩
  .have R:1<S.cn[(f/2).toNat]+1:=by simpa [B9.ob] using F
   obtain⟨M,W⟩:=a.cn.A0n (f:=f) g (by omega);obtain⟨A,P⟩:=w.SO (S.cn.set (f/2).toNat (S.cn[(f/2).toNat]+1)) S.dead;refine h _ _ _ A ⟨a.po,?_,λi v o=>by show i.toNat<(S.cn.set _ _).length;rw[af];exact a.ln i v o,?_⟩ j P
   .show B.Cn (Ax S.po) S.po.at_.length (F1 (S.cn.set _ _)) _;rw[c];exact M
   .show S.dead=B.sm S.po.at_.length (B.zr (Ax S.po) (F1 (S.cn.set _ _)));rw[c,W];exact a.dead
  .have R:¬1<S.cn[(f/2).toNat]+1:=by simpa [B9.ob] using F
   obtain⟨M,W⟩:=a.cn.A0o (f:=f) g (by omega);have hdb:=a.db;obtain⟨A,P⟩:=w.SO (S.cn.set (f/2).toNat (S.cn[(f/2).toNat]+1)) (S.dead-1);refine⟨A7.2 (by show _<=S.dead-1/\S.dead-1<=_;omega),?_⟩;refine Gy (x:=S.po) A.po a.po (λY=>by rw[z]at Y;cases Y) λm hm=>?_;rw[z]at hm;obtain rfl:nd=m:=by injection hm
   obtain⟨ol,rl⟩:=u.lo g;obtain⟨oh,rh⟩:=u.hi g;have I:SC (S.wc (S.cn.set (f/2).toNat (S.cn[(f/2).toNat]+1)) (S.dead-1)) (λi=>r i+B.dl f i-B.mu d i):=by
    refine⟨a.po,?_,λi v o=>by show i.toNat<(S.cn.set _ _).length;rw[af];exact a.ln i v o,?_⟩
    .show B.Cn (Ax S.po) S.po.at_.length (F1 (S.cn.set _ _)) _;rw[c];exact M
    .show S.dead-1=B.sm S.po.at_.length (B.zr (Ax S.po) (F1 (S.cn.set _ _)));rw[c,W,<-a.dead]
   simp only[L,N];refine Z (S:=S.wc (S.cn.set (f/2).toNat (S.cn[(f/2).toNat]+1)) (S.dead-1)) u (λU=>by have:=rl U;omega) A I ol (λi v o=>?_) λJ s H2 s3 O m2 V=>?_
   .have:=C i v o;have:=@B.Hd d.hi i;simp only[B.mu];omega
   refine Z (S:=S.wc J s) u (λU=>by have:=rh U;omega) s3 O oh (λi v o=>?_) λG q H3 s4 p m3 D=>?_
   .have:=C i v o;have:=@B.Hd d.hi i;simp only[B.mu];omega
   refine h G q H3 s4 ⟨p.po,p.cn.congr λi _=>?_,p.ln,p.dead⟩ (λi=>c0 (j i) (c0 (m2 i) (m3 i))) ((P.trans V rfl rfl rfl).trans D rfl rfl rfl);simp only[B.mu];omega
end
section
theorem LM{b:Nat}{rk:Int->Int}{n:Int}{X:PX}:∀(k:Nat){S:B9}{r:Int->Int}{f:Int}{H:HY}{Q:Unit->UU},B.Dag (Ax S.po) rk n->(f/2≠0->n-rk (f/2)<k)->Ca H b S->SC S r->B.Ok (Ax S.po) f->(∀i d,Ax S.po i=some d->B.dl f i<=r i)->(∀cn dead H',Ca H' b (S.wc cn dead)->SC (S.wc cn dead) (λi=>r i-B.dl f i)->N0 b S H H'->Q () () H')->qK B6 Bu (some b,f,()) H Q X:=by
 intro k;induction k with
 |zero=>
  intro S r f H Q q N v a w A h;refine wF Tryz.f218 {} (?_:Fu (some b) f H Q X);unfold Fu;rw[JG w.1];refine⟨λp=>?_,λp=>?_⟩
  .refine h S.cn S.dead H v ⟨a.po,a.cn.congr λi o=>?_,a.ln,a.dead⟩ N0.refl;rw[B.K9 (by omega)];omega
  .obtain⟨d,g⟩:=w.2.resolve_left p;have:=N p;have:=q.Mp g;omega
 |succ k Y=>
  intro S r f H Q q N v a w A h;refine wF Tryz.f218 {} (?_:Fu (some b) f H Q X);unfold Fu;rw[JG w.1];refine⟨λp=>?_,λp=>?_⟩
  .refine h S.cn S.dead H v ⟨a.po,a.cn.congr λi o=>?_,a.ln,a.dead⟩ N0.refl;rw[B.K9 (by omega)];omega
  obtain⟨d,g⟩:=w.2.resolve_left p;obtain⟨nd,y,hv,L,K⟩:=Gb g;have hrk:=q.Mp g;have hk':=N p;have hdm:=a.cn.Mg g;have e:=a.ln _ _ g;have j:0<=f/2:=by have:=w.1;omega
  have hcl:=a.cn.le g;have hcg:=a.cn.ge g;have hrb:=A _ _ g;have hpl:=a.po.len;have hpr:=a.po.room;have G:=@B.GW f;have hcn:=Uw j e;have c:F1 (S.cn.set (f/2).toNat (S.cn[(f/2).toNat]-1))=B.bump (F1 S.cn) (f/2) (-1):=@Ahf S.cn (f/2) (-1) j e;refine⟨b,rfl,S.ob,v.st,λ_=>⟨λ_=>j,e,e,λI=>⟨A7.2 (by have hik':-9223372036854775808<=S.cn[(f/2).toNat]/\S.cn[(f/2).toNat]<=9223372036854775807:=A7.1 I;show _<=S.cn[(f/2).toNat]-1/\S.cn[(f/2).toNat]-1<=_;omega),λ_=>⟨λ_=>j,e,e,λ_=>⟨λ_=>j,by simpa [B9.ob] using e,by simpa [B9.ob] using e,λC=>?_,λC T=>?_⟩⟩⟩⟩⟩
  .have M:0<S.cn[(f/2).toNat]-1:=by simpa [B9.ob] using C
   obtain⟨R,W⟩:=a.cn.A0s (f:=f) g (by omega);obtain⟨z,P⟩:=v.SO (S.cn.set (f/2).toNat (S.cn[(f/2).toNat]-1)) S.dead;refine h _ _ _ z ⟨a.po,?_,λi u o=>by show i.toNat<(S.cn.set _ _).length;rw[af];exact a.ln i u o,?_⟩ P
   .show B.Cn (Ax S.po) S.po.at_.length (F1 (S.cn.set _ _)) _;rw[c];exact R
   .show S.dead=B.sm S.po.at_.length (B.zr (Ax S.po) (F1 (S.cn.set _ _)));rw[c,W];exact a.dead
  .have M:¬0<S.cn[(f/2).toNat]-1:=by simpa [B9.ob] using C
   obtain⟨R,W⟩:=a.cn.A0t (f:=f) g (by omega);have hdb:=a.db;obtain⟨z,P⟩:=v.SO (S.cn.set (f/2).toNat (S.cn[(f/2).toNat]-1)) (S.dead+1);refine⟨A7.2 (by show _<=S.dead+1/\S.dead+1<=_;omega),?_⟩;refine Gy (x:=S.po) z.po a.po (λhn=>by rw[y]at hn;cases hn) λm Z=>?_;rw[y]at Z;obtain rfl:nd=m:=by injection Z
   obtain⟨ol,rl⟩:=q.lo g;obtain⟨oh,rh⟩:=q.hi g;have E:SC (S.wc (S.cn.set (f/2).toNat (S.cn[(f/2).toNat]-1)) (S.dead+1)) (λi=>r i-B.dl f i+B.mu d i):=by
    refine⟨a.po,?_,λi u o=>by show i.toNat<(S.cn.set _ _).length;rw[af];exact a.ln i u o,?_⟩
    .show B.Cn (Ax S.po) S.po.at_.length (F1 (S.cn.set _ _)) _;rw[c];exact R
    .show S.dead+1=B.sm S.po.at_.length (B.zr (Ax S.po) (F1 (S.cn.set _ _)));rw[c,W,<-a.dead]
   simp only[L,K];refine Y (S:=S.wc (S.cn.set (f/2).toNat (S.cn[(f/2).toNat]-1)) (S.dead+1)) q (λU=>by have:=rl U;omega) z E ol (λi u o=>?_) λF t H2 s3 O V=>?_
   .have:=A i u o;have:=@B.Hd d.hi i;have:=@B.Hd d.lo i;have:=@B.Hd f i;simp only[B.mu];omega
   refine Y (S:=S.wc F t) q (λU=>by have:=rh U;omega) s3 O oh (λi u o=>?_) λD s H3 s4 l J=>?_
   .have:=A i u o;have:=@B.Hd d.hi i;have:=@B.Hd d.lo i;have:=@B.Hd f i;simp only[B.mu];omega
   refine h D s H3 s4 ⟨l.po,l.cn.congr λi _=>?_,l.ln,l.dead⟩ ((P.trans V rfl rfl rfl).trans J rfl rfl rfl);simp only[B.mu];omega
section
variable {b:Nat} {S:B9} {r:Int->Int} {f v:Int} {H:HY} {X:PX}
theorem Aaw{p:A6}(h:Fh p):FY p 0=none:=by
 unfold FY;split
 .rename_i a;have:=(h.tk a).1;omega
 .rfl
theorem Ath{p:A6}(h:Fh p):Ax p 0=none:=by unfold Ax;rw[Aaw h];rfl
theorem Gd{Q:Int×Unit->UU}(a:Ca H b S)(h:Q (Df S.lv v,()) () H):qK BB Bw (some b,v,()) H Q X:=by refine PC _ _ _ _ _ ?_;exact⟨λh=>qG h (by simp),λ_=>⟨b,rfl,S.ob,a.st,rfl,Ua a.lv h⟩⟩
theorem JT{Q:Bool×Unit->UU}(j:Ca H b S)(s:Fh S.po)(h:∀t:Bool,(t=true↔B.Ok (Ax S.po) f)->Q (t,()) () H):qK DT Dn (some b,f,()) H Q X:=by
 refine wF Tryz.f189 {} (?_:((some b)=none->Q (false,()) () H)/\(¬(some b)=none->(f<0->Q (false,()) () H)/\(¬f<0->∃(a:Nat),(some b)=some a/\(∃(x:Ah),H a=some (Ob.st A8 x)/\(x=x/\qK AF AB (x.DZ,Av f,()) H (λ(a:Au×Bool×UT)_ G=>(Av f=0->Q (true,()) () G)/\(¬Av f=0->Q (a.2.1,()) () G)) X)/\x=x/\qK AF AB (x.DZ,Av f,()) H (λ(a:Au×Bool×UT)_ G=>(Av f=0->Q (true,()) () G)/\(¬Av f=0->Q (a.2.1,()) () G)) X)/\∃(x:Ah),H a=some (Ob.st A8 x)/\x=x/\qK AF AB (x.DZ,Av f,()) H (λ(a:Au×Bool×UT)_ G=>(Av f=0->Q (true,()) () G)/\(¬Av f=0->Q (a.2.1,()) () G)) X)));refine⟨λh=>qG h (by simp),λ_=>⟨λr=>h false ⟨λh=>(by cases h),λh=>qG h.1 (by omega)⟩,λr=>?_⟩⟩;have a:0<=f:=by omega
 rw[JG a];have k:∀c:Au×Bool×Unit->UU,(∀n t,c (n,t,()) () H=((f/2=0->Q (true,()) () H)/\(¬f/2=0->Q (t,()) () H)))->qK AF AB (some S.bp,f/2,()) H c X:=λc o=>by
  refine Gy j.po s (λg=>?_) λn g=>?_
  .rw[o];exact⟨λe=>h true ⟨λ_=>⟨a,.inl e⟩,λ_=>rfl⟩,λe=>h false ⟨λh=>(by cases h),λh=>by obtain⟨d,q⟩:=h.2.resolve_left e;obtain⟨m,p,_⟩:=Gb q;rw[g]at p;cases p⟩⟩
  .rw[o];have:B.Ok (Ax S.po) f:=⟨a,.inr ⟨_,Hf g⟩⟩
   exact⟨λ_=>h true ⟨λ_=>this,λ_=>rfl⟩,λ_=>h true ⟨λ_=>this,λ_=>rfl⟩⟩
 have i:=k (λb u l=>(f/2=0->Q (true,()) () l)/\(¬f/2=0->Q (b.2.1,()) () l)) (λ_ _=>rfl);exact⟨b,rfl,⟨S.ob,j.st,⟨rfl,i⟩,rfl,i⟩,S.ob,j.st,rfl,i⟩
end
end
section
def B9.n(S:B9):Int:=S.tb.length
section
variable {b:Nat} {S:B9} {r:Int->Int} {f v:Int} {H:HY} {X:PX}
theorem L4{Q:Int×Int×Int×Bool×Unit->UU}(i:Ca H b S)(j:Fh S.po)(k:B.Ok (Ax S.po) f)(p:f/2=0->Q (-1,0,0,false,()) () H)(r:∀d,f/2≠0->Ax S.po (f/2)=some d->Q (d.v,B.fl d.lo f,B.fl d.hi f,true,()) () H):qK DU Dp (some b,f,()) H Q X:=by
 refine wF Tryz.f122 {} (?_:((some b)=none->Q (-1,0,0,false,()) () H)/\(¬(some b)=none->(f<0->Q (-1,0,0,false,()) () H)/\(¬f<0->∃(a:Nat),(some b)=some a/\(∃(x:Ah),H a=some (Ob.st A8 x)/\(x=x/\qK AF AB (x.DZ,Av f,()) H (λ(a:Au×Bool×UT)_ G=>(¬a.2.1->Q (-1,0,0,false,()) () G)/\(¬¬a.2.1->Q (a.1.Var,Az a.1.Lo (AW f),Az a.1.Hi (AW f),true,()) () G)) X)/\x=x/\qK AF AB (x.DZ,Av f,()) H (λ(a:Au×Bool×UT)_ G=>(¬a.2.1->Q (-1,0,0,false,()) () G)/\(¬¬a.2.1->Q (a.1.Var,Az a.1.Lo (AW f),Az a.1.Hi (AW f),true,()) () G)) X)/\∃(x:Ah),H a=some (Ob.st A8 x)/\x=x/\qK AF AB (x.DZ,Av f,()) H (λ(a:Au×Bool×UT)_ G=>(¬a.2.1->Q (-1,0,0,false,()) () G)/\(¬¬a.2.1->Q (a.1.Var,Az a.1.Lo (AW f),Az a.1.Hi (AW f),true,()) () G)) X)));have c:=k.1;refine⟨λh=>qG h (by simp),λ_=>⟨λh=>by omega,λ_=>?_⟩⟩;rw[JG c];simp only[JH c];have a:qK AF AB (some S.bp,f/2,()) H (λ(b:Au×Bool×Unit)(s:Unit)(o:HY)=>(¬b.2.1=true->Q (-1,0,0,false,()) () o)/\(¬¬b.2.1=true->Q (b.1.Var,B.fl b.1.Lo f,B.fl b.1.Hi f,true,()) () o)) X:=by
  refine Gy i.po j (λg=>⟨λ_=>?_,λh=>qG (by simp) h⟩) λn g=>⟨λh=>qG rfl h,λ_=>?_⟩
  .refine p ?_;rcases k.2 with h|⟨d,q⟩
   .exact h
   .obtain⟨m,l,_⟩:=Gb q;rw[g]at l;cases l
  .refine r ⟨n.Var,n.Lo,n.Hi⟩ (λe=>?_) (Hf g);rw[e,Aaw j]at g;cases g
 exact⟨b,rfl,⟨S.ob,i.st,⟨trivial,a⟩,trivial,a⟩,S.ob,i.st,trivial,a⟩
theorem NQ{l:Int}{Q:Bool×Unit->UU}(i:Ca H b S)(t:Fh S.po)(p:B.Ok (Ax S.po) f)(u:l<S.n)(h:Q (decide (l<B.el S.n (Df S.lv) (Ax S.po) f),()) () H):qK Hr EF (some b,f,l,()) H Q X:=by
 refine wF Tryz.f230 {} (?_:∃(a:Nat),(some b)=some a/\(∃(x:Ah),H a=some (Ob.st A8 x)/\(x=x/\qK AF AB (x.DZ,Av f,()) H (λ(a:Au×Bool×UT)_ G=>(Av f=0->Q (true,()) () G)/\(¬Av f=0->(a.2.1->qK BB Bw ((some b),a.1.Var,()) G (λ(a:Int×UT)_ G=>Q (decide (l<a.1),()) () G) X)/\(¬a.2.1->Q (false,()) () G))) X)/\x=x/\qK AF AB (x.DZ,Av f,()) H (λ(a:Au×Bool×UT)_ G=>(Av f=0->Q (true,()) () G)/\(¬Av f=0->(a.2.1->qK BB Bw ((some b),a.1.Var,()) G (λ(a:Int×UT)_ G=>Q (decide (l<a.1),()) () G) X)/\(¬a.2.1->Q (false,()) () G))) X)/\∃(x:Ah),H a=some (Ob.st A8 x)/\x=x/\qK AF AB (x.DZ,Av f,()) H (λ(a:Au×Bool×UT)_ G=>(Av f=0->Q (true,()) () G)/\(¬Av f=0->(a.2.1->qK BB Bw ((some b),a.1.Var,()) G (λ(a:Int×UT)_ G=>Q (decide (l<a.1),()) () G) X)/\(¬a.2.1->Q (false,()) () G))) X);rw[JG p.1];have a:qK AF AB (some S.bp,f/2,()) H (λ(c:Au×Bool×Unit)(s:Unit)(g:HY)=>(f/2=(0:Int)->Q (true,()) () g)/\(¬f/2=(0:Int)->(c.2.1=true->qK BB Bw (some b,c.1.Var,()) g (λ(b:Int×Unit)(s:Unit)(g:HY)=>Q (decide (l<b.1),()) () g) X)/\(¬c.2.1=true->Q (false,()) () g))) X:=by
  have o:f/2=0->Q (true,()) () H:=λe=>by rw[B.Cr e,decide_eq_true u]at h;exact h
  refine Gy i.po t (λj=>⟨o,λk=>?_⟩) λn j=>⟨o,λk=>⟨λ_=>?_,λh=>qG rfl h⟩⟩
  .obtain⟨d,r⟩:=p.2.resolve_left k;obtain⟨m,q,_⟩:=Gb r;rw[j]at q;cases q
  .refine Gd i ?_;rw[B.Bj k (Hf j)]at h;exact h
 exact⟨b,rfl,⟨S.ob,i.st,⟨rfl,a⟩,rfl,a⟩,S.ob,i.st,rfl,a⟩
theorem NR{y:Int}{Q:Int×Int×Unit->UU}(j:Ca H b S)(e:Fh S.po)(i:B.Ok (Ax S.po) f)(h:Q ((B.sp (Ax S.po) y f).1,(B.sp (Ax S.po) y f).2,()) () H):qK Ht EG (some b,f,y,()) H Q X:=by
 refine wF Tryz.f253 {} (?_:qK DU Dp ((some b),f,()) H (λ(a:Int×Int×Int×Bool×UT)_ G=>(¬a.2.2.2.1->Q (f,f,()) () G)/\(¬¬a.2.2.2.1->(¬a.1=y->Q (f,f,()) () G)/\(¬¬a.1=y->Q (a.2.1,a.2.2.1,()) () G))) X);refine L4 j e i (λg=>⟨λ_=>?_,λh=>qG (by simp) h⟩) λd g c=>⟨λh=>qG rfl h,λ_=>⟨λa=>?_,λa=>?_⟩⟩
 .have:B.sp (Ax S.po) y f=(f,f):=by unfold B.sp;rw[g,Ath e]
  rw[this]at h;exact h
 .have:B.sp (Ax S.po) y f=(f,f):=by unfold B.sp;rw[c];exact GT a
  rw[this]at h;exact h
 .have:B.sp (Ax S.po) y f=(B.fl d.lo f,B.fl d.hi f):=by unfold B.sp;rw[c];exact UV (by simpa using a)
  rw[this]at h;exact h
theorem W0{Q:Int×Unit->UU}(a:Ca H b S)(h:Q (S.lv.vars.length,()) () H):qK Ii Fl (some b,()) H Q X:=by refine Q7 _ _ _ _ ?_;exact⟨λh=>qG h (by simp),λ_=>⟨b,rfl,S.ob,a.st,S.bl,rfl,rfl,S.lv,a.lv,λ_=>⟨rfl,h⟩⟩⟩
end
theorem Ash{l:List Int}{k:Nat}:F1 (l++a2 k 0)=F1 l:=by
 funext i;unfold F1;by_cases a:0<=i
 .rw[UV a,UV a];by_cases h:i.toNat<l.length
  .rw[ac h]
  .rw[au (by omega),ae (by omega:l.length<=i.toNat)];by_cases b:i.toNat-l.length<k
   .rw[ad (by simpa using b)];simp
   .rw[ae (by simp;omega)]
 .rw[GT a,GT a]
theorem Asg{l:List Int}{i:Int}(b:0<=i)(h:i.toNat<l.length):F1 (l.set i.toNat 0)=λj=>if j=i then 0 else F1 l j:=by
 funext j;by_cases e:j=i
 .subst e;rw[UV rfl];unfold F1;rw[UV b];simp [h]
 .rw[GT e];unfold F1;by_cases a:0<=j
  .rw[UV a,UV a,a7 (by omega)]
  .rw[GT a,GT a]
theorem Ayw{N:B.Tb}{m m':Nat}{c r:Int->Int}(h:B.Cn N m c r)(H:∀p d,N p=some d->B.Ok N d.lo/\B.Ok N d.hi){i:Int}{d:B.Nd}(x:0<i)(q:i<m')(A:m<=m')(a:N i=none)(F:r i=0):B.Cn (B.Je N i d) m' (λj=>if j=i then 0 else c j) r/\B.sm m' (B.zr (B.Je N i d) (λj=>if j=i then 0 else c j))=B.sm m (B.zr N c)+1:=by
 have t:∀j,j≠i->B.Je N i d j=N j:=λj b=>GT b;have C:B.Je N i d i=some d:=UV rfl;have y:∀j p,B.pt (B.Je N i d) (λj=>if j=i then 0 else c j) j p=B.pt N c j p:=λj p=>by
  unfold B.pt;by_cases e:p=i
  .subst e;rw[C,a];simp
  .rw[t p e];simp only[GT e]
 have w:∀j(p:Int),(m:Int)<=p->B.pt N c j p=0:=λj p z=>by
  unfold B.pt;cases v:N p with
  |none=>rfl
  |some l=>have:=(h.Mg v).2;omega
 have n:∀j,B.sm m' (B.pt (B.Je N i d) (λj=>if j=i then 0 else c j) j)=B.sm m (B.pt N c j):=λj=>by rw[B.EN (g:=B.pt N c j) λp _ _=>y j p];exact B.Y9 A λk s _=>w j k s
 have f:B.sm m (B.pt N c i)=0:=by
  rw[B.EN (g:=λ_=>0) (λp _ _=>?_),B.Um];unfold B.pt;cases v:N p with
  |none=>rfl
  |some l=>
   have s:=H p l v;have u:∀e,B.Ok N e->B.dl e i=0:=λe I=>B.K9 λE=>by
    rcases I.2 with o|⟨J,o⟩
    .omega
    .rw[<-E,a]at o;cases o
   simp only[B.mu,u _ s.1,u _ s.2];simp
 refine⟨⟨λ{j l}b=>?_,λ{j l}b=>?_,λ{j l}b=>?_⟩,?_⟩
 .by_cases e:j=i
  .subst e;exact⟨x,q⟩
  .rw[t j e]at b;have:=h.Mg b;omega
 .by_cases e:j=i
  .rw[UV e];exact aj _
  .rw[GT e];rw[t j e]at b;exact h.nn b
 .rw[n];by_cases e:j=i
  .subst e;rw[UV rfl,f,F];rfl
  .rw[GT e];rw[t j e]at b;exact h.eq b
 .have G:∀p,p≠i->B.zr (B.Je N i d) (λj=>if j=i then 0 else c j) p=B.zr N c p:=λp z=>by unfold B.zr;rw[t p z];simp only[GT z]
  rw[B.SN (by omega) q G];have D:B.zr (B.Je N i d) (λj=>if j=i then 0 else c j) i=1:=by unfold B.zr;rw[C];simp
  have o:B.zr N c i=0:=by unfold B.zr;rw[a]
  rw[D,o,B.Y9 A λk s _=>?_];· omega
  unfold B.zr;cases v:N k with
  |none=>rfl
  |some l=>have:=(h.Mg v).2;omega
structure Aey(S:B9)(v lo hi i:Int)(S':B9):Prop where
 Ax:Ax S'.po=B.Je (Ax S.po) i ⟨v,lo,hi⟩
 KK:YtcbkbpjlbmalmaaGreatDoor.Ax S.po i=none
 pos:0<i
 lt:i<2000000
 rf:∀j,EU S'.po j=EU S.po j
 lv:S'.lv=S.lv
 tb:S'.tb=S.tb
 bl:S'.bl=S.bl
 bp:S'.bp=S.bp
 room:S'.po.room=S.po.room
 many:S'.po.many=S.po.many+1
 ta:∀w:Nat,S'.ta w=if w=v.toNat then ⟨BR (S.ta w).ids (⟨lo,hi⟩:K2) i⟩ else S.ta w
 cn:∀j,F1 S'.cn j=if j=i then 0 else F1 S.cn j
def B9.wa(S:B9)(po:A6)(cn:List Int)(dead:Int)(v:Nat)(t:Ay):B9:={S with po:=po,cn:=cn,dead:=dead,ta:=λw=>if w=v then t else S.ta w}
theorem Ri{b:Nat}{S:B9}{r:Int->Int}{v lo hi:Int}{H:HY}{X:PX}{Q:Int×Int×Unit->UU}(D:Ca H b S)(z:SC S r)(hK:∀p d,Ax S.po p=some d->B.Ok (Ax S.po) d.lo/\B.Ok (Ax S.po) d.hi)(R:∀i,Ax S.po i=none->r i=0)(K:0<=v/\v<S.n)(y:Ad (S.ta v.toNat).ids (⟨lo,hi⟩:K2)=none)(W:S.po.many=S.po.room->Q (0,7,()) () H)(V:∀i S' H',S.po.many<S.po.room->Aey S v lo hi i S'->Ca H' b S'->SC S' r->N0 b S H H'->Q (i,0,()) () H'):qK IT FR (some b,v,lo,hi,()) H Q X:=by
 refine wF Tryz.f233 {lp:=[(4,⟨[],[0,1,2,3,10],true⟩)]} (?_:∃(a:Nat),(some b)=some a/\∃(x:Ah),H a=some (Ob.st A8 x)/\x=x/\qK Mu Ju (x.DZ,{ID:=0,Var:=v,Lo:=lo,Hi:=hi,Refs:=0:Au},()) H (λ(b1:Int×Int×UT)_ G=>(¬b1.2.1=0->Q (0,b1.2.1,()) () G)/\(¬¬b1.2.1=0->∃(V:Nat->UU),(∃(n:Nat),V n () G)/\∀n x H,V n x H->∃(x:Ah),H a=some (Ob.st A8 x)/\(x.counts.length<=2^63-1->((↑x.counts.length:Int)<=b1.1->(x.counts.length+[(0:Int)].length)*8<=2^47/\∃m,m<n/\V m () (Ab H a (Ob.st A8 {x with counts:=x.counts++[(0:Int)]})))/\(¬(↑x.counts.length:Int)<=b1.1->IK b1.1->(IK b1.1->(0:Int)<=b1.1)/\∃(h:b1.1.toNat<x.counts.length),b1.1.toNat<x.counts.length/\(IK x.dead->IK (x.dead+1)/\(IK v->(IK v->(0:Int)<=v)/\∃(h:v.toNat<x.tables.length),∃(h:v.toNat<x.tables.length),qK Dr CK (x.tables[v.toNat],lo,hi,b1.1,()) (Ab H a (Ob.st A8 {x with counts:=x.counts.set b1.1.toNat (0:Int),dead:=x.dead+1})) (λ(a:Int×UT)_ G=>Q (b1.1,0,()) () G) X)))))) X);refine⟨b,rfl,S.ob,D.st,rfl,YQ D.po z.po (λhm=>⟨λ_=>W hm,λh=>qG (by simp) h⟩) λi a c t=>⟨λh=>qG rfl h,λ_=>?_⟩⟩;have g:v.toNat<S.tb.length:=by have:=K.2;unfold B9.n at this;omega
 have o:=c.pos;have E:=c.lt;have N:=c.inv.len;have T:=c.inv.room;obtain⟨L,f1⟩:=D.Alg a;have f:Ax S.po i=none:=by unfold Ax;rw[c.KK];rfl
 have l:Ax a=B.Je (Ax S.po) i ⟨v,lo,hi⟩:=by funext j;unfold Ax B.Je;rw[c.nd];split<;>rfl
 have G:∀j,EU a j=EU S.po j:=λj=>by
  unfold EU;rw[c.nd];by_cases e:j=i
  .rw[UV e,e,c.KK]
  .rw[GT e]
 refine⟨λn _ H'=>∃k,n=i.toNat+1-(S.cn.length+k)/\Ca H' b {S with po:=a,cn:=S.cn++a2 k 0}/\N0 b S H H',⟨_,0,rfl,by simpa using L,f1⟩,λn _ H'⟨k,hn,C,J⟩=>⟨_,C.st,λ_=>⟨λx=>?_,λx _=>⟨λ_=>by omega,?_⟩⟩⟩⟩
 .have q:((S.cn++a2 k 0).length:Int)<=i:=x;simp only[bh,az]at q;refine⟨?_,i.toNat+1-(S.cn.length+(k+1)),by omega,k+1,rfl,?_,?_⟩
  .show ((S.cn++a2 k 0).length+1)*8<=_;simp only[bh,az];omega
  .have:=(C.SO (S.cn++a2 (k+1) 0) S.dead).1;rw[bb,<-bn]at this;rw[bb,<-bn];exact this
  .have:=(C.SO (S.cn++a2 k 0++[0]) S.dead).2;exact J.trans this rfl rfl rfl
 .have q:¬((S.cn++a2 k 0).length:Int)<=i:=x;have m:i.toNat<(S.cn++a2 k 0).length:=by omega
  have hdb:=z.db;refine⟨m,m,λ_=>⟨A7.2 (by show _<=S.dead+1/\S.dead+1<=_;omega),λ_=>⟨λ_=>K.1,by simpa [B9.ob] using g,by simpa [B9.ob] using g,?_⟩⟩⟩;obtain⟨I,U⟩:=C.SO ((S.cn++a2 k 0).set i.toNat 0) (S.dead+1);have F:=I.ta v.toNat g;obtain⟨Z,f4⟩:=I.Alf g ⟨BR (S.ta v.toNat).ids (⟨lo,hi⟩:K2) i⟩;have s5:Ca (Ab (Ab H' b (.st A8 (B9.ob {S with po:=a,cn:=(S.cn++a2 k 0).set i.toNat 0,dead:=S.dead+1}))) S.tb[v.toNat] (.st BK ⟨BR (S.ta v.toNat).ids (⟨lo,hi⟩:K2) i⟩)) b (S.wa a ((S.cn++a2 k 0).set i.toNat 0) (S.dead+1) v.toNat ⟨BR (S.ta v.toNat).ids (⟨lo,hi⟩:K2) i⟩):=Z;have P:({S with po:=a,cn:=S.cn++a2 k 0}:B9).ob.tables[v.toNat]'(by simpa [B9.ob] using g)=some S.tb[v.toNat]:=by simp [B9.ob]
  rw[P];refine UE F y ?_;have s:F1 ((S.cn++a2 k 0).set i.toNat 0)=λj=>if j=i then 0 else F1 S.cn j:=by rw[Asg (by omega) m,Ash]
  obtain⟨Y,c2⟩:=Ayw (d:=⟨v,lo,hi⟩) z.cn hK o E c.len f (R i f);have M:∀(A B:HY),A=B->Ca B b (S.wa a ((S.cn++a2 k 0).set i.toNat 0) (S.dead+1) v.toNat ⟨BR (S.ta v.toNat).ids (⟨lo,hi⟩:K2) i⟩)->Ca A b (S.wa a ((S.cn++a2 k 0).set i.toNat 0) (S.dead+1) v.toNat ⟨BR (S.ta v.toNat).ids (⟨lo,hi⟩:K2) i⟩):=λA B e h=>by rw[e];exact h
  refine V i (S.wa a ((S.cn++a2 k 0).set i.toNat 0) (S.dead+1) v.toNat ⟨BR (S.ta v.toNat).ids (⟨lo,hi⟩:K2) i⟩) _ t ⟨l,f,o,by omega,G,rfl,rfl,rfl,rfl,c.room,c.many,λw=>?_,λj=>by exact congrFun s j⟩ (M _ _ (by rfl) s5) ⟨c.inv,?_,λj d O=>?_,?_⟩ ((J.trans U rfl rfl rfl).trans f4 rfl rfl rfl)
  .show (if w=v.toNat then _ else S.ta w)=_;by_cases e:w=v.toNat
   .rw[UV e,UV e,e]
   .rw[GT e,GT e]
  .show B.Cn (Ax a) a.at_.length (F1 ((S.cn++a2 k 0).set i.toNat 0)) r;rw[l,s];exact Y
  .show j.toNat<((S.cn++a2 k 0).set i.toNat 0).length;rw[af];have u:Ax a j=some d:=O;rw[l]at u;by_cases e:j=i
   .rw[e];exact m
   .rw[B.Je,GT e]at u;have:=z.ln j d u;simp;omega
  .show S.dead+1=B.sm a.at_.length (B.zr (Ax a) (F1 ((S.cn++a2 k 0).set i.toNat 0)));rw[l,s,c2,z.dead]
end
section
structure SI(S:B9):Prop where
 sc:SC S (EU S.po)
 BS:B.Good S.n (Df S.lv) (Ax S.po)
 vl:S.lv.vars.length=S.tb.length
 ll:S.lv.level.length=S.tb.length
 inv:∀(l:Nat)(v:Int),S.lv.vars[l]?=some v->0<=v/\v<S.n/\Df S.lv v=(l:Int)
 tn:∀v:Nat,v<S.tb.length->N9 (S.ta v).ids
 tg:∀v:Nat,v<S.tb.length->∀lo hi i,Ad (S.ta v).ids (⟨lo,hi⟩:K2)=some i↔Ax S.po i=some ⟨(v:Int),lo,hi⟩
 rf:∀i,0<=EU S.po i
theorem B9.Ko{S:B9}:0<=S.n:=by grind[B9.n]
variable {i:Int}
theorem UL{p:A6}(h:Ax p i=none):EU p i=0:=by unfold EU;rw[Ak5 h]
variable {S:B9}
theorem SI.kids(h:SI S):∀p d,Ax S.po p=some d->B.Ok (Ax S.po) d.lo/\B.Ok (Ax S.po) d.hi:=λ_ _ a=>⟨(h.BS.lo a).1,(h.BS.hi a).1⟩
variable {v:Int}
theorem SI.lvl(h:SI S):0<=Df S.lv v↔0<=v/\v<S.n:=by
 constructor
 .intro b;unfold Df at b;by_cases a:0<=v
  .rw[UV a]at b;refine⟨a,?_⟩;by_cases c:v.toNat<S.lv.level.length
   .rw[h.ll]at c;grind[B9.n]
   grind
  omega
 .intro a;exact(h.BS.od.Mp v a.1 a.2).1
theorem SI.ib(h:SI S){d:B.Nd}(a:Ax S.po i=some d):0<i/\i<2000000:=by have:=h.sc.cn.Mg a;have:=h.sc.po.len;have:=h.sc.po.room;omega
structure I4(S S':B9):Prop where
 Ax:∀i d,Ax S.po i=some d->Ax S'.po i=some d
 rf:∀j,EU S'.po j=EU S.po j
 lv:S'.lv=S.lv
 tb:S'.tb=S.tb
 bl:S'.bl=S.bl
 bp:S'.bp=S.bp
 room:S'.po.room=S.po.room
 cn:∀i d,YtcbkbpjlbmalmaaGreatDoor.Ax S.po i=some d->F1 S'.cn i=F1 S.cn i
theorem I4.refl:I4 S S:=⟨λ_ _ h=>h,λ_=>rfl,rfl,rfl,rfl,rfl,rfl,λ_ _ _=>rfl⟩
variable {S':B9}
theorem I4.trans{S'':B9}(h:I4 S S')(k:I4 S' S''):I4 S S'':=⟨λi d a=>k.Ax i d (h.Ax i d a),λj=>(k.rf j).trans (h.rf j),k.lv.trans h.lv,k.tb.trans h.tb,k.bl.trans h.bl,k.bp.trans h.bp,k.room.trans h.room,λi d a=>(k.cn i d (h.Ax i d a)).trans (h.cn i d a)⟩
theorem I4.n(h:I4 S S'):S'.n=S.n:=by unfold B9.n;rw[h.tb]
theorem I4.den(h:I4 S S')(a:SI S){e:Int}(b:B.Ok (YtcbkbpjlbmalmaaGreatDoor.Ax S.po) e):B.den (YtcbkbpjlbmalmaaGreatDoor.Ax S'.po) e=B.den (YtcbkbpjlbmalmaaGreatDoor.Ax S.po) e:=a.BS.Ag9 B9.Ko h.Ax b
variable {lo hi:Int}
theorem Am1{n:Int}{lv:Int->Int}{N:B.Tb}(g:B.Good n lv N)(l:0<=n)(k:0<i)(d:N i=some ⟨v,B.fl lo hi,B.fl hi hi⟩)(c:B.Ok N lo)(h:B.Ok N hi):B.Ok N (B.fl (2*i) hi)/\B.den N (B.fl (2*i) hi)=(λa=>if a v=true then B.den N hi a else B.den N lo a)/\B.el n lv N (B.fl (2*i) hi)=lv v:=by
 have f:2*i/2=i:=by omega
 have b:B.Ok N (2*i):=⟨by omega,.inr (by grind)⟩
 refine⟨b.fl,?_,?_⟩
 .funext a;rw[B.J4 b,g.IZ l (e:=2*i) (by omega) (by rw[f];exact d)];have:¬(2*i%2=1):=by omega
  simp only[this,decide_false,ap];by_cases j:a v=true;all_goals simp_all[B.J4]
 .rw[B.K8,B.Bj (by omega) (by rw[f];exact d)]
theorem SI.add(h:SI S)(c:Aey S v lo hi i S')(C:SC S' (EU S.po))(s:0<=v/\v<S.n)(t:B.Ok (Ax S.po) lo)(x:B.Ok (Ax S.po) hi)(z:Df S.lv v<B.el S.n (Df S.lv) (Ax S.po) lo)(A:Df S.lv v<B.el S.n (Df S.lv) (Ax S.po) hi)(u:lo≠hi)(o:hi%2=0)(g:Ad (S.ta v.toNat).ids (⟨lo,hi⟩:K2)=none):SI S'/\I4 S S':=by
 have k:v.toNat<S.tb.length:=by grind[B9.n]
 have q:((v.toNat:Nat):Int)=v:=by omega
 have y:S'.n=S.n:=by unfold B9.n;rw[c.tb]
 have p:EU S'.po=EU S.po:=funext c.rf;refine⟨⟨by grind,?_,?_,?_,?_,?_,?_,?_⟩,⟨λj d f=>?_,c.rf,c.lv,c.tb,c.bl,c.bp,c.room,λj d f=>?_⟩⟩
 .rw[y,c.lv,c.Ax];refine h.BS.add c.pos c.KK s.1 s.2 t x z A u o λj f=>?_;have:=(h.tg v.toNat k lo hi j).2 (by grind);grind
 .rw[c.lv,c.tb];exact h.vl
 .rw[c.lv,c.tb];exact h.ll
 .rw[c.lv,y];exact h.inv
 .intro w l;rw[c.tb]at l;rw[c.ta];split
  .exact JI (h.tn w l) _ _
  .exact h.tn w l
 .intro w l m n j;rw[c.tb]at l;rw[c.ta,c.Ax];by_cases e:w=v.toNat
  .subst e;rw[UV rfl];simp only;rw[Cw];by_cases r:(⟨m,n⟩:K2)=⟨lo,hi⟩
   .rw[UV r];obtain⟨rfl,rfl⟩:m=lo/\n=hi:=by grind
    constructor
    .intro f;obtain rfl:i=j:=by grind
     rw[q];exact UV rfl
    .intro f;unfold B.Je at f;split at f
     .rename_i e;rw[e]
     .rw[<-h.tg v.toNat k,g]at f;cases f
   .rw[GT r,h.tg v.toNat k];unfold B.Je;split
    .rename_i e;subst e;rw[c.KK];grind
    .rfl
  .rw[GT e,h.tg w l];unfold B.Je;split
   .rename_i D;subst D;rw[c.KK];grind
   .rfl
 .rw[p];exact h.rf
 .rw[c.Ax];exact B.Sp c.KK j d f
 .rw[c.cn,GT];intro e;rw[e,c.KK]at f;cases f
theorem ZV{b:Nat}{H:HY}{X:PX}{Q:Int×Int×Unit->UU}(m:Ca H b S)(l:SI S)(h9:¬(0<=v/\v<S.n)->Q (0,9,()) () H)(T:¬(B.Ok (Ax S.po) lo/\B.Ok (Ax S.po) hi)->Q (0,8,()) () H)(U:0<=v->v<S.n->B.Ok (Ax S.po) lo->B.Ok (Ax S.po) hi->¬(Df S.lv v<B.el S.n (Df S.lv) (Ax S.po) lo/\Df S.lv v<B.el S.n (Df S.lv) (Ax S.po) hi)->Q (0,10,()) () H)(W:S.po.many=S.po.room->Q (0,7,()) () H)(h:∀e S' H',0<=v->v<S.n->B.Ok (Ax S.po) lo->B.Ok (Ax S.po) hi->Df S.lv v<B.el S.n (Df S.lv) (Ax S.po) lo->Df S.lv v<B.el S.n (Df S.lv) (Ax S.po) hi->Ca H' b S'->SI S'->I4 S S'->N0 b S H H'->B.Ok (Ax S'.po) e->B.den (Ax S'.po) e=(λa=>if a v=true then B.den (Ax S.po) hi a else B.den (Ax S.po) lo a)->Df S.lv v<=B.el S.n (Df S.lv) (Ax S'.po) e->(∀i d,Ax S'.po i=some d->Ax S.po i=some d∨(i=e/2/\d.v=v))->Q (e,0,()) () H'):qK GU ES (some b,v,lo,hi,()) H Q X:=by
 refine wF Tryz.f190 {} (?_:((some b)=none->Q (0,5,()) () H)/\(¬(some b)=none->qK BB Bw ((some b),v,()) H (λ(a:Int×UT)_ G=>(a.1<0->Q (0,9,()) () G)/\(¬a.1<0->qK DT Dn ((some b),lo,()) G (λ(a:Bool×UT)_ G=>(¬a.1->Q (0,8,()) () G)/\(¬¬a.1->qK DT Dn ((some b),hi,()) G (λ(a:Bool×UT)_ G=>(¬a.1->Q (0,8,()) () G)/\(¬¬a.1->qK BB Bw ((some b),v,()) G (λ(a:Int×UT)_ G=>qK Hr EF ((some b),lo,a.1,()) G (λ(a:Bool×UT)_ G=>(¬a.1->Q (0,10,()) () G)/\(¬¬a.1->qK BB Bw ((some b),v,()) G (λ(a:Int×UT)_ G=>qK Hr EF ((some b),hi,a.1,()) G (λ(a:Bool×UT)_ G=>(¬a.1->Q (0,10,()) () G)/\(¬¬a.1->(lo=hi->Q (lo,0,()) () G)/\(¬lo=hi->∃(a:Nat),(some b)=some a/\∃(x:Ah),G a=some (Ob.st A8 x)/\(IK v->(IK v->(0:Int)<=v)/\∃(h:v.toNat<x.tables.length),∃(h:v.toNat<x.tables.length),x=x/\qK DA CS (x.tables[v.toNat],Az lo (AW hi),Az hi (AW hi),()) G (λ(a:Int×Bool×UT)_ G=>(¬a.2.1->qK IT FR ((some b),v,Az lo (AW hi),Az hi (AW hi),()) G (λ(a:Int×Int×UT)_ G=>(¬a.2.1=0->Q (0,a.2.1,()) () G)/\(¬¬a.2.1=0->(IK a.1/\True/\True->a.1<=(4611686018427387903:den Y0.D FQ))/\Q (Az (2*max a.1 (0:den Y0.D FQ)) (AW hi),0,()) () G)) X)/\(¬¬a.2.1->(¬(0:Int)=0->Q (0,0,()) () G)/\(¬¬(0:Int)=0->(IK a.1/\True/\True->a.1<=(4611686018427387903:den Y0.D FQ))/\Q (Az (2*max a.1 (0:den Y0.D FQ)) (AW hi),0,()) () G))) X)))) X) X)) X) X)) X)) X)) X));have F:=l.sc.po;refine⟨λh=>qG h (by simp),λ_=>Gd m ⟨λK=>h9 λg=>?_,λK=>?_⟩⟩
 .have:=l.lvl.2 g;have N:Df S.lv v<0:=K;omega
 have N:¬Df S.lv v<0:=K;have g:=(l.lvl (v:=v)).1 (by omega);have A:=(l.BS.od.Mp v g.1 g.2).2;refine JT m F λt z=>⟨λk=>T λr=>k (z.2 r.1),λk=>?_⟩
 have f:=z.1 (a6.1 k);refine JT m F λt z=>⟨λk=>T λr=>k (z.2 r.2),λk=>?_⟩
 have c:=z.1 (a6.1 k);refine Gd m (NQ m F f A ⟨λk=>U g.1 g.2 f c λr=>k (decide_eq_true r.1),λk=>?_⟩);have D:Df S.lv v<B.el S.n (Df S.lv) (Ax S.po) lo:=of_decide_eq_true (a6.1 k);refine Gd m (NQ m F c A ⟨λk=>U g.1 g.2 f c λr=>k (decide_eq_true r.2),λk=>?_⟩);have G:Df S.lv v<B.el S.n (Df S.lv) (Ax S.po) hi:=of_decide_eq_true (a6.1 k);refine⟨λe=>?_,λJ=>⟨b,rfl,S.ob,m.st,λ_=>⟨λ_=>g.1,?_⟩⟩⟩
 .subst e;refine h lo S H g.1 g.2 f c D G m l I4.refl N0.refl f (by funext a;simp) (by omega) (λi d n=>.inl n)
 have q:v.toNat<S.tb.length:=by have:=g.2;unfold B9.n at this;omega
 have R:((v.toNat:Nat):Int)=v:=by omega
 have u:v.toNat<S.ob.tables.length:=by simpa [B9.ob] using q
 have O:S.ob.tables[v.toNat]'u=some S.tb[v.toNat]:=by simp [B9.ob]
 refine⟨u,u,rfl,?_⟩;rw[O];have C:∀e:Int,Az e (AW hi)=B.fl e hi:=λe=>JH c.1;rw[C lo,C hi];refine NO (m.ta v.toNat q) (λp=>⟨λ_=>?_,λh=>qG (by simp) h⟩) λi P=>⟨λh=>qG rfl h,λ_=>⟨λh=>qG rfl h,λ_=>?_⟩⟩
 .refine Ri m l.sc l.kids (λ_=>UL) g p (λZ=>⟨λ_=>W Z,λh=>qG (by simp) h⟩) λi S' H' L w Y c1 V=>⟨λh=>qG rfl h,λ_=>⟨λ_=>?_,?_⟩⟩
  .have:=w.lt;show i<=_;omega
  .obtain⟨y,s⟩:=l.add w c1 g f.fl c.fl (by rw[B.K8];exact D) (by rw[B.K8];exact G) (λe=>J (B.QF e)) B.TF p;have n:Ax S'.po i=some ⟨v,B.fl lo hi,B.fl hi hi⟩:=by rw[w.Ax];exact B.Tx
   obtain⟨M,I,E⟩:=Am1 y.BS B9.Ko w.pos n (f.ext s.Ax) (c.ext s.Ax);have o:=w.pos;have:Az (2*max i 0) (AW hi)=B.fl (2*i) hi:=by rw[C,show max i 0=i by omega]
   show Q (Az (2*max i 0) (AW hi),0,()) () H';rw[this];refine h _ S' H' g.1 g.2 f c D G Y y s V M ?_ ?_ ?_
   .rw[I,s.den l f,s.den l c]
   .rw[s.n,s.lv]at E;rw[E];exact aj _
   .intro j d' x;rw[w.Ax]at x;unfold B.Je at x;split at x
    .rename_i e';cases x;refine .inr ⟨?_,rfl⟩;rw[e',B.Aeh];omega
    .exact .inl x
 .have n:=(l.tg v.toNat q _ _ _).1 P;rw[R]at n;have o:=l.ib n;obtain⟨M,I,E⟩:=Am1 l.BS B9.Ko o.1 n f c;refine⟨λ_=>by show i<=_;omega,?_⟩;have:Az (2*max i 0) (AW hi)=B.fl (2*i) hi:=by rw[C,show max i 0=i by omega]
  show Q (Az (2*max i 0) (AW hi),0,()) () H;rw[this];exact h _ S H g.1 g.2 f c D G m l I4.refl N0.refl M I (by rw[E];exact aj _) (λi d n=>.inl n)
end
section
structure ZC(S S':B9)(g:Int->Int):Prop where
 Ax:Ax S'.po=Ax S.po
 rf:∀j,j≠0->EU S'.po j=g j
 lv:S'.lv=S.lv
 tb:S'.tb=S.tb
 bl:S'.bl=S.bl
 bp:S'.bp=S.bp
 ta:S'.ta=S.ta
 room:S'.po.room=S.po.room
 many:S'.po.many=S.po.many
variable {S:B9}
theorem ZC.n{S':B9}{g:Int->Int}(h:ZC S S' g):S'.n=S.n:=by unfold B9.n;rw[h.tb]
theorem Afy{p:A6}(h:Fh p):EU p 0=0:=by unfold EU;rw[Aaw h]
theorem ZC.si{S':B9}{g:Int->Int}(k:ZC S S' g)(h:SI S)(a:SC S' g)(b:∀j,0<=g j):SI S':=by
 refine⟨⟨a.po,a.cn.congr λi c=>(k.rf i (by omega)).symm,a.ln,a.dead⟩,?_,?_,?_,?_,?_,?_,?_⟩
 .rw[k.n,k.lv,k.Ax];exact h.BS
 .rw[k.lv,k.tb];exact h.vl
 .rw[k.lv,k.tb];exact h.ll
 .rw[k.lv,k.n];exact h.inv
 .rw[k.tb,k.ta];exact h.tn
 .rw[k.tb,k.ta,k.Ax];exact h.tg
 .intro i;by_cases e:i=0
  .rw[e,Afy a.po];omega
  .rw[k.rf i e];grind
theorem Aan{p p':A6}{i:Int}{n:Au}{x:Int}(a:FY p i=some n)(h:∀j,FY p' j=if j=i then some {n with Refs:=n.Refs+x} else FY p j):Ax p'=Ax p/\∀j,EU p' j=if j=i then EU p j+x else EU p j:=by grind[Ax,EU]
def B9.wp(S:B9)(po:A6):B9:={S with po:=po}
theorem W2{b:Nat}{f:Int}{H:HY}{X:PX}{Q:Int×Unit->UU}(o:Ca H b S)(k:SI S)(L:∀i,EU S.po i<1152921504606846976)(Y:¬B.Ok (Ax S.po) f->Q (8,()) () H)(h:∀S' H',B.Ok (Ax S.po) f->Ca H' b S'->SI S'->ZC S S' (λi=>EU S.po i+B.dl f i)->N0 b S H H'->Q (0,()) () H'):qK Lp HZ (some b,f,()) H Q X:=by
 refine wF Tryz.f223 {} (?_:((some b)=none->Q (5,()) () H)/\(¬(some b)=none->qK DT Dn ((some b),f,()) H (λ(a:Bool×UT)_ G=>(¬a.1->Q (8,()) () G)/\(¬¬a.1->∃(a:Nat),(some b)=some a/\(∃(x:Ah),G a=some (Ob.st A8 x)/\(x=x/\qK AF AB (x.DZ,Av f,()) G (λ(b1:Au×Bool×UT)_ G=>(b1.2.1->IK b1.1.Refs->IK (b1.1.Refs+1)/\∃(x:Ah),G a=some (Ob.st A8 x)/\x=x/\qK BZ BP (x.DZ,{ID:=b1.1.ID,Var:=b1.1.Var,Lo:=b1.1.Lo,Hi:=b1.1.Hi,Refs:=b1.1.Refs+1:Au},()) G (λ(a:Int×UT)_ G=>qK B5 Bt ((some b),f,()) G (λ(a io:UT)(G:HY)=>Q (0,()) () G) X) X)/\(¬b1.2.1->Q (0,()) () G)) X)/\x=x/\qK AF AB (x.DZ,Av f,()) G (λ(b1:Au×Bool×UT)_ G=>(b1.2.1->IK b1.1.Refs->IK (b1.1.Refs+1)/\∃(x:Ah),G a=some (Ob.st A8 x)/\x=x/\qK BZ BP (x.DZ,{ID:=b1.1.ID,Var:=b1.1.Var,Lo:=b1.1.Lo,Hi:=b1.1.Hi,Refs:=b1.1.Refs+1:Au},()) G (λ(a:Int×UT)_ G=>qK B5 Bt ((some b),f,()) G (λ(a io:UT)(G:HY)=>Q (0,()) () G) X) X)/\(¬b1.2.1->Q (0,()) () G)) X)/\∃(x:Ah),G a=some (Ob.st A8 x)/\x=x/\qK AF AB (x.DZ,Av f,()) G (λ(b1:Au×Bool×UT)_ G=>(b1.2.1->IK b1.1.Refs->IK (b1.1.Refs+1)/\∃(x:Ah),G a=some (Ob.st A8 x)/\x=x/\qK BZ BP (x.DZ,{ID:=b1.1.ID,Var:=b1.1.Var,Lo:=b1.1.Lo,Hi:=b1.1.Hi,Refs:=b1.1.Refs+1:Au},()) G (λ(a:Int×UT)_ G=>qK B5 Bt ((some b),f,()) G (λ(a io:UT)(G:HY)=>Q (0,()) () G) X) X)/\(¬b1.2.1->Q (0,()) () G)) X)) X));have w:=k.sc.po;refine⟨λh=>qG h (by simp),λ_=>JT o w λt I=>⟨λc=>Y λW=>c (I.2 W),λc=>?_⟩⟩;have u:=I.1 (a6.1 c);rw[JG u.1];have s:qK AF AB (some S.bp,f/2,()) H (λ(a:Au×Bool×Unit)(K:Unit)(H':HY)=>
   (a.2.1=true->Bn .i64 a.1.Refs->Bn .i64 (a.1.Refs+1)/\∃(x:Ah),H' b=some (Ob.st A8 x)/\{levels:=x.levels,DZ:=x.DZ,tables:=x.tables,counts:=x.counts,dead:=x.dead:Ah}=x/\
    qK BZ BP (x.DZ,{ID:=a.1.ID,Var:=a.1.Var,Lo:=a.1.Lo,Hi:=a.1.Hi,Refs:=a.1.Refs+1:Au},()) H' (λ(_:Int×Unit)(K:Unit)(H':HY)=>qK B5 Bt (some b,f,()) H' (λ(_ K:Unit)(H':HY)=>Q (0,()) () H') X) X)/\
   (¬a.2.1=true->Q (0,()) () H')) X:=by
  refine Gy o.po w (λc=>⟨λh=>qG h (by simp),λ_=>?_⟩) λn c=>⟨λ_ _=>?_,λh=>qG rfl h⟩
  .have V:f/2=0:=by
    rcases u.2 with h|⟨d,y⟩
    all_goals grind[Gb]
   refine h S H u o k ⟨rfl,λj z=>?_,rfl,rfl,rfl,rfl,rfl,rfl,rfl⟩ N0.refl;grind[B.K9]
  .have v:=w.id _ _ c
   have V:=(w.tk (i:=f/2) (by grind[FY])).1
   have hR:EU S.po (f/2)=n.Refs:=by unfold EU;rw[c]
   have F:=L (f/2)
   have C:=k.rf (f/2)
   rw[hR]at F C
   refine⟨A7.2 (by grind),S.ob,o.st,rfl,?_⟩
   refine Oe o.po w (λh=>?_) λm g A D z q p l=>?_
   .grind
   .obtain⟨r,T⟩:=Aan (x:=1) c λj=>by rw[z];show (if j=n.ID then _ else _)=_;rw[v]
    obtain⟨P,N⟩:=o.Alg g
    have Z:SC (S.wp g) (EU S.po):=by
     refine⟨D,?_,?_,?_⟩
     .show B.Cn (Ax g) g.at_.length (F1 S.cn) _;rw[r,l];exact k.sc.cn
     .show ∀i d,Ax g i=some d->_;rw[r];exact k.sc.ln
     .show S.dead=B.sm g.at_.length (B.zr (Ax g) (F1 S.cn));rw[r,l];exact k.sc.dead
    have E:=k.BS.dag
    rw[<-r]at E
    refine LK (S:=S.wp g) (S.n.toNat+1) E (λh2=>?_) P Z ?_ (λi d _=>?_) λO dead H' R M _ U=>?_
    .obtain⟨d,y⟩:=u.2.resolve_left h2
     rw[<-r]at y
     have:=E.Mp y
     omega
    .show B.Ok (Ax g) f;grind
    .have:=L i;have:=@B.Hd f i;omega
    .have G:ZC S ((S.wp g).wc O dead) (λi=>EU S.po i+B.dl f i):=⟨r,λj z=>by show EU g j=_;rw[T];by_cases e:j=f/2;all_goals simp_all[B.GW,B.K9],rfl,rfl,rfl,rfl,rfl,p,q⟩
     exact h _ H' u R (G.si k M λj=>by have:=k.rf j;have:=@B.Hd f j;omega) G (N.trans U rfl rfl rfl)
 exact⟨b,rfl,⟨S.ob,o.st,⟨rfl,s⟩,rfl,s⟩,S.ob,o.st,rfl,s⟩
theorem W3{b:Nat}{f:Int}{H:HY}{X:PX}{Q:Int×Unit->UU}(u:Ca H b S)(o:SI S)(hb:∀i,EU S.po i<1152921504606846976)(h8:¬B.Ok (Ax S.po) f->Q (8,()) () H)(U:B.Ok (Ax S.po) f->f/2=0->Q (0,()) () H)(R:B.Ok (Ax S.po) f->f/2≠0->EU S.po (f/2)=0->Q (5,()) () H)(h:∀S' H',B.Ok (Ax S.po) f->f/2≠0->0<EU S.po (f/2)->Ca H' b S'->SI S'->ZC S S' (λi=>EU S.po i-B.dl f i)->N0 b S H H'->Q (0,()) () H'):qK Lq Ia (some b,f,()) H Q X:=by
 refine wF Tryz.f174 {} (?_:((some b)=none->Q (5,()) () H)/\(¬(some b)=none->qK DT Dn ((some b),f,()) H (λ(a:Bool×UT)_ G=>(¬a.1->Q (8,()) () G)/\(¬¬a.1->∃(a:Nat),(some b)=some a/\(∃(x:Ah),G a=some (Ob.st A8 x)/\(x=x/\qK AF AB (x.DZ,Av f,()) G (λ(b1:Au×Bool×UT)_ G=>(¬b1.2.1->Q (0,()) () G)/\(¬¬b1.2.1->(b1.1.Refs=0->Q (5,()) () G)/\(¬b1.1.Refs=0->IK b1.1.Refs->IK (b1.1.Refs-1)/\∃(x:Ah),G a=some (Ob.st A8 x)/\x=x/\qK BZ BP (x.DZ,{ID:=b1.1.ID,Var:=b1.1.Var,Lo:=b1.1.Lo,Hi:=b1.1.Hi,Refs:=b1.1.Refs-1:Au},()) G (λ(a:Int×UT)_ G=>qK B6 Bu ((some b),f,()) G (λ(a io:UT)(G:HY)=>Q (0,()) () G) X) X))) X)/\x=x/\qK AF AB (x.DZ,Av f,()) G (λ(b1:Au×Bool×UT)_ G=>(¬b1.2.1->Q (0,()) () G)/\(¬¬b1.2.1->(b1.1.Refs=0->Q (5,()) () G)/\(¬b1.1.Refs=0->IK b1.1.Refs->IK (b1.1.Refs-1)/\∃(x:Ah),G a=some (Ob.st A8 x)/\x=x/\qK BZ BP (x.DZ,{ID:=b1.1.ID,Var:=b1.1.Var,Lo:=b1.1.Lo,Hi:=b1.1.Hi,Refs:=b1.1.Refs-1:Au},()) G (λ(a:Int×UT)_ G=>qK B6 Bu ((some b),f,()) G (λ(a io:UT)(G:HY)=>Q (0,()) () G) X) X))) X)/\∃(x:Ah),G a=some (Ob.st A8 x)/\x=x/\qK AF AB (x.DZ,Av f,()) G (λ(b1:Au×Bool×UT)_ G=>(¬b1.2.1->Q (0,()) () G)/\(¬¬b1.2.1->(b1.1.Refs=0->Q (5,()) () G)/\(¬b1.1.Refs=0->IK b1.1.Refs->IK (b1.1.Refs-1)/\∃(x:Ah),G a=some (Ob.st A8 x)/\x=x/\qK BZ BP (x.DZ,{ID:=b1.1.ID,Var:=b1.1.Var,Lo:=b1.1.Lo,Hi:=b1.1.Hi,Refs:=b1.1.Refs-1:Au},()) G (λ(a:Int×UT)_ G=>qK B6 Bu ((some b),f,()) G (λ(a io:UT)(G:HY)=>Q (0,()) () G) X) X))) X)) X));have w:=o.sc.po;refine⟨λh=>qG h (by simp),λ_=>JT u w λt L=>⟨λc=>h8 λY=>c (L.2 Y),λc=>?_⟩⟩;have r:=L.1 (a6.1 c);rw[JG r.1];have v:qK AF AB (some S.bp,f/2,()) H (λ(a:Au×Bool×Unit)(M:Unit)(H':HY)=>
   (¬a.2.1=true->Q (0,()) () H')/\(¬¬a.2.1=true->(a.1.Refs=(0:Int)->Q (5,()) () H')/\(¬a.1.Refs=(0:Int)->Bn .i64 a.1.Refs->Bn .i64 (a.1.Refs-1)/\∃(x:Ah),H' b=some (Ob.st A8 x)/\{levels:=x.levels,DZ:=x.DZ,tables:=x.tables,counts:=x.counts,dead:=x.dead:Ah}=x/\
    qK BZ BP (x.DZ,{ID:=a.1.ID,Var:=a.1.Var,Lo:=a.1.Lo,Hi:=a.1.Hi,Refs:=a.1.Refs-1:Au},()) H' (λ(_:Int×Unit)(M:Unit)(H':HY)=>qK B6 Bu (some b,f,()) H' (λ(_ M:Unit)(H':HY)=>Q (0,()) () H') X) X))) X:=by
  refine Gy u.po w (λc=>⟨λ_=>?_,λh=>qG (by simp) h⟩) λn c=>⟨λh=>qG rfl h,λ_=>⟨λG=>?_,λG _=>?_⟩⟩
  .refine U r ?_
   rcases r.2 with h|⟨d,z⟩
   all_goals grind[Gb]
  .refine R r (λe=>by rw[e,Aaw w]at c;cases c) ?_
   unfold EU;rw[c];exact G
  .have y:=w.id _ _ c
   have I:f/2≠0:=λe=>by grind[Aaw]
   have K:EU S.po (f/2)=n.Refs:=by unfold EU;rw[c]
   have A:=hb (f/2)
   have E:=o.rf (f/2)
   rw[K]at A E
   have Z:¬n.Refs=0:=G
   refine⟨A7.2 (by show _<=n.Refs-1/\n.Refs-1<=_;omega),S.ob,u.st,rfl,?_⟩
   refine Oe u.po w (λh=>?_) λm g D C J p q l=>?_
   .grind
   .obtain⟨s,T⟩:=Aan (x:=-1) c λj=>by rw[J];grind
    obtain⟨V,f1⟩:=u.Alg g
    have hC:SC (S.wp g) (EU S.po):=by
     refine⟨C,?_,?_,?_⟩
     .show B.Cn (Ax g) g.at_.length (F1 S.cn) _;rw[s,l];exact o.sc.cn
     .show ∀i d,Ax g i=some d->_;rw[s];exact o.sc.ln
     .show S.dead=B.sm g.at_.length (B.zr (Ax g) (F1 S.cn));rw[s,l];exact o.sc.dead
    have F:=o.BS.dag
    rw[<-s]at F
    have k:∀i,B.dl f i<=EU S.po i:=λi=>by
     by_cases e:i=f/2
     .grind[B.GW]
     .rw[B.K9 e];exact o.rf i
    refine LM (S:=S.wp g) (S.n.toNat+1) F (λh2=>?_) V hC ?_ (λi d _=>k i) λcn dead H' W P f2=>?_
    .obtain⟨d,z⟩:=r.2.resolve_left h2
     rw[<-s]at z
     have:=F.Mp z
     omega
    .show B.Ok (Ax g) f;grind
    .have O:ZC S ((S.wp g).wc cn dead) (λi=>EU S.po i-B.dl f i):=⟨s,λj J=>by
      show EU g j=_;rw[T];by_cases e:j=f/2
      .rw[UV e,e,B.GW];omega
      simp_all[B.K9],rfl,rfl,rfl,rfl,rfl,q,p⟩
     exact h _ H' r I (by omega) W (O.si o P λj=>by grind) O (f1.trans f2 rfl rfl rfl)
 exact⟨b,rfl,⟨S.ob,u.st,⟨rfl,v⟩,rfl,v⟩,S.ob,u.st,rfl,v⟩
end
section
set_option maxRecDepth 100000
set_option maxHeartbeats 2000000
def Qh(m:Option Nat)(l:List BA)(H:HY)(Q:Int×UT->UU)(X:PX):=(m=none->Q (5,()) () H)/\(¬m=none->l.length<=2^63-1->∃(b:Nat),m=some b/\∃(x:Bc),H b=some (Ob.st CP x)/\(x.waits.length<=2^63-1->x.waits.length<=2^63-1->IK (256-(↑x.waits.length:Int))/\(256-(↑x.waits.length:Int)<(↑l.length:Int)->x=x/\Q (18,()) () H)/\(¬256-(↑x.waits.length:Int)<(↑l.length:Int)->l.length<=2^63-1->x=x/\∃(V:Nat->Nat×UT->HP),(∃(n:Nat),V n (0,()) H)/\∀n x H,V n x H->(x.1<l.length->x.1<=2^63-1->∃(h:x.1<l.length),(l[x.1].Kind<1->Q (11,()) () H)/\(¬l[x.1].Kind<1->((3:Int)<l[x.1].Kind->Q (11,()) () H)/\(¬(3:Int)<l[x.1].Kind->(l[x.1].Eg<1->Q (2,()) () H/\Q (2,()) () H)/\(¬l[x.1].Eg<1->(l[x.1].Kind=2->(l[x.1].Level<0->Q (2,()) () H/\Q (2,()) () H)/\(¬l[x.1].Level<0->qK E9 DM (m,()) H (λ(b:Int×UT)_ G=>IK b.1->IK (b.1-1)/\(b.1-1<=l[x.1].Level->Q (2,()) () G)/\(¬b.1-1<=l[x.1].Level->x.1+1<=2^63-1/\∃m,m<n/\V m (x.1+1,()) G)) X/\qK E9 DM (m,()) H (λ(b:Int×UT)_ G=>IK b.1->IK (b.1-1)/\(b.1-1<=l[x.1].Level->Q (2,()) () G)/\(¬b.1-1<=l[x.1].Level->x.1+1<=2^63-1/\∃m,m<n/\V m (x.1+1,()) G)) X))/\(¬l[x.1].Kind=2->(x.1+1<=2^63-1/\∃m,m<n/\V m (x.1+1,()) H)/\x.1+1<=2^63-1/\∃m,m<n/\V m (x.1+1,()) H)))))/\(¬x.1<l.length->∃(x:Bc),H b=some (Ob.st CP x)/\(x.waits.length<=2^63-1->(x.waits.length=0->(x.waits.length+l.length)*24<=2^47/\Q (0,()) () (Ab H b (Ob.st CP {x with waits:=x.waits++l,calls:=0})))/\(¬x.waits.length=0->(x.waits.length+l.length)*24<=2^47/\Q (0,()) () (Ab H b (Ob.st CP {x with waits:=x.waits++l}))))))))
def Qk(m:Option Nat)(l:List Int)(H:HY)(Q:Int×UT->UU)(X:PX):=(m=none->Q (5,()) () H)/\(¬m=none->l.length<=2^63-1->∃(V:Nat->Nat×UT->HP),(∃(n:Nat),V n (0,()) H)/\∀n x H,V n x H->(x.1<l.length->x.1<=2^63-1->∃(h:x.1<l.length),∃(b:Nat),m=some b/\∃(x1:Bc),H b=some (Ob.st CP x1)/\(¬(Ad x1.Bs l[x.1]).isSome->x1=x1/\Q (8,()) () H)/\(¬¬(Ad x1.Bs l[x.1]).isSome->((1:Int)<l[x.1]->x1=x1/\qK Lq Ia (x1.store,(Ad x1.Bs l[x.1]).getD 0,()) H (λ(b1:Int×UT)_ G=>∃(x2:Bc),G b=some (Ob.st CP x2)/\x.1+1<=2^63-1/\∃m,m<n/\V m (x.1+1,()) (Ab G b (Ob.st CP {x2 with Bs:=Db x2.Bs l[x.1]}))) X)/\(¬(1:Int)<l[x.1]->x.1+1<=2^63-1/\∃m,m<n/\x1=x1/\V m (x.1+1,()) H)))/\(¬x.1<l.length->Q (0,()) () H))
def TL(x:Option Nat)(v lo hi:Int)(H:HY)(Q:Int×UT->UU)(X:PX):=∃(b:Nat),x=some b/\∃(x:Dw),H b=some (Ob.st Ea x)/\∃(b:Nat),x.m=some b/\{m:=x.m:Dw}=x/\∃(x:Bc),H b=some (Ob.st CP x)/\(x.waits.length<=2^63-1->(0<x.waits.length->(True->(0:Int)<=0)/\∃(h:aa (0:Int)<x.waits.length),∃(h:aa (0:Int)<x.waits.length),(x.waits[aa (0:Int)].Eg<=Go.IntKind.wrap .i64 (x.calls+1)->(True->(0:Int)<=0)/\∃(h:aa (0:Int)<x.waits.length),∃(h:aa (0:Int)<x.waits.length),(0:Int)<=1/\aa (1:Int)<=x.waits.length/\X 231 {t:=Ty.u 15,x:={err:=0,event:=true,ev:={Eg:=x.waits[aa (0:Int)].Eg,Kind:=x.waits[aa (0:Int)].Kind,Level:=x.waits[aa (0:Int)].Level:BA}:EK}  :Lf Y0.D} (Ab H b (Ob.st CP {x with waits:=bx (aa (1:Int)) x.waits,calls:=0})))/\(¬x.waits[aa (0:Int)].Eg<=Go.IntKind.wrap .i64 (x.calls+1)->qK GU ES (x.store,v,lo,hi,()) (Ab H b (Ob.st CP {x with calls:=Go.IntKind.wrap .i64 (x.calls+1)})) (λ(b:Int×Int×UT)_ G=>(¬b.2.1=0->X 231 {t:=Ty.u 15,x:={err:=b.2.1,event:=false,ev:={Eg:=0,Kind:=0,Level:=0:BA}:EK}  :Lf Y0.D} G)/\(¬¬b.2.1=0->Q (b.1,()) () G)) X))/\(¬0<x.waits.length->qK GU ES (x.store,v,lo,hi,()) (Ab H b (Ob.st CP {x with calls:=Go.IntKind.wrap .i64 (x.calls+1)})) (λ(b:Int×Int×UT)_ G=>(¬b.2.1=0->X 231 {t:=Ty.u 15,x:={err:=b.2.1,event:=false,ev:={Eg:=0,Kind:=0,Level:=0:BA}:EK}  :Lf Y0.D} G)/\(¬¬b.2.1=0->Q (b.1,()) () G)) X))
theorem Ab6 x v lo hi H Q X(h_:TL x v lo hi H Q X):qK E2 DN (x,v,lo,hi,()) H Q X:=wF Tryz.f127 {wr:=[21]} h_
def Aj8(m:Option Nat)(yes:Bool)(H:HY)(Q:Int×UT->UU)(_:PX):=(m=none->Q (0,()) () H)/\(¬m=none->(¬yes->Q (0,()) () H)/\(¬¬yes->Q (1,()) () H))
theorem Apg m yes H Q X(h_:Aj8 m yes H Q X):qK Lr IG (m,yes,()) H Q X:=wF Tryz.f132 {} h_
def VR(x:Option Nat)(v:Int)(H:HY)(Q:Int×UT->UU)(X:PX):=∃(b:Nat),x=some b/\∃(x:Dw),H b=some (Ob.st Ea x)/\∃(b:Nat),x.m=some b/\{m:=x.m:Dw}=x/\∃(x:Bc),H b=some (Ob.st CP x)/\x=x/\qK BB Bw (x.store,v,()) H (λ(b:Int×UT)_ G=>Q (b.1,()) () G) X
theorem VQ x v H Q X(h_:VR x v H Q X):qK CY CC (x,v,()) H Q X:=wF Tryz.f145 {} h_
def WQ(x:Option Nat)(h:Int)(H:HY)(Q:Int×UT->UU)(X:PX):=∃(b:Nat),x=some b/\∃(x:Dw),H b=some (Ob.st Ea x)/\∃(b:Nat),x.m=some b/\{m:=x.m:Dw}=x/\∃(x:Bc),H b=some (Ob.st CP x)/\(¬(Ad x.Bs h).isSome->x=x/\X 231 {t:=Ty.u 15,x:={err:=8,event:=false,ev:={Eg:=0,Kind:=0,Level:=0:BA}:EK}  :Lf Y0.D} H)/\(¬¬(Ad x.Bs h).isSome->x=x/\Q ((Ad x.Bs h).getD 0,()) () H)
theorem WO x h H Q X(h_:WQ x h H Q X):qK CD Cs (x,h,()) H Q X:=wF Tryz.f147 {} h_
def Sj(x:Option Nat)(f g h:Int)(H:HY)(Q:Int×UT->UU)(X:PX):=∃(V:Nat->Int×Int×Int×Bool×Nat×UT->HP),(∃(n:Nat),V n (f,g,h,false,0,()) H)/\∀n x1 H,V n x1 H->(x1.2.2.2.2.1<3->qK VH Qz (x1.1,x1.2.1,x1.2.2.1,()) H (λ(b:Int×Int×Int×Bool×Int×Bool×UT)_ G=>(b.2.2.2.2.2.1->Q (Az b.2.2.2.2.1 x1.2.2.2.1,()) () G)/\(¬b.2.2.2.2.2.1->(b.1=x1.1->(b.2.1=x1.2.1->(b.2.2.1=x1.2.2.1->∃(b1:Nat),x=some b1/\∃(x2:Dw),G b1=some (Ob.st Ea x2)/\∃(b2:Nat),x2.m=some b2/\{m:=x2.m:Dw}=x2/\∃(x3:Bc),G b2=some (Ob.st CP x3)/\x3=x3/\qK HT F5 (x3.RA,1,x1.1,x1.2.1,x1.2.2.1,()) G (λ(b3:Int×Bool×UT)_ G=>(b3.2.1->Q (Az b3.1 (not (decide (x1.2.2.2.1=true)==decide (b.2.2.2.1=true))),()) () G)/\(¬b3.2.1->qK IW GK (x,[x1.1,x1.2.1,x1.2.2.1],()) G (λ(b4:Int×UT)_ G=>qK Cq BY (x,x1.1,b4.1,()) G (λ(b5:Int×Int×UT)_ G=>qK Cq BY (x,x1.2.1,b4.1,()) G (λ(b6:Int×Int×UT)_ G=>qK Cq BY (x,x1.2.2.1,b4.1,()) G (λ(b7:Int×Int×UT)_ G=>qK BO BF (x,b5.1,b6.1,b7.1,()) G (λ(b8:Int×UT)_ G=>qK BO BF (x,b5.2.1,b6.2.1,b7.2.1,()) G (λ(b9:Int×UT)_ G=>qK E2 DN (x,b4.1,b8.1,b9.1,()) G (λ(b10:Int×UT)_ G=>∃(x:Dw),G b1=some (Ob.st Ea x)/\∃(b11:Nat),x.m=some b11/\{m:=x.m:Dw}=x/\∃(x:Bc),G b11=some (Ob.st CP x)/\x=x/\qK HS F4 (x.RA,1,x1.1,x1.2.1,x1.2.2.1,b10.1,()) G (λ(_ _:UT)(G:HY)=>Q (Az b10.1 (not (decide (x1.2.2.2.1=true)==decide (b.2.2.2.1=true))),()) () G) X) X) X) X) X) X) X) X)) X)/\(¬b.2.2.1=x1.2.2.1->x1.2.2.2.2.1+1<=2^63-1/\∃m,m<n/\V m (b.1,b.2.1,b.2.2.1,not (decide (x1.2.2.2.1=true)==decide (b.2.2.2.1=true)),x1.2.2.2.2.1+1,()) G))/\(¬b.2.1=x1.2.1->x1.2.2.2.2.1+1<=2^63-1/\∃m,m<n/\V m (b.1,b.2.1,b.2.2.1,not (decide (x1.2.2.2.1=true)==decide (b.2.2.2.1=true)),x1.2.2.2.2.1+1,()) G))/\(¬b.1=x1.1->x1.2.2.2.2.1+1<=2^63-1/\∃m,m<n/\V m (b.1,b.2.1,b.2.2.1,not (decide (x1.2.2.2.1=true)==decide (b.2.2.2.1=true)),x1.2.2.2.2.1+1,()) G))) X)/\(¬x1.2.2.2.2.1<3->∃(b:Nat),x=some b/\∃(x2:Dw),H b=some (Ob.st Ea x2)/\∃(b1:Nat),x2.m=some b1/\{m:=x2.m:Dw}=x2/\∃(x3:Bc),H b1=some (Ob.st CP x3)/\x3=x3/\qK HT F5 (x3.RA,1,x1.1,x1.2.1,x1.2.2.1,()) H (λ(b2:Int×Bool×UT)_ G=>(b2.2.1->Q (Az b2.1 x1.2.2.2.1,()) () G)/\(¬b2.2.1->qK IW GK (x,[x1.1,x1.2.1,x1.2.2.1],()) G (λ(b3:Int×UT)_ G=>qK Cq BY (x,x1.1,b3.1,()) G (λ(b4:Int×Int×UT)_ G=>qK Cq BY (x,x1.2.1,b3.1,()) G (λ(b5:Int×Int×UT)_ G=>qK Cq BY (x,x1.2.2.1,b3.1,()) G (λ(b6:Int×Int×UT)_ G=>qK BO BF (x,b4.1,b5.1,b6.1,()) G (λ(b7:Int×UT)_ G=>qK BO BF (x,b4.2.1,b5.2.1,b6.2.1,()) G (λ(b8:Int×UT)_ G=>qK E2 DN (x,b3.1,b7.1,b8.1,()) G (λ(b9:Int×UT)_ G=>∃(x:Dw),G b=some (Ob.st Ea x)/\∃(b:Nat),x.m=some b/\{m:=x.m:Dw}=x/\∃(x:Bc),G b=some (Ob.st CP x)/\x=x/\qK HS F4 (x.RA,1,x1.1,x1.2.1,x1.2.2.1,b9.1,()) G (λ(_ _:UT)(G:HY)=>Q (Az b9.1 x1.2.2.2.1,()) () G) X) X) X) X) X) X) X) X)) X)
theorem Zz x f g h H Q X(h_:Sj x f g h H Q X):qK BO BF (x,f,g,h,()) H Q X:=wF Tryz.f148 {lp:=[(3,⟨[(1,.one (.dat I6)),(2,.one (.dat I6)),(3,.one (.dat I6)),(9,.one (.dat .bool)),(27,.nat)],[0],true⟩)]} h_
def Qi(m:Option Nat)(op:Option Nat×UT->HY->(UT->HP)->PX->Prop)(H:HY)(Q:Int×UT->UU)(X:PX):=(m=none->Q (5,()) () H)/\(¬m=none->qK Nf KF (m,op,()) H (λ(b:Int×UT)_ G=>Q (b.1,()) () G) X)
theorem WM m op H Q X(h_:Qi m op H Q X):qK Qb LQ (m,op,()) H Q X:=wF Tryz.f149 {} h_
def O8(x:Option Nat)(p1 p2 p3:Int)(H:HY)(Q:Int×UT->UU)(X:PX):=qK CD Cs (x,p1,()) H (λ(b:Int×UT)_ G=>qK CD Cs (x,p2,()) G (λ(b1:Int×UT)_ G=>qK CD Cs (x,p3,()) G (λ(b2:Int×UT)_ G=>qK BO BF (x,b.1,b1.1,b2.1,()) G (λ(b:Int×UT)_ G=>Q (b.1,()) () G) X) X) X) X
theorem VN x p1 p2 p3 H Q X(h_:O8 x p1 p2 p3 H Q X):qK O3 KZ (x,p1,p2,p3,()) H Q X:=wF Tryz.f170 {} h_
def Si(m:Option Nat)(op:Option Nat×UT->HY->(UT->HP)->PX->Prop)(H:HY)(Q:Int×UT->UU)(X:PX):=∃(V:Nat->Bool×UT->HP),(∃(n:Nat),V n (false,()) H)/\∀n x H,V n x H->qK RZ IE (m,op,()) H (λ(b:EK×Bool×UT)_ G=>(b.2.1->Q (0,()) () G)/\(¬b.2.1->(b.1.event->qK Nw Kn (m,{Eg:=b.1.ev.Eg,Kind:=b.1.ev.Kind,Level:=b.1.ev.Level:BA},()) G (λ(_ _:UT)(G:HY)=>∃m,m<n/\V m (false,()) G) X)/\(¬b.1.event->(b.1.err=7->(¬x.1->qK Mw Jw (m,()) G (λ(_:Int×UT)_ G=>∃m,m<n/\V m (true,()) G) X)/\(¬¬x.1->Q (b.1.err,()) () G))/\(¬b.1.err=7->Q (b.1.err,()) () G)))) X
def Ql(x:Option Nat)(p1:Option Nat×UT->HY->(Int×UT->HP)->PX->Prop)(p2:Option Nat)(H:HY)(Q:UT->UU)(X:PX):=p1 (x,()) H (λ(b:Int×UT)(G:HY)=>∃(b1:Nat),p2=some b1/\∃(x:Int),G b1=some (Ob.st Ba x)/\Q () () (Ab G b1 (Ob.st Ba b.1))) X
theorem WN x p1 p2 H Q X(h_:Ql x p1 p2 H Q X):qK Qe LS (x,p1,p2,()) H Q X:=wF Tryz.f188 {} h_
def Zy(x:Option Nat)(l:List Int)(H:HY)(Q:Int×UT->UU)(X:PX):=l.length<=2^63-1->∃(V:Nat->Int×Int×Nat×UT->HP),(∃(n:Nat),V n (-1,0,0,()) H)/\∀n x1 H,V n x1 H->(x1.2.2.1<l.length->x1.2.2.1<=2^63-1->∃(h:x1.2.2.1<l.length),∃(b:Nat),x=some b/\∃(x2:Dw),H b=some (Ob.st Ea x2)/\∃(b:Nat),x2.m=some b/\{m:=x2.m:Dw}=x2/\∃(x3:Bc),H b=some (Ob.st CP x3)/\x3=x3/\qK DU Dp (x3.store,l[x1.2.2.1],()) H (λ(b:Int×Int×Int×Bool×UT)_ G=>(b.2.2.2.1->(x1.1<0->qK CY CC (x,b.1,()) G (λ(b1:Int×UT)_ G=>x1.2.2.1+1<=2^63-1/\∃m,m<n/\V m (b.1,b1.1,x1.2.2.1+1,()) G) X)/\(¬x1.1<0->qK CY CC (x,b.1,()) G (λ(b1:Int×UT)_ G=>(b1.1<x1.2.1->qK CY CC (x,b.1,()) G (λ(b2:Int×UT)_ G=>x1.2.2.1+1<=2^63-1/\∃m,m<n/\V m (b.1,b2.1,x1.2.2.1+1,()) G) X)/\(¬b1.1<x1.2.1->x1.2.2.1+1<=2^63-1/\∃m,m<n/\V m (x1.1,x1.2.1,x1.2.2.1+1,()) G)) X))/\(¬b.2.2.2.1->x1.2.2.1+1<=2^63-1/\∃m,m<n/\V m (x1.1,x1.2.1,x1.2.2.1+1,()) G)) X)/\(¬x1.2.2.1<l.length->Q (x1.1,()) () H)
theorem Zx x l H Q X(h_:Zy x l H Q X):qK IW GK (x,l,()) H Q X:=wF Tryz.f198 {lp:=[(3,⟨[(5,.one (.dat I6)),(6,.one (.dat I6)),(15,.nat)],[0,13,14],true⟩)]} h_
def VP(x:Option Nat)(f v:Int)(H:HY)(Q:Int×Int×UT->UU)(X:PX):=∃(b:Nat),x=some b/\∃(x:Dw),H b=some (Ob.st Ea x)/\∃(b:Nat),x.m=some b/\{m:=x.m:Dw}=x/\∃(x:Bc),H b=some (Ob.st CP x)/\x=x/\qK DU Dp (x.store,f,()) H (λ(b:Int×Int×Int×Bool×UT)_ G=>(¬b.2.2.2.1->Q (f,f,()) () G)/\(¬¬b.2.2.2.1->(¬b.1=v->Q (f,f,()) () G)/\(¬¬b.1=v->Q (b.2.1,b.2.2.1,()) () G))) X
theorem VO x f v H Q X(h_:VP x f v H Q X):qK Cq BY (x,f,v,()) H Q X:=wF Tryz.f199 {} h_
def Nx(m:Option Nat)(ev:BA)(H:HY)(Q:UT->UU)(X:PX):=∃(b:Nat),m=some b/\∃(x:Bc),H b=some (Ob.st CP x)/\x=x/\qK E1 D9 (x.RA,()) H (λ(b1 io:UT)(G:HY)=>(ev.Kind=1->∃(x:Bc),G b=some (Ob.st CP x)/\x=x/\qK Dk C8 (x.store,()) G (λ(b:Int×UT)_ G=>Q () () G) X)/\(¬ev.Kind=1->(ev.Kind=2->∃(x:Bc),G b=some (Ob.st CP x)/\x=x/\qK Ec Dm (x.store,ev.Level,()) G (λ(b:Int×UT)_ G=>Q () () G) X)/\(¬ev.Kind=2->∃(x:Bc),G b=some (Ob.st CP x)/\x=x/\qK EJ DE (x.store,()) G (λ(b2:List Int×UT)_ G=>qK Oy L6 (b2.1,()) G (λ(b3:List Int×UT)_ G=>qK KM IB (b2.1,b3.1,()) G (λ(b4:List Int×Int×UT)_ G=>b4.1.length<=2^63-1->∃(V:Nat->List Int×Nat×UT->HP),(∃(n:Nat),V n (b4.1,0,()) G)/\∀n x H,V n x H->(x.2.1<b4.1.length->x.2.1<=2^63-1->∃(h:x.2.1<x.1.length),∃(h:x.2.1<x.1.length),∃(x1:Bc),H b=some (Ob.st CP x1)/\x1=x1/\qK Ec Dm (x1.store,x.1[x.2.1],()) H (λ(b:Int×UT)_ G=>x.2.1+1<=2^63-1/\∃m,m<n/\V m (x.1,x.2.1+1,()) G) X)/\(¬x.2.1<b4.1.length->Q () () H)) X) X) X))) X
def Qj(m:Option Nat)(f:Int)(l:List Bool)(H:HY)(Q:Bool×Int×UT->UU)(X:PX):=(m=none->Q (false,5,()) () H)/\(¬m=none->∃(b:Nat),m=some b/\∃(x:Bc),H b=some (Ob.st CP x)/\(¬(Ad x.Bs f).isSome->x=x/\Q (false,8,()) () H)/\(¬¬(Ad x.Bs f).isSome->x=x/\∃(V:Nat->Int×UT->HP),(∃(n:Nat),V n ((Ad x.Bs f).getD 0,()) H)/\∀n x H,V n x H->(¬decide (Av x.1=0)->∃(x1:Bc),H b=some (Ob.st CP x1)/\x1=x1/\qK DU Dp (x1.store,x.1,()) H (λ(b:Int×Int×Int×Bool×UT)_ G=>l.length<=2^63-1->(b.1<(↑l.length:Int)->IK b.1->(IK b.1->(0:Int)<=b.1)/\∃(h:b.1.toNat<l.length),(l[b.1.toNat]->∃m,m<n/\V m (b.2.2.1,()) G)/\(¬l[b.1.toNat]->∃m,m<n/\V m (b.2.1,()) G))/\(¬b.1<(↑l.length:Int)->∃m,m<n/\V m (b.2.1,()) G)) X)/\(¬¬decide (Av x.1=0)->Q (decide (x.1=0),0,()) () H)))
end
section
variable {H H':HY} {b:Nat} {S:B9}
theorem Ca.BD{c m:Nat}{x:Y0.O m}(h:Ca H b S)(a:H c=some (.st m x))(l:m≠A8)(k:m≠CG)(g:m≠CL)(j:m≠BK)(f:N0 b S H H'):H' c=some (.st m x):=by
 rw[f c (Bg a h.st l) (Bg a h.lv k) (Bg a h.po g) (λd=>?_)]
 .exact a
 .obtain⟨v,i,e⟩:=bc.1 d;exact Bg a (h.ta v i) j e.symm
theorem Ca.other{c m:Nat}{x:Y0.O m}{y:Ob Y0}(h:Ca H b S)(a:H c=some (.st m x))(e:m≠A8)(i:m≠CG)(f:m≠CL)(g:m≠BK):Ca (Ab H c y) b S:=by
 refine⟨?_,?_,?_,h.nd,λv d=>?_⟩
 .rw[Ag _ _ (Bg a h.st e).symm];exact h.st
 .rw[Ag _ _ (Bg a h.lv i).symm];exact h.lv
 .rw[Ag _ _ (Bg a h.po f).symm];exact h.po
 .rw[Ag _ _ (Bg a (h.ta v d) g).symm];exact h.ta v d
structure Mn where
 sb:Nat
 S:B9
 mb:Nat
 me:B0
 hs:List (Int×Int)
 nx:Int
 ws:List BA
 ca:Int
def Mn.ob(M:Mn):Bc:={store:=some M.sb,RA:=some M.mb,Bs:=M.hs,EV:=M.nx,waits:=M.ws,calls:=M.ca}
structure Jr(H:HY)(b:Nat)(M:Mn):Prop where
 ob:H b=some (.st CP M.ob)
 st:Ca H M.sb M.S
 me:H M.mb=some (.st BX M.me)
def J7(b:Nat)(M:Mn)(H H':HY):Prop:=∀c,c≠b->c≠M.mb->c≠M.sb->c≠M.S.bl->c≠M.S.bp->c∉M.S.tb->H' c=H c
variable {M:Mn}
theorem J7.refl:J7 b M H H:=λ_ _ _ _ _ _ _=>rfl
structure Dx(M M':Mn):Prop where
 sb:M'.sb=M.sb
 mb:M'.mb=M.mb
 bl:M'.S.bl=M.S.bl
 bp:M'.S.bp=M.S.bp
 tb:M'.S.tb=M.S.tb
theorem J7.trans{M':Mn}{H'':HY}(h:J7 b M H H')(k:J7 b M' H' H'')(e:Dx M M'):J7 b M H H'':=λc i f j a g d=>by rw[k c i (by rw[e.mb];exact f) (by rw[e.sb];exact j) (by rw[e.bl];exact a) (by rw[e.bp];exact g) (by rw[e.tb];exact d),h c i f j a g d]
theorem N0.frm(f:N0 M.sb M.S H H'):J7 b M H H':=λc _ _ g a e d=>f c g a e d
theorem J7.set{o:Ob Y0}:J7 b M H (Ab H b o):=λ_ a _ _ _ _ _=>Ag _ _ a
def Lh:List (Int×Int)->Int->Int
 | [],_=>0
 |p::m,i=>B.dl p.2 i+Lh m i
theorem Px{i:Int}:∀{m:List (Int×Int)},0<=Lh m i/\Lh m i<=m.length
 | []=>by simp [Lh]
 |p::m=>by have:=Px (i:=i) (m:=m);have:=@B.Hd p.2 i;grind[Lh,am]
theorem RM{k v i:Int}:∀{m:List (Int×Int)},Ad m k=none->Lh (BR m k v) i=Lh m i+B.dl v i/\(BR m k v).length=m.length+1
 | [],_=>by simp [Lh,BR]
 |p::m,h=>by
  unfold Ad at h;split at h
  .cases h
  .rename_i a;have:=RM (v:=v) (i:=i) h;unfold BR;rw[GT a];grind[Lh,am]
theorem RN{k v i:Int}:∀{m:List (Int×Int)},Ad m k=some v->Lh (Db m k) i=Lh m i-B.dl v i/\(Db m k).length+1=m.length
 |p::m,h=>by
  unfold Ad at h;unfold Db;split at h
  .rename_i a;rw[UV a];grind[Lh]
  .rename_i a;have:=RN (i:=i) h;rw[GT a];grind[Lh,am]
structure MI(M:Mn):Prop where
 si:SI M.S
 nd:N9 M.hs
 ok:∀h e,Ad M.hs h=some e->B.Ok (Ax M.S.po) e/\0<=h/\h<M.nx
 k0:Ad M.hs 0=some 1
 k1:Ad M.hs 1=some 0
 nx:2<=M.nx
 rf:∀i,i≠0->EU M.S.po i=Lh M.hs i
 ln:M.hs.length<=M.nx
theorem MI.hb(h:MI M)(a:M.nx<576460752303423488)(i:Int):EU M.S.po i<1152921504606846976:=by
 by_cases e:i=0
 .rw[e,Afy h.si.sc.po];omega
 .rw[h.rf i e];have:=@Px i M.hs;have:=h.ln;omega
def Mn.Aq(M:Mn)(h:Int):Option B.Fn:=(Ad M.hs h).map (B.den (Ax M.S.po))
theorem MI.Aa7(h:MI M):M.Aq 0=some (λ_=>false):=by unfold Mn.Aq;rw[h.k0];rfl
theorem MI.Atw(h:MI M):M.Aq 1=some (λ_=>true):=by unfold Mn.Aq;rw[h.k1];rfl
theorem Mn.Es{h:Int}{F:B.Fn}(k:M.Aq h=some F):∃e,Ad M.hs h=some e/\B.den (Ax M.S.po) e=F:=by simp_all[Mn.Aq]
theorem Mn.Mr{h:Int}:M.Aq h=none↔Ad M.hs h=none:=by unfold Mn.Aq;cases Ad M.hs h<;>simp
structure MHs(M M':Mn):Prop where
 bs:Dx M M'
 Ax:Ax M'.S.po=Ax M.S.po
 lv:M'.S.lv=M.S.lv
 room:M'.S.po.room=M.S.po.room
 many:M'.S.po.many=M.S.po.many
 me:M'.me=M.me
 ws:M'.ws=M.ws
 ca:M'.ca=M.ca
theorem MHs.refl:MHs M M:=⟨⟨rfl,rfl,rfl,rfl,rfl⟩,rfl,rfl,rfl,rfl,rfl,rfl,rfl⟩
theorem MHs.trans{M' M'':Mn}(h:MHs M M')(k:MHs M' M''):MHs M M'':=⟨⟨k.bs.sb.trans h.bs.sb,k.bs.mb.trans h.bs.mb,k.bs.bl.trans h.bs.bl,k.bs.bp.trans h.bs.bp,k.bs.tb.trans h.bs.tb⟩,k.Ax.trans h.Ax,k.lv.trans h.lv,k.room.trans h.room,k.many.trans h.many,k.me.trans h.me,k.ws.trans h.ws,k.ca.trans h.ca⟩
def Mn.wh(M:Mn)(S:B9)(hs:List (Int×Int))(nx:Int):Mn:={M with S:=S,hs:=hs,nx:=nx}
theorem Jr.Azn(h:Jr H b M)(e:Ca H' M.sb S)(f:N0 M.sb M.S H H')(hs:List (Int×Int))(a:Int):H' b=some (.st CP M.ob)/\Jr (Ab H' b (.st CP (M.wh S hs a).ob)) b (M.wh S hs a)/\J7 b M H (Ab H' b (.st CP (M.wh S hs a).ob)):=by
 have d:=h.st.BD h.ob (by decide) (by decide) (by decide) (by decide) f;have m:=h.st.BD h.me (by decide) (by decide) (by decide) (by decide) f;refine⟨d,⟨Ai _ _ _,e.other d (by decide) (by decide) (by decide) (by decide),?_⟩,λc k n j l i g=>?_⟩
 .show Ab H' b _ M.mb=some (.st BX M.me);rw[Ag _ _ (Bg h.me h.ob (by decide))];exact m
 .rw[Ag _ _ k];exact f c j l i g
variable {X:PX}
theorem Oo{f:Int}{Q:Int×Unit->UU}(k:Jr H b M)(d:MI M)(s:M.nx<576460752303423488)(o:B.Ok (Ax M.S.po) f)(h:∀M' H',Jr H' b M'->MI M'->MHs M M'->M'.nx=M.nx+1->M'.hs.length=M.hs.length+1->(∀g,M'.Aq g=if g=M.nx then some (B.den (Ax M.S.po) f) else M.Aq g)->J7 b M H H'->Q (M.nx,()) () H'):qK JM Hz (some b,f,()) H Q X:=by
 refine wF Tryz.f168 {} (?_:∃(a:Nat),(some b)=some a/\∃(x:Bc),H a=some (Ob.st CP x)/\x=x/\qK Lp HZ (x.store,f,()) H (λ(b1:Int×UT)_ G=>∃(x:Bc),G a=some (Ob.st CP x)/\(IK x.EV->IK (x.EV+1)/\Q (x.EV,()) () (Ab G a (Ob.st CP {x with Bs:=BR x.Bs x.EV f,EV:=x.EV+1})))) X);refine⟨b,rfl,M.ob,k.ob,rfl,W2 k.st d.si (d.hb s) (λh=>qG o h) λl H' _ n m c u=>?_⟩;obtain⟨w,q,r⟩:=k.Azn n u (BR M.hs M.nx f) (M.nx+1);have z:=d.nx;have a:Ad M.hs M.nx=none:=by
  cases e:Ad M.hs M.nx with
  |none=>rfl
  |some x=>have:=(d.ok _ _ e).2.2;omega
 refine⟨M.ob,w,λ_=>⟨A7.2 (by show _<=M.nx+1/\M.nx+1<=_;omega),h _ _ q ⟨m,?_,?_,?_,?_,?_,?_,?_⟩ ⟨⟨rfl,rfl,c.bl,c.bp,c.tb⟩,c.Ax,c.lv,c.room,c.many,rfl,rfl,rfl⟩ rfl (RM (i:=0) a).2 (λg=>?_) r⟩⟩
 .exact JI d.nd _ _
 .intro g e t;have j:Ad (BR M.hs M.nx f) g=some e:=t;rw[Cw]at j;show B.Ok (Ax l.po) e/\0<=g/\g<M.nx+1;rw[c.Ax];split at j
  .grind
  .have:=d.ok g e j;grind
 .show Ad (BR M.hs M.nx f) 0=_;rw[Cw,GT (by omega)];exact d.k0
 .show Ad (BR M.hs M.nx f) 1=_;rw[Cw,GT (by omega)];exact d.k1
 .show 2<=M.nx+1;omega
 .intro i p;show EU l.po i=Lh (BR M.hs M.nx f) i;rw[c.rf i p,(RM a).1,d.rf i p]
 .show ((BR M.hs M.nx f).length:Int)<=M.nx+1;have:=(RM (i:=0) (v:=f) a).2;have:=d.ln;omega
 .show (Ad (BR M.hs M.nx f) g).map (B.den (Ax l.po))=_;rw[Cw,c.Ax];by_cases e:g=M.nx
  .grind
  .rw[GT e,GT e];rfl
variable {g:Int}
theorem Abf{Q:Int×Int×Unit->UU}(i:Jr H b M)(f:MI M)(p:M.nx<576460752303423488)(l:M.Aq g=none->Q (0,8,()) () H)(h:∀F M' H',M.Aq g=some F->Jr H' b M'->MI M'->MHs M M'->M'.nx=M.nx+1->M'.hs.length=M.hs.length+1->(∀k,M'.Aq k=if k=M.nx then some F else M.Aq k)->J7 b M H H'->Q (M.nx,0,()) () H'):qK HL FB (some b,g,()) H Q X:=by
 refine wF Tryz.f131 {} (?_:((some b)=none->Q (0,5,()) () H)/\(¬(some b)=none->∃(a:Nat),(some b)=some a/\∃(x:Bc),H a=some (Ob.st CP x)/\(¬(Ad x.Bs g).isSome->x=x/\Q (0,8,()) () H)/\(¬¬(Ad x.Bs g).isSome->x=x/\qK JM Hz ((some b),(Ad x.Bs g).getD 0,()) H (λ(a:Int×UT)_ G=>Q (a.1,0,()) () G) X)));refine⟨λh=>qG h (by simp),λ_=>⟨b,rfl,M.ob,i.ob,λd=>⟨rfl,l (Mn.Mr.2 ?_)⟩,λd=>⟨rfl,?_⟩⟩⟩
 .have a:¬(Ad M.hs g).isSome=true:=d;simp_all
 .have a:¬¬(Ad M.hs g).isSome=true:=d;obtain⟨e,c⟩:=a8.1 (a6.1 a);have n:(Ad M.ob.Bs g).getD 0=e:=by show (Ad M.hs g).getD 0=e;grind
  rw[n];have q:M.Aq g=some (B.den (Ax M.S.po) e):=by grind[Mn.Aq]
  exact Oo i f p (f.ok _ _ c).1 λM' H' t o u j s m r=>h _ M' H' q t o u j s m r
theorem Ad7{Q:Int×Int×Unit->UU}(l:Jr H b M)(j:MI M)(m:M.nx<576460752303423488)(q:M.Aq g=none->Q (0,8,()) () H)(h:∀F M' H',M.Aq g=some F->Jr H' b M'->MI M'->MHs M M'->M'.nx=M.nx+1->M'.hs.length=M.hs.length+1->(∀k,M'.Aq k=if k=M.nx then some (λa=>!(F a)) else M.Aq k)->J7 b M H H'->Q (M.nx,0,()) () H'):qK KN IF (some b,g,()) H Q X:=by
 refine wF Tryz.f98 {} (?_:((some b)=none->Q (0,5,()) () H)/\(¬(some b)=none->∃(a:Nat),(some b)=some a/\∃(x:Bc),H a=some (Ob.st CP x)/\(¬(Ad x.Bs g).isSome->x=x/\Q (0,8,()) () H)/\(¬¬(Ad x.Bs g).isSome->x=x/\qK JM Hz ((some b),B.flip ((Ad x.Bs g).getD 0),()) H (λ(a:Int×UT)_ G=>Q (a.1,0,()) () G) X)));refine⟨λh=>qG h (by simp),λ_=>⟨b,rfl,M.ob,l.ob,λf=>⟨rfl,q (Mn.Mr.2 ?_)⟩,λf=>⟨rfl,?_⟩⟩⟩
 .have c:¬(Ad M.hs g).isSome=true:=f;simp_all
 .have c:¬¬(Ad M.hs g).isSome=true:=f;obtain⟨e,i⟩:=a8.1 (a6.1 c);have o:(Ad M.ob.Bs g).getD 0=e:=by show (Ad M.hs g).getD 0=e;grind
  rw[o];have r:M.Aq g=some (B.den (Ax M.S.po) e):=by grind[Mn.Aq]
  have d:=(j.ok _ _ i).1;exact Oo l j m d.flip λM' H' v p u w t n s=>h _ M' H' r v p u w t (λk=>by rw[n k,B.HM d]) s
theorem TC{f:Int}{Q:Bool×Int×Unit->UU}(p:Jr H b M)(l:MI M)(n:M.Aq f=none∨M.Aq g=none->Q (false,8,()) () H)(h:∀F G,M.Aq f=some F->M.Aq g=some G->∀t:Bool,(t=true↔F=G)->Q (t,0,()) () H):qK CQ CB (some b,f,g,()) H Q X:=by
 refine wF Tryz.f29 {} (?_:((some b)=none->Q (false,5,()) () H)/\(¬(some b)=none->∃(a:Nat),(some b)=some a/\∃(x:Bc),H a=some (Ob.st CP x)/\(¬(Ad x.Bs f).isSome->x=x/\Q (false,8,()) () H)/\(¬¬(Ad x.Bs f).isSome->(¬(Ad x.Bs g).isSome->x=x/\Q (false,8,()) () H)/\(¬¬(Ad x.Bs g).isSome->x=x/\Q (decide ((Ad x.Bs f).getD (0:Int)=(Ad x.Bs g).getD 0),0,()) () H))));refine⟨λh=>qG h (by simp),λ_=>⟨b,rfl,M.ob,p.ob,λj=>⟨rfl,n (.inl (Mn.Mr.2 ?_))⟩,λj=>⟨λi=>⟨rfl,n (.inr (Mn.Mr.2 ?_))⟩,λi=>⟨rfl,?_⟩⟩⟩⟩
 .have a:¬(Ad M.hs f).isSome=true:=j;simp_all
 .have a:¬(Ad M.hs g).isSome=true:=i;simp_all
 .have a:¬¬(Ad M.hs f).isSome=true:=j;have c:¬¬(Ad M.hs g).isSome=true:=i;obtain⟨e,k⟩:=a8.1 (a6.1 a);obtain⟨d,m⟩:=a8.1 (a6.1 c);refine h _ _ (by unfold Mn.Aq;rw[k];rfl) (by unfold Mn.Aq;rw[m];rfl) _ ?_;have o:(Ad M.ob.Bs f).getD 0=e:=by show (Ad M.hs f).getD 0=e;grind
  have q:(Ad M.ob.Bs g).getD 0=d:=by show (Ad M.hs g).getD 0=d;grind
  rw[o,q,decide_eq_true_iff];exact l.si.BS.eq_iff B9.Ko (l.ok _ _ k).1 (l.ok _ _ m).1
end
section
def Mz:List Int->List (Int×Int)->List (Int×Int)×Int
 | [],hs=>(hs,0)
 |g::l,hs=>if (Ad hs g).isSome=true then Mz l (if 1<g then Db hs g else hs) else (hs,8)
theorem Abe{b:Nat}{M:Mn}{l:List Int}{H:HY}{X:PX}{Q:Int×Unit->UU}(hM:Jr H b M)(hI:MI M)(hn:M.nx<576460752303423488)(h:∀M' H',Jr H' b M'->MI M'->MHs M M'->M'.nx=M.nx->M'.hs=(Mz l M.hs).1->J7 b M H H'->Q ((Mz l M.hs).2,()) () H'):qK FC E7 (some b,l,()) H Q X:=by
 refine wF Tryz.f110 {lp:=[(4,⟨[(13,.nat)],[0,11,12],true⟩)]} (?_:Qk (some b) l H Q X);unfold Qk;refine⟨λh=>qG h (by simp),λ_ Z=>⟨λn x H'=>n=l.length-x.1/\x.1<=l.length/\∃M',Jr H' b M'/\MI M'/\MHs M M'/\M'.nx=M.nx/\Mz (l.drop x.1) M'.hs=Mz l M.hs/\J7 b M H H',⟨_,rfl,bq _,M,hM,hI,MHs.refl,rfl,rfl,J7.refl⟩,?_⟩⟩;rintro n ⟨k,_⟩ H' ⟨hnk,hk,M',d,a,F,f,p,K⟩;refine⟨λq _=>?_,λq=>?_⟩
 .have t:k<l.length:=q;refine⟨q,b,rfl,M'.ob,d.ob,?_⟩;have A:l.drop k=l[k]::l.drop (k+1):=List.drop_eq_getElem_cons t;rw[A,Mz]at p;refine⟨λP=>⟨rfl,?_⟩,λP=>?_⟩
  .have y:¬(Ad M'.hs l[k]).isSome=true:=P;grind
  .have y:¬¬(Ad M'.hs l[k]).isSome=true:=P;have G:=a6.1 y;rw[UV G]at p;obtain⟨e,J⟩:=a8.1 G;refine⟨λO=>⟨rfl,?_⟩,λO=>?_⟩
   .have v:1<l[k]:=O;rw[UV v]at p;have hx:(Ad M'.ob.Bs l[k]).getD 0=e:=by show (Ad M'.hs l[k]).getD 0=e;grind
    have S:=(a.ok _ _ J).1;obtain⟨T,d2⟩:=λi=>(RN (i:=i) J).1,(RN (i:=0) J).2;have L:M'.nx<576460752303423488:=by omega
    have V:∀s u,Ca u M'.sb s->SI s->ZC M'.S s (λi=>EU M'.S.po i-B.dl e i)->N0 M'.sb M'.S H' u->
      ∃(c:Bc),u b=some (Ob.st CP c)/\k+1<=9223372036854775807/\∃(m:Nat),m<n/\(m=l.length-(k+1)/\k+1<=l.length/\∃I,Jr (Ab u b (Ob.st CP {c with Bs:=Db c.Bs l[k]})) b I/\MI I/\MHs M I/\I.nx=M.nx/\Mz (l.drop (k+1)) I.hs=Mz l M.hs/\J7 b M H (Ab u b (Ob.st CP {c with Bs:=Db c.Bs l[k]}))):=by
     intro s u C D o w
     obtain⟨q1,q2,q3⟩:=d.Azn C w (Db M'.hs l[k]) M'.nx
     refine⟨M'.ob,q1,by grind,l.length-(k+1),by omega,rfl,by omega,M'.wh s (Db M'.hs l[k]) M'.nx,q2,?_,F.trans ⟨⟨rfl,rfl,o.bl,o.bp,o.tb⟩,o.Ax,o.lv,o.room,o.many,rfl,rfl,rfl⟩,f,p,K.trans q3 F.bs⟩
     have E:∀j,Ad (Db M'.hs l[k]) j=if j=l[k] then none else Ad M'.hs j:=λj=>It a.nd _ _
     refine⟨D,RB a.nd _,λg R N=>?_,?_,?_,a.nx,λi W=>?_,?_⟩
     .have r:Ad (Db M'.hs l[k]) g=some R:=N
      rw[E]at r
      split at r
      .cases r
      .show B.Ok (Ax s.po) R/\_
       rw[o.Ax];exact a.ok g R r
     .show Ad (Db M'.hs l[k]) 0=_
      rw[E,GT (by omega)];exact a.k0
     .show Ad (Db M'.hs l[k]) 1=_
      rw[E,GT (by omega)];exact a.k1
     .show EU s.po i=Lh (Db M'.hs l[k]) i
      rw[o.rf i W,T,a.rf i W]
     .show ((Db M'.hs l[k]).length:Int)<=M'.nx
      have:=a.ln;omega
    rw[hx];refine W3 d.st a.si (a.hb L) (λh=>qG S h) (λ_ U=>?_) (λ_ U Y=>?_) λs u _ _ _ C D o w=>V s u C D o w
    .exact V M'.S H' d.st a.si ⟨rfl,λj hj=>by grind[B.K9],rfl,rfl,rfl,rfl,rfl,rfl,rfl⟩ N0.refl
    .exfalso;rw[a.rf _ U]at Y;have h6:=T (e/2);rw[B.GW,Y]at h6;have:=@Px (e/2) (Db M'.hs l[k]);omega
   .have v:¬1<l[k]:=O;rw[GT v]at p;exact⟨by grind,l.length-(k+1),by omega,rfl,rfl,by grind,M',d,a,F,f,p,K⟩
 grind[Mz,List.drop_eq_nil_of_le]
section
variable {b:Nat} {M:Mn} {H:HY} {X:PX}
variable {Q:Int×Unit->UU}
theorem Aj7(c:Jr H b M)(a:MI M)(d:M.nx<576460752303423488)(h:Q (M.hs.length,()) () H):qK Hn GJ (some b,()) H Q X:=by refine wF Tryz.f14 {} (?_:((some b)=none->Q (0,()) () H)/\(¬(some b)=none->∃(a:Nat),(some b)=some a/\∃(x:Bc),H a=some (Ob.st CP x)/\x.Bs.length<=2^63-1/\x=x/\Q ((↑x.Bs.length:Int),()) () H));refine⟨λh=>qG h (by simp),λ_=>⟨b,rfl,M.ob,c.ob,?_⟩⟩;have:=a.ln;exact⟨by show M.hs.length<=_;omega,rfl,h⟩
theorem RF{yes:Bool}(h:Q ((if yes=true then 1 else 0),()) () H):qK Lr IG (some b,yes,()) H Q X:=by grind[Apg,Aj8]
theorem L7(a:Jr H b M)(c:MI M)(h:Q (M.S.n,()) () H):qK E9 DM (some b,()) H Q X:=by
 refine wF Tryz.f50 {} (?_:((some b)=none->Q (0,()) () H)/\(¬(some b)=none->∃(a:Nat),(some b)=some a/\∃(x:Bc),H a=some (Ob.st CP x)/\x=x/\qK Ii Fl (x.store,()) H (λ(a:Int×UT)_ G=>Q (a.1,()) () G) X));refine⟨λh=>qG h (by simp),λ_=>⟨b,rfl,M.ob,a.ob,rfl,W0 a.st ?_⟩⟩;have e:(M.S.lv.vars.length:Int)=M.S.n:=by rw[c.si.vl];rfl
 grind
end
end
section
structure MD(H:HY)(c b:Nat)(M:Mn):Prop where
 cx:H c=some (Ob.st (Y:=Y0) Ea (⟨some b⟩:Dw))
 NB:Jr H b M
def Aqv(e:Int):Lf Y0.D:={t:=Ty.u 15,x:=({err:=e,event:=false,ev:={Eg:=(0:Int),Kind:=(0:Int),Level:=(0:Int):BA}}:EK)}
theorem Jr.BD{H H':HY}{b c m:Nat}{M:Mn}{x:Y0.O m}(h:Jr H b M)(a:H c=some (.st m x))(g:m≠CP)(o:m≠BX)(n:m≠A8)(l:m≠CG)(i:m≠CL)(k:m≠BK)(f:J7 b M H H'):H' c=some (.st m x):=by
 rw[f c (Bg a h.ob g) (Bg a h.me o) (Bg a h.st.st n) (Bg a h.st.lv l) (Bg a h.st.po i) (λd=>?_)]
 .exact a
 .obtain⟨v,j,e⟩:=bc.1 d;exact Bg a (h.st.ta v j) k e.symm
variable {M':Mn}
theorem A04{M:Mn}(h:MI M)(e:I4 M.S M'.S)(g x:Int)(a:Ad M.hs g=some x):B.den (Ax M'.S.po) x=B.den (Ax M.S.po) x:=e.den h.si (h.ok _ _ a).1
theorem At5{F G:Int->B.Fn}{o:Option Int}(a:∀x,o=some x->F x=G x):o.map F=o.map G:=by
 cases o with
 |none=>rfl
 |some x=>grind
theorem A03{M:Mn}(hs:M'.hs=M.hs)(g:Int)(a:∀x,Ad M.hs g=some x->B.den (Ax M'.S.po) x=B.den (Ax M.S.po) x):M'.Aq g=M.Aq g:=by grind[At5,Mn.Aq]
theorem MI.A05{M:Mn}(h:MI M)(hs:M'.hs=M.hs)(a:M'.nx=M.nx)(c:SI M'.S)(e:I4 M.S M'.S):MI M':=by
 constructor
 .exact c
 .rw[hs];exact h.nd
 .intro g x b;rw[hs]at b;have:=h.ok g x b;exact⟨this.1.ext e.Ax,this.2.1,by omega⟩
 .rw[hs];exact h.k0
 .rw[hs];exact h.k1
 .rw[a];exact h.nx
 .intro i d;rw[hs,<-h.rf i d];exact e.rf i
 .rw[hs,a];exact h.ln
theorem MI.ext{M:Mn}(h:MI M)(hs:M'.hs=M.hs)(a:M'.nx=M.nx)(b:SI M'.S)(e:I4 M.S M'.S):MI M'/\∀g,M'.Aq g=M.Aq g:=⟨h.A05 hs a b e,λg=>A03 hs g (A04 h e g)⟩
section
variable {c b:Nat} {M:Mn} {H:HY} {X:PX} {f v:Int}
variable {Q:Int×Unit->UU}
theorem G5(a:MD H c b M)(h:Q (Df M.S.lv v,()) () H):qK CY CC (some c,v,()) H Q X:=by refine VQ _ _ _ _ _ ?_;exact⟨c,rfl,⟨some b⟩,a.cx,b,rfl,rfl,M.ob,a.NB.ob,rfl,Gd a.NB.st h⟩
theorem Aem{g:Int}(f:MD H c b M)(k:Ad M.hs g=none->X 231 (Aqv 8) H)(h:∀e,Ad M.hs g=some e->Q (e,()) () H):qK CD Cs (some c,g,()) H Q X:=by
 refine WO _ _ _ _ _ ?_;refine⟨c,rfl,⟨some b⟩,f.cx,b,rfl,rfl,M.ob,f.NB.ob,λd=>⟨rfl,k ?_⟩,λd=>⟨rfl,?_⟩⟩
 .have a:¬(Ad M.hs g).isSome=true:=d;simp_all
 .have a:¬¬(Ad M.hs g).isSome=true:=d;obtain⟨e,i⟩:=a8.1 (a6.1 a);have j:(Ad M.ob.Bs g).getD 0=e:=by show (Ad M.hs g).getD 0=e;grind
  grind
theorem O9{Q:Int×Int×Unit->UU}(a:MD H c b M)(l:SI M.S)(k:B.Ok (Ax M.S.po) f)(h:Q ((B.sp (Ax M.S.po) v f).1,(B.sp (Ax M.S.po) v f).2,()) () H):qK Cq BY (some c,f,v,()) H Q X:=by refine VO _ _ _ _ _ _ ?_;have j:=l.sc.po;refine⟨c,rfl,⟨some b⟩,a.cx,b,rfl,rfl,M.ob,a.NB.ob,rfl,L4 a.NB.st j k (λg=>⟨λ_=>?_,λh=>qG (by simp) h⟩) λd g i=>⟨λh=>qG rfl h,λ_=>⟨λe=>?_,λe=>?_⟩⟩⟩;all_goals grind[B.sp,Ax,Ath,B.fl]
def Apa(S:B9)(l:List Int)(k:Nat)(v w:Int):Prop:=(v=-1/\∀j(_:j<l.length),j<k->l[j]/2=0)∨(0<=v/\v<S.n/\w=Df S.lv v/\(∀j(_:j<l.length),j<k->Df S.lv v<=B.el S.n (Df S.lv) (Ax S.po) l[j])/\∃j,∃(_:j<l.length),j<k/\B.el S.n (Df S.lv) (Ax S.po) l[j]=Df S.lv v)
theorem Ajm{l:List Int}(G:MD H c b M)(R:SI M.S)(Z:∀f∈l,B.Ok (Ax M.S.po) f)(h:∀v w,Apa M.S l l.length v w->Q (v,()) () H):qK IW GK (some c,l,()) H Q X:=by
 refine Zx _ _ _ _ _ λW=>?_;refine⟨λn x T=>T=H/\n=l.length-x.2.2.1/\x.2.2.1<=l.length/\Apa M.S l x.2.2.1 x.1 x.2.1,⟨_,rfl,rfl,bq _,.inl ⟨rfl,λj _ r=>qG r (Nat.not_lt_zero j)⟩⟩,?_⟩;rintro n ⟨v,w,k,_⟩ T ⟨rfl,K,S,N⟩;have hn:n=l.length-k:=K;have hk:k<=l.length:=S;have L:Apa M.S l k v w:=N;refine⟨λs _=>?_,λs=>?_⟩
 .have a:k<l.length:=s;have Y:B.Ok (Ax M.S.po) l[k]:=Z _ (bo a);refine⟨s,c,rfl,⟨some b⟩,G.cx,b,rfl,rfl,M.ob,G.NB.ob,rfl,?_⟩;have t:∀V U,Apa M.S l (k+1) V U->k+1<=9223372036854775807/\∃m,m<n/\(T=T/\m=l.length-(k+1)/\k+1<=l.length/\Apa M.S l (k+1) V U):=λV U i=>⟨by grind,l.length-(k+1),by omega,rfl,rfl,by omega,i⟩
  refine L4 G.NB.st R.sc.po Y (λz=>⟨λh=>(by cases h),λ_=>t v w ?_⟩) λd z E=>⟨λ_=>⟨λg=>G5 G (t _ _ ?_),λg=>G5 G ⟨λA=>G5 G (t _ _ ?_),λA=>t v w ?_⟩⟩,λh=>qG rfl h⟩
  .rcases L with ⟨e,i⟩|⟨I,F,P,i,J,o,C,p⟩
   .refine .inl ⟨e,λj r y=>?_⟩;grind
   .refine .inr ⟨I,F,P,λj r y=>?_,J,o,by omega,p⟩;by_cases u:j=k
    .subst u;rw[B.Cr z];have:=(R.BS.od.Mp v I F).2;omega
    grind
  .have q:v<0:=g;rcases L with ⟨e,i⟩|⟨I,F,P,i,J,o,C,p⟩
   .have D:=R.BS.var E;refine .inr ⟨D.2.1,D.2.2,rfl,λj r y=>?_,k,a,by omega,B.Bj z E⟩;by_cases u:j=k
    .simp_all[B.Bj]
    .rw[B.Cr (i j r (by omega))];have:=(R.BS.od.Mp d.v D.2.1 D.2.2).2;grind
   .omega
  .have q:¬v<0:=g;have O:Df M.S.lv d.v<w:=A;rcases L with ⟨e,i⟩|⟨I,F,P,i,J,o,C,p⟩
   .omega
   .have D:=R.BS.var E;refine .inr ⟨D.2.1,D.2.2,rfl,λj r y=>?_,k,a,by omega,B.Bj z E⟩;by_cases u:j=k
    .simp_all[B.Bj]
    grind
  .have q:¬v<0:=g;have O:¬Df M.S.lv d.v<w:=A;rcases L with ⟨e,i⟩|⟨I,F,P,i,J,o,C,p⟩
   .omega
   .refine .inr ⟨I,F,P,λj r y=>?_,J,o,by omega,p⟩;grind[B.Bj]
 grind
end
def Mn.wk(M:Mn)(S:B9):Mn:={M with S:=S,ca:=Go.IntKind.wrap .i64 (M.ca+1)}
def Mn.we(M:Mn)(ws:List BA):Mn:={M with ws:=ws,ca:=0}
def pEv(ev:BA):Lf Y0.D:={t:=Ty.u 15,x:=({err:=(0:Int),event:=true,ev:=ev}:EK)}
theorem MD.set{H:HY}{c b:Nat}{M M':Mn}(a:MD H c b M)(e:Dx M M')(g:M'.S=M.S)(f:M'.me=M.me):MD (Ab H b (.st CP M'.ob)) c b M'/\J7 b M H (Ab H b (.st CP M'.ob)):=by
 have d:J7 b M H (Ab H b (.st CP M'.ob)):=J7.set;refine⟨⟨a.NB.BD a.cx (by decide) (by decide) (by decide) (by decide) (by decide) (by decide) d,Ai _ _ _,?_,?_⟩,d⟩
 .rw[e.sb,g];exact a.NB.st.other a.NB.ob (by decide) (by decide) (by decide) (by decide)
 .rw[e.mb,f,Ag _ _ (Bg a.NB.me a.NB.ob (by decide))];exact a.NB.me
theorem Aoh{c b:Nat}{M:Mn}{v lo hi:Int}{H:HY}{X:PX}{Q:Int×Unit->UU}(q:MD H c b M)(I:SI M.S)(E:0<=v/\v<M.S.n)(r:B.Ok (Ax M.S.po) lo)(u:B.Ok (Ax M.S.po) hi)(z:Df M.S.lv v<B.el M.S.n (Df M.S.lv) (Ax M.S.po) lo)(w:Df M.S.lv v<B.el M.S.n (Df M.S.lv) (Ax M.S.po) hi)(s:∀ev ws H',M.ws=ev::ws->MD H' c b (M.we ws)->J7 b M H H'->X 231 (pEv ev) H')(N:∀H',M.S.po.many=M.S.po.room->MD H' c b (M.wk M.S)->J7 b M H H'->X 231 (Aqv 7) H')(h:∀e S' H',MD H' c b (M.wk S')->SI S'->I4 M.S S'->J7 b M H H'->B.Ok (Ax S'.po) e->B.den (Ax S'.po) e=(λa=>if a v=true then B.den (Ax M.S.po) hi a else B.den (Ax M.S.po) lo a)->Df M.S.lv v<=B.el M.S.n (Df M.S.lv) (Ax S'.po) e->
   (∀i d,Ax S'.po i=some d->Ax M.S.po i=some d∨(i=e/2/\d.v=v))->Q (e,()) () H') :
  qK E2 DN (some c,v,lo,hi,()) H Q X:=by
 refine Ab6 _ _ _ _ _ _ _ ?_
 unfold TL
 have j:qK GU ES (some M.sb,v,lo,hi,()) (Ab H b (.st CP (M.wk M.S).ob)) (λ(b:Int×Int×Unit)_ H'=>(¬b.2.1=(0:Int)->X 231 (Aqv b.2.1) H')/\(¬¬b.2.1=(0:Int)->Q (b.1,()) () H')) X:=by
  obtain⟨f,p⟩:=q.set (M':=M.wk M.S) ⟨rfl,rfl,rfl,rfl,rfl⟩ rfl rfl;refine ZV (S:=M.S) f.NB.st I (λh=>qG E h) (λh=>qG ⟨r,u⟩ h) (λ_ _ _ _ h=>qG ⟨z,w⟩ h) (λD=>⟨λ_=>N _ D f p,λh=>qG (by simp) h⟩) λe S' H' _ _ _ _ _ _ O x A t J L y o=>⟨λh=>qG rfl h,λ_=>?_⟩
  have n:J7 b (M.wk M.S) (Ab H b (.st CP (M.wk M.S).ob)) H':=N0.frm (M:=M.wk M.S) t;refine h e S' H' ⟨f.NB.BD f.cx (by decide) (by decide) (by decide) (by decide) (by decide) (by decide) n,?_,O,?_⟩ x A (p.trans n ⟨rfl,rfl,rfl,rfl,rfl⟩) J L y o
  .exact f.NB.st.BD f.NB.ob (by decide) (by decide) (by decide) (by decide) t
  .exact f.NB.st.BD f.NB.me (by decide) (by decide) (by decide) (by decide) t
 refine⟨c,rfl,⟨some b⟩,q.cx,b,rfl,rfl,M.ob,q.NB.ob,λ_=>⟨λk=>?_,λ_=>j⟩⟩
 have m:0<M.ws.length:=k
 refine⟨λ_=>by decide,k,k,λ_=>⟨λ_=>by decide,k,k,by decide,by omega,?_⟩,λ_=>j⟩
 cases g:M.ws with
 |nil=>grind
 |cons ev ws=>
  obtain⟨f,p⟩:=q.set (M':=M.we ws) ⟨rfl,rfl,rfl,rfl,rfl⟩ rfl rfl;have C:=s ev ws _ g f p;have G:M.ob.waits[(0:Int).toNat]'k=ev:=by
   have:∀(l:List BA)(K:(0:Int).toNat<l.length),l=ev::ws->l[(0:Int).toNat]=ev:=λl K e=>by grind
   exact this _ _ g
  have F:bx (aa 1) M.ob.waits=ws:=by show bx 1 M.ws=ws;grind
  rw[G,F];exact C
end
end Go.Proofs.YtcbkbpjlbmalmaaGreatDoor
