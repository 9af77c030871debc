/-
  What an operation sees: Level, Edge, Split, Top, Mk. (Merged by program out of 20 texts.)
-/
import Derived.Test.YtcbkbpjlbmalmaaGreatDoorEac
import Derived.Deep.Slices
import Derived.Below
import Derived.ChangeOld
import Derived.ProofKit
import Derived.OpenShut
import Derived.ShutString
import Derived.FnData
import Derived.Shelf.SlSortCmp.WholeK
open Decidable renaming decide->ω
open Classical renaming not_not->a2,epsilon_spec->ax,epsilon->bh
open List renaming replicate->a6,getElem?_set_ne->a7,nodup_cons->aa,getElem?_append_left->ab,getElem?_eq_getElem->ac,getElem?_eq_none->ad,length_set->ae,pairwise_map->af,getElem?_eq_some_iff->ah,mem_append->ai,mem_map->ak,length_cons->am,mem_append_left->ao,getD_eq_getElem?_getD->aq,getElem?_append_right->au,Nodup->av,range->aw,length_map->ay,length_replicate->az,mem_range->ba,replicate_succ'->bb,mem_iff_getElem->bc,getElem?_range->be,length_append->bg,getElem?_map->bi,nodup_append->bj,append_assoc->bk,getElem_mem->bm,mem_filter->bo,mem_cons->br,drop->bt,length->bw,length->δ
open Option renaming isSome_iff_exists->a8,some->ν,none->τ
open Int renaming toNat->ag,le_refl->aj,le_trans->bv
open Bool renaming false_xor->ap,true->φ,false->ψ
open Nat renaming mod_two_eq_zero_or_one->ar,testBit_div_two->bf,zero_le->bn,testBit_xor->bq,pow_succ->bu
open Eq renaming mp->b0
namespace Go.B
section
def fl(e s:Int):Int:=if s%2=1 then flip e else e
variable {e s:Int}
theorem Aha:fl e s/2=e/2:=by grind[fl,Mq]
theorem Aw3:fl (fl e s) s=e:=by grind[fl,flip_flip]
theorem UJ{f:Int}(h:fl e s=fl f s):e=f:=by rw[<-Aw3 (e:=e) (s:=s),h,Aw3]
theorem Vu:fl e e%2=0:=by grind[fl,TI]
theorem Aqp:fl e s%2=(e+s)%2:=by grind[fl,TI]
theorem TK{t:Int}(h:s%2=t%2):fl e s=fl e t:=by unfold fl;rw[h]
section
variable {n:Int} {lv:Int->Int} {N:Tb}
variable {e s:Int}
theorem Ok.fl(h:Ok N e):Ok N (fl e s):=by unfold B.fl;split;exact h.flip;exact h
theorem MA:el n lv N (fl e s)=el n lv N e:=by unfold el;rw[Aha]
theorem Kn(h:Ok N e)(a:As):den N (fl e s) a=(ω (s%2=1) ^^ den N e a):=by grind[fl,IA]
def sp(N:Tb)(y f:Int):Int×Int:=match N (f/2) with
 |some d=>if d.v=y then (fl d.lo f,fl d.hi f) else (f,f)
 |none=>(f,f)
theorem Good.zero(g:Good n lv N):N 0=τ:=by
 cases h:N 0 with
 |none=>rfl
 |some d=>have:=(g.var h).1;omega
variable {y f:Int}
theorem Good.Jo(g:Good n lv N)(q:0<=n)(i:0<=y/\y<n)(k:Ok N f)(s:lv y<=el n lv N f):Ok N (sp N y f).1/\Ok N (sp N y f).2/\lv y<el n lv N (sp N y f).1/\lv y<el n lv N (sp N y f).2/\(∀a,den N f a=if a y=φ then den N (sp N y f).2 a else den N (sp N y f).1 a)/\(f%2=0->(sp N y f).2%2=0):=by
 have b:lv y<el n lv N f->Ok N f/\Ok N f/\lv y<el n lv N f/\lv y<el n lv N f/\(∀a:As,den N f a=if a y=φ then den N f a else den N f a)/\(f%2=0->f%2=0):=λh=>⟨k,k,h,h,λa=>by split<;>rfl,id⟩
 unfold sp;cases c:N (f/2) with
 |none=>
  refine b ?_;have j:f/2=0:=by
   rcases k.2 with h|⟨d,h⟩
   all_goals grind
  rw[Cs j];exact(g.od.N7 y i.1 i.2).2
 |some d=>
  have j:f/2≠0:=λe=>by rw[e,g.zero]at c;cases c
  have l:=g.var c;simp only;split
  .rename_i e;subst e;obtain⟨m,p⟩:=g.lo c;obtain⟨o,r⟩:=g.hi c;refine⟨m.fl,o.fl,by grind[MA],by grind[MA],λa=>?_,λh=>?_⟩
   .rw[g.JC q j c,Kn o,Kn m];split<;>rfl
   .simp only;rw[Aqp,<-Int.emod_add_emod];have:=g.reg c;omega
  .rename_i e;refine b ?_;rw[Bn j c]at s ⊢;have:lv y≠lv d.v:=λh=>e (g.od.inj _ _ l.2.1 l.2.2 i.1 i.2 h.symm);omega
def NS(N:Tb)(y f:Int):Prop:=∃d,N (f/2)=ν d/\d.v=y
theorem Aky(h:¬NS N y f):sp N y f=(f,f):=by
 unfold sp;split
 .rename_i d a;rw[GT λe=>h ⟨d,a,e⟩]
 .rfl
theorem Good.Zf(g:Good n lv N):NS N y f↔(sp N y f).1≠(sp N y f).2:=by
 constructor
 .rintro⟨d,b,c⟩;unfold sp;simp only[b,c,if_true];exact λe=>g.ne b (UJ e)
 grind[NS,Aky]
def S6(M:Tb)(x a b e:Int):Prop:=(a=b/\e=a)∨(a≠b/\0<=e/\e/2≠0/\e%2=b%2/\M (e/2)=ν ⟨x,fl a b,fl b b⟩)
def sw(lv:Int->Int)(x y:Int):Int->Int:=λv=>if v=x then lv y else if v=y then lv x else lv v
structure Swp(n:Int)(lv:Int->Int)(N:Tb)(x y:Int)(M:Tb):Prop where
 stay:∀{i d},N i=ν d->¬(d.v=x/\(NS N y d.lo∨NS N y d.hi))->M i=ν d
 Uv:∀{i d},N i=ν d->d.v=x->(NS N y d.lo∨NS N y d.hi)->∃lo hi,M i=ν ⟨y,lo,hi⟩/\S6 M x (sp N y d.lo).1 (sp N y d.hi).1 lo/\S6 M x (sp N y d.lo).2 (sp N y d.hi).2 hi
 new:∀{i d},N i=τ->M i=ν d->0<i/\d.v=x/\Ok N d.lo/\Ok N d.hi/\lv y<el n lv N d.lo/\lv y<el n lv N d.hi/\d.lo≠d.hi/\d.hi%2=0
 YZ:∀{i j d},d.v=x->M i=ν d->M j=ν d->i=j
variable {x:Int}
theorem Yt:sw lv x y x=lv y:=UV rfl
theorem Aab(h:x≠y):sw lv x y y=lv x:=by unfold sw;rw[GT (Ne.symm h),UV rfl]
theorem Aac{v:Int}(h:v≠x)(k:v≠y):sw lv x y v=lv v:=by unfold sw;rw[GT h,GT k]
theorem Od.swap(o:Od n lv)(i:0<=x/\x<n)(d:0<=y/\y<n)(c:x≠y):Od n (sw lv x y):=by
 have t:=o.N7 x i.1 i.2;have s:=o.N7 y d.1 d.2;have m:∀{v},0<=v->v<n->lv v=lv x->v=x:=λa b e=>o.inj _ _ a b i.1 i.2 e;have p:∀{v},0<=v->v<n->lv v=lv y->v=y:=λa b e=>o.inj _ _ a b d.1 d.2 e;have r:∀v,v=x∨v=y∨(v≠x/\v≠y):=λv=>by omega
 refine⟨o.n64,λv a b=>?_,λv w a b q l h=>?_⟩
 .have:=o.N7 v a b;grind[sw]
 .rcases r v with rfl|rfl|⟨k,j⟩<;>rcases r w with rfl|rfl|⟨g,f⟩
  .rfl
  .grind[Yt,Aab]
  .grind[Yt,Aac]
  .grind[Yt,Aab]
  .rfl
  .grind[Aab,Aac]
  .grind[Yt,Aac]
  .grind[Aab,Aac]
  .rw[Aac k j,Aac g f]at h;exact o.inj _ _ a b q l h
theorem S6.inj{M:Tb}{a b a' b':Int}(h:S6 M x a b e)(h':S6 M x a' b' e)(ha:∀d,M (a/2)=ν d->d.v≠x)(ha':∀d,M (a' / 2)=ν d->d.v≠x):a=a'/\b=b':=by
 rcases h with ⟨h1,h2⟩|⟨h1,h2,h3,h4,h5⟩<;>rcases h' with ⟨k1,k2⟩|⟨k1,k2,k3,k4,k5⟩
 .omega
 .grind
 .grind
 .rw[h5]at k5;have e0:=Option.some.inj k5;have e1:fl a b=fl a' b':=congrArg Nd.lo e0;have e2:fl b b=fl b' b':=congrArg Nd.hi e0;rw[TK (s:=b) (t:=e) h4.symm]at e1;rw[TK (s:=b') (t:=e) k4.symm]at e1;rw[TK (e:=b) (s:=b) (t:=e) h4.symm,TK (e:=b') (s:=b') (t:=e) k4.symm]at e2;grind[UJ]
theorem Good.swap(g:Good n lv N)(C:0<=n)(hx:0<=x/\x<n)(E:0<=y/\y<n)(hxy:lv y=lv x+1){M:Tb}(s:Swp n lv N x y M):Good n (sw lv x y) M/\(∀e,Ok N e->Ok M e)/\∀e,Ok N e->den M e=den N e:=by
 have U:x≠y:=λe=>by grind
 have ho:=g.od.swap hx E U;have lev:∀{v},0<=v->v<n->v≠x->v≠y->lv v<lv x∨lv y<lv v:=λ{v}w D a b=>by have V:lv v≠lv x:=λe=>a (g.od.inj _ _ w D hx.1 hx.2 e);have h6:lv v≠lv y:=λe=>b (g.od.inj _ _ w D E.1 E.2 e);omega
 have W:∀{i d},N i=ν d->∃t,M i=ν t/\((t=d/\¬(d.v=x/\(NS N y d.lo∨NS N y d.hi)))∨(d.v=x/\t.v=y)):=λ{i d}f=>by
  by_cases o:d.v=x/\(NS N y d.lo∨NS N y d.hi)
  .obtain⟨lo,hi,u,_⟩:=s.Uv f o.1 o.2;grind
  .exact⟨d,s.stay f o,.inl ⟨rfl,o⟩⟩
 have ok:∀e,Ok N e->Ok M e:=λe h=>⟨h.1,h.2.imp id λ⟨d,f⟩=>by grind⟩
 have O:∀{e},Ok N e->lv y<el n lv N e->el n (sw lv x y) M e=el n lv N e:=λ{e}L K=>by
  by_cases z:e/2=0
  .rw[Cs z,Cs z]
  .obtain⟨d,f⟩:=L.2.resolve_left z;obtain⟨t,u,m⟩:=W f;rw[Bn z f]at K ⊢;rw[Bn z u];rcases m with ⟨rfl,_⟩|⟨m,_⟩
   all_goals grind[Aac]
 have A:∀{e d},Ok N e->lv y<el n lv N e->M (e/2)=ν d->d.v≠x:=λ{e d}L K f=>by
  by_cases z:e/2=0
  .rw[z]at f;cases hz:N 0 with
   |some d0=>have:=(g.var hz).1;omega
   |none=>exact qG (s.new hz f).1 (by omega)
  .obtain⟨d0,hd0⟩:=L.2.resolve_left z;rw[Bn z hd0]at K;grind
 have kid:∀{e v},Ok N e->0<=v->v<n->v≠x->lv v<el n lv N e->(v=y->lv y<el n lv N e)->sw lv x y v<el n (sw lv x y) M e:=λ{e v}L z hvn hvx K hyy=>by
  by_cases r:v=y
  .subst r;rw[Aab U,O L (hyy rfl)];omega
  .rw[Aac hvx r];rcases lev z hvn hvx r with u|u
   .by_cases m:e/2=0
    .grind[Cs]
    .obtain⟨d,f⟩:=L.2.resolve_left m;obtain⟨t,w,D⟩:=W f;rw[Bn m w];rw[Bn m f]at K;rcases D with ⟨rfl,_⟩|⟨D,V⟩
     all_goals grind[sw,Aab]
   grind
 have kidx:∀{e},Ok N e->¬NS N y e->lv x<el n lv N e->lv y<el n lv N e:=λ{e}L r K=>by
  by_cases m:e/2=0
  .rw[Cs m];exact(g.od.N7 y E.1 E.2).2
  .obtain⟨d,f⟩:=L.2.resolve_left m;rw[Bn m f]at K ⊢;have J:=g.var f;by_cases e1:lv d.v=lv y
   .exact(r ⟨d,f,g.od.inj _ _ J.2.1 J.2.2 E.1 E.2 e1⟩).elim
   .omega
 have l:∀{i d},N i=ν d->d.v=x->∀k,k=d.lo∨k=d.hi->Ok N k/\lv y<=el n lv N k:=λ{i d}f r k hk=>by obtain⟨B,G⟩:=g.lo f;obtain⟨I,P⟩:=g.hi f;grind
 have bel:∀{a b e},Ok N a->Ok N b->lv y<el n lv N a->lv y<el n lv N b->S6 M x a b e->Ok M e/\lv x<el n (sw lv x y) M e:=λ{a b e}ha hb la lb h=>by
  rcases h with ⟨u,rfl⟩|⟨u,m,w,D,V⟩
  .grind
  .exact⟨⟨m,.inr ⟨_,V⟩⟩,by rw[Bn w V,Yt];omega⟩
 have Q:Good n (sw lv x y) M:=by
  have F:∀{i t},M i=ν t->(∃d,N i=ν d/\((t=d/\¬(d.v=x/\(NS N y d.lo∨NS N y d.hi)))∨(d.v=x/\(NS N y d.lo∨NS N y d.hi)/\t.v=y/\S6 M x (sp N y d.lo).1 (sp N y d.hi).1 t.lo/\S6 M x (sp N y d.lo).2 (sp N y d.hi).2 t.hi))) ∨
    (0<i/\t.v=x/\Ok N t.lo/\Ok N t.hi/\lv y<el n lv N t.lo/\lv y<el n lv N t.hi/\t.lo≠t.hi/\t.hi%2=0):=λ{i t}h=>by
   cases f:N i with
   |none=>exact .inr (s.new f h)
   |some d=>
    refine .inl ⟨d,rfl,?_⟩;by_cases o:d.v=x/\(NS N y d.lo∨NS N y d.hi)
    .obtain⟨lo,hi,u,m,w⟩:=s.Uv f o.1 o.2;rw[h]at u;cases u;exact .inr ⟨o.1,o.2,rfl,m,w⟩
    .have:=s.stay f o;rw[h]at this;cases this;exact .inl ⟨rfl,o⟩
  refine⟨ho,λh=>?_,λ{i t}h=>?_,λ{i t}h=>?_,λ{i t}h=>?_,λ{i t}h=>?_,λ{i j t}h k=>?_⟩
  .rcases F h with ⟨d,f,(⟨rfl,_⟩|⟨_,_,m,_⟩)⟩|⟨z,u,_⟩
   .exact g.var f
   .rw[m];exact⟨(g.var f).1,E.1,E.2⟩
   .rw[u];exact⟨z,hx.1,hx.2⟩
  .rcases F h with ⟨d,f,(⟨rfl,o⟩|⟨r,o,m,w,D⟩)⟩|⟨z,u,m,w,D,V,_⟩
   .obtain⟨B,G⟩:=g.lo f;have J:=g.var f;refine⟨ok _ B,?_⟩;by_cases r:t.v=x
    .have:=kidx B (λe=>o ⟨r,.inl e⟩) (by rw[<-r];exact G);rw[r,Yt,O B this];exact this
    .exact kid B J.2.1 J.2.2 r G λe=>by rw[<-e];exact G
   .obtain⟨B,G⟩:=l f r _ (.inl rfl);obtain⟨I,P⟩:=l f r _ (.inr rfl);obtain⟨a1,Y,X,Z,_⟩:=g.Jo C E B G;obtain⟨b1,b2,b3,b4,_⟩:=g.Jo C E I P;rw[m,Aab U];exact bel a1 b1 X b3 w
   .rw[u,Yt,O m D];exact⟨ok _ m,D⟩
  .rcases F h with ⟨d,f,(⟨rfl,o⟩|⟨r,o,m,w,D⟩)⟩|⟨z,u,m,w,D,V,_⟩
   .obtain⟨B,G⟩:=g.hi f;have J:=g.var f;refine⟨ok _ B,?_⟩;by_cases r:t.v=x
    .have:=kidx B (λe=>o ⟨r,.inr e⟩) (by rw[<-r];exact G);rw[r,Yt,O B this];exact this
    .exact kid B J.2.1 J.2.2 r G λe=>by rw[<-e];exact G
   .obtain⟨B,G⟩:=l f r _ (.inl rfl);obtain⟨I,P⟩:=l f r _ (.inr rfl);obtain⟨a1,Y,X,Z,_⟩:=g.Jo C E B G;obtain⟨b1,b2,b3,b4,_⟩:=g.Jo C E I P;rw[m,Aab U];exact bel Y b2 Z b4 D
   .rw[u,Yt,O w V];exact⟨ok _ w,V⟩
  .rcases F h with ⟨d,f,(⟨rfl,o⟩|⟨r,o,m,w,D⟩)⟩|⟨z,u,m,w,D,V,h6,_⟩
   .exact g.ne f
   .obtain⟨B,G⟩:=l f r _ (.inl rfl);obtain⟨I,P⟩:=l f r _ (.inr rfl);obtain⟨a1,Y,X,Z,_⟩:=g.Jo C E B G;obtain⟨b1,b2,b3,b4,_⟩:=g.Jo C E I P;intro e;rw[<-e]at D;obtain⟨e1,e2⟩:=w.inj D (λ_=>A a1 X) (λ_=>A Y Z);rcases o with o|o
    .exact g.Zf.1 o e1
    .exact g.Zf.1 o e2
   .exact h6
  .rcases F h with ⟨d,f,(⟨rfl,o⟩|⟨r,o,m,w,D⟩)⟩|⟨z,u,m,w,D,V,h6,h7⟩
   .exact g.reg f
   .obtain⟨I,P⟩:=l f r _ (.inr rfl);obtain⟨b1,b2,b3,b4,_,b6⟩:=g.Jo C E I P;have:=b6 (g.reg f);rcases D with ⟨T,k2⟩|⟨_,_,_,k4,_⟩
    .rw[k2,T];exact this
    .rw[k4];exact this
   .exact h7
  .by_cases R:t.v=x
   .exact s.YZ R h k
   .have tt:∀{i:Int}{S d2:Nd},N i=ν S->S.v=x->(NS N y S.lo∨NS N y S.hi)->S6 M x (sp N y S.lo).1 (sp N y S.hi).1 d2.lo->S6 M x (sp N y S.lo).2 (sp N y S.hi).2 d2.hi->Ok N d2.lo->lv y<el n lv N d2.lo->Ok N d2.hi->lv y<el n lv N d2.hi->False:=λ{i S d2}f r o w D ol ll oh lh=>by
     obtain⟨B,G⟩:=l f r _ (.inl rfl);obtain⟨I,P⟩:=l f r _ (.inr rfl);obtain⟨a1,Y,X,Z,a5,_⟩:=g.Jo C E B G;obtain⟨b1,b2,b3,b4,b5,_⟩:=g.Jo C E I P;have e1:(sp N y S.lo).1=(sp N y S.hi).1:=by
      rcases w with ⟨T,_⟩|⟨_,_,_,_,k5⟩
      .exact T
      .exact(A ol ll k5 rfl).elim
     have e2:(sp N y S.lo).2=(sp N y S.hi).2:=by
      rcases D with ⟨T,_⟩|⟨_,_,_,_,k5⟩
      .exact T
      .exact(A oh lh k5 rfl).elim
     exact g.ne f (g.eq C B I (by funext a;rw[a5,b5,e1,e2]))
    rcases F h with ⟨d,f,(⟨rfl,o⟩|⟨r,o,m,w,D⟩)⟩|⟨z,u,_⟩<;>rcases F k with ⟨c,H,(⟨rfl,kc⟩|⟨kv,kc,k2,k3,k4⟩)⟩|⟨k0,T,_⟩
    .exact g.YZ f H
    .refine(tt H kv kc k3 k4 (g.lo f).1 ?_ (g.hi f).1 ?_).elim
     .rw[<-k2];exact(g.lo f).2
     .rw[<-k2];exact(g.hi f).2
    .exact(R T).elim
    .refine(tt f r o w D (g.lo H).1 ?_ (g.hi H).1 ?_).elim
     .rw[<-m];exact(g.lo H).2
     .rw[<-m];exact(g.hi H).2
    .obtain⟨B,G⟩:=l f r _ (.inl rfl);obtain⟨I,P⟩:=l f r _ (.inr rfl);obtain⟨a1,Y,X,Z,a5,_⟩:=g.Jo C E B G;obtain⟨b1,b2,b3,b4,b5,_⟩:=g.Jo C E I P;obtain⟨m1,m2⟩:=l H kv _ (.inl rfl);obtain⟨w1,w2⟩:=l H kv _ (.inr rfl);obtain⟨c1,c2,c3,c4,c5,_⟩:=g.Jo C E m1 m2;obtain⟨e1,e2,e3,e4,e5,_⟩:=g.Jo C E w1 w2;obtain⟨q1,q2⟩:=w.inj k3 (λ_=>A a1 X) (λ_=>A c1 c3);obtain⟨q3,q4⟩:=D.inj k4 (λ_=>A Y Z) (λ_=>A c2 c4);have f1:d.lo=c.lo:=g.eq C B m1 (by funext a;rw[a5,c5,q1,q3]);have f2:d.hi=c.hi:=g.eq C I w1 (by funext a;rw[b5,e5,q2,q4]);have:d=c:=by cases d;cases c;simp_all
     subst this;exact g.YZ f H
    .exact(R T).elim
    .exact(R u).elim
    .exact(R u).elim
    .exact(R u).elim
 refine⟨Q,ok,?_⟩;have key:∀(k:Nat)(e:Int),Ok N e->n-el n lv N e<k->den M e=den N e:=by
  intro k;induction k with
  |zero=>intro e L hk;have:=g.XH L C;omega
  |succ k ih=>
   intro e L hk;by_cases z:e/2=0
   .rw[NL z,NL z]
   .obtain⟨d,f⟩:=L.2.resolve_left z;rw[Bn z f]at hk;obtain⟨B,G⟩:=g.lo f;obtain⟨I,P⟩:=g.hi f;funext a;by_cases o:d.v=x/\(NS N y d.lo∨NS N y d.hi)
    .obtain⟨lo,hi,u,m,w⟩:=s.Uv f o.1 o.2;obtain⟨l3,l4⟩:=l f o.1 _ (.inl rfl);obtain⟨u3,u4⟩:=l f o.1 _ (.inr rfl);obtain⟨a1,Y,X,Z,a5,_⟩:=g.Jo C E l3 l4;obtain⟨b1,b2,b3,b4,b5,_⟩:=g.Jo C E u3 u4;have hk':lv d.v<lv y:=by rw[o.1];omega
     have bd:∀{p q e},Ok N p->Ok N q->lv y<el n lv N p->lv y<el n lv N q->S6 M x p q e->den M e a=if a x=φ then den N q a else den N p a:=λ{p q e}op oq lp lq h=>by
      rcases h with ⟨T,rfl⟩|⟨T,k2,k3,k4,k5⟩
      .rw[ih _ op (by omega)];subst T;split<;>rfl
      .rw[Q.JC C k3 k5];simp only;rw[Kn (ok _ oq),Kn (ok _ op),ih _ op (by omega),ih _ oq (by omega),k4];split<;>(rcases Int.emod_two_eq q with hq|hq<;>simp [hq])
     rw[Q.JC C z u,g.JC C z f];simp only;rw[bd a1 b1 X b3 m,bd Y b2 Z b4 w,a5,b5,o.1];congr 1;split<;>split<;>rfl
    .rw[Q.JC C z (s.stay f o),g.JC C z f,ih _ B (by omega),ih _ I (by omega)]
 exact λe L=>key 66 e L (by have:=g.fuel C L;omega)
end
end
section
theorem Yc:∀(L:Nat)(l:List (List Bool)),l.Nodup->(∀x∈l,δ x=L)->δ l<=2^L
 |0,[],_,_|0,[_],_,_=>by simp
 |0,x::y::l,k,h=>by simp_all
 |L+1,l,k,h=>by
  have a:∀b:Bool,δ ((l.filter λx=>x.head?==ν b).map List.tail)<=2^L:=λb=>by
   refine Yc L _ ?_ ?_
   .rw[av,af];refine(k.filter _).imp_of_mem λ{x y}m i j e=>j ?_;have d:=(bo.1 m).2;have c:=(bo.1 i).2;cases x with
    |nil=>grind
    |cons p x=>cases y with
     |nil=>grind
     |cons q y=>
      simp at d c e;rw[d,c,e]
   grind
  have o:∀(l:List (List Bool)),(∀x∈l,δ x=L+1)->δ l=δ (l.filter λx=>x.head?==ν φ)+δ (l.filter λx=>x.head?==ν ψ):=by
   intro l;induction l with
   |nil=>simp
   |cons x l n=>
    intro h;have f:=n λy i=>h y (by simp [i]);have g:=h x (by simp);cases x with
    |nil=>grind
    |cons b x=>cases b<;>simp [f]<;>omega
  have f:=a φ;have g:=a ψ;rw[ay]at f g;rw[o l h,bu];omega
theorem Akx{α:Type}(p:α->Bool)(l:List α):δ l=δ (l.filter p)+δ (l.filter λx=>!p x):=by
 induction l with
 |nil=>rfl
 |cons x l a=>cases h:p x<;>simp [h,a]<;>omega
theorem Zy{l:List (Nat×List Bool)}(b:l.Nodup){t:Nat}(h:∀x∈l,x.1=t):(l.map (·.2)).Nodup:=by rw[av,af];exact b.imp_of_mem λ{x y}c d a e=>a (Prod.ext ((h x c).trans (h y d).symm) e)
theorem Ak0{l:List (List Bool)}(j:l.Nodup)(h:∀x∈l,δ x<4):δ l<=15:=by
 have a:∀k,δ (l.filter λx=>δ x==k)<=2^k:=λk=>Yc k _ (j.filter _) λx d=>by grind
 have g:∀(l:List (List Bool)),(∀x∈l,δ x<4)->δ l=δ (l.filter λx=>δ x==0)+δ (l.filter λx=>δ x==1)+δ (l.filter λx=>δ x==2)+δ (l.filter λx=>δ x==3):=by
  intro l;induction l with
  |nil=>simp
  |cons x l n=>
   intro h;have b:=n λy i=>h y (by simp [i]);have c:=h x (by simp);have:δ x=0∨δ x=1∨δ x=2∨δ x=3:=by omega
   rcases this with e|e|e|e<;>simp only[List.filter_cons,e,am]<;>simp<;>omega
 have f:=a 0;have b:=a 1;have c:=a 2;have m:=a 3;rw[g l h];omega
theorem ZK:∀(K:Nat)(l:List (Nat×List Bool)),l.Nodup->(∀x∈l,x.1<=K/\(x.1=0->δ x.2=16)/\(x.1≠0->δ x.2<4))->δ l<=65536+15*K
 |0,l,b,h=>by
  have i:∀x∈l,x.1=0:=λx a=>by grind
  have:=Yc 16 (l.map (·.2)) (Zy b i) λx a=>by grind
  grind
 |K+1,l,b,h=>by
  have i:=Akx (λx:Nat×List Bool=>x.1==K+1) l;have k:=ZK K (l.filter λx=>!(x.1==K+1)) (b.filter _) λx a=>by grind
  have j:=Ak0 (Zy (b.filter (λx:Nat×List Bool=>x.1==K+1)) (t:=K+1) λx a=>by grind) (λx a=>by obtain⟨y,c,rfl⟩:=ak.1 a;grind)
  grind
def mix(lv:Int->Int)(k:Int)(b a:As):As:=λv=>if lv v<k then b v else a v
def S3(lv:Int->Int)(k:Int)(f r:Fn):Prop:=∃(s:Bool)(b:As),∀a,r a=(s ^^ f (mix lv k b a))
def Dep(n:Int)(lv:Int->Int)(k:Int)(r:Fn):Prop:=∀a b:As,(∀v,0<=v->v<n->k<=lv v->a v=b v)->r a=r b
section
variable {n:Int} {lv:Int->Int} {N:Tb}
variable {k:Int}
theorem Good.dep(g:Good n lv N){e:Int}(h:Ok N e)(j:k<=el n lv N e):Dep n lv k (den N e):=λa b c=>g.TU h λv d f i=>c v d f (by omega)
variable {r:Fn}
theorem S3.refl(h:Dep n lv k r):S3 lv k r r:=⟨ψ,λ_=>ψ,λa=>by rw[ap];exact h _ _ λv _ _ b=>(GT (by omega)).symm⟩
variable {f:Fn}
theorem S3.not(h:S3 lv k f r):S3 lv k f (λa=>!r a):=by obtain⟨s,b,h⟩:=h;exact⟨!s,b,λa=>by show (!r a)=_;rw[h];cases s<;>cases f _<;>rfl⟩
theorem S3.sign(s:Bool)(h:S3 lv k f r):S3 lv k f (λa=>s ^^ r a):=by
 cases s
 .simp_all
 .simpa using h.not
theorem S3.set{r':Fn}{k' v:Int}{c:Bool}(h:S3 lv k f r)(j:lv v<k')(m:k<=lv v)(l:∀a,r' a=r (Ac5 a v c))(i:Dep n lv k' r'):S3 lv k' f r':=by obtain⟨s,b,h⟩:=h;refine⟨s,mix lv k b (Ac5 (λ_=>ψ) v c),λa=>?_⟩;rw[i a (mix lv k' (λ_=>ψ) a) λw _ _ d=>(GT (by omega)).symm,l,h];congr 2;grind[mix,Ac5]
theorem S3.A0w{k':Int}(h:S3 lv k f r)(g:k<=k')(d:Dep n lv k' r):S3 lv k' f r:=by obtain⟨s,b,h⟩:=h;refine⟨s,mix lv k b (λ_=>ψ),λa=>?_⟩;rw[d a (mix lv k' (λ_=>ψ) a) λw _ _ i=>(GT (by omega)).symm,h];congr 2;grind[mix]
def Uf(n:Int)(lv:Int->Int)(N:Tb)(R:List Fn):Prop:=∀i d,N i=ν d->n-4<=lv d.v∨∃f∈R,S3 lv (lv d.v) f (den N (2*i))
theorem Uf.mono{R R':List Fn}(h:Uf n lv N R)(a:∀f∈R,f∈R'):Uf n lv N R':=λi d e=>(h i d e).imp id λ⟨f,b,c⟩=>⟨f,a f b,c⟩
def asg(lv:Int->Int)(k:Int)(l:List Bool):As:=λv=>l.getD (lv v-k).toNat ψ
def YO:Nat->List (List Bool)
 |0=>[[]]
 |L+1=>(YO L).map (ψ::·)++(YO L).map (φ::·)
theorem Aff:∀L,δ (YO L)=2^L
 |0=>rfl
 |L+1=>by simp [YO,Aff L,bu];omega
theorem Afe:∀(L:Nat)(l:List Bool),δ l=L->l∈YO L
 |0,[],_=>by simp [YO]
 |0,_::_,h|L+1,[],h=>by grind
 |L+1,b::l,h=>by have:=Afe L l (by grind);cases b<;>simp [YO,this]
theorem Ai3(g:Good n lv N)(c:0<=n){i j:Int}{d d':Nd}(f:N i=ν d)(b:N j=ν d')(s:Bool)(h:∀a,den N (2*i) a=(s ^^ den N (2*j) a)):i=j:=by
 have l:Ok N (2*i):=⟨by have:=g.var f;omega,.inr ⟨d,by grind⟩⟩
 have k:Ok N (2*j):=⟨by have:=g.var b;omega,.inr ⟨d',by grind⟩⟩
 have e:=h (λ_=>φ);rw[g.Wl c l,g.Wl c k]at e;have m:s=ψ:=by grind
 subst m;have:=g.eq c l k (by funext a;rw[h a,ap]);omega
def RD(n:Int)(f:Fn):Prop:=∀a b:As,(∀v,0<=v->v<n->a v=b v)->f a=f b
theorem Good.rd(g:Good n lv N){e:Int}(h:Ok N e):RD n (den N e):=λ_ _ c=>g.TU h λv d f _=>c v d f
theorem Uf.few(g:Good n lv N)(W:0<=n)(h8:n<=8){R:List Fn}(hR:∀f∈R,RD n f)(h:Uf n lv N R)(l:List Int)(Q:l.Nodup)(hm:∀i∈l,∃d,N i=ν d):δ l<=65536+15*δ R:=by
 have F:∀i,∃c:Nat×List Bool,i∈l->(c.1<=δ R/\(c.1=0->δ c.2=16)/\(c.1≠0->δ c.2<4))/\
   ∃d,N i=ν d/\((c.1=0/\n-4<=lv d.v/\c.2=(YO 4).map λt=>den N (2*i) (asg lv (n-4) t)) ∨
    (∃f,c.1≠0/\R[c.1-1]?=ν f/\(δ c.2:Int)=lv d.v/\∃s:Bool,∀a,den N (2*i) a=(s ^^ f (mix lv (lv d.v) (asg lv 0 c.2) a)))):=by
  intro i
  by_cases C:i∈l
  .obtain⟨d,r⟩:=hm i C
   have V:=g.var r
   have hr:=g.od.N7 _ V.2.1 V.2.2
   by_cases w:n-4<=lv d.v
   .exact⟨⟨0,(YO 4).map λt=>den N (2*i) (asg lv (n-4) t)⟩,λ_=>⟨⟨bn _,λ_=>by rw[ay,Aff],λh=>qG rfl h⟩,d,r,.inl ⟨rfl,w,rfl⟩⟩⟩
   .obtain⟨f,hf,s,b,D⟩:=(h i d r).resolve_left w
    obtain⟨q,hq,G⟩:=List.getElem_of_mem hf
    let E:Nat->Int:=λk=>bh λv=>0<=v/\v<n/\lv v=k
    let t:List Bool:=(aw (lv d.v).toNat).map λk=>b (E k)
    refine⟨⟨q+1,t⟩,λ_=>⟨⟨by simp;omega,λh=>by simp at h,λ_=>by simp [t];omega⟩,d,r,.inr ⟨f,by simp,by simp [hq,G],by simp [t];omega,s,λa=>?_⟩⟩⟩
    rw[D a]
    congr 1
    refine hR f hf _ _ λv z m=>?_
    unfold mix
    by_cases A:lv v<lv d.v
    .rw[UV A,UV A]
     have O:=g.od.N7 v z m
     have B:E (lv v).toNat=v:=by have:=ax (p:=λu=>0<=u/\u<n/\lv u=((lv v).toNat:Int)) ⟨v,z,m,by omega⟩;exact g.od.inj _ _ this.1 this.2.1 z m (by rw[this.2.2];omega)
     show b v=t.getD (lv v-0).toNat ψ
     rw[Int.sub_zero,aq,bi,be (by omega)]
     simp [B]
    .rw[GT A,GT A]
  .exact⟨⟨0,[]⟩,λh=>(C h).elim⟩
 obtain⟨c,D⟩:=Classical.axiomOfChoice F;have I:∀i∈l,∀j∈l,c i=c j->i=j:=by
  intro i C j hj e;obtain⟨_,d,r,m⟩:=D i C;obtain⟨_,J,o,A⟩:=D j hj;rw[e]at m;rcases m with ⟨K,U,Y⟩|⟨f,K,U,Y,s,k4⟩<;>rcases A with ⟨T,S,M⟩|⟨f',T,S,M,Z,m4⟩
  .refine Ai3 g W r o ψ λa=>?_;rw[ap];rw[Y]at M;have o1:Ok N (2*i):=⟨by have:=g.var r;omega,.inr ⟨d,by rw[show 2*i/2=i by omega];exact r⟩⟩
   have o2:Ok N (2*j):=⟨by have:=g.var o;omega,.inr ⟨J,by rw[show 2*j/2=j by omega];exact o⟩⟩
   have l1:el n lv N (2*i)=lv d.v:=Bn (by have:=g.var r;omega) (by rw[show 2*i/2=i by omega];exact r);have l2:el n lv N (2*j)=lv J.v:=Bn (by have:=g.var o;omega) (by rw[show 2*j/2=j by omega];exact o);let E:Nat->Int:=λk=>bh λv=>0<=v/\v<n/\lv v=n-4+k;let t:List Bool:=(aw 4).map λk=>a (E k);have ht:t∈YO 4:=Afe 4 t (by simp [t]);have X:∀v,0<=v->v<n->n-4<=lv v->a v=asg lv (n-4) t v:=λv z m A=>by
    have O:=g.od.N7 v z m;have B:E (lv v-(n-4)).toNat=v:=by have:=ax (p:=λu=>0<=u/\u<n/\lv u=n-4+((lv v-(n-4)).toNat:Int)) ⟨v,z,m,by omega⟩;exact g.od.inj _ _ this.1 this.2.1 z m (by rw[this.2.2];omega)
    show a v=t.getD (lv v-(n-4)).toNat ψ;rw[aq,bi,be (by omega)];simp [B]
   rw[g.TU o1 (b:=asg lv (n-4) t) λv z m A=>X v z m (by omega),g.TU o2 (b:=asg lv (n-4) t) λv z m A=>X v z m (by omega)];exact List.map_inj_left.1 M t ht
  .exact(T K).elim
  .exact(K T).elim
  .rw[U]at S;cases S;have Q:lv d.v=lv J.v:=by omega
   refine Ai3 g W r o (s ^^ Z) λa=>?_;rw[k4 a,m4 a,Q];cases s<;>cases Z<;>simp
 have L:(l.map c).Nodup:=by rw[av,af];exact Q.imp_of_mem λ{x y}H hy P e=>P (I x H y hy e)
 have:=ZK (δ R) (l.map c) L λx H=>by obtain⟨i,C,rfl⟩:=ak.1 H;exact(D i C).1
 simpa using this
end
end
end Go.B
namespace Go.Proofs.YtcbkbpjlbmalmaaGreatDoor
open Go Go.X Go.Y
section
abbrev G6:Ty:=.int .i64
theorem Aq{n:Int}:Bl .i64 n↔-9223372036854775808<=n/\n<=9223372036854775807:=by
 have h1:IntKind.i64.min=-9223372036854775808:=by decide
 have h2:IntKind.i64.max=9223372036854775807:=by decide
 unfold Bl;rw[h1,h2]
theorem A5s(n:Nat):n ^^^ 1=if n%2=0 then n+1 else n-1:=by
 have h1:(n ^^^ 1)/2=n/2:=by
  apply Nat.eq_of_testBit_eq;intro i;rw[bf,bf,bq];have:Nat.testBit 1 (i+1)=ψ:=by grind
  rw[this,Bool.xor_false]
 have h2:(n ^^^ 1)%2=1-n%2:=by have h3:=bq n 1 0;simp only[Nat.testBit_zero]at h3;rcases ar n with h|h<;>rcases ar (n ^^^ 1) with h'|h'<;>simp [h,h']at h3 ⊢
 split<;>omega
variable {e:Int}
theorem Ae8(h:Bl .i64 e):GI .xor .i64 e 1=B.flip e:=by
 have he:=Aq.1 h;have h1:(BitVec.ofInt 64 e ^^^ BitVec.ofInt _ 1).toNat=if e%18446744073709551616%2=0 then (e%18446744073709551616).toNat+1 else (e%18446744073709551616).toNat-1:=by
  rw[BitVec.toNat_xor,BitVec.toNat_ofInt,BitVec.toNat_ofInt];have e1:((1:Int)%(2^64:Nat)).toNat=1:=by decide
  have e2:2^64=18446744073709551616:=by decide
  rw[e1,e2,A5s];split<;>split<;>omega
 show IntKind.i64.wrap (BitVec.ofInt 64 e ^^^ BitVec.ofInt _ 1).toNat=_;rw[h1];have hw:∀m,IntKind.i64.wrap m=if 9223372036854775808<=m%18446744073709551616 then m%18446744073709551616-18446744073709551616 else m%18446744073709551616:=λm=>by grind[IntKind.wrap,IntKind.bits,IntKind.signed]
 rw[hw];unfold B.flip;split<;>omega
def FM(e:Int):Int:=max e 0/2
def Cj(e:Int):Bool:=ω (0<e/\e%2=1)
theorem K6(h:0<=e):FM e=e/2:=by grind[FM]
theorem Agv(h:0<=e):Cj e=ω (e%2=1):=by grind[Cj]
def AO(e:Int)(b:Bool):Int:=if b=φ then B.flip e else e
theorem K7{s:Int}(h:0<=s):AO e (Cj s)=B.fl e s:=by rw[Agv h];unfold AO B.fl;by_cases h1:s%2=1<;>simp
noncomputable def pf0:(q:FuncId)->Option (PF Y0 q):=λ_=>τ
variable {a1:Jl Y0 [G6]}
theorem Ay9(a:Jl Y0 [G6])(F:Jl Y0 [G6]):(Bl .i64 (KL φ a.1 [(.i64,0)])->¬(2:Int)=0/\Bl .i64 ((KL φ a.1 [(.i64,0)]).tdiv 2)/\((KL φ a.1 [(.i64,0)]).tdiv 2,PUnit.unit)=F)=pfP (Y:=Y0) pf0 Tryz.f182 [G6] [G6] a F:=by kernel_rfl
noncomputable def Agm:PF Y0 182 where
 ta:=[G6]
 tr:=[G6]
 N6:=τ
 F a:=(FM a.1,())
 pa:=rfl
 pr:=rfl
 can:=by kernel_rfl
 ok a hr _ I w hG:=Mj (pf:=pf0) (fn:=Tryz.f182) (by kernel_rfl) rfl rfl hr (b0 (Ay9 a _) (by have he:=Aq.1 hr.1;have hm:KL φ a.1 [(.i64,0)]=max a.1 0:=rfl;rw[hm];intro h;have ht:(max a.1 0).tdiv 2=max a.1 0/2:=Int.tdiv_eq_ediv_of_nonneg (by omega);rw[ht];exact⟨by decide,Aq.2 (by omega),rfl⟩)) I w hG
theorem A3m(a:Jl Y0 [G6])(F:Jl Y0 [.bool]):((0<a.1->Bl .i64 a.1->¬(2:Int)=0/\Bl .i64 (a.1.tmod 2)/\(ω (a.1.tmod 2=1),PUnit.unit)=F)/\(¬0<a.1->(ψ,PUnit.unit)=F))=pfP (Y:=Y0) pf0 Tryz.f185 [G6] [.bool] a F:=by kernel_rfl
noncomputable def Aon:PF Y0 185 where
 ta:=[G6]
 tr:=[.bool]
 N6:=τ
 F a:=(Cj a.1,())
 pa:=rfl
 pr:=rfl
 can:=by kernel_rfl
 ok a hr _ I w hG:=Mj (pf:=pf0) (fn:=Tryz.f185) (by kernel_rfl) rfl rfl hr (b0 (A3m a _) (by
  have he:=Aq.1 hr.1;refine⟨λh _=>?_,λh=>?_⟩
  .have ht:a.1.tmod 2=a.1%2:=Int.tmod_eq_emod_of_nonneg (Int.le_of_lt h);rw[ht];refine⟨by decide,Aq.2 (by omega),?_⟩;show (_,())=(_,());congr 1;unfold Cj;simp [h]
  .show (_,())=(_,());congr 1;unfold Cj;simp [h])) I w hG
theorem A3i(a:Jl Y0 [G6])(F:Jl Y0 [G6]):(Bl .i64 a.1->(GI .xor .i64 a.1 1,PUnit.unit)=F)=pfP (Y:=Y0) pf0 Tryz.f169 [G6] [G6] a F:=by kernel_rfl
noncomputable def Aom:PF Y0 169 where
 ta:=[G6]
 tr:=[G6]
 N6:=τ
 F a:=(B.flip a.1,())
 pa:=rfl
 pr:=rfl
 can:=by kernel_rfl
 ok a hr _ I w hG:=Mj (pf:=pf0) (fn:=Tryz.f169) (by kernel_rfl) rfl rfl hr (b0 (A3i a _) (λh=>by rw[Ae8 h];rfl)) I w hG
noncomputable def pf1:(q:FuncId)->Option (PF Y0 q)
 |182=>ν Agm
 |185=>ν Aon
 |169=>ν Aom
 |_=>τ
theorem A0m(a:Jl Y0 [G6,.bool])(F:Jl Y0 [G6]):((a.2.1=φ->(B.flip a.1,PUnit.unit)=F)/\(¬a.2.1=φ->(a.1,PUnit.unit)=F))=pfP (Y:=Y0) pf1 Tryz.f184 [G6,.bool] [G6] a F:=by kernel_rfl
noncomputable def Aop:PF Y0 184 where
 ta:=[G6,.bool]
 tr:=[G6]
 N6:=τ
 F a:=(AO a.1 a.2.1,())
 pa:=rfl
 pr:=rfl
 can:=by kernel_rfl
 ok a hr _ I w hG:=Mj (pf:=pf1) (fn:=Tryz.f184) (by kernel_rfl) rfl rfl hr (b0 (A0m a _) ⟨λh=>by show (_,())=(_,());rw[AO,UV h],λh=>by show (_,())=(_,());rw[AO,GT h]⟩) I w hG
theorem Avb(a:Jl Y0 [G6])(F:Jl Y0 [.bool]):((ω (FM a.1=0),PUnit.unit)=F)=pfP (Y:=Y0) pf1 Tryz.f121 [G6] [.bool] a F:=by kernel_rfl
noncomputable def Air:PF Y0 121 where
 ta:=[G6]
 tr:=[.bool]
 N6:=τ
 F a:=(ω (FM a.1=0),())
 pa:=rfl
 pr:=rfl
 can:=by kernel_rfl
 ok a hr _ I w hG:=Mj (pf:=pf1) (fn:=Tryz.f121) (by kernel_rfl) rfl rfl hr (b0 (Avb a _) rfl) I w hG
noncomputable def pf2:(q:FuncId)->Option (PF Y0 q)
 |182=>ν Agm
 |185=>ν Aon
 |169=>ν Aom
 |184=>ν Aop
 |121=>ν Air
 |_=>τ
theorem Ay8(a:Jl Y0 [G6,G6])(F:Jl Y0 [G6,G6,.bool]):((AO a.1 (Cj a.2.1),AO a.2.1 (Cj a.2.1),Cj a.2.1,PUnit.unit)=F)=pfP (Y:=Y0) pf2 Tryz.f231 [G6,G6] [G6,G6,.bool] a F:=by kernel_rfl
noncomputable def Ayp:PF Y0 231 where
 ta:=[G6,G6]
 tr:=[G6,G6,.bool]
 N6:=τ
 F a:=(AO a.1 (Cj a.2.1),AO a.2.1 (Cj a.2.1),Cj a.2.1,())
 pa:=rfl
 pr:=rfl
 can:=by kernel_rfl
 ok a hr hd I w hG:=Mj (pf:=pf2) (fn:=Tryz.f231) (by kernel_rfl) rfl rfl hr (b0 (Ay8 a _) (rfl)) I w hG
theorem A6l(c:Int)(h:c<=4611686018427387903):Bl .i64 (2*max c 0):=Aq.2 (by omega)
theorem A6m(a:Jl Y0 [G6,.bool])(F:Jl Y0 [G6]):(Bl .i64 (KL φ a.1 [(.i64,0)])->Bl .i64 (2*KL φ a.1 [(.i64,0)])/\(AO (2*KL φ a.1 [(.i64,0)]) a.2.1,PUnit.unit)=F)=pfP (Y:=Y0) pf2 Tryz.f234 [G6,.bool] [G6] a F:=by kernel_rfl
noncomputable def A6j:PF Y0 234 where
 ta:=[G6,.bool]
 tr:=[G6]
 N6:=ν λa=>((a.1:Int)<=4611686018427387903)
 F a:=(AO (2*max a.1 0) a.2.1,())
 pa:=rfl
 pr:=rfl
 can:=by kernel_rfl
 ok a hr hd I w hG:=Mj (pf:=pf2) (fn:=Tryz.f234) (by kernel_rfl) rfl rfl hr (b0 (A6m a _) (by have h:(a.1:Int)<=4611686018427387903:=hd _ rfl;exact λ_=>⟨A6l _ h,rfl⟩)) I w hG
theorem SU{α:Type}{x y:Bool}{z:α}(h:x=y):(x,z)=(y,z):=by rw[h]
def DH(c:Int):Bool:=ω ((97<=c/\c<=122)∨(65<=c/\c<=90))
theorem I1(c:Int):(97<=c->(c<=122->φ=DH c)/\(¬c<=122->(65<=c->ω (c<=90)=DH c)/\(¬65<=c->ψ=DH c)))/\(¬97<=c->(65<=c->ω (c<=90)=DH c)/\(¬65<=c->ψ=DH c)):=by unfold DH;refine⟨λh1=>⟨λh2=>?_,λh2=>⟨λh3=>?_,λh3=>?_⟩⟩,λh1=>⟨λh3=>?_,λh3=>?_⟩⟩<;>first|exact decide_eq_true _|exact decide_eq_false _|grind
def isDigit(c:Int):Bool:=ω (48<=c/\c<=57)
theorem Apx(a:Jl Y0 [.int .u8])(F:Jl Y0 [.bool]):((97<=a.1->(a.1<=122->(φ,PUnit.unit)=F)/\(¬a.1<=122->(65<=a.1->(ω (a.1<=90),PUnit.unit)=F)/\(¬65<=a.1->(ψ,PUnit.unit)=F)))/\(¬97<=a.1->(65<=a.1->(ω (a.1<=90),PUnit.unit)=F)/\(¬65<=a.1->(ψ,PUnit.unit)=F)))=pfP (Y:=Y0) pf2 Tryz.f202 [.int .u8] [.bool] a F:=by kernel_rfl
noncomputable def Aoo:PF Y0 202 where
 ta:=[.int .u8]
 tr:=[.bool]
 N6:=τ
 F a:=(DH a.1,())
 pa:=rfl
 pr:=rfl
 can:=by kernel_rfl
 ok a hr hd I w hG:=Mj (pf:=pf2) (fn:=Tryz.f202) (by kernel_rfl) rfl rfl hr (b0 (Apx a _) (⟨λh1=>⟨λh2=>SU (((I1 _).1 h1).1 h2),λh2=>⟨λh3=>SU ((((I1 _).1 h1).2 h2).1 h3),λh3=>SU ((((I1 _).1 h1).2 h2).2 h3)⟩⟩,λh1=>⟨λh3=>SU (((I1 _).2 h1).1 h3),λh3=>SU (((I1 _).2 h1).2 h3)⟩⟩)) I w hG
theorem Al0(a:Jl Y0 [.int .u8])(F:Jl Y0 [.bool]):((97<=a.1->(a.1<=122->(φ,PUnit.unit)=F)/\(¬a.1<=122->(65<=a.1->(ω (a.1<=90),PUnit.unit)=F)/\(¬65<=a.1->(ψ,PUnit.unit)=F)))/\(¬97<=a.1->(65<=a.1->(ω (a.1<=90),PUnit.unit)=F)/\(¬65<=a.1->(ψ,PUnit.unit)=F)))=pfP (Y:=Y0) pf2 Tryz.f154 [.int .u8] [.bool] a F:=by kernel_rfl
noncomputable def Ak8:PF Y0 154 where
 ta:=[.int .u8]
 tr:=[.bool]
 N6:=τ
 F a:=(DH a.1,())
 pa:=rfl
 pr:=rfl
 can:=by kernel_rfl
 ok a hr hd I w hG:=Mj (pf:=pf2) (fn:=Tryz.f154) (by kernel_rfl) rfl rfl hr (b0 (Al0 a _) (⟨λh1=>⟨λh2=>SU (((I1 _).1 h1).1 h2),λh2=>⟨λh3=>SU ((((I1 _).1 h1).2 h2).1 h3),λh3=>SU ((((I1 _).1 h1).2 h2).2 h3)⟩⟩,λh1=>⟨λh3=>SU (((I1 _).2 h1).1 h3),λh3=>SU (((I1 _).2 h1).2 h3)⟩⟩)) I w hG
theorem Au8(a:Jl Y0 [.int .u8])(F:Jl Y0 [.bool]):((48<=a.1->(ω (a.1<=57),PUnit.unit)=F)/\(¬48<=a.1->(ψ,PUnit.unit)=F))=pfP (Y:=Y0) pf2 Tryz.f248 [.int .u8] [.bool] a F:=by kernel_rfl
noncomputable def Atp:PF Y0 248 where
 ta:=[.int .u8]
 tr:=[.bool]
 N6:=τ
 F a:=(isDigit a.1,())
 pa:=rfl
 pr:=rfl
 can:=by kernel_rfl
 ok a hr hd I w hG:=Mj (pf:=pf2) (fn:=Tryz.f248) (by kernel_rfl) rfl rfl hr (b0 (Au8 a _) (by refine⟨λh1=>SU ?_,λh1=>SU ?_⟩<;>(unfold isDigit;first|exact(decide_eq_false (λh=>h1 h.1)).symm|exact decide_eq_decide.2 ⟨λh=>⟨h1,h⟩,λh=>h.2⟩))) I w hG
theorem Aq0(a:Jl Y0 [.int .u8])(F:Jl Y0 [.bool]):((48<=a.1->(ω (a.1<=57),PUnit.unit)=F)/\(¬48<=a.1->(ψ,PUnit.unit)=F))=pfP (Y:=Y0) pf2 Tryz.f201 [.int .u8] [.bool] a F:=by kernel_rfl
noncomputable def Aoq:PF Y0 201 where
 ta:=[.int .u8]
 tr:=[.bool]
 N6:=τ
 F a:=(isDigit a.1,())
 pa:=rfl
 pr:=rfl
 can:=by kernel_rfl
 ok a hr hd I w hG:=Mj (pf:=pf2) (fn:=Tryz.f201) (by kernel_rfl) rfl rfl hr (b0 (Aq0 a _) (by refine⟨λh1=>SU ?_,λh1=>SU ?_⟩<;>(unfold isDigit;first|exact(decide_eq_false (λh=>h1 h.1)).symm|exact decide_eq_decide.2 ⟨λh=>⟨h1,h⟩,λh=>h.2⟩))) I w hG
noncomputable def pfT:(q:FuncId)->Option (PF Y0 q)
 |182=>ν Agm
 |185=>ν Aon
 |169=>ν Aom
 |184=>ν Aop
 |121=>ν Air
 |231=>ν Ayp
 |234=>ν A6j
 |202=>ν Aoo
 |154=>ν Ak8
 |248=>ν Atp
 |201=>ν Aoq
 |_=>τ
end
abbrev AB:AK:=.dat I6
abbrev Bh:AK:=.dat .ptr
abbrev Uj:AK:=.dat .bool
abbrev Ay:RK:=.dat I6
abbrev Amq:RK:=.dat .ptr
abbrev Ew:RK:=.dat .bool
abbrev G8:Bd:=⟨[.dat (.u 2),AB,.dat (.u 3)],[Ew]⟩
abbrev Gv:Bd:=⟨[.dat (.u 2)],[Ew]⟩
abbrev DX:Bd:=⟨[.dat (.u 3),AB],[Ay]⟩
abbrev Bt:Bd:=⟨[],[Ew]⟩
abbrev E0:Bd:=⟨[.dat (.u 2)],[Amq,.dat (.u 4),Ew]⟩
abbrev EE:Bd:=⟨[.dat (.sl (.u 0)),.dat (.u 3),Uj],[.dat (.u 5),Ay]⟩
abbrev Cv:Bd:=⟨[Bh],[Ay]⟩
abbrev EH:Bd:=⟨[.dat (.u 2)],[Ay]⟩
abbrev Ex:Bd:=⟨[.dat (.sl (.u 0)),.dat (.u 3),AB],[Ay,Ew]⟩
abbrev BR:Bd:=⟨[Bh,AB,AB],[Ew]⟩
abbrev Ns:Bd:=⟨[Bh,.dat (.u 4),AB,.dat (.u 3)],[Ay,Ay]⟩
abbrev CL:Bd:=⟨[.dat (.sl (.u 0)),AB,Uj],[.own I6,.own .bool]⟩
abbrev Nr:Bd:=⟨[Bh,.dat (.u 4),Uj],[Ay,Ay]⟩
abbrev Ck:Bd:=⟨[Bh,.dat (.sl I6)],[Ay,Ay]⟩
abbrev MR:Bd:=⟨[Bh,AB,AB],[Ew,Ay]⟩
abbrev Nt:Bd:=⟨[Bh,.dat (.u 4),.dat (.u 3)],[.own (.u 10),Ay]⟩
abbrev Dr:Bd:=⟨[.dat (.sl (.u 0))],[Ay]⟩
abbrev Td:Bd:=⟨[AB,AB],[Amq,Ay]⟩
abbrev GN:Bd:=⟨[.dat (.sl (.u 0))],[Ay,Ay]⟩
abbrev Ey:Bd:=⟨[.dat (.sl I6),AB],[Ew]⟩
abbrev EF:Bd:=⟨[AB,AB,.dat (.sl (.u 1))],[Ay]⟩
abbrev WB:Bd:=⟨[.dat (.sl (.u 0))],[.dat (.u 4),Ay]⟩
abbrev Fm:Bd:=⟨[Bh,.dat (.sl I6)],[Ew]⟩
abbrev Nl:Bd:=⟨[Bh,.dat (.sl (.u 1))],[Ay]⟩
abbrev Ix:Bd:=⟨[Bh,.dat (.u 4)],[Amq,Ay]⟩
abbrev D6:Bd:=⟨[Bh,.dat (.u 3)],[Ay]⟩
abbrev Em:Bd:=⟨[Bh,.dat (.sl I6)],[Ay]⟩
abbrev Gr:Bd:=⟨[.dat (.u 3)],[Ay]⟩
abbrev Ez:Bd:=⟨[Uj,AB],[.own .bool]⟩
abbrev Gq:Bd:=⟨[.dat (.u 3)],[.dat (.sl .str),.dat (.sl .str)]⟩
abbrev Eb:Bd:=⟨[.dat (.sl (.u 0)),.dat (.sl I6),.dat (.sl .bool),.dat (.sl .str)],[.own I6,Ew]⟩
abbrev GU:Bd:=⟨[.dat (.sl (.u 0)),.dat (.u 3),.dat (.sl I6),.dat (.sl I6)],[Ay,Ew]⟩
abbrev Ce:Bd:=⟨[AB,AB],[Ew]⟩
abbrev No:Bd:=⟨[Bh,AB,.dat (.sl .bool)],[Ew,Ay]⟩
abbrev GB:Bd:=⟨[.dat (.u 4),AB],[.dat (.sl I6)]⟩
abbrev Bo:Bd:=⟨[Bh,AB,AB],[Ay]⟩
abbrev Oh:Bd:=⟨[Bh,AB],[Ay,Ay]⟩
abbrev A6:Bd:=⟨[Bh,.fn [.ptr,(.sl I6)] [I6,I6],.dat (.sl I6)],[Ay]⟩
abbrev NB:Bd:=⟨[Bh,AB,AB],[Ay,Ay]⟩
abbrev Bu:Bd:=⟨[Bh,Uj],[Ay]⟩
abbrev BO:Bd:=⟨[Bh,.dat (.u 3)],[.dat .mref]⟩
abbrev Bb:Bd:=⟨[Bh,AB,AB,Uj],[Ay]⟩
abbrev EG:Bd:=⟨[AB],[Ay]⟩
abbrev CM:Bd:=⟨[.dat (.u 0)],[Ay]⟩
abbrev Ol:Bd:=⟨[Bh,.dat (.sl (.u 11))],[Ay,Ay]⟩
abbrev LY:Bd:=⟨[Bh,AB,.fn [.ptr,I6,I6] [I6],.dat (.sl I6)],[Ay,Ay]⟩
abbrev WA:Bd:=⟨[Bh,.fn [.ptr,I6,I6] [I6],AB,AB,AB],[Ew,Ay]⟩
abbrev GO:Bd:=⟨[.dat (.u 9)],[Ay]⟩
abbrev RX:Bd:=⟨[AB],[Amq]⟩
abbrev IJ:Bd:=⟨[.dat .str],[Ew]⟩
abbrev CX:Bd:=⟨[AB],[Ew]⟩
abbrev Mc:Bd:=⟨[Bh],[.own I6]⟩
abbrev Iv:Bd:=⟨[Bh,AB],[Ay]⟩
abbrev IQ:Bd:=⟨[.dat (.u 4)],[Ay]⟩
abbrev Gg:Bd:=⟨[.dat (.sl (.u 0)),.map .str I6,.dat (.u 3),Uj],[.dat (.u 5),Ay]⟩
abbrev Ky:Bd:=⟨[.dat (.sl (.u 0))],[.map .str I6]⟩
abbrev BE:Bd:=⟨[.del (.u 3),.del .ptr],[.dat (.sl I6)]⟩
abbrev Cm:Bd:=⟨[.fn [.ptr,I6,I6] [I6,I6],.del .ptr,.fbx [] [(.sl I6)]],[Ay]⟩
abbrev F9:Bd:=⟨[Bh,.dat (.sl I6),.fbx [.ptr,I6,I6] [I6,I6]],[Ay,Ay]⟩
abbrev D5:Bd:=⟨[.dat (.u 4),.dat .str],[Ay]⟩
abbrev Oi:Bd:=⟨[Bh,AB,AB,AB],[Ay,Ay]⟩
abbrev DG:Bd:=⟨[Bh,.dat (.u 3),.dat (.u 3),.fn [I6,I6] [.bool]],[Ay]⟩
abbrev Jv:Bd:=⟨[Bh,.dat (.u 3)],[Ew]⟩
abbrev GY:Bd:=⟨[AB,AB,Bh],[Ew]⟩
abbrev Dt:Bd:=⟨[.dat (.u 3),AB,AB],[Ay,Ay]⟩
abbrev AL:Bd:=⟨[AB,AB],[.dat (.u 5),Ay]⟩
abbrev Dv:Bd:=⟨[.dat (.sl (.u 0)),.dat .str],[Ay]⟩
abbrev GP:Bd:=⟨[.dat (.u 3),.dat (.sl (.u 5))],[.dat (.u 5),Ay]⟩
abbrev BI:Bd:=⟨[.dat (.u 3),AB,.dat (.sl .str)],[.dat (.sl .str)]⟩
abbrev Gp:Bd:=⟨[.dat (.sl (.u 0)),.dat (.sl .str),AB],[Ew]⟩
abbrev Du:Bd:=⟨[.dat (.u 3)],[Ew]⟩
abbrev D4:Bd:=⟨[Bh,AB],[Ay,Ay,Ay,Ew]⟩
abbrev GW:Bd:=⟨[Bh,.fn [.ptr] [I6]],[Ay,Ay]⟩
abbrev LZ:Bd:=⟨[Bh,.del I6],[Ay]⟩
abbrev DF:Bd:=⟨[Bh,AB,AB,AB],[Ay]⟩
abbrev AI:Bd:=⟨[Bh,.dat (.sl I6)],[]⟩
abbrev Og:Bd:=⟨[Bh,.fn [.ptr,I6,I6] [I6],AB,AB],[Ay,Ay]⟩
abbrev Fp:Bd:=⟨[.dat (.u 0)],[Ay,Ay]⟩
abbrev BZ:Bd:=⟨[Bh,.dat .mref,AB,AB],[]⟩
abbrev FA:Bd:=⟨[Bh,.dat (.u 3),.dat (.u 3),.fn [I6,I6,I6] []],[]⟩
abbrev CZ:Bd:=⟨[AB,AB,AB,.del (.u 3),.del .ptr,Bh],[]⟩
abbrev BJ:Bd:=⟨[.own I6],[]⟩
abbrev AF:Bd:=⟨[.fn [I6] [.bool],.del .mref],[]⟩
abbrev Nq:Bd:=⟨[Bh,.dat (.sl (.u 11))],[Ay]⟩
abbrev Oj:Bd:=⟨[Bh,.del (.sl (.u 11))],[Ay]⟩
abbrev Oe:Bd:=⟨[Bh,.del I6,.del (.sl I6),.fbx [.ptr,I6,I6] [I6]],[Ay]⟩
abbrev Nn:Bd:=⟨[Bh,.fn [.ptr] []],[Ay]⟩
abbrev RV:Bd:=⟨[Bh,.del I6,.fbx [.ptr,I6,I6] [I6],.del I6,.del I6,Bh],[]⟩
abbrev RU:Bd:=⟨[AB],[Amq,Ay]⟩
abbrev L9:Bd:=⟨[AB],[.own I6]⟩
abbrev Ie:Bd:=⟨[.dat .str,AB,Uj],[Ay]⟩
abbrev Gt:Bd:=⟨[.dat (.sl .str),.dat .str],[Ew]⟩
abbrev Gu:Bd:=⟨[],[.own .str]⟩
abbrev IE:Bd:=⟨[.dat (.u 0),Bh],[Ew]⟩
abbrev AU:Bd:=⟨[.dat (.sl (.u 0)),.fn [(.u 0)] [.bool]],[Ew]⟩
abbrev DR:Bd:=⟨[Bh],[]⟩
abbrev HG:Bd:=⟨[.dat (.u 3),AB,.fn [(.u 3),I6] [.bool]],[Ew]⟩
abbrev EA:Bd:=⟨[.dat (.u 3),AB,Bh,Bh],[Ew]⟩
abbrev F5:Bd:=⟨[.dat (.sl (.u 0)),.map .str I6,.dat (.u 3),Uj,.dat (.sl (.u 5))],[.dat (.u 5),Ay]⟩
abbrev Md:Bd:=⟨[Bh,.del I6,.del I6,.del I6],[Ay]⟩
abbrev Ee:Bd:=⟨[AB,AB,AB,.fbx [I6,I6] [.bool],.del .ptr,Bh],[]⟩
abbrev F6:Bd:=⟨[.dat (.sl I6),AB],[Ay]⟩
abbrev Ec:Bd:=⟨[.dat (.sl (.u 5))],[Ew]⟩
abbrev ET:Bd:=⟨[.dat (.u 5),.dat (.u 5)],[Ay,Ay]⟩
abbrev GQ:Bd:=⟨[.dat (.sl .str),.dat .str],[.dat (.sl .str)]⟩
abbrev Av:Bd:=⟨[Uj],[Ay]⟩
abbrev Bc:Bd:=⟨[Bh,AB],[.dat (.u 13),Ew]⟩
abbrev Np:Bd:=⟨[Bh,.fbx [.ptr] [I6],Bh],[]⟩
abbrev D3:Bd:=⟨[Bh,AB],[Ew]⟩
abbrev Of:Bd:=⟨[Bh,.del I6,.fbx [.ptr,I6,I6] [I6],.del I6],[Ay]⟩
abbrev RZ:Bd:=⟨[AB,AB,AB],[Ay,Ay,Ay,Ew,Ay,Ew]⟩
abbrev FR:Bd:=⟨[Bh,AB,AB,AB,AB],[Ay,Ew]⟩
abbrev FQ:Bd:=⟨[Bh,AB,AB,AB,AB,AB],[]⟩
abbrev RY:Bd:=⟨[.dat .str,.fn [(.int .u8)] [.bool]],[Ay]⟩
abbrev Gh:Bd:=⟨[.dat (.int .u8)],[Ew]⟩
abbrev Bx:Bd:=⟨[.dat (.sl (.u 0)),.fn [(.u 0)] [.bool]],[Ay]⟩
abbrev IM:Bd:=⟨[Bh,AB,AB],[.dat (.sl (.u 16))]⟩
abbrev Ij:Bd:=⟨[Bh,AB,.dat (.sl (.u 16))],[Ay]⟩
abbrev Ii:Bd:=⟨[Bh,AB],[]⟩
abbrev Di:Bd:=⟨[Bh,.dat (.u 13)],[Ay]⟩
abbrev HI:Bd:=⟨[AB],[Ay,Ay]⟩
abbrev Jp:Bd:=⟨[.dat (.sl (.u 5))],[.dat (.u 5),Ay]⟩
abbrev Fo:Bd:=⟨[AB,.dat (.u 5),.dat (.u 5)],[.dat (.u 5),Ay]⟩
abbrev Jt:Bd:=⟨[Bh,.fn [.ptr] []],[.dat (.u 15),Ew]⟩
abbrev Lk:Bd:=⟨[Bh,.dat (.u 1)],[]⟩
abbrev CY:Bd:=⟨[Bh,AB,AB],[Ay,Ew]⟩
abbrev DT:Bd:=⟨[.dat (.sl .str),.dat .str],[Ay]⟩
abbrev Js:Bd:=⟨[.dat (.sl I6),.dat (.sl I6)],[.own I6,Ay]⟩
abbrev MQ:Bd:=⟨[.dat (.sl I6)],[.own I6]⟩
abbrev Ke:Bd:=⟨[Bh,.dat (.u 13)],[Ay,Ay]⟩
abbrev IL:Bd:=⟨[.fn [(.u 13)] [.bool],.del .ptr],[]⟩
abbrev Ih:Bd:=⟨[.fn [(.u 17),I6] [.bool],.del .ptr],[]⟩
abbrev L8:Bd:=⟨[.dat (.sl I6)],[Ew]⟩
abbrev Jq:Bd:=⟨[.fn [I6] [.bool],.del .ptr],[]⟩
abbrev CW:Nat:=0
abbrev Co:Nat:=1
abbrev CR:Nat:=2
abbrev AD:Nat:=3
abbrev CC:Nat:=4
abbrev Da:Nat:=6
abbrev Cy:Nat:=7
abbrev Cc:Nat:=8
abbrev Jx:Nat:=9
abbrev Ap:Nat:=15
abbrev LO:Nat:=23
abbrev Aj:Nat:=35
abbrev EM:Nat:=44
abbrev FX:Nat:=46
abbrev BK:Nat:=48
def sgL:List (FuncId×Bd):=[(4,G8),(8,Gv),(9,DX),(10,Bt),(11,E0),(13,EE),(14,Cv),(15,EH),(16,Ex),(17,BR),(18,Ns),(19,CL),(20,Nr),(25,Ck),(27,MR),(28,Ck),(29,MR),(30,Nt),(32,Dr),(33,Td),(34,GN),(35,Ey),(36,EF),(37,WB),(38,Fm),(39,Nl),(40,Ix),(41,EE),(42,D6),(43,Em),(44,Gr),(45,EE),(46,Ez),(47,Gq),(48,Eb),(49,GU),(50,Cv),(51,Ce),(52,No),(53,GB),(54,Bo),(55,Oh),(56,A6),(57,Ck),(58,NB),(59,Bu),(60,BO),(63,Bb),(64,EG),(65,CM),(66,CM),(67,Bu),(71,Ol),(73,LY),(74,Bo),(76,WA),(77,Bo),(78,Bo),(79,GO),(80,Td),(81,RX),(82,IJ),(83,CX),(84,GN),(85,EG),(86,CM),(87,Mc),(88,Iv),(89,IQ),(90,Gr),(91,Gg),(92,Ky),(93,BE),(94,Cm),(95,F9),(96,D5),(97,Ck),(98,Oh),(99,NB),(100,Ck),(101,Oi),(102,DG),(103,Ce),(104,Ce),(105,Jv),(106,GY),(107,NB),(108,Ck),(109,Ey),(110,Em),(111,Dt),(112,AL),(113,Dv),(114,GP),(115,BI),(116,Gp),(117,Du),(118,GU),(119,Cv),(120,EG),(122,D4),(123,GB),(124,Iv),(125,GW),(126,LZ),(127,DF),(128,AI),(129,Og),(130,Bo),(131,Oh),(132,Bu),(133,Fp),(134,BZ),(135,FA),(136,CZ),(138,BJ),(139,AF),(143,Nq),(144,Oj),(145,Iv),(146,Oe),(147,Iv),(148,DF),(149,Nn),(150,RV),(151,RU),(152,L9),(155,Ie),(156,Gt),(157,Gu),(158,IE),(159,IJ),(160,AU),(161,Mc),(162,DR),(163,Iv),(164,HG),(165,EA),(166,Gr),(167,F5),(168,Iv),(169,EG),(170,Md),(171,Ee),(172,Bo),(173,F6),(174,Iv),(175,DX),(176,Ec),(177,ET),(178,GQ),(179,Av),(180,CX),(181,EG),(183,Bc),(186,Iv),(187,Nn),(188,Np),(189,D3),(190,Oi),(191,Of),(196,RZ),(197,FR),(198,Em),(199,NB),(200,FQ),(203,RY),(204,Gh),(205,Gt),(206,Bx),(207,Cv),(208,IM),(209,Ij),(210,Cv),(211,Cv),(212,Ii),(213,Bo),(214,DF),(215,Ii),(216,Di),(217,DF),(218,Ii),(219,HI),(220,AL),(221,Jp),(222,Fo),(223,Iv),(224,HI),(225,Gt),(226,D3),(227,Jt),(228,Lk),(229,Cv),(230,BR),(232,CY),(233,Oi),(235,AF),(249,DT),(251,Iv),(253,NB),(254,Cv),(255,Cv),(257,Js),(258,MQ),(259,Ke),(266,IL),(268,Ih),(274,L8),(275,MQ),(276,BJ),(278,Jq)]
def lkG:List (FuncId×Bd)->FuncId->Option Bd
 | [],_=>τ
 |p::l,i=>if p.1=i then ν p.2 else lkG l i
def sg:FuncId->Option Bd:=lkG sgL
def A7k:List (TypeId×(List Ty×List Ty)):=[(1,[],[]),(68,[.ptr,(.sl I6)],[I6,I6]),(111,[I6,I6],[.bool]),(120,[.ptr,I6,I6],[I6,I6]),(133,[],[(.sl I6)]),(150,[I6],[.bool]),(174,[.ptr],[I6]),(181,[I6,I6,I6],[]),(187,[.ptr,I6,I6],[I6]),(191,[.ptr],[]),(206,[(.int .u8)],[.bool]),(210,[(.u 0)],[.bool]),(213,[(.u 3),I6],[.bool]),(287,[I6],[I6]),(316,[(.u 13)],[.bool]),(318,[(.u 17),I6],[.bool]),(323,[(.u 17),(.u 17)],[I6])]
def lkT:List (TypeId×(List Ty×List Ty))->TypeId->Option (List Ty×List Ty)
 | [],_=>τ
 |p::l,i=>if p.1=i then ν p.2 else lkT l i
def Ss:TypeId->Option (List Ty×List Ty):=lkT A7k
end Go.Proofs.YtcbkbpjlbmalmaaGreatDoor
namespace Go.Proofs.YtcbkbpjlbmalmaaGreatDoor
open Go Go.X Go.Y Go.RowKit Go.ChangeShapes Go.WideShapes Go.ChangeAt Go.Deep
section
def VW(w:World):Cb:=λb=>b<w.heap.size
theorem VW.st(w:World):St (VW w) w []:=⟨λ_ h=>h,λ_ h=>by grind,List.nodup_nil⟩
theorem A1h{I':Cb}{w w':World}(h:Ext (VW w) w I' w'):Below w.heap.size w w':=⟨h.os,h.tape,h.output,h.size,λk a=>h.BX k a⟩
theorem Ak7{w:World}{base:Nat}{a:Addr}{n:Nat}{v:Value}(d:a.spot=τ)(h:w.cells? base a n=ν v.cells.toList):Dn w a v:=by obtain⟨_,i,f⟩:=World.cells?_some h;refine⟨d,λj g=>?_⟩;have e:=f j (by grind);rw[Array.getElem?_toList]at e;rw[<-e];obtain⟨b,o,s⟩:=a;obtain rfl:s=τ:=d;grind[Addr.add]
theorem Ard{α:Type}{n:Nat}{p:Nat->α->Prop}(h:∀i,i<n->∃x,p i x):∃xs:List α,δ xs=n/\∀i(hi:i<δ xs),p i xs[i]:=by
 induction n with
 |zero=>simp
 |succ n e=>
  obtain⟨xs,a,c⟩:=e λi hi=>h i (by omega);obtain⟨x,d⟩:=h n (by omega);refine⟨xs++[x],by simp [a],λi hi=>?_⟩;grind
set_option maxRecDepth 100000
noncomputable abbrev YQ:US:=Y0.toUS
def RdF(n:Nat)(t:TypeId)(T:Ty):Prop:=∀{H:Type}{enc:TypeId×Value->H}{w:World}{base:Nat}{sp:Nat->Bool}{held:Bool}{cs:List Value}{x:DataW H×List MemPlace},DataW.trod enc Tryz.prog w base sp held n t cs=ν x->∃v,∃y:den YQ.D T,cs=v.cells.toList/\rp YQ T (VW w) w v y
theorem On{n:Nat}{t:TypeId}(b:Tryz.prog.underlying t=ν (.int .i64)):RdF n t I6:=λh=>by obtain⟨m,rfl,_,a⟩:=DataW.trod_int b h;refine⟨_,m,rfl,AS.2 ⟨rfl,?_⟩⟩;grind[Lit.wf,IntKind.min,IntKind.max,IntKind.signed,IntKind.bits,Aq]
theorem Atl{n:Nat}{t:TypeId}(a:Tryz.prog.underlying t=ν .bool):RdF n t .bool:=λh=>by obtain⟨m,rfl,_⟩:=DataW.trod_bool a h;exact⟨_,m,rfl,HQ.2 rfl⟩
theorem Aod{n:Nat}{t:TypeId}(b:Tryz.prog.underlying t=ν .string):RdF n t .str:=λh=>by obtain⟨m,rfl,_,a⟩:=DataW.trod_string b h;exact⟨_,m,rfl,Nv.2 ⟨rfl,by grind[maxLen,Pd]⟩⟩
theorem Adk{n:Nat}{t e:TypeId}{T:Ty}(Z:Tryz.prog.underlying t=ν (.slice e))(N:Tryz.prog.cellsOf e=sz YQ T)(X:∀m,m<n->RdF m e T){H:Type}{enc:TypeId×Value->H}{w:World}{base:Nat}{sp:Nat->Bool}{held:Bool}{cs:List Value}{x:DataW H×List MemPlace}(h:DataW.trod enc Tryz.prog w base sp held n t cs=ν x):∃v,∃y:List (den YQ.D T),cs=v.cells.toList/\rp YQ (.sl T) (VW w) w v y/\(y=[]∨∃es rs,x.1=.slice es rs/\δ es=δ y):=by
 rcases DataW.trod_slice Z h with ⟨rfl,_⟩|⟨a,d,k,A,I,m,rfl,rfl,rfl,hb,hl,M,l,z,_,_⟩
 .exact⟨.slice _ 0 0,[],rfl,Te.2 ⟨τ,0,rfl,Nat.le_refl _,by decide,.inl rfl⟩,.inl rfl⟩
 .have C:∀i,i<d->∃y:den _ T,(a.add (i*sz YQ T)).spot=τ/\a.block<w.heap.size/\∃v,rp YQ T (VW w) w v y/\Dn w ⟨a.block,a.off+i*sz YQ T,τ⟩ v:=by
   intro i O;have D:=z i O;rw[ac (by omega)]at D;obtain⟨K,p,U⟩:=Option.bind_eq_some_iff.1 D;obtain⟨v,y,rfl,r⟩:=X m (Nat.lt_succ_self _) U;rw[N]at p;obtain⟨W,q,V⟩:=World.cells?_some p;have c:=Anw (S:=YQ) T;obtain⟨E,L⟩:∃E,v.cells.toList[0]?=ν E:=⟨_,ac (by omega)⟩
   have Y:=(V 0 c).trans L;have f:=by have:=World.cell?_spot Y;simpa [Addr.add] using this
   have g:=by have:=World.cells?_block p c;unfold Addr.add at this;split at this<;>exact this
   have P:⟨a.block,a.off+i*sz YQ T,τ⟩=a.add (i*sz YQ T):=by
    obtain⟨b,o,s⟩:=a;by_cases G:i*sz YQ T=0
    .rw[G]at f ⊢;simp [Addr.add]at f ⊢;exact f.symm
    .simp [Addr.add,G]
   grind[Ak7]
  obtain⟨u,q,c⟩:=Ard C;refine⟨.slice _ d k,u,rfl,Te.2 ⟨ν a,k,by rw[q],by omega,by grind[maxLen,Pd],?_⟩,.inr ⟨_,_,rfl,by rw[ay,l,q]⟩⟩;by_cases J:u=[]
  .grind
  .have B:=List.length_pos_iff.2 J;obtain⟨F,Q,_⟩:=c 0 B;refine .inr ⟨a.block,a.off,?_,Q,λj R=>(c j R).2.2⟩;rw[Nat.zero_mul]at F;obtain⟨b,o,s⟩:=a;exact congrArg _ (by rw[show s=τ from F])
theorem Aar{n:Nat}{t e:TypeId}{T:Ty}(d:Tryz.prog.underlying t=ν (.slice e))(c:Tryz.prog.cellsOf e=sz YQ T)(b:∀m,m<n->RdF m e T):RdF n t (.sl T):=λh=>by grind[Adk]
theorem Azw{α:Type}{l:List α}(h:δ l=4):∃a b c d,l=[a,b,c,d]:=by
 match l,h with
 | [a,b,c,d],_=>simp
theorem Azx{α:Type}{l:List α}(h:δ l=3):∃a b c,l=[a,b,c]:=by
 match l,h with
 | [a,b,c],_=>simp
section
variable {H:Type} {enc:TypeId×Value->H} {w:World} {base:Nat} {sp:Nat->Bool} {held:Bool} {n:Nat} {t:TypeId} {fs:Array Field} {cs:List Value} {x:DataW H×List MemPlace} {t0 t1 t2 t3:TypeId}
theorem Zq(z:Tryz.prog.underlying t=ν (.struct fs))(B:Tryz.prog.cellsOf t=4)(hs:fs.toList.map (λf=>(f.offset,f.type))=[(0,t0),(1,t1),(2,t2),(3,t3)])(A:Tryz.prog.cellsOf t0=1)(F:Tryz.prog.cellsOf t1=1)(H:Tryz.prog.cellsOf t2=1)(C:Tryz.prog.cellsOf t3=1)(h:DataW.trod enc Tryz.prog w base sp held n t cs=ν x):∃m a b c d x0 x1 x2 x3,n=m+1/\cs=[a,b,c,d]/\x.1=.agg [x0.1,x1.1,x2.1,x3.1]/\DataW.trod enc Tryz.prog w base sp held m t0 [a]=ν x0/\DataW.trod enc Tryz.prog w base sp held m t1 [b]=ν x1/\DataW.trod enc Tryz.prog w base sp held m t2 [c]=ν x2/\DataW.trod enc Tryz.prog w base sp held m t3 [d]=ν x3:=by obtain⟨q,m,rfl,rfl,o,s,e⟩:=DataW.trod_struct z h;obtain⟨l⟩:=fs;obtain⟨y,r,G,u,rfl⟩:=Azw (show δ l=4 by simpa using congrArg bw hs);simp   at hs;obtain⟨⟨v,rfl⟩,⟨p,rfl⟩,⟨E,rfl⟩,⟨D,rfl⟩⟩:=hs;rw[B]at o;obtain⟨x0,x1,x2,x3,rfl⟩:=Azw (show δ q=4 from s);obtain⟨a,b,c,d,rfl⟩:=Azw o;have g:=e 0 y rfl;have j:=e 1 r rfl;have k:=e 2 G rfl;have i:=e 3 u rfl;rw[v,A]at g;rw[p,F]at j;rw[E,H]at k;rw[D,C]at i;exact⟨m,a,b,c,d,x0,x1,x2,x3,rfl,rfl,rfl,g,j,k,i⟩
theorem Zr(A:Tryz.prog.underlying t=ν (.struct fs))(y:Tryz.prog.cellsOf t=3)(hs:fs.toList.map (λf=>(f.offset,f.type))=[(0,t0),(1,t1),(2,t2)])(o:Tryz.prog.cellsOf t0=1)(v:Tryz.prog.cellsOf t1=1)(k:Tryz.prog.cellsOf t2=1)(h:DataW.trod enc Tryz.prog w base sp held n t cs=ν x):∃m a b c x0 x1 x2,n=m+1/\cs=[a,b,c]/\x.1=.agg [x0.1,x1.1,x2.1]/\DataW.trod enc Tryz.prog w base sp held m t0 [a]=ν x0/\DataW.trod enc Tryz.prog w base sp held m t1 [b]=ν x1/\DataW.trod enc Tryz.prog w base sp held m t2 [c]=ν x2:=by obtain⟨B,m,rfl,rfl,g,u,d⟩:=DataW.trod_struct A h;obtain⟨l⟩:=fs;obtain⟨z,q,s,rfl⟩:=Azx (show δ l=3 by simpa using congrArg bw hs);simp   at hs;obtain⟨⟨p,rfl⟩,⟨C,rfl⟩,⟨r,rfl⟩⟩:=hs;rw[y]at g;obtain⟨x0,x1,x2,rfl⟩:=Azx (show δ B=3 from u);obtain⟨a,b,c,rfl⟩:=Azx g;have j:=d 0 z rfl;have e:=d 1 q rfl;have i:=d 2 s rfl;rw[p,o]at j;rw[C,v]at e;rw[r,k]at i;exact⟨m,a,b,c,x0,x1,x2,rfl,rfl,rfl,j,e,i⟩
end
variable {v:Value}
theorem one_cell{T:Ty}(b:T.leaf=φ){I:Cb}{w:World}{a:Value}{y:den YQ.D T}(h:[a]=v.cells.toList)(r:rp YQ T I w v y):rp YQ T I w a y:=by grind[K0]
theorem Ayg{n:Nat}:RdF n 53 (.u 0):=λh=>by obtain⟨m,a,b,c,d,x0,x1,x2,x3,rfl,rfl,_,h0,h1,h2,h3⟩:=Zq Tryz.underlying53 (by kernel_rfl) rfl (by kernel_rfl) (by kernel_rfl) (by kernel_rfl) (by kernel_rfl) h;obtain⟨v0,y0,e0,r0⟩:=Aod Tryz.underlying9 h0;obtain⟨v1,y1,e1,r1⟩:=Atl Tryz.underlying4 h1;obtain⟨v2,y2,e2,r2⟩:=On Tryz.underlying3 h2;obtain⟨v3,y3,e3,r3⟩:=On Tryz.underlying3 h3;exact⟨.agg ⟨[a,b,c,d]⟩,(⟨y0,y1,y2,y3⟩:Al),rfl,HO.2 ⟨[a,b,c,d],rfl,F2.cons (one_cell rfl e0 r0) (F2.cons (one_cell rfl e1 r1) (F2.cons (one_cell rfl e2 r2) (F2.cons (one_cell rfl e3 r3) F2.nil)))⟩⟩
theorem Aoe{n:Nat}:RdF n 87 (.u 1):=λh=>by obtain⟨m,a,b,c,x0,x1,x2,rfl,rfl,_,h0,h1,h2⟩:=Zr Tryz.underlying87 (by kernel_rfl) rfl (by kernel_rfl) (by kernel_rfl) (by kernel_rfl) h;obtain⟨v0,y0,e0,r0⟩:=On Tryz.underlying3 h0;obtain⟨v1,y1,e1,r1⟩:=On Tryz.underlying3 h1;obtain⟨v2,y2,e2,r2⟩:=On Tryz.underlying3 h2;exact⟨.agg ⟨[a,b,c]⟩,(⟨y0,y1,y2⟩:BQ),rfl,HO.2 ⟨[a,b,c],rfl,F2.cons (one_cell rfl e0 r0) (F2.cons (one_cell rfl e1 r1) (F2.cons (one_cell rfl e2 r2) F2.nil))⟩⟩
theorem Atm:∀n:Nat,RdF n 29 (.u 3):=by
 intro n;induction n using Nat.strongRecOn with
 |_ n ih=>
  intro H enc w base sp held cs x h;obtain⟨m,a,b,c,d,x0,x1,x2,x3,rfl,rfl,_,h0,h1,h2,h3⟩:=Zq Tryz.underlying29 (by kernel_rfl) rfl (by kernel_rfl) (by kernel_rfl) (by kernel_rfl) (by kernel_rfl) h;obtain⟨v0,y0,e0,r0⟩:=On Tryz.underlying3 h0;obtain⟨v1,y1,e1,r1⟩:=On Tryz.underlying3 h1;obtain⟨v2,y2,e2,r2⟩:=Aod Tryz.underlying9 h2;obtain⟨v3,y3,e3,r3⟩:=Aar Tryz.underlying27 (by kernel_rfl) (λk hk=>ih k (by omega)) h3;exact⟨.agg ⟨[a,b,c,d]⟩,(⟨y0,y1,y2,y3⟩:Ab),rfl,HO.2 ⟨[a,b,c,d],rfl,F2.cons (one_cell rfl e0 r0) (F2.cons (one_cell rfl e1 r1) (F2.cons (one_cell rfl e2 r2) (F2.cons (one_cell rfl e3 r3) F2.nil)))⟩⟩
theorem Ayh{n:Nat}{H:Type}{enc:TypeId×Value->H}{w:World}{base:Nat}{sp:Nat->Bool}{held:Bool}{x:DataW H×List MemPlace}(hv:∃cs,v=.agg cs)(h:DataW.trod enc Tryz.prog w base sp held n 26 v.cells.toList=ν x):∃y:B0,rp YQ (.u 2) (VW w) w v y/\(y.Aa=[]∨∃es rs ds,x.1=.agg (.slice es rs::ds)/\δ es=δ y.Aa):=by
 obtain⟨⟨l⟩,rfl⟩:=hv;obtain⟨m,a,b,c,x0,x1,x2,rfl,e,hx,h0,h1,h2⟩:=Zr Tryz.underlying26 (by kernel_rfl) rfl (by kernel_rfl) (by kernel_rfl) (by kernel_rfl) h;have e:l=[a,b,c]:=e;subst e;obtain⟨v0,y0,e0,r0,hl⟩:=Adk Tryz.underlying22 (by kernel_rfl) (λk _=>Ayg) h0;obtain⟨v1,y1,e1,r1⟩:=Aar Tryz.underlying23 (by kernel_rfl) (λk _=>On Tryz.underlying3) h1;obtain⟨v2,y2,e2,r2⟩:=Aar Tryz.underlying24 (by kernel_rfl) (λk _=>Aoe) h2;refine⟨(⟨y0,y1,y2⟩:B0),HO.2 ⟨[a,b,c],rfl,F2.cons (one_cell rfl e0 r0) (F2.cons (one_cell rfl e1 r1) (F2.cons (one_cell rfl e2 r2) F2.nil))⟩,?_⟩;rcases hl with hl|⟨es,rs,hs,hn⟩
 .exact .inl hl
 .exact .inr ⟨es,rs,[x1.1,x2.1],by rw[hx,hs],hn⟩
theorem A2q{n:Nat}{H:Type}{enc:TypeId×Value->H}{w:World}{base:Nat}{sp:Nat->Bool}{held:Bool}{x:DataW H×List MemPlace}(a:∃cs,v=.agg cs)(h:DataW.trod enc Tryz.prog w base sp held n 29 v.cells.toList=ν x):∃y:Ab,rp YQ (.u 3) (VW w) w v y:=by obtain⟨⟨l⟩,rfl⟩:=a;obtain⟨b,y,e,r⟩:=Atm n h;obtain⟨cs,rfl,c⟩:=HO.1 r;have e:l=cs:=e;grind
theorem b53:Tryz.prog.bytesOf 53=40:=by kernel_rfl
theorem Avw{H:Type}{ds:List (DataW H)}{es rs dr:List (DataW H)}{ts:List TypeId}(h:(DataW.weightsEach Tryz.prog (26::ts) (.agg (.slice es rs::dr)::ds)).all (·<=reachBytes)=φ):δ es<=1000000000000000:=by
 have a:=List.all_eq_true.1 h ((δ es+δ rs)*40) (by unfold DataW.weightsEach;refine ao _ ?_;unfold DataW.weights;rw[Tryz.underlying26];simp;grind[DataW.weightsEach,ao,DataW.weights,Tryz.underlying22,b53,List.mem_cons_self])
 grind[reachBytes]
end
end Go.Proofs.YtcbkbpjlbmalmaaGreatDoor
namespace Go.Proofs.YtcbkbpjlbmalmaaGreatDoor
open Go Go.X Go.Y
theorem mpP{p q:Prop}(e:p=q)(h:p):q:=b0 e h
theorem wF(F:Func)(n:An Y0){q:FuncId}{σ:Bd}{a:JK Y0 σ.args}{H:HY}{Q:MF Y0 σ.res->O6 Y0 σ.args->HP}{X:PX}{p:Prop}(h:p)(hf:Y0.P.funcs[q]?=ν F:=by kernel_rfl)(e:p=fnX sg Ss pfT F σ n a H Q X:=by kernel_rfl):qK q σ a H Q X:=Wt hf (mpP e h)
theorem wFS(F:Func)(n:An Y0){q:FuncId}{σ:Bd}{a:JK Y0 σ.args}{H:HY}{Q:MF Y0 σ.res->O6 Y0 σ.args->HP}{X:PX}{p:Prop}(h:p)(hf:Y0.P.funcs[q]?=ν F:=by kernel_rfl)(e:p=fnS sg Ss pfT F σ n a H Q X:=by kernel_rfl):qK q σ a H Q X:=Akp hf (mpP e h)
noncomputable def Dc:Vh Y0 62:=TB {N:=0,Pf:=Ss,sigs:=sg,pf:=pfT,X:=λ_ _ _=>False,lp:=[],jn:=[],pr:=[],im:=[1]} 62 Tryz.f62 (by kernel_rfl) (by kernel_rfl)
noncomputable def PL:Vh Y0 153:=TB {N:=0,Pf:=Ss,sigs:=sg,pf:=pfT,X:=λ_ _ _=>False,lp:=[],jn:=[],pr:=[(3,7)],im:=[]} 153 Tryz.f153 (by kernel_rfl) (by kernel_rfl)
noncomputable def CH:Vh Y0 192:=TB {N:=0,Pf:=Ss,sigs:=sg,pf:=pfT,X:=λ_ _ _=>False,lp:=[],jn:=[],pr:=[],im:=[1]} 192 Tryz.f192 (by kernel_rfl) (by kernel_rfl)
noncomputable def Ef:Vh Y0 193:=A0a {N:=0,Pf:=Ss,sigs:=sg,pf:=pfT,X:=λ_ _ _=>False,lp:=[],jn:=[],pr:=[(2,15)],im:=[],tk:=[12],tw:=[12]} 193 Tryz.f193 (by kernel_rfl) (by kernel_rfl)
noncomputable def IV:Vh Y0 247:=TB {N:=0,Pf:=Ss,sigs:=sg,pf:=pfT,X:=λ_ _ _=>False,lp:=[(3,⟨[(5,.one (.dat (.int .u64))),(13,.nat)],[0,12],φ⟩)],jn:=[],pr:=[],im:=[3]} 247 Tryz.f247 (by kernel_rfl) (by kernel_rfl)
noncomputable def Jz:Vh Y0 250:=TB {N:=0,Pf:=Ss,sigs:=sg,pf:=pfT,X:=λ_ _ _=>False,lp:=[],jn:=[],pr:=[],im:=[1]} 250 Tryz.f250 (by kernel_rfl) (by kernel_rfl)
noncomputable def IU:Vh Y0 252:=TB {N:=0,Pf:=Ss,sigs:=sg,pf:=pfT,X:=λ_ _ _=>False,lp:=[],jn:=[],pr:=[],im:=[1]} 252 Tryz.f252 (by kernel_rfl) (by kernel_rfl)
noncomputable def Ki:Vh Y0 267:=TB {N:=0,Pf:=Ss,sigs:=sg,pf:=pfT,X:=λ_ _ _=>False,lp:=[],jn:=[],pr:=[],im:=[1]} 267 Tryz.f267 (by kernel_rfl) (by kernel_rfl)
noncomputable def A7c:(q:FuncId)->Option (Vh Y0 q)
 |62=>ν Dc
 |153=>ν PL
 |192=>ν CH
 |193=>ν Ef
 |247=>ν IV
 |250=>ν Jz
 |252=>ν IU
 |267=>ν Ki
 |_=>τ
noncomputable def JW:Vh Y0 137:=TB {N:=0,Pf:=Ss,sigs:=sg,pf:=pfT,X:=λ_ _ _=>False,lp:=[],jn:=[],pr:=[],im:=[],il:=A7c} 137 Tryz.f137 (by kernel_rfl) (by kernel_rfl)
noncomputable def A7b:(q:FuncId)->Option (Vh Y0 q)
 |62=>ν Dc
 |137=>ν JW
 |153=>ν PL
 |192=>ν CH
 |193=>ν Ef
 |247=>ν IV
 |250=>ν Jz
 |252=>ν IU
 |267=>ν Ki
 |_=>τ
noncomputable def PM:Vh Y0 61:=TB {N:=0,Pf:=Ss,sigs:=sg,pf:=pfT,X:=λ_ _ _=>False,lp:=[],jn:=[],pr:=[],im:=[],il:=A7b} 61 Tryz.f61 (by kernel_rfl) (by kernel_rfl)
noncomputable def ilT:(q:FuncId)->Option (Vh Y0 q)
 |61=>ν PM
 |62=>ν Dc
 |137=>ν JW
 |153=>ν PL
 |192=>ν CH
 |193=>ν Ef
 |247=>ν IV
 |250=>ν Jz
 |252=>ν IU
 |267=>ν Ki
 |_=>τ
end Go.Proofs.YtcbkbpjlbmalmaaGreatDoor
namespace Go.Proofs.YtcbkbpjlbmalmaaGreatDoor
open Go Go.Shelf
def Aah:Go.Shelf.Ren:=⟨fun|6=>269|15=>195|14=>279|28=>245|29=>246|20=>281|21=>282|22=>283|23=>284|24=>285|25=>286|26=>287|27=>288|46=>289|47=>261|48=>262|49=>290|50=>291|57=>292|n=>n,fun|22=>305|24=>288|25=>323|3=>3|39=>237|0=>0|53=>285|55=>183|4=>4|46=>279|45=>278|50=>47|5=>5|9=>9|66=>310|70=>314|76=>325|77=>82|n=>n,fun|n=>n⟩
theorem Acz:Go.Proofs.SlLaysF0.n6 Tryz.prog Aah:={
 mixed:=by kernel_rfl,
 f6:=⟨Tryz.f269.name,by decide,Tryz.func269.trans (congrArg ν (by kernel_rfl))⟩,
 f14:=⟨Tryz.f279.name,by decide,Tryz.func279.trans (congrArg ν (by kernel_rfl))⟩,
 f15:=Tryz.func195.trans (congrArg ν (by kernel_rfl)),
 f20:=⟨Tryz.f281.name,by decide,Tryz.func281.trans (congrArg ν (by kernel_rfl))⟩,
 f21:=⟨Tryz.f282.name,by decide,Tryz.func282.trans (congrArg ν (by kernel_rfl))⟩,
 f22:=⟨Tryz.f283.name,by decide,Tryz.func283.trans (congrArg ν (by kernel_rfl))⟩,
 f23:=⟨Tryz.f284.name,by decide,Tryz.func284.trans (congrArg ν (by kernel_rfl))⟩,
 f24:=⟨Tryz.f285.name,by decide,Tryz.func285.trans (congrArg ν (by kernel_rfl))⟩,
 f25:=⟨Tryz.f286.name,by decide,Tryz.func286.trans (congrArg ν (by kernel_rfl))⟩,
 f26:=⟨Tryz.f287.name,by decide,Tryz.func287.trans (congrArg ν (by kernel_rfl))⟩,
 f27:=⟨Tryz.f288.name,by decide,Tryz.func288.trans (congrArg ν (by kernel_rfl))⟩,
 f28:=Tryz.func245.trans (congrArg ν (by kernel_rfl)),
 f29:=Tryz.func246.trans (congrArg ν (by kernel_rfl)),
 f46:=⟨Tryz.f289.name,by decide,Tryz.func289.trans (congrArg ν (by kernel_rfl))⟩,
 f47:=Tryz.func261.trans (congrArg ν (by kernel_rfl)),
 f48:=Tryz.func262.trans (congrArg ν (by kernel_rfl)),
 f49:=⟨Tryz.f290.name,by decide,Tryz.func290.trans (congrArg ν (by kernel_rfl))⟩,
 f50:=⟨Tryz.f291.name,by decide,Tryz.func291.trans (congrArg ν (by kernel_rfl))⟩,
 f57:=⟨Tryz.f292.name,by decide,Tryz.func292.trans (congrArg ν (by kernel_rfl))⟩,
 t0:=Tryz.underlying0,
 a0:=Tryz.isAgg0,
 z0:=Tryz.sizeOf0,
 v0:=Tryz.zeroValue0,
 t3:=Tryz.underlying3,
 a3:=Tryz.isAgg3,
 z3:=Tryz.sizeOf3,
 v3:=Tryz.zeroValue3,
 t4:=Tryz.underlying4,
 a4:=Tryz.isAgg4,
 z4:=Tryz.sizeOf4,
 v4:=Tryz.zeroValue4,
 t5:=Tryz.underlying5,
 a5:=Tryz.isAgg5,
 z5:=Tryz.sizeOf5,
 v5:=Tryz.zeroValue5,
 t9:=Tryz.underlying9,
 a9:=Tryz.isAgg9,
 z9:=Tryz.sizeOf9,
 v9:=Tryz.zeroValue9,
 t22:=Tryz.underlying305,
 a22:=Tryz.isAgg305,
 z22:=Tryz.sizeOf305,
 v22:=Tryz.zeroValue305,
 t25:=Tryz.underlying323,
 a25:=Tryz.isAgg323,
 z25:=Tryz.sizeOf323,
 v25:=Tryz.zeroValue323,
 t39:=Tryz.underlying237,
 a39:=Tryz.isAgg237,
 z39:=Tryz.sizeOf237,
 v39:=Tryz.zeroValue237,
 t45:=Tryz.underlying278,
 a45:=Tryz.isAgg278,
 z45:=Tryz.sizeOf278,
 v45:=Tryz.zeroValue278,
 t46:=Tryz.underlying279,
 a46:=Tryz.isAgg279,
 z46:=Tryz.sizeOf279,
 v46:=Tryz.zeroValue279,
 t50:=Tryz.underlying47,
 a50:=Tryz.isAgg47,
 z50:=Tryz.sizeOf47,
 v50:=Tryz.zeroValue47,
 t53:=Tryz.underlying285,
 a53:=Tryz.isAgg285,
 z53:=Tryz.sizeOf285,
 v53:=Tryz.zeroValue285,
 t55:=Tryz.underlying183,
 a55:=Tryz.isAgg183,
 z55:=Tryz.sizeOf183,
 v55:=Tryz.zeroValue183,
 t66:=Tryz.underlying310,
 a66:=Tryz.isAgg310,
 z66:=Tryz.sizeOf310,
 v66:=Tryz.zeroValue310,
 t70:=Tryz.underlying314,
 a70:=Tryz.isAgg314,
 z70:=Tryz.sizeOf314,
 v70:=Tryz.zeroValue314,
 t76:=Tryz.underlying325,
 a76:=Tryz.isAgg325,
 z76:=Tryz.sizeOf325,
 v76:=Tryz.zeroValue325,
 t77:=Tryz.underlying82,
 a77:=Tryz.isAgg82,
 z77:=Tryz.sizeOf82,
 v77:=Tryz.zeroValue82}
end Go.Proofs.YtcbkbpjlbmalmaaGreatDoor
namespace Go.Proofs.YtcbkbpjlbmalmaaGreatDoor
open Go Go.X Go.Y
section
set_option maxRecDepth 100000
set_option maxHeartbeats 2000000
def Ri(s:Option Nat)(v:Int)(H:HY)(Q:qV->UU)(X:PX):=(s=τ->Q (-1,()) () H)/\(¬s=τ->∃(b:Nat),s=ν b/\∃(x:Ai),H b=ν (Ob.st AD x)/\x=x/\qK 186 Iv (x.levels,v,()) H (λ(b:qV)_ G=>Q (b.1,()) () G) X)
theorem Rh s v H Q X(h_:Ri s v H Q X):qK 124 Iv (s,v,()) H Q X:=wF Tryz.f124 {} h_
def Sl(s:Option Nat)(H:HY)(Q:qV->UU)(_:PX):=(s=τ->Q (0,()) () H)/\(¬s=τ->∃(b:Nat),s=ν b/\∃(x:Ai),H b=ν (Ob.st AD x)/\∃(b:Nat),x.levels=ν b/\x=x/\∃(x:AX),H b=ν (Ob.st CR x)/\(δ x.vars<=2^63-1->x=x/\Q (((δ x.vars):Int),()) () H))
theorem Sk s H Q X(h_:Sl s H Q X):qK 119 Cv (s,()) H Q X:=wF Tryz.f119 {} h_
def Sn(s:Option Nat)(H:HY)(Q:qV->UU)(X:PX):=(s=τ->Q (0,()) () H)/\(¬s=τ->∃(b:Nat),s=ν b/\∃(x:Ai),H b=ν (Ob.st AD x)/\x=x/\qK 254 Cv (x.Gx,()) H (λ(b:qV)_ G=>Q (b.1,()) () G) X)
theorem Sm s H Q X(h_:Sn s H Q X):qK 210 Cv (s,()) H Q X:=wF Tryz.f210 {} h_
def Tu(s:Option Nat)(H:HY)(Q:qV->UU)(X:PX):=(s=τ->Q (0,()) () H)/\(¬s=τ->∃(b:Nat),s=ν b/\∃(x:Ai),H b=ν (Ob.st AD x)/\x=x/\qK 255 Cv (x.Gx,()) H (λ(b:qV)_ G=>Q (b.1,()) () G) X)
theorem Tt s H Q X(h_:Tu s H Q X):qK 211 Cv (s,()) H Q X:=wF Tryz.f211 {} h_
def FB(s:Option Nat)(f:Int)(H:HY)(Q:UT->UU)(X:PX):=letI I:=FM f;letI E:=I.toNat;letI F:=IK I;(I=0->Q () () H)/\(¬I=0->∃(b:Nat),s=ν b/\∃(x:Ai),H b=ν (Ob.st AD x)/\(F->(F->0<=I)/\∃(h:(E<δ x.counts)),∃(h:(E<δ x.counts)),IK x.counts[E]->IK (x.counts[E]+1)/\(F->(F->0<=I)/\∃(h1:(E<δ x.counts)),letI P:=x.counts.set E (x.counts[E]+1);(E<δ x.counts)/\(F->(F->0<=I)/\∃(h2:E<δ P),∃(h3:E<δ P),(1<P[E]->Q () () (Ac H b (Ob.st AD {x with counts:=P})))/\(¬1<P[E]->IK x.dead->IK (x.dead-1)/\qK 183 Bc (x.Gx,I,()) (Ac H b (Ob.st AD {x with counts:=P,dead:=x.dead-1})) (λ(b:AE×qU)_ G=>qK 215 Ii (s,b.1.Lo,()) G (λ(b1 io:UT)(G:HY)=>qK 215 Ii (s,b.1.Hi,()) G (λ(b io:UT)(G:HY)=>Q () () G) X) X) X)))))
def FC(s:Option Nat)(f:Int)(H:HY)(Q:UT->UU)(X:PX):=letI I:=FM f;letI E:=I.toNat;letI F:=IK I;(I=0->Q () () H)/\(¬I=0->∃(b:Nat),s=ν b/\∃(x:Ai),H b=ν (Ob.st AD x)/\(F->(F->0<=I)/\∃(h:(E<δ x.counts)),∃(h:(E<δ x.counts)),IK x.counts[E]->IK (x.counts[E]-1)/\(F->(F->0<=I)/\∃(h1:(E<δ x.counts)),letI P:=x.counts.set E (x.counts[E]-1);(E<δ x.counts)/\(F->(F->0<=I)/\∃(h2:E<δ P),∃(h3:E<δ P),(0<P[E]->Q () () (Ac H b (Ob.st AD {x with counts:=P})))/\(¬0<P[E]->IK x.dead->IK (x.dead+1)/\qK 183 Bc (x.Gx,I,()) (Ac H b (Ob.st AD {x with counts:=P,dead:=x.dead+1})) (λ(b:AE×qU)_ G=>qK 218 Ii (s,b.1.Lo,()) G (λ(b1 io:UT)(G:HY)=>qK 218 Ii (s,b.1.Hi,()) G (λ(b io:UT)(G:HY)=>Q () () G) X) X) X)))))
end
section
set_option maxRecDepth 100000
set_option maxHeartbeats 2000000
def VK(p:Option Nat)(H:HY)(Q:qV->UU)(_:PX):=(p=τ->Q (0,()) () H)/\(¬p=τ->∃(b:Nat),p=ν b/\∃(x:A7),H b=ν (Ob.st Da x)/\x=x/\Q (x.many,()) () H)
theorem VJ p H Q X(h_:VK p H Q X):qK 255 Cv (p,()) H Q X:=wF Tryz.f255 {} h_
def U7(p:Option Nat)(H:HY)(Q:qV->UU)(_:PX):=(p=τ->Q (0,()) () H)/\(¬p=τ->∃(b:Nat),p=ν b/\∃(x:A7),H b=ν (Ob.st Da x)/\x=x/\Q (x.room,()) () H)
theorem U6 p H Q X(h_:U7 p H Q X):qK 254 Cv (p,()) H Q X:=wF Tryz.f254 {} h_
def PD(l:Option Nat)(v:Int)(H:HY)(Q:qV->UU)(_:PX):=letI E:=Q ((-1:Int),()) () H;(l=τ->E)/\(¬l=τ->(v<0->E)/\(¬v<0->∃(b:Nat),l=ν b/\∃(x:AX),letI F:=δ x.level;H b=ν (Ob.st CR x)/\(F<=2^63-1->((F:Int)<=v->x=x/\E)/\(¬(F:Int)<=v->IK v->(IK v->0<=v)/\∃(h:v.toNat<F),∃(h:v.toNat<F),x=x/\Q (x.level[v.toNat],()) () H))))
theorem PC l v H Q X(h_:PD l v H Q X):qK 186 Iv (l,v,()) H Q X:=wF Tryz.f186 {} h_
def SM(t:Option Nat)(lo hi:Int)(H:HY)(Q:Int×qU->UU)(_:PX):=(t=τ->Q (0,ψ,()) () H)/\(¬t=τ->∃(b:Nat),t=ν b/\∃(x:AZ),letI E:=Ag x.ids {a0:=lo,a1:=hi:Ak};H b=ν (Ob.st Cy x)/\x=x/\Q (E.getD 0,ω (E.isSome=φ),()) () H)
theorem SL t lo hi H Q X(h_:SM t lo hi H Q X):qK 232 CY (t,lo,hi,()) H Q X:=wF Tryz.f232 {} h_
def Uq(t:Option Nat)(lo hi id:Int)(H:HY)(Q:qV->UU)(_:PX):=letI E:={a0:=lo,a1:=hi:Ak};(t=τ->Q (5,()) () H)/\(¬t=τ->∃(b:Nat),t=ν b/\∃(x:AZ),letI F:=(Ag x.ids E).isSome=φ;H b=ν (Ob.st Cy x)/\(F->x=x/\Q (6,()) () H)/\(¬F->Q (0,()) () (Ac H b (Ob.st Cy {ids:=C4 x.ids E id:AZ}))))
theorem Up t lo hi id H Q X(h_:Uq t lo hi id H Q X):qK 217 DF (t,lo,hi,id,()) H Q X:=wF Tryz.f217 {} h_
def Us(t:Option Nat)(lo hi:Int)(H:HY)(Q:qV->UU)(_:PX):=letI E:={a0:=lo,a1:=hi:Ak};letI F:=Q (5,()) () H;(t=τ->F)/\(¬t=τ->∃(b:Nat),t=ν b/\∃(x:AZ),letI I:=¬(Ag x.ids E).isSome=φ;H b=ν (Ob.st Cy x)/\(I->x=x/\F)/\(¬I->Q (0,()) () (Ac H b (Ob.st Cy {ids:=Dl x.ids E:AZ}))))
theorem Ur t lo hi H Q X(h_:Us t lo hi H Q X):qK 213 Bo (t,lo,hi,()) H Q X:=wF Tryz.f213 {} h_
end
section
theorem HS{α:Type}[DecidableEq α]:∀{l m:List α},l.Nodup->(∀k∈l,k∈m)->δ l<=δ m
 | [],_,_,_=>by simp
 |a::l,m,hn,h=>by obtain⟨h1,h2⟩:=aa.1 hn;have:=HS (m:=m.erase a) h2 λk hk=>(List.mem_erase_of_ne (λe=>h1 (by grind))).2 (h k (by grind));grind
def Pb(x:A7)(i:Int):Bool:=ω (0<=i)&&(x.taken[i.toNat]?).getD ψ
def GJ(x:A7)(i:Int):Option AE:=if Pb x i=φ then x.at_[i.toNat]? else τ
structure F4(x:A7):Prop where
 ln:δ x.at_=δ x.taken
 pos:0<δ x.at_
 room:1<=x.room/\x.room<=1048576
 len:(δ x.at_:Int)<=x.room+1
 t0:x.taken[0]?=ν ψ
 fr:∀i∈x.free,1<=i/\i<δ x.at_/\x.taken[i.toNat]?=ν ψ
 nd:x.free.Nodup
 cnt:x.many+δ x.free+1=δ x.at_
 al:∀i:Nat,1<=i->x.taken[i]?=ν ψ->(i:Int)∈x.free
 id:∀(i:Int)n,GJ x i=ν n->n.ID=i
variable {x:A7} {i:Int}
theorem P9(h:Pb x i=φ):0<=i/\i.toNat<δ x.taken/\x.taken[i.toNat]?=ν φ:=by grind[Pb]
theorem F4.tk(h:F4 x)(ht:Pb x i=φ):0<i/\i<δ x.at_/\∃n,GJ x i=ν n/\x.at_[i.toNat]?=ν n:=by
 obtain⟨h0,h1,h2⟩:=P9 ht;have hne:i≠0:=by intro e;subst e;have:=h.t0;grind
 have hl:i.toNat<δ x.at_:=by rw[h.ln];exact h1
 refine⟨by omega,by omega,x.at_[i.toNat],?_,ac hl⟩;grind[GJ]
variable {b:Nat} {H:HY} {X:PX}
theorem Sd{Q:Bool×Unit->UU}(hx:H b=ν (.st Da x))(hI:F4 x)(h:Q (Pb x i,()) () H):qK 226 D3 (ν b,i,()) H Q X:=by
 refine wF Tryz.f226 {} (?_:letI E:=Q (ψ,()) () H;(¬(ν b)=τ->(0<i->∃(a:Nat),(ν b)=ν a/\∃(x:A7),H a=ν (Ob.st Da x)/\(δ x.at_<=2^63-1->(i<((δ x.at_):Int)->IK i->(IK i->0<=i)/\∃(h:i.toNat<δ x.taken),∃(h:i.toNat<δ x.taken),x=x/\Q (x.taken[i.toNat],()) () H)/\(¬i<((δ x.at_):Int)->x=x/\E)))/\(¬0<i->E))/\(¬¬(ν b)=τ->E));refine⟨λ_=>⟨λh0=>⟨b,rfl,x,hx,λ_=>⟨λhl _=>⟨λ_=>by omega,?_⟩,λhl=>⟨rfl,?_⟩⟩⟩,λh0=>?_⟩,λhn=>qG (by simp) hn⟩
 .have hl':i.toNat<δ x.taken:=by rw[<-hI.ln];omega
  refine⟨hl',hl',rfl,?_⟩;grind[Pb,ac]
 .have:Pb x i=ψ:=by
   cases ht:Pb x i with
   |false=>rfl
   |true=>have:=(hI.tk ht).2.1;omega
  grind
 .have:Pb x i=ψ:=by
   cases ht:Pb x i with
   |false=>rfl
   |true=>have:=(hI.tk ht).1;omega
  grind
theorem Hh{Q:AE×Bool×Unit->UU}(hx:H b=ν (.st Da x))(hI:F4 x)(h0:GJ x i=τ->Q (⟨0,0,0,0,0⟩,ψ,()) () H)(h1:∀n,GJ x i=ν n->Q (n,φ,()) () H):qK 183 Bc (ν b,i,()) H Q X:=by
 refine wF Tryz.f183 {} (?_:letI E:=i.toNat;qK 226 D3 ((ν b),i,()) H (λ(a:qU)_ G=>(¬a.1->Q ({ID:=0,Var:=0,Lo:=0,Hi:=0,Refs:=0:AE},ψ,()) () G)/\(¬¬a.1->∃(a:Nat),(ν b)=ν a/\∃(x:A7),G a=ν (Ob.st Da x)/\(IK i->(IK i->0<=i)/\∃(h:E<δ x.at_),∃(h:E<δ x.at_),letI F:=x.at_[E];Q (F,φ,()) () (Ac G a (Ob.st Da x))))) X);refine Sd hx hI ⟨λhf=>?_,λht=>⟨b,rfl,x,hx,λ_=>⟨λ_=>?_,?_⟩⟩⟩
 .simp_all[GJ]
 .grind[Pb,P9]
 .have ht:Pb x i=φ:=by grind
  obtain⟨_,_,n,hn,hg⟩:=hI.tk ht;grind[ah,LP]
theorem Ais{c:Bool}(hi:0<=i)(hl:i.toNat<δ x.taken){a:List AE}{f:List Int}{m:Int}(j:Int):Pb {room:=x.room,at_:=a,taken:=x.taken.set i.toNat c,free:=f,many:=m} j=if j=i then c else Pb x j:=by grind[Pb]
theorem P6{n:AE}{Q:Int×Unit->UU}(hx:H b=ν (.st Da x))(hI:F4 x)(h0:GJ x n.ID=τ->Q (5,()) () H)(h1:∀m x',GJ x n.ID=ν m->F4 x'->(∀j,GJ x' j=if j=n.ID then ν n else GJ x j)->x'.many=x.many->x'.room=x.room->δ x'.at_=δ x.at_->Q (0,()) () (Ac H b (.st Da x'))):qK 216 Di (ν b,n,()) H Q X:=by
 refine wF Tryz.f216 {im:=[3]} (?_:letI E:=n.ID.toNat;qK 226 D3 ((ν b),n.ID,()) H (λ(a:qU)_ G=>(¬a.1->Q (5,()) () G)/\(¬¬a.1->∃(a:Nat),(ν b)=ν a/\∃(x:A7),G a=ν (Ob.st Da x)/\(IK n.ID->(IK n.ID->0<=n.ID)/\∃(h:E<δ x.at_),E<δ x.at_/\Q (0,()) () (Ac G a (Ob.st Da {x with at_:=x.at_.set E n}))))) X);refine Sd hx hI ⟨λhf=>?_,λht=>⟨b,rfl,x,hx,λ_=>⟨λ_=>?_,?_⟩⟩⟩
 .exact h0 (by unfold GJ;rw[GT hf])
 .grind[Pb,P9]
 .have ht:Pb x n.ID=φ:=by grind
  obtain⟨hp,hlt,m,hm,hg⟩:=hI.tk ht;obtain⟨hl,_⟩:=ah.1 hg;refine⟨hl,hl,h1 m _ hm ?_ ?_ rfl rfl (by simp)⟩;all_goals
   have hN:∀j,GJ {room:=x.room,at_:=x.at_.set n.ID.toNat n,taken:=x.taken,free:=x.free,many:=x.many} j=if j=n.ID then ν n else GJ x j:=λj=>by have hT:Pb {room:=x.room,at_:=x.at_.set n.ID.toNat n,taken:=x.taken,free:=x.free,many:=x.many} j=Pb x j:=rfl;unfold GJ;grind
  .refine⟨by simpa using hI.ln,by grind,hI.room,by simpa using hI.len,hI.t0,λi hi=>by simpa using hI.fr i hi,hI.nd,by simpa using hI.cnt,hI.al,λj k hk=>?_⟩;rw[hN]at hk;split at hk
   .grind
   .exact hI.id j k hk
  omega
theorem Aaz{m:AE}{Q:Int×Unit->UU}(hx:H b=ν (.st Da x))(hI:F4 x)(hm:GJ x i=ν m)(h1:∀x',F4 x'->(∀j,GJ x' j=if j=i then τ else GJ x j)->x'.many=x.many-1->x'.room=x.room->δ x'.at_=δ x.at_->Q (0,()) () (Ac H b (.st Da x'))):qK 251 Iv (ν b,i,()) H Q X:=by
 have ht:Pb x i=φ:=by
  unfold GJ at hm;split at hm
  .assumption
  .cases hm
 obtain⟨hp,hlt,m',hm',hg⟩:=hI.tk ht;obtain⟨hl,_⟩:=ah.1 hg;have hl':i.toNat<δ x.taken:=by rw[<-hI.ln];exact hl
 have hni:i∉x.free:=λhf=>by have:=(hI.fr i hf).2.2;rw[(P9 ht).2.2]at this;simp at this
 have hnd:(x.free++[i]).Nodup:=by rw[bj];exact⟨hI.nd,by simp,λa ha c hc=>by simp at hc;subst hc;exact λe=>hni (e▸ha)⟩
 have hfl:δ x.free+1<=δ x.at_/\1<=x.many:=by
  have h1:((x.free++[i]).map ag).Nodup:=by
   rw[av,af];refine hnd.imp_of_mem λ{a c}ha hc hne e=>hne ?_;have pa:∀a∈x.free++[i],1<=a:=λa ha=>by
    rcases ai.1 ha with h|h
    .exact(hI.fr a h).1
    .simp at h;omega
   have:=pa a ha;have:=pa c hc;omega
  have h2:∀k∈(x.free++[i]).map ag,k∈aw (δ x.at_):=λk hk=>by
   obtain⟨a,ha,rfl⟩:=ak.1 hk;rw[ba];rcases ai.1 ha with h|h
   .have:=hI.fr a h;omega
   .simp at h;subst h;exact hl
  have h3:∀k∈(x.free++[i]).map ag,k≠0:=λk hk=>by
   obtain⟨a,ha,rfl⟩:=ak.1 hk;rcases ai.1 ha with h|h
   .have:=hI.fr a h;omega
   .simp at h;omega
  have h5:(0::(x.free++[i]).map ag).Nodup:=aa.2 ⟨λh=>h3 0 h rfl,h1⟩;have h4:=HS h5 (m:=aw (δ x.at_)) (λk hk=>by
   rcases br.1 hk with rfl|hk
   .rw[ba];exact hI.pos
   .exact h2 k hk)
  simp at h4;have:=hI.cnt;omega
 have hrm:=hI.room;have hln:=hI.len;refine wF Tryz.f251 {} (?_:letI E:=IK i;letI F:=i.toNat;qK 226 D3 ((ν b),i,()) H (λ(a:qU)_ G=>(¬a.1->Q (5,()) () G)/\(¬¬a.1->∃(a:Nat),(ν b)=ν a/\∃(x:A7),G a=ν (Ob.st Da x)/\(E->(E->0<=i)/\∃(h:F<δ x.at_),F<δ x.at_/\(E->(E->0<=i)/\∃(h:F<δ x.taken),F<δ x.taken/\(δ x.free+δ [i])*8<=2^47/\(IK x.many->IK (x.many-1)/\Q (0,()) () (Ac G a (Ob.st Da {x with at_:=x.at_.set F {ID:=0,Var:=0,Lo:=0,Hi:=0,Refs:=0:AE},taken:=x.taken.set F ψ,free:=x.free++[i],many:=x.many-1}))))))) X);refine Sd hx hI ⟨λhf=>qG ht hf,λ_=>⟨b,rfl,x,hx,λ_=>⟨λ_=>by omega,hl,hl,λ_=>⟨λ_=>by omega,hl',hl',by simp;omega,λhk=>⟨Aq.2 (by have:=Aq.1 hk;omega),h1 _ ?_ ?_ rfl rfl (by simp)⟩⟩⟩⟩⟩;all_goals
  have hT:=λj=>Ais (x:=x) (c:=ψ) (by omega:0<=i) hl' (a:=x.at_.set i.toNat ⟨0,0,0,0,0⟩) (f:=x.free++[i]) (m:=x.many-1) j
  have hN:∀j,GJ {room:=x.room,at_:=x.at_.set i.toNat ⟨0,0,0,0,0⟩,taken:=x.taken.set i.toNat ψ,free:=x.free++[i],many:=x.many-1} j=if j=i then τ else GJ x j:=λj=>by
   unfold GJ;rw[hT];by_cases hj:j=i
   .rw[UV hj,UV hj];simp
   .rw[GT hj,GT hj];by_cases hjt:Pb x j=φ
    .rw[UV hjt,UV hjt];have:=(P9 hjt).1;exact a7 (by omega)
    .rw[GT hjt,GT hjt]
 .refine⟨by simpa using hI.ln,by simpa using hI.pos,hI.room,by simpa using hI.len,?_,λk hk=>?_,hnd,by have:=hI.cnt;simp;omega,λk hk h=>?_,λj k hk=>?_⟩
  .show (x.taken.set i.toNat ψ)[0]?=ν ψ;rw[a7 (by omega)];exact hI.t0
  .simp only[ae];rcases ai.1 hk with h|h
   .have:=hI.fr k h;refine⟨this.1,this.2.1,?_⟩;rw[a7 (λe=>hni (by
     have:i=k:=by omega
     rw[this];exact h))]
    exact this.2.2
   .simp at h;subst h;exact⟨by omega,hlt,by simp [hl']⟩
  .by_cases e:k=i.toNat
   .refine List.mem_append_right _ ?_;simp;omega
   .have h:(x.taken.set i.toNat ψ)[k]?=ν ψ:=h;rw[a7 (Ne.symm e)]at h;exact ao _ (hI.al k hk h)
  .rw[hN]at hk;split at hk
   .cases hk
   .exact hI.id j k hk
 .exact hN
structure Ar3(x:A7)(n:AE)(i:Int)(x':A7):Prop where
 inv:F4 x'
 pos:0<i
 lt:i<δ x'.at_
 Lu:GJ x i=τ
 nd:∀j,GJ x' j=if j=i then ν {ID:=i,Var:=n.Var,Lo:=n.Lo,Hi:=n.Hi,Refs:=n.Refs} else GJ x j
 many:x'.many=x.many+1
 room:x'.room=x.room
 len:δ x.at_<=δ x'.at_
theorem Aay{n:AE}{Q:Int×Int×Unit->UU}(hx:H b=ν (.st Da x))(hI:F4 x)(h0:x.many=x.room->Q (0,7,()) () H)(h1:∀i x',Ar3 x n i x'->x.many<x.room->Q (i,0,()) () (Ac H b (.st Da x'))):qK 259 Ke (ν b,n,()) H Q X:=by
 have hrm:=hI.room;have hln:=hI.len;have hcn:=hI.cnt;have hll:=hI.ln;have hps:=hI.pos;have hmn:0<=x.many:=by
  have h1:(x.free.map ag).Nodup:=by rw[av,af];exact hI.nd.imp_of_mem λ{a c}ha hc hne e=>hne (by have:=hI.fr a ha;have:=hI.fr c hc;omega)
  have h5:(0::x.free.map ag).Nodup:=aa.2 ⟨λh=>by obtain⟨a,ha,e⟩:=ak.1 h;have:=hI.fr a ha;omega,h1⟩
  have h4:=HS h5 (m:=aw (δ x.at_)) (λk hk=>by
   rw[ba];rcases br.1 hk with rfl|hk
   .exact hI.pos
   .obtain⟨a,ha,rfl⟩:=ak.1 hk;have:=hI.fr a ha;omega)
  simp at h4;omega
 refine wF Tryz.f259 {} (?_:letI E:=[{ID:=0,Var:=0,Lo:=0,Hi:=0,Refs:=0:AE}];letI F:=[ψ];((ν b)=τ->Q (0,5,()) () H)/\(¬(ν b)=τ->∃(a:Nat),(ν b)=ν a/\∃(x:A7),letI R:=δ x.free;letI I:=(R:Int)-1;letI O:=δ x.at_;letI P:=I.toNat;letI S:=IK I;letI W:=x.many+1;H a=ν (Ob.st Da x)/\(R<=2^63-1->(0<R->R<=2^63-1->S/\(S->(S->0<=I)/\∃(h:P<R),∃(h:P<R),letI Y:=x.free[P];letI B:=IK Y;letI C:=Y.toNat;R<=2^63-1->S/\(R<=2^63-1->S/\(S->0<=I/\(S->0<=I/\P<=P/\P<=R/\(B->(B->0<=Y)/\∃(h1:C<O),C<O/\(B->(B->0<=Y)/\∃(h2:C<δ x.taken),C<δ x.taken/\(IK x.many->IK W/\Q (Y,0,()) () (Ac H a (Ob.st Da {x with at_:=x.at_.set C {n with ID:=Y},taken:=x.taken.set C φ,free:=List.take P x.free,many:=W}))))))))))/\(¬0<R->O<=2^63-1->(x.room<(O:Int)->x=x/\Q (0,7,()) () H)/\(¬x.room<(O:Int)->O<=2^63-1->(O+δ E)*40<=2^47/\(δ x.taken+δ F)*1<=2^47/\(O<=2^63-1->∃(h:O<δ (x.at_++E)),O<δ (x.at_++E)/\(O<=2^63-1->∃(h:O<δ (x.taken++F)),O<δ (x.taken++F)/\(IK x.many->IK W/\Q ((O:Int),0,()) () (Ac H a (Ob.st Da {x with at_:=(x.at_++E).set O {n with ID:=(O:Int)},taken:=(x.taken++F).set O φ,many:=W}))))))))));refine⟨λh=>qG h (by simp),λ_=>⟨b,rfl,x,hx,λ_=>⟨λhpos=>?_,λhneg=>?_⟩⟩⟩
 .intro _;replace hpos:0<δ x.free:=hpos;have hk:((δ x.free:Int)-1).toNat<δ x.free:=by omega
  generalize hkk:((δ x.free:Int)-1).toNat=k at *;have hki:((δ x.free:Int)-1)=k:=by omega
  obtain⟨i,hii⟩:∃i,i=x.free[k]:=⟨_,rfl⟩
  have hi:=hI.fr i (by rw[hii];exact bm hk);have hl:i.toNat<δ x.at_:=by omega
  have hl':i.toNat<δ x.taken:=by omega
  refine⟨Aq.2 (by omega),λ_=>⟨λ_=>by omega,hk,hk,λ_=>⟨Aq.2 (by omega),λ_=>⟨Aq.2 (by omega),λ_=>⟨by omega,λ_=>⟨by omega,Nat.le_refl _,by omega,λ_=>⟨λ_=>by rw[<-hii];omega,by rw[<-hii];exact hl,by rw[<-hii];exact hl,λ_=>⟨λ_=>by rw[<-hii];omega,by rw[<-hii];exact hl',by rw[<-hii];exact hl',λhm=>⟨Aq.2 (by omega),?_⟩⟩⟩⟩⟩⟩⟩⟩⟩;have hnt:Pb x i=ψ:=by unfold Pb;rw[hi.2.2];simp
  have hfree:x.free=x.free.take k++[i]:=by
   have:δ x.free=k+1:=by omega
   rw[hii,<-List.take_succ_eq_append_getElem hk,<-this,List.take_length]
  have hnd:=hI.nd;rw[hfree,bj]at hnd;have hnin:i∉x.free.take k:=λh=>hnd.2.2 i h i (by simp) rfl;have hT:=λj=>Ais (x:=x) (c:=φ) (by omega:0<=i) hl' (a:=x.at_.set i.toNat {ID:=i,Var:=n.Var,Lo:=n.Lo,Hi:=n.Hi,Refs:=n.Refs}) (f:=x.free.take k) (m:=x.many+1) j;have hN:∀j,GJ {room:=x.room,at_:=x.at_.set i.toNat {ID:=i,Var:=n.Var,Lo:=n.Lo,Hi:=n.Hi,Refs:=n.Refs},taken:=x.taken.set i.toNat φ,free:=x.free.take k,many:=x.many+1} j=if j=i then ν {ID:=i,Var:=n.Var,Lo:=n.Lo,Hi:=n.Hi,Refs:=n.Refs} else GJ x j:=λj=>by
   unfold GJ;rw[hT];by_cases hj:j=i
   .rw[UV hj,UV hj,UV rfl,hj];simp [hl]
   .rw[GT hj,GT hj];by_cases hjt:Pb x j=φ
    .rw[UV hjt,UV hjt];have:=(P9 hjt).1;exact a7 (by omega)
    .rw[GT hjt,GT hjt]
  rw[<-hii];refine h1 i _ ⟨?_,by omega,by simpa using hi.2.1,by unfold GJ;rw[hnt];simp,hN,rfl,rfl,by simp⟩ (by omega);refine⟨by simpa using hI.ln,by simpa using hI.pos,hI.room,by simpa using hI.len,?_,λj hj=>?_,hnd.1,?_,λj hj h=>?_,λj m hj=>?_⟩
  .show (x.taken.set i.toNat φ)[0]?=ν ψ;rw[a7 (by omega)];exact hI.t0
  .have hj:j∈x.free.take k:=hj;have hf:=hI.fr j (List.mem_of_mem_take hj);simp only[ae];refine⟨hf.1,hf.2.1,?_⟩;rw[a7 (λe=>hnin (by
    have:i=j:=by omega
    rw[this];exact hj))]
   exact hf.2.2
  .show x.many+1+(δ (x.free.take k):Int)+1=(δ (x.at_.set i.toNat _):Int);simp;omega
  .have h:(x.taken.set i.toNat φ)[j]?=ν ψ:=h;by_cases e:j=i.toNat
   .subst e;simp [hl']at h
   .rw[a7 (Ne.symm e)]at h;have:=hI.al j hj h;rw[hfree]at this;rcases ai.1 this with h2|h2
    .exact h2
    .simp at h2;omega
  .rw[hN]at hj;split at hj
   .cases hj;rename_i e;exact e.symm
   .exact hI.id j m hj
 .replace hneg:¬0<δ x.free:=hneg;have hf0:x.free=[]:=List.length_eq_zero_iff.1 (by omega);have hfl:δ x.free=0:=by omega
  refine λ_=>⟨λhfull=>⟨rfl,h0 (by omega)⟩,λhroom _=>⟨by simp;omega,by simp;omega,λ_=>⟨by simp,by simp,λ_=>⟨by simp;omega,by simp;omega,λhm=>⟨Aq.2 (by omega),?_⟩⟩⟩⟩⟩
  let z:AE:={ID:=0,Var:=0,Lo:=0,Hi:=0,Refs:=0}
  let v:AE:={ID:=(δ x.at_:Int),Var:=n.Var,Lo:=n.Lo,Hi:=n.Hi,Refs:=n.Refs}
  have ea:(x.at_++[z]).set (δ x.at_) v=x.at_++[v]:=by simp
  have et:(x.taken++[ψ]).set (δ x.at_) φ=x.taken++[φ]:=by rw[hll];simp
  show Q ((δ x.at_:Int),0,()) () (Ac H b (Ob.st Da {room:=x.room,at_:=(x.at_++[z]).set (δ x.at_) v,taken:=(x.taken++[ψ]).set (δ x.at_) φ,free:=x.free,many:=x.many+1}));rw[ea,et];have hT:∀j,Pb {room:=x.room,at_:=x.at_++[v],taken:=x.taken++[φ],free:=x.free,many:=x.many+1} j=if j=δ x.at_ then φ else Pb x j:=λj=>by
   unfold Pb;by_cases h0:0<=j
   .simp only[h0,decide_true,Bool.true_and];by_cases hj:j=δ x.at_
    .rw[UV hj];have:j.toNat=δ x.taken:=by omega
     rw[this];simp
    .rw[GT hj];by_cases hjl:j.toNat<δ x.taken
     .rw[ab hjl]
     .rw[ad (by simp;omega),ad (by omega)]
   .rw[GT (by omega)];simp [h0]
  have hN:∀j,GJ {room:=x.room,at_:=x.at_++[v],taken:=x.taken++[φ],free:=x.free,many:=x.many+1} j=if j=δ x.at_ then ν v else GJ x j:=λj=>by
   unfold GJ;rw[hT];by_cases hj:j=δ x.at_
   .rw[UV hj,UV hj,UV rfl,hj];simp
   .rw[GT hj,GT hj];by_cases hjt:Pb x j=φ
    .rw[UV hjt,UV hjt];have:=P9 hjt;exact ab (by omega)
    .rw[GT hjt,GT hjt]
  have hold:GJ x (δ x.at_:Int)=τ:=by
   unfold GJ;split
   .rename_i h;have:=(P9 h).2.1;omega
   .rfl
  refine h1 _ _ ⟨?_,by omega,by simp;omega,hold,hN,rfl,rfl,by simp⟩ (by omega);refine⟨by simp [hll],by simp,hI.room,by simp;omega,?_,λj hj=>?_,hI.nd,by simp;omega,λj hj h=>?_,λj m hj=>?_⟩
  .show (x.taken++[φ])[0]?=ν ψ;rw[ab (by omega)];exact hI.t0
  .rw[hf0]at hj;simp at hj
  .have h:(x.taken++[φ])[j]?=ν ψ:=h;by_cases hjl:j<δ x.taken
   .rw[ab hjl]at h;have:=hI.al j hj h;exact this
   .rw[au (by omega)]at h;by_cases e:j-δ x.taken=0
    .rw[e]at h;simp at h
    .rw[ad (by simp;omega)]at h;simp at h
  .rw[hN]at hj;split at hj
   .cases hj;rename_i e;exact e.symm
   .exact hI.id j m hj
end
section
section
variable {κ β:Type} [DecidableEq κ]
theorem Cw:∀(m:List (κ×β))(k:κ)(v:β)(j:κ),Ag (C4 m k v) j=if j=k then ν v else Ag m j
 | [],k,v,j=>by
  show (if k=j then ν v else τ)=_;by_cases h:j=k
  .rw[UV h.symm,UV h]
  .rw[GT (Ne.symm h),GT h];rfl
 |p::m,k,v,j=>by
  unfold C4;by_cases h:p.1=k
  .rw[UV h];grind[Ag]
  .rw[GT h];show (if p.1=j then ν p.2 else Ag (C4 m k v) j)=if j=k then ν v else (if p.1=j then ν p.2 else Ag m j)
   rw[Cw m k v j];grind
def Pc(m:List (κ×β)):Prop:=(m.map (·.1)).Nodup
variable {m:List (κ×β)}
theorem En{k:κ}:Ag m k=τ↔k∉m.map (·.1):=by
 induction m with
 |nil=>simp [Ag]
 |cons p m ih=>
  grind[Ag]
theorem U9(m:List (κ×β))(k:κ)(v:β):∀j,j∈(C4 m k v).map (·.1)↔j∈m.map (·.1)∨j=k:=by
 induction m with
 |nil=>grind[C4]
 |cons p m ih=>
  grind[C4]
theorem K8(h:Pc m)(k:κ)(v:β):Pc (C4 m k v):=by
 induction m with
 |nil=>simp [C4,Pc]
 |cons p m ih=>
  obtain⟨h1,h2⟩:=aa.1 h;unfold C4;split
  .rename_i e;exact aa.2 ⟨h1,h2⟩
  .rename_i e;refine aa.2 ⟨λhm=>?_,ih h2⟩;grind[U9]
theorem Aly(k:κ):∀j,j∈(Dl m k).map (·.1)->j∈m.map (·.1):=by
 induction m with
 |nil=>intro j h;exact h
 |cons p m ih=>
  grind[Dl]
theorem T4(h:Pc m)(k:κ):Pc (Dl m k):=by
 induction m with
 |nil=>exact h
 |cons p m ih=>
  obtain⟨h1,h2⟩:=aa.1 h;unfold Dl;split
  .exact h2
  .exact aa.2 ⟨λhm=>h1 (Aly k _ hm),ih h2⟩
theorem Jd(h:Pc m)(k j:κ):Ag (Dl m k) j=if j=k then τ else Ag m j:=by
 induction m with
 |nil=>simp [Dl,Ag]
 |cons p m ih=>
  obtain⟨h1,h2⟩:=aa.1 h;unfold Dl;by_cases e:p.1=k
  .rw[UV e];show Ag m j=if j=k then τ else (if p.1=j then ν p.2 else Ag m j)
   by_cases ej:j=k
   .simp_all[En]
   grind
  .rw[GT e];show (if p.1=j then ν p.2 else Ag (Dl m k) j)=if j=k then τ else (if p.1=j then ν p.2 else Ag m j)
   rw[ih h2];grind
end
abbrev K2:=Ak
variable {b:Nat} {x:AZ} {lo hi:Int} {H:HY} {X:PX}
theorem Pp{Q:Int×Bool×Unit->UU}(hx:H b=ν (.st Cy x))(h0:Ag x.ids (⟨lo,hi⟩:K2)=τ->Q (0,ψ,()) () H)(h1:∀i,Ag x.ids (⟨lo,hi⟩:K2)=ν i->Q (i,φ,()) () H):qK 232 CY (ν b,lo,hi,()) H Q X:=by
 refine SL _ _ _ _ _ _ ?_;refine⟨λh=>qG h (by simp),λ_=>⟨b,rfl,x,hx,rfl,?_⟩⟩;cases h:Ag x.ids (⟨lo,hi⟩:K2) with
 |none|some i=>grind
variable {Q:Int×Unit->UU}
theorem W6{i:Int}(hx:H b=ν (.st Cy x))(hn:Ag x.ids (⟨lo,hi⟩:K2)=τ)(h:Q (0,()) () (Ac H b (.st Cy ⟨C4 x.ids (⟨lo,hi⟩:K2) i⟩))):qK 217 DF (ν b,lo,hi,i,()) H Q X:=by refine Up _ _ _ _ _ _ _ ?_;refine⟨λh=>qG h (by simp),λ_=>⟨b,rfl,x,hx,λh'=>?_,λ_=>h⟩⟩;grind
theorem W7{i:Int}(hx:H b=ν (.st Cy x))(hn:Ag x.ids (⟨lo,hi⟩:K2)=ν i)(h:Q (0,()) () (Ac H b (.st Cy ⟨Dl x.ids (⟨lo,hi⟩:K2)⟩))):qK 213 Bo (ν b,lo,hi,()) H Q X:=by refine Ur _ _ _ _ _ _ ?_;refine⟨λh=>qG h (by simp),λ_=>⟨b,rfl,x,hx,λh'=>?_,λ_=>h⟩⟩;grind
def DW(x:AX)(v:Int):Int:=if 0<=v then (x.level[v.toNat]?).getD (-1) else -1
theorem VM{x:AX}{v:Int}(hx:H b=ν (.st CR x))(h:Q (DW x v,()) () H):qK 186 Iv (ν b,v,()) H Q X:=by
 refine PC _ _ _ _ _ ?_;have hv:DW x v=if 0<=v then (x.level[v.toNat]?).getD (-1) else -1:=rfl
 refine⟨λh=>qG h (by simp),λ_=>⟨λhn=>?_,λhn=>⟨b,rfl,x,hx,λ_=>⟨λhl=>⟨rfl,?_⟩,λhl _=>⟨λ_=>by omega,?_⟩⟩⟩⟩⟩;all_goals grind
end
section
structure B9 where
 bl:Nat
 bp:Nat
 tb:List Nat
 lv:AX
 po:A7
 ta:Nat->AZ
 cn:List Int
 dead:Int
def B9.ob(S:B9):Ai:={levels:=ν S.bl,Gx:=ν S.bp,tables:=S.tb.map ν,counts:=S.cn,dead:=S.dead}
structure Ca(H:HY)(b:Nat)(S:B9):Prop where
 st:H b=ν (.st AD S.ob)
 lv:H S.bl=ν (.st CR S.lv)
 po:H S.bp=ν (.st Da S.po)
 nd:S.tb.Nodup
 ta:∀v(h:v<δ S.tb),H S.tb[v]=ν (.st Cy (S.ta v))
variable {H:HY} {b:Nat}
theorem Bk{c m n:Nat}{x:Y0.O m}{y:Y0.O n}(d:H b=ν (.st m x))(a:H c=ν (.st n y))(h:m≠n):b≠c:=by grind
def OP(b:Nat)(S:B9)(H H':HY):Prop:=∀c,c≠b->c≠S.bl->c≠S.bp->c∉S.tb->H' c=H c
variable {S:B9}
theorem OP.refl:OP b S H H:=λ_ _ _ _ _=>rfl
theorem OP.trans{S':B9}{H' H'':HY}(h:OP b S H H')(k:OP b S' H' H'')(j:S'.bl=S.bl)(i:S'.bp=S.bp)(g:S'.tb=S.tb):OP b S H H'':=λc f e a d=>by rw[k c f (by omega) (by omega) (by grind),h c f e a d]
theorem Ca.U1(h:Ca H b S)(cn:List Int)(dead:Int):Ca (Ac H b (.st AD {S with cn:=cn,dead:=dead}.ob)) b {S with cn:=cn,dead:=dead}/\OP b S H (Ac H b (.st AD {S with cn:=cn,dead:=dead}.ob)):=by
 refine⟨⟨Ah _ _ _,?_,?_,h.nd,λv a=>?_⟩,λc d _ _ _=>Ad _ _ d⟩
 .rw[Ad _ _ (Bk h.lv h.st (by decide))];exact h.lv
 .rw[Ad _ _ (Bk h.po h.st (by decide))];exact h.po
 .rw[Ad _ _ (Bk (h.ta v a) h.st (by decide))];exact h.ta v a
theorem Ca.An6(h:Ca H b S)(po:A7):Ca (Ac H S.bp (.st Da po)) b {S with po:=po}/\OP b S H (Ac H S.bp (.st Da po)):=by
 refine⟨⟨?_,?_,Ah _ _ _,h.nd,λv a=>?_⟩,λc _ _ d _=>Ad _ _ d⟩
 .rw[Ad _ _ (Bk h.st h.po (by decide))];exact h.st
 .rw[Ad _ _ (Bk h.lv h.po (by decide))];exact h.lv
 .rw[Ad _ _ (Bk (h.ta v a) h.po (by decide))];exact h.ta v a
theorem Ca.A6d(h:Ca H b S)(lv:AX):Ca (Ac H S.bl (.st CR lv)) b {S with lv:=lv}/\OP b S H (Ac H S.bl (.st CR lv)):=by
 refine⟨⟨?_,Ah _ _ _,?_,h.nd,λv a=>?_⟩,λc _ d _ _=>Ad _ _ d⟩
 .rw[Ad _ _ (Bk h.st h.lv (by decide))];exact h.st
 .rw[Ad _ _ (Bk h.po h.lv (by decide))];exact h.po
 .rw[Ad _ _ (Bk (h.ta v a) h.lv (by decide))];exact h.ta v a
theorem Ca.An5(h:Ca H b S){v:Nat}(d:v<δ S.tb)(t:AZ):Ca (Ac H S.tb[v] (.st Cy t)) b {S with ta:=λw=>if w=v then t else S.ta w}/\OP b S H (Ac H S.tb[v] (.st Cy t)):=by
 have a:=h.ta v d;refine⟨⟨?_,?_,?_,h.nd,λw g=>?_⟩,λc _ _ _ i=>Ad _ _ λe=>i (by grind)⟩
 .rw[Ad _ _ (Bk h.st a (by decide))];exact h.st
 .rw[Ad _ _ (Bk h.lv a (by decide))];exact h.lv
 .rw[Ad _ _ (Bk h.po a (by decide))];exact h.po
 .simp only;by_cases e:w=v
  .subst e;rw[Ah,UV rfl]
  .rw[GT e,Ad]
   .exact h.ta w g
   .exact λf=>e ((List.getElem_inj h.nd).1 f)
def Ax(p:A7):B.Tb:=λi=>(GJ p i).map λn=>⟨n.Var,n.Lo,n.Hi⟩
def Fq(p:A7)(i:Int):Int:=match GJ p i with
 |some n=>n.Refs
 |none=>0
variable {p:A7} {i:Int}
theorem GK{d:B.Nd}(h:Ax p i=ν d):∃n,GJ p i=ν n/\n.Var=d.v/\n.Lo=d.lo/\n.Hi=d.hi:=by grind[Ax,GJ]
theorem Ic{n:AE}(h:GJ p i=ν n):Ax p i=ν ⟨n.Var,n.Lo,n.Hi⟩:=by grind[Ax]
theorem Anv(h:Ax p i=τ):GJ p i=τ:=by grind[Ax,GJ]
def Gd(l:List Int)(i:Int):Int:=if 0<=i then (l[i.toNat]?).getD 0 else 0
theorem Wm{l:List Int}(a:0<=i)(h:i.toNat<δ l):Gd l i=l[i.toNat]:=by grind[Gd]
theorem Aj5{l:List Int}{i x:Int}(b:0<=i)(h:i.toNat<δ l):Gd (l.set i.toNat (l[i.toNat]+x))=B.bump (Gd l) i x:=by
 funext j;unfold B.bump;by_cases e:j=i
 .subst e;rw[UV rfl,Wm b h];grind[Gd]
 .rw[GT e];grind[Gd]
structure SC(S:B9)(r:Int->Int):Prop where
 po:F4 S.po
 cn:B.Cn (Ax S.po) (δ S.po.at_) (Gd S.cn) r
 ln:∀i d,Ax S.po i=ν d->i.toNat<δ S.cn
 dead:S.dead=B.sm (δ S.po.at_) (B.zr (Ax S.po) (Gd S.cn))
theorem Am9{N:B.Tb}{c:Int->Int}{p:Int}:0<=B.zr N c p/\B.zr N c p<=1:=by grind[B.zr]
theorem SC.db{r:Int->Int}(h:SC S r):0<=S.dead/\S.dead<=1048577:=by rw[h.dead];have b:0<=B.sm (δ S.po.at_) (B.zr (Ax S.po) (Gd S.cn)):=B.Uz λ_ _ _=>Am9.1;have a:B.sm (δ S.po.at_) (B.zr (Ax S.po) (Gd S.cn))<=B.sm (δ S.po.at_) (λ_=>1):=B.Aih λ_ _ _=>Am9.2;rw[B.Ac1]at a;have:=h.po.len;have:=h.po.room;omega
def B9.wc(S:B9)(cn:List Int)(dead:Int):B9:={S with cn:=cn,dead:=dead}
theorem Nh{rk:Int->Int}{n:Int}{X:PX}:∀(k:Nat){S:B9}{r:Int->Int}{f:Int}{H:HY}{Q:Unit->UU},B.Dag (Ax S.po) rk n->(f/2≠0->n-rk (f/2)<k)->Ca H b S->SC S r->B.Ok (Ax S.po) f->(∀i d,Ax S.po i=ν d->r i+B.dl f i<=1152921504606846976)->(∀cn dead H',Ca H' b (S.wc cn dead)->SC (S.wc cn dead) (λi=>r i+B.dl f i)->(∀i,Gd S.cn i<=Gd cn i)->OP b S H H'->Q () () H')->qK 215 Ii (ν b,f,()) H Q X:=by
 intro k;induction k with
 |zero=>
  intro S r f H Q u E w a y C h;refine wF Tryz.f215 {} (?_:FB (ν b) f H Q X);unfold FB;rw[K6 y.1];refine⟨λt=>?_,λt=>?_⟩
  .refine h S.cn S.dead H w ⟨a.po,a.cn.congr λi o=>?_,a.ln,a.dead⟩ (λ_=>aj _) OP.refl;rw[B.L3 (by omega)];omega
  .obtain⟨d,g⟩:=y.2.resolve_left t;have:=E t;have:=u.N7 g;omega
 |succ k Z=>
  intro S r f H Q u E w a y C h;refine wF Tryz.f215 {} (?_:FB (ν b) f H Q X);unfold FB;rw[K6 y.1];refine⟨λt=>?_,λt=>?_⟩
  .refine h S.cn S.dead H w ⟨a.po,a.cn.congr λi o=>?_,a.ln,a.dead⟩ (λ_=>aj _) OP.refl;rw[B.L3 (by omega)];omega
  obtain⟨d,g⟩:=y.2.resolve_left t;obtain⟨nd,z,hv,L,N⟩:=GK g;have hrk:=u.N7 g;have hk':=E t;have hdm:=a.cn.N6 g;have e:=a.ln _ _ g;have l:0<=f/2:=by have:=y.1;omega
  have hcl:=a.cn.le g;have hcg:=a.cn.nn g;have hrb:=C _ _ g;have hpl:=a.po.len;have hpr:=a.po.room;have K:=@B.IH f;have hcn:=Wm l e;have c:=@Aj5 S.cn (f/2) 1 l e;have j:∀i,Gd S.cn i<=Gd (S.cn.set (f/2).toNat (S.cn[(f/2).toNat]+1)) i:=λi=>by rw[c];unfold B.bump;split<;>omega
  refine⟨b,rfl,S.ob,w.st,λ_=>⟨λ_=>l,e,e,λ_=>⟨Aq.2 (by show _<=S.cn[(f/2).toNat]+1/\S.cn[(f/2).toNat]+1<=_;omega),λ_=>⟨λ_=>l,e,e,λ_=>⟨λ_=>l,by simpa [B9.ob] using e,by simpa [B9.ob] using e,λF=>?_,λF T=>?_⟩⟩⟩⟩⟩
  .have R:1<S.cn[(f/2).toNat]+1:=by simpa [B9.ob] using F
   obtain⟨M,W⟩:=a.cn.A3p (f:=f) g (by omega);obtain⟨A,P⟩:=w.U1 (S.cn.set (f/2).toNat (S.cn[(f/2).toNat]+1)) S.dead;refine h _ _ _ A ⟨a.po,?_,λi v o=>by show i.toNat<δ (S.cn.set _ _);rw[ae];exact a.ln i v o,?_⟩ j P
   .show B.Cn (Ax S.po) (δ S.po.at_) (Gd (S.cn.set _ _)) _;rw[c];exact M
   .show S.dead=B.sm (δ S.po.at_) (B.zr (Ax S.po) (Gd (S.cn.set _ _)));rw[c,W];exact a.dead
  .have R:¬1<S.cn[(f/2).toNat]+1:=by simpa [B9.ob] using F
   obtain⟨M,W⟩:=a.cn.A3q (f:=f) g (by omega);have hdb:=a.db;obtain⟨A,P⟩:=w.U1 (S.cn.set (f/2).toNat (S.cn[(f/2).toNat]+1)) (S.dead-1);refine⟨Aq.2 (by show _<=S.dead-1/\S.dead-1<=_;omega),?_⟩;refine Hh (x:=S.po) A.po a.po (λY=>by rw[z]at Y;cases Y) λm hm=>?_;rw[z]at hm;obtain rfl:nd=m:=by injection hm
   obtain⟨ol,rl⟩:=u.lo g;obtain⟨oh,rh⟩:=u.hi g;have I:SC (S.wc (S.cn.set (f/2).toNat (S.cn[(f/2).toNat]+1)) (S.dead-1)) (λi=>r i+B.dl f i-B.mu d i):=by
    refine⟨a.po,?_,λi v o=>by show i.toNat<δ (S.cn.set _ _);rw[ae];exact a.ln i v o,?_⟩
    .show B.Cn (Ax S.po) (δ S.po.at_) (Gd (S.cn.set _ _)) _;rw[c];exact M
    .show S.dead-1=B.sm (δ S.po.at_) (B.zr (Ax S.po) (Gd (S.cn.set _ _)));rw[c,W,<-a.dead]
   simp only[L,N];refine Z (S:=S.wc (S.cn.set (f/2).toNat (S.cn[(f/2).toNat]+1)) (S.dead-1)) u (λU=>by have:=rl U;omega) A I ol (λi v o=>?_) λJ s H2 s3 O m2 V=>?_
   .have:=C i v o;have:=@B.Ia d.hi i;simp only[B.mu];omega
   refine Z (S:=S.wc J s) u (λU=>by have:=rh U;omega) s3 O oh (λi v o=>?_) λG q H3 s4 p m3 D=>?_
   .have:=C i v o;have:=@B.Ia d.hi i;simp only[B.mu];omega
   refine h G q H3 s4 ⟨p.po,p.cn.congr λi _=>?_,p.ln,p.dead⟩ (λi=>bv (j i) (bv (m2 i) (m3 i))) ((P.trans V rfl rfl rfl).trans D rfl rfl rfl);simp only[B.mu];omega
end
section
theorem Ni{b:Nat}{rk:Int->Int}{n:Int}{X:PX}:∀(k:Nat){S:B9}{r:Int->Int}{f:Int}{H:HY}{Q:Unit->UU},B.Dag (Ax S.po) rk n->(f/2≠0->n-rk (f/2)<k)->Ca H b S->SC S r->B.Ok (Ax S.po) f->(∀i d,Ax S.po i=ν d->B.dl f i<=r i)->(∀cn dead H',Ca H' b (S.wc cn dead)->SC (S.wc cn dead) (λi=>r i-B.dl f i)->OP b S H H'->Q () () H')->qK 218 Ii (ν b,f,()) H Q X:=by
 intro k;induction k with
 |zero=>
  intro S r f H Q q N v a w A h;refine wF Tryz.f218 {} (?_:FC (ν b) f H Q X);unfold FC;rw[K6 w.1];refine⟨λp=>?_,λp=>?_⟩
  .refine h S.cn S.dead H v ⟨a.po,a.cn.congr λi o=>?_,a.ln,a.dead⟩ OP.refl;rw[B.L3 (by omega)];omega
  .obtain⟨d,g⟩:=w.2.resolve_left p;have:=N p;have:=q.N7 g;omega
 |succ k Y=>
  intro S r f H Q q N v a w A h;refine wF Tryz.f218 {} (?_:FC (ν b) f H Q X);unfold FC;rw[K6 w.1];refine⟨λp=>?_,λp=>?_⟩
  .refine h S.cn S.dead H v ⟨a.po,a.cn.congr λi o=>?_,a.ln,a.dead⟩ OP.refl;rw[B.L3 (by omega)];omega
  obtain⟨d,g⟩:=w.2.resolve_left p;obtain⟨nd,y,hv,L,K⟩:=GK g;have hrk:=q.N7 g;have hk':=N p;have hdm:=a.cn.N6 g;have e:=a.ln _ _ g;have j:0<=f/2:=by have:=w.1;omega
  have hcl:=a.cn.le g;have hcg:=a.cn.ge g;have hrb:=A _ _ g;have hpl:=a.po.len;have hpr:=a.po.room;have G:=@B.IH f;have hcn:=Wm j e;have c:Gd (S.cn.set (f/2).toNat (S.cn[(f/2).toNat]-1))=B.bump (Gd S.cn) (f/2) (-1):=@Aj5 S.cn (f/2) (-1) j e;refine⟨b,rfl,S.ob,v.st,λ_=>⟨λ_=>j,e,e,λI=>⟨Aq.2 (by have hik':-9223372036854775808<=S.cn[(f/2).toNat]/\S.cn[(f/2).toNat]<=9223372036854775807:=Aq.1 I;show _<=S.cn[(f/2).toNat]-1/\S.cn[(f/2).toNat]-1<=_;omega),λ_=>⟨λ_=>j,e,e,λ_=>⟨λ_=>j,by simpa [B9.ob] using e,by simpa [B9.ob] using e,λC=>?_,λC T=>?_⟩⟩⟩⟩⟩
  .have M:0<S.cn[(f/2).toNat]-1:=by simpa [B9.ob] using C
   obtain⟨R,W⟩:=a.cn.A3u (f:=f) g (by omega);obtain⟨z,P⟩:=v.U1 (S.cn.set (f/2).toNat (S.cn[(f/2).toNat]-1)) S.dead;refine h _ _ _ z ⟨a.po,?_,λi u o=>by show i.toNat<δ (S.cn.set _ _);rw[ae];exact a.ln i u o,?_⟩ P
   .show B.Cn (Ax S.po) (δ S.po.at_) (Gd (S.cn.set _ _)) _;rw[c];exact R
   .show S.dead=B.sm (δ S.po.at_) (B.zr (Ax S.po) (Gd (S.cn.set _ _)));rw[c,W];exact a.dead
  .have M:¬0<S.cn[(f/2).toNat]-1:=by simpa [B9.ob] using C
   obtain⟨R,W⟩:=a.cn.A3v (f:=f) g (by omega);have hdb:=a.db;obtain⟨z,P⟩:=v.U1 (S.cn.set (f/2).toNat (S.cn[(f/2).toNat]-1)) (S.dead+1);refine⟨Aq.2 (by show _<=S.dead+1/\S.dead+1<=_;omega),?_⟩;refine Hh (x:=S.po) z.po a.po (λhn=>by rw[y]at hn;cases hn) λm Z=>?_;rw[y]at Z;obtain rfl:nd=m:=by injection Z
   obtain⟨ol,rl⟩:=q.lo g;obtain⟨oh,rh⟩:=q.hi g;have E:SC (S.wc (S.cn.set (f/2).toNat (S.cn[(f/2).toNat]-1)) (S.dead+1)) (λi=>r i-B.dl f i+B.mu d i):=by
    refine⟨a.po,?_,λi u o=>by show i.toNat<δ (S.cn.set _ _);rw[ae];exact a.ln i u o,?_⟩
    .show B.Cn (Ax S.po) (δ S.po.at_) (Gd (S.cn.set _ _)) _;rw[c];exact R
    .show S.dead+1=B.sm (δ S.po.at_) (B.zr (Ax S.po) (Gd (S.cn.set _ _)));rw[c,W,<-a.dead]
   simp only[L,K];refine Y (S:=S.wc (S.cn.set (f/2).toNat (S.cn[(f/2).toNat]-1)) (S.dead+1)) q (λU=>by have:=rl U;omega) z E ol (λi u o=>?_) λF t H2 s3 O V=>?_
   .have:=A i u o;have:=@B.Ia d.hi i;have:=@B.Ia d.lo i;have:=@B.Ia f i;simp only[B.mu];omega
   refine Y (S:=S.wc F t) q (λU=>by have:=rh U;omega) s3 O oh (λi u o=>?_) λD s H3 s4 l J=>?_
   .have:=A i u o;have:=@B.Ia d.hi i;have:=@B.Ia d.lo i;have:=@B.Ia f i;simp only[B.mu];omega
   refine h D s H3 s4 ⟨l.po,l.cn.congr λi _=>?_,l.ln,l.dead⟩ ((P.trans V rfl rfl rfl).trans J rfl rfl rfl);simp only[B.mu];omega
section
variable {b:Nat} {S:B9} {r:Int->Int} {f v:Int} {H:HY} {X:PX}
theorem Adq{p:A7}(h:F4 p):GJ p 0=τ:=by
 unfold GJ;split
 .rename_i a;have:=(h.tk a).1;omega
 .rfl
theorem Awd{p:A7}(h:F4 p):Ax p 0=τ:=by unfold Ax;rw[Adq h];rfl
theorem Fk{Q:Int×Unit->UU}(a:Ca H b S)(h:Q (DW S.lv v,()) () H):qK 124 Iv (ν b,v,()) H Q X:=by refine Rh _ _ _ _ _ ?_;exact⟨λh=>qG h (by simp),λ_=>⟨b,rfl,S.ob,a.st,rfl,VM a.lv h⟩⟩
theorem KK{Q:Bool×Unit->UU}(j:Ca H b S)(s:F4 S.po)(h:∀t:Bool,(t=φ↔B.Ok (Ax S.po) f)->Q (t,()) () H):qK 189 D3 (ν b,f,()) H Q X:=by
 refine wF Tryz.f189 {} (?_:letI I:=FM f;letI E:=λ(a:AE×qU)_ G=>(I=0->Q (φ,()) () G)/\(¬I=0->Q (a.2.1,()) () G);letI F:=Q (ψ,()) () H;((ν b)=τ->F)/\(¬(ν b)=τ->(f<0->F)/\(¬f<0->∃(a:Nat),(ν b)=ν a/\(∃(x:Ai),letI O:=x=x/\qK 183 Bc (x.Gx,I,()) H E X;H a=ν (Ob.st AD x)/\O/\O)/\∃(x:Ai),H a=ν (Ob.st AD x)/\x=x/\qK 183 Bc (x.Gx,I,()) H E X)));refine⟨λh=>qG h (by simp),λ_=>⟨λr=>h ψ ⟨λh=>(by cases h),λh=>qG h.1 (by omega)⟩,λr=>?_⟩⟩;have a:0<=f:=by omega
 rw[K6 a];have k:∀c:AE×Bool×Unit->UU,(∀n t,c (n,t,()) () H=((f/2=0->Q (φ,()) () H)/\(¬f/2=0->Q (t,()) () H)))->qK 183 Bc (ν S.bp,f/2,()) H c X:=λc o=>by
  refine Hh j.po s (λg=>?_) λn g=>?_
  .rw[o];exact⟨λe=>h φ ⟨λ_=>⟨a,.inl e⟩,λ_=>rfl⟩,λe=>h ψ ⟨λh=>(by cases h),λh=>by obtain⟨d,q⟩:=h.2.resolve_left e;obtain⟨m,p,_⟩:=GK q;rw[g]at p;cases p⟩⟩
  .rw[o];have:B.Ok (Ax S.po) f:=⟨a,.inr ⟨_,Ic g⟩⟩
   exact⟨λ_=>h φ ⟨λ_=>this,λ_=>rfl⟩,λ_=>h φ ⟨λ_=>this,λ_=>rfl⟩⟩
 have i:=k (λb u l=>(f/2=0->Q (φ,()) () l)/\(¬f/2=0->Q (b.2.1,()) () l)) (λ_ _=>rfl);exact⟨b,rfl,⟨S.ob,j.st,⟨rfl,i⟩,rfl,i⟩,S.ob,j.st,rfl,i⟩
end
end
section
def B9.n(S:B9):Int:=δ S.tb
section
variable {b:Nat} {S:B9} {r:Int->Int} {f v:Int} {H:HY} {X:PX}
theorem MO{Q:Int×Int×Int×Bool×Unit->UU}(i:Ca H b S)(j:F4 S.po)(k:B.Ok (Ax S.po) f)(p:f/2=0->Q (-1,0,0,ψ,()) () H)(r:∀d,f/2≠0->Ax S.po (f/2)=ν d->Q (d.v,B.fl d.lo f,B.fl d.hi f,φ,()) () H):qK 122 D4 (ν b,f,()) H Q X:=by
 refine wF Tryz.f122 {} (?_:letI E:=λ(a:AE×qU)_ G=>(¬a.2.1->Q ((-1:Int),0,0,ψ,()) () G)/\(¬¬a.2.1->Q (a.1.Var,AO a.1.Lo (Cj f),AO a.1.Hi (Cj f),φ,()) () G);letI F:=Q ((-1:Int),0,0,ψ,()) () H;((ν b)=τ->F)/\(¬(ν b)=τ->(f<0->F)/\(¬f<0->∃(a:Nat),(ν b)=ν a/\(∃(x:Ai),letI I:=x=x/\qK 183 Bc (x.Gx,FM f,()) H E X;H a=ν (Ob.st AD x)/\I/\I)/\∃(x:Ai),H a=ν (Ob.st AD x)/\x=x/\qK 183 Bc (x.Gx,FM f,()) H E X)));have c:=k.1;refine⟨λh=>qG h (by simp),λ_=>⟨λh=>by omega,λ_=>?_⟩⟩;rw[K6 c];simp only[K7 c];have a:Wp _ 183 Bc (ν S.bp,f/2,()) H (λb s o=>(¬b.2.1=φ->Q (-1,0,0,ψ,()) () o)/\(¬¬b.2.1=φ->Q (b.1.Var,B.fl b.1.Lo f,B.fl b.1.Hi f,φ,()) () o)) X:=by
  refine Hh i.po j (λg=>⟨λ_=>?_,λh=>qG (by simp) h⟩) λn g=>⟨λh=>qG rfl h,λ_=>?_⟩
  .refine p ?_;rcases k.2 with h|⟨d,q⟩
   .exact h
   .obtain⟨m,l,_⟩:=GK q;rw[g]at l;cases l
  .refine r _ (λe=>?_) (Ic g);rw[e,Adq j]at g;cases g
 exact⟨b,rfl,⟨S.ob,i.st,⟨trivial,a⟩,trivial,a⟩,S.ob,i.st,trivial,a⟩
theorem Pr{l:Int}{Q:Bool×Unit->UU}(i:Ca H b S)(t:F4 S.po)(p:B.Ok (Ax S.po) f)(u:l<S.n)(h:Q (ω (l<B.el S.n (DW S.lv) (Ax S.po) f),()) () H):qK 230 BR (ν b,f,l,()) H Q X:=by
 refine wF Tryz.f230 {} (?_:letI F:=FM f;letI E:=λ(a:AE×qU)_ G=>(F=0->Q (φ,()) () G)/\(¬F=0->(a.2.1->qK 124 Iv ((ν b),a.1.Var,()) G (λ(a:qV)_ G=>Q (ω (l<a.1),()) () G) X)/\(¬a.2.1->Q (ψ,()) () G));∃(a:Nat),(ν b)=ν a/\(∃(x:Ai),letI I:=x=x/\qK 183 Bc (x.Gx,F,()) H E X;H a=ν (Ob.st AD x)/\I/\I)/\∃(x:Ai),H a=ν (Ob.st AD x)/\x=x/\qK 183 Bc (x.Gx,F,()) H E X);rw[K6 p.1];have a:Wp _ 183 Bc (ν S.bp,f/2,()) H (λc s g=>(f/2=0->Q (φ,()) () g)/\(¬f/2=0->(c.2.1=φ->Wp _ 124 Iv (ν b,c.1.Var,()) g (λb s g=>Q (ω (l<b.1),()) () g) X)/\(¬c.2.1=φ->Q (ψ,()) () g))) X:=by
  have o:=λe=>by rw[B.Cs e,decide_eq_true u]at h;exact h
  refine Hh i.po t (λj=>⟨o,λk=>?_⟩) λn j=>⟨o,λk=>⟨λ_=>?_,λh=>qG rfl h⟩⟩
  .obtain⟨d,r⟩:=p.2.resolve_left k;obtain⟨m,q,_⟩:=GK r;rw[j]at q;cases q
  .refine Fk i ?_;rw[B.Bn k (Ic j)]at h;exact h
 exact⟨b,rfl,⟨S.ob,i.st,⟨rfl,a⟩,rfl,a⟩,S.ob,i.st,rfl,a⟩
theorem Ps{y:Int}{Q:Int×Int×Unit->UU}(j:Ca H b S)(e:F4 S.po)(i:B.Ok (Ax S.po) f)(h:Q ((B.sp (Ax S.po) y f).1,(B.sp (Ax S.po) y f).2,()) () H):qK 253 NB (ν b,f,y,()) H Q X:=by
 refine wF Tryz.f253 {} (?_:qK 122 D4 ((ν b),f,()) H (λ(a:Int×Int×Int×qU)_ G=>letI E:=Q (f,f,()) () G;letI F:=¬a.2.2.2.1=φ;(F->E)/\(¬F->(¬a.1=y->E)/\(¬¬a.1=y->Q (a.2.1,a.2.2.1,()) () G))) X);refine MO j e i (λg=>⟨λ_=>?_,λh=>qG (by simp) h⟩) λd g c=>⟨λh=>qG rfl h,λ_=>⟨λa=>?_,λa=>?_⟩⟩
 .have:B.sp (Ax S.po) y f=(f,f):=by unfold B.sp;rw[g,Awd e]
  rw[this]at h;exact h
 .have:B.sp (Ax S.po) y f=(f,f):=by unfold B.sp;rw[c];exact GT a
  rw[this]at h;exact h
 .have:B.sp (Ax S.po) y f=(B.fl d.lo f,B.fl d.hi f):=by unfold B.sp;rw[c];exact UV (by simpa using a)
  rw[this]at h;exact h
theorem Yx{Q:Int×Unit->UU}(a:Ca H b S)(h:Q (δ S.lv.vars,()) () H):qK 119 Cv (ν b,()) H Q X:=by refine Sk _ _ _ _ ?_;exact⟨λh=>qG h (by simp),λ_=>⟨b,rfl,S.ob,a.st,S.bl,rfl,rfl,S.lv,a.lv,λ_=>⟨rfl,h⟩⟩⟩
end
theorem Avf{l:List Int}{k:Nat}:Gd (l++a6 k 0)=Gd l:=by
 funext i;unfold Gd;by_cases a:0<=i
 .rw[UV a,UV a];by_cases h:i.toNat<δ l
  .rw[ab h]
  .rw[au (by omega),ad (by omega:δ l<=i.toNat)];by_cases b:i.toNat-δ l<k
   .rw[ac (by simpa using b)];simp
   .rw[ad (by simp;omega)]
 .rw[GT a,GT a]
theorem Ave{l:List Int}{i:Int}(b:0<=i)(h:i.toNat<δ l):Gd (l.set i.toNat 0)=λj=>if j=i then 0 else Gd l j:=by
 funext j;by_cases e:j=i
 .subst e;rw[UV rfl];unfold Gd;rw[UV b];simp [h]
 .rw[GT e];unfold Gd;by_cases a:0<=j
  .rw[UV a,UV a,a7 (by omega)]
  .rw[GT a,GT a]
theorem A1u{N:B.Tb}{m m':Nat}{c r:Int->Int}(h:B.Cn N m c r)(H:∀p d,N p=ν d->B.Ok N d.lo/\B.Ok N d.hi){i:Int}{d:B.Nd}(x:0<i)(q:i<m')(A:m<=m')(a:N i=τ)(F:r i=0):B.Cn (B.Ko N i d) m' (λj=>if j=i then 0 else c j) r/\B.sm m' (B.zr (B.Ko N i d) (λj=>if j=i then 0 else c j))=B.sm m (B.zr N c)+1:=by
 have t:∀j,j≠i->B.Ko N i d j=N j:=λj b=>GT b;have C:B.Ko N i d i=ν d:=UV rfl;have y:∀j p,B.pt (B.Ko N i d) (λj=>if j=i then 0 else c j) j p=B.pt N c j p:=λj p=>by
  unfold B.pt;by_cases e:p=i
  .subst e;rw[C,a];simp
  .rw[t p e];simp  [GT e]
 have w:∀j(p:Int),m<=p->B.pt N c j p=0:=λj p z=>by
  unfold B.pt;cases v:N p with
  |none=>rfl
  |some l=>have:=(h.N6 v).2;omega
 have n:∀j,B.sm m' _=B.sm m _:=λj=>by rw[B.Fl  λp _ _=>y j p];exact B.Aai A λk s _=>w j k s
 have f:B.sm m (B.pt N c i)=0:=by
  rw[B.Fl  λp _ _=>?_,B.Wb];unfold B.pt;cases v:N p with
  |none=>rfl
  |some l=>
   have s:=H p l v;have u:∀e,B.Ok N e->B.dl e i=0:=λe I=>B.L3 λE=>by
    rcases I.2 with o|⟨J,o⟩
    .omega
    .rw[<-E,a]at o;cases o
   simp only[B.mu,u _ s.1,u _ s.2];simp
 refine⟨⟨λ{j l}b=>?_,λ{j l}b=>?_,λ{j l}b=>?_⟩,?_⟩
 .by_cases e:j=i
  .subst e;exact⟨x,q⟩
  .rw[t j e]at b;have:=h.N6 b;omega
 .by_cases e:j=i
  .rw[UV e];exact aj _
  .rw[GT e];rw[t j e]at b;exact h.nn b
 .rw[n];by_cases e:j=i
  .subst e;rw[UV rfl,f,F];rfl
  .rw[GT e];rw[t j e]at b;exact h.eq b
 .have G:∀p,p≠i->B.zr (B.Ko N i d) (λj=>if j=i then 0 else c j) p=B.zr N c p:=λp z=>by unfold B.zr;rw[t p z];simp  [GT z]
  rw[B.U0 (by omega) q G];have D:B.zr (B.Ko N i d) (λj=>if j=i then 0 else c j) i=1:=by unfold B.zr;rw[C];simp
  have o:B.zr N c i=0:=by unfold B.zr;rw[a]
  rw[D,o,B.Aai A λk s _=>?_];· omega
  unfold B.zr;cases v:N k with
  |none=>rfl
  |some l=>have:=(h.N6 v).2;omega
structure Ahr(S:B9)(v lo hi i:Int)(S':B9):Prop where
 Ax:Ax S'.po=B.Ko (Ax S.po) i ⟨v,lo,hi⟩
 Lu:YtcbkbpjlbmalmaaGreatDoor.Ax S.po i=τ
 pos:0<i
 lt:i<2000000
 rf:∀j,Fq S'.po j=Fq S.po j
 lv:S'.lv=S.lv
 tb:S'.tb=S.tb
 bl:S'.bl=S.bl
 bp:S'.bp=S.bp
 room:S'.po.room=S.po.room
 many:S'.po.many=S.po.many+1
 ta:∀w:Nat,S'.ta w=if w=v.toNat then ⟨C4 (S.ta w).ids (⟨lo,hi⟩:K2) i⟩ else S.ta w
 cn:∀j,Gd S'.cn j=if j=i then 0 else Gd S.cn j
def B9.wa(S:B9)(po:A7)(cn:List Int)(dead:Int)(v:Nat)(t:AZ):B9:={S with po:=po,cn:=cn,dead:=dead,ta:=λw=>if w=v then t else S.ta w}
theorem SY{b:Nat}{S:B9}{r:Int->Int}{v lo hi:Int}{H:HY}{X:PX}{Q:Int×Int×Unit->UU}(D:Ca H b S)(z:SC S r)(hK:∀p d,Ax S.po p=ν d->B.Ok (Ax S.po) d.lo/\B.Ok (Ax S.po) d.hi)(R:∀i,Ax S.po i=τ->r i=0)(K:0<=v/\v<S.n)(y:Ag (S.ta v.toNat).ids (⟨lo,hi⟩:K2)=τ)(W:S.po.many=S.po.room->Q (0,7,()) () H)(V:∀i S' H',S.po.many<S.po.room->Ahr S v lo hi i S'->Ca H' b S'->SC S' r->OP b S H H'->Q (i,0,()) () H'):qK 233 Oi (ν b,v,lo,hi,()) H Q X:=by
 refine wF Tryz.f233 {lp:=[(4,⟨[],[0,1,2,3,10],φ⟩)]} (?_:∃(a:Nat),(ν b)=ν a/\∃(x:Ai),H a=ν (Ob.st AD x)/\x=x/\qK 259 Ke (x.Gx,{ID:=0,Var:=v,Lo:=lo,Hi:=hi,Refs:=0:AE},()) H (λ(b1:Int×qV)_ G=>letI E:=b1.1.toNat;(¬b1.2.1=0->Q (0,b1.2.1,()) () G)/\(¬¬b1.2.1=0->∃(V:Nat->UU),(∃(n:Nat),V n () G)/\∀n x H,V n x H->∃(x:Ai),letI F:=δ x.counts;H a=ν (Ob.st AD x)/\(F<=2^63-1->((F:Int)<=b1.1->(F+δ [(0:Int)])*8<=2^47/\∃m,m<n/\V m () (Ac H a (Ob.st AD {x with counts:=x.counts++[(0:Int)]})))/\(¬(F:Int)<=b1.1->IK b1.1->(IK b1.1->0<=b1.1)/\∃(h:E<F),E<F/\(IK x.dead->IK (x.dead+1)/\(IK v->(IK v->0<=v)/\∃(h:v.toNat<δ x.tables),∃(h:v.toNat<δ x.tables),qK 217 DF (x.tables[v.toNat],lo,hi,b1.1,()) (Ac H a (Ob.st AD {x with counts:=x.counts.set E 0,dead:=x.dead+1})) (λ(a:qV)_ G=>Q (b1.1,0,()) () G) X)))))) X);refine⟨b,rfl,S.ob,D.st,rfl,Aay D.po z.po (λhm=>⟨λ_=>W hm,λh=>qG (by simp) h⟩) λi a c t=>⟨λh=>qG rfl h,λ_=>?_⟩⟩;have g:v.toNat<δ S.tb:=by have:=K.2;unfold B9.n at this;omega
 have o:=c.pos;have E:=c.lt;have N:=c.inv.len;have T:=c.inv.room;obtain⟨L,f1⟩:=D.An6 a;have f:Ax S.po i=τ:=by unfold Ax;rw[c.Lu];rfl
 have l:Ax a=B.Ko (Ax S.po) i ⟨v,lo,hi⟩:=by funext j;unfold Ax B.Ko;rw[c.nd];split<;>rfl
 have G:∀j,Fq a j=Fq S.po j:=λj=>by
  unfold Fq;rw[c.nd];by_cases e:j=i
  .rw[UV e,e,c.Lu]
  .rw[GT e]
 refine⟨λn _ H'=>∃k,n=i.toNat+1-(δ S.cn+k)/\Ca H' b {S with po:=a,cn:=S.cn++a6 k 0}/\OP b S H H',⟨_,0,rfl,by simpa using L,f1⟩,λn _ H'⟨k,hn,C,J⟩=>⟨_,C.st,λ_=>⟨λx=>?_,λx _=>⟨λ_=>by omega,?_⟩⟩⟩⟩
 .have q:(δ (S.cn++a6 k 0):Int)<=i:=x;simp only[bg,az]at q;refine⟨?_,i.toNat+1-(δ S.cn+(k+1)),by omega,k+1,rfl,?_,?_⟩
  .show (δ (S.cn++a6 k 0)+1)*8<=_;simp only[bg,az];omega
  .have:=(C.U1 (S.cn++a6 (k+1) 0) S.dead).1;rw[bb,<-bk]at this;rw[bb,<-bk];exact this
  .have:=(C.U1 (S.cn++a6 k 0++[0]) S.dead).2;exact J.trans this rfl rfl rfl
 .have q:¬(δ (S.cn++a6 k 0):Int)<=i:=x;have m:i.toNat<δ (S.cn++a6 k 0):=by omega
  have hdb:=z.db;refine⟨m,m,λ_=>⟨Aq.2 (by show _<=S.dead+1/\S.dead+1<=_;omega),λ_=>⟨λ_=>K.1,by simpa [B9.ob] using g,by simpa [B9.ob] using g,?_⟩⟩⟩;obtain⟨I,U⟩:=C.U1 _ (S.dead+1);have F:=I.ta v.toNat g;obtain⟨Z,f4⟩:=I.An5 g _;have s5:=Z;have P:({S with po:=a,cn:=S.cn++a6 k 0}:B9).ob.tables[v.toNat]'(by simpa [B9.ob] using g)=ν S.tb[v.toNat]:=by simp [B9.ob]
  rw[P];refine W6 F y ?_;have s:Gd ((S.cn++a6 k 0).set i.toNat 0)=λj=>if j=i then 0 else Gd S.cn j:=by rw[Ave (by omega) m,Avf]
  obtain⟨Y,c2⟩:=A1u  z.cn hK o E c.len f (R i f);have M:∀(A B:HY),A=B->Ca B b (S.wa a ((S.cn++a6 k 0).set i.toNat 0) (S.dead+1) v.toNat ⟨C4 (S.ta v.toNat).ids (⟨lo,hi⟩:K2) i⟩)->Ca A b _:=λA B e h=>by rw[e];exact h
  refine V i (S.wa a _ _ v.toNat _) _ t ⟨l,f,o,by omega,G,rfl,rfl,rfl,rfl,c.room,c.many,λw=>?_,λj=>by exact congrFun s j⟩ (M _ _ (by rfl) s5) ⟨c.inv,?_,λj d O=>?_,?_⟩ ((J.trans U rfl rfl rfl).trans f4 rfl rfl rfl)
  .show (if w=v.toNat then _ else S.ta w)=_;by_cases e:w=v.toNat
   .rw[UV e,UV e,e]
   .rw[GT e,GT e]
  .show B.Cn (Ax a) _ (Gd ((S.cn++a6 k 0).set i.toNat 0)) r;rw[l,s];exact Y
  .show j.toNat<δ ((S.cn++a6 k 0).set i.toNat 0);rw[ae];have u:Ax a j=ν d:=O;rw[l]at u;by_cases e:j=i
   .rw[e];exact m
   .rw[B.Ko,GT e]at u;have:=z.ln j d u;simp;omega
  .show S.dead+1=B.sm (δ a.at_) (B.zr (Ax a) (Gd ((S.cn++a6 k 0).set i.toNat 0)));rw[l,s,c2,z.dead]
end
section
structure SI(S:B9):Prop where
 sc:SC S (Fq S.po)
 BN:B.Good S.n (DW S.lv) (Ax S.po)
 vl:δ S.lv.vars=δ S.tb
 ll:δ S.lv.level=δ S.tb
 inv:∀(l:Nat)(v:Int),S.lv.vars[l]?=ν v->0<=v/\v<S.n/\DW S.lv v=(l:Int)
 tn:∀v:Nat,v<δ S.tb->Pc (S.ta v).ids
 tg:∀v:Nat,v<δ S.tb->∀lo hi i,Ag (S.ta v).ids (⟨lo,hi⟩:K2)=ν i↔Ax S.po i=ν ⟨(v:Int),lo,hi⟩
 rf:∀i,0<=Fq S.po i
theorem B9.Lm{S:B9}:0<=S.n:=by grind[B9.n]
variable {i:Int}
theorem WD{p:A7}(h:Ax p i=τ):Fq p i=0:=by unfold Fq;rw[Anv h]
variable {S:B9}
theorem SI.kids(h:SI S):∀p d,Ax S.po p=ν d->B.Ok (Ax S.po) d.lo/\B.Ok (Ax S.po) d.hi:=λ_ _ a=>⟨(h.BN.lo a).1,(h.BN.hi a).1⟩
variable {v:Int}
theorem SI.lvl(h:SI S):0<=DW S.lv v↔0<=v/\v<S.n:=by
 constructor
 .intro b;unfold DW at b;by_cases a:0<=v
  .rw[UV a]at b;refine⟨a,?_⟩;by_cases c:v.toNat<δ S.lv.level
   .rw[h.ll]at c;grind[B9.n]
   grind
  omega
 .intro a;exact(h.BN.od.N7 v a.1 a.2).1
theorem SI.ib(h:SI S){d:B.Nd}(a:Ax S.po i=ν d):0<i/\i<2000000:=by have:=h.sc.cn.N6 a;have:=h.sc.po.len;have:=h.sc.po.room;omega
structure Jk(S S':B9):Prop where
 Ax:∀i d,Ax S.po i=ν d->Ax S'.po i=ν d
 rf:∀j,Fq S'.po j=Fq S.po j
 lv:S'.lv=S.lv
 tb:S'.tb=S.tb
 bl:S'.bl=S.bl
 bp:S'.bp=S.bp
 room:S'.po.room=S.po.room
 cn:∀i d,YtcbkbpjlbmalmaaGreatDoor.Ax S.po i=ν d->Gd S'.cn i=Gd S.cn i
theorem Jk.refl:Jk S S:=⟨λ_ _ h=>h,λ_=>rfl,rfl,rfl,rfl,rfl,rfl,λ_ _ _=>rfl⟩
variable {S':B9}
theorem Jk.trans{S'':B9}(h:Jk S S')(k:Jk S' S''):Jk S S'':=⟨λi d a=>k.Ax i d (h.Ax i d a),λj=>(k.rf j).trans (h.rf j),k.lv.trans h.lv,k.tb.trans h.tb,k.bl.trans h.bl,k.bp.trans h.bp,k.room.trans h.room,λi d a=>(k.cn i d (h.Ax i d a)).trans (h.cn i d a)⟩
theorem Jk.n(h:Jk S S'):S'.n=S.n:=by unfold B9.n;rw[h.tb]
theorem Jk.den(h:Jk S S')(a:SI S){e:Int}(b:B.Ok (YtcbkbpjlbmalmaaGreatDoor.Ax S.po) e):B.den (YtcbkbpjlbmalmaaGreatDoor.Ax S'.po) e=B.den (YtcbkbpjlbmalmaaGreatDoor.Ax S.po) e:=a.BN.Aj0 B9.Lm h.Ax b
variable {lo hi:Int}
theorem Apn{n:Int}{lv:Int->Int}{N:B.Tb}(g:B.Good n lv N)(l:0<=n)(k:0<i)(d:N i=ν ⟨v,B.fl lo hi,B.fl hi hi⟩)(c:B.Ok N lo)(h:B.Ok N hi):B.Ok N (B.fl (2*i) hi)/\B.den N (B.fl (2*i) hi)=(λa=>if a v=φ then B.den N hi a else B.den N lo a)/\B.el n lv N (B.fl (2*i) hi)=lv v:=by
 have f:2*i/2=i:=by omega
 have b:B.Ok N (2*i):=⟨by omega,.inr (by grind)⟩
 refine⟨b.fl,?_,?_⟩
 .funext a;rw[B.Kn b,g.JC l (e:=2*i) (by omega) (by rw[f];exact d)];have:¬(2*i%2=1):=by omega
  simp only[this,decide_false,ap];by_cases j:a v=φ;all_goals simp_all[B.Kn]
 .rw[B.MA,B.Bn (by omega) (by rw[f];exact d)]
theorem SI.add(h:SI S)(c:Ahr S v lo hi i S')(C:SC S' (Fq S.po))(s:0<=v/\v<S.n)(t:B.Ok (Ax S.po) lo)(x:B.Ok (Ax S.po) hi)(z:DW S.lv v<B.el S.n (DW S.lv) (Ax S.po) lo)(A:DW S.lv v<B.el S.n (DW S.lv) (Ax S.po) hi)(u:lo≠hi)(o:hi%2=0)(g:Ag (S.ta v.toNat).ids (⟨lo,hi⟩:K2)=τ):SI S'/\Jk S S':=by
 have k:v.toNat<δ S.tb:=by grind[B9.n]
 have q:((v.toNat:Nat):Int)=v:=by omega
 have y:S'.n=S.n:=by unfold B9.n;rw[c.tb]
 have p:Fq S'.po=Fq S.po:=funext c.rf;refine⟨⟨by grind,?_,?_,?_,?_,?_,?_,?_⟩,⟨λj d f=>?_,c.rf,c.lv,c.tb,c.bl,c.bp,c.room,λj d f=>?_⟩⟩
 .rw[y,c.lv,c.Ax];refine h.BN.add c.pos c.Lu s.1 s.2 t x z A u o λj f=>?_;have:=(h.tg v.toNat k lo hi j).2 (by grind);grind
 .rw[c.lv,c.tb];exact h.vl
 .rw[c.lv,c.tb];exact h.ll
 .rw[c.lv,y];exact h.inv
 .intro w l;rw[c.tb]at l;rw[c.ta];split
  .exact K8 (h.tn w l) _ _
  .exact h.tn w l
 .intro w l m n j;rw[c.tb]at l;rw[c.ta,c.Ax];by_cases e:w=v.toNat
  .subst e;rw[UV rfl];simp only;rw[Cw];by_cases r:(⟨m,n⟩:K2)=⟨lo,hi⟩
   .rw[UV r];obtain⟨rfl,rfl⟩:m=lo/\n=hi:=by grind
    constructor
    .intro f;obtain rfl:i=j:=by grind
     rw[q];exact UV rfl
    .intro f;unfold B.Ko at f;split at f
     .rename_i e;rw[e]
     .rw[<-h.tg v.toNat k,g]at f;cases f
   .rw[GT r,h.tg v.toNat k];unfold B.Ko;split
    .rename_i e;subst e;rw[c.Lu];grind
    .rfl
  .rw[GT e,h.tg w l];unfold B.Ko;split
   .rename_i D;subst D;rw[c.Lu];grind
   .rfl
 .rw[p];exact h.rf
 .rw[c.Ax];exact B.Ud c.Lu j d f
 .rw[c.cn,GT];intro e;rw[e,c.Lu]at f;cases f
theorem Acx{b:Nat}{H:HY}{X:PX}{Q:Int×Int×Unit->UU}(m:Ca H b S)(l:SI S)(h9:¬(0<=v/\v<S.n)->Q (0,9,()) () H)(T:¬(B.Ok (Ax S.po) lo/\B.Ok (Ax S.po) hi)->Q (0,8,()) () H)(U:0<=v->v<S.n->B.Ok (Ax S.po) lo->B.Ok (Ax S.po) hi->¬(DW S.lv v<B.el S.n (DW S.lv) (Ax S.po) lo/\DW S.lv v<B.el S.n (DW S.lv) (Ax S.po) hi)->Q (0,10,()) () H)(W:S.po.many=S.po.room->Q (0,7,()) () H)(h:∀e S' H',0<=v->v<S.n->B.Ok (Ax S.po) lo->B.Ok (Ax S.po) hi->DW S.lv v<B.el S.n (DW S.lv) (Ax S.po) lo->DW S.lv v<B.el S.n (DW S.lv) (Ax S.po) hi->Ca H' b S'->SI S'->Jk S S'->OP b S H H'->B.Ok (Ax S'.po) e->B.den (Ax S'.po) e=(λa=>if a v=φ then B.den (Ax S.po) hi a else B.den (Ax S.po) lo a)->DW S.lv v<=B.el S.n (DW S.lv) (Ax S'.po) e->(∀i d,Ax S'.po i=ν d->Ax S.po i=ν d∨(i=e/2/\d.v=v))->Q (e,0,()) () H'):qK 190 Oi (ν b,v,lo,hi,()) H Q X:=by
 refine wF Tryz.f190 {} (?_:letI E:=Cj hi;((ν b)=τ->Q (0,5,()) () H)/\(¬(ν b)=τ->qK 124 Iv ((ν b),v,()) H (λ(a:qV)_ G=>(a.1<0->Q (0,9,()) () G)/\(¬a.1<0->qK 189 D3 ((ν b),lo,()) G (λ(a:qU)_ G=>(¬a.1->Q (0,8,()) () G)/\(¬¬a.1->qK 189 D3 ((ν b),hi,()) G (λ(a:qU)_ G=>(¬a.1->Q (0,8,()) () G)/\(¬¬a.1->qK 124 Iv ((ν b),v,()) G (λ(a:qV)_ G=>qK 230 BR ((ν b),lo,a.1,()) G (λ(a:qU)_ G=>(¬a.1->Q (0,10,()) () G)/\(¬¬a.1->qK 124 Iv ((ν b),v,()) G (λ(a:qV)_ G=>qK 230 BR ((ν b),hi,a.1,()) G (λ(a:qU)_ G=>(¬a.1->Q (0,10,()) () G)/\(¬¬a.1->(lo=hi->Q (lo,0,()) () G)/\(¬lo=hi->∃(a:Nat),(ν b)=ν a/\∃(x:Ai),G a=ν (Ob.st AD x)/\(IK v->(IK v->0<=v)/\∃(h:v.toNat<δ x.tables),∃(h:v.toNat<δ x.tables),x=x/\qK 232 CY (x.tables[v.toNat],AO lo E,AO hi E,()) G (λ(a:Int×qU)_ G=>(¬a.2.1->qK 233 Oi ((ν b),v,AO lo E,AO hi E,()) G (λ(a:Int×qV)_ G=>(¬a.2.1=0->Q (0,a.2.1,()) () G)/\(¬¬a.2.1=0->(IK a.1/\True/\True->a.1<=(4611686018427387903:den Y0.D G6))/\Q (AO (2*max a.1 (0:den Y0.D G6)) E,0,()) () G)) X)/\(¬¬a.2.1->(¬(0:Int)=0->Q (0,0,()) () G)/\(¬¬(0:Int)=0->(IK a.1/\True/\True->a.1<=(4611686018427387903:den Y0.D G6))/\Q (AO (2*max a.1 (0:den Y0.D G6)) E,0,()) () G))) X)))) X) X)) X) X)) X)) X)) X));have F:=l.sc.po;refine⟨λh=>qG h (by simp),λ_=>Fk m ⟨λK=>h9 λg=>?_,λK=>?_⟩⟩
 .have:=l.lvl.2 g;have N:DW S.lv v<0:=K;omega
 have N:¬DW S.lv v<0:=K;have g:=(l.lvl (v:=v)).1 (by omega);have A:=(l.BN.od.N7 v g.1 g.2).2;refine KK m F λt z=>⟨λk=>T λr=>k (z.2 r.1),λk=>?_⟩
 have f:=z.1 (a2.1 k);refine KK m F λt z=>⟨λk=>T λr=>k (z.2 r.2),λk=>?_⟩
 have c:=z.1 (a2.1 k);refine Fk m (Pr m F f A ⟨λk=>U g.1 g.2 f c λr=>k (decide_eq_true r.1),λk=>?_⟩);have D:DW S.lv v<B.el S.n (DW S.lv) (Ax S.po) lo:=of_decide_eq_true (a2.1 k);refine Fk m (Pr m F c A ⟨λk=>U g.1 g.2 f c λr=>k (decide_eq_true r.2),λk=>?_⟩);have G:DW S.lv v<B.el S.n (DW S.lv) (Ax S.po) hi:=of_decide_eq_true (a2.1 k);refine⟨λe=>?_,λJ=>⟨b,rfl,S.ob,m.st,λ_=>⟨λ_=>g.1,?_⟩⟩⟩
 .subst e;refine h lo S H g.1 g.2 f c D G m l Jk.refl OP.refl f (by funext a;simp) (by omega) (λi d n=>.inl n)
 have q:v.toNat<δ S.tb:=by have:=g.2;unfold B9.n at this;omega
 have R:((v.toNat:Nat):Int)=v:=by omega
 have u:v.toNat<δ S.ob.tables:=by simpa [B9.ob] using q
 have O:S.ob.tables[v.toNat]'u=ν S.tb[v.toNat]:=by simp [B9.ob]
 refine⟨u,u,rfl,?_⟩;rw[O];have C:∀e:Int,AO e (Cj hi)=B.fl e hi:=λe=>K7 c.1;rw[C lo,C hi];refine Pp (m.ta v.toNat q) (λp=>⟨λ_=>?_,λh=>qG (by simp) h⟩) λi P=>⟨λh=>qG rfl h,λ_=>⟨λh=>qG rfl h,λ_=>?_⟩⟩
 .refine SY m l.sc l.kids (λ_=>WD) g p (λZ=>⟨λ_=>W Z,λh=>qG (by simp) h⟩) λi S' H' L w Y c1 V=>⟨λh=>qG rfl h,λ_=>⟨λ_=>?_,?_⟩⟩
  .have:=w.lt;show i<=_;omega
  .obtain⟨y,s⟩:=l.add w c1 g f.fl c.fl (by rw[B.MA];exact D) (by rw[B.MA];exact G) (λe=>J (B.UJ e)) B.Vu p;have n:Ax S'.po i=ν ⟨v,B.fl lo hi,B.fl hi hi⟩:=by rw[w.Ax];exact B.Vf
   obtain⟨M,I,E⟩:=Apn y.BN B9.Lm w.pos n (f.ext s.Ax) (c.ext s.Ax);have o:=w.pos;have:AO (2*max i 0) (Cj hi)=B.fl (2*i) hi:=by rw[C,show max i 0=i by omega]
   show Q (AO (2*max i 0) (Cj hi),0,()) () H';rw[this];refine h _ S' H' g.1 g.2 f c D G Y y s V M ?_ ?_ ?_
   .rw[I,s.den l f,s.den l c]
   .rw[s.n,s.lv]at E;rw[E];exact aj _
   .intro j d' x;rw[w.Ax]at x;unfold B.Ko at x;split at x
    .rename_i e';cases x;refine .inr ⟨?_,rfl⟩;rw[e',B.Aha];omega
    .exact .inl x
 .have n:=(l.tg v.toNat q _ _ _).1 P;rw[R]at n;have o:=l.ib n;obtain⟨M,I,E⟩:=Apn l.BN B9.Lm o.1 n f c;refine⟨λ_=>by show i<=_;omega,?_⟩;have:AO (2*max i 0) (Cj hi)=B.fl (2*i) hi:=by rw[C,show max i 0=i by omega]
  show Q (AO (2*max i 0) (Cj hi),0,()) () H;rw[this];exact h _ S H g.1 g.2 f c D G m l Jk.refl OP.refl M I (by rw[E];exact aj _) (λi d n=>.inl n)
end
section
structure Acd(S S':B9)(g:Int->Int):Prop where
 Ax:Ax S'.po=Ax S.po
 rf:∀j,j≠0->Fq S'.po j=g j
 lv:S'.lv=S.lv
 tb:S'.tb=S.tb
 bl:S'.bl=S.bl
 bp:S'.bp=S.bp
 ta:S'.ta=S.ta
 room:S'.po.room=S.po.room
 many:S'.po.many=S.po.many
variable {S:B9}
theorem Acd.n{S':B9}{g:Int->Int}(h:Acd S S' g):S'.n=S.n:=by unfold B9.n;rw[h.tb]
theorem Ain{p:A7}(h:F4 p):Fq p 0=0:=by unfold Fq;rw[Adq h]
theorem Acd.si{S':B9}{g:Int->Int}(k:Acd S S' g)(h:SI S)(a:SC S' g)(b:∀j,0<=g j):SI S':=by
 refine⟨⟨a.po,a.cn.congr λi c=>(k.rf i (by omega)).symm,a.ln,a.dead⟩,?_,?_,?_,?_,?_,?_,?_⟩
 .rw[k.n,k.lv,k.Ax];exact h.BN
 .rw[k.lv,k.tb];exact h.vl
 .rw[k.lv,k.tb];exact h.ll
 .rw[k.lv,k.n];exact h.inv
 .rw[k.tb,k.ta];exact h.tn
 .rw[k.tb,k.ta,k.Ax];exact h.tg
 .intro i;by_cases e:i=0
  .rw[e,Ain a.po];omega
  .rw[k.rf i e];grind
theorem Adg{p p':A7}{i:Int}{n:AE}{x:Int}(a:GJ p i=ν n)(h:∀j,GJ p' j=if j=i then ν {n with Refs:=n.Refs+x} else GJ p j):Ax p'=Ax p/\∀j,Fq p' j=if j=i then Fq p j+x else Fq p j:=by grind[Ax,Fq]
def B9.wp(S:B9)(po:A7):B9:={S with po:=po}
theorem Yz{b:Nat}{f:Int}{H:HY}{X:PX}{Q:Int×Unit->UU}(o:Ca H b S)(k:SI S)(L:∀i,Fq S.po i<1152921504606846976)(Y:¬B.Ok (Ax S.po) f->Q (8,()) () H)(h:∀S' H',B.Ok (Ax S.po) f->Ca H' b S'->SI S'->Acd S S' (λi=>Fq S.po i+B.dl f i)->OP b S H H'->Q (0,()) () H'):qK 223 Iv (ν b,f,()) H Q X:=by
 refine wF Tryz.f223 {} (?_:letI E:=λ(a:qV)_ G=>qK 215 Ii ((ν b),f,()) G (λ(a io:UT)(G:HY)=>Q (0,()) () G) X;((ν b)=τ->Q (5,()) () H)/\(¬(ν b)=τ->qK 189 D3 ((ν b),f,()) H (λ(a:qU)_ G=>(¬a.1->Q (8,()) () G)/\(¬¬a.1->∃(a:Nat),letI F:=λ(b1:AE×qU)_ G=>(b1.2.1->IK b1.1.Refs->IK (b1.1.Refs+1)/\∃(x:Ai),G a=ν (Ob.st AD x)/\x=x/\qK 216 Di (x.Gx,{ID:=b1.1.ID,Var:=b1.1.Var,Lo:=b1.1.Lo,Hi:=b1.1.Hi,Refs:=b1.1.Refs+1:AE},()) G E X)/\(¬b1.2.1->Q (0,()) () G);(ν b)=ν a/\(∃(x:Ai),letI I:=x=x/\qK 183 Bc (x.Gx,FM f,()) G F X;G a=ν (Ob.st AD x)/\I/\I)/\∃(x:Ai),G a=ν (Ob.st AD x)/\x=x/\qK 183 Bc (x.Gx,FM f,()) G F X)) X));have w:=k.sc.po;refine⟨λh=>qG h (by simp),λ_=>KK o w λt I=>⟨λc=>Y λW=>c (I.2 W),λc=>?_⟩⟩;have u:=I.1 (a2.1 c);rw[K6 u.1];have s:qK 183 Bc (ν S.bp,f/2,()) H (λ(a:AE×Bool×Unit)(K:Unit)(H':HY)=>
   (a.2.1=φ->Bl .i64 a.1.Refs->Bl .i64 (a.1.Refs+1)/\∃(x:Ai),H' b=ν (Ob.st AD x)/\{levels:=x.levels,Gx:=x.Gx,tables:=x.tables,counts:=x.counts,dead:=x.dead:Ai}=x/\
    qK 216 Di (x.Gx,{ID:=a.1.ID,Var:=a.1.Var,Lo:=a.1.Lo,Hi:=a.1.Hi,Refs:=a.1.Refs+1:AE},()) H' (λ(_:Int×Unit)(K:Unit)(H':HY)=>qK 215 Ii (ν b,f,()) H' (λ(_ K:Unit)(H':HY)=>Q (0,()) () H') X) X)/\
   (¬a.2.1=φ->Q (0,()) () H')) X:=by
  refine Hh o.po w (λc=>⟨λh=>qG h (by simp),λ_=>?_⟩) λn c=>⟨λ_ _=>?_,λh=>qG rfl h⟩
  .have V:f/2=0:=by
    rcases u.2 with h|⟨d,y⟩
    all_goals grind[GK]
   refine h S H u o k ⟨rfl,λj z=>?_,rfl,rfl,rfl,rfl,rfl,rfl,rfl⟩ OP.refl;grind[B.L3]
  .have v:=w.id _ _ c
   have V:=(w.tk (i:=f/2) (by grind[GJ])).1
   have hR:Fq S.po (f/2)=n.Refs:=by unfold Fq;rw[c]
   have F:=L (f/2)
   have C:=k.rf (f/2)
   rw[hR]at F C
   refine⟨Aq.2 (by grind),S.ob,o.st,rfl,?_⟩
   refine P6 o.po w (λh=>?_) λm g A D z q p l=>?_
   .grind
   .obtain⟨r,T⟩:=Adg (x:=1) c λj=>by rw[z];show (if j=n.ID then _ else _)=_;rw[v]
    obtain⟨P,N⟩:=o.An6 g
    have Z:SC (S.wp g) (Fq S.po):=by
     refine⟨D,?_,?_,?_⟩
     .show B.Cn (Ax g) (δ g.at_) (Gd S.cn) _;rw[r,l];exact k.sc.cn
     .show ∀i d,Ax g i=ν d->_;rw[r];exact k.sc.ln
     .show S.dead=B.sm (δ g.at_) (B.zr (Ax g) (Gd S.cn));rw[r,l];exact k.sc.dead
    have E:=k.BN.dag
    rw[<-r]at E
    refine Nh (S:=S.wp g) (S.n.toNat+1) E (λh2=>?_) P Z ?_ (λi d _=>?_) λO dead H' R M _ U=>?_
    .obtain⟨d,y⟩:=u.2.resolve_left h2
     rw[<-r]at y
     have:=E.N7 y
     omega
    .show B.Ok (Ax g) f;grind
    .have:=L i;have:=@B.Ia f i;omega
    .have G:Acd S ((S.wp g).wc O dead) (λi=>Fq S.po i+B.dl f i):=⟨r,λj z=>by show Fq g j=_;rw[T];by_cases e:j=f/2;all_goals simp_all[B.IH,B.L3],rfl,rfl,rfl,rfl,rfl,p,q⟩
     exact h _ H' u R (G.si k M λj=>by have:=k.rf j;have:=@B.Ia f j;omega) G (N.trans U rfl rfl rfl)
 exact⟨b,rfl,⟨S.ob,o.st,⟨rfl,s⟩,rfl,s⟩,S.ob,o.st,rfl,s⟩
theorem Y1{b:Nat}{f:Int}{H:HY}{X:PX}{Q:Int×Unit->UU}(u:Ca H b S)(o:SI S)(hb:∀i,Fq S.po i<1152921504606846976)(h8:¬B.Ok (Ax S.po) f->Q (8,()) () H)(U:B.Ok (Ax S.po) f->f/2=0->Q (0,()) () H)(R:B.Ok (Ax S.po) f->f/2≠0->Fq S.po (f/2)=0->Q (5,()) () H)(h:∀S' H',B.Ok (Ax S.po) f->f/2≠0->0<Fq S.po (f/2)->Ca H' b S'->SI S'->Acd S S' (λi=>Fq S.po i-B.dl f i)->OP b S H H'->Q (0,()) () H'):qK 174 Iv (ν b,f,()) H Q X:=by
 refine wF Tryz.f174 {} (?_:letI E:=λ(a:qV)_ G=>qK 218 Ii ((ν b),f,()) G (λ(a io:UT)(G:HY)=>Q (0,()) () G) X;((ν b)=τ->Q (5,()) () H)/\(¬(ν b)=τ->qK 189 D3 ((ν b),f,()) H (λ(a:qU)_ G=>(¬a.1->Q (8,()) () G)/\(¬¬a.1->∃(a:Nat),letI F:=λ(b1:AE×qU)_ G=>(¬b1.2.1->Q (0,()) () G)/\(¬¬b1.2.1->(b1.1.Refs=0->Q (5,()) () G)/\(¬b1.1.Refs=0->IK b1.1.Refs->IK (b1.1.Refs-1)/\∃(x:Ai),G a=ν (Ob.st AD x)/\x=x/\qK 216 Di (x.Gx,{ID:=b1.1.ID,Var:=b1.1.Var,Lo:=b1.1.Lo,Hi:=b1.1.Hi,Refs:=b1.1.Refs-1:AE},()) G E X));(ν b)=ν a/\(∃(x:Ai),letI I:=x=x/\qK 183 Bc (x.Gx,FM f,()) G F X;G a=ν (Ob.st AD x)/\I/\I)/\∃(x:Ai),G a=ν (Ob.st AD x)/\x=x/\qK 183 Bc (x.Gx,FM f,()) G F X)) X));have w:=o.sc.po;refine⟨λh=>qG h (by simp),λ_=>KK u w λt L=>⟨λc=>h8 λY=>c (L.2 Y),λc=>?_⟩⟩;have r:=L.1 (a2.1 c);rw[K6 r.1];have v:qK 183 Bc (ν S.bp,f/2,()) H (λ(a:AE×Bool×Unit)(M:Unit)(H':HY)=>
   (¬a.2.1=φ->Q (0,()) () H')/\(¬¬a.2.1=φ->(a.1.Refs=(0:Int)->Q (5,()) () H')/\(¬a.1.Refs=(0:Int)->Bl .i64 a.1.Refs->Bl .i64 (a.1.Refs-1)/\∃(x:Ai),H' b=ν (Ob.st AD x)/\{levels:=x.levels,Gx:=x.Gx,tables:=x.tables,counts:=x.counts,dead:=x.dead:Ai}=x/\
    qK 216 Di (x.Gx,{ID:=a.1.ID,Var:=a.1.Var,Lo:=a.1.Lo,Hi:=a.1.Hi,Refs:=a.1.Refs-1:AE},()) H' (λ(_:Int×Unit)(M:Unit)(H':HY)=>qK 218 Ii (ν b,f,()) H' (λ(_ M:Unit)(H':HY)=>Q (0,()) () H') X) X))) X:=by
  refine Hh u.po w (λc=>⟨λ_=>?_,λh=>qG (by simp) h⟩) λn c=>⟨λh=>qG rfl h,λ_=>⟨λG=>?_,λG _=>?_⟩⟩
  .refine U r ?_
   rcases r.2 with h|⟨d,z⟩
   all_goals grind[GK]
  .refine R r (λe=>by rw[e,Adq w]at c;cases c) ?_
   unfold Fq;rw[c];exact G
  .have y:=w.id _ _ c
   have I:f/2≠0:=λe=>by grind[Adq]
   have K:Fq S.po (f/2)=n.Refs:=by unfold Fq;rw[c]
   have A:=hb (f/2)
   have E:=o.rf (f/2)
   rw[K]at A E
   have Z:¬n.Refs=0:=G
   refine⟨Aq.2 (by show _<=n.Refs-1/\n.Refs-1<=_;omega),S.ob,u.st,rfl,?_⟩
   refine P6 u.po w (λh=>?_) λm g D C J p q l=>?_
   .grind
   .obtain⟨s,T⟩:=Adg (x:=-1) c λj=>by rw[J];grind
    obtain⟨V,f1⟩:=u.An6 g
    have hC:SC (S.wp g) (Fq S.po):=by
     refine⟨C,?_,?_,?_⟩
     .show B.Cn (Ax g) (δ g.at_) (Gd S.cn) _;rw[s,l];exact o.sc.cn
     .show ∀i d,Ax g i=ν d->_;rw[s];exact o.sc.ln
     .show S.dead=B.sm (δ g.at_) (B.zr (Ax g) (Gd S.cn));rw[s,l];exact o.sc.dead
    have F:=o.BN.dag
    rw[<-s]at F
    have k:∀i,B.dl f i<=Fq S.po i:=λi=>by
     by_cases e:i=f/2
     .grind[B.IH]
     .rw[B.L3 e];exact o.rf i
    refine Ni (S:=S.wp g) (S.n.toNat+1) F (λh2=>?_) V hC ?_ (λi d _=>k i) λcn dead H' W P f2=>?_
    .obtain⟨d,z⟩:=r.2.resolve_left h2
     rw[<-s]at z
     have:=F.N7 z
     omega
    .show B.Ok (Ax g) f;grind
    .have O:Acd S ((S.wp g).wc cn dead) (λi=>Fq S.po i-B.dl f i):=⟨s,λj J=>by
      show Fq g j=_;rw[T];by_cases e:j=f/2
      .rw[UV e,e,B.IH];omega
      simp_all[B.L3],rfl,rfl,rfl,rfl,rfl,q,p⟩
     exact h _ H' r I (by omega) W (O.si o P λj=>by grind) O (f1.trans f2 rfl rfl rfl)
 exact⟨b,rfl,⟨S.ob,u.st,⟨rfl,v⟩,rfl,v⟩,S.ob,u.st,rfl,v⟩
end
section
set_option maxRecDepth 100000
set_option maxHeartbeats 2000000
def RA(m:Option Nat)(l:List BQ)(H:HY)(Q:qV->UU)(X:PX):=(m=τ->Q (5,()) () H)/\(¬m=τ->δ l<=2^63-1->∃(b:Nat),m=ν b/\∃(x:Be),letI E:=δ x.waits;H b=ν (Ob.st CW x)/\(E<=2^63-1->E<=2^63-1->IK (256-(E:Int))/\(256-(E:Int)<((δ l):Int)->x=x/\Q (18,()) () H)/\(¬256-(E:Int)<((δ l):Int)->δ l<=2^63-1->x=x/\∃(V:Nat->Nat×UT->HP),(∃(n:Nat),V n (0,()) H)/\∀n x H,V n x H->(x.1<δ l->x.1<=2^63-1->∃(h:x.1<δ l),letI I:=l[x.1];letI R:=x.1+1;letI F:=qK 50 Cv (m,()) H (λ(b:qV)_ G=>IK b.1->IK (b.1-1)/\(b.1-1<=I.Level->Q (2,()) () G)/\(¬b.1-1<=I.Level->R<=2^63-1/\∃m,m<n/\V m (R,()) G)) X;letI O:=R<=2^63-1/\∃m,m<n/\V m (R,()) H;letI P:=Q (2,()) () H;letI S:=Q (11,()) () H;(I.Kind<1->S)/\(¬I.Kind<1->(3<I.Kind->S)/\(¬3<I.Kind->(I.IB<1->P/\P)/\(¬I.IB<1->(I.Kind=2->(I.Level<0->P/\P)/\(¬I.Level<0->F/\F))/\(¬I.Kind=2->O/\O)))))/\(¬x.1<δ l->∃(x:Be),letI W:=δ x.waits;H b=ν (Ob.st CW x)/\(W<=2^63-1->(W=0->(W+δ l)*24<=2^47/\Q (0,()) () (Ac H b (Ob.st CW {x with waits:=x.waits++l,calls:=0})))/\(¬W=0->(W+δ l)*24<=2^47/\Q (0,()) () (Ac H b (Ob.st CW {x with waits:=x.waits++l}))))))))
def RE(m:Option Nat)(l:List Int)(H:HY)(Q:qV->UU)(X:PX):=(m=τ->Q (5,()) () H)/\(¬m=τ->δ l<=2^63-1->∃(V:Nat->Nat×UT->HP),(∃(n:Nat),V n (0,()) H)/\∀n x H,V n x H->(x.1<δ l->x.1<=2^63-1->∃(h:x.1<δ l),letI E:=l[x.1];letI F:=x.1+1;∃(b:Nat),m=ν b/\∃(x1:Be),letI I:=Ag x1.BF E;letI O:=x1=x1;H b=ν (Ob.st CW x1)/\(¬I.isSome->O/\Q (8,()) () H)/\(¬¬I.isSome->(1<E->O/\qK 174 Iv (x1.store,I.getD 0,()) H (λ(b1:qV)_ G=>∃(x2:Be),G b=ν (Ob.st CW x2)/\F<=2^63-1/\∃m,m<n/\V m (F,()) (Ac G b (Ob.st CW {x2 with BF:=Dl x2.BF E}))) X)/\(¬1<E->F<=2^63-1/\∃m,m<n/\O/\V m (F,()) H)))/\(¬x.1<δ l->Q (0,()) () H))
def Qe(x:Option Nat)(p1:Int)(H:HY)(Q:qV->UU)(X:PX):=qK 127 DF (x,p1,1,0,()) H (λ(b:qV)_ G=>Q (b.1,()) () G) X
theorem XJ x p1 H Q X(h_:Qe x p1 H Q X):qK 126 LZ (x,p1,()) H Q X:=wF Tryz.f126 {} h_
def Vz(x:Option Nat)(v lo hi:Int)(H:HY)(Q:qV->UU)(X:PX):=letI E:=λ(b:Int×qV)_ G=>(¬b.2.1=0->X (231:TypeId) {t:=Ty.u 15,x:={err:=b.2.1,event:=ψ,ev:={IB:=0,Kind:=0,Level:=0:BQ}:FN}:Lf Y0.D} G)/\(¬¬b.2.1=0->Q (b.1,()) () G);letI F:=ag (0:Int);∃(b:Nat),x=ν b/\∃(x:Hz),H b=ν (Ob.st EM x)/\∃(b:Nat),x.m=ν b/\x=x/\∃(x:Be),letI P:=Go.IntKind.wrap .i64 (x.calls+1);letI I:=qK 190 Oi (x.store,v,lo,hi,()) (Ac H b (Ob.st CW {x with calls:=P})) E X;letI O:=δ x.waits;H b=ν (Ob.st CW x)/\(O<=2^63-1->(0<O->(True->(0:Int)<=0)/\∃(h:F<O),∃(h:F<O),(x.waits[F].IB<=P->(True->(0:Int)<=0)/\∃(h:F<O),∃(h:F<O),letI R:=x.waits[F];(0:Int)<=1/\ag (1:Int)<=O/\X (231:TypeId) {t:=Ty.u 15,x:={err:=0,event:=φ,ev:=R:FN}:Lf Y0.D} (Ac H b (Ob.st CW {x with waits:=bt (ag (1:Int)) x.waits,calls:=0})))/\(¬x.waits[F].IB<=P->I))/\(¬0<O->I))
theorem Ae0 x v lo hi H Q X(h_:Vz x v lo hi H Q X):qK 127 DF (x,v,lo,hi,()) H Q X:=wF Tryz.f127 {wr:=[21]} h_
def Qg(m:Option Nat)(yes:Bool)(H:HY)(Q:qV->UU)(_:PX):=letI E:=Q (0,()) () H;(m=τ->E)/\(¬m=τ->(¬yes->E)/\(¬¬yes->Q (1,()) () H))
theorem XL m yes H Q X(h_:Qg m yes H Q X):qK 132 Bu (m,yes,()) H Q X:=wF Tryz.f132 {} h_
def XP(x:Option Nat)(v:Int)(H:HY)(Q:qV->UU)(X:PX):=∃(b:Nat),x=ν b/\∃(x:Hz),H b=ν (Ob.st EM x)/\∃(b:Nat),x.m=ν b/\{m:=x.m:Hz}=x/\∃(x:Be),H b=ν (Ob.st CW x)/\x=x/\qK 124 Iv (x.store,v,()) H (λ(b:qV)_ G=>Q (b.1,()) () G) X
theorem XO x v H Q X(h_:XP x v H Q X):qK 145 Iv (x,v,()) H Q X:=wF Tryz.f145 {} h_
def YK(x:Option Nat)(h:Int)(H:HY)(Q:qV->UU)(X:PX):=∃(b:Nat),x=ν b/\∃(x:Hz),H b=ν (Ob.st EM x)/\∃(b:Nat),x.m=ν b/\x=x/\∃(x:Be),letI E:=¬(Ag x.BF h).isSome=φ;H b=ν (Ob.st CW x)/\(E->x=x/\X (231:TypeId) {t:=Ty.u 15,x:={err:=8,event:=ψ,ev:={IB:=0,Kind:=0,Level:=0:BQ}:FN}:Lf Y0.D} H)/\(¬E->x=x/\Q ((Ag x.BF h).getD 0,()) () H)
theorem YJ x h H Q X(h_:YK x h H Q X):qK 147 Iv (x,h,()) H Q X:=wF Tryz.f147 {} h_
def TW(x:Option Nat)(f g h:Int)(H:HY)(Q:qV->UU)(X:PX):=∃(V:Nat->Int×Int×Int×Bool×Nat×UT->HP),(∃(n:Nat),V n (f,g,h,ψ,0,()) H)/\∀n x1 H,V n x1 H->(x1.2.2.2.2.1<3->qK 196 RZ (x1.1,x1.2.1,x1.2.2.1,()) H (λ(b:Int×Int×Int×Bool×Int×qU)_ G=>letI F:=!ω (x1.2.2.2.1=φ)==ω (b.2.2.2.1=φ);letI P:=x1.2.2.2.2.1+1;letI E:=P<=2^63-1/\∃m,m<n/\V m (b.1,b.2.1,b.2.2.1,F,P,()) G;letI I:=b.2.2.1=x1.2.2.1;letI O:=b.2.2.2.2.2.1=φ;letI R:=b.2.1=x1.2.1;(O->Q (AO b.2.2.2.2.1 x1.2.2.2.1,()) () G)/\(¬O->(b.1=x1.1->(R->(I->∃(b1:Nat),x=ν b1/\∃(x2:Hz),G b1=ν (Ob.st EM x2)/\∃(b2:Nat),x2.m=ν b2/\x2=x2/\∃(x3:Be),G b2=ν (Ob.st CW x3)/\x3=x3/\qK 197 FR (x3.T3,(1:den Y0.D (Ty.int .i64)),x1.1,x1.2.1,x1.2.2.1,()) G (λ(b3:Int×qU)_ G=>(b3.2.1->Q (AO b3.1 F,()) () G)/\(¬b3.2.1->qK 198 Em (x,[x1.1,x1.2.1,x1.2.2.1],()) G (λ(b4:qV)_ G=>qK 199 NB (x,x1.1,b4.1,()) G (λ(b5:Int×qV)_ G=>qK 199 NB (x,x1.2.1,b4.1,()) G (λ(b6:Int×qV)_ G=>qK 199 NB (x,x1.2.2.1,b4.1,()) G (λ(b7:Int×qV)_ G=>qK 148 DF (x,b5.1,b6.1,b7.1,()) G (λ(b8:qV)_ G=>qK 148 DF (x,b5.2.1,b6.2.1,b7.2.1,()) G (λ(b9:qV)_ G=>qK 127 DF (x,b4.1,b8.1,b9.1,()) G (λ(b10:qV)_ G=>∃(x:Hz),G b1=ν (Ob.st EM x)/\∃(b11:Nat),x.m=ν b11/\x=x/\∃(x:Be),G b11=ν (Ob.st CW x)/\x=x/\qK 200 FQ (x.T3,(1:den Y0.D (Ty.int .i64)),x1.1,x1.2.1,x1.2.2.1,b10.1,()) G (λ(_ _:UT)(G:HY)=>Q (AO b10.1 F,()) () G) X) X) X) X) X) X) X) X)) X)/\(¬I->E))/\(¬R->E))/\(¬b.1=x1.1->E))) X)/\(¬x1.2.2.2.2.1<3->∃(b:Nat),x=ν b/\∃(x2:Hz),H b=ν (Ob.st EM x2)/\∃(b1:Nat),x2.m=ν b1/\x2=x2/\∃(x3:Be),H b1=ν (Ob.st CW x3)/\x3=x3/\qK 197 FR (x3.T3,(1:den Y0.D (Ty.int .i64)),x1.1,x1.2.1,x1.2.2.1,()) H (λ(b2:Int×qU)_ G=>(b2.2.1->Q (AO b2.1 x1.2.2.2.1,()) () G)/\(¬b2.2.1->qK 198 Em (x,[x1.1,x1.2.1,x1.2.2.1],()) G (λ(b3:qV)_ G=>qK 199 NB (x,x1.1,b3.1,()) G (λ(b4:Int×qV)_ G=>qK 199 NB (x,x1.2.1,b3.1,()) G (λ(b5:Int×qV)_ G=>qK 199 NB (x,x1.2.2.1,b3.1,()) G (λ(b6:Int×qV)_ G=>qK 148 DF (x,b4.1,b5.1,b6.1,()) G (λ(b7:qV)_ G=>qK 148 DF (x,b4.2.1,b5.2.1,b6.2.1,()) G (λ(b8:qV)_ G=>qK 127 DF (x,b3.1,b7.1,b8.1,()) G (λ(b9:qV)_ G=>∃(x:Hz),G b=ν (Ob.st EM x)/\∃(b:Nat),x.m=ν b/\x=x/\∃(x:Be),G b=ν (Ob.st CW x)/\x=x/\qK 200 FQ (x.T3,(1:den Y0.D (Ty.int .i64)),x1.1,x1.2.1,x1.2.2.1,b9.1,()) G (λ(_ _:UT)(G:HY)=>Q (AO b9.1 x1.2.2.2.1,()) () G) X) X) X) X) X) X) X) X)) X)
theorem Ab1 x f g h H Q X(h_:TW x f g h H Q X):qK 148 DF (x,f,g,h,()) H Q X:=wF Tryz.f148 {lp:=[(3,⟨[(1,.one (.dat I6)),(2,.one (.dat I6)),(3,.one (.dat I6)),(9,.one (.dat .bool)),(27,.nat)],[0],φ⟩)]} h_
def RB(m:Option Nat)(op:Option Nat×UT->HY->(UT->HP)->PX->Prop)(H:HY)(Q:qV->UU)(X:PX):=(m=τ->Q (5,()) () H)/\(¬m=τ->qK 187 Nn (m,op,()) H (λ(b:qV)_ G=>Q (b.1,()) () G) X)
theorem YH m op H Q X(h_:RB m op H Q X):qK 149 Nn (m,op,()) H Q X:=wF Tryz.f149 {} h_
def Qf(x:Option Nat)(p1 p2 p3:Int)(H:HY)(Q:qV->UU)(X:PX):=qK 147 Iv (x,p1,()) H (λ(b:qV)_ G=>qK 147 Iv (x,p2,()) G (λ(b1:qV)_ G=>qK 147 Iv (x,p3,()) G (λ(b2:qV)_ G=>qK 148 DF (x,b.1,b1.1,b2.1,()) G (λ(b:qV)_ G=>Q (b.1,()) () G) X) X) X) X
theorem XK x p1 p2 p3 H Q X(h_:Qf x p1 p2 p3 H Q X):qK 170 Md (x,p1,p2,p3,()) H Q X:=wF Tryz.f170 {} h_
def TV(m:Option Nat)(op:Option Nat×UT->HY->(UT->HP)->PX->Prop)(H:HY)(Q:qV->UU)(X:PX):=∃(V:Nat->qU->HP),(∃(n:Nat),V n (ψ,()) H)/\∀n x H,V n x H->qK 227 Jt (m,op,()) H (λ(b:FN×qU)_ G=>letI E:=Q (b.1.err,()) () G;(b.2.1->Q (0,()) () G)/\(¬b.2.1->(b.1.event->qK 228 Lk (m,b.1.ev,()) G (λ(_ _:UT)(G:HY)=>∃m,m<n/\V m (ψ,()) G) X)/\(¬b.1.event->(b.1.err=7->(¬x.1->qK 229 Cv (m,()) G (λ(_:qV)_ G=>∃m,m<n/\V m (φ,()) G) X)/\(¬¬x.1->E))/\(¬b.1.err=7->E)))) X
def RF(x:Option Nat)(p1:Option Nat×UT->HY->(qV->HP)->PX->Prop)(p2:Option Nat)(H:HY)(Q:UT->UU)(X:PX):=p1 (x,()) H (λ(b:qV)(G:HY)=>∃(b1:Nat),p2=ν b1/\∃(x:Int),G b1=ν (Ob.st Cc x)/\Q () () (Ac G b1 (Ob.st Cc b.1))) X
theorem YI x p1 p2 H Q X(h_:RF x p1 p2 H Q X):qK 188 Np (x,p1,p2,()) H Q X:=wF Tryz.f188 {} h_
def Ab0(x:Option Nat)(l:List Int)(H:HY)(Q:qV->UU)(X:PX):=δ l<=2^63-1->∃(V:Nat->Int×Int×Nat×UT->HP),(∃(n:Nat),V n ((-1:Int),0,0,()) H)/\∀n x1 H,V n x1 H->(x1.2.2.1<δ l->x1.2.2.1<=2^63-1->∃(h:x1.2.2.1<δ l),letI E:=x1.2.2.1+1;∃(b:Nat),x=ν b/\∃(x2:Hz),H b=ν (Ob.st EM x2)/\∃(b:Nat),x2.m=ν b/\x2=x2/\∃(x3:Be),H b=ν (Ob.st CW x3)/\x3=x3/\qK 122 D4 (x3.store,l[x1.2.2.1],()) H (λ(b:Int×Int×Int×qU)_ G=>letI F:=λ(b2:qV)_ G=>E<=2^63-1/\∃m,m<n/\V m (b.1,b2.1,E,()) G;(b.2.2.2.1->(x1.1<0->qK 145 Iv (x,b.1,()) G F X)/\(¬x1.1<0->qK 145 Iv (x,b.1,()) G (λ(b1:qV)_ G=>letI I:=b1.1<x1.2.1;(I->qK 145 Iv (x,b.1,()) G F X)/\(¬I->E<=2^63-1/\∃m,m<n/\V m (x1.1,x1.2.1,E,()) G)) X))/\(¬b.2.2.2.1->E<=2^63-1/\∃m,m<n/\V m (x1.1,x1.2.1,E,()) G)) X)/\(¬x1.2.2.1<δ l->Q (x1.1,()) () H)
theorem Abz x l H Q X(h_:Ab0 x l H Q X):qK 198 Em (x,l,()) H Q X:=wF Tryz.f198 {lp:=[(3,⟨[(5,.one (.dat I6)),(6,.one (.dat I6)),(15,.nat)],[0,13,14],φ⟩)]} h_
def XN(x:Option Nat)(f v:Int)(H:HY)(Q:Int×qV->UU)(X:PX):=∃(b:Nat),x=ν b/\∃(x:Hz),H b=ν (Ob.st EM x)/\∃(b:Nat),x.m=ν b/\x=x/\∃(x:Be),H b=ν (Ob.st CW x)/\x=x/\qK 122 D4 (x.store,f,()) H (λ(b:Int×Int×Int×qU)_ G=>letI E:=Q (f,f,()) () G;letI F:=¬b.2.2.2.1=φ;(F->E)/\(¬F->(¬b.1=v->E)/\(¬¬b.1=v->Q (b.2.1,b.2.2.1,()) () G))) X
theorem XM x f v H Q X(h_:XN x f v H Q X):qK 199 NB (x,f,v,()) H Q X:=wF Tryz.f199 {} h_
def OJ(m:Option Nat)(ev:BQ)(H:HY)(Q:UT->UU)(X:PX):=letI E:=λ(b:qV)_ G=>Q () () G;∃(b:Nat),m=ν b/\∃(x:Be),H b=ν (Ob.st CW x)/\x=x/\qK 162 DR (x.T3,()) H (λ(b1 io:UT)(G:HY)=>(ev.Kind=1->∃(x:Be),G b=ν (Ob.st CW x)/\x=x/\qK 207 Cv (x.store,()) G E X)/\(¬ev.Kind=1->(ev.Kind=2->∃(x:Be),G b=ν (Ob.st CW x)/\x=x/\qK 163 Iv (x.store,ev.Level,()) G E X)/\(¬ev.Kind=2->∃(x:Be),G b=ν (Ob.st CW x)/\x=x/\qK 161 Mc (x.store,()) G (λ(b2:List Int×UT)_ G=>qK 258 MQ (b2.1,()) G (λ(b3:List Int×UT)_ G=>qK 257 Js (b2.1,b3.1,()) G (λ(b4:List Int×qV)_ G=>letI F:=δ b4.1;F<=2^63-1->∃(V:Nat->List Int×Nat×UT->HP),(∃(n:Nat),V n (b4.1,0,()) G)/\∀n x H,V n x H->(x.2.1<F->x.2.1<=2^63-1->∃(h:x.2.1<δ x.1),∃(h:x.2.1<δ x.1),∃(x1:Be),H b=ν (Ob.st CW x1)/\x1=x1/\qK 163 Iv (x1.store,x.1[x.2.1],()) H (λ(b:qV)_ G=>x.2.1+1<=2^63-1/\∃m,m<n/\V m (x.1,x.2.1+1,()) G) X)/\(¬x.2.1<F->Q () () H)) X) X) X))) X
def RC(m:Option Nat)(f:Int)(l:List Bool)(H:HY)(Q:Bool×qV->UU)(X:PX):=(m=τ->Q (ψ,5,()) () H)/\(¬m=τ->∃(b:Nat),m=ν b/\∃(x:Be),letI E:=¬(Ag x.BF f).isSome=φ;H b=ν (Ob.st CW x)/\(E->x=x/\Q (ψ,8,()) () H)/\(¬E->x=x/\∃(V:Nat->qV->HP),(∃(n:Nat),V n ((Ag x.BF f).getD 0,()) H)/\∀n x H,V n x H->(¬ω (FM x.1=0)->∃(x1:Be),H b=ν (Ob.st CW x1)/\x1=x1/\qK 122 D4 (x1.store,x.1,()) H (λ(b:Int×Int×Int×qU)_ G=>letI F:=∃m,m<n/\V m (b.2.1,()) G;δ l<=2^63-1->(b.1<((δ l):Int)->IK b.1->(IK b.1->0<=b.1)/\∃(h:b.1.toNat<δ l),(l[b.1.toNat]->∃m,m<n/\V m (b.2.2.1,()) G)/\(¬l[b.1.toNat]->F))/\(¬b.1<((δ l):Int)->F)) X)/\(¬¬ω (FM x.1=0)->Q (ω (x.1=0),0,()) () H)))
end
section
variable {H H':HY} {b:Nat} {S:B9}
theorem Ca.BX{c m:Nat}{x:Y0.O m}(h:Ca H b S)(a:H c=ν (.st m x))(l:m≠AD)(k:m≠CR)(g:m≠Da)(j:m≠Cy)(f:OP b S H H'):H' c=ν (.st m x):=by
 rw[f c (Bk a h.st l) (Bk a h.lv k) (Bk a h.po g) λd=>?_]
 .exact a
 .obtain⟨v,i,e⟩:=bc.1 d;exact Bk a (h.ta v i) j e.symm
theorem Ca.other{c m:Nat}{x:Y0.O m}{y:Ob Y0}(h:Ca H b S)(a:H c=ν (.st m x))(e:m≠AD)(i:m≠CR)(f:m≠Da)(g:m≠Cy):Ca (Ac H c y) b S:=by
 refine⟨?_,?_,?_,h.nd,λv d=>?_⟩
 .rw[Ad _ _ (Bk a h.st e).symm];exact h.st
 .rw[Ad _ _ (Bk a h.lv i).symm];exact h.lv
 .rw[Ad _ _ (Bk a h.po f).symm];exact h.po
 .rw[Ad _ _ (Bk a (h.ta v d) g).symm];exact h.ta v d
structure Mn where
 sb:Nat
 S:B9
 mb:Nat
 me:B7
 hs:List (Int×Int)
 nx:Int
 ws:List BQ
 ca:Int
def Mn.ob(M:Mn):Be:={store:=ν M.sb,T3:=ν M.mb,BF:=M.hs,EK:=M.nx,waits:=M.ws,calls:=M.ca}
structure JI(H:HY)(b:Nat)(M:Mn):Prop where
 ob:H b=ν (.st CW M.ob)
 st:Ca H M.sb M.S
 me:H M.mb=ν (.st CC M.me)
def Kr(b:Nat)(M:Mn)(H H':HY):Prop:=∀c,c≠b->c≠M.mb->c≠M.sb->c≠M.S.bl->c≠M.S.bp->c∉M.S.tb->H' c=H c
variable {M:Mn}
theorem Kr.refl:Kr b M H H:=λ_ _ _ _ _ _ _=>rfl
structure DD(M M':Mn):Prop where
 sb:M'.sb=M.sb
 mb:M'.mb=M.mb
 bl:M'.S.bl=M.S.bl
 bp:M'.S.bp=M.S.bp
 tb:M'.S.tb=M.S.tb
theorem Kr.trans{M':Mn}{H'':HY}(h:Kr b M H H')(k:Kr b M' H' H'')(e:DD M M'):Kr b M H H'':=λc i f j a g d=>by rw[k c i (by rw[e.mb];exact f) (by rw[e.sb];exact j) (by rw[e.bl];exact a) (by rw[e.bp];exact g) (by rw[e.tb];exact d),h c i f j a g d]
theorem OP.frm(f:OP M.sb M.S H H'):Kr b M H H':=λc _ _ g a e d=>f c g a e d
theorem Kr.set{o:Ob Y0}:Kr b M H (Ac H b o):=λ_ a _ _ _ _ _=>Ad _ _ a
def Mo:List (Int×Int)->Int->Int
 | [],_=>0
 |p::m,i=>B.dl p.2 i+Mo m i
theorem QR{i:Int}:∀{m:List (Int×Int)},0<=Mo m i/\Mo m i<=δ m
 | []=>by simp [Mo]
 |p::m=>by have:=QR (i:=i) (m:=m);have:=@B.Ia p.2 i;grind[Mo,am]
theorem TC{k v i:Int}:∀{m:List (Int×Int)},Ag m k=τ->Mo (C4 m k v) i=Mo m i+B.dl v i/\δ (C4 m k v)=δ m+1
 | [],_=>by simp [Mo,C4]
 |p::m,h=>by
  unfold Ag at h;split at h
  .cases h
  .rename_i a;have:=TC (v:=v) (i:=i) h;unfold C4;rw[GT a];grind[Mo,am]
theorem TD{k v i:Int}:∀{m:List (Int×Int)},Ag m k=ν v->Mo (Dl m k) i=Mo m i-B.dl v i/\δ (Dl m k)+1=δ m
 |p::m,h=>by
  unfold Ag at h;unfold Dl;split at h
  .rename_i a;rw[UV a];grind[Mo]
  .rename_i a;have:=TD (i:=i) h;rw[GT a];grind[Mo,am]
structure MI(M:Mn):Prop where
 si:SI M.S
 nd:Pc M.hs
 ok:∀h e,Ag M.hs h=ν e->B.Ok (Ax M.S.po) e/\0<=h/\h<M.nx
 k0:Ag M.hs 0=ν 1
 k1:Ag M.hs 1=ν 0
 nx:2<=M.nx
 rf:∀i,i≠0->Fq M.S.po i=Mo M.hs i
 ln:δ M.hs<=M.nx
theorem MI.hb(h:MI M)(a:M.nx<576460752303423488)(i:Int):Fq M.S.po i<1152921504606846976:=by
 by_cases e:i=0
 .rw[e,Ain h.si.sc.po];omega
 .rw[h.rf i e];have:=@QR i M.hs;have:=h.ln;omega
def Mn.Ar(M:Mn)(h:Int):Option B.Fn:=(Ag M.hs h).map (B.den (Ax M.S.po))
theorem MI.Apr(h:MI M):M.Ar 0=ν (λ_=>ψ):=by unfold Mn.Ar;rw[h.k0];rfl
theorem MI.Awu(h:MI M):M.Ar 1=ν (λ_=>φ):=by unfold Mn.Ar;rw[h.k1];rfl
theorem Mn.Gj{h:Int}{F:B.Fn}(k:M.Ar h=ν F):∃e,Ag M.hs h=ν e/\B.den (Ax M.S.po) e=F:=by simp_all[Mn.Ar]
theorem Mn.ND{h:Int}:M.Ar h=τ↔Ag M.hs h=τ:=by unfold Mn.Ar;cases Ag _ h<;>simp
structure MHs(M M':Mn):Prop where
 bs:DD M M'
 Ax:Ax M'.S.po=Ax M.S.po
 lv:M'.S.lv=M.S.lv
 room:M'.S.po.room=M.S.po.room
 many:M'.S.po.many=M.S.po.many
 me:M'.me=M.me
 ws:M'.ws=M.ws
 ca:M'.ca=M.ca
theorem MHs.refl:MHs M M:=⟨⟨rfl,rfl,rfl,rfl,rfl⟩,rfl,rfl,rfl,rfl,rfl,rfl,rfl⟩
theorem MHs.trans{M' M'':Mn}(h:MHs M M')(k:MHs M' M''):MHs M M'':=⟨⟨k.bs.sb.trans h.bs.sb,k.bs.mb.trans h.bs.mb,k.bs.bl.trans h.bs.bl,k.bs.bp.trans h.bs.bp,k.bs.tb.trans h.bs.tb⟩,k.Ax.trans h.Ax,k.lv.trans h.lv,k.room.trans h.room,k.many.trans h.many,k.me.trans h.me,k.ws.trans h.ws,k.ca.trans h.ca⟩
def Mn.wh(M:Mn)(S:B9)(hs:List (Int×Int))(nx:Int):Mn:={M with S:=S,hs:=hs,nx:=nx}
theorem JI.A2o(h:JI H b M)(e:Ca H' M.sb S)(f:OP M.sb M.S H H')(hs:List (Int×Int))(a:Int):H' b=ν (.st CW M.ob)/\JI (Ac H' b (.st CW (M.wh S hs a).ob)) b (M.wh S hs a)/\Kr b M H (Ac H' b (.st CW (M.wh S hs a).ob)):=by
 have d:=h.st.BX h.ob (by decide) (by decide) (by decide) (by decide) f;have m:=h.st.BX h.me (by decide) (by decide) (by decide) (by decide) f;refine⟨d,⟨Ah _ _ _,e.other d (by decide) (by decide) (by decide) (by decide),?_⟩,λc k n j l i g=>?_⟩
 .show Ac _ b _ M.mb=ν _;rw[Ad _ _ (Bk h.me h.ob (by decide))];exact m
 .rw[Ad _ _ k];exact f c j l i g
variable {X:PX}
theorem PG{f:Int}{Q:Int×Unit->UU}(k:JI H b M)(d:MI M)(s:M.nx<576460752303423488)(o:B.Ok (Ax M.S.po) f)(h:∀M' H',JI H' b M'->MI M'->MHs M M'->M'.nx=M.nx+1->δ M'.hs=δ M.hs+1->(∀g,M'.Ar g=if g=M.nx then ν (B.den (Ax M.S.po) f) else M.Ar g)->Kr b M H H'->Q (M.nx,()) () H'):qK 168 Iv (ν b,f,()) H Q X:=by
 refine wF Tryz.f168 {} (?_:∃(a:Nat),(ν b)=ν a/\∃(x:Be),H a=ν (Ob.st CW x)/\x=x/\qK 223 Iv (x.store,f,()) H (λ(b1:qV)_ G=>∃(x:Be),G a=ν (Ob.st CW x)/\(IK x.EK->IK (x.EK+1)/\Q (x.EK,()) () (Ac G a (Ob.st CW {x with BF:=C4 x.BF x.EK f,EK:=x.EK+1})))) X);refine⟨b,rfl,M.ob,k.ob,rfl,Yz k.st d.si (d.hb s) (λh=>qG o h) λl H' _ n m c u=>?_⟩;obtain⟨w,q,r⟩:=k.A2o n u _ _;have z:=d.nx;have a:Ag M.hs M.nx=τ:=by
  cases e:Ag _ M.nx with
  |none=>rfl
  |some x=>have:=(d.ok _ _ e).2.2;omega
 refine⟨M.ob,w,λ_=>⟨Aq.2 (by show _<=M.nx+1/\M.nx+1<=_;omega),h _ _ q ⟨m,?_,?_,?_,?_,?_,?_,?_⟩ ⟨⟨rfl,rfl,c.bl,c.bp,c.tb⟩,c.Ax,c.lv,c.room,c.many,rfl,rfl,rfl⟩ rfl (TC (i:=0) a).2 (λg=>?_) r⟩⟩
 .exact K8 d.nd _ _
 .intro g e t;have j:Ag (C4 _ M.nx f) g=ν e:=t;rw[Cw]at j;show B.Ok (Ax l.po) e/\0<=g/\g<M.nx+1;rw[c.Ax];split at j
  .grind
  .have:=d.ok g e j;grind
 .show Ag (C4 _ M.nx f) 0=_;rw[Cw,GT (by omega)];exact d.k0
 .show Ag (C4 _ M.nx f) 1=_;rw[Cw,GT (by omega)];exact d.k1
 .show 2<=M.nx+1;omega
 .intro i p;show Fq l.po i=Mo (C4 M.hs M.nx f) i;rw[c.rf i p,(TC a).1,d.rf i p]
 .show δ (C4 M.hs M.nx f)<=M.nx+1;have:=(TC (i:=0) (v:=f) a).2;have:=d.ln;omega
 .show (Ag (C4 _ M.nx f) g).map (B.den (Ax l.po))=_;rw[Cw,c.Ax];by_cases e:g=M.nx
  .grind
  .rw[GT e,GT e];rfl
variable {g:Int}
theorem Ad8{Q:Int×Int×Unit->UU}(i:JI H b M)(f:MI M)(p:M.nx<576460752303423488)(l:M.Ar g=τ->Q (0,8,()) () H)(h:∀F M' H',M.Ar g=ν F->JI H' b M'->MI M'->MHs M M'->M'.nx=M.nx+1->δ M'.hs=δ M.hs+1->(∀k,M'.Ar k=if k=M.nx then ν F else M.Ar k)->Kr b M H H'->Q (M.nx,0,()) () H'):qK 131 Oh (ν b,g,()) H Q X:=by
 refine wF Tryz.f131 {} (?_:((ν b)=τ->Q (0,5,()) () H)/\(¬(ν b)=τ->∃(a:Nat),(ν b)=ν a/\∃(x:Be),letI E:=¬(Ag x.BF g).isSome=φ;H a=ν (Ob.st CW x)/\(E->x=x/\Q (0,8,()) () H)/\(¬E->x=x/\qK 168 Iv ((ν b),(Ag x.BF g).getD 0,()) H (λ(a:qV)_ G=>Q (a.1,0,()) () G) X)));refine⟨λh=>qG h (by simp),λ_=>⟨b,rfl,M.ob,i.ob,λd=>⟨rfl,l (Mn.ND.2 ?_)⟩,λd=>⟨rfl,?_⟩⟩⟩
 .have a:¬(Ag M.hs g).isSome=φ:=d;simp_all
 .have a:¬¬(Ag M.hs g).isSome=φ:=d;obtain⟨e,c⟩:=a8.1 (a2.1 a);have n:(Ag M.ob.BF g).getD 0=e:=by show (Ag M.hs g).getD 0=e;grind
  rw[n];have q:M.Ar g=ν (B.den (Ax M.S.po) e):=by grind[Mn.Ar]
  exact PG i f p (f.ok _ _ c).1 λM' H' t o u j s m r=>h _ _ _ q t o u j s m r
theorem Ag0{Q:Int×Int×Unit->UU}(l:JI H b M)(j:MI M)(m:M.nx<576460752303423488)(q:M.Ar g=τ->Q (0,8,()) () H)(h:∀F M' H',M.Ar g=ν F->JI H' b M'->MI M'->MHs M M'->M'.nx=M.nx+1->δ M'.hs=δ M.hs+1->(∀k,M'.Ar k=if k=M.nx then ν (λa=>!(F a)) else M.Ar k)->Kr b M H H'->Q (M.nx,0,()) () H'):qK 98 Oh (ν b,g,()) H Q X:=by
 refine wF Tryz.f98 {} (?_:((ν b)=τ->Q (0,5,()) () H)/\(¬(ν b)=τ->∃(a:Nat),(ν b)=ν a/\∃(x:Be),letI E:=¬(Ag x.BF g).isSome=φ;H a=ν (Ob.st CW x)/\(E->x=x/\Q (0,8,()) () H)/\(¬E->x=x/\qK 168 Iv ((ν b),B.flip ((Ag x.BF g).getD 0),()) H (λ(a:qV)_ G=>Q (a.1,0,()) () G) X)));refine⟨λh=>qG h (by simp),λ_=>⟨b,rfl,M.ob,l.ob,λf=>⟨rfl,q (Mn.ND.2 ?_)⟩,λf=>⟨rfl,?_⟩⟩⟩
 .have c:¬(Ag M.hs g).isSome=φ:=f;simp_all
 .have c:¬¬(Ag M.hs g).isSome=φ:=f;obtain⟨e,i⟩:=a8.1 (a2.1 c);have o:(Ag M.ob.BF g).getD 0=e:=by show (Ag M.hs g).getD 0=e;grind
  rw[o];have r:M.Ar g=ν (B.den (Ax M.S.po) e):=by grind[Mn.Ar]
  have d:=(j.ok _ _ i).1;exact PG l j m d.flip λM' H' v p u w t n s=>h _ _ _ r v p u w t λk=>by rw[n k,B.IA d] s
theorem Ad3{f:Int}{Q:Bool×Int×Unit->UU}(p:JI H b M)(l:MI M)(n:M.Ar f=τ∨M.Ar g=τ->Q (ψ,8,()) () H)(h:∀F G,M.Ar f=ν F->M.Ar g=ν G->∀t:Bool,(t=φ↔F=G)->Q (t,0,()) () H):qK 29 MR (ν b,f,g,()) H Q X:=by
 refine wF Tryz.f29 {} (?_:letI E:=Q (ψ,8,()) () H;((ν b)=τ->Q (ψ,5,()) () H)/\(¬(ν b)=τ->∃(a:Nat),(ν b)=ν a/\∃(x:Be),letI F:=¬(Ag x.BF f).isSome=φ;letI I:=¬(Ag x.BF g).isSome=φ;H a=ν (Ob.st CW x)/\(F->x=x/\E)/\(¬F->(I->x=x/\E)/\(¬I->x=x/\Q (ω ((Ag x.BF f).getD (0:Int)=(Ag x.BF g).getD 0),0,()) () H))));refine⟨λh=>qG h (by simp),λ_=>⟨b,rfl,M.ob,p.ob,λj=>⟨rfl,n (.inl (Mn.ND.2 ?_))⟩,λj=>⟨λi=>⟨rfl,n (.inr (Mn.ND.2 ?_))⟩,λi=>⟨rfl,?_⟩⟩⟩⟩
 .have a:¬(Ag M.hs f).isSome=φ:=j;simp_all
 .have a:¬(Ag M.hs g).isSome=φ:=i;simp_all
 .have a:¬¬(Ag M.hs f).isSome=φ:=j;have c:¬¬(Ag M.hs g).isSome=φ:=i;obtain⟨e,k⟩:=a8.1 (a2.1 a);obtain⟨d,m⟩:=a8.1 (a2.1 c);refine h _ _ (by unfold Mn.Ar;rw[k];rfl) (by unfold Mn.Ar;rw[m];rfl) _ ?_;have o:(Ag M.ob.BF f).getD 0=e:=by show (Ag M.hs f).getD 0=e;grind
  have q:(Ag M.ob.BF g).getD 0=d:=by show (Ag M.hs g).getD 0=d;grind
  rw[o,q,decide_eq_true_iff];exact l.si.BN.eq_iff B9.Lm (l.ok _ _ k).1 (l.ok _ _ m).1
end
section
def Qc:List Int->List (Int×Int)->List (Int×Int)×Int
 | [],hs=>(hs,0)
 |g::l,hs=>if (Ag hs g).isSome=φ then Qc l (if 1<g then Dl hs g else hs) else (hs,8)
theorem Ad7{b:Nat}{M:Mn}{l:List Int}{H:HY}{X:PX}{Q:Int×Unit->UU}(hM:JI H b M)(hI:MI M)(hn:M.nx<576460752303423488)(h:∀M' H',JI H' b M'->MI M'->MHs M M'->M'.nx=M.nx->M'.hs=(Qc l M.hs).1->Kr b M H H'->Q ((Qc l M.hs).2,()) () H'):qK 110 Em (ν b,l,()) H Q X:=by
 refine wF Tryz.f110 {lp:=[(4,⟨[(13,.nat)],[0,11,12],φ⟩)]} (?_:RE (ν b) l H Q X);unfold RE;refine⟨λh=>qG h (by simp),λ_ Z=>⟨λn x H'=>n=δ l-x.1/\x.1<=δ l/\∃M',JI H' b M'/\MI M'/\MHs M M'/\M'.nx=M.nx/\Qc (l.drop x.1) M'.hs=Qc l M.hs/\Kr b M H H',⟨_,rfl,bn _,M,hM,hI,MHs.refl,rfl,rfl,Kr.refl⟩,?_⟩⟩;rintro n ⟨k,_⟩ H' ⟨hnk,hk,M',d,a,F,f,p,K⟩;refine⟨λq _=>?_,λq=>?_⟩
 .have t:k<δ l:=q;refine⟨q,b,rfl,M'.ob,d.ob,?_⟩;have A:l.drop k=l[k]::l.drop (k+1):=List.drop_eq_getElem_cons t;rw[A,Qc]at p;refine⟨λP=>⟨rfl,?_⟩,λP=>?_⟩
  .have y:¬(Ag M'.hs l[k]).isSome=φ:=P;grind
  .have y:¬¬(Ag M'.hs l[k]).isSome=φ:=P;have G:=a2.1 y;rw[UV G]at p;obtain⟨e,J⟩:=a8.1 G;refine⟨λO=>⟨rfl,?_⟩,λO=>?_⟩
   .have v:1<l[k]:=O;rw[UV v]at p;have hx:(Ag M'.ob.BF l[k]).getD 0=e:=by show (Ag M'.hs l[k]).getD 0=e;grind
    have S:=(a.ok _ _ J).1;obtain⟨T,d2⟩:=λi=>(TD (i:=i) J).1,(TD (i:=0) J).2;have L:M'.nx<576460752303423488:=by omega
    have V:∀s u,Ca u M'.sb s->SI s->Acd M'.S s (λi=>Fq M'.S.po i-B.dl e i)->OP M'.sb M'.S H' u->
      ∃(c:Be),u b=ν (Ob.st CW c)/\k+1<=9223372036854775807/\∃(m:Nat),m<n/\(m=δ l-(k+1)/\k+1<=δ l/\∃I,JI (Ac u b (Ob.st CW {c with BF:=Dl c.BF l[k]})) b I/\MI I/\MHs M I/\I.nx=M.nx/\Qc (l.drop (k+1)) I.hs=Qc l M.hs/\Kr b M H (Ac u b (Ob.st CW {c with BF:=Dl c.BF l[k]}))):=by
     intro s u C D o w
     obtain⟨q1,q2,q3⟩:=d.A2o C w (Dl M'.hs l[k]) M'.nx
     refine⟨M'.ob,q1,by grind,δ l-(k+1),by omega,rfl,by omega,M'.wh s (Dl M'.hs l[k]) M'.nx,q2,?_,F.trans ⟨⟨rfl,rfl,o.bl,o.bp,o.tb⟩,o.Ax,o.lv,o.room,o.many,rfl,rfl,rfl⟩,f,p,K.trans q3 F.bs⟩
     have E:∀j,Ag (Dl M'.hs l[k]) j=if j=l[k] then τ else Ag M'.hs j:=λj=>Jd a.nd _ _
     refine⟨D,T4 a.nd _,λg R N=>?_,?_,?_,a.nx,λi W=>?_,?_⟩
     .have r:Ag (Dl M'.hs l[k]) g=ν R:=N
      rw[E]at r
      split at r
      .cases r
      .show B.Ok (Ax s.po) R/\_
       rw[o.Ax];exact a.ok g R r
     .show Ag (Dl M'.hs l[k]) 0=_
      rw[E,GT (by omega)];exact a.k0
     .show Ag (Dl M'.hs l[k]) 1=_
      rw[E,GT (by omega)];exact a.k1
     .show Fq s.po i=Mo (Dl M'.hs l[k]) i
      rw[o.rf i W,T,a.rf i W]
     .show (δ (Dl M'.hs l[k]):Int)<=M'.nx
      have:=a.ln;omega
    rw[hx];refine Y1 d.st a.si (a.hb L) (λh=>qG S h) (λ_ U=>?_) (λ_ U Y=>?_) λs u _ _ _ C D o w=>V s u C D o w
    .exact V M'.S H' d.st a.si ⟨rfl,λj hj=>by grind[B.L3],rfl,rfl,rfl,rfl,rfl,rfl,rfl⟩ OP.refl
    .exfalso;rw[a.rf _ U]at Y;have h6:=T (e/2);rw[B.IH,Y]at h6;have:=@QR (e/2) (Dl M'.hs l[k]);omega
   .have v:¬1<l[k]:=O;rw[GT v]at p;exact⟨by grind,δ l-(k+1),by omega,rfl,rfl,by grind,M',d,a,F,f,p,K⟩
 grind[Qc,List.drop_eq_nil_of_le]
section
variable {b:Nat} {M:Mn} {H:HY} {X:PX}
variable {Q:Int×Unit->UU}
theorem PH(c:JI H b M)(a:MI M)(d:M.nx<576460752303423488)(h:Q (δ M.hs,()) () H):qK 14 Cv (ν b,()) H Q X:=by refine wF Tryz.f14 {} (?_:((ν b)=τ->Q (0,()) () H)/\(¬(ν b)=τ->∃(a:Nat),(ν b)=ν a/\∃(x:Be),H a=ν (Ob.st CW x)/\δ x.BF<=2^63-1/\x=x/\Q (((δ x.BF):Int),()) () H));refine⟨λh=>qG h (by simp),λ_=>⟨b,rfl,M.ob,c.ob,?_⟩⟩;have:=a.ln;exact⟨by show δ M.hs<=_;omega,rfl,h⟩
theorem T7{yes:Bool}(h:Q ((if yes=φ then 1 else 0),()) () H):qK 132 Bu (ν b,yes,()) H Q X:=by grind[XL,Qg]
theorem MS(a:JI H b M)(c:MI M)(h:Q (M.S.n,()) () H):qK 50 Cv (ν b,()) H Q X:=by
 refine wF Tryz.f50 {} (?_:((ν b)=τ->Q (0,()) () H)/\(¬(ν b)=τ->∃(a:Nat),(ν b)=ν a/\∃(x:Be),H a=ν (Ob.st CW x)/\x=x/\qK 119 Cv (x.store,()) H (λ(a:qV)_ G=>Q (a.1,()) () G) X));refine⟨λh=>qG h (by simp),λ_=>⟨b,rfl,M.ob,a.ob,rfl,Yx a.st ?_⟩⟩;have e:(δ M.S.lv.vars:Int)=M.S.n:=by rw[c.si.vl];rfl
 grind
end
end
section
structure NR(H:HY)(c b:Nat)(M:Mn):Prop where
 cx:H c=ν (Ob.st (Y:=Y0) EM (⟨ν b⟩:Hz))
 Pe:JI H b M
def Ats(e:Int):Lf Y0.D:={t:=Ty.u 15,x:=({err:=e,event:=ψ,ev:={IB:=(0:Int),Kind:=(0:Int),Level:=(0:Int):BQ}}:FN)}
theorem JI.BX{H H':HY}{b c m:Nat}{M:Mn}{x:Y0.O m}(h:JI H b M)(a:H c=ν (.st m x))(g:m≠CW)(o:m≠CC)(n:m≠AD)(l:m≠CR)(i:m≠Da)(k:m≠Cy)(f:Kr b M H H'):H' c=ν (.st m x):=by
 rw[f c (Bk a h.ob g) (Bk a h.me o) (Bk a h.st.st n) (Bk a h.st.lv l) (Bk a h.st.po i) λd=>?_]
 .exact a
 .obtain⟨v,j,e⟩:=bc.1 d;exact Bk a (h.st.ta v j) k e.symm
variable {M':Mn}
theorem A35{M:Mn}(h:MI M)(e:Jk M.S M'.S)(g x:Int)(a:Ag M.hs g=ν x):B.den (Ax M'.S.po) x=B.den (Ax M.S.po) x:=e.den h.si (h.ok _ _ a).1
theorem Aw4{F G:Int->B.Fn}{o:Option Int}(a:∀x,o=ν x->F x=G x):o.map F=o.map G:=by
 cases o with
 |none=>rfl
 |some x=>grind
theorem A34{M:Mn}(hs:M'.hs=M.hs)(g:Int)(a:∀x,Ag M.hs g=ν x->B.den (Ax M'.S.po) x=B.den (Ax M.S.po) x):M'.Ar g=M.Ar g:=by grind[Aw4,Mn.Ar]
theorem MI.A36{M:Mn}(h:MI M)(hs:M'.hs=M.hs)(a:M'.nx=M.nx)(c:SI M'.S)(e:Jk M.S M'.S):MI M':=by
 constructor
 .exact c
 .rw[hs];exact h.nd
 .intro g x b;rw[hs]at b;have:=h.ok g x b;exact⟨this.1.ext e.Ax,this.2.1,by omega⟩
 .rw[hs];exact h.k0
 .rw[hs];exact h.k1
 .rw[a];exact h.nx
 .intro i d;rw[hs,<-h.rf i d];exact e.rf i
 .rw[hs,a];exact h.ln
theorem MI.ext{M:Mn}(h:MI M)(hs:M'.hs=M.hs)(a:M'.nx=M.nx)(b:SI M'.S)(e:Jk M.S M'.S):MI M'/\∀g,M'.Ar g=M.Ar g:=⟨h.A36 hs a b e,λg=>A34 hs g (A35 h e g)⟩
section
variable {c b:Nat} {M:Mn} {H:HY} {X:PX} {f v:Int}
variable {Q:Int×Unit->UU}
theorem Hv(a:NR H c b M)(h:Q (DW M.S.lv v,()) () H):qK 145 Iv (ν c,v,()) H Q X:=by refine XO _ _ _ _ _ ?_;exact⟨c,rfl,⟨ν b⟩,a.cx,b,rfl,rfl,M.ob,a.Pe.ob,rfl,Fk a.Pe.st h⟩
theorem Ahh{g:Int}(f:NR H c b M)(k:Ag M.hs g=τ->X 231 (Ats 8) H)(h:∀e,Ag M.hs g=ν e->Q (e,()) () H):qK 147 Iv (ν c,g,()) H Q X:=by
 refine YJ _ _ _ _ _ ?_;refine⟨c,rfl,⟨ν b⟩,f.cx,b,rfl,rfl,M.ob,f.Pe.ob,λd=>⟨rfl,k ?_⟩,λd=>⟨rfl,?_⟩⟩
 .have a:¬(Ag M.hs g).isSome=φ:=d;simp_all
 .have a:¬¬(Ag M.hs g).isSome=φ:=d;obtain⟨e,i⟩:=a8.1 (a2.1 a);have j:(Ag M.ob.BF g).getD 0=e:=by show (Ag M.hs g).getD 0=e;grind
  grind
theorem Qh{Q:Int×Int×Unit->UU}(a:NR H c b M)(l:SI M.S)(k:B.Ok (Ax M.S.po) f)(h:Q ((B.sp (Ax M.S.po) v f).1,(B.sp (Ax M.S.po) v f).2,()) () H):qK 199 NB (ν c,f,v,()) H Q X:=by refine XM _ _ _ _ _ _ ?_;have j:=l.sc.po;refine⟨c,rfl,⟨ν b⟩,a.cx,b,rfl,rfl,M.ob,a.Pe.ob,rfl,MO a.Pe.st j k (λg=>⟨λ_=>?_,λh=>qG (by simp) h⟩) λd g i=>⟨λh=>qG rfl h,λ_=>⟨λe=>?_,λe=>?_⟩⟩⟩;all_goals grind[B.sp,Ax,Awd,B.fl]
def Ary(S:B9)(l:List Int)(k:Nat)(v w:Int):Prop:=(v=-1/\∀j(_:j<δ l),j<k->l[j]/2=0)∨(0<=v/\v<S.n/\w=DW S.lv v/\(∀j(_:j<δ l),j<k->DW S.lv v<=B.el S.n (DW S.lv) (Ax S.po) l[j])/\∃j,∃(_:j<δ l),j<k/\B.el S.n (DW S.lv) (Ax S.po) l[j]=DW S.lv v)
theorem Amc{l:List Int}(G:NR H c b M)(R:SI M.S)(Z:∀f∈l,B.Ok (Ax M.S.po) f)(h:∀v w,Ary M.S l (δ l) v w->Q (v,()) () H):qK 198 Em (ν c,l,()) H Q X:=by
 refine Abz _ _ _ _ _ λW=>?_;refine⟨λn x T=>T=H/\n=δ l-x.2.2.1/\x.2.2.1<=δ l/\Ary M.S l x.2.2.1 x.1 x.2.1,⟨_,rfl,rfl,bn _,.inl ⟨rfl,λj _ r=>qG r (Nat.not_lt_zero j)⟩⟩,?_⟩;rintro n ⟨v,w,k,_⟩ T ⟨rfl,K,S,N⟩;have hn:n=δ l-k:=K;have hk:=S;have L:Ary _ l k v w:=N;refine⟨λs _=>?_,λs=>?_⟩
 .have a:k<δ l:=s;have Y:=Z _ (bm a);refine⟨s,c,rfl,⟨ν b⟩,G.cx,b,rfl,rfl,M.ob,G.Pe.ob,rfl,?_⟩;have t:∀V U,Ary M.S l (k+1) V U->k+1<=9223372036854775807/\∃m,m<n/\T=T/\m=δ l-(k+1)/\k+1<=δ l/\Ary _ l _ V U:=λV U i=>⟨by grind,δ l-(k+1),by omega,rfl,rfl,by omega,i⟩
  refine MO G.Pe.st R.sc.po Y (λz=>⟨λh=>(by cases h),λ_=>t v w ?_⟩) λd z E=>⟨λ_=>⟨λg=>Hv G (t _ _ ?_),λg=>Hv G ⟨λA=>Hv G (t _ _ ?_),λA=>t v w ?_⟩⟩,λh=>qG rfl h⟩
  .rcases L with ⟨e,i⟩|⟨I,F,P,i,J,o,C,p⟩
   .refine .inl ⟨e,λj r y=>?_⟩;grind
   .refine .inr ⟨I,F,P,λj r y=>?_,J,o,by omega,p⟩;by_cases u:j=k
    .subst u;rw[B.Cs z];have:=(R.BN.od.N7 v I F).2;omega
    grind
  .have q:=g;rcases L with ⟨e,i⟩|⟨I,F,P,i,J,o,C,p⟩
   .have D:=R.BN.var E;refine .inr ⟨D.2.1,D.2.2,rfl,λj r y=>?_,k,a,by omega,B.Bn z E⟩;by_cases u:j=k
    .simp_all[B.Bn]
    .rw[B.Cs (i j r (by omega))];have:=(R.BN.od.N7 d.v D.2.1 D.2.2).2;grind
   .omega
  .have q:=g;have O:=A;rcases L with ⟨e,i⟩|⟨I,F,P,i,J,o,C,p⟩
   .omega
   .have D:=R.BN.var E;refine .inr ⟨D.2.1,D.2.2,rfl,λj r y=>?_,k,a,by omega,B.Bn z E⟩;by_cases u:j=k
    .simp_all[B.Bn]
    grind
  .have q:=g;have O:=A;rcases L with ⟨e,i⟩|⟨I,F,P,i,J,o,C,p⟩
   .omega
   .refine .inr ⟨I,F,P,λj r y=>?_,J,o,by omega,p⟩;grind[B.Bn]
 grind
end
def Mn.wk(M:Mn)(S:B9):Mn:={M with S:=S,ca:=Go.IntKind.wrap .i64 (M.ca+1)}
def Mn.we(M:Mn)(ws:List BQ):Mn:={M with ws:=ws,ca:=0}
def pEv(ev:BQ):Lf Y0.D:={t:=Ty.u 15,x:=({err:=(0:Int),event:=φ,ev:=ev}:FN)}
theorem NR.set{H:HY}{c b:Nat}{M M':Mn}(a:NR H c b M)(e:DD M M')(g:M'.S=M.S)(f:M'.me=M.me):NR (Ac H b (.st CW M'.ob)) c b M'/\Kr b M H (Ac H b (.st CW M'.ob)):=by
 have d:Kr b M H (Ac H b (.st CW M'.ob)):=Kr.set;refine⟨⟨a.Pe.BX a.cx (by decide) (by decide) (by decide) (by decide) (by decide) (by decide) d,Ah _ _ _,?_,?_⟩,d⟩
 .rw[e.sb,g];exact a.Pe.st.other a.Pe.ob (by decide) (by decide) (by decide) (by decide)
 .rw[e.mb,f,Ad _ _ (Bk a.Pe.me a.Pe.ob (by decide))];exact a.Pe.me
theorem Aq2{c b:Nat}{M:Mn}{v lo hi:Int}{H:HY}{X:PX}{Q:Int×Unit->UU}(q:NR H c b M)(I:SI M.S)(E:0<=v/\v<M.S.n)(r:B.Ok (Ax M.S.po) lo)(u:B.Ok (Ax M.S.po) hi)(z:DW M.S.lv v<B.el M.S.n (DW M.S.lv) (Ax M.S.po) lo)(w:DW M.S.lv v<B.el M.S.n (DW M.S.lv) (Ax M.S.po) hi)(s:∀ev ws H',M.ws=ev::ws->NR H' c b (M.we ws)->Kr b M H H'->X 231 (pEv ev) H')(N:∀H',M.S.po.many=M.S.po.room->NR H' c b (M.wk M.S)->Kr b M H H'->X 231 (Ats 7) H')(h:∀e S' H',NR H' c b (M.wk S')->SI S'->Jk M.S S'->Kr b M H H'->B.Ok (Ax S'.po) e->B.den (Ax S'.po) e=(λa=>if a v=φ then B.den (Ax M.S.po) hi a else B.den (Ax M.S.po) lo a)->DW M.S.lv v<=B.el M.S.n (DW M.S.lv) (Ax S'.po) e->
   (∀i d,Ax S'.po i=ν d->Ax M.S.po i=ν d∨(i=e/2/\d.v=v))->Q (e,()) () H') :
  qK 127 DF (ν c,v,lo,hi,()) H Q X:=by
 refine Ae0 _ _ _ _ _ _ _ ?_
 unfold Vz
 have j:qK 190 Oi (ν M.sb,v,lo,hi,()) (Ac H b (.st CW (M.wk M.S).ob)) (λb _ H'=>(¬b.2.1=0->X 231 (Ats b.2.1) H')/\(¬¬b.2.1=0->Q (b.1,()) () H')) X:=by
  obtain⟨f,p⟩:=q.set (M':=M.wk _) ⟨rfl,rfl,rfl,rfl,rfl⟩ rfl rfl;refine Acx  f.Pe.st I (λh=>qG E h) (λh=>qG ⟨r,u⟩ h) (λ_ _ _ _ h=>qG ⟨z,w⟩ h) (λD=>⟨λ_=>N _ D f p,λh=>qG (by simp) h⟩) λe S' H' _ _ _ _ _ _ O x A t J L y o=>⟨λh=>qG rfl h,λ_=>?_⟩
  have n:Kr b _ _ _:=OP.frm  t;refine h e _ H' ⟨f.Pe.BX f.cx (by decide) (by decide) (by decide) (by decide) (by decide) (by decide) n,?_,O,?_⟩ x A (p.trans n ⟨rfl,rfl,rfl,rfl,rfl⟩) J L y o
  .exact f.Pe.st.BX f.Pe.ob (by decide) (by decide) (by decide) (by decide) t
  .exact f.Pe.st.BX f.Pe.me (by decide) (by decide) (by decide) (by decide) t
 refine⟨c,rfl,⟨ν b⟩,q.cx,b,rfl,rfl,M.ob,q.Pe.ob,λ_=>⟨λk=>?_,λ_=>j⟩⟩
 have m:0<δ M.ws:=k
 refine⟨λ_=>by decide,k,k,λ_=>⟨λ_=>by decide,k,k,by decide,by omega,?_⟩,λ_=>j⟩
 cases g:M.ws with
 |nil=>grind
 |cons ev ws=>
  obtain⟨f,p⟩:=q.set (M':=M.we ws) ⟨rfl,rfl,rfl,rfl,rfl⟩ rfl rfl;have C:=s _ _ _ g f p;have G:M.ob.waits[(0:Int).toNat]'k=ev:=by
   have:∀l K,l=ev::ws->l[(0:Int).toNat]=ev:=λl K e=>by grind
   exact this _ _ g
  have F:bt (ag 1) M.ob.waits=ws:=by show bt 1 M.ws=ws;grind
  rw[G,F];exact C
end
end Go.Proofs.YtcbkbpjlbmalmaaGreatDoor
