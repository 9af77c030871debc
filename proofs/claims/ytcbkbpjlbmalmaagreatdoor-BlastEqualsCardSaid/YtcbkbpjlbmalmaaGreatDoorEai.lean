/-
  A term's value from its parts' values. (Merged by program out of 29 texts.)
-/
import Derived.Test.YtcbkbpjlbmalmaaGreatDoorEag
open Decidable renaming decide->δ
open List renaming getElem?_eq_getElem->a4,take_succ_eq_append_getElem->a5,range->a7,getElem_mem->ab,length_map->ae,mem_cons_self->ag,length_append->ah,mem_map->ai,getElem_map->aj,take_of_length_le->al,map_append->am,take_append_drop->an,getElem?_eq_none->ao,length_range->ap,all_eq_true->aq,mem_singleton->av,length->aw,mem_append_right->ay,mem_cons->b4,mem_append_left->b5,mem_cons_of_mem->b6,range_succ->b7,getElem_of_mem->b9,getElem_range->bb,mem_range->bd,length_take->be,mem_append->bf,sizeOf_lt_of_mem->bg,perm_append_comm->bh,replicate->bi,mem_map_of_mem->bm,take_succ_cons->bn,getElem?_map->bo,take_length->bt,length_drop->bu,append_nil->bw,foldl_cons->bx,map_cons->c0,length->σ
open Nat renaming zero_le->a6,not_lt_zero->a9,lt_succ_self->ac,pow_le_pow_right->bj,mul_le_mul->bz
open Int renaming toNat->a8,natCast_nonneg->ak,toNat_natCast->ax,mul_comm->ba,tdiv->bk,le_refl->bv,pow_succ->c1
open Classical renaming byContradiction->aa,not_not->af
open Option renaming some.inj->ad,getD_some->az,some->φ,none->ψ
open Bool renaming false_ne_true->au,eq_iff_iff->b8,true->ν,false->τ
open And renaming intro->br
namespace Go.Proofs.YtcbkbpjlbmalmaaGreatDoor
open Go Go.X Go.Y
section
def Ft(op:Int):Int×Int:=if op=1∨op=2∨op=3∨op=4 then (0,0) else if op=5 then (1,1) else if op=6∨op=7 then (1,64) else if 8<=op/\op<=17 then (2,2) else if op=18 then (3,3) else (-1,-1)
theorem Ys{op:Int}{H:HY}{X:PX}{Q:Int×Int×Unit->UU}(h:Q ((Ft op).1,(Ft op).2,()) () H):qK 219 HI (op,()) H Q X:=by
 refine wF Tryz.f219 {} (?_:HE op H Q X);unfold HE;have c:∀a b,Ft op=(a,b)->Q (a,b,()) () H:=λa b e=>by grind
 repeat' (first|(refine br ?_ ?_)|intro _)
 all_goals grind[Ft]
theorem Xi{s:ByteArray}:s={data:={toList:=[]:Array UInt8}:ByteArray}↔s.size=0:=by
 constructor
 .rintro rfl;rfl
 .intro h;obtain⟨⟨l⟩⟩:=s;have:σ l=0:=h;grind
def Apz(op:Int):Int:=if op=1 then -255 else 0
def Apk(op:Int):Int:=if op=1 then 255 else if op=2 then 1 else 0
def CF(t:Ab):Int:=
 if (Ft t.Op).1<0 then 11 else if t.N<Apz t.Op∨Apk t.Op<t.N then 2
 else if ((t.Op=3∨t.Op=4)/\(t.qJ.size=0∨24<t.qJ.size))∨(¬(t.Op=3∨t.Op=4)/\t.qJ.size≠0) then 12
 else if (σ t.qZ:Int)<(Ft t.Op).1∨(Ft t.Op).2<(σ t.qZ:Int) then 3 else 0
theorem NV(t:Ab){few many:Int}(g:Ft t.Op=(few,many)):∃le mo:Int,(few<0->CF t=11)/\(¬few<0->(t.N<le∨mo<t.N)->CF t=2)/\(¬few<0->¬(t.N<le∨mo<t.N)->(((t.Op=3∨t.Op=4)/\(t.qJ.size=0∨24<t.qJ.size))∨(¬(t.Op=3∨t.Op=4)/\t.qJ.size≠0))->CF t=12)/\(¬few<0->¬(t.N<le∨mo<t.N)->¬(((t.Op=3∨t.Op=4)/\(t.qJ.size=0∨24<t.qJ.size))∨(¬(t.Op=3∨t.Op=4)/\t.qJ.size≠0))->((σ t.qZ:Int)<few∨many<(σ t.qZ:Int))->CF t=3)/\(¬few<0->¬(t.N<le∨mo<t.N)->¬(((t.Op=3∨t.Op=4)/\(t.qJ.size=0∨24<t.qJ.size))∨(¬(t.Op=3∨t.Op=4)/\t.qJ.size≠0))->¬((σ t.qZ:Int)<few∨many<(σ t.qZ:Int))->CF t=0)/\(t.Op=1->le=-255/\mo=255)/\(t.Op=2->le=0/\mo=1)/\(¬t.Op=1->¬t.Op=2->le=0/\mo=0):=by
 unfold CF;rw[g];exact⟨Apz _,Apk _,λa=>UV a,λa b=>(GT a).trans (UV b),λa b c=>(GT a).trans ((GT b).trans (UV c)),λa b c d=>(GT a).trans ((GT b).trans ((GT c).trans (UV d))),λa b c d=>(GT a).trans ((GT b).trans ((GT c).trans (GT d))),
  λe=>by rw[e];exact⟨rfl,rfl⟩,λe=>by rw[e];exact⟨rfl,rfl⟩,λf h=>⟨GT f,by unfold Apk;rw[GT f,GT h]⟩⟩
set_option maxHeartbeats 4000000 in
theorem W3{t:Ab}{H:HY}{X:PX}{Q:Int×Unit->UU}(h:Q (CF t,()) () H):qK 166 Gr (t,()) H Q X:=by
 refine wF Tryz.f166 {im:=[1]} (?_:Gf t H Q X);unfold Gf;refine Ys ?_;simp only[Xi];have a:∀c,CF t=c->Q _ () H:=λc e=>by rw[e]at h;exact h
 generalize j:Ft t.Op=d at *;obtain⟨f,b⟩:=d;simp only;obtain⟨k,l,g,p,i,o,q,m,r,n⟩:=NV t j;generalize CF t=w at *;repeat' (first|(refine br ?_ ?_)|intro _)
 all_goals grind
mutual
def Im(deep n:Int):Ab->Int×Int
 |⟨op,k,nm,ks⟩=>
  if 64<deep then (n+1,17)
  else if CF ⟨op,k,nm,ks⟩=0 then if 4096<n+1 then (n+1,4) else EY (deep+1) (n+1) ks
  else (n+1,CF ⟨op,k,nm,ks⟩)
def EY(deep n:Int):List Ab->Int×Int
 | []=>(n,0)
 |t::ts=>let r:=Im deep n t;if r.2=0 then EY deep r.1 ts else r
end
theorem Ua(deep n:Int)(t:Ab):Im deep n t=if 64<deep then (n+1,17) else if CF t=0 then if 4096<n+1 then (n+1,4) else EY (deep+1) (n+1) t.qZ else (n+1,CF t):=by cases t;rfl
theorem Sy(a:Int)(t:Ab):∀(l:List Ab)(n m:Int),EY a n l=(m,0)->EY a n (l++[t])=Im a m t
 | [],n,m,h=>by
  have h:(n,0)=(m,0):=by grind[EY]
  cases h;show EY a n _=_;unfold EY;show (if (Im a n t).2=0 then EY a _ _ else Im a n t)=_;by_cases e:(Im a n t).2=0
  .rw[UV e];grind[EY]
  grind
 |s::l,n,m,h=>by show EY a n _=_;unfold EY at h ⊢;simp  at h ⊢;by_cases e:(Im a n s).2=0;all_goals simp_all[Sy]
theorem UY(a:Int)(b:List Ab):∀(l:List Ab)(n:Int),(EY a n l).2≠0->EY a n (l++b)=EY a n l
 | [],n,h=>by grind[EY]
 |s::l,n,h=>by show EY a n _=_;unfold EY at h ⊢;simp  at h ⊢;by_cases e:(Im a n s).2=0;all_goals simp_all[UY]
abbrev A4f(b1 b0:Nat):Ab×Int×Unit->HY->(Bool×Unit->HP)->PX->Prop:=λ(a:Ab×Int×Unit)(H:HY)(Q:Bool×Unit->HP)(X:Nat->Lf Y0.D->HP)=>qK 165 EA (a.1,a.2.1,φ b1,φ b0,()) H (λ(b:Bool×Unit)_ H'=>Q (b.1,()) H') X
structure Ug(b1 b0:Nat)(H0 H:HY)(n w:Int):Prop where
 ne:b1≠b0
 n:H b1=φ (.st Cc n)
 w:H b0=φ (.st Cc w)
 f:∀c,c≠b1->c≠b0->H c=H0 c
variable {b1 b0:Nat} {H0 H:HY} {n w:Int}
theorem Ug.sn{m:Int}(h:Ug b1 b0 H0 H n w):Ug b1 b0 H0 (Ac H b1 (.st Cc m)) m w:=
 ⟨h.ne,Ah _ _ _,by rw[Ad _ _ (Ne.symm h.ne)];exact h.w,λc a b=>by rw[Ad _ _ a];exact h.f c a b⟩
theorem Ug.sw{m:Int}(h:Ug b1 b0 H0 H n w):Ug b1 b0 H0 (Ac H b0 (.st Cc m)) n m:=
 ⟨h.ne,by rw[Ad _ _ h.ne];exact h.n,Ah _ _ _,λc b a=>by rw[Ad _ _ a];exact h.f c b a⟩
def Wx(deep n:Int)(t:Ab):Int:=if 64<deep then 17 else if CF t=0 then if 4096<n+1 then 4 else 0 else CF t
theorem Avm{deep:Int}{t:Ab}{X:PX}{Q:Bool×Unit->UU}(i:Ug b1 b0 H0 H n w)(j:0<=n/\n<1000000000000)(h:∀H',Ug b1 b0 H0 H' (n+1) (Wx deep n t)->Q (δ (Wx deep n t=0),()) () H'):qK 165 EA (t,deep,φ b1,φ b0,()) H Q X:=by
 refine wF Tryz.f165 {im:=[4]} (?_:IC t deep (φ b1) (φ b0) H Q X);unfold IC;have f:Ug _ _ _ _ (n+1) w:=i.sn;have b:∀v,Wx _ n t=v->Q (δ (v=0),()) () (Ac (Ac H b1 (.st Cc (n+1))) b0 (.st Cc v)):=λv e=>by have:=h _ (by rw[e];exact f.sw);grind
 refine⟨b1,rfl,n,i.n,λ_=>⟨Aq.2 (by omega),λc=>⟨b0,rfl,w,f.w,?_⟩,λc=>?_⟩⟩
 .exact b _ (UV c)
 .refine W3 ⟨b0,rfl,w,f.w,λa=>?_,λa=>?_⟩
  .have a:CF t=0:=a;have d:Ug _ _ _ _ _ (CF t):=f.sw;refine⟨n+1,d.n,λg=>⟨rfl,CF t,d.w,?_⟩,λg=>⟨rfl,CF t,d.w,rfl,?_⟩⟩
   .have e:Wx deep n t=4:=by unfold Wx;rw[GT c,UV a,UV g]
    have:=h _ (by rw[e];exact d.sw);grind
   .have e:Wx deep n t=CF t:=by unfold Wx;rw[GT c,UV a,GT g,a]
    grind
  .have a:=a;simp_all[Wx]
theorem Acp{b1 b0:Nat}{H0:HY}{X:PX}:∀(z:Nat)(t:Ab){n w deep:Int}{H:HY}{Q:Bool×Unit->UU},SizeOf.sizeOf t<z->Ug b1 b0 H0 H n w->(0<=n/\n<=4096)->(0<=deep/\deep<=1000)->(∀H',Ug b1 b0 H0 H' (Im deep n t).1 (Im deep n t).2->n<=(Im deep n t).1->((Im deep n t).2=0->(Im deep n t).1<=4096)->Q (δ ((Im deep n t).2=0),()) () H')->qK 164 HG (t,deep,A4f b1 b0,()) H Q X
 |0,_,_,_,_,_,_,L,_,_,_,_=>qG L (a9 _)
 |z+1,t,n,w,deep,H,Q,L,T,hn,Y,h=>by
  apply SP;unfold NZ;have U:SizeOf.sizeOf t.qZ<SizeOf.sizeOf t:=by cases t;grind
  refine Avm T (by omega) λJ E=>⟨λa=>?_,λc _=>?_⟩
  .grind[decide,Wx,decide_eq_true,Im,Ua]
  .have c:Wx deep n t=0:=by grind
   rw[c]at E;have e:Im deep n t=EY (deep+1) (n+1) t.qZ/\deep<=64/\n+1<=4096:=by grind[Ua,Wx]
   obtain⟨e,K,C⟩:=e;rw[e]at h;refine⟨λm y v=>m=σ t.qZ-y.1/\y.1<=σ t.qZ/\∃d,EY (deep+1) (n+1) (t.qZ.take y.1)=(d,0)/\Ug b1 b0 H0 v d 0/\n+1<=d/\d<=4096,⟨_,rfl,a6 _,n+1,?_,E,by omega,C⟩,?_⟩
   .rfl
   rintro m ⟨i,_⟩ v ⟨p,u,d,r,F,S,I⟩;have W:=p;have Z:i<=σ t.qZ:=u;have o:=r;refine⟨λs _=>?_,λq=>?_⟩
   .have j:i<σ t.qZ:=s;have D:SizeOf.sizeOf t.qZ[i]<z:=by have F:=bg (ab j);omega
    have G:=a5 j;have f:=Sy _ t.qZ[i] _ _ _ o;rw[<-G]at f;refine⟨j,λ_=>⟨Aq.2 (by omega),?_⟩⟩;show qK _ _ _ v _ X;rw[SS];refine Acp z t.qZ[i] D F (by omega) (by omega) λR B l1 V=>⟨λa=>?_,λb=>⟨by grind,σ t.qZ-(i+1),by omega,rfl,by grind,(Im _ d t.qZ[i]).1,?_,?_,by omega,V (of_decide_eq_true (af.1 b))⟩⟩
    .have a:=λe=>a (decide_eq_true e);grind[EY,Im,UY,an,decide_eq_false]
    all_goals grind
   grind
theorem W5{t:Ab}{X:PX}{Q:Int×Unit->UU}(h:∀H',(∀c,H c≠ψ->H' c=H c)->Q ((Im 1 0 t).2,()) () H'):qK 90 Gr (t,()) H Q X:=by
 refine wF Tryz.f90 {pr:=[(3,8),(4,8)],im:=[1]} (?_:Kv t H Q X);unfold Kv;intro b n f d;have a:f≠b:=λe=>by grind[Ah]
 have g:H f=ψ:=by grind[Ad]
 refine⟨0,by rw[Ad _ _ (Ne.symm a),Ah],0,by rw[Ad _ _ a,Ah],?_⟩;have m:Ug f b H (Ac (Ac (Ac (Ac H b (Ob.st Cc (0:Int))) f (Ob.st Cc (0:Int))) b _) f _) 0 0:=
  ⟨a,Ah _ _ _,by rw[Ad _ _ (Ne.symm a),Ah],λc j i=>by rw[Ad _ _ j,Ad _ _ i,Ad _ _ j,Ad _ _ i]⟩
 refine Acp (SizeOf.sizeOf t+1) t (by omega) m (by omega) (by omega) λH' k _ _=>⟨_,k.w,rfl,h _ λc l=>k.f c (λe=>l (by grind)) λe=>l (by grind)⟩
end
section
abbrev OZ:Af:={Bool:=τ,Lo:=0,Hi:=0}
abbrev L5:Af:={Bool:=ν,Lo:=0,Hi:=0}
def CV(lo hi:Int):Af×Int:=if lo < -1048576∨1048576<hi∨hi<lo∨4096<hi-lo then (OZ,2) else ({Bool:=τ,Lo:=lo,Hi:=hi},0)
variable {H:HY} {X:PX} {Q:Af×Int×Unit->UU}
theorem ES{lo hi:Int}(h:Q ((CV lo hi).1,(CV lo hi).2,()) () H):qK 220 AL (lo,hi,()) H Q X:=by
 refine wF Tryz.f220 {} (?_:L6 lo hi H Q X);unfold L6;have a:lo < -1048576∨1048576<hi∨hi<lo∨4096<hi-lo->Q (OZ,2,()) () H:=λc=>by simp_all[CV]
 refine⟨λb=>a (.inl b),λb=>⟨λe=>a (.inr (.inl e)),λe=>⟨λf=>a (.inr (.inr (.inl f))),λf _ _=>⟨Aq.2 (by omega),λd=>a (.inr (.inr (.inr d))),λd=>?_⟩⟩⟩⟩;simp_all[CV]
def YR(y:Af):Prop:=-1048576<=y.Lo/\y.Lo<=y.Hi/\y.Hi<=1048576/\(y.Bool=ν->y=L5)
theorem Acy{lo hi:Int}(h:(CV lo hi).2=0):YR (CV lo hi).1/\(CV lo hi).1={Bool:=τ,Lo:=lo,Hi:=hi}:=by
 unfold CV at h ⊢;by_cases c:lo < -1048576∨1048576<hi∨hi<lo∨4096<hi-lo
 .grind
 .rw[GT c];exact⟨⟨by grind,by grind,by grind,λe=>by cases e⟩,rfl⟩
def HC(l:List Af):Af×Int:=if l.all (·.Bool)=ν then (L5,0) else (OZ,13)
theorem V8{l:List Af}(u:σ l<=1000)(h:Q ((HC l).1,(HC l).2,()) () H):qK 221 Jp (l,()) H Q X:=by
 refine wF Tryz.f221 {lp:=[(2,⟨[(2,.blk [.dat .bool,.dat I6,.dat I6]),(8,.nat)],[6,7],τ⟩)]} (?_:σ l<=2^63-1->∃(V:Nat->(Bool×Int×qV)×Nat×UT->Prop),(∃(n:Nat),H=H/\V n ((τ,0,0,()),0,()))/\∀n x,V n x->(x.2.1<σ l->x.2.1<=2^63-1->∃(h:x.2.1<σ l),letI E:=¬l[x.2.1].Bool=ν;(E->Q ({Bool:=τ,Lo:=0,Hi:=0:Af},13,()) () H)/\(¬E->x.2.1+1<=2^63-1/\∃m,m<n/\H=H/\V m ((x.1.1,x.1.2.1,x.1.2.2.1,()),x.2.1+1,())))/\(¬x.2.1<σ l->Q ({Bool:=ν,Lo:=0,Hi:=0:Af},0,()) () H));refine λ_=>⟨λm z=>m=σ l-z.2.1/\z.2.1<=σ l/\∀i a,i<z.2.1->l[i].Bool=ν,⟨_,rfl,rfl,a6 _,λi _ a=>qG a (a9 _)⟩,?_⟩
 rintro m ⟨⟨x,y,z,_⟩,k,_⟩ ⟨o,n,b⟩;have v:m=σ l-k:=o;have t:=n;have p:=b;unfold HC at h;refine⟨λd _=>?_,λj=>?_⟩
 .have f:=d;refine⟨f,λg=>?_,λg=>⟨by grind,σ l-(k+1),by omega,rfl,rfl,by grind,λi a c=>?_⟩⟩;all_goals grind
 .have s:=j;rw[UV (aq.2 λx r=>by obtain⟨i,a,rfl⟩:=b9 r;grind)]at h
  exact h
def JV(op:Int)(a b:Af):Af×Int:=
 if op=15 then CV (a.Lo + -b.Hi) (a.Hi + -b.Lo) else if op=14 then CV (a.Lo+b.Lo) (a.Hi+b.Hi)
 else CV (KL τ (a.Lo*b.Lo) [(.i64,a.Lo*b.Hi),(.i64,a.Hi*b.Lo),(.i64,a.Hi*b.Hi)]) (KL ν (a.Lo*b.Lo) [(.i64,a.Lo*b.Hi),(.i64,a.Hi*b.Lo),(.i64,a.Hi*b.Hi)])
theorem SQ{op:Int}{a b:Af}(g:YR a)(f:YR b)(h:Q ((JV op a b).1,(JV op a b).2,()) () H):qK 222 Fo (op,a,b,()) H Q X:=by
 refine wF Tryz.f222 {im:=[4]} (?_:HD op a b H Q X);unfold HD;obtain⟨s,o,r,_⟩:=g;obtain⟨j,m,n,_⟩:=f;unfold JV at h;have c:∀x y,-1048576<=x->x<=1048576->-1048576<=y->y<=1048576->Bl .i64 (x*y):=λx y k q l p=>by have:=We (x:=x) (y:=y) (by omega) (by omega);grind[Aq]
 refine⟨λe _=>⟨Aq.2 (by omega),λ_=>⟨Aq.2 (by omega),λ_ _ _=>⟨Aq.2 (by omega),λ_ _=>⟨Aq.2 (by omega),ES ?_⟩⟩,λi=>qG rfl i⟩⟩,λe=>⟨λd _ _=>⟨Aq.2 (by omega),λ_ _=>⟨Aq.2 (by omega),ES ?_⟩⟩,λd _ _=>⟨c _ _ (by omega) (by omega) (by omega) (by omega),λ_ _=>⟨c _ _ (by omega) (by omega) (by omega) (by omega),λ_ _=>⟨c _ _ (by omega) (by omega) (by omega) (by omega),λ_ _=>⟨c _ _ (by omega) (by omega) (by omega) (by omega),ES ?_⟩⟩⟩⟩⟩⟩;all_goals grind
def Yf(vars:List Al)(m:List (ByteArray×Int)):Prop:=∀nm,Ag m nm=if AY vars nm<σ vars then φ (AY vars nm:Int) else ψ
theorem Z7{l:List Al}{v:Al}{nm:ByteArray}:AY (l++[v]) nm=if AY l nm<σ l then AY l nm else if v.qJ=nm then σ l else σ l+1:=by grind[AY]
theorem W4{vars:List Al}{Q:List (ByteArray×Int)×Unit->UU}(y:σ vars<=1000)(h:∀m,Yf vars m->Q (m,()) () H):qK 92 Ky (vars,()) H Q X:=by
 refine wF Tryz.f92 {lp:=[(3,⟨[(3,.map .str I6),(11,.nat)],[9,10],τ⟩)]} (?_:Ku vars H Q X);unfold Ku;refine λ_=>⟨λn z=>n=σ vars-z.2.1/\z.2.1<=σ vars/\Yf (vars.take z.2.1) z.1,⟨_,rfl,rfl,a6 _,λb=>rfl⟩,?_⟩
 rintro n ⟨m,k,_⟩ ⟨p,d,i⟩;have A:n=σ vars-k:=p;have x:k<=σ vars:=d;have q:Yf (vars.take k) m:=i;refine⟨λl _=>?_,λs=>?_⟩
 .have r:k<σ vars:=l;have v:vars.take (k+1)=vars.take k++[vars[k]]:=a5 r;have j:σ (vars.take k)=k:=by grind
  have c:σ (vars.take (k+1))=k+1:=by grind
  have d:=q vars[k].qJ;refine⟨r,λg=>⟨by grind,σ vars-(k+1),by omega,rfl,rfl,by grind,λb=>?_⟩,λa=>⟨by show k+1<=_;omega,σ vars-(k+1),by omega,rfl,rfl,by grind,λb=>?_⟩⟩
  .have g:=g;have o:¬AY (vars.take k) vars[k].qJ<σ (vars.take k):=λu=>by grind
   show Ag (C4 m vars[k].qJ (k:Int)) b=if AY (vars.take (k+1)) b<σ (vars.take (k+1)) then φ (AY (vars.take (k+1)) b:Int) else ψ
   rw[c,v,Z7,Cw];by_cases e:vars[k].qJ=b
   .subst e;rw[GT o,UV rfl,UV rfl,UV (by omega),j]
   .rw[GT (Ne.symm e),q b];grind
  .have a:=a;have t:AY (vars.take k) vars[k].qJ<σ (vars.take k):=aa λu=>by grind
   show Ag m b=if AY (vars.take (k+1)) b<σ (vars.take (k+1)) then φ (AY (vars.take (k+1)) b:Int) else ψ
   rw[c,v,Z7,q b];grind
 grind
def GC(vars:List Al)(op:Int)(nm:ByteArray)(next:Bool):Af×Int:=match vars[AY vars nm]? with
 |none=>(OZ,12)
 |some v=>if op=4/\next=τ then (OZ,24) else if v.Bool=ν then (L5,0) else CV v.Lo v.Hi
def ifE(l:List Af):Af×Int:=match l with
 | [a,b,c]=>if ¬a.Bool=ν∨b.Bool≠c.Bool then (OZ,13) else if b.Bool=ν then (b,0) else CV (KL τ b.Lo [(.i64,c.Lo)]) (KL ν b.Hi [(.i64,c.Hi)])
 |_=>(OZ,0)
def eqE(l:List Af):Af×Int:=match l with
 | [a,b]=>if a.Bool≠b.Bool then (OZ,13) else (L5,0)
 |_=>(OZ,0)
def Xk(ks:List Ab):Af×Int:=match ks with
 | [_,k]=>if k.Op≠1∨k.N<1 then (OZ,2) else CV 0 (k.N-1)
 |_=>(OZ,0)
def Alw(op:Int)(ks:List Ab)(l:List Af):Af×Int:=match l with
 | [a,b]=>if a.Bool=ν∨b.Bool=ν then (OZ,13) else if op=12∨op=13 then (L5,0) else if op=17 then Xk ks else JV op a b
 |_=>(OZ,0)
def AW(vars:List Al)(next:Bool)(t:Ab)(l:List Af):Af×Int:=
 if t.Op=1 then CV t.N t.N else if t.Op=2 then (L5,0) else if t.Op=3∨t.Op=4 then GC vars t.Op t.qJ next
 else if 5<=t.Op/\t.Op<=9 then HC l else if t.Op=18 then ifE l else if t.Op=10∨t.Op=11 then eqE l else Alw t.Op t.qZ l
theorem Ai7(a:Int):(Ft a).2<=64:=by unfold Ft;(repeat' split)<;>decide
theorem nb:∀x y:Bool,(not (δ (x=ν)==δ (y=ν))=ν)↔x≠y:=by decide
theorem Yr{vars:List Al}{at_:List (ByteArray×Int)}{t:Ab}{next:Bool}{l:List Af}{Q:Af×Int×Unit->List (ByteArray×Int)×Unit->HP}(_:σ vars<=1000)(hm:Yf vars at_)(n:CF t=0)(R:σ l=σ t.qZ)(W:∀y∈l,YR y)(h:Q ((AW vars next t l).1,(AW vars next t l).2,()) (at_,()) H):qK 167 F5 (vars,at_,t,next,l,()) H Q X:=by
 refine wF Tryz.f167 {im:=[7]} (?_:ED vars at_ t next l H Q X);unfold ED;have d:∀y e,AW vars next t l=(y,e)->Q (y,e,()) (at_,()) H:=λy e he=>by grind
 have r:0<=(Ft t.Op).1/\(Ft t.Op).1<=(σ t.qZ:Int)/\(σ t.qZ:Int)<=(Ft t.Op).2:=by grind[CF]
 have l64:σ l<=64:=by grind[Ft,Ai7]
 have L:8<=t.Op->t.Op<=17->∃a b,l=[a,b]:=λs C=>by
  have e:Ft t.Op=(2,2):=by unfold Ft;rw[GT (by omega),GT (by omega),GT (by omega),UV (by omega)]
  rw[e]at r;have M:(2:Int)<=σ t.qZ:=r.2.1;have T:(σ t.qZ:Int)<=2:=r.2.2;match l,(show σ l=2 by omega) with
  | [a,b],_=>simp
 have l3:t.Op=18->∃a b c,l=[a,b,c]:=λs=>by
  have e:Ft t.Op=(3,3):=by rw[s];rfl
  rw[e]at r;have M:(3:Int)<=σ t.qZ:=r.2.1;have T:(σ t.qZ:Int)<=3:=r.2.2;match l,(show σ l=3 by omega) with
  | [a,b,c],_=>simp
 have Y:(t.Op=3∨t.Op=4)->(¬(Ag at_ t.qJ).isSome=ν->Q ({Bool:=τ,Lo:=(0:Int),Hi:=(0:Int):Af},12,()) (at_,()) H)/\(¬¬(Ag at_ t.qJ).isSome=ν->(t.Op=(4:Int)->(¬next=ν->Q ({Bool:=τ,Lo:=(0:Int),Hi:=(0:Int):Af},24,()) (at_,()) H)/\(¬¬next=ν->Bl .i64 ((Ag at_ t.qJ).getD 0)->(Bl .i64 ((Ag at_ t.qJ).getD 0)->(0:Int)<=(Ag at_ t.qJ).getD 0)/\∃(h:((Ag at_ t.qJ).getD 0).toNat<σ vars),(vars[((Ag at_ t.qJ).getD 0).toNat].Bool=ν->Q ({Bool:=ν,Lo:=(0:Int),Hi:=(0:Int):Af},0,()) (at_,()) H)/\(¬vars[((Ag at_ t.qJ).getD 0).toNat].Bool=ν->Bl .i64 ((Ag at_ t.qJ).getD 0)->(Bl .i64 ((Ag at_ t.qJ).getD 0)->(0:Int)<=(Ag at_ t.qJ).getD 0)/\∃(h:((Ag at_ t.qJ).getD 0).toNat<σ vars),Bl .i64 ((Ag at_ t.qJ).getD 0)->(Bl .i64 ((Ag at_ t.qJ).getD 0)->(0:Int)<=(Ag at_ t.qJ).getD 0)/\∃(z:((Ag at_ t.qJ).getD 0).toNat<σ vars),qK 220 AL (vars[((Ag at_ t.qJ).getD 0).toNat].Lo,vars[((Ag at_ t.qJ).getD 0).toNat].Hi,()) H (λ(b:Af×Int×Unit)(Z:Unit)(B:HY)=>Q (b.1,b.2.1,()) (at_,()) B) X)))/\(¬t.Op=(4:Int)->Bl .i64 ((Ag at_ t.qJ).getD 0)->(Bl .i64 ((Ag at_ t.qJ).getD 0)->(0:Int)<=(Ag at_ t.qJ).getD 0)/\∃(h:((Ag at_ t.qJ).getD 0).toNat<σ vars),(vars[((Ag at_ t.qJ).getD 0).toNat].Bool=ν->Q ({Bool:=ν,Lo:=(0:Int),Hi:=(0:Int):Af},0,()) (at_,()) H)/\(¬vars[((Ag at_ t.qJ).getD 0).toNat].Bool=ν->Bl .i64 ((Ag at_ t.qJ).getD 0)->(Bl .i64 ((Ag at_ t.qJ).getD 0)->(0:Int)<=(Ag at_ t.qJ).getD 0)/\∃(h:((Ag at_ t.qJ).getD 0).toNat<σ vars),Bl .i64 ((Ag at_ t.qJ).getD 0)->(Bl .i64 ((Ag at_ t.qJ).getD 0)->(0:Int)<=(Ag at_ t.qJ).getD 0)/\∃(z:((Ag at_ t.qJ).getD 0).toNat<σ vars),qK 220 AL (vars[((Ag at_ t.qJ).getD 0).toNat].Lo,vars[((Ag at_ t.qJ).getD 0).toNat].Hi,()) H (λ(b:Af×Int×Unit)(Z:Unit)(B:HY)=>Q (b.1,b.2.1,()) (at_,()) B) X))):=λq=>by
  have g:AW vars next t l=GC vars t.Op t.qJ next:=by unfold AW;rw[GT (by omega),GT (by omega),UV q]
  have A:=hm t.qJ;refine⟨λG=>d _ _ ?_,λG=>?_⟩
  .have p:¬AY vars t.qJ<σ vars:=λi=>by grind
   rw[g];unfold GC;rw[ao (by omega)]
  .have u:AY vars t.qJ<σ vars:=aa λi=>G (by grind);rw[A,UV u,az,ax];have J:AW vars next t l=if t.Op=4/\next=τ then (OZ,24) else if vars[AY vars t.qJ].Bool=ν then (L5,0) else CV vars[AY vars t.qJ].Lo vars[AY vars t.qJ].Hi:=by rw[g];unfold GC;rw[a4 u]
   have F:¬(t.Op=4/\next=τ)->(Bl .i64 (AY vars t.qJ:Int)->(Bl .i64 (AY vars t.qJ:Int)->(0:Int)<=(AY vars t.qJ:Int))/\∃(h:AY vars t.qJ<σ vars),(vars[AY vars t.qJ].Bool=ν->Q (L5,0,()) (at_,()) H)/\(¬vars[AY vars t.qJ].Bool=ν->Bl .i64 (AY vars t.qJ:Int)->(Bl .i64 (AY vars t.qJ:Int)->(0:Int)<=(AY vars t.qJ:Int))/\∃(h:AY vars t.qJ<σ vars),Bl .i64 (AY vars t.qJ:Int)->(Bl .i64 (AY vars t.qJ:Int)->(0:Int)<=(AY vars t.qJ:Int))/\∃(z:AY vars t.qJ<σ vars),qK 220 AL (vars[AY vars t.qJ].Lo,vars[AY vars t.qJ].Hi,()) H
     (λ(b:Af×Int×Unit)(Z:Unit)(B:HY)=>Q (b.1,b.2.1,()) (at_,()) B) X)):=λj _=>by
    rw[GT j]at J
    refine⟨λ_=>ak _,u,λf=>d _ _ (by rw[J,UV f]),λf _=>⟨λ_=>ak _,u,λ_=>⟨λ_=>ak _,u,ES (d _ _ (by rw[J,GT f]))⟩⟩⟩
   refine⟨λK=>⟨λv=>d _ _ ?_,λv=>F λj=>v (by grind)⟩,λK=>F λj=>K j.1⟩;rw[J,UV ⟨K,by grind⟩]
 have P5:5<=t.Op->t.Op<=9->AW vars next t l=HC l:=λs C=>by unfold AW;rw[GT (by omega),GT (by omega),GT (by omega),UV ⟨s,C⟩]
 have O:¬(t.Op=1∨t.Op=2∨t.Op=3∨t.Op=4∨(5<=t.Op/\t.Op<=9))->AW vars next t l=if t.Op=18 then ifE l else if t.Op=10∨t.Op=11 then eqE l else Alw t.Op t.qZ l:=λi=>by unfold AW;rw[GT (by omega),GT (by omega),GT (by omega),GT (by omega)]
 have D:5<=t.Op->t.Op<=9->qK 221 Jp (l,()) H (λ(b:Af×Int×Unit)(_:Unit)(B:HY)=>Q (b.1,b.2.1,()) (at_,()) B) X:=λs C=>V8 (by omega) (d _ _ (P5 s C));have V:∀a b,l=[a,b]->(t.Op=10∨t.Op=11)->(True->(0:Int)<=0)/\∃(h:a8 (0:Int)<σ [a,b]),(True->(0:Int)<=1)/\∃(z:a8 (1:Int)<σ [a,b]),(not (δ ([a,b][a8 (0:Int)].Bool=ν)==δ ([a,b][a8 (1:Int)].Bool=ν))=ν->Q ({Bool:=τ,Lo:=(0:Int),Hi:=(0:Int):Af},13,()) (at_,()) H)/\(¬not (δ ([a,b][a8 (0:Int)].Bool=ν)==δ ([a,b][a8 (1:Int)].Bool=ν))=ν->Q ({Bool:=ν,Lo:=(0:Int),Hi:=(0:Int):Af},0,()) (at_,()) H):=λa b R q=>by
  have g:AW vars next t l=if a.Bool≠b.Bool then (OZ,13) else (L5,0):=by rw[O (by omega),GT (by omega),UV q,R];rfl
  grind
 refine⟨λe1=>ES (d _ _ (by unfold AW;rw[UV e1])),λn1=>⟨λe2=>d _ _ (by unfold AW;rw[GT n1,UV e2]),λn2=>⟨λe3=>Y (.inl e3),λn3=>⟨λe4=>Y (.inr e4),λn4=>⟨λe=>D (by omega) (by omega),λn5=>⟨λe=>D (by omega) (by omega),λn6=>⟨λe=>D (by omega) (by omega),λn7=>⟨λe=>D (by omega) (by omega),λn8=>⟨λe=>D (by omega) (by omega),λn9=>⟨λe=>?_,λn18=>⟨λe=>?_,λn10=>⟨λe=>?_,λn11=>?_⟩⟩⟩⟩⟩⟩⟩⟩⟩⟩⟩⟩
 .obtain⟨a,b,c,rfl⟩:=l3 e;have g:AW vars next t [a,b,c]=if ¬a.Bool=ν∨b.Bool≠c.Bool then (OZ,13) else if b.Bool=ν then (b,0) else CV (KL τ b.Lo [(.i64,c.Lo)]) (KL ν b.Hi [(.i64,c.Hi)]):=by rw[O (by omega),UV e];rfl
  refine⟨λ_=>by decide,by simp,λp=>d _ _ ?_,λp=>⟨λ_=>by decide,by simp,λ_=>by decide,by simp,λf=>d _ _ ?_,λf=>⟨λ_=>by decide,by simp,λj=>⟨λ_=>by decide,by simp,d _ _ ?_⟩,λj=>⟨λ_=>by decide,by simp,λ_=>by decide,by simp,λ_=>by decide,by simp,λ_=>by decide,by simp,ES (d _ _ ?_)⟩⟩⟩⟩;all_goals grind
 .grind
 .grind
 .have N7:1<=t.Op/\t.Op<=18:=by
   refine aa λi=>?_;have:Ft t.Op=(-1,-1):=by unfold Ft;rw[GT (by omega),GT (by omega),GT (by omega),GT (by omega),GT (by omega)]
   rw[this]at r;exact qG r.1 (by decide)
  obtain⟨a,b,rfl⟩:=L (by omega) (by omega);obtain⟨I,o,x⟩:∃I o,t.qZ=[I,o]:=by
   match t.qZ,(show σ t.qZ=2 from R.symm) with
   | [I,o],_=>exact⟨I,o,rfl⟩
  have w:1<σ t.qZ:=by rw[x];show 1<2;decide
  have k:t.qZ[a8 (1:Int)]'w=o:=by simp [x]
  have g:AW vars next t [a,b]=if a.Bool=ν∨b.Bool=ν then (OZ,13) else if t.Op=12∨t.Op=13 then (L5,0) else if t.Op=17 then Xk t.qZ else JV t.Op a b:=by rw[O (by omega),GT (by omega),GT (by omega)];rfl
  have U:Xk t.qZ=if o.Op≠1∨o.N<1 then (OZ,2) else CV 0 (o.N-1):=by rw[x];rfl
  refine⟨λ_=>by decide,by show 0<2;decide,λS=>d _ _ (by rw[g,UV (.inl S)]),λS=>⟨λ_=>by decide,by show 1<2;decide,λf=>d _ _ (by rw[g,UV (.inr f)]),λf=>?_⟩⟩;have P:¬(a.Bool=ν∨b.Bool=ν):=λi=>i.elim S f;rw[GT P]at g;refine⟨λe=>d _ _ (by rw[g,UV (.inl e)]),λe12=>⟨λe=>d _ _ (by rw[g,UV (.inr e)]),λe13=>⟨λm=>⟨λ_=>by decide,w,λq=>d _ _ ?_,λq=>⟨λE=>d _ _ ?_,λE=>⟨λ_=>by decide,w,λu=>⟨?_,?_⟩⟩⟩⟩,λm=>⟨λ_=>by decide,by show 0<2;decide,λ_=>by decide,by show 1<2;decide,SQ (W a (by simp)) (W b (by simp)) (d _ _ ?_)⟩⟩⟩⟩;all_goals rw[GT (by omega)]at g
  .rw[k]at q;rw[g,UV m,U,UV (.inl q)]
  .rw[k]at E;rw[g,UV m,U,UV (.inr E)]
  .rw[k]at E u ⊢;have:=Aq.1 u;exact Aq.2 (by omega)
  .rw[k]at E q;show qK 220 AL (0,t.qZ[a8 (1:Int)].N-1,()) H _ X;rw[k];refine ES (d _ _ ?_);rw[g,UV m,U,GT (by omega)]
  grind
mutual
def AA(vars:List Al)(next:Bool):Ab->Af×Int
 |⟨op,n,nm,ks⟩=>let r:=B6 vars next ks;if r.2=0 then AW vars next ⟨op,n,nm,ks⟩ r.1 else (OZ,r.2)
def B6(vars:List Al)(next:Bool):List Ab->List Af×Int
 | []=>([],0)
 |t::ts=>let y:=AA vars next t;let r:=B6 vars next ts;if y.2=0 then if r.2=0 then (y.1::r.1,0) else ([],r.2) else ([],y.2)
end
theorem L4(vars:List Al)(next:Bool)(t:Ab):AA vars next t=if (B6 vars next t.qZ).2=0 then AW vars next t (B6 vars next t.qZ).1 else (OZ,(B6 vars next t.qZ).2):=by cases t;rfl
theorem ER(vars:List Al)(next:Bool)(t:Ab)(ts:List Ab):B6 vars next (t::ts)=if (AA vars next t).2=0 then if (B6 vars next ts).2=0 then ((AA vars next t).1::(B6 vars next ts).1,0) else ([],(B6 vars next ts).2) else ([],(AA vars next t).2):=by rw[B6]
theorem RQ{vars:List Al}{next:Bool}(t:Ab):∀(l:List Ab){ys:List Af},B6 vars next l=(ys,0)->B6 vars next (l++[t])=if (AA vars next t).2=0 then (ys++[(AA vars next t).1],0) else ([],(AA vars next t).2)
 | [],ys,h=>by grind[B6,ER]
 |s::l,ys,h=>by
  show B6 _ _ (s::(l++[t]))=_;rw[ER]at h ⊢;by_cases e:(AA vars next s).2=0
  .rw[UV e]at h ⊢;by_cases b:(B6 vars next l).2=0
   .rw[UV b]at h;have c:=RQ t l  (Prod.ext rfl b);grind
   grind
  grind
theorem Uu{vars:List Al}{next:Bool}(a:List Ab):∀(l:List Ab),(B6 vars next l).2≠0->B6 vars next (l++a)=B6 vars next l
 | [],h=>by grind[B6]
 |s::l,h=>by
  show B6 _ _ (s::(l++a))=_;rw[ER]at h ⊢;rw[ER];by_cases e:(AA vars next s).2=0
  .rw[UV e]at h ⊢;rw[UV e];by_cases b:(B6 vars next l).2=0
   .grind
   .rw[Uu a l b]
  grind
theorem Ut{vars:List Al}{next:Bool}:∀(l:List Ab),(B6 vars next l).2=0->σ (B6 vars next l).1=σ l
 | [],_=>by rfl
 |s::l,h=>by
  rw[ER]at h ⊢;by_cases e:(AA vars next s).2=0
  .rw[UV e]at h ⊢;by_cases a:(B6 vars next l).2=0;all_goals simp_all[Ut]
  grind
theorem SO:YR L5:=⟨by decide,by decide,by decide,λ_=>rfl⟩
variable {vars:List Al} {next:Bool} {t:Ab}
theorem Aor{l:List Af}(n:∀y∈l,YR y)(h:(AW vars next t l).2=0):(AW vars next t l).1=OZ∨YR (AW vars next t l).1:=by
 have d:∀f g,(CV f g).2=0->YR _:=λf g m=>(Acy m).1;unfold AW at h ⊢;split at h
 .grind
 rename_i o;rw[GT o];split at h
 .simp_all[SO]
 rename_i j;rw[GT j];split at h
 .rename_i e;rw[UV e];unfold GC at h ⊢;cases i:vars[AY _ _]? with
  |none=>simp
  |some v=>
   rw[i]at h;dsimp only at h ⊢;split at h
   .omega
   .rename_i c;rw[GT c];split at h;all_goals simp_all[SO]
 rename_i s;rw[GT s];split at h
 .rename_i e;rw[UV e];unfold HC at h ⊢;split at h;all_goals simp_all[SO]
 rename_i p;rw[GT p];split at h
 .rename_i e;rw[UV e];unfold ifE at h ⊢;grind
 rename_i k;rw[GT k];split at h
 .rename_i e;rw[UV e];unfold eqE at h ⊢;split at h
  .split at h;all_goals simp_all[SO]
  simp
 rename_i r;rw[GT r];unfold Alw at h ⊢;split at h
 .split at h
  .omega
  .rename_i q;rw[GT q];split at h
   .simp_all[SO]
   .rename_i q;rw[GT q];split at h
    .rename_i q;rw[UV q];unfold Xk at h ⊢;grind
    .rename_i q;rw[GT q];grind[JV]
 simp
theorem Axq:YR OZ:=⟨by decide,by decide,by decide,λh=>by cases h⟩
theorem Agp{l:List Af}(a:∀y∈l,YR y)(h:(AW vars next t l).2=0):YR (AW vars next t l).1:=by grind[Aor,Axq]
inductive Um:Ab->Prop
 |mk {t:Ab}:CF t=0->(∀k∈t.qZ,Um k)->Um t
theorem Hj{k:Ab}(h:k∈t.qZ):SizeOf.sizeOf k<SizeOf.sizeOf t:=by
 have a:=bg h;have b:SizeOf.sizeOf t.qZ<SizeOf.sizeOf t:=by cases t;grind
 omega
theorem Wo:∀(z:Nat)(t:Ab)(deep n:Int),SizeOf.sizeOf t<z->(Im deep n t).2=0->Um t
 |0,_,_,_,g,_=>qG g (a9 _)
 |z+1,t,deep,n,g,h=>by
  rw[Ua]at h;split at h
  .omega
  .split at h
   .rename_i d;split at h
    .omega
    .refine .mk d ?_;have f:∀l m,(∀k∈l,k∈t.qZ)->(EY (deep+1) m l).2=0->∀k∈l,Um k:=by
      intro l;induction l with
      |nil=>simp
      |cons s l i=>
       intro m a c k b;unfold EY at c;simp  at c;by_cases e:(Im (deep+1) m s).2=0
       .rw[UV e]at c;rcases b4.1 b with rfl|b
        .exact Wo z _ _ _ (by have:=Hj (a k ag);omega) e
        grind
       grind
     grind
   omega
theorem LN{vars:List Al}{next:Bool}:∀(z:Nat)(t:Ab),SizeOf.sizeOf t<z->(AA vars next t).2=0->YR (AA vars next t).1
 |0,_,g,_=>qG g (a9 _)
 |z+1,t,g,h=>by
  rw[L4]at h ⊢;by_cases e:(B6 vars next t.qZ).2=0
  .rw[UV e]at h ⊢;refine Agp ?_ h;have f:∀l,(∀k∈l,k∈t.qZ)->(B6 vars next l).2=0->∀y∈(B6 vars next l).1,YR y:=by
    intro l;induction l with
    |nil=>grind[B6]
    |cons s l j=>
     intro b c y a;rw[ER]at c a;by_cases e:(AA vars next s).2=0
     .rw[UV e]at c a;by_cases d:(B6 vars next l).2=0
      .rw[UV d]at a;rcases b4.1 a with rfl|a
       .exact LN z s (by have:=Hj (b s ag);omega) e
       grind
      grind
     grind
   grind
  grind
theorem Po{vars:List Al}{at_:List (ByteArray×Int)}{next:Bool}{X:PX}(J:σ vars<=1000)(K:Yf vars at_):∀(z:Nat)(t:Ab){H:HY}{Q:Af×Int×Unit->List (ByteArray×Int)×Unit->HP},SizeOf.sizeOf t<z->Um t->Q ((AA vars next t).1,(AA vars next t).2,()) (at_,()) H->qK 91 Gg (vars,at_,t,next,()) H Q X
 |0,_,_,_,L,_,_=>qG L (a9 _)
 |z+1,t,H,Q,L,T,h=>by
  apply Nf;unfold Kt;obtain⟨f,O⟩:CF t=0/\∀k∈t.qZ,Um k:=by cases T with|mk a b=>exact⟨a,b⟩
  have C:(B6 vars next t.qZ).2=0->∀y∈(B6 vars next t.qZ).1,YR y:=λe=>by
   have E:∀(l:List Ab),(B6 vars next l).2=0->∀y∈(B6 vars next l).1,YR y:=by
    intro l;induction l with
    |nil=>intro _ y c;rw[B6]at c;cases c
    |cons s l R=>
     intro o y c;rw[ER]at o c;by_cases e:(AA vars next s).2=0
     .rw[UV e]at o c;by_cases B:(B6 vars next l).2=0
      .rw[UV B]at c;rcases b4.1 c with rfl|c
       .exact LN _ s (ac _) e
       .exact R B y c
      .rw[GT B]at o;exact qG o B
     .rw[GT e]at o;exact qG o e
   exact E _ e
  have ar:(σ t.qZ:Int)<=64:=by
   have a1:(σ t.qZ:Int)<=(Ft t.Op).2:=by
    unfold CF at f;split at f
    .exact qG f (by decide)
    .split at f
     .exact qG f (by decide)
     .split at f
      .exact qG f (by decide)
      .split at f
       .exact qG f (by decide)
       .omega
   have V:=Ai7 t.Op;omega
  rw[L4]at h;refine λ_=>⟨λn x=>n=σ t.qZ-x.2.2.2.1/\x.2.2.2.1<=σ t.qZ/\x.1=at_/\B6 vars next (t.qZ.take x.2.2.2.1)=(x.2.2.1,0),⟨_,rfl,rfl,a6 _,rfl,by show B6 vars next []=_;rw[B6]⟩,?_⟩
  rintro n ⟨m,⟨Y,Z,W,_⟩,D,i,_⟩ ⟨r,A,p,w⟩;have U:n=σ t.qZ-i:=r;have hi:i<=σ t.qZ:=A;have F:m=at_:=p
  have c:=w;subst F;have G:σ D=i:=by grind[Ut,be,min]
  refine⟨λu _=>?_,λq=>?_⟩
  .have g:i<σ t.qZ:=u;have I:=a5 g;have d:=RQ  (next:=next) t.qZ[i] _ c;rw[<-I]at d;refine⟨g,?_⟩;show qK 91 _ _ H _ X;rw[SS];refine Po J K z t.qZ[i] (by have:=Hj (ab g);omega) (O _ (ab g)) ⟨λv=>?_,λj=>⟨by grind,by grind,σ t.qZ-(i+1),by omega,rfl,rfl,by grind,rfl,?_⟩⟩
   .have v:=v;rw[GT v]at d;have M:B6 vars next t.qZ=([],(AA vars next t.qZ[i]).2):=by have:=Uu (vars:=vars) (next:=next) (t.qZ.drop (i+1)) (t.qZ.take (i+1)) (by grind);rw[an]at this;rw[this,d]
    grind
   grind
  .have P:¬i<σ t.qZ:=q;have S:i=σ t.qZ:=by omega
   subst S;rw[bt]at c;rw[c,UV rfl]at h;grind[Yr]
def DP(vars:List Al)(next:Bool)(t:Ab):Af×Int:=if (Im 1 0 t).2=0 then AA vars next t else (OZ,(Im 1 0 t).2)
theorem Ro{H:HY}{X:PX}{Q:Af×Int×Unit->UU}(b:σ vars<=1000)(h:∀H',(∀c,H c≠ψ->H' c=H c)->Q ((DP vars next t).1,(DP vars next t).2,()) () H'):qK 41 EE (vars,t,next,()) H Q X:=by
 refine wF Tryz.f41 {im:=[4]} (?_:L7 vars t next H Q X);unfold L7;refine W5 λH' f=>⟨λa=>?_,λa=>?_⟩
 .simp_all[DP]
 .have a:=af.1 a;refine W4 b λm d=>Po b d (SizeOf.sizeOf t+1) t (by omega) (Wo _ t _ _ (ac _) a) ?_;simp_all[DP]
end
section
def A8t(L:Ae)(n0:Int)(t:Ab)(F:B.Fn)(c pk:Nat):Prop:=∀{wb b:Nat}{M0 M:Mn}{lv:List (Int×Bool)}{H:HY}{X:PX}{Q:Int×Unit->UU},WK H wb b M0 M L lv->M.nx+(c:Int)<576460752303420000->σ M.hs+pk<=59900->M.S.n=n0->(∀M' lv' H' r,Wk H H' wb b M0 M M' L lv lv' [(r,F)]->M'.nx<=M.nx+(c:Int)->Q (r,()) () H')->qK 42 D6 (φ wb,t,()) H Q X
abbrev Lp(L:Ae)(n0:Int)(t:Ab)(F:B.Fn):Prop:=A8t L n0 t F (1000000000*Er t) (1025*Er t)
variable {H:HY} {wb b:Nat} {M0 M:Mn} {L:Ae} {lv:List (Int×Bool)} {X:PX}
theorem Wk.A5v{Hb:HY}{Mb:Mn}{lvb:List (Int×Bool)}{hs1 hs:List (Int×B.Fn)}{l:List Int}{F:B.Fn}{L2:FT Y0 [.ptr,.sl I6] [.int .i64,.int .i64]}{Q:Int×Unit->UU}(k:Wk Hb H wb b M0 Mb M L lvb lv (hs1++hs))(s:M.nx<576460752303423486)(d:l=hs1.map (·.1))(r:σ l<=1000)(i:MG H b M->(∀p∈hs1,M.Ar p.1=φ p.2)->DoS b M H l F L2)(h:∀M' lv' H',Wk Hb H' wb b M0 Mb M' L lvb lv' ((M.nx,F)::hs)->M'.nx=M.nx+1->Q (M.nx,()) () H'):qK 56 A6 (φ wb,L2,l,()) H Q X:=by
 have g:=k.h.nd;rw[am,List.nodup_append]at g;refine Ph k.w (by omega) (by omega) (λj c=>?_) (i k.w.mg λp a=>k.h.Ar p (b5 _ a)) λM' lv' H' q _ u f=>h _ _ _ (k.step q ?_ f) u.nx
 .rw[d]at c;obtain⟨p,a,rfl⟩:=ai.1 c;exact(k.h.ge p (b5 _ a)).2
 .have:=k.h.use u (by grind) λj c=>by grind
  have e:((hs1++hs).filter λp=>δ (p.1∉l))=hs:=by
   rw[List.filter_append];have o:(hs1.filter λp=>δ (p.1∉l))=[]:=List.filter_eq_nil_iff.2 λp a=>by grind
   grind[decide,List.filter_eq_self]
  grind
variable {n0:Int} {t:Ab} {Fs:Nat->B.Fn}
theorem Yq(I:∀i(h:i<σ t.qZ),Lp L n0 t.qZ[i] (Fs i)){Q:List Int×Unit->UU}(w:WK H wb b M0 M L lv)(S:M.nx+(1000000000*Jh t.qZ:Nat)<576460752303420000)(U:σ M.hs+1025*Jh t.qZ<=59900)(P:M.S.n=n0)(g:∀M' lv' H' ps,Wk H H' wb b M0 M M' L lv lv' ps->ps.map (·.2)=(a7 (σ t.qZ)).map Fs->M'.nx<=M.nx+(1000000000*Jh t.qZ:Nat)->Q (ps.map (·.1),()) () H'):qK 93 BE (t,φ wb,()) H Q X:=by
 refine wF Tryz.f93 {lp:=[(3,⟨[(3,.one (.own I6)),(9,.nat)],[1,7,8],ν⟩)]} (?_:letI E:=σ t.qZ;E<=2^63-1->∃(V:Nat->List Int×Nat×UT->HP),(∃(n:Nat),V n ([],0,()) H)/\∀n x H,V n x H->(x.2.1<E->x.2.1<=2^63-1->∃(h:x.2.1<E),qK 42 D6 ((φ wb),{Op:=t.qZ[x.2.1].Op,N:=t.qZ[x.2.1].N,qJ:=t.qZ[x.2.1].qJ,qZ:=t.qZ[x.2.1].qZ:Ab},()) H (λ(b:qV)_ G=>(σ x.1+σ [b.1])*8<=2^47/\x.2.1+1<=2^63-1/\∃m,m<n/\V m (x.1++[b.1],x.2.1+1,()) G) X)/\(¬x.2.1<E->Q (x.1,()) () H));have D:=SX t.qZ;refine λ_=>⟨λn z d=>n=σ t.qZ-z.2.1/\z.2.1<=σ t.qZ/\∃q a ps,Wk H d wb b M0 M q L lv a ps/\z.1=ps.map (·.1)/\ps.map (·.2)=(a7 z.2.1).map Fs/\q.nx<=M.nx+1000000000*Jh (t.qZ.take z.2.1),⟨_,rfl,a6 _,M,lv,[],.of w,rfl,rfl,by omega⟩,?_⟩
 rintro n ⟨x,i,_⟩ d ⟨f,u,q,a,ps,m,p,k,o⟩;have F:n=σ t.qZ-i:=f;have Y:=u;have A:=p;have v:=k;have E:q.nx<=M.nx+(1000000000*Jh (t.qZ.take i):Nat):=o;have R:σ ps=i:=by have:=congrArg aw v;grind
 have J:=m.ln;have Z:=w.ln;refine⟨λs _=>?_,λj=>?_⟩
 .have c:i<σ t.qZ:=s;have V:=Uy c;have s2:=Aif (l:=t.qZ) (i+1);have T:i<=Jh (t.qZ.take i):=by grind[SX,be]
  refine⟨c,?_⟩;show qK 42 _ _ d _ X;rw[SS];refine I i c m.w (by omega) (by omega) (by rw[<-P];exact m.w.bs.n.trans w.bs.n.symm) λC y W r G K=>⟨?_,by grind,σ t.qZ-(i+1),by omega,rfl,by grind,C,y,ps++[(r,Fs i)],?_,?_,?_,?_⟩
  .grind
  .exact(m.trans G).perm (bh)
  .grind
  .show (ps++[(r,Fs i)]).map _=(a7 _).map Fs;rw[am,v,b7,am];rfl
  .show C.nx<=M.nx+1000000000*Jh (t.qZ.take (i+1));omega
 grind
theorem Jn{F:B.Fn}{L2:FT Y0 [.ptr,.sl I6] [.int .i64,.int .i64]}(s:∀i(h:i<σ t.qZ),Lp L n0 t.qZ[i] (Fs i))(m:σ t.qZ<=64)(f:∀{b:Nat}{M:Mn}{H:HY}{ps:List (Int×B.Fn)},MG H b M->M.nx<576460752303423487->σ M.hs<=60000->(∀p∈ps,M.Ar p.1=φ p.2)->ps.map (·.2)=(a7 (σ t.qZ)).map Fs->DoS b M H (ps.map (·.1)) F L2){Q:Int×Unit->UU}(w:WK H wb b M0 M L lv)(I:M.nx+(1000000000*Er t:Nat)<576460752303420000)(J:σ M.hs+1025*Er t<=59900)(v:M.S.n=n0)(c:∀M' lv' a r,Wk H a wb b M0 M M' L lv lv' [(r,F)]->M'.nx<=M.nx+(1000000000*Er t:Nat)->Q (r,()) () a):qK 93 BE (t,φ wb,()) H (λ(b:List Int×Unit)(_:Unit)(a:HY)=>qK 56 A6 (φ wb,L2,b.1,()) a (λ(b:Int×Unit)(_:Unit)(a:HY)=>Q (b.1,()) () a) X) X:=by
 have E:=Ng t;have G:=SX t.qZ;refine Yq s w (by omega) (by omega) v λn d y ps l k z=>?_;have q:σ ps=σ t.qZ:=by have:=congrArg aw k;grind
 have A:=l.ln;have K:=w.ln;have j:Wk H y wb b M0 M n L lv d (ps++[]):=by grind
 refine j.A5v (by omega) rfl (by grind) (λg C=>f g (by omega) (by omega) C k) λo e D u x=>?_;grind
theorem Adz{ps:List (Int×B.Fn)}(h:∀p∈ps,M.Ar p.1=φ p.2):(ps.map (·.1)).map M.Ar=(ps.map (·.2)).map φ:=by (simp_all;omega)
theorem Akv(d:t.Op=2):Lp L n0 t (λ_=>δ (t.N=1)):=by intro j b h M n H X Q w l i m a;have p:=Q7 t;apply Bv;unfold Bp;refine⟨λ_=>(Wk.of w).const (by omega) λf c g k o=>a f c g _ k (by omega),λe=>qG d e⟩
theorem Ans(g:JJ L)(c:2*Fy L<=n0)(x:t.Op=3∨t.Op=4)(hi:AY L.Aa t.qJ<σ L.Aa)(m:L.Aa[AY L.Aa t.qJ].Bool=ν):Lp L n0 t (E7 (JU (Cu L (AY L.Aa t.qJ) (δ (t.Op=4))) (GM L (AY L.Aa t.qJ) 1))):=by
 intro e b y M q H X Q w v s i a;have n:=Q7 t;have j:Bl .i64 (GM L (AY L.Aa t.qJ) 1):=by grind[GM,AY,Aq]
 have h:Wp _ _ D5 _ H (λb _ d=>Wp _ _ Bb (φ e,b.1,1,decide _,()) d _ X) X:=
  TS g.toLK rfl hi ((Wk.of w).Age (by omega) (by omega) g.toLK hi (by omega) j λl f d k r=>a l f d _ k (by omega))
 apply Bv;unfold Bp;refine⟨λu=>by omega,λ_=>⟨λ_=>⟨e,rfl,_,w.ob,rfl,h⟩,λp=>⟨λ_=>⟨e,rfl,_,w.ob,rfl,h⟩,λo=>by omega⟩⟩⟩
theorem Aid(E:∀i(h:i<σ t.qZ),Lp L n0 t.qZ[i] (Fs i))(k:σ t.qZ<=64):(t.Op=5->σ t.qZ=1->Lp L n0 t (λa=>!Fs 0 a))/\(t.Op=6->Lp L n0 t (((a7 (σ t.qZ)).map Fs).foldl CJ (λ_=>ν)))/\(t.Op=7->Lp L n0 t (((a7 (σ t.qZ)).map Fs).foldl PA (λ_=>τ)))/\(t.Op=18->σ t.qZ=3->Lp L n0 t (Db (Fs 0) (Fs 1) (Fs 2))):=by
 refine⟨λy N=>?_,λy=>?_,λy=>?_,λy J=>?_⟩
 .intro I b O M P H X Q w z C r c;apply Bv;unfold Bp;refine⟨λh=>by omega,λ_=>⟨λh=>by omega,λ_=>⟨λh=>by omega,λ_=>⟨λ_=>?_,λh=>qG y h⟩⟩⟩⟩;refine Jn E k (λ{b M H n}g d m o j=>?_) w z C r c;intro Q X x;apply Qs;unfold Lc;rw[N]at j;match n,show σ n=1 by have:=congrArg aw j;simpa using this with
  | [p],_=>
   have e:=by have:=congrArg (λl=>l[0]?) j;exact ad this
   refine⟨λ_=>by decide,by show 0<1;decide,?_⟩
   refine Vs g d  (by rw[<-e];exact o p (by simp)) λv D u A f=>x v D u A f
 .intro I b O M P H X Q w z C r c;apply Bv;unfold Bp;refine⟨λh=>by omega,λ_=>⟨λh=>by omega,λ_=>⟨λh=>by omega,λ_=>⟨λh=>by omega,λ_=>⟨λ_=>?_,λh=>qG y h⟩⟩⟩⟩⟩;refine Jn E k (λ{b M H n}g d m o j=>?_) w z C r c;intro Q X x;exact Si g d m (by have:=congrArg aw j;simp at this;show σ (n.map _)<=1000;rw[ae];omega) (by rw[Adz o,j]) λv D u A f=>x v D u A f
 .intro I b O M P H X Q w z C r c;apply Bv;unfold Bp;refine⟨λh=>by omega,λ_=>⟨λh=>by omega,λ_=>⟨λh=>by omega,λ_=>⟨λh=>by omega,λ_=>⟨λh=>by omega,λ_=>⟨λ_=>?_,λh=>qG y h⟩⟩⟩⟩⟩⟩;refine Jn E k (λ{b M H n}g d m o j=>?_) w z C r c;intro Q X x;exact Zp g d m (by have:=congrArg aw j;simp at this;show σ (n.map _)<=1000;rw[ae];omega) (by rw[Adz o,j]) λv D u A f=>x v D u A f
 .intro I b O M P H X Q w z C r c;apply Bv;unfold Bp;refine⟨λh=>by omega,λ_=>⟨λh=>by omega,λ_=>⟨λh=>by omega,λ_=>⟨λh=>by omega,λ_=>⟨λh=>by omega,λ_=>⟨λh=>by omega,λ_=>⟨λh=>by omega,λ_=>⟨λh=>by omega,λ_=>⟨λ_=>?_,λh=>qG y h⟩⟩⟩⟩⟩⟩⟩⟩⟩;refine Jn E k (λ{b M H n}g d m o j=>?_) w z C r c;intro Q X x;apply Qr;unfold Lb;rw[J]at j;match n,show σ n=3 by have:=congrArg aw j;simpa using this with
  | [p,q,s],_=>
   have R:=by have:=congrArg (λl=>l[0]?) j;exact ad this
   have T:=by have:=congrArg (λl=>l[1]?) j;exact ad this
   have S:=by have:=congrArg (λl=>l[2]?) j;exact ad this
   refine⟨λ_=>by decide,by show 0<3;decide,λ_=>by decide,by show 1<3;decide,λ_=>by decide,by show 2<3;decide,?_⟩
   refine Ad5 g d m    (by rw[<-R];exact o p (by simp)) (by rw[<-T];exact o q (by simp)) (by rw[<-S];exact o s (by simp)) λv D u A f=>x v D u A f
end
section
variable {M:Mn}
theorem DD.symm{M':Mn}(h:DD M M'):DD M' M:=⟨h.sb.symm,h.mb.symm,h.bl.symm,h.bp.symm,h.tb.symm⟩
variable {wb b:Nat} {M0:Mn} {L:Ae}
theorem Wk.Axr{Hb H:HY}{Mb:Mn}{lvb lv:List (Int×Bool)}{hs:List (Int×B.Fn)}{a c:Int}{Fa Fc F:B.Fn}{L2:FT Y0 [.ptr,.sl I6] [.int .i64,.int .i64]}{X:PX}{Q:Int×Unit->UU}(k:Wk Hb H wb b M0 Mb M L lvb lv ((a,Fa)::(c,Fc)::hs))(n:M.nx<576460752303423486)(d:MG H b M->M.Ar a=φ Fa->M.Ar c=φ Fc->DoS b M H [a,c] F L2)(h:∀M' lv' H',Wk Hb H' wb b M0 Mb M' L lvb lv' ((M.nx,F)::hs)->M'.nx=M.nx+1->Sz wb b M0 H H'->Q (M.nx,()) () H'):qK 56 A6 (φ wb,L2,[a,c],()) H Q X:=by have m:=k.h.ge (a,Fa) (by simp);have i:=k.h.ge (c,Fc) (by simp);refine Ph k.w (by omega) (by simp) (λj l=>?_) (d k.w.mg (k.h.Ar (a,Fa) (by simp)) (k.h.Ar (c,Fc) (by simp))) λM' lv' H' g _ u f=>h _ _ _ (k.step g (k.h.two u) f) u.nx (f.same k.w.bs);grind
def XV(hF:Int->Int->Bool)(Va Vc:B.As->Option Int)(ds:List (Int×Int)):B.Fn:=λa=>ds.any λp=>hF p.1 p.2&&(gV Va p.1 a&&gV Vc p.2 a)
def TZ(hF:Int->Int->Bool)(Va Vc:B.As->Option Int):B.Fn:=λa=>match Va a,Vc a with
 |some x,φ y=>hF x y
 |_,_=>τ
variable {hF:Int->Int->Bool} {Va Vc:B.As->Option Int} {ds:List (Int×Int)}
theorem Aq9{a:B.As}:XV hF Va Vc ds a=ν↔∃x y,(x,y)∈ds/\hF x y=ν/\Va a=φ x/\Vc a=φ y:=by simp[XV,Hk]
theorem Aq8{a:B.As}:TZ hF Va Vc a=ν↔∃x y,Va a=φ x/\Vc a=φ y/\hF x y=ν:=by grind[TZ]
theorem Ara(h:∀x y a,gV Va x a=ν->gV Vc y a=ν->(x,y)∈ds):XV hF Va Vc ds=TZ hF Va Vc:=by funext a;rw[b8,Aq9,Aq8];exact⟨λ⟨x,y,_,d,b,c⟩=>⟨x,y,b,c,d⟩,λ⟨x,y,b,c,d⟩=>⟨x,y,h x y a (Hk.2 b) (Hk.2 c),d,b,c⟩⟩
theorem Amg{x y:Int}(h:hF x y=ν):PA (XV hF Va Vc ds) (CJ (gV Va x) (gV Vc y))=XV hF Va Vc (ds++[(x,y)]):=by grind[XV,PA,CJ]
theorem ZL{x y:Int}(h:hF x y=τ∨∀a,CJ (gV Va x) (gV Vc y) a=τ):XV hF Va Vc (ds++[(x,y)])=XV hF Va Vc ds:=by
 funext a;rcases h with h|h
 all_goals simp_all[XV,CJ]
theorem Avg{Hb:HY}{cb:Nat}{Mb:Mn}{lvb:List (Int×Bool)}{KH:HP}{holds:Int×Int×Unit->HY->(Bool×Unit->HP)->PX->Prop}(t:cb≠wb)(w:G5 b M0 cb)(T:Hb cb=ψ)(W:∀x y H(R:Bool×Unit->HP)X,KH H->R (hF x y,()) H->holds (x,y,()) H R X)(m:∀H f,KH H->Sz wb b M0 H f->KH f)(E:∀H v,KH H->KH (Ac H cb (.st Cc (v:Int)))):DoU Hb wb b M0 Mb L lvb (gV Va) (gV Vc) (λds H hs=>KH H/\∃r:Int,H cb=φ (.st Cc r)/\hs=[(r,XV hF Va Vc ds)]) cb 1 1 (λ(a:Int×Int×Int×Unit)(H:HY)(Q:Unit->HP)(X:Nat->Lf Y0.D->HP)=>qK 171 Ee (a.1,a.2.1,a.2.2.1,holds,φ wb,φ cb,()) H (λ(_ _:Unit)(f:HY)=>Q () f) X):=by
 refine⟨λds H hs⟨_,r,_,e⟩=>by grind,λds H f hs⟨j,r,d,s⟩J=>⟨m _ _ j J,r,by rw[J _ (by grind) t w];exact d,s⟩,λds H hs x y⟨j,r,d,s⟩P=>⟨j,r,d,by rw[s,ZL (.inr P)]⟩,λds H hs M O x y h p N X⟨j,r,d,s⟩he k Y Z i=>?_⟩;subst s;apply O3;unfold JF;refine W x y H _ _ j ⟨λA=>?_,λq=>?_⟩
 .have A:=A;refine⟨cb,rfl,r,d,rfl,?_⟩;have D:=k.perm (.swap _ _ _);refine D.Axr (by omega) (λg S U=>Ajz g (by omega) (by omega) S U) λF n f u G o=>?_;rw[Amg A]at u;have V:f cb=φ (.st Cc r):=by rw[o _ (by grind) t w];exact d
  refine⟨r,V,i F n _ _ (u.Ac3 t w T) ⟨E _ _ (m _ _ j o),M.nx,Ah _ _ _,rfl⟩ (by omega) λc C K z I=>?_⟩;rw[Ad _ _ K];exact o c C z I
 .have q:hF x y=τ:=by grind
  have D:Wk _ H _ b _ _ M L _ O ([(h,CJ _ _)]++([(r,XV _ _ _ _)]++p)):=k;refine D.drop  (by omega) (by simp) (List.Perm.refl _) λF n f u G o=>?_;exact i F n f _ u ⟨m _ _ j o,r,by rw[o _ (by grind) t w];exact d,by rw[ZL (.inl q)]⟩ (by omega) λc C K z I=>o c C z I
abbrev Rk(L:Ae)(n0:Int)(t:Ab)(V:B.As->Option Int):Prop:=VV L n0 t (gV V) (256*Er t) (1000000000*Er t) (1025*Er t)
theorem Sw{n0:Int}{ta tb:Ab}{KH:HP}{holds:Int×Int×Unit->HY->(Bool×Unit->HP)->PX->Prop}(na:Rk L n0 ta Va)(nc:Rk L n0 tb Vc)(sa:Er ta<=40)(Y:Er tb<=40)(I:∀x y H(R:Bool×Unit->HP)X,KH H->R (hF x y,()) H->holds (x,y,()) H R X){lv:List (Int×Bool)}{H:HY}{X:PX}{Q:Int×Unit->UU}(i:∀H H',KH H->Sz wb b M0 H H'->KH H')(j:∀H cb v,H cb=ψ->KH H->∀H',KH H'->KH (Ac H' cb (.st Cc (v:Int))))(o:KH H)(w:WK H wb b M0 M L lv)(V:M.nx+(1000000000*(1+Er ta+Er tb):Nat)<576460752303420000)(hl:σ M.hs+1025*(1+Er ta+Er tb)<=59900)(T:M.S.n=n0)(h:∀M' lv' H' r,Wk H H' wb b M0 M M' L lv lv' [(r,TZ hF Va Vc)]->M'.nx<=M.nx+(1000000000*(1+Er ta+Er tb):Nat)->Q (r,()) () H'):qK 102 DG (φ wb,ta,tb,holds,()) H Q X:=by
 refine wF Tryz.f102 {pr:=[(9,8)],im:=[4,5,6,7]} (?_:Lg (φ wb) ta tb holds H Q X);unfold Lg;have wl:=w.ln;refine(Wk.of w).const (by omega) λN s z c P cb a=>?_;have f:=c.ln;have m:cb≠wb:=λe=>by rw[e,c.w.ob]at a;cases a
 have A:=(c.w.mg.h.notM a).same c.w.bs.symm;have n:=aa λg=>by have:=c.f cb g m A;grind
 have q:KH z:=i _ _ o c.f;have S:Wk H (Ac z cb (.st Cc M.nx)) wb b M0 M N L lv s ([(M.nx,λ_=>τ)]++[]):=by have:=c.fresh (y:=.st Cc M.nx) a;grind
 have D:=Avg      (Mb:=M) (L:=L) (lvb:=lv)  (Va:=Va) (Vc:=Vc)   m A n I i (λH' v l=>j H cb v n o H' l);have C:=by
  have J:256*Er ta<=10240:=by omega
  have K:256*Er tb*(1+1)<=20480:=by omega
  have:=bz J K;omega
 refine Rn   (k:=S) (u:=⟨j H cb M.nx n o z q,M.nx,Ah _ _ _,by rfl⟩) (d:=D) (na:=na) (nc:=nc)   ((c.w.bs.n.trans w.bs.n.symm).trans T) (by grind[Ah]) m A (by omega) (by omega) rfl rfl (by omega) (by grind) (by grind) (by grind) λM' lv' H' F U E⟨_,r,O,G⟩p t=>?_;rw[bw,G,Ara p]at E;grind
end
section
def Do2(do2:Option Nat×Int×Int×Unit->HY->(Int×Int×Unit->HP)->PX->Prop)(T:B.Fn->B.Fn->B.Fn):Prop:=∀{b:Nat}{M:Mn}{H:HY}{p q:Int}{F G:B.Fn}(Q:Int×Int×Unit->HP)(X:PX),MG H b M->M.nx<576460752303423487->σ M.hs<=60000->M.Ar p=φ F->M.Ar q=φ G->(∀M' H',MG H' b M'->New M M' (T F G)->JG b M H H'->Q (M.nx,0,()) H')->do2 (φ b,p,q,()) H Q X
variable {L:Ae} {n0:Int} {t:Ab}
theorem NY{Fs:Nat->B.Fn}{T:B.Fn->B.Fn->B.Fn}{do2:Option Nat×Int×Int×Unit->HY->(Int×Int×Unit->HP)->PX->Prop}(v:Do2 do2 T)(y:∀i(h:i<σ t.qZ),Lp L n0 t.qZ[i] (Fs i))(k:σ t.qZ=2){wb b:Nat}{M0 M:Mn}{lv:List (Int×Bool)}{H:HY}{X:PX}{Q:Int×Unit->UU}(w:WK H wb b M0 M L lv)(u:M.nx+(1000000000*Er t:Nat)<576460752303420000)(z:σ M.hs+1025*Er t<=59900)(C:M.S.n=n0)(d:∀M' lv' c r,Wk H c wb b M0 M M' L lv lv' [(r,T (Fs 0) (Fs 1))]->M'.nx<=M.nx+(1000000000*Er t:Nat)->Q (r,()) () c):qK 94 Cm (do2,φ wb,λ(_:Unit)(H:HY)(Q:List Int×Unit->HP)(X:Nat->Lf Y0.D->HP)=>qK 93 BE (t,φ wb,()) H (λ(b:List Int×Unit)(_:Unit)(c:HY)=>Q (b.1,()) c) X,()) H (λ(b:Int×Unit)(_:Unit)(c:HY)=>Q (b.1,()) () c) X:=by
 apply Qt;unfold Ld;refine Qb ?_;refine Jn y (by omega) (λ{b M H n}g f j m e=>?_) w u z C d;intro Q X o;apply Oz;unfold JD;rw[k]at e;match n,(show σ n=2 by have:=congrArg aw e;grind) with
 | [p,q],_=>
  have s:p.2=Fs 0:=by have:=congrArg (λl:List B.Fn=>l[0]?) e;exact ad this
  have A:q.2=Fs 1:=by have:=congrArg (λl:List B.Fn=>l[1]?) e;exact ad this
  refine⟨λ_=>by decide,by simp,λ_=>by decide,by simp,?_⟩
  exact v _ _ g f j (by grind) (by grind) o
theorem Aic{Fs:Nat->B.Fn}(v:∀i(h:i<σ t.qZ),Lp L n0 t.qZ[i] (Fs i))(c:σ t.qZ=2):(t.Op=8->Lp L n0 t (Xx (Fs 0) (Fs 1)))/\(t.Op=9->Lp L n0 t (Ot (Fs 0) (Fs 1))):=by
 refine⟨λp=>?_,λp=>?_⟩
 .intro z b x M y H X Q w j n q a;apply Bv;unfold Bp;refine⟨λh=>by omega,λ_=>⟨λh=>by omega,λ_=>⟨λh=>by omega,λ_=>⟨λh=>by omega,λ_=>⟨λh=>by omega,λ_=>⟨λh=>by omega,λ_=>⟨λ_=>?_,λh=>qG p h⟩⟩⟩⟩⟩⟩⟩;exact NY (T:=Xx) (λQ X g l o k u e=>Agu g l o k u λd r m s f=>e d r m s f) v c w j n q a
 .intro z b x M y H X Q w j n q a;apply Bv;unfold Bp;refine⟨λh=>by omega,λ_=>⟨λh=>by omega,λ_=>⟨λh=>by omega,λ_=>⟨λh=>by omega,λ_=>⟨λh=>by omega,λ_=>⟨λh=>by omega,λ_=>⟨λh=>by omega,λ_=>⟨λ_=>?_,λh=>qG p h⟩⟩⟩⟩⟩⟩⟩⟩;exact NY (T:=Ot) (λQ X g l o k u e=>Sg g l o k u λd r m s f=>e d r m s f) v c w j n q a
theorem Ant{ta tb:Ab}{Va Vc:B.As->Option Int}(c:t.qZ=[ta,tb])(na:Rk L n0 ta Va)(nc:Rk L n0 tb Vc)(q:Er t<=40):(t.Op=12->Lp L n0 t (TZ (λx y=>δ (x<y)) Va Vc))/\(t.Op=13->Lp L n0 t (TZ (λx y=>δ (x<=y)) Va Vc)):=by
 have l:Er t=1+Er ta+Er tb:=by grind[Ng,Fj,KJ]
 have f:0<σ t.qZ:=by grind
 have k:1<σ t.qZ:=by grind
 have m:t.qZ[a8 (0:Int)]'f=ta:=by simp [c]
 have n:t.qZ[a8 (1:Int)]'k=tb:=by simp [c]
 refine⟨λe=>?_,λe=>?_⟩
 .intro r b p M o H X Q w g d i a;rw[l]at g d a;apply Bv;unfold Bp;refine⟨λh=>by omega,λ_=>⟨λh=>by omega,λ_=>⟨λh=>by omega,λ_=>⟨λh=>by omega,λ_=>⟨λh=>by omega,λ_=>⟨λh=>by omega,λ_=>⟨λh=>by omega,λ_=>⟨λh=>by omega,λ_=>⟨λh=>by omega,λ_=>⟨λ_=>⟨λ_=>by decide,f,λ_=>by decide,k,?_⟩,λh=>qG e h⟩⟩⟩⟩⟩⟩⟩⟩⟩⟩;rw[m,n];refine Sw (hF:=λx y=>δ (x<y)) (KH:=λ_=>True) na nc (by omega) (by omega) (λx y H R X _ j=>?_) (λ_ _ _ _=>trivial) (λ_ _ _ _ _ _ _=>trivial) trivial w (by omega) d i a;refine Qp _ _ _ _ _ ?_;exact j
 .intro r b p M o H X Q w g d i a;rw[l]at g d a;apply Bv;unfold Bp;refine⟨λh=>by omega,λ_=>⟨λh=>by omega,λ_=>⟨λh=>by omega,λ_=>⟨λh=>by omega,λ_=>⟨λh=>by omega,λ_=>⟨λh=>by omega,λ_=>⟨λh=>by omega,λ_=>⟨λh=>by omega,λ_=>⟨λh=>by omega,λ_=>⟨λh=>by omega,λ_=>⟨λ_=>⟨λ_=>by decide,f,λ_=>by decide,k,?_⟩,λh=>qG e h⟩⟩⟩⟩⟩⟩⟩⟩⟩⟩⟩;rw[m,n];refine Sw (hF:=λx y=>δ (x<=y)) (KH:=λ_=>True) na nc (by omega) (by omega) (λx y H R X _ j=>?_) (λ_ _ _ _=>trivial) (λ_ _ _ _ _ _ _=>trivial) trivial w (by omega) d i a;refine Qn _ _ _ _ _ ?_;exact j
theorem Ai1{ta tc:Ab}{Va Vc:B.As->Option Int}(u:t.Op=14∨t.Op=15∨t.Op=16∨t.Op=17)(i:t.qZ=[ta,tc])(na:Rk L n0 ta Va)(nc:Rk L n0 tc Vc)(x:Er t<=40)(h:VD 8 Va)(g:VD 8 Vc)(j:VB Va)(o:VB Vc)(l:t.Op=17->∀a y,Vc a=φ y->1<=y):Rk L n0 t (Zs (opF t.Op) Va Vc):=by
 have I:Er t=1+Er ta+Er tc:=by grind[Ng,Fj,KJ]
 have s:256*Er ta*(256*Er tc*2)<=500000000:=by
  have h:256*Er ta<=10240:=by omega
  have g:256*Er tc*2<=20480:=by omega
  have:=bz h g;omega
 have c:VV L n0 t (gV (Zs (opF t.Op) Va Vc)) 256 (1000000000*Er ta+1000000000*Er tc+256*Er ta*(256*Er tc*2)+2000) (1025*Er t):=Zw (by omega) u i na nc h g j o l (by omega) (by omega) rfl rfl;generalize 256*Er ta*(256*Er tc*2)=Z at s c;intro G b F M J H X Q w E A p d;exact c w (by omega) A p λC f D r m k n e v z q K=>d C f D r m k n e v z (by omega) (by omega)
end
section
variable {t:Ab}
theorem Wa{k:Ab}(h:k∈t.qZ):Er k+1<=Er t:=by
 have a:∀l,k∈l->Er k<=Jh l:=by
  intro l;induction l with
  |nil=>simp
  |cons s l b=>
   grind[Fj]
 grind[Ng]
theorem Um.w(h:Um t):CF t=0:=by cases h with|mk a _=>exact a
theorem Um.k(h:Um t):∀k∈t.qZ,Um k:=by cases h with|mk _ b=>exact b
theorem Aj8:∀(z:Nat)(t:Ab)(deep n:Int),SizeOf.sizeOf t<z->Um t->deep+Er t<=65->n+Er t<=4096->Im deep n t=(n+Er t,0)
 |0,_,_,_,d,_,_,_=>qG d (a9 _)
 |z+1,t,deep,n,d,f,o,r=>by
  have q:=Q7 t;have j:=Ng t;rw[Ua,GT (by omega),UV f.w,GT (by omega)];have c:∀l(m:Int),(∀k∈l,k∈t.qZ)->m+Jh l<=4096->EY (deep+1) m l=(m+Jh l,0):=by
   intro l;induction l with
   |nil=>grind[EY,KJ]
   |cons s l g=>
    intro m a i;rw[Fj]at i ⊢;have b:=a s ag;have p:=Wa b;have e:=Aj8 z s (deep+1) m (by have:=Hj b;omega) (f.k s b) (by omega) (by omega);grind[EY]
  grind
theorem Anp{vars:List Al}{next:Bool}(a:Um t)(hs:Er t<=60):DP vars next t=AA vars next t:=by unfold DP;rw[Aj8 (SizeOf.sizeOf t+1) t 1 0 (by omega) a (by omega) (by omega),UV rfl]
variable {L:Ae}
theorem SK{wb b:Nat}{M0 M:Mn}{lv:List (Int×Bool)}{H:HY}{X:PX}{Q:Bool×Unit->UU}(w:WK H wb b M0 M L lv)(e:σ L.Aa<=1000)(d:Um t)(hs:Er t<=60)(h:∀H',(∀c,H c≠ψ->H' c=H c)->Q ((AA L.Aa ν t).1.Bool,()) () H'):qK 105 Jv (φ wb,t,()) H Q X:=by
 refine wF Tryz.f105 {im:=[3]} (?_:letI E:=λ(b:Af×qV)_ G=>Q (b.1.Bool,()) () G;∃(b:Nat),(φ wb)=φ b/\(∃(x:Am),H b=φ (Ob.st Co x)/\dup (x=x/\qK 41 EE (x.l.Aa,t,ν,()) H E X))/\∃(x:Am),H b=φ (Ob.st Co x)/\x=x/\qK 41 EE (x.l.Aa,t,ν,()) H E X);have a:Wp _ _ EE (L.Aa,t,ν,()) H (λb _ H'=>Q (b.1.Bool,()) () H') X:=Ro e λH' f=>by grind[DP,Anp]
 exact⟨wb,rfl,⟨_,w.ob,Qb ⟨rfl,a⟩⟩,_,w.ob,rfl,a⟩
theorem Wk.Lu{Hb H H':HY}{wb b:Nat}{M0 Mb M:Mn}{lvb lv:List (Int×Bool)}{hs:List (Int×B.Fn)}(k:Wk Hb H wb b M0 Mb M L lvb lv hs)(f:∀c,H c≠ψ->H' c=H c):Wk Hb H' wb b M0 Mb M L lvb lv hs:=
 ⟨k.w.Lu f,k.h,λc a d g=>by have e:=k.f c a d g;grind⟩
def eqF(op:Int)(F G:B.Fn):B.Fn:=if op=10 then Ot F G else RN F G
theorem Au6:Do2 (λ(a:Option Nat×Int×Int×Unit)(H:HY)(Q:Int×Int×Unit->HP)(X:Nat->Lf Y0.D->HP)=>qK 107 NB (a.1,a.2.1,a.2.2.1,()) H (λ(b:Int×Int×Unit)(_:Unit)(c:HY)=>Q (b.1,b.2.1,()) c) X) RN:=by
 intro b M H p q F G Q X g m j l n k;refine Qj _ _ _ _ _ _ ?_;refine Agt g m j (by simp) (Gs:=[F,G]) (by grind) λh c i d f=>k h c i ?_ f;have e:[F,G].foldl RN (λ_=>τ)=RN F G:=by funext x;simp [RN]
 grind
theorem Axu{n0:Int}{ta tb:Ab}(m:t.qZ=[ta,tb])(hv:σ L.Aa<=1000)(u:Um ta)(hsz:Er t<=40)(ho:t.Op=10∨t.Op=11):(∀Va Vc,Rk L n0 ta Va->Rk L n0 tb Vc->(AA L.Aa ν ta).1.Bool=τ->Lp L n0 t (TZ (λx y=>δ (x=y)==δ (δ (t.Op=10)=ν)) Va Vc))/\(∀Fa Fc,Lp L n0 ta Fa->Lp L n0 tb Fc->(AA L.Aa ν ta).1.Bool=ν->Lp L n0 t (eqF t.Op Fa Fc)):=by
 have sz:Er t=1+Er ta+Er tb:=by rw[Ng,m,Fj,Fj,KJ];omega
 have G:0<σ t.qZ:=by rw[m];show 0<2;decide
 have l1:1<σ t.qZ:=by rw[m];show 1<2;decide
 have P:t.qZ[a8 (0:Int)]'G=ta:=by simp [m]
 have k1:t.qZ[a8 (1:Int)]'l1=tb:=by simp [m]
 have A:σ t.qZ=2:=by rw[m];rfl
 refine⟨λVa Vc na nc Y=>?_,λFa Fc fa fc Y=>?_⟩
 .intro I b K M E H X Q w J C N a;rw[sz]at J C a;apply Bv;unfold Bp;refine⟨λh=>by omega,λ_=>⟨λh=>by omega,λ_=>⟨λh=>by omega,λ_=>⟨λh=>by omega,λ_=>⟨λh=>by omega,λ_=>⟨λh=>by omega,λ_=>⟨λh=>by omega,λ_=>⟨λh=>by omega,λ_=>⟨λh=>by omega,λ_=>⟨λh=>by omega,λ_=>⟨λh=>by omega,λ_ c d=>⟨λ_=>by decide,G,?_⟩⟩⟩⟩⟩⟩⟩⟩⟩⟩⟩⟩;rw[P];have F:Wk H (Ac H c (.st Jx (δ (t.Op=10)))) I b K M M L E E []:=(Wk.of w).fresh d;have d1:c≠I:=λe=>by rw[e,w.ob]at d;cases d
  have n1:G5 b K c:=(w.mg.h.notM d).same w.bs.symm;refine SK F.w hv u (by omega) λZ z=>⟨λ_=>⟨λ_=>by decide,G,λ_=>by decide,l1,?_⟩,λO=>qG (by show ¬(AA L.Aa ν ta).1.Bool=ν;rw[Y];decide) O⟩
  rw[P,k1];have p:=F.Lu z;have o:Z c=φ (.st Jx (δ (t.Op=10))):=by rw[z c (by grind[Ah]),Ah]
  refine Sw (hF:=λx y=>δ (x=y) == δ (δ (t.Op=10)=ν)) (KH:=λH=>H c=φ _) na nc (by omega) (by omega) (λx y H R X n hR=>?_) (λH l n fr=>by rw[fr c (by rw[n];simp) d1 n1];exact n) (λH cb v S n l U=>?_) o p.w (by omega) C N λs j l r k D=>a s j l r ?_ D
  .refine Ql _ _ _ _ _ _ ?_;exact⟨c,rfl,_,n,rfl,hR⟩
  .have V:c≠cb:=λe=>by rw[e,S]at n;cases n
   show Ac l cb _ c=_;rw[Ad _ _ V];exact U
  .have:=p.trans k;grind
 .intro I b K M E H X Q w J C N a;apply Bv;unfold Bp;refine⟨λh=>by omega,λ_=>⟨λh=>by omega,λ_=>⟨λh=>by omega,λ_=>⟨λh=>by omega,λ_=>⟨λh=>by omega,λ_=>⟨λh=>by omega,λ_=>⟨λh=>by omega,λ_=>⟨λh=>by omega,λ_=>⟨λh=>by omega,λ_=>⟨λh=>by omega,λ_=>⟨λh=>by omega,λ_ c d=>⟨λ_=>by decide,G,?_⟩⟩⟩⟩⟩⟩⟩⟩⟩⟩⟩⟩;rw[P];have F:Wk H (Ac H c (.st Jx (δ (t.Op=10)))) I b K M M L E E []:=(Wk.of w).fresh d;refine SK F.w hv u (by omega) λZ z=>⟨λO=>qG Y O,λ_=>?_⟩
  have p:=F.Lu z;have o:Z c=φ (.st Jx (δ (t.Op=10))):=by rw[z c (by grind[Ah]),Ah]
  have B:∀i h,Lp L n0 t.qZ[i] (if i=0 then Fa else Fc):=λi h=>by grind
  refine⟨_,o,λq=>⟨rfl,?_⟩,λq=>⟨rfl,?_⟩⟩
  .have q:t.Op=10:=of_decide_eq_true q;have W:eqF t.Op Fa Fc=Ot Fa Fc:=UV q;rw[W]at a;refine NY (T:=Ot)  (λQ X g h1 h2 hF hG hq=>Sg g h1 h2 hF hG λs l g' nw f=>hq s l g' nw f) B A p.w J C N λs j l r k D=>a s j l r ?_ D;have:=p.trans k;grind
  .have q:¬t.Op=10:=λe=>q (decide_eq_true e);have W:eqF t.Op Fa Fc=RN Fa Fc:=GT q;rw[W]at a;refine NY (T:=RN) (Fs:=λi=>if i=0 then Fa else Fc) Au6 B A p.w J C N λs j l r k D=>a s j l r ?_ D;have:=p.trans k;grind
end
def ifV(F:B.Fn)(Va Vc:B.As->Option Int):B.As->Option Int:=λa=>if F a=ν then Va a else Vc a
def ifG(F:B.Fn)(Va Vc:B.As->Option Int):Nat->Int->B.Fn
 |0=>λ_ _=>τ
 |1=>λn=>PA (λ_=>τ) (CJ (gV Va n) F)
 |_=>λn=>PA (PA (λ_=>τ) (CJ (gV Va n) F)) (CJ (gV Vc n) λa=>!F a)
theorem Aup{F:B.Fn}{Va Vc:B.As->Option Int}:ifG F Va Vc 2=gV (ifV F Va Vc):=by funext n a;show (τ ||gV _ n a&&F a ||gV _ n a&&!F a)=_;unfold ifV gV;cases h:F a<;>simp [h]
def VU(A G:Int->B.Fn)(ks:List Int):Int->B.Fn:=ks.foldl (λG n=>Re G n (A n)) G
theorem ZP{A G:Int->B.Fn}{ks:List Int}{n:Int}:VU A G (ks++[n])=Re (VU A G ks) n (A n):=by grind[VU]
theorem Art{A:Int->B.Fn}:∀{ks:List Int}{G:Int->B.Fn},ks.Nodup->(∀n,n∉ks->A n=λ_=>τ)->VU A G ks=λn=>PA (G n) (A n):=by
 have c:∀{ks:List _}{G:Int->B.Fn},ks.Nodup->∀n,VU A G ks n=if n∈ks then PA (G n) (A n) else G n:=by
  intro ks;induction ks with
  |nil=>intro G _ n;rfl
  |cons k ks d=>
   intro G b n;have b:=List.nodup_cons.1 b;show VU A _ ks n=_;grind[Re]
 intro ks G b h;funext n;rw[c b n];by_cases e:n∈ks
 .rw[UV e]
 .rw[GT e,h n e];grind[PA]
theorem Ay7{L:Ae}{n0:Int}{t ta tb tc:Ab}{F:B.Fn}{Va Vc:B.As->Option Int}(ho:t.Op=18)(hk:t.qZ=[ta,tb,tc])(fa:Lp L n0 ta F)(nb:Rk L n0 tb Va)(nc:Rk L n0 tc Vc)(hsz:Er t<=40):Rk L n0 t (ifV F Va Vc):=by
 have sz:Er t=1+(Er ta+(Er tb+Er tc)):=by grind[Ng,Fj,KJ]
 intro W b J M lv H X Q w hn hl hS post;apply EP;unfold DL;intro r hr c hc;obtain⟨k0,e1,e2,d1,d2,d3,m1,m2,hcn⟩:=QM (z:=.st Aj (φ r)) w hr hc;generalize Ac (Ac H r (.mp I6 I6 [])) c (.st Aj (φ r))=H2 at k0 e1 e2;have wln:=w.ln;have l0:0<σ t.qZ:=by grind
 have k0l:t.qZ[a8 (0:Int)]'l0=ta:=by grind
 refine⟨λh=>by omega,λ_=>⟨λh=>by omega,λ_=>⟨λh=>by omega,λ_=>⟨λ_=>⟨λ_=>by decide,l0,?_⟩,λh=>qG ho h⟩⟩⟩⟩;rw[k0l];refine fa k0.w (by omega) (by omega) hS λM1 lv1 H1 p s nx1=>?_;have f1:=s.f;have s:=k0.trans s;rw[bw]at s;have k1l:=s.ln;have k1l:σ M1.hs=σ J.hs+σ lv+1:=k1l;refine⟨W,rfl,_,s.w.ob,rfl,?_⟩;refine Vs s.w.mg (by omega) (F:=F) (s.h.Ar (p,F) (by simp)) λM2 H2' g2 nw2 f2=>KG s.w g2 nw2 f2 λlv2 H3 w3 _ u3 f3=>?_;have k3:=(s.step w3 (s.h.push u3) f3).perm (hs':=JH [] (ifG F Va Vc 0)++[(p,F),(M1.nx,λa=>!F a)]) (.swap _ _ _);have nx3:=nw2.nx;have f3:=f1.trans (f3.same s.w.bs);have r3:H3 r=φ (.mp I6 I6 []):=by rw[f3 r (by grind) d1 m1];exact e1
 have c3:H3 c=φ (.st Aj (φ r)):=by rw[f3 c (by grind) d2 m2];exact e2
 obtain⟨q,hq⟩:∃q,q=M1.nx:=⟨_,rfl⟩
 rw[<-hq]at k3 nx3 nx1;rw[<-hq];obtain⟨g,T⟩:∃g:Nat->B.As->Option Int,g=λi=>if i=0 then Va else Vc:=⟨_,rfl⟩
 obtain⟨v,I⟩:∃v:Nat->B.Fn,v=λi=>if i=0 then F else λa=>!F a:=⟨_,rfl⟩
 obtain⟨f,K⟩:∃f:Nat->Nat,f=λi=>if i=0 then 0 else if i=1 then Er tb else Er tb+Er tc:=⟨_,rfl⟩
 have sI0:f 0=0:=by grind
 have sI2:f 2=Er tb+Er tc:=by grind
 have kid:∀i:Nat,i<2->∃h:((1:Int)+(i:Int)).toNat<σ t.qZ,Rk L n0 (t.qZ[((1:Int)+(i:Int)).toNat]'h) (g i)/\f i+Er (t.qZ[((1:Int)+(i:Int)).toNat]'h)=f (i+1)/\f (i+1)<=f 2:=by grind
 have so:∀i(h:i<σ [p,q]),([p,q][i],v i)∈[(p,F),(q,λa=>!F a)]:=by
  intro i hi;have hi:i<2:=hi;rcases(show i=0∨i=1 by omega) with rfl|rfl
  all_goals grind
 have gI:∀i:Nat,i<2->∀ks:List Int,ks.Nodup->(∀n,n∉ks->gV (g i) n=λ_=>τ)->VU (λn=>CJ (gV (g i) n) (v i)) (ifG F Va Vc i) ks=ifG F Va Vc (i+1):=by
  intro i hi ks hd hz;rw[Art hd λn hn=>by rw[hz n hn];funext a;rfl];rcases(show i=0∨i=1 by omega) with rfl|rfl
  .rw[T,I];rfl
  .rw[T,I];rfl
 refine⟨λn z H'=>n=2-z.1/\z.1<=2/\∃M' lv' m,Wk H H' W b J M M' L lv lv' (JH m (ifG F Va Vc z.1)++[(p,F),(q,λa=>!F a)])/\H' r=φ (.mp I6 I6 m)/\H' c=φ (.st Aj (φ r))/\Pc m/\(∀n,Ag m n=ψ->ifG F Va Vc z.1 n=λ_=>τ)/\σ m<=256*f z.1/\M'.nx<=M.nx+(1000000000*Er ta:Nat)+1+(1000000600*f z.1:Nat),⟨_,rfl,a6 _,M2,lv2,[],k3,r3,c3,by simp [Pc],λn _=>rfl,a6 _,by show M2.nx<=M.nx+(1000000000*Er ta:Nat)+1+(1000000600*f 0:Nat);omega⟩,?_⟩;rintro n ⟨i,u⟩ H4 ⟨hn0,hi0,M4,lv4,m,P,r4,c4,nd4,z4,N,nx4⟩;have hn1:n=2-i:=hn0;have hi:i<=2:=hi0;have P:Wk H H4 W b J M M4 L lv lv4 (JH m (ifG F Va Vc i)++[(p,F),(q,λa=>!F a)]):=P;have z4:∀n,Ag m n=ψ->ifG F Va Vc i n=λ_=>τ:=z4;have N:σ m<=256*f i:=N;have nx4:M4.nx<=M.nx+(1000000000*Er ta:Nat)+1+(1000000600*f i:Nat):=nx4;have Y:∀(m:List (Int×Int))G,σ (JH m G)=σ m:=λm G=>ae _;refine⟨λhlt0 _=>?_,λhge0=>?_⟩
 .have O:i<2:=hlt0;obtain⟨hkl,nk,hs1,hs2⟩:=kid i O;have k:=P.ln;rw[ah,Y]at k;have k:σ M4.hs=σ J.hs+σ lv+(σ m+2):=k;refine⟨O,λ_=>⟨Aq.2 (by show _<=1+(i:Int)/\1+(i:Int)<=_;omega),λ_=>⟨λ_=>by show 0<=1+(i:Int);omega,hkl,?_⟩⟩⟩;refine nk P.w (by omega) (by omega) (by rw[<-hS];exact P.w.bs.n.trans w.bs.n.symm) λM5 lv5 H5 S d k5 V rf1 ndf zf lenf nx5=>?_;have XI:S≠W:=λe=>by rw[e,P.w.ob]at V;cases V
  have drm:G5 b J S:=(P.w.mg.h.notM V).back P.w.bs;have drr:S≠r:=λe=>by rw[e,r4]at V;cases V
  have R:∃A:Int->Int×B.Fn,∀n,A n=((Ag d n).getD 0,gV (g i) n):=⟨_,λ_=>rfl⟩
  obtain⟨A,R⟩:=R;have hperm:((Au d).map A).Perm (JH d (gV (g i))):=by
   have e:JH d (gV (g i))=(d.map (·.1)).map A:=by unfold JH;rw[List.map_map];refine List.map_congr_left λx hx=>?_;show _=A x.1;rw[R,FV ndf hx];rfl
   rw[e];exact(Dz d).map A
  have ksl:=N9 d;have ksn:(Au d).Nodup:=(Dz d).nodup_iff.2 ndf;have r5:H5 r=φ (.mp I6 I6 m):=by rw[k5.f r (by rw[r4];simp) d1 m1];exact r4
  have c5:H5 c=φ (.st Aj (φ r)):=by rw[k5.f c (by rw[c4];simp) d2 m2];exact c4
  refine Iq (b:=S) rf1 (by omega) λc2 l2 r2 D hl2=>?_;have ne:∀{c},H5 c≠ψ->c≠l2:=λh e=>h (by rw[e];exact hl2);have k6:=((P.trans k5).perm (List.Perm.append_right _ hperm)).fresh (y:=.lp D) hl2;have r6:Ac H5 l2 (.lp D) r=φ (.mp I6 I6 m):=by rw[Ad _ _ (ne (by rw[r5];simp))];exact r5
  have c6:Ac H5 l2 (.lp D) c=φ (.st Aj (φ r)):=by rw[Ad _ _ (ne (by rw[c5];simp))];exact c5
  have f6:Ac H5 l2 (.lp D) S=φ (.mp I6 I6 d):=by rw[Ad _ _ (ne (by rw[rf1];simp))];exact rf1
  generalize Ac H5 l2 (.lp D)=H6 at k6 r6 c6 f6;refine λ_=>⟨λn1 z H'=>n1=σ d-z.2.1/\z.2.1<=σ d/\z.1=Au d/\∃M' lv' m',Wk H H' W b J M M' L lv lv' (JH m' (VU (λn=>CJ (gV (g i) n) (v i)) (ifG F Va Vc i) ((Au d).take z.2.1))++(((Au d).drop z.2.1).map A++[(p,F),(q,λa=>!F a)]))/\H' r=φ (.mp I6 I6 m')/\H' c=φ (.st Aj (φ r))/\H' S=φ (.mp I6 I6 d)/\Pc m'/\(∀n,Ag m' n=ψ->VU (λn=>CJ (gV (g i) n) (v i)) (ifG F Va Vc i) ((Au d).take z.2.1) n=λ_=>τ)/\σ m'<=256*f i+z.2.1/\M'.nx+2*(n1:Int)<=M5.nx+2*(σ d:Int),⟨_,rfl,a6 _,rfl,M5,lv5,m,k6.perm (List.perm_append_comm_assoc _ _ _),r6,c6,f6,nd4,z4,N,bv _⟩,?_⟩
  rintro n1 ⟨ks,j,u⟩ H7 ⟨hn70,hj0,hks0,M7,lv7,m7,C,r7,c7,f7,nd7,z7,len7,nx7⟩;have hn7:n1=σ d-j:=hn70;have hj:j<=σ d:=hj0;have hks:ks=Au d:=hks0;subst hks;replace C:=C;replace z7:∀n,Ag m7 n=ψ->VU (λn=>CJ (gV (g i) n) (v i)) (ifG F Va Vc i) ((Au d).take j) n=λ_=>τ:=z7;replace len7:σ m7<=256*f i+j:=len7;have k7l:=C.ln;rw[ah,ah,Y,ae,bu,ksl]at k7l;have k7l:σ M7.hs=σ J.hs+σ lv+(σ m7+(σ d-j+2)):=k7l;refine⟨λE _=>?_,λE=>?_⟩
  .have o:j<σ (Au d):=E;have hdr:=List.drop_eq_getElem_cons o;have htk:=a5 o;generalize hx:(Au d)[j]=x at hdr htk;generalize hG:VU (λn=>CJ (gV (g i) n) (v i)) (ifG F Va Vc i) ((Au d).take j)=G7 at C z7;rw[hdr,c0]at C;refine⟨o,o,W,rfl,⟨_,C.w.ob,rfl,S,rfl,d,f7,?_⟩,S,rfl,d,f7,Qb ⟨_,C.w.ob,rfl,?_⟩⟩;all_goals
    show qK 25 Ck (φ b,[(Ag d ((Au d)[j]'o)).getD (0:Int),[p,q][i]],()) H7 _ X
    rw[hx]
    have mx:=C.h.Ar (A x) (ay _ (b5 _ ag))
    rw[R x]at mx
    refine C.Ars (by omega) (by omega) mx (C.h.Ar _ (ay _ (ay _ (so i O)))) λM8 lv8 H8 k8 nx8 f8=>?_
    refine⟨S,rfl,d,by rw[f8 S (by rw[f7];simp) XI drm];exact f7,?_⟩
    refine Wk.drop (hs1:=[A x]) (hs:=(M7.nx,CJ (gV (g i) x) (v i))::(JH m7 G7++(((Au d).drop (j+1)).map A++[(p,F),(q,λa=>!F a)]))) (k8.perm ?_) (by omega) (by simp) ?_ λM9 lv9 H9 k9 nx9 f9=>?_
    .refine(List.Perm.swap _ _ _).trans (List.Perm.cons _ ?_)
     exact List.perm_middle.symm
    .rw[c0,R];exact .refl _
    have f9:=f8.trans f9
    have k9l:=k9.ln
    simp only[List.length_cons,ah,Y,ae,bu,ksl,List.length_nil]at k9l
    refine⟨φ r,by rw[f9 c (by rw[c7];simp) d2 m2];exact c7,rfl,?_⟩
    refine Vm k9 (by omega) (by omega) (by rw[f9 r (by rw[r7];simp) d1 m1];exact r7) d1 m1 hr nd7 z7 λM10 lv10 H10 Z k10 nx10 r10 nd10 U fr10=>?_
    have gt:∀c,H7 c≠ψ->c≠r->c≠W->G5 b J c->H10 c=H7 c:=λc a0 a1 a2 a3=>by have e:=f9 c a0 a2 a3;rw[fr10 c (by rw[e];exact a0) a1 a2 a3];exact e
    have l10:σ Z<=σ m7+1:=by
     have:=HS (l:=Z.map λ(p:Int×Int)=>p.1) (m:=x::m7.map λ(p:Int×Int)=>p.1) nd10 λy hy=>by
      by_cases e:y=x
      .rw[e];exact ag
      .refine b6 _ (aa λhne=>?_);exact En.1 ((U y).2 ⟨En.2 hne,e⟩) hy
     simpa using this
    refine⟨by show j+1<=_;omega,σ d-(j+1),by omega,rfl,by show j+1<=_;omega,rfl,M10,lv10,Z,?_,r10,by rw[gt c (by rw[c7];simp) (Ne.symm d3) d2 m2];exact c7,by rw[gt S (by rw[f7];simp) drr XI drm];exact f7,nd10,λy hy=>?_,by show _<=_+(j+1);omega,by omega⟩
    .show Wk H H10 W b J M M10 L lv lv10 _
     rw[htk,ZP,hG];exact k10
    .show VU (λn=>CJ (gV (g i) n) (v i)) (ifG F Va Vc i) ((Au d).take (j+1)) y=_
     have hy:=(U y).1 hy
     rw[htk,ZP,hG]
     unfold Re
     rw[GT hy.2];exact z7 y hy.1
  .have o:¬j<σ (Au d):=E;have e:j=σ d:=by omega
   subst e;rw[List.drop_of_length_le (by omega),al (by omega),gI i O _ ksn λn hn=>zf n (En.2 λhh=>hn ((Dz d).mem_iff.2 hh))]at C;rw[al (by omega),gI i O _ ksn λn hn=>zf n (En.2 λhh=>hn ((Dz d).mem_iff.2 hh))]at z7;refine⟨by show i+1<=_;omega,2-(i+1),by omega,rfl,by show i+1<=_;omega,M7,lv7,m7,C,r7,c7,nd7,z7,by show _<=256*f (i+1);omega,?_⟩;show M7.nx<=M.nx+(1000000000*Er ta:Nat)+1+(1000000600*f (i+1):Nat);omega
 .have hge:¬i<2:=hge0;have e:i=2:=by omega
  subst e;have k:=P.ln;rw[ah,Y]at k;have k:σ M4.hs=σ J.hs+σ lv+(σ m+2):=k;refine Wk.drop (hs1:=[(p,F),(q,λa=>!F a)]) (hs:=JH m (ifG F Va Vc 2)) (P.perm bh) (by omega) (by simp) (.refl _) λM5 lv5 H5 k5 nx5 f5=>?_;rw[Aup]at k5 z4;refine⟨φ r,by rw[f5 c (by rw[c4];simp) d2 m2];exact c4,rfl,post M5 lv5 H5 r m k5 hr (by rw[f5 r (by rw[r4];simp) d1 m1];exact r4) nd4 z4 (by omega) (by omega)⟩
section
abbrev SV:=B.Fn×(B.As->Option Int)
def MN(s:List SV)(i:Nat):B.Fn:=match s[i]? with
 |some v=>v.1
 |none=>λ_=>τ
def Yu(s:List SV)(i:Nat):B.As->Option Int:=match s[i]? with
 |some v=>v.2
 |none=>λ_=>ψ
def VQ(op x y:Int):Bool:=if op=12 then δ (x<y) else if op=13 then δ (x<=y) else δ (x=y)==δ (δ (op=10)=ν)
def Az1(L:Ae)(ks:List Ab):Bool:=match ks with
 |k::_=>(AA L.Aa ν k).1.Bool
 | []=>τ
def To(L:Ae)(op n:Int)(nm:ByteArray)(ks:List Ab)(s:List SV):B.Fn:=
 if op=2 then λ_=>δ (n=1) else if op=3∨op=4 then E7 (JU (Cu L (AY L.Aa nm) (δ (op=4))) (GM L (AY L.Aa nm) 1))
 else if op=5 then λa=>!MN s 0 a
 else if op=6 then ((a7 (σ ks)).map (MN s)).foldl CJ (λ_=>ν) else if op=7 then ((a7 (σ ks)).map (MN s)).foldl PA (λ_=>τ)
 else if op=8 then Xx (MN s 0) (MN s 1) else if op=9 then Ot (MN s 0) (MN s 1)
 else if op=18 then Db (MN s 0) (MN s 1) (MN s 2)
 else if (op=10∨op=11)/\Az1 L ks=ν then eqF op (MN s 0) (MN s 1) else TZ (VQ op) (Yu s 0) (Yu s 1)
def opN(L:Ae)(op n:Int)(nm:ByteArray)(s:List SV):B.As->Option Int:=
 if op=1 then λ_=>φ n else if op=3∨op=4 then CB L (δ (op=4)) (AY L.Aa nm)
 else if op=18 then ifV (MN s 0) (Yu s 1) (Yu s 2) else Zs (opF op) (Yu s 0) (Yu s 1)
mutual
def Bq(L:Ae):Ab->SV
 |⟨op,n,nm,ks⟩=>(To L op n nm ks (CG L ks),opN L op n nm (CG L ks))
def CG(L:Ae):List Ab->List SV
 | []=>[]
 |t::ts=>Bq L t::CG L ts
end
variable {L:Ae}
theorem Kx(t:Ab):Bq L t=(To L t.Op t.N t.qJ t.qZ (CG L t.qZ),opN L t.Op t.N t.qJ (CG L t.qZ)):=by cases t;rw[Bq]
theorem Dp{L:Ae}:∀(l:List Ab),CG L l=l.map (Bq L)
 | []=>by rfl
 |t::a=>by simp[CG,Dp]
variable {i:Nat}
theorem Aad{l:List Ab}(h:i<σ l):MN (CG L l) i=(Bq L l[i]).1:=by unfold MN;rw[Dp,bo,a4 h];rfl
def SD(n:Int)(s:SV):Prop:=∀a b:B.As,(∀v,0<=v->v<n->a v=b v)->s.1 a=s.1 b/\s.2 a=s.2 b
theorem Agd(a:LK L)(hi:¬i<σ L.Aa){next:Bool}:Cu L i next=[]:=by have h:=a.lb;unfold Cu Ny;rw[ao (l:=L.Bits) (by omega)];split<;>rfl
theorem Ac7(b:LK L){n:Int}(d:2*Fy L<=n){next:Bool}{v:Int}(a:v∈Cu L i next):0<=v/\v<n:=by grind[SZ,Agd]
theorem UI{f:B.Fn->B.Fn->B.Fn}{a b:B.As}(e:∀F G:B.Fn,F a=F b->G a=G b->f F G a=f F G b):∀{l:List B.Fn}{F:B.Fn},F a=F b->(∀G∈l,G a=G b)->l.foldl f F a=l.foldl f F b
 | [],_,c,_=>c
 |G::l,F,c,d=>UI e (l:=l) (F:=f F G) (e F G c (d G ag)) λG g=>d G (b6 _ g)
inductive Vi(op:Int)(nm:ByteArray):Ab->Prop
 |here {t:Ab}:t.Op=op->t.qJ=nm->Vi op nm t
 |kid {t k:Ab}:k∈t.qZ->Vi op nm k->Vi op nm t
theorem Agb{L:Ae}{a b:B.As}:∀(z:Nat)(t:Ab),SizeOf.sizeOf t<z->(∀op nm,Vi op nm t->(op=3∨op=4)->∀v∈Cu L (AY L.Aa nm) (δ (op=4)),a v=b v)->(Bq L t).1 a=(Bq L t).1 b/\(Bq L t).2 a=(Bq L t).2 b
 |0,_,hz,_=>qG hz (a9 _)
 |z+1,t,hz,e=>by
  have kid:∀s∈CG L t.qZ,s.1 a=s.1 b/\s.2 a=s.2 b:=λs hs=>by rw[Dp]at hs;obtain⟨k,hk,rfl⟩:=ai.1 hs;exact Agb z k (by have:=Hj hk;omega) λop nm h=>e op nm (.kid hk h)
  have c:∀i,MN (CG L t.qZ) i a=MN (CG L t.qZ) i b:=λi=>by
   unfold MN;cases h:(CG L t.qZ)[i]? with
   |none=>rfl
   |some s=>grind
  have d:∀i,Yu (CG L t.qZ) i a=Yu (CG L t.qZ) i b:=λi=>by
   unfold Yu;cases h:(CG L t.qZ)[i]? with
   |none=>rfl
   |some s=>grind
  have e':=e t.Op t.qJ (.here rfl rfl);rw[Kx];generalize CG L t.qZ=s at c d;refine⟨?_,?_⟩
  .show To L t.Op t.N t.qJ t.qZ s a=To L t.Op t.N t.qJ t.qZ s b;unfold To;split
   .rfl
   split
   .rename_i o;rw[b8,HV,HV];have:∀u∈JU (Cu L (AY L.Aa t.qJ) (δ (t.Op=4))) (GM L (AY L.Aa t.qJ) 1),a u.Var=b u.Var:=λu f=>by have hm:u.Var∈(JU (Cu L (AY L.Aa t.qJ) (δ (t.Op=4))) (GM L (AY L.Aa t.qJ) 1)).map (·.Var):=bm f;grind[RS]
    grind
   split
   .show (!MN s 0 a)=(!MN s 0 b);rw[c]
   split
   .exact UI (λF G h1 h2=>by unfold CJ;rw[h1,h2]) rfl λG hG=>by obtain⟨i,_,rfl⟩:=ai.1 hG;grind
   split
   .exact UI (λF G h1 h2=>by unfold PA;rw[h1,h2]) rfl λG hG=>by obtain⟨i,_,rfl⟩:=ai.1 hG;grind
   split
   .unfold Xx;rw[c 0,c 1]
   split
   .unfold Ot;rw[c 0,c 1]
   split
   .unfold Db;rw[c 0,c 1,c 2]
   split
   .unfold eqF Ot RN;split<;>(grind)
   grind[TZ]
  .show opN L t.Op t.N t.qJ s a=opN L t.Op t.N t.qJ s b;unfold opN;split;all_goals grind[CB,MZ,ifV,Zs]
theorem Atc(c:LK L){n:Int}(f:2*Fy L<=n)(z:Nat)(t:Ab)(d:SizeOf.sizeOf t<z):SD n (Bq L t):=λa b e=>
 Agb z t d λ_ _ _ _ v g=>by grind[Ac7]
theorem Um.len{t:Ab}(h:Um t):1<=t.Op/\t.Op<=18/\(t.Op<=4->σ t.qZ=0)/\(t.Op=5->σ t.qZ=1)/\(σ t.qZ<=64)/\(8<=t.Op->t.Op<=17->σ t.qZ=2)/\(t.Op=18->σ t.qZ=3):=by
 have a:=h.w;unfold CF at a;split at a
 .omega
 rename_i b;split at a
 .omega
 split at a
 .omega
 split at a
 .omega
 rename_i c;unfold Ft at b c;(repeat' split at b)<;>simp_all<;>omega
theorem kl2{α:Type}:∀{l:List α},σ l=2->∃a b,l=[a,b]
 | [a,b],_=>⟨a,b,rfl⟩
theorem kl3{α:Type}:∀{l:List α},σ l=3->∃a b c,l=[a,b,c]
 | [a,b,c],_=>⟨a,b,c,rfl⟩
theorem N8{vars:List Al}{next:Bool}:∀{l:List Ab},(B6 vars next l).2=0->(B6 vars next l).1=l.map (λk=>(AA vars next k).1)/\∀k∈l,(AA vars next k).2=0
 | [],_=>by grind[B6]
 |s::l,h=>by
  rw[ER]at h ⊢;by_cases e:(AA vars next s).2=0
  .rw[UV e]at h ⊢;by_cases b:(B6 vars next l).2=0
   .rw[UV b];obtain⟨d,c⟩:=N8 b;grind
   grind
  grind
variable {x:Int}
theorem Abn{a1 a2:Int}(a:a1<=x)(b:x<=a2)(c:Int):(a1*c<=x*c/\x*c<=a2*c)∨(a2*c<=x*c/\x*c<=a1*c):=by
 rcases Int.le_total 0 c with h|h
 all_goals simp_all[Int.mul_le_mul_of_nonneg_right,Int.mul_le_mul_of_nonpos_right]
theorem At7{a1 a2 b1 b2 y:Int}(f:a1<=x)(a:x<=a2)(g:b1<=y)(i:y<=b2):KL τ (a1*b1) [(.i64,a1*b2),(.i64,a2*b1),(.i64,a2*b2)]<=x*y/\x*y<=KL ν (a1*b1) [(.i64,a1*b2),(.i64,a2*b1),(.i64,a2*b2)]:=by have k:=Abn f a b1;have l:=Abn f a b2;have h:=Abn g i x;rw[ba b1 x,ba b2 x,ba y x]at h;generalize x*y=p at *;generalize x*b1=j at *;generalize x*b2=m at *;generalize a1*b1=c at *;generalize a1*b2=e at *;generalize a2*b1=d at *;generalize a2*b2=b at *;show min (min (min c e) d) b<=p/\p<=max (max (max c e) d) b;omega
theorem At8{y:Int}(h:1<=y):0<=opF 17 x y/\opF 17 x y<=y-1:=by show 0<=(x.tmod y+y).tmod y/\(x.tmod y+y).tmod y<=y-1;have m:=Pn (x:=x) h;have b:=Int.tmod_nonneg (a:=x.tmod y+y) y (by omega);have c:(x.tmod y+y).tmod y<y:=Int.tmod_lt_of_pos _ (by omega);omega
end
structure ON(L:Ae)(n0:Int)(t:Ab)(y:Af):Prop where
 tr:y.Bool=ν->Lp L n0 t (Bq L t).1
 nu:y.Bool=τ->Rk L n0 t (Bq L t).2
 rg:y.Bool=τ->∀a v,(Bq L t).2 a=φ v->y.Lo<=v/\v<=y.Hi
 tt:y.Bool=τ->∀a,Io L τ (σ L.Aa) a=ν->Io L ν (σ L.Aa) a=ν->∃v,(Bq L t).2 a=φ v
theorem An8{L:Ae}{n0:Int}(hL:JJ L)(hfit:2*Fy L<=n0)(h8:2*Fy L<=8)(hv:σ L.Aa<=1000){t:Ab}(ok:Um t)(hs:Er t<=40)(hT:∀k∈t.qZ,YR (AA L.Aa ν k).1)(ks:∀k∈t.qZ,ON L n0 k (AA L.Aa ν k).1)(u:(AW L.Aa ν t (t.qZ.map λk=>(AA L.Aa ν k).1)).2=0):ON L n0 t (AW L.Aa ν t (t.qZ.map λk=>(AA L.Aa ν k).1)).1:=by
 obtain⟨o1,o18,l4,l5,l64,l8,l18⟩:=ok.len;have j:=Kx (L:=L) t;have dep:∀k∈t.qZ,SD 8 (Bq L k):=λk _=>Atc hL.toLK h8 _ k (ac _);have vd:∀k∈t.qZ,VD 8 (Bq L k).2:=λk s a b e=>(dep k s a b e).2;have vb:∀k∈t.qZ,(AA L.Aa ν k).1.Bool=τ->VB (Bq L k).2:=λk s Y a n e=>by have K:=(ks k s).rg Y a n e;obtain⟨r1,r2,r3,_⟩:=hT k s;omega
 have sp:∀{lo O:Int}{V:B.As->Option Int},AW L.Aa ν t (t.qZ.map λk=>(AA L.Aa ν k).1)=CV lo O->(Bq L t).2=V->Rk L n0 t V->(∀a v,V a=φ v->lo<=v/\v<=O)->(∀a,Io L τ (σ L.Aa) a=ν->Io L ν (σ L.Aa) a=ν->∃v,V a=φ v)->ON L n0 t (AW L.Aa ν t (t.qZ.map λk=>(AA L.Aa ν k).1)).1:=λ{lo O V}J e2 K W h3=>by rw[J]at u ⊢;rw[(Acy u).2];exact⟨λh=>qG h au,λ_=>e2.symm▸K,λ_=>e2.symm▸W,λ_=>e2.symm▸h3⟩
 have N:∀{F:B.Fn},AW L.Aa ν t (t.qZ.map λk=>(AA L.Aa ν k).1)=(L5,0)->(Bq L t).1=F->Lp L n0 t F->ON L n0 t (AW L.Aa ν t (t.qZ.map λk=>(AA L.Aa ν k).1)).1:=λ{F}J e2 K=>by rw[J];exact⟨λ_=>e2.symm▸K,λh=>qG h.symm au,λh=>qG h.symm au,λh=>qG h.symm au⟩
 have iT:∀{p:Prop}[Decidable p]{α:Type}{x y z:α},p->x=z->(if p then x else y)=z:=λh e=>(UV h).trans e;have d:∀{p:Prop}[Decidable p]{α:Type}{x y z:α},¬p->y=z->(if p then x else y)=z:=λh e=>(GT h).trans e;rcases(show t.Op=1∨t.Op=2∨(t.Op=3∨t.Op=4)∨(5<=t.Op/\t.Op<=9)∨t.Op=18∨(t.Op=10∨t.Op=11)∨(t.Op=12∨t.Op=13)∨t.Op=17∨(t.Op=14∨t.Op=15∨t.Op=16) by omega) with o|o|o|o|o|o|o|o|o
 .refine sp (lo:=t.N) (O:=t.N) (V:=λ_=>φ t.N) (by unfold AW;exact UV o) (by rw[j];unfold opN;exact UV o) ?_ (λa v e=>by cases e;omega) λa _ _=>⟨_,rfl⟩
  intro wb b M0 M lv H X Q w hn hl hS P;have sz:=Q7 t;exact Ts o w (by omega) (by omega) hS λM' lv' H' r m k hr e nd z hm' nx=>P M' lv' H' r m k hr e nd z (by omega) (by omega)
 .exact N (F:=λ_=>δ (t.N=1)) (by unfold AW;exact d (by omega) (UV o)) (by rw[j];unfold To;exact UV o) (Akv o)
 .have E:AW L.Aa ν t (t.qZ.map λk=>(AA L.Aa ν k).1)=GC L.Aa t.Op t.qJ ν:=by unfold AW;exact d (by omega) (d (by omega) (UV o))
  rw[E]at u;unfold GC at u;by_cases O:AY L.Aa t.qJ<σ L.Aa
  .rw[a4 O]at u;dsimp only at u;rw[GT (by rintro⟨_,h⟩;cases h)]at u;have l:GC L.Aa t.Op t.qJ ν=if L.Aa[AY L.Aa t.qJ].Bool=ν then (L5,0) else CV L.Aa[AY L.Aa t.qJ].Lo L.Aa[AY L.Aa t.qJ].Hi:=by unfold GC;rw[a4 O];exact GT (by rintro⟨_,h⟩;cases h)
   by_cases Y:L.Aa[AY L.Aa t.qJ].Bool=ν
   .exact N (by rw[E,l,UV Y]) (by rw[j];unfold To;exact d (by omega) (UV o)) (Ans hL hfit o O Y)
   .have he':(AW L.Aa ν t (t.qZ.map λk=>(AA L.Aa ν k).1)).2=0:=by rw[E,l,GT Y];rw[GT Y]at u;exact u
    refine sp (lo:=L.Aa[AY L.Aa t.qJ].Lo) (O:=L.Aa[AY L.Aa t.qJ].Hi) (V:=CB L (δ (t.Op=4)) (AY L.Aa t.qJ)) (by rw[E,l,GT Y]) (by rw[j];unfold opN;exact d (by omega) (UV o)) ?_ (λa v e=>?_) λa U T=>?_
    .intro wb b M0 M lv H X Q w hn hl hS P;have sz:=Q7 t;exact Vr hL hfit o O w (by omega) (by omega) hS λM' lv' H' r m k hr e nd z hm' nx=>P M' lv' H' r m k hr e nd z (by omega) (by omega)
    .have:=((Jc hL O).1 e).1;rw[show FW L.Aa[AY L.Aa t.qJ]=L.Aa[AY L.Aa t.qJ].Lo from GT Y,show QS L.Aa[AY L.Aa t.qJ]=L.Aa[AY L.Aa t.qJ].Hi from GT Y]at this;exact this
    .refine Option.isSome_iff_exists.1 ?_;by_cases e4:t.Op=4
     .rw[decide_eq_true e4];exact(NO hL).1 T _ O
     .rw[decide_eq_false e4];exact(NO hL).1 U _ O
  .rw[ao (by omega)]at u;exact qG (show (12:Int)=0 from u) (by decide)
 .have E:AW L.Aa ν t (t.qZ.map λk=>(AA L.Aa ν k).1)=HC (t.qZ.map λk=>(AA L.Aa ν k).1):=by unfold AW;exact d (by omega) (d (by omega) (d (by omega) (UV o)))
  rw[E]at u;have hall:(t.qZ.map λk=>(AA L.Aa ν k).1).all (·.Bool)=ν:=aa λh=>by unfold HC at u;rw[GT h]at u;exact qG u (by decide)
  have s:∀i(h:i<σ t.qZ),Lp L n0 t.qZ[i] (MN (CG L t.qZ) i):=λi h=>by rw[Aad h];have I:=ab h;exact(@ON.tr _ _ _ _ (ks _ I) (aq.1 hall _ (ai.2 ⟨_,I,rfl⟩)))
  have R:AW L.Aa ν t (t.qZ.map λk=>(AA L.Aa ν k).1)=(L5,0):=by rw[E];unfold HC;exact UV hall
  have t1:=Aid (t:=t) (Fs:=MN (CG L t.qZ)) s l64;rcases(show t.Op=5∨t.Op=6∨t.Op=7∨t.Op=8∨t.Op=9 by omega) with e|e|e|e|e
  .exact N R (by rw[j];unfold To;exact d (by omega) (d (by omega) (UV e))) ((t1.1 e (l5 e)))
  .exact N R (by rw[j];unfold To;exact d (by omega) (d (by omega) (d (by omega) (UV e)))) ((t1.2.1 e))
  .exact N R (by rw[j];unfold To;exact d (by omega) (d (by omega) (d (by omega) (d (by omega) (UV e))))) ((t1.2.2.1 e))
  .exact N R (by rw[j];unfold To;exact d (by omega) (d (by omega) (d (by omega) (d (by omega) (d (by omega) (UV e)))))) (((Aic (Fs:=MN (CG L t.qZ)) s (l8 (by omega) (by omega))).1 e))
  .exact N R (by rw[j];unfold To;exact d (by omega) (d (by omega) (d (by omega) (d (by omega) (d (by omega) (d (by omega) (UV e))))))) (((Aic (Fs:=MN (CG L t.qZ)) s (l8 (by omega) (by omega))).2 e))
 .obtain⟨g,f,G,s⟩:=kl3 (l18 o);have E:AW L.Aa ν t (t.qZ.map λk=>(AA L.Aa ν k).1)=ifE (t.qZ.map λk=>(AA L.Aa ν k).1):=by unfold AW;exact d (by omega) (d (by omega) (d (by omega) (d (by omega) (UV o))))
  rw[E,s]at u;have u:(if ¬(AA L.Aa ν g).1.Bool=ν∨(AA L.Aa ν f).1.Bool≠(AA L.Aa ν G).1.Bool then (OZ,(13:Int)) else if (AA L.Aa ν f).1.Bool=ν then ((AA L.Aa ν f).1,0) else CV (KL τ (AA L.Aa ν f).1.Lo [(.i64,(AA L.Aa ν G).1.Lo)]) (KL ν (AA L.Aa ν f).1.Hi [(.i64,(AA L.Aa ν G).1.Hi)])).2=0:=u;by_cases c:¬(AA L.Aa ν g).1.Bool=ν∨(AA L.Aa ν f).1.Bool≠(AA L.Aa ν G).1.Bool
  .rw[UV c]at u;exact qG u (by decide)
  rw[GT c]at u;have S:(AA L.Aa ν g).1.Bool=ν:=aa λh=>c (.inl h);have bc:(AA L.Aa ν G).1.Bool=(AA L.Aa ν f).1.Bool:=(aa λh=>c (.inr h):(AA L.Aa ν f).1.Bool=(AA L.Aa ν G).1.Bool).symm;have D:g∈t.qZ:=by rw[s];simp
  have C:f∈t.qZ:=by rw[s];simp
  have mc:G∈t.qZ:=by rw[s];simp
  have Z:MN (CG L t.qZ) 0=(Bq L g).1:=by rw[s,Dp];rfl
  have l:AW L.Aa ν t (t.qZ.map λk=>(AA L.Aa ν k).1)=if (AA L.Aa ν f).1.Bool=ν then ((AA L.Aa ν f).1,0) else CV (KL τ (AA L.Aa ν f).1.Lo [(.i64,(AA L.Aa ν G).1.Lo)]) (KL ν (AA L.Aa ν f).1.Hi [(.i64,(AA L.Aa ν G).1.Hi)]):=by rw[E,s];exact GT c
  by_cases A:(AA L.Aa ν f).1.Bool=ν
  .rw[UV A]at l;have hkk:∀i(h:i<σ t.qZ),Lp L n0 t.qZ[i] (MN (CG L t.qZ) i):=λi h=>by
    rw[Aad h];have I:=ab h;refine @ON.tr _ _ _ _ (ks _ I) ?_;generalize t.qZ[i]=k at I;rw[s]at I;rcases b4.1 I with rfl|I
    .exact S
    rcases b4.1 I with rfl|I
    .exact A
    rw[av]at I;rw[I,bc];exact A
   exact N (by rw[l,(hT f C).2.2.2 A]) (by rw[j];unfold To;exact d (by omega) (d (by omega) (d (by omega) (d (by omega) (d (by omega) (d (by omega) (d (by omega) (UV o)))))))) (((Aid (Fs:=MN (CG L t.qZ)) hkk l64).2.2.2 o (l18 o)))
  .rw[GT A]at l;have A:(AA L.Aa ν f).1.Bool=τ:=by simpa using A
   have J:Yu (CG L t.qZ) 1=(Bq L f).2:=by rw[s,Dp];rfl
   have e2:Yu (CG L t.qZ) 2=(Bq L G).2:=by rw[s,Dp];rfl
   refine sp l (V:=ifV (Bq L g).1 (Bq L f).2 (Bq L G).2) (by rw[j];unfold opN;rw[Z,J,e2];exact d (by omega) (d (by omega) (UV o))) (Ay7 o s (((ks g D).tr S)) (((ks f C).nu A)) (((ks G mc).nu (bc.trans A))) hs) (λa v e=>?_) λa U T=>?_
   .show min (AA L.Aa ν f).1.Lo (AA L.Aa ν G).1.Lo<=v/\v<=max (AA L.Aa ν f).1.Hi (AA L.Aa ν G).1.Hi;unfold ifV at e;split at e
    .have:=(ks f C).rg A a v e;omega
    .have:=(ks G mc).rg (bc.trans A) a v e;omega
   .unfold ifV;split
    .exact(ks f C).tt A a U T
    .exact(ks G mc).tt (bc.trans A) a U T
 .obtain⟨g,f,s⟩:=kl2 (l8 (by omega) (by omega));have E:AW L.Aa ν t (t.qZ.map λk=>(AA L.Aa ν k).1)=eqE (t.qZ.map λk=>(AA L.Aa ν k).1):=by unfold AW;exact d (by omega) (d (by omega) (d (by omega) (d (by omega) (d (by omega) (UV o)))))
  rw[E,s]at u;have u:(if (AA L.Aa ν g).1.Bool≠(AA L.Aa ν f).1.Bool then (OZ,(13:Int)) else (L5,0)).2=0:=u;by_cases c:(AA L.Aa ν g).1.Bool≠(AA L.Aa ν f).1.Bool
  .rw[UV c]at u;exact qG u (by decide)
  have c':(AA L.Aa ν g).1.Bool=(AA L.Aa ν f).1.Bool:=af.1 c;have l:AW L.Aa ν t (t.qZ.map λk=>(AA L.Aa ν k).1)=(L5,0):=by rw[E,s];exact GT c
  have D:g∈t.qZ:=by rw[s];simp
  have C:f∈t.qZ:=by rw[s];simp
  have q:=Axu (n0:=n0) s hv (ok.k g D) hs o;have hkB:Az1 L t.qZ=(AA L.Aa ν g).1.Bool:=by rw[s];rfl
  by_cases A:(AA L.Aa ν g).1.Bool=ν
  .have Z:MN (CG L t.qZ) 0=(Bq L g).1:=by rw[s,Dp];rfl
   have J:MN (CG L t.qZ) 1=(Bq L f).1:=by rw[s,Dp];rfl
   exact N l (by rw[j];unfold To;rw[Z,J];exact d (by omega) (d (by omega) (d (by omega) (d (by omega) (d (by omega) (d (by omega) (d (by omega) (d (by omega) (UV ⟨o,by rw[hkB];exact A⟩))))))))) ((q.2 _ _ ((ks g D).tr A) ((ks f C).tr (c'.symm.trans A)) A))
  .have bb':(AA L.Aa ν g).1.Bool=τ:=by simpa using A
   have Z:Yu (CG L t.qZ) 0=(Bq L g).2:=by rw[s,Dp];rfl
   have J:Yu (CG L t.qZ) 1=(Bq L f).2:=by rw[s,Dp];rfl
   have eo:VQ t.Op=λx y=>δ (x=y)==δ (δ (t.Op=10)=ν):=by funext x y;unfold VQ;exact d (by omega) (GT (by omega))
   exact N l (by rw[j];unfold To;rw[Z,J,eo];exact d (by omega) (d (by omega) (d (by omega) (d (by omega) (d (by omega) (d (by omega) (d (by omega) (d (by omega) (GT λh=>A (by rw[<-hkB];exact h.2)))))))))) ((q.1 _ _ ((ks g D).nu bb') ((ks f C).nu (c'.symm.trans bb')) bb'))
 all_goals
  obtain⟨g,f,s⟩:=kl2 (l8 (by omega) (by omega))
  have E:AW L.Aa ν t (t.qZ.map λk=>(AA L.Aa ν k).1)=Alw t.Op t.qZ (t.qZ.map λk=>(AA L.Aa ν k).1):=by unfold AW;exact d (by omega) (d (by omega) (d (by omega) (d (by omega) (d (by omega) (GT (by omega))))))
  rw[E,s]at u
  have u:(if (AA L.Aa ν g).1.Bool=ν∨(AA L.Aa ν f).1.Bool=ν then (OZ,(13:Int)) else if t.Op=12∨t.Op=13 then (L5,0) else if t.Op=17 then Xk [g,f] else JV t.Op (AA L.Aa ν g).1 (AA L.Aa ν f).1).2=0:=u
  have l:AW L.Aa ν t (t.qZ.map λk=>(AA L.Aa ν k).1)=if (AA L.Aa ν g).1.Bool=ν∨(AA L.Aa ν f).1.Bool=ν then (OZ,(13:Int)) else if t.Op=12∨t.Op=13 then (L5,0) else if t.Op=17 then Xk [g,f] else JV t.Op (AA L.Aa ν g).1 (AA L.Aa ν f).1:=by rw[E,s];rfl
  by_cases c:(AA L.Aa ν g).1.Bool=ν∨(AA L.Aa ν f).1.Bool=ν
  .rw[UV c]at u;exact qG u (by decide)
  rw[GT c]at u l
  have S:(AA L.Aa ν g).1.Bool=τ:=by have h:¬(AA L.Aa ν g).1.Bool=ν:=λh=>c (.inl h);simpa using h
  have A:(AA L.Aa ν f).1.Bool=τ:=by have h:¬(AA L.Aa ν f).1.Bool=ν:=λh=>c (.inr h);simpa using h
  have D:g∈t.qZ:=by rw[s];simp
  have C:f∈t.qZ:=by rw[s];simp
  have Z:Yu (CG L t.qZ) 0=(Bq L g).2:=by rw[s,Dp];rfl
  have J:Yu (CG L t.qZ) 1=(Bq L f).2:=by rw[s,Dp];rfl
 .rw[UV o]at l;have q:=Ant (n0:=n0) s (((ks g D).nu S)) (((ks f C).nu A)) hs;have eT:(Bq L t).1=TZ (VQ t.Op) (Bq L g).2 (Bq L f).2:=by rw[j];unfold To;rw[Z,J];exact d (by omega) (d (by omega) (d (by omega) (d (by omega) (d (by omega) (d (by omega) (d (by omega) (d (by omega) (GT (by omega)))))))))
  rcases o with e|e
  .have eo:VQ t.Op=λx y=>δ (x<y):=by funext x y;unfold VQ;exact UV e
   rw[eo]at eT;exact N l eT ((q.1 e))
  .have eo:VQ t.Op=λx y=>δ (x<=y):=by funext x y;unfold VQ;exact d (by omega) (UV e)
   rw[eo]at eT;exact N l eT ((q.2 e))
 .have n12:¬(t.Op=12∨t.Op=13):=by omega
  rw[GT n12,UV o]at u l;have u:(if f.Op≠1∨f.N<1 then (OZ,(2:Int)) else CV 0 (f.N-1)).2=0:=u;by_cases c2:f.Op≠1∨f.N<1
  .rw[UV c2]at u;exact qG u (by decide)
  have hp3:AW L.Aa ν t (t.qZ.map λk=>(AA L.Aa ν k).1)=CV 0 (f.N-1):=l.trans (GT c2);have ob:f.Op=1:=aa λh=>c2 (.inl h);have sb:(Bq L f).2=λ_=>φ f.N:=by rw[Kx];unfold opN;exact UV ob
  have hpos:1<=f.N:=by omega
  have I:∀a y,(Bq L f).2 a=φ y->y=f.N:=λa y e=>by rw[sb]at e;cases e;rfl
  refine sp hp3 (V:=Zs (opF t.Op) (Bq L g).2 (Bq L f).2) (by rw[j];unfold opN;rw[Z,J];exact d (by omega) (d (by omega) (GT (by omega)))) (Ai1 (by omega) s (((ks g D).nu S)) (((ks f C).nu A)) hs (vd g D) (vd f C) (vb g D S) (vb f C A) λ_ a y e=>by rw[I a y e];exact hpos) (λa v e=>?_) λa U T=>?_
  .obtain⟨x,y,K,W,h3⟩:=QK.1 e;have:=I a y W;subst this;rw[<-h3,o];exact At8 hpos
  .obtain⟨x,hx⟩:=(ks g D).tt S a U T;obtain⟨y,hy⟩:=(ks f C).tt A a U T;exact⟨_,QK.2 ⟨x,y,hx,hy,rfl⟩⟩
 .have n12:¬(t.Op=12∨t.Op=13):=by omega
  have n17:¬t.Op=17:=by omega
  rw[GT n12,GT n17]at u l;have hrg:∀a v,Zs (opF t.Op) (Bq L g).2 (Bq L f).2 a=φ v->∃x y,opF t.Op x y=v/\((AA L.Aa ν g).1.Lo<=x/\x<=(AA L.Aa ν g).1.Hi)/\((AA L.Aa ν f).1.Lo<=y/\y<=(AA L.Aa ν f).1.Hi):=λa v e=>by obtain⟨x,y,K,W,h3⟩:=QK.1 e;exact⟨x,y,h3,(ks g D).rg S a x K,(ks f C).rg A a y W⟩
  have hnu:Rk L n0 t (Zs (opF t.Op) (Bq L g).2 (Bq L f).2):=Ai1 (by omega) s (((ks g D).nu S)) (((ks f C).nu A)) hs (vd g D) (vd f C) (vb g D S) (vb f C A) λh=>qG h n17;have htt:∀a,Io L τ (σ L.Aa) a=ν->Io L ν (σ L.Aa) a=ν->∃v,Zs (opF t.Op) (Bq L g).2 (Bq L f).2 a=φ v:=λa U T=>by obtain⟨x,hx⟩:=(ks g D).tt S a U T;obtain⟨y,hy⟩:=(ks f C).tt A a U T;exact⟨_,QK.2 ⟨x,y,hx,hy,rfl⟩⟩
  have eV:(Bq L t).2=Zs (opF t.Op) (Bq L g).2 (Bq L f).2:=by rw[j];unfold opN;rw[Z,J];exact d (by omega) (d (by omega) (GT (by omega)))
  rcases o with e|e|e
  .refine sp (l.trans (by unfold JV;exact d (by omega) (UV e))) eV (@hnu) (λa v h=>?_) htt;obtain⟨x,y,rfl,K,W⟩:=hrg a v h;rw[e];show _<=x+y/\x+y<=_;omega
  .refine sp (l.trans (by unfold JV;exact UV e)) eV (@hnu) (λa v h=>?_) htt;obtain⟨x,y,rfl,K,W⟩:=hrg a v h;rw[e];show _<=x-y/\x-y<=_;omega
  .refine sp (l.trans (by unfold JV;exact d (by omega) (GT (by omega)))) eV (@hnu) (λa v h=>?_) htt;obtain⟨x,y,rfl,K,W⟩:=hrg a v h;rw[e];exact At7 K.1 K.2 W.1 W.2
theorem Aaj{L:Ae}{n0:Int}(h:JJ L)(a:2*Fy L<=n0)(i:2*Fy L<=8)(g:σ L.Aa<=1000):∀(z:Nat)(t:Ab),SizeOf.sizeOf t<z->Um t->Er t<=40->(AA L.Aa ν t).2=0->ON L n0 t (AA L.Aa ν t).1
 |0,_,d,_,_,_=>qG d (a9 _)
 |z+1,t,d,j,l,c=>by
  rw[L4]at c ⊢;by_cases e:(B6 L.Aa ν t.qZ).2=0
  .rw[UV e]at c ⊢;obtain⟨m,f⟩:=N8 e;rw[m]at c ⊢;exact An8 h a i g j l (λk b=>LN _ k (ac _) (f k b)) (λk b=>Aaj h a i g z k (by have:=Hj b;omega) (j.k k b) (by have:=Wa b;omega) (f k b)) c
  grind
theorem Pm{vars:List Al}{next:Bool}{t:Ab}(h:(DP vars next t).2=0):Um t/\(AA vars next t).2=0/\DP vars next t=AA vars next t:=by
 unfold DP at h ⊢;by_cases e:(Im 1 0 t).2=0
 .rw[UV e]at h ⊢;exact⟨Wo _ t 1 0 (ac _) e,h,rfl⟩
 grind
theorem Ayb{L:Ae}{n0:Int}(d:JJ L)(a:2*Fy L<=n0)(c:2*Fy L<=8)(b:σ L.Aa<=1000){t:Ab}(hs:Er t<=40)(h:(DP L.Aa ν t).2=0):ON L n0 t (DP L.Aa ν t).1:=by obtain⟨o,e,r⟩:=Pm h;rw[r];exact Aaj d a c b _ t (ac _) o hs e
section
set_option maxRecDepth 100000
set_option maxHeartbeats 2000000
def LU(v:Al)(H:HY)(Q:qV->UU)(_:PX):=(v.Bool->Q (0,()) () H)/\(¬v.Bool->Q (v.Lo,()) () H)
theorem RO v H Q X(h_:LU v H Q X):qK 66 CM (v,()) H Q X:=wF Tryz.f66 {im:=[1]} h_
end
section
variable {v:Al}
theorem Aea(h:v.Bool=ν):FW v=0:=UV h
theorem Ajh(h:v.Bool=ν):QS v=1:=UV h
theorem Apt(h:¬v.Bool=ν):FW v=v.Lo:=GT h
theorem Aw1(h:¬v.Bool=ν):QS v=v.Hi:=GT h
theorem Zh{L:Ae}(c:LK L){i j:Nat}(hi:i<σ L.Aa)(b:i<σ L.Bits)(d:j<L.Bits[i].toNat){next:Bool}:(Cu L i next)[j]?=φ (2*(Dj L.Bits i+(j:Int))+if next=ν then 1 else 0):=by
 have a:i<σ L.At:=by rw[c.la];exact hi
 have e:(Ny L i)[j]?=φ (2*(Dj L.Bits i+(j:Int))):=by unfold Ny;rw[bo,a4 b,a4 a,az,az,List.getElem?_range d,c.at_ i a];rfl
 grind[Cu]
theorem VH{yes:Bool}{v:Nat}{H:HY}{X:PX}{Q:List Bool×Unit->UU}(y:v<=20)(h:∀l:List Bool,σ l=2^v->Q (l,()) () H):qK 46 Ez (yes,(v:Int),()) H Q X:=by
 refine wF Tryz.f46 {lp:=[(8,⟨[(7,.one (.own .bool)),(8,.nat)],[0,5,7],τ⟩),(3,⟨[(5,.one (.dat I6)),(6,.nat)],[0,1],τ⟩)]} (?_:∃(V:Nat->Int×Nat×UT->Prop),(∃(n:Nat),H=H/\V n (1,0,()))/\∀n x,V n x->((x.2.1:Int)<(v:Int)->IK x.1->IK (2*x.1)/\x.2.1+1<=2^63-1/\∃m,m<n/\H=H/\V m (2*x.1,x.2.1+1,()))/\(¬(x.2.1:Int)<(v:Int)->IK x.1->IK x.1->0<=x.1/\x.1=x.1/\x.1.toNat*1<=281474976710656/\∃(V:Nat->List Bool×Nat×UT->Prop),(∃(n:Nat),H=H/\V n (bi x.1.toNat τ,0,()))/\∀n x1,V n x1->((x1.2.1:Int)<x.1->x1.2.1<=2^63-1->∃(h:x1.2.1<σ x1.1),x1.2.1<σ x1.1/\x1.2.1+1<=2^63-1/\∃m,m<n/\H=H/\V m (x1.1.set x1.2.1 yes,x1.2.1+1,()))/\(¬(x1.2.1:Int)<x.1->Q (x1.1,()) () H)));refine⟨λm z=>m=v-z.2.1/\z.2.1<=v/\z.1=2^z.2.1,⟨_,rfl,rfl,a6 _,rfl⟩,?_⟩;rintro m ⟨x,k,_⟩ ⟨n,p,b⟩;have C:m=v-k:=n;have A:k<=v:=p;have d:x=2^k:=b;have r:(2:Int)^k<=1048576/\0<=(2:Int)^k:=by have:(2:Nat)^k<=2^20:=bj (by omega) (by omega);grind
 refine⟨λa _=>?_,λa=>?_⟩
 .have a:(k:Int)<(v:Int):=a;refine⟨Aq.2 (by omega),by grind,v-(k+1),by omega,rfl,rfl,by grind,?_⟩;show 2*x=2^(k+1);rw[d,c1,ba]
 .have a:¬(k:Int)<(v:Int):=a;have e:k=v:=by omega
  subst e;have g:x.toNat=2^k:=by grind
  have b:0<=x:=by omega
  have u:x<=1048576:=by omega
  refine λ_ _=>⟨b,rfl,by omega,?_⟩
  refine⟨λm z=>m=x.toNat-z.2.1/\z.2.1<=x.toNat/\σ z.1=x.toNat,⟨_,rfl,rfl,a6 _,List.length_replicate⟩,?_⟩;rintro s ⟨l,j,_⟩ ⟨i,f,o⟩;have w:s=x.toNat-j:=i;have B:j<=x.toNat:=f;have q:σ l=x.toNat:=o;refine⟨λa _=>?_,λt=>?_⟩
  .have a:(j:Int)<x:=a;have c:j<σ l:=by omega
   refine⟨c,c,by grind,x.toNat-(j+1),by omega,rfl,rfl,by grind,?_⟩;grind
  grind
theorem As9{a:B0}{H:HY}{X:PX}{Q:Int×Unit->UU}(s:Av3 a)(h:Q (((2^(2*GH a.Aa).toNat:Nat):Int),()) () H):qK 15 EH (a,()) H Q X:=by
 refine wF Tryz.f15 {im:=[1]} (?_:qK 32 Dr (a.Aa,()) H (λ(b:qV)_ G=>IK b.1->IK (2*b.1)/\qK 46 Ez (ν,2*b.1,()) G (λ(b:List Bool×UT)_ G=>σ b.1<=2^63-1->Q (((σ b.1):Int),()) () G) X) X);have e:=s.t;have f:=s.n;refine Nx (by omega) λ_ _ _=>⟨Aq.2 (by omega),?_⟩
 obtain⟨v,d⟩:=Int.eq_ofNat_of_zero_le (show 0<=2*GH a.Aa by omega);have b:v<=20:=by omega
 show qK 46 Ez (ν,2*GH a.Aa,()) H _ X;grind[VH]
end
theorem XS{a:B.As}:∀{l:List Int}{j:Nat}(h:j<σ l),CE a (l.take (j+1))=CE a (l.take j)+(if a l[j]=ν then 2^j else 0)
 |v::l,0,_=>by
  show (if a v=ν then 1 else 0)+2*0=0+if a v=ν then 2^0 else 0
  split<;>rfl
 |v::l,j+1,h=>by
  have b:j<σ l:=by grind
  have c:=XS (a:=a)   b;rw[bn,bn,Hw,Hw,c];grind
def rdV(l:List Al)(a:B.As)(next:Bool)(L:Ae)(i:Nat):Int:=(l[i]?.map FW).getD 0+(CE a (Cu L i next):Int)
noncomputable def Tg(l:List Al)(a:B.As)(next:Bool)(L:Ae)(i:Nat):Bool:=δ ((CE a (Cu L i next):Int)<(l[i]?.map DC).getD 0)
def RdI(a:B.As)(v:List Int)(s:List Int)(is:List Bool)(b K:Nat)(m:Nat)(z:List Int×List Bool×Nat×Int×Int×Nat×Unit):Prop:=m=K-z.2.2.2.2.2.1/\z.2.2.2.2.2.1<=K/\z.1=s/\z.2.1=is/\z.2.2.1=b+z.2.2.2.2.2.1/\z.2.2.2.1=(CE a (v.take z.2.2.2.2.2.1):Int)/\z.2.2.2.2.1=2^z.2.2.2.2.2.1
theorem Vo{v:Al}{H:HY}{X:PX}{Q:Int×Unit->UU}(h:Q (FW v,()) () H):qK 66 CM (v,()) H Q X:=by grind[RO,LU,Aea,Apt]
theorem Nw{l:List Al}{k N:Nat}{next:Bool}{H:HY}{X:PX}{Q:List Int×List Bool×Unit->UU}(hv:NP l)(hl:σ l<=64)(ht:GH l<=15)(hN:2*GH l<=N)(hk:k<=1000000)(h:Q ((a7 (σ l)).map (rdV l (NT N k) next (AM l)),(a7 (σ l)).map (Tg l (NT N k) next (AM l)),()) () H):qK 19 CL (l,(k:Int),next,()) H Q X:=by
 have hL:JJ (AM l):=XG hv hl;have sb:∀i(hi:i<σ l),0<=Dj (Cd l) i/\Dj (Cd l) i+(GF (DC l[i]):Int)<=GH l:=λi hi=>by
  have h1:=hL.toLK.sum (k:=i) (by show i<=σ (Cd l);grind[Cl]);have U:=hL.toLK.Pq (j:=i+1) (k:=σ (Cd l)) (by grind[Cl]) (Nat.le_refl _);rw[show (AM l).Bits=Cd l from rfl,Ek (by grind[Cl]),HX hi]at U;have h3:GH l=Dj (Cd l) (σ (Cd l)):=by unfold GH;rw[Cl]
  exact⟨h1.1,by omega⟩
 refine wF Tryz.f19 {lp:=[(8,⟨[(8,.one (.own I6)),(9,.one (.own .bool)),(10,.nat),(12,.one (.dat I6)),(13,.one (.dat I6)),(14,.nat)],[0,1,2,8,9,11],τ⟩),(4,⟨[(8,.one (.own I6)),(9,.one (.own .bool)),(10,.nat),(11,.nat)],[0,1,2],τ⟩)]} (?_:letI E:=σ l;∃(V:Nat->List Int×List Bool×Nat×Nat×UT->Prop),(∃(n:Nat),H=H/\V n ([],[],0,0,()))/\∀n x,V n x->E<=2^63-1->(x.2.2.2.1<E->∃(V1:Nat->List Int×List Bool×Nat×Int×Int×Nat×UT->Prop),letI I:=x.2.2.2.1<=2^63-1;(∃(n:Nat),H=H/\V1 n (x.1,x.2.1,x.2.2.1,0,1,0,()))/\∀n1 x1,V1 n1 x1->I->∃(h:(x.2.2.2.1<E)),letI P:=x1.2.2.2.2.2.1+1;letI R:=2*x1.2.2.2.2.1;letI W:=IK x1.2.2.2.2.1;letI Y:=x1.2.2.1+1;letI B:=x1.2.2.2.1+x1.2.2.2.2.1;letI C:=IK x1.2.2.2.1;letI O:=λ(b:qU)_ G=>(b.1->C->W->IK B/\(W->IK R/\Y<=2^63-1/\P<=2^63-1/\∃m,m<n1/\G=H/\V1 m (x1.1,x1.2.1,Y,B,R,P,())))/\(¬b.1->W->IK R/\Y<=2^63-1/\P<=2^63-1/\∃m,m<n1/\G=H/\V1 m (x1.1,x1.2.1,Y,x1.2.2.2.1,R,P,()));letI S:=(x1.2.2.1:Int);letI A:=(x1.2.2.2.2.2.1:Int);qK 65 CM (l[x.2.2.2.1],()) H (λ(b:qV)_ G=>qK 64 EG (b.1,()) G (λ(b:qV)_ G=>(A<b.1->x1.2.2.1<=2^63-1->IK (2*S)/\(next->IK (2*S)->IK (2*S+1)/\qK 51 Ce ((k:Int),(2:den Y0.D (Ty.int .i64))*S+(1:den Y0.D (Ty.int .i64)),()) G O X)/\(¬next->qK 51 Ce ((k:Int),(2:den Y0.D (Ty.int .i64))*S,()) G O X))/\(¬A<b.1->I->∃(h:(x.2.2.2.1<E)),qK 66 CM (l[x.2.2.2.1],()) G (λ(b:qV)_ G=>letI Z:=b.1+x1.2.2.2.1;IK b.1->C->IK Z/\(σ x1.1+σ [Z])*8<=2^47/\(I->∃(h:(x.2.2.2.1<E)),qK 65 CM (l[x.2.2.2.1],()) G (λ(b1:qV)_ G=>letI T:=[δ (x1.2.2.2.1<b1.1)];(σ x1.2.1+σ T)*1<=2^47/\x.2.2.2.1+1<=2^63-1/\∃m,m<n/\G=H/\V m (x1.1++[Z],x1.2.1++T,x1.2.2.1,x.2.2.2.1+1,())) X)) X)) X) X)/\(¬x.2.2.2.1<E->Q (x.1,x.2.1,()) () H));refine⟨λm z=>m=σ l-z.2.2.2.1/\z.2.2.2.1<=σ l/\z.1=(a7 z.2.2.2.1).map (rdV l (NT N k) next (AM l))/\z.2.1=(a7 z.2.2.2.1).map (Tg l (NT N k) next (AM l))/\(z.2.2.1:Int)=Dj (Cd l) z.2.2.2.1,⟨_,rfl,rfl,a6 _,rfl,rfl,rfl⟩,?_⟩;rintro m ⟨s,is,b,i,_⟩ ⟨I,T,J,y,hb0⟩;have hm:m=σ l-i:=I;have hi:i<=σ l:=T;have hs:s=(a7 i).map (rdV l (NT N k) next (AM l)):=J;have D:=y;have hb:(b:Int)=Dj (Cd l) i:=hb0;intro _;refine⟨λhlt0=>?_,λhge0=>?_⟩
 .have f:i<σ l:=hlt0;obtain⟨s0,s1⟩:=sb i f;have r:i<σ (AM l).Bits:=by show i<σ (Cd l);grind[Cl]
  have hK:((AM l).Bits[i]).toNat=GF (DC l[i]):=by exact(congrArg a8 (HX f)).trans (ax _)
  have V:σ (Cu (AM l) i next)=GF (DC l[i]):=(QB r).trans hK;have d:∀j,j<GF (DC l[i])->(Cu (AM l) i next)[j]?=φ (2*(Dj (Cd l) i+(j:Int))+if next=ν then 1 else 0):=λj hj=>Zh hL.toLK f r (by omega);generalize hv:Cu (AM l) i next=v at V d;generalize F:GF (DC l[i])=K at *;refine⟨RdI (NT N k) v s is b K,⟨_,rfl,rfl,a6 _,rfl,rfl,rfl,rfl,rfl⟩,?_⟩;rintro m2 ⟨u,o,g,n,c,j,_⟩ ⟨w,P,A,q,x,L,S⟩;have hm2:m2=K-j:=w;have hj:j<=K:=P;have hs':u=s:=A;have W:o=is:=q;have hb':g=b+j:=x;have G:n=(CE (NT N k) (v.take j):Int):=L;have ho:c=2^j:=S;subst hs' W;have O:(2:Nat)^j<=2^30:=bj (by omega) (by omega);have hcl:CE (NT N k) (v.take j)<2^j:=by have:=TY (a:=NT N k) (l:=v.take j);grind
  have ho1:c=((2^j:Nat):Int):=by rw[ho,Awk]
  have hob:0<=c/\c<=1073741824:=by omega
  have hnb:0<=n/\n<1073741824:=by omega
  have hsl:σ u<=64:=by grind
  have hisl:σ o<=64:=by grind
  refine λ_=>⟨f,K3 (Rv (Pu _).1 (Pu _).2 λ_ _=>⟨λp _=>?_,λp _=>?_⟩)⟩
  .have R:j<K:=by grind
   have Y:j<σ v:=by omega
   have d:=d j R;rw[a4 Y]at d;have d:=ad d;have Z:∀t:Bool,t=NT N k v[j]->(t=ν->Bl .i64 n->Bl .i64 c->Bl .i64 (n+c)/\(Bl .i64 c->Bl .i64 (2*c)/\g+1<=9223372036854775807/\j+1<=9223372036854775807/\∃M,M<m2/\H=H/\RdI (NT N k) v u o b K M (u,o,g+1,n+c,2*c,j+1,())))/\
     (¬t=ν->Bl .i64 c->Bl .i64 (2*c)/\g+1<=9223372036854775807/\j+1<=9223372036854775807/\∃M,M<m2/\H=H/\RdI (NT N k) v u o b K M (u,o,g+1,n,2*c,j+1,())):=λt ht=>by
    have hc:=XS (a:=NT N k) Y
    have U:2*c=2^(j+1):=by rw[ho,c1,ba]
    have i1:Bl .i64 (2*c):=Aq.2 (by omega)
    refine⟨λC _ _=>⟨Aq.2 (by omega),λ_=>⟨i1,by omega,by omega,K-(j+1),by omega,rfl,rfl,by grind,rfl,rfl,by show g+1=b+(j+1);omega,?_,U⟩⟩,λC _=>⟨i1,by omega,by omega,K-(j+1),by omega,rfl,rfl,by show j+1<=K;omega,rfl,rfl,by show g+1=b+(j+1);omega,?_,U⟩⟩
    all_goals grind
   refine⟨Aq.2 (by show _<=2*(g:Int)/\2*(g:Int)<=_;omega),λB _=>⟨Aq.2 (by show _<=2*(g:Int)+1/\2*(g:Int)+1<=_;omega),?_⟩,λB=>?_⟩
   .rw[UV B]at d;have e:(2*(g:Int)+1)=((2*g+1:Nat):Int):=by omega
    have e2:v[j]=((2*g+1:Nat):Int):=by rw[d];omega
    show qK 51 Ce ((k:Int),2*(g:Int)+1,()) H _ X;rw[e];refine Mh hk (by omega) ?_;exact Z _ (by rw[e2,Arp (by omega)])
   .rw[GT B]at d;have e:(2*(g:Int))=((2*g:Nat):Int):=by omega
    have e2:v[j]=((2*g:Nat):Int):=by rw[d];omega
    show qK 51 Ce ((k:Int),2*(g:Int),()) H _ X;rw[e];refine Mh hk (by omega) ?_;exact Z _ (by rw[e2,Arp (by omega)])
  .have R:¬j<K:=by rw[F]at p;exact λhh=>p (Int.ofNat_lt.2 hh)
   have hjK:j=K:=by omega
   subst hjK;have E:v.take j=v:=al (by omega);rw[E]at G;have hlo:=(hL.fit i f r).2.2;have hlo1:-1152921504606846976<=FW l[i]:=hlo.1;have hlo2:FW l[i]<=1152921504606846976:=Int.le_trans (hL.fit i f r).1 hlo.2;have er:rdV l (NT N k) next (AM l) i=FW l[i]+n:=by unfold rdV;rw[hv,a4 f,G];rfl
   have eb:Tg l (NT N k) next (AM l) i=δ (n<DC l[i]):=by unfold Tg;rw[hv,a4 f,G];rfl
   refine⟨f,Vo λ_ _=>⟨Aq.2 (by show _<=FW l[i]+n/\FW l[i]+n<=_;omega),by show (σ u+1)*8<=_;omega,λ_=>⟨f,K3 ⟨by show (σ o+1)*1<=_;omega,by show i+1<=_;omega,σ l-(i+1),by omega,rfl,rfl,by show i+1<=_;omega,?_,?_,?_⟩⟩⟩⟩
   .show u++[FW l[i]+n]=(a7 (i+1)).map _;rw[b7,am,<-hs];show _=u++[rdV l (NT N k) next (AM l) i];rw[er]
   .show o++[δ (n<DC l[i])]=(a7 (i+1)).map _;rw[b7,am,<-D];show _=o++[Tg l (NT N k) next (AM l) i];rw[eb]
   .show (g:Int)=Dj (Cd l) (i+1);rw[Ek (by rw[Cl];exact f),HX f,F];omega
 grind
abbrev Tc:Bd:=⟨[.own I6,.dat I6],[.dat I6]⟩
def sgO:FuncId->Option Bd:=lkG ((173,Tc)::sgL)
section
set_option maxRecDepth 100000
set_option maxHeartbeats 2000000
def Tj(l:List Int)(H:HY)(Q:List Int×UT->UU)(_:PX):=letI F:=((σ l):Int);letI E:=bi F.toNat (0:Int);letI I:=min (σ l) (σ E-0);σ l<=2^63-1->σ l<=2^63-1->σ l<=2^63-1->0<=F/\F=F/\F.toNat*8<=281474976710656/\0<=σ E/\Q (List.take 0 E++(List.take I l++List.drop (0+I) E),()) () H
theorem Aa2 l H Q X(h_:Tj l H Q X):qK 275 MQ (l,()) H Q X:=wF Tryz.f275 {} h_
def Vp(l:List Int)(H:HY)(Q:List Int×UT->UU)(X:PX):=qK 275 MQ (l,()) H (λ(b:List Int×UT)_ G=>qK 276 BJ (b.1,()) G (λ(_:UT)(io:List Int×UT)(G:HY)=>Q (io.1,()) () G) X) X
theorem Adp l H Q X(h_:Vp l H Q X):qK 258 MQ (l,()) H Q X:=wF Tryz.f258 {} h_
def Aeh(s:List Int)(v:Int)(H:HY)(Q:qV->List Int×UT->HP)(_:PX):=σ s<=2^63-1->∃(V:Nat->List Int×qV->Prop),(∃(n:Nat),H=H/\V n (s,0,()))/\∀n x,V n x->(x.2.1<((σ s):Int)->IK x.2.1->(IK x.2.1->0<=x.2.1)/\∃(h:x.2.1.toNat<σ x.1),letI E:=x.2.1.toNat;∃(h:E<σ x.1),(v=x.1[E]->Q (x.2.1,()) (x.1,()) H)/\(¬v=x.1[E]->IK x.2.1->IK (x.2.1+1)/\∃m,m<n/\H=H/\V m (x.1,x.2.1+1,())))/\(¬x.2.1<((σ s):Int)->Q ((-1:Int),()) (x.1,()) H)
theorem Ap9(s:List Int)(v:Int)(H:HY)(Q:Int×Unit->List Int×Unit->HP)(X:PX)(hyp_:Aeh s v H Q X):qK 173 Tc (s,v,()) H Q X:=by refine Wt (sigs:=sgO) (Pf:=Ss) (pf:=pfT) (F:=Tryz.f173) (n:={lp:=[(2,⟨[(0,.one (.own I6)),(8,.one (.dat I6))],[0,1,7],τ⟩)],pr:=[],im:=[]}) (by kernel_rfl) (mpF hyp_ _ ?_);kernel_rfl
def Tk(a b:List Int)(H:HY)(Q:List Int×qV->UU)(X:PX):=qK 274 L8 (a,()) H (λ(b1:qU)_ G=>(¬b1.1->Q ([],1,()) () G)/\(¬¬b1.1->qK 274 L8 (b,()) G (λ(b2:qU)_ G=>(¬b2.1->Q ([],1,()) () G)/\(¬¬b2.1->σ a<=2^63-1->σ b<=2^63-1->(¬σ a=σ b->Q ([],3,()) () G)/\(¬¬σ a=σ b->qK 275 MQ (a,()) G (λ(b3:List Int×UT)_ G=>σ b<=2^63-1->∃(V:Nat->List Int×List Int×Nat×UT->Prop),(∃(n:Nat),G=G/\V n ([],b3.1,0,()))/\∀n x,V n x->(x.2.2.1<σ b->x.2.2.1<=2^63-1->∃(h:x.2.2.1<σ b),qK 173 Tc (x.2.1,b[x.2.2.1],()) G (λ(b:qV)(io:List Int×UT)(H'_1:HY)=>∃(V1:Nat->List Int×List Int×qV->Prop),(∃(n:Nat),H'_1=H'_1/\V1 n (x.1,io.1,b.1,()))/\∀n1 x1,V1 n1 x1->((x.2.2.1:Int)<x1.2.2.1->IK x1.2.2.1->IK (x1.2.2.1-1)/\(IK x1.2.2.1->(IK x1.2.2.1->0<=x1.2.2.1)/\∃(h:x1.2.2.1.toNat<σ x1.2.1),letI E:=x1.2.2.1-1;letI F:=x1.2.2.1.toNat;letI I:=IK x1.2.2.1;letI R:=E.toNat;letI P:=IK E;∃(h:F<σ x1.2.1),letI S:=x1.2.1.set R x1.2.1[F];I->P/\(P->(P->0<=E)/\∃(h1:(R<σ x1.2.1)),∃(h2:(R<σ x1.2.1)),P->(P->0<=E)/\∃(h3:(R<σ x1.2.1)),(R<σ x1.2.1)/\(I->(I->0<=x1.2.2.1)/\∃(h4:F<σ S),F<σ S/\(I->P/\(σ x1.1+σ [E])*(8:Nat)<=(2^47:Nat)/\(I->P/\∃m,m<n1/\H'_1=H'_1/\V1 m (x1.1++[E],S.set F x1.2.1[R],E,())))))))/\(¬(x.2.2.1:Int)<x1.2.2.1->x.2.2.1+1<=2^63-1/\∃m,m<n/\H'_1=G/\V m (x1.1,x1.2.1,x.2.2.1+1,()))) X)/\(¬x.2.2.1<σ b->Q (x.1,0,()) () G)) X))) X)) X
theorem Aa3(a b:List Int)(H:HY)(Q:List Int×Int×Unit->UU)(X:PX)(hyp_:Tk a b H Q X):qK 257 Js (a,b,()) H Q X:=by refine Wt (sigs:=sgO) (Pf:=Ss) (pf:=pfT) (F:=Tryz.f257) (n:={lp:=[(11,⟨[(6,.one (.own I6)),(7,.one (.own I6)),(10,.one (.dat I6))],[7,8,28,29,30],τ⟩),(8,⟨[(6,.one (.own I6)),(7,.one (.own I6)),(30,.nat)],[7,28,29],τ⟩)],pr:=[],im:=[]}) (by kernel_rfl) (mpF hyp_ _ ?_);kernel_rfl
end
section
variable {H:HY} {X:PX}
theorem Ae5{l:List Int}{Q:List Int×Unit->UU}(a:σ l<=1000)(h:Q (l,()) () H):qK 275 MQ (l,()) H Q X:=by grind[Aa2,Tj]
theorem Agj{s:List Int}{Q:Unit->List Int×Unit->HP}(r:σ s<=1000)(h:∀l:List Int,σ l=σ s->Q () (l,()) H):qK 276 BJ (s,()) H Q X:=by
 refine wF Tryz.f276 {lp:=[(1,⟨[(0,.one (.own I6)),(2,.nat),(3,.one (.dat I6))],[0],τ⟩)]} (?_:σ s<=2^63-1->σ s<=2^63-1->IK (((σ s):Int)-1)/\∃(V:Nat->List Int×Nat×qV->Prop),(∃(n:Nat),H=H/\V n (s,0,((σ s):Int)-1,()))/\∀n x,V n x->((x.2.1:Int)<x.2.2.1->IK x.2.2.1->(IK x.2.2.1->0<=x.2.2.1)/\∃(h:x.2.2.1.toNat<σ x.1),letI E:=x.2.2.1.toNat;letI I:=IK x.2.2.1;∃(h:E<σ x.1),letI O:=x.1.set x.2.1 x.1[E];x.2.1<=2^63-1->∃(h1:(x.2.1<σ x.1)),∃(h2:(x.2.1<σ x.1)),x.2.1<=2^63-1->∃(h3:(x.2.1<σ x.1)),(x.2.1<σ x.1)/\(I->(I->0<=x.2.2.1)/\∃(h4:E<σ O),E<σ O/\x.2.1+1<=2^63-1/\(I->IK (x.2.2.1-1)/\∃m,m<n/\H=H/\V m (O.set E x.1[x.2.1],x.2.1+1,x.2.2.1-1,()))))/\(¬(x.2.1:Int)<x.2.2.1->Q () (x.1,()) H));refine λ_ _=>⟨Aq.2 (by omega),λn z=>n=σ s-z.2.1/\σ z.1=σ s/\z.2.1<=σ s/\(z.2.1:Int)+z.2.2.1=σ s-1,⟨_,rfl,rfl,rfl,a6 _,by simp⟩,?_⟩
 rintro n ⟨l,i,j,_⟩ ⟨f,g,m,d⟩;have q:n=σ s-i:=f;have c:σ l=σ s:=g;have t:i<=σ s:=m;have p:(i:Int)+j=σ s-1:=d;refine⟨λe _=>?_,λ_=>h l c⟩;have o:(i:Int)<j:=e;have b:j.toNat<σ l:=by omega
 have a:i<σ l:=by omega
 have k:j.toNat<σ (l.set i l[j.toNat]):=by grind
 refine⟨λ_=>by omega,b,b,λ_=>⟨a,a,λ_=>⟨a,a,λ_=>⟨λ_=>by omega,k,k,by grind,λ_=>⟨Aq.2 (by grind),σ s-(i+1),by omega,rfl,rfl,?_,by grind,by grind⟩⟩⟩⟩⟩;grind
theorem Adc{l:List Int}{Q:Bool×Unit->UU}(G:σ l<=1000)(h:∀t:Bool,Q (t,()) () H):qK 274 L8 (l,()) H Q X:=by
 refine wF Tryz.f274 {lp:=[(6,⟨[(4,.arr .bool),(16,.nat)],[0,3,14,15],τ⟩),(2,⟨[(3,.nat)],[0],τ⟩)]} (?_:letI E:=Q (τ,()) () H;∃(V:Nat->Nat×UT->Prop),(∃(n:Nat),H=H/\V n (0,()))/\∀n x,V n x->σ l<=2^63-1->(x.1<σ l->σ l<=2^63-1->∃(V1:Nat->List Bool×Nat×UT->Prop),letI F:=(x.1:Int);(∃(n:Nat),H=H/\V1 n (bi 64 τ,0,()))/\∀n1 x1,V1 n1 x1->(x1.2.1<σ l->x1.2.1<=2^63-1->∃(h:x1.2.1<σ l),letI I:=l[x1.2.1];letI S:=x1.2.1+1;letI O:=S<=2^63-1/\∃m,m<n1/\H=H/\V1 m (x1.1,S,());letI P:=IK (I-F);letI R:=(I-F).toNat;letI W:=0<=I-F;(I<0->E)/\(¬I<0->σ l<=2^63-1->(((σ l):Int)<=I->E)/\(¬((σ l):Int)<=I->IK I->x.1<=2^63-1->P/\(W->(I-F<64->P->(P->W)/\∃(h1:R<64),∃(h2:R<σ x1.1),(x1.1[R]->E)/\(¬x1.1[R]->P->(P->W)/\∃(h3:R<64),R<σ x1.1/\S<=2^63-1/\∃m,m<n1/\H=H/\V1 m (x1.1.set R ν,S,())))/\(¬I-F<64->O))/\(¬W->O))))/\(¬x1.2.1<σ l->x.1+64<=2^63-1/\∃m,m<n/\H=H/\V m (x.1+64,())))/\(¬x.1<σ l->Q (ν,()) () H));refine⟨λn z=>n=σ l+64-z.1/\z.1<=σ l+64,⟨_,rfl,rfl,a6 _⟩,?_⟩;rintro n ⟨b,_⟩ ⟨e,k⟩;have D:n=σ l+64-b:=e;have F:b<=σ l+64:=k;intro _;refine⟨λg _=>?_,λ_=>h ν⟩;have C:b<σ l:=g;refine⟨λn z=>n=σ l-z.2.1/\z.2.1<=σ l/\σ z.1=64,⟨_,rfl,rfl,a6 _,rfl⟩,?_⟩;rintro m ⟨x,i,_⟩ ⟨c,j,d⟩;have I:m=σ l-i:=c;have E:i<=σ l:=j;have q:σ x=64:=d;refine⟨λf _=>?_,λ_=>⟨by grind,σ l+64-(b+64),by omega,rfl,rfl,by grind⟩⟩;have p:i<σ l:=f;have a:∀y:List Bool,σ y=64->i+1<=9223372036854775807/\∃w,w<m/\H=H/\w=σ l-(i+1)/\i+1<=σ l/\σ y=64:=λy B=>⟨by omega,σ l-(i+1),by omega,rfl,rfl,by omega,B⟩
 refine⟨p,λ_=>h τ,λr _=>⟨λ_=>h τ,λv _ _=>⟨Aq.2 ?_,λo=>⟨λu _=>⟨λ_=>o,?_⟩,λ_=>a x q⟩,λ_=>a x q⟩⟩⟩
 .omega
 .have o:0<=l[i]-(b:Int):=o;have u:l[i]-(b:Int)<64:=u;have s:(l[i]-(b:Int)).toNat<64:=by omega
  have A:(l[i]-(b:Int)).toNat<σ x:=by omega
  exact⟨s,A,λ_=>h τ,λ_ _=>⟨λ_=>o,s,A,a _ (by grind)⟩⟩
theorem Al4{s:List Int}{v:Int}{Q:Int×Unit->List Int×Unit->HP}(p:σ s<=1000)(h:∀i:Int,-1<=i->i<σ s->Q (i,()) (s,()) H):qK 173 Tc (s,v,()) H Q X:=by
 apply Ap9;unfold Aeh;refine λ_=>⟨λn z=>n=σ s-z.2.1.toNat/\z.1=s/\0<=z.2.1/\z.2.1<=σ s,⟨_,rfl,rfl,rfl,by simp,by simp⟩,?_⟩
 rintro n ⟨l,i,_⟩ ⟨d,f,e,c⟩;have o:n=σ s-i.toNat:=d;have j:l=s:=f;have k:0<=i:=e;have m:i<=σ s:=c;subst j;refine⟨λb _=>?_,λ_=>h (-1) (by omega) (by omega)⟩;have g:i<(σ l:Int):=b;have a:i.toNat<σ l:=by omega
 exact⟨λ_=>k,a,a,λ_=>h i (by omega) g,λ_ _=>⟨Aq.2 (by grind),σ l-(i+1).toNat,by omega,rfl,rfl,rfl,by grind,by grind⟩⟩
theorem Anx{a b:List Int}{Q:List Int×Int×Unit->UU}(S:σ a<=64)(O:σ b<=64)(h:∀l e,σ l<=1000000->Q (l,e,()) () H):qK 257 Js (a,b,()) H Q X:=by
 apply Aa3;unfold Tk;refine Adc (by omega) λN=>⟨λ_=>h _ _ (a6 _),λ_=>Adc (by omega) λR=>⟨λ_=>h _ _ (a6 _),λ_ _ _=>⟨λ_=>h _ _ (a6 _),λ_=>Ae5 (by omega) λ_=>?_⟩⟩⟩
 refine⟨λn z=>n=σ b-z.2.2.1/\z.2.2.1<=σ b/\σ z.2.1=σ a/\σ z.1<=64*z.2.2.1,⟨_,rfl,rfl,a6 _,rfl,a6 _⟩,?_⟩;rintro n ⟨l,w,i,_⟩ ⟨o,v,t,q⟩;have M:n=σ b-i:=o;have P:i<=σ b:=v;have J:σ w=σ a:=t;have V:σ l<=64*i:=q;refine⟨λx _=>?_,λ_=>h l 0 (by omega)⟩;have D:i<σ b:=x;refine⟨D,Al4 (by grind) λr K C=>?_⟩;have C:r<(σ w:Int):=C;refine⟨λm z=>m=z.2.2.1.toNat/\σ z.2.1=σ a/\z.2.2.1<σ w/\(σ z.1:Int)<=64*i+(64-1-z.2.2.1)/\-1<=z.2.2.1,⟨_,rfl,rfl,J,C,by grind,K⟩,?_⟩;rintro m ⟨A,g,j,_⟩ ⟨k,c,s,f,d⟩;have T:m=j.toNat:=k;have u:σ g=σ a:=c;have U:j<(σ w:Int):=s;have G:(σ A:Int)<=64*i+(64-1-j):=f;have I:-1<=j:=d;refine⟨λp _=>?_,λ_=>⟨by grind,σ b-(i+1),by omega,rfl,rfl,by grind,u,by grind⟩⟩;have L:(i:Int)<j:=p;have E:j.toNat<σ g:=by omega
 have B:(j-1).toNat<σ g:=by omega
 have y:Bl .i64 (j-1):=Aq.2 (by omega);have F:j.toNat<σ (g.set (j-1).toNat g[j.toNat]):=by grind
 refine⟨y,λ_=>⟨λ_=>by omega,E,E,λ_=>⟨y,λ_=>⟨λ_=>by omega,B,B,λ_=>⟨λ_=>by omega,B,B,λ_=>⟨λ_=>by omega,F,F,λ_=>⟨y,by grind,λ_=>⟨y,(j-1).toNat,by omega,rfl,rfl,?_,by grind,?_,by grind⟩⟩⟩⟩⟩⟩⟩⟩;all_goals grind
theorem Axt:Arx:=by intro o H X Q b h;grind[Adp,Vp,Ae5,Agj,Anx]
end
theorem As6{v:Al}(h:Arv v):DC v=QS v-FW v+1:=by
 unfold DC;by_cases a:v.Bool=ν
 .rw[UV a,Ajh a,Aea a];rfl
 .obtain⟨e,d,c,b⟩:=h.nu (by simpa using a);rw[GT a,GT (by omega),Aw1 a,Apt a,Int.min_eq_left (by omega)]
theorem Abc{l:List Al}(b:NP l){a:B.As}{next:Bool}{i:Nat}(hi:i<σ l):CB (AM l) next i a=if Tg l a next (AM l) i=ν then φ (rdV l a next (AM l) i) else ψ:=by
 have e:rdV l a next (AM l) i=FW l[i]+(CE a (Cu (AM l) i next):Int):=by unfold rdV;rw[a4 hi];rfl
 have d:Tg l a next (AM l) i=δ ((CE a (Cu (AM l) i next):Int)<DC l[i]):=by unfold Tg;rw[a4 hi];rfl
 have f:=As6 (b.ok i hi);rw[e,d];unfold CB;rw[show (AM l).Aa[i]?=φ l[i] from a4 hi];show (if FW l[i]+(CE a (Cu (AM l) i next):Int)<=QS l[i] then _ else _)=_;generalize (CE a (Cu (AM l) i next):Int)=c;by_cases h:FW l[i]+c<=QS l[i]
 .rw[UV h,UV (decide_eq_true (by omega))]
 .rw[GT h,GT (by rw[decide_eq_true_iff];omega)]
section
variable {L:Ae} {i:Nat} {n:Bool}
theorem Agc(hL:LK L){j:Nat}{m:Bool}{v:Int}(hi:i<σ L.Aa)(hj:j<σ L.Aa)(h1:v∈Cu L i n)(h2:v∈Cu L j m):i=j/\n=m:=by
 have get:∀{i:Nat}{n:Bool}(hi:i<σ L.Aa),v∈Cu L i n->∃k:Nat,Dj L.Bits i+(k:Int)<Dj L.Bits (i+1)/\v=2*(Dj L.Bits i+(k:Int))+if n=ν then 1 else 0:=λ{i n}hi h=>by
  have hib:i<σ L.Bits:=by rw[hL.lb];exact hi
  obtain⟨k,hk,e⟩:=List.mem_iff_getElem.1 h;have hk2:k<L.Bits[i].toNat:=by grind[QB]
  have g:=Zh hL hi hib hk2 (next:=n);grind[a4,Ek,ad]
 have mono:∀{i j:Nat},i<j->j<σ L.Aa->Dj L.Bits (i+1)<=Dj L.Bits j:=λ{i j}h hj=>hL.Pq h (by rw[hL.lb];omega);obtain⟨k,k1,k2⟩:=get hi h1;obtain⟨q,q1,q2⟩:=get hj h2;rcases Nat.lt_trichotomy i j with h|h|h
 all_goals grind
open Classical in
noncomputable def UK(L:Ae)(a:B.As):B.As:=λv=>a v&&δ (∃i n,i<σ L.Aa/\v∈Cu L i n/\(CB L n i a).isSome=ν)
variable {a:B.As}
open Classical in
theorem Ajr(hi:i<σ L.Aa)(h:(CB L n i a).isSome=ν):∀v∈Cu L i n,UK L a v=a v:=λv hv=>by unfold UK;rw[decide_eq_true ⟨i,n,hi,hv,h⟩,Bool.and_true]
open Classical in
theorem Aqr(hL:LK L)(hi:i<σ L.Aa)(h:CB L n i a=ψ):∀v∈Cu L i n,UK L a v=τ:=λv hv=>by unfold UK;rw[decide_eq_false,Bool.and_false];rintro⟨j,m,hj,h1,h2⟩;obtain⟨rfl,rfl⟩:=Agc hL hi hj hv h1;grind
theorem XR{a:B.As}:∀{l:List Int},(∀v∈l,a v=τ)->CE a l=0
 | [],_=>rfl
 |v::l,h=>by rw[Hw,h v ag,XR λu hu=>h u (b6 _ hu)];rfl
def Ry(L:Ae)(n:Bool)(a:B.As)(i:Nat):Int:=(CB L n i a).getD ((L.Aa[i]?.map FW).getD 0)
theorem ZF(hL:JJ L)(hi:i<σ L.Aa):CB L n i (UK L a)=φ (Ry L n a i):=by
 unfold Ry;cases h:CB L n i a with
 |some x=>
  rw[az,<-h];unfold CB;rw[MZ (Ajr hi (by grind))]
 |none=>
  have h1:=(hL.fit i hi (by rw[hL.lb];exact hi)).1;unfold CB;rw[XR (Aqr hL.toLK hi h),a4 hi];grind
theorem Atb{t:Ab}(h:∀op nm,Vi op nm t->(op=3∨op=4)->AY L.Aa nm<σ L.Aa/\(CB L (δ (op=4)) (AY L.Aa nm) a).isSome=ν):(Bq L t).1 (UK L a)=(Bq L t).1 a/\(Bq L t).2 (UK L a)=(Bq L t).2 a:=Agb _ t (ac _) λop nm hh o=>Ajr (h op nm hh o).1 (h op nm hh o).2
end
section
set_option maxRecDepth 100000
set_option maxHeartbeats 2000000
def JP(t:Ab)(deep parts:Int)(H:HY)(Q:Int×qV->UU)(X:PX):=letI E:=parts+1;letI F:=σ t.qZ;IK parts->IK E/\qK 175 DX (t,deep,()) H (λ(b:qV)_ G=>(¬b.1=0->Q (b.1,E,()) () G)/\(¬¬b.1=0->(4096<E->Q (4,E,()) () G)/\(¬4096<E->∃(V:Nat->Int×Nat×UT->Prop),(∃(n:Nat),G=G/\V n (E,0,()))/\∀n x,V n x->F<=2^63-1->(x.2.1<F->x.2.1<=2^63-1->∃(h:x.2.1<F),IK deep->IK (deep+1)/\qK 111 Dt (t.qZ[x.2.1],deep+(1:den Y0.D (Ty.int .i64)),x.1,()) G (λ(b:Int×qV)(io:UT)(H'_1:HY)=>(¬b.1=0->Q (b.1,b.2.1,()) () H'_1)/\(¬¬b.1=0->x.2.1+1<=2^63-1/\∃m,m<n/\H'_1=G/\V m (b.2.1,x.2.1+1,()))) X)/\(¬x.2.1<F->Q (0,x.1,()) () G)))) X
theorem OV t deep parts H Q X(h_:JP t deep parts H Q X):qK 111 Dt (t,deep,parts,()) H Q X:=wF Tryz.f111 {lp:=[(8,⟨[(2,.one (.dat I6)),(9,.nat)],[1,3],τ⟩)],im:=[3]} h_
def JM(vars:List Al)(t:Ab)(EK:Bool)(H:HY)(Q:Af×qV->UU)(X:PX):=letI F:=λ(b:Af×qV)_ G=>Q (b.1,b.2.1,()) () G;letI I:=σ vars;letI O:={Bool:=τ,Lo:=0,Hi:=0:Af};letI P:={Bool:=ν,Lo:=0,Hi:=0:Af};letI S:=t.Op=4;letI E:=qK 113 Dv (vars,t.qJ,()) H (λ(b:qV)_ G=>(b.1<0->Q (O,12,()) () G)/\(¬b.1<0->(S->(¬EK->Q (O,24,()) () G)/\(¬¬EK->IK b.1->(IK b.1->0<=b.1)/\∃(h:b.1.toNat<I),(vars[b.1.toNat].Bool->Q (P,0,()) () G)/\(¬vars[b.1.toNat].Bool->IK b.1->(IK b.1->0<=b.1)/\∃(h:b.1.toNat<I),IK b.1->(IK b.1->0<=b.1)/\∃(h1:b.1.toNat<I),qK 112 AL (vars[b.1.toNat].Lo,vars[b.1.toNat].Hi,()) G F X)))/\(¬S->IK b.1->(IK b.1->0<=b.1)/\∃(h:b.1.toNat<I),(vars[b.1.toNat].Bool->Q (P,0,()) () G)/\(¬vars[b.1.toNat].Bool->IK b.1->(IK b.1->0<=b.1)/\∃(h:b.1.toNat<I),IK b.1->(IK b.1->0<=b.1)/\∃(h1:b.1.toNat<I),qK 112 AL (vars[b.1.toNat].Lo,vars[b.1.toNat].Hi,()) G F X)))) X;letI R:=σ t.qZ;(t.Op=1->qK 112 AL (t.N,t.N,()) H F X)/\(¬t.Op=1->(t.Op=2->Q (P,0,()) () H)/\(¬t.Op=2->(t.Op=3->E)/\(¬t.Op=3->(S->E)/\(¬S->∃(V:Nat->(Bool×Int×qV)×List Af×Nat×UT->Prop),(∃(n:Nat),H=H/\V n ((τ,0,0,()),[],0,()))/\∀n x,V n x->R<=2^63-1->(x.2.2.1<R->x.2.2.1<=2^63-1->∃(h:x.2.2.1<R),qK 45 EE (vars,t.qZ[x.2.2.1],EK,()) H (λ(b:Af×qV)_ G=>(¬b.2.1=0->Q (O,b.2.1,()) () G)/\(¬¬b.2.1=0->(σ x.2.1+σ [b.1])*24<=2^47/\x.2.2.1+1<=2^63-1/\∃m,m<n/\G=H/\V m ((x.1.1,x.1.2.1,x.1.2.2.1,()),x.2.1++[b.1],x.2.2.1+1,()))) X)/\(¬x.2.2.1<R->qK 114 GP (t,x.2.1,()) H F X)))))
theorem OS vars t EK H Q X(h_:JM vars t EK H Q X):qK 45 EE (vars,t,EK,()) H Q X:=wF Tryz.f45 {lp:=[(18,⟨[(6,.blk [.dat .bool,.dat I6,.dat I6]),(9,.one (.own (.u 5))),(10,.nat)],[0,2,4],τ⟩)],im:=[4]} h_
def Lr(n:Int)(H:HY)(Q:qU->UU)(_:PX):=(n < -9007199254740992->Q (ν,()) () H)/\(¬n < -9007199254740992->Q (δ (9007199254740992<n),()) () H)
theorem Rb n H Q X(h_:Lr n H Q X):qK 180 CX (n,()) H Q X:=wF Tryz.f180 {} h_
def JN(yes:Bool)(H:HY)(Q:qV->UU)(_:PX):=(yes->Q (1,()) () H)/\(¬yes->Q (0,()) () H)
theorem OT yes H Q X(h_:JN yes H Q X):qK 179 Av (yes,()) H Q X:=wF Tryz.f179 {} h_
def JL(vars:List Al)(t:Ab)(s n:List Int)(H:HY)(Q:Int×qU->UU)(X:PX):=letI E:=λ(b:qV)_ G=>qK 180 CX (b.1,()) G (λ(b1:qU)_ G=>Q (b.1,δ ¬b1.1=ν,()) () G) X;letI S:=λ(b:qV)_ G=>Q (b.1,ν,()) () G;letI B:=t.Op=3;letI F:=qK 113 Dv (vars,t.qJ,()) H (λ(b:qV)_ G=>(B->IK b.1->(IK b.1->0<=b.1)/\∃(h:b.1.toNat<σ s),IK b.1->(IK b.1->0<=b.1)/\∃(h1:b.1.toNat<σ vars),(vars[b.1.toNat].Bool->qK 179 Av (δ ¬s[b.1.toNat]=0,()) G S X)/\(¬vars[b.1.toNat].Bool->qK 180 CX (s[b.1.toNat],()) G (λ(b1:qU)_ G=>Q (s[b.1.toNat],δ ¬b1.1=ν,()) () G) X))/\(¬B->IK b.1->(IK b.1->0<=b.1)/\∃(h:b.1.toNat<σ n),IK b.1->(IK b.1->0<=b.1)/\∃(h1:b.1.toNat<σ vars),(vars[b.1.toNat].Bool->qK 179 Av (δ ¬n[b.1.toNat]=0,()) G S X)/\(¬vars[b.1.toNat].Bool->qK 180 CX (n[b.1.toNat],()) G (λ(b1:qU)_ G=>Q (n[b.1.toNat],δ ¬b1.1=ν,()) () G) X))) X;letI I:=a8 (1:Int);letI O:=a8 (0:Int);letI P:=True->(0:Int)<=0;letI R:=True->(0:Int)<=1;letI W:=Q (t.N,ν,()) () H;letI Y:=t.Op=6;letI C:=t.Op=7;letI A:=σ t.qZ;(t.Op=1->W)/\(¬t.Op=1->(t.Op=2->W)/\(¬t.Op=2->(B->F)/\(¬B->(t.Op=4->F)/\(¬t.Op=4->∃(V:Nat->List Int×Int×Nat×UT->Prop),(∃(n:Nat),H=H/\V n ([],0,0,()))/\∀n1 x,V n1 x->A<=2^63-1->(x.2.2.1<A->x.2.2.1<=2^63-1->∃(h:x.2.2.1<A),letI Z:=x.2.2.1+1;qK 118 GU (vars,t.qZ[x.2.2.1],s,n,()) H (λ(b:Int×qU)_ G=>letI T:=IK x.2.1->IK b.1->IK (x.2.1+b.1)/\Z<=2^63-1/\∃m,m<n1/\G=H/\V m (x.1++[b.1],x.2.1+b.1,Z,());(¬b.2.1->Q (0,τ,()) () G)/\(¬¬b.2.1->(σ x.1+σ [b.1])*8<=2^47/\(Y->T)/\(¬Y->(C->T)/\(¬C->Z<=2^63-1/\∃m,m<n1/\G=H/\V m (x.1++[b.1],x.2.1,Z,()))))) X)/\(¬x.2.2.1<A->(t.Op=5->P/\∃(h:O<σ x.1),∃(h:O<σ x.1),letI U:=x.1[O];IK U->IK (1-U)/\qK 180 CX ((1:den Y0.D (Ty.int .i64))-U,()) H (λ(b:qU)_ G=>Q (1-U,δ ¬b.1=ν,()) () G) X)/\(¬t.Op=5->(Y->σ x.1<=2^63-1->qK 179 Av (δ (x.2.1=((σ x.1):Int)),()) H E X)/\(¬Y->(C->qK 179 Av (δ (0<x.2.1),()) H E X)/\(¬C->(t.Op=8->P/\∃(h:O<σ x.1),∃(h:O<σ x.1),(x.1[O]=0->qK 179 Av (ν,()) H E X)/\(¬x.1[O]=0->R/\∃(h:I<σ x.1),∃(h:I<σ x.1),qK 179 Av (δ (x.1[I]=1),()) H E X))/\(¬t.Op=8->(t.Op=9->P/\∃(h:O<σ x.1),letI L:=σ x.1;R/\∃(h:I<L),(∃(h:O<L),∃(h1:I<L),qK 179 Av (δ (x.1[O]=x.1[I]),()) H E X)/\∃(h:I<L),∃(h1:O<L),qK 179 Av (δ (x.1[O]=x.1[I]),()) H E X)/\(¬t.Op=9->(t.Op=10->P/\∃(h:O<σ x.1),letI J:=σ x.1;R/\∃(h:I<J),(∃(h:O<J),∃(h1:I<J),qK 179 Av (δ (x.1[O]=x.1[I]),()) H E X)/\∃(h:I<J),∃(h1:O<J),qK 179 Av (δ (x.1[O]=x.1[I]),()) H E X)/\(¬t.Op=10->(t.Op=11->P/\∃(h:O<σ x.1),letI K:=σ x.1;R/\∃(h:I<K),(∃(h:O<K),∃(h1:I<K),qK 179 Av (δ ¬x.1[O]=x.1[I],()) H E X)/\∃(h:I<K),∃(h1:O<K),qK 179 Av (δ ¬x.1[O]=x.1[I],()) H E X)/\(¬t.Op=11->(t.Op=12->P/\∃(h:O<σ x.1),R/\∃(h:I<σ x.1),(∃(h:O<σ x.1),∃(h1:I<σ x.1),qK 179 Av (δ (x.1[O]<x.1[I]),()) H E X)/\∃(h:I<σ x.1),∃(h1:O<σ x.1),qK 179 Av (δ (x.1[O]<x.1[I]),()) H E X)/\(¬t.Op=12->(t.Op=13->P/\∃(h:O<σ x.1),R/\∃(h:I<σ x.1),(∃(h:O<σ x.1),∃(h1:I<σ x.1),qK 179 Av (δ (x.1[O]<=x.1[I]),()) H E X)/\∃(h:I<σ x.1),∃(h1:O<σ x.1),qK 179 Av (δ (x.1[O]<=x.1[I]),()) H E X)/\(¬t.Op=13->(t.Op=14->P/\∃(h:O<σ x.1),∃(h:O<σ x.1),R/\∃(h1:I<σ x.1),∃(h2:I<σ x.1),IK x.1[O]->IK x.1[I]->IK (x.1[O]+x.1[I])/\qK 180 CX (x.1[O]+x.1[I],()) H (λ(b:qU)_ G=>Q (x.1[O]+x.1[I],δ ¬b.1=ν,()) () G) X)/\(¬t.Op=14->(t.Op=15->P/\∃(h:O<σ x.1),∃(h:O<σ x.1),R/\∃(h1:I<σ x.1),∃(h2:I<σ x.1),IK x.1[O]->IK x.1[I]->IK (x.1[O]-x.1[I])/\qK 180 CX (x.1[O]-x.1[I],()) H (λ(b:qU)_ G=>Q (x.1[O]-x.1[I],δ ¬b.1=ν,()) () G) X)/\(¬t.Op=15->(t.Op=16->P/\∃(h:O<σ x.1),∃(h:O<σ x.1),(¬x.1[O]=0->R/\∃(h:I<σ x.1),∃(h:I<σ x.1),P/\∃(h1:O<σ x.1),qK 181 EG (x.1[I],()) H (λ(b:qV)_ G=>∃(h:O<σ x.1),qK 181 EG (x.1[O],()) G (λ(b1:qV)_ G=>IK b1.1->¬b1.1=0/\IK (bk (9007199254740992:Int) b1.1)/\(bk (9007199254740992:Int) b1.1<b.1->Q ((0:Int),τ,()) () G)/\(¬bk (9007199254740992:Int) b1.1<b.1->P/\∃(h:O<σ x.1),∃(h:O<σ x.1),R/\∃(h2:I<σ x.1),∃(h3:I<σ x.1),IK x.1[O]->IK x.1[I]->IK (x.1[O]*x.1[I])/\qK 180 CX (x.1[O]*x.1[I],()) G (λ(b:qU)_ G=>Q (x.1[O]*x.1[I],δ ¬b.1=ν,()) () G) X)) X) X/\∃(h2:O<σ x.1),qK 181 EG (x.1[I],()) H (λ(b:qV)_ G=>qK 181 EG (x.1[O],()) G (λ(b1:qV)_ G=>IK b1.1->¬b1.1=0/\IK (bk (9007199254740992:Int) b1.1)/\(bk (9007199254740992:Int) b1.1<b.1->Q ((0:Int),τ,()) () G)/\(¬bk (9007199254740992:Int) b1.1<b.1->P/\∃(h:O<σ x.1),∃(h:O<σ x.1),R/\∃(h3:I<σ x.1),∃(h4:I<σ x.1),IK x.1[O]->IK x.1[I]->IK (x.1[O]*x.1[I])/\qK 180 CX (x.1[O]*x.1[I],()) G (λ(b:qU)_ G=>Q (x.1[O]*x.1[I],δ ¬b.1=ν,()) () G) X)) X) X)/\(¬¬x.1[O]=0->dup (P/\∃(h:O<σ x.1),∃(h:O<σ x.1),R/\∃(h1:I<σ x.1),∃(h2:I<σ x.1),IK x.1[O]->IK x.1[I]->IK (x.1[O]*x.1[I])/\qK 180 CX (x.1[O]*x.1[I],()) H (λ(b:qU)_ G=>Q (x.1[O]*x.1[I],δ ¬b.1=ν,()) () G) X)))/\(¬t.Op=16->(t.Op=17->P/\∃(h:O<σ x.1),∃(h:O<σ x.1),R/\∃(h1:I<σ x.1),∃(h2:I<σ x.1),IK x.1[O]->IK x.1[I]->¬x.1[I]=0/\IK (x.1[O].tmod x.1[I])/\R/\∃(h3:I<σ x.1),∃(h4:I<σ x.1),IK (x.1[O].tmod x.1[I])->IK x.1[I]->IK (x.1[O].tmod x.1[I]+x.1[I])/\R/\∃(h5:I<σ x.1),∃(h6:I<σ x.1),IK (x.1[O].tmod x.1[I]+x.1[I])->IK x.1[I]->¬x.1[I]=0/\IK ((x.1[O].tmod x.1[I]+x.1[I]).tmod x.1[I])/\qK 180 CX ((x.1[O].tmod x.1[I]+x.1[I]).tmod x.1[I],()) H (λ(b:qU)_ G=>Q ((x.1[O].tmod x.1[I]+x.1[I]).tmod x.1[I],δ ¬b.1=ν,()) () G) X)/\(¬t.Op=17->(t.Op=18->(True->(0:Int)<=2)/\∃(h:a8 (2:Int)<σ x.1),∃(h:a8 (2:Int)<σ x.1),P/\∃(h1:O<σ x.1),∃(h2:O<σ x.1),(x.1[O]=1->R/\∃(h:I<σ x.1),∃(h:I<σ x.1),qK 180 CX (x.1[I],()) H (λ(b:qU)_ G=>Q (x.1[I],δ ¬b.1=ν,()) () G) X)/\(¬x.1[O]=1->qK 180 CX (x.1[a8 (2:Int)],()) H (λ(b:qU)_ G=>Q (x.1[a8 (2:Int)],δ ¬b.1=ν,()) () G) X))/\(¬t.Op=18->qK 180 CX ((0:den Y0.D (Ty.int .i64)),()) H (λ(b:qU)_ G=>Q (0,δ ¬b.1=ν,()) () G) X)))))))))))))))))))
theorem OQ vars t s n H Q X(h_:JL vars t s n H Q X):qK 118 GU (vars,t,s,n,()) H Q X:=wF Tryz.f118 {lp:=[(18,⟨[(12,.one (.own I6)),(13,.one (.dat I6)),(14,.nat)],[0,2,3,5],τ⟩)],im:=[5]} h_
def JQ(t:Ab)(H:HY)(Q:qU->UU)(X:PX):=letI E:=σ t.qZ;(t.Op=4->Q (ν,()) () H)/\(¬t.Op=4->∃(V:Nat->Nat×UT->Prop),(∃(n:Nat),H=H/\V n (0,()))/\∀n x,V n x->E<=2^63-1->(x.1<E->x.1<=2^63-1->∃(h:x.1<E),qK 117 Du (t.qZ[x.1],()) H (λ(b:qU)_ G=>(b.1->Q (ν,()) () G)/\(¬b.1->x.1+1<=2^63-1/\∃m,m<n/\G=H/\V m (x.1+1,()))) X)/\(¬x.1<E->Q (τ,()) () H))
theorem OW t H Q X(h_:JQ t H Q X):qK 117 Du (t,()) H Q X:=wF Tryz.f117 {lp:=[(4,⟨[(3,.nat)],[1],τ⟩)],im:=[1]} h_
def JO(t:Ab)(op:Int)(l:List ByteArray)(H:HY)(Q:List ByteArray×UT->UU)(X:PX):=letI E:=σ t.qZ;(t.Op=op->qK 178 GQ (l,t.qJ,()) H (λ(b:List ByteArray×UT)_ G=>∃(V:Nat->List ByteArray×Nat×UT->Prop),(∃(n:Nat),G=G/\V n (b.1,0,()))/\∀n x,V n x->E<=2^63-1->(x.2.1<E->x.2.1<=2^63-1->∃(h:x.2.1<E),qK 115 BI (t.qZ[x.2.1],op,x.1,()) G (λ(b:List ByteArray×UT)(io:UT)(H'_1:HY)=>x.2.1+1<=2^63-1/\∃m,m<n/\H'_1=G/\V m (b.1,x.2.1+1,())) X)/\(¬x.2.1<E->Q (x.1,()) () G)) X)/\(¬t.Op=op->∃(V:Nat->List ByteArray×Nat×UT->Prop),(∃(n:Nat),H=H/\V n (l,0,()))/\∀n x,V n x->E<=2^63-1->(x.2.1<E->x.2.1<=2^63-1->∃(h:x.2.1<E),qK 115 BI (t.qZ[x.2.1],op,x.1,()) H (λ(b:List ByteArray×UT)_ G=>x.2.1+1<=2^63-1/\∃m,m<n/\G=H/\V m (b.1,x.2.1+1,())) X)/\(¬x.2.1<E->Q (x.1,()) () H))
theorem OU t op l H Q X(h_:JO t op l H Q X):qK 115 BI (t,op,l,()) H Q X:=wF Tryz.f115 {lp:=[(4,⟨[(2,.one (.dat (.sl .str))),(7,.nat)],[1,3],τ⟩)],im:=[3]} h_
end
section
variable {H:HY} {X:PX}
theorem Y7{op:Int}{Q:Int×Int×Unit->UU}(h:Q ((Ft op).1,(Ft op).2,()) () H):qK 224 HI (op,()) H Q X:=by
 refine wF Tryz.f224 {} (?_:letI E:=Q (0,0,()) () H;letI F:=Q ((-1:Int),(-1:Int),()) () H;letI I:=Q (1,64,()) () H;(op=1->E)/\(¬op=1->(op=2->E)/\(¬op=2->(op=3->E)/\(¬op=3->(op=4->E)/\(¬op=4->(op=5->Q (1,1,()) () H)/\(¬op=5->(op=6->I)/\(¬op=6->(op=7->I)/\(¬op=7->(op=18->Q (3,3,()) () H)/\(¬op=18->(op<1->F)/\(¬op<1->(18<op->F)/\(¬18<op->Q (2,2,()) () H)))))))))));have key:∀a b,Ft op=(a,b)->Q (a,b,()) () H:=λa b e=>by grind
 repeat' (first|(refine br ?_ ?_)|intro _)
 all_goals grind[Ft]
variable {Q:Int×Unit->UU}
set_option maxHeartbeats 4000000 in
theorem Y6{t:Ab}{deep:Int}(h:Q (if 64<deep then 17 else CF t,()) () H):qK 175 DX (t,deep,()) H Q X:=by
 refine wF Tryz.f175 {im:=[2]} (?_:letI E:=σ t.qZ;letI F:=t.qJ.size;letI I:=¬t.qJ={data:={toList:=[]:Array UInt8}:ByteArray};letI Y:=t.Op=4;letI O:=¬Y;letI P:=t.Op=3;letI R:=¬24<F;letI S:=¬F<1;letI W:=t.N<(-255:Int);letI B:=t.Op=2;letI C:=1<t.N;letI D:=t.N<0;(64<deep->Q (17,()) () H)/\(¬64<deep->qK 224 HI (t.Op,()) H (λ(b:Int×qV)_ G=>letI K:=Q (3,()) () G;letI Z:=E<=2^63-1->((E:Int)<b.1->K)/\(¬(E:Int)<b.1->E<=2^63-1->(b.2.1<(E:Int)->K)/\(¬b.2.1<(E:Int)->Q (0,()) () G));letI U:=Q (12,()) () G;letI L:=(O->(I->U)/\(¬I->Z))/\(¬O->Z);letI A:=(P->F<=2^63-1->(F<1->U)/\(S->F<=2^63-1->(24<F->U)/\(R->Z)))/\(¬P->(Y->F<=2^63-1->(F<1->U)/\(S->F<=2^63-1->(24<F->U)/\(R->L)))/\(O->L));letI T:=Q (2,()) () G;letI J:=(C->T)/\(¬C->A);(b.1<0->Q (11,()) () G)/\(¬b.1<0->(t.Op=1->(B->(W->T)/\(¬W->J))/\(¬B->(W->T)/\(¬W->(255<t.N->T)/\(¬255<t.N->A))))/\(¬t.Op=1->(B->(D->T)/\(¬D->J))/\(¬B->(D->T)/\(¬D->(0<t.N->T)/\(¬0<t.N->A)))))) X));refine⟨λhd=>by rw[UV hd]at h;exact h,λhd=>Y7 ?_⟩;rw[GT hd]at h;simp only[Xi];have key:∀c,CF t=c->Q _ () H:=λc e=>by rw[e]at h;exact h
 generalize hk:Ft t.Op=kk at *;obtain⟨few,many⟩:=kk;simp only;obtain⟨le,mo,w11,w2,w12,w3,w0,l1,l2,l3⟩:=NV t hk;generalize CF t=w at *;repeat' (first|(refine br ?_ ?_)|intro _)
 all_goals grind
theorem P2{X:PX}:∀(z:Nat)(t:Ab){parts deep:Int}{H:HY}{Q:Int×Int×Unit->UU},SizeOf.sizeOf t<z->(0<=parts/\parts<=4096)->(0<=deep/\deep<=1000)->(parts<=(Im deep parts t).1->((Im deep parts t).2=0->(Im deep parts t).1<=4096)->Q ((Im deep parts t).2,(Im deep parts t).1,()) () H)->qK 111 Dt (t,deep,parts,()) H Q X
 |0,_,_,_,_,_,hz,_,_,_=>qG hz (a9 _)
 |z+1,t,parts,deep,H,Q,hz,hn,hd,h=>by
  apply OV;unfold JP;refine λ_=>⟨Aq.2 (by omega),Y6 ?_⟩
  rw[Ua]at h;by_cases a1:64<deep
  .grind
  rw[GT a1]at h ⊢;by_cases a2:CF t=0
  .rw[UV a2]at h;refine⟨λhh=>qG a2 hh,λ_=>⟨λh2=>?_,λh2=>?_⟩⟩
   .grind
   rw[GT h2]at h;refine⟨λm y=>m=σ t.qZ-y.2.1/\y.2.1<=σ t.qZ/\EY (deep+1) (parts+1) (t.qZ.take y.2.1)=(y.1,0)/\parts+1<=y.1/\y.1<=4096,⟨_,rfl,rfl,a6 _,?_,by omega,by omega⟩,?_⟩
   .rfl
   rintro m ⟨p,i,_⟩ ⟨hm0,hi0,hc0,hp0,hq0⟩ _;have hi:=hi0;have hc:=hc0;have hm:m=σ t.qZ-i:=hm0;have hp:=hp0;have hq:=hq0;refine⟨λhlt0 _=>?_,λhge0=>?_⟩
   .have hlt:i<σ t.qZ:=hlt0;have hsz:SizeOf.sizeOf t.qZ[i]<z:=by have:=Hj (ab hlt);omega
    have htk:=a5 hlt;have hsn:=Sy _ t.qZ[i] _ _ _ hc;rw[<-htk]at hsn;refine⟨hlt,λ_=>⟨Aq.2 (by omega),?_⟩⟩;refine P2 z _ hsz (by omega) (by omega) λl1 l2=>⟨λhf=>?_,λhz0=>⟨by grind,σ t.qZ-(i+1),by omega,rfl,rfl,by grind,?_,?_,?_⟩⟩
    all_goals grind[Im,EY,UY,an]
   grind
  grind
theorem WN{t:Ab}(h:Q ((Im 1 0 t).2,()) () H):qK 44 Gr (t,()) H Q X:=by refine wF Tryz.f44 {im:=[1]} (?_:qK 111 Dt (t,1,0,()) H (λ(b:Int×qV)_ G=>Q (b.1,()) () G) X);exact P2 _ t (ac _) (by decide) (by decide) λ_ _=>h
theorem P4{vars:List Al}{nm:ByteArray}(hv:σ vars<=1000)(h:Q (if AY vars nm<σ vars then (AY vars nm:Int) else -1,()) () H):qK 113 Dv (vars,nm,()) H Q X:=by
 refine wF Tryz.f113 {lp:=[(2,⟨[(5,.one (.dat I6))],[0,1],τ⟩)]} (?_:letI E:=σ vars;∃(V:Nat->qV->Prop),(∃(n:Nat),H=H/\V n (0,()))/\∀n x,V n x->E<=2^63-1->(x.1<(E:Int)->IK x.1->(IK x.1->0<=x.1)/\∃(h:x.1.toNat<E),letI F:=vars[x.1.toNat].qJ=nm;(F->Q (x.1,()) () H)/\(¬F->IK x.1->IK (x.1+1)/\∃m,m<n/\H=H/\V m (x.1+1,())))/\(¬x.1<(E:Int)->Q ((-1:Int),()) () H));refine⟨λn z=>∃j:Nat,z.1=j/\n=σ vars-j/\j<=σ vars/\j<=AY vars nm,⟨_,rfl,0,rfl,rfl,a6 _,a6 _⟩,?_⟩;rintro n ⟨x,_⟩ ⟨j,hx0,hn,hl,hj⟩ _;have hx:=hx0;subst hx;have t0:=by omega
 refine⟨λhlt0 _=>⟨λ_=>by omega,by omega,λhe=>?_,λhe _=>⟨Aq.2 (by omega),σ vars-(j+1),?_,rfl,j+1,rfl,rfl,?_,?_⟩⟩,λhge0=>?_⟩;all_goals first
  |have hge:=hge0
   grind
  |have hlt:=hlt0
 .grind[AY,List.not_of_lt_findIdx]
 .omega
 .omega
 .have he:=he;simp   at he;have:j≠AY vars nm:=λe=>by have h2:=List.findIdx_getElem (xs:=vars) (p:=λv=>δ (v.qJ=nm)) (w:=by grind[AY]);have h2:=of_decide_eq_true h2;subst e;exact he h2
  omega
theorem D7{lo hi:Int}{Q:Af×Int×Unit->UU}(h:Q ((CV lo hi).1,(CV lo hi).2,()) () H):qK 112 AL (lo,hi,()) H Q X:=by
 refine wF Tryz.f112 {} (?_:letI E:=Q ({Bool:=τ,Lo:=0,Hi:=0:Af},2,()) () H;IK (-1048576:Int)/\(lo<(-1048576:Int)->E)/\(¬lo<(-1048576:Int)->(1048576<lo->E)/\(¬1048576<lo->IK (-1048576:Int)/\(hi<(-1048576:Int)->E)/\(¬hi<(-1048576:Int)->(1048576<hi->E)/\(¬1048576<hi->(hi<lo->E)/\(¬hi<lo->IK hi->IK lo->IK (hi-lo)/\(4096<hi-lo->E)/\(¬4096<hi-lo->Q ({Bool:=τ,Lo:=lo,Hi:=hi:Af},0,()) () H)))))));unfold CV at h;have no:lo < -1048576∨1048576<hi∨hi<lo∨4096<hi-lo->Q (OZ,2,()) () H:=λc=>by grind
 grind[Bl,Aq]
theorem VE{l:List Af}{Q:Bool×Unit->UU}(hl:σ l<=1000)(h:Q (l.all (·.Bool),()) () H):qK 176 Ec (l,()) H Q X:=by
 refine wF Tryz.f176 {lp:=[(2,⟨[(3,.nat)],[0],τ⟩)]} (?_:∃(V:Nat->Nat×UT->Prop),(∃(n:Nat),H=H/\V n (0,()))/\∀n x,V n x->σ l<=2^63-1->(x.1<σ l->x.1<=2^63-1->∃(h:x.1<σ l),letI E:=¬l[x.1].Bool=ν;(E->Q (τ,()) () H)/\(¬E->x.1+1<=2^63-1/\∃m,m<n/\H=H/\V m (x.1+1,())))/\(¬x.1<σ l->Q (ν,()) () H));refine⟨λm z=>m=σ l-z.1/\z.1<=σ l/\∀i hi,i<z.1->l[i].Bool=ν,⟨_,rfl,rfl,a6 _,λi _ hi=>qG hi (a9 _)⟩,?_⟩;rintro m ⟨k,_⟩ ⟨hm0,hk0,ha0⟩ _;have hm:=hm0;have hk:=hk0;have ha:=ha0;refine⟨λhlt0 _=>?_,λhge0=>?_⟩
 .have hlt:=hlt0;refine⟨hlt,λhn=>?_,λhn=>⟨by grind,σ l-(k+1),by omega,rfl,rfl,by grind,λi hi hik=>?_⟩⟩;all_goals grind
 .have hge:=hge0;rw[aq.2 λx hx=>by obtain⟨i,hi,rfl⟩:=b9 hx;grind]at h
  exact h
theorem Tf{a b:Af}{Q:Int×Int×Unit->UU}(ha:YR a)(hb:YR b)(h:Q (KL τ (a.Lo*b.Lo) [(.i64,a.Lo*b.Hi),(.i64,a.Hi*b.Lo),(.i64,a.Hi*b.Hi)],KL ν (a.Lo*b.Lo) [(.i64,a.Lo*b.Hi),(.i64,a.Hi*b.Lo),(.i64,a.Hi*b.Hi)],()) () H):qK 177 ET (a,b,()) H Q X:=by
 refine wF Tryz.f177 {lp:=[(4,⟨[(6,.one (.own I6)),(7,.one (.dat I6)),(8,.one (.dat I6)),(9,.nat)],[6],τ⟩)],im:=[2,3]} (?_:letI E:=[a.Lo*b.Lo,a.Lo*b.Hi,a.Hi*b.Lo,a.Hi*b.Hi];IK a.Lo->IK b.Lo->IK (a.Lo*b.Lo)/\(IK a.Lo->IK b.Hi->IK (a.Lo*b.Hi)/\(IK a.Hi->IK b.Lo->IK (a.Hi*b.Lo)/\(IK a.Hi->IK b.Hi->IK (a.Hi*b.Hi)/\(True->(0:Int)<=0)/\∃(h:(a8 (0:Int)<σ E)),∃(h:(a8 (0:Int)<σ E)),(True->(0:Int)<=0)/\∃(h1:(a8 (0:Int)<σ E)),∃(h2:(a8 (0:Int)<σ E)),∃(V:Nat->List Int×Int×Int×Nat×UT->Prop),(∃(n:Nat),H=H/\V n (E,E[a8 (0:Int)],E[a8 (0:Int)],1,()))/\∀n x,V n x->(x.2.2.2.1<4->x.2.2.2.1<=2^63-1->∃(h:x.2.2.2.1<σ x.1),∃(h:(x.2.2.2.1<σ x.1)),x.2.2.2.1<=2^63-1->∃(h3:(x.2.2.2.1<σ x.1)),∃(h4:(x.2.2.2.1<σ x.1)),letI O:=[(.i64,x.1[x.2.2.2.1])];x.2.2.2.1+1<=2^63-1/\∃m,m<n/\H=H/\V m (x.1,KL τ x.2.1 O,KL ν x.2.2.1 O,x.2.2.2.1+1,()))/\(¬x.2.2.2.1<4->Q (x.2.1,x.2.2.1,()) () H)))));obtain⟨a1,a2,a3,_⟩:=ha;obtain⟨b1,b2,b3,_⟩:=hb;have mb:∀x y,-1048576<=x->x<=1048576->-1048576<=y->y<=1048576->Bl .i64 (x*y):=λx y h1 h2 h3 h4=>by have:=We (x:=x) (y:=y) (by omega) (by omega);grind[Aq]
 refine λ_ _=>⟨mb _ _ (by omega) (by omega) (by omega) (by omega),λ_ _=>⟨mb _ _ (by omega) (by omega) (by omega) (by omega),λ_ _=>⟨mb _ _ (by omega) (by omega) (by omega) (by omega),λ_ _=>⟨mb _ _ (by omega) (by omega) (by omega) (by omega),λ_=>by decide,by simp,by simp,λ_=>by decide,by simp,by simp,?_⟩⟩⟩⟩
 generalize a.Lo*b.Lo=p at *;generalize a.Lo*b.Hi=q at *;generalize a.Hi*b.Lo=r at *;generalize a.Hi*b.Hi=s at *;refine⟨λn x=>x.1=[p,q,r,s]/\(n=3/\x.2=(p,p,1,())∨n=2/\x.2=(min p q,max p q,2,())∨n=1/\x.2=(min (min p q) r,max (max p q) r,3,())∨n=0/\x.2=(min (min (min p q) r) s,max (max (max p q) r) s,4,())),⟨3,rfl,rfl,.inl ⟨rfl,rfl⟩⟩,?_⟩;rintro n ⟨l,lo,hi,i,_⟩ ⟨hl,hx⟩;have hl:=hl;subst hl;rcases hx with ⟨rfl,hx⟩|⟨rfl,hx⟩|⟨rfl,hx⟩|⟨rfl,hx⟩<;>cases hx
 .exact⟨λ_ _=>⟨by omega,by omega,λ_=>⟨by omega,by omega,by simp,2,by decide,rfl,rfl,.inr (.inl ⟨rfl,rfl⟩)⟩⟩,λhh=>qG (show 1<4 by decide) hh⟩
 .exact⟨λ_ _=>⟨by omega,by omega,λ_=>⟨by omega,by omega,by simp,1,by decide,rfl,rfl,.inr (.inr (.inl ⟨rfl,rfl⟩))⟩⟩,λhh=>qG (show 2<4 by decide) hh⟩
 .exact⟨λ_ _=>⟨by omega,by omega,λ_=>⟨by omega,by omega,by simp,0,by decide,rfl,rfl,.inr (.inr (.inr ⟨rfl,rfl⟩))⟩⟩,λhh=>qG (show 3<4 by decide) hh⟩
 .exact⟨λhh=>qG hh (by simp),λ_=>h⟩
end
section
variable {t:Ab}
theorem UE(ok:Um t):1<=t.Op/\t.Op<=18/\σ t.qZ<=64/\(t.Op<=4->t.qZ=[])/\(t.Op=5->σ t.qZ=1)/\(8<=t.Op->t.Op<=17->σ t.qZ=2)/\(t.Op=18->σ t.qZ=3):=by obtain⟨o1,o18,l4,l5,l64,l8,l18⟩:=ok.len;grind
variable {vars:List Al} {next:Bool}
theorem Y4{l:List Af}{H:HY}{X:PX}{Q:Af×Int×Unit->UU}(ok:Um t)(h5:5<=t.Op)(hl:σ l=σ t.qZ)(hT:∀y∈l,YR y)(h:Q ((AW vars next t l).1,(AW vars next t l).2,()) () H):qK 114 GP (t,l,()) H Q X:=by
 obtain⟨o1,o18,l64,_,_,l8,l18⟩:=UE ok;refine wF Tryz.f114 {im:=[2]} (?_:letI A:={Bool:=τ,Lo:=0,Hi:=0:Af};letI E:=qK 176 Ec (l,()) H (λ(b:qU)_ G=>(¬b.1->Q (A,13,()) () G)/\(¬¬b.1->Q ({Bool:=ν,Lo:=0,Hi:=0:Af},0,()) () G)) X;letI O:=a8 (1:Int);letI P:=Q (A,13,()) () H;letI R:=True->(0:Int)<=1;letI S:=a8 (0:Int);letI W:=Q ({Bool:=ν,Lo:=0,Hi:=0:Af},0,()) () H;letI Y:=True->(0:Int)<=0;letI F:=Y/\∃(h:(S<σ l)),R/\∃(h1:(O<σ l)),((!δ (l[S].Bool=ν)==δ (l[O].Bool=ν))->P)/\(¬(!δ (l[S].Bool=ν)==δ (l[O].Bool=ν))->W);letI I:=λ(b:Af×qV)_ G=>Q (b.1,b.2.1,()) () G;(t.Op=5->E)/\(¬t.Op=5->(t.Op=6->E)/\(¬t.Op=6->(t.Op=7->E)/\(¬t.Op=7->(t.Op=8->E)/\(¬t.Op=8->(t.Op=9->E)/\(¬t.Op=9->(t.Op=10->F)/\(¬t.Op=10->(t.Op=11->F)/\(¬t.Op=11->(t.Op=18->Y/\∃(h:(S<σ l)),letI Z:=a8 (2:Int);letI T:=True->(0:Int)<=2;(¬l[S].Bool->P)/\(¬¬l[S].Bool->R/\∃(h:(O<σ l)),letI U:=δ (l[O].Bool=ν);T/\∃(h1:Z<σ l),letI L:=(!U==δ (l[Z].Bool=ν))=ν;(L->P)/\(¬L->R/\∃(h:(O<σ l)),(l[O].Bool->W)/\(¬l[O].Bool->R/\∃(h:(O<σ l)),T/\∃(h2:Z<σ l),R/\∃(h3:(O<σ l)),T/\∃(h4:Z<σ l),qK 112 AL (KL τ l[O].Lo [(.i64,l[Z].Lo)],KL ν l[O].Hi [(.i64,l[Z].Hi)],()) H I X))))/\(¬t.Op=18->Y/\∃(h:(S<σ l)),letI J:=Q (A,2,()) () H;(l[S].Bool->P)/\(¬l[S].Bool->R/\∃(h:(O<σ l)),(l[O].Bool->P)/\(¬l[O].Bool->(t.Op=14->Y/\∃(h:(S<σ l)),R/\∃(h1:(O<σ l)),IK l[S].Lo->IK l[O].Lo->IK (l[S].Lo+l[O].Lo)/\Y/\∃(h2:(S<σ l)),R/\∃(h3:(O<σ l)),IK l[S].Hi->IK l[O].Hi->IK (l[S].Hi+l[O].Hi)/\qK 112 AL (l[S].Lo+l[O].Lo,l[S].Hi+l[O].Hi,()) H I X)/\(¬t.Op=14->(t.Op=15->Y/\∃(h:(S<σ l)),R/\∃(h1:(O<σ l)),IK l[S].Lo->IK l[O].Hi->IK (l[S].Lo-l[O].Hi)/\Y/\∃(h2:(S<σ l)),R/\∃(h3:(O<σ l)),IK l[S].Hi->IK l[O].Lo->IK (l[S].Hi-l[O].Lo)/\qK 112 AL (l[S].Lo-l[O].Hi,l[S].Hi-l[O].Lo,()) H I X)/\(¬t.Op=15->(t.Op=16->Y/\∃(h:(S<σ l)),R/\∃(h1:(O<σ l)),qK 177 ET (l[S],l[O],()) H (λ(b:Int×qV)_ G=>qK 112 AL (b.1,b.2.1,()) G I X) X)/\(¬t.Op=16->(t.Op=17->R/\∃(h:(O<σ t.qZ)),(¬t.qZ[O].Op=1->J)/\(¬¬t.qZ[O].Op=1->R/\∃(h:(O<σ t.qZ)),(t.qZ[O].N<1->J)/\(¬t.qZ[O].N<1->R/\∃(h:(O<σ t.qZ)),IK t.qZ[O].N->IK (t.qZ[O].N-1)/\qK 112 AL ((0:den Y0.D (Ty.int .i64)),t.qZ[O].N-(1:den Y0.D (Ty.int .i64)),()) H I X)))/\(¬t.Op=17->W)))))))))))))));have key:∀y e,AW vars next t l=(y,e)->Q (y,e,()) () H:=λy e he=>by rw[he]at h;exact h
 have P5:t.Op<=9->AW vars next t l=HC l:=λh2=>by unfold AW;rw[GT (by omega),GT (by omega),GT (by omega),UV ⟨h5,h2⟩]
 have PN:10<=t.Op->AW vars next t l=if t.Op=18 then ifE l else if t.Op=10∨t.Op=11 then eqE l else Alw t.Op t.qZ l:=λh2=>by unfold AW;rw[GT (by omega),GT (by omega),GT (by omega),GT (by omega)]
 have tr:t.Op<=9->qK 176 Ec (l,()) H (λ(b:Bool×Unit)io H'=>(¬b.1=ν->Q _ () H')/\(¬¬b.1=ν->Q _ () H')) X:=λh2=>VE (by omega) (by have e:=P5 h2;unfold HC at e;exact⟨λhn=>key _ _ (e.trans (GT hn)),λhn=>key _ _ (e.trans (UV (af.1 hn)))⟩)
 refine⟨λ_=>tr (by omega),λ_=>⟨λ_=>tr (by omega),λ_=>⟨λ_=>tr (by omega),λ_=>⟨λ_=>tr (by omega),λ_=>⟨λ_=>tr (by omega),λn9=>⟨λe=>?_,λn10=>⟨λe=>?_,λn11=>⟨λe=>?_,λn18=>?_⟩⟩⟩⟩⟩⟩⟩⟩;iterate 2
  .obtain⟨a,b,rfl⟩:=kl2 (hl.trans (l8 (by omega) (by omega)))
   have hP:AW vars next t [a,b]=if a.Bool≠b.Bool then (OZ,13) else (L5,0):=by rw[PN (by omega),GT (by omega),UV (by omega)];rfl
   exact⟨λ_=>by decide,by show 0<2;decide,λ_=>by decide,by show 1<2;decide,λhb=>key _ _ (hP.trans (UV ((nb _ _).1 hb))),λhb=>key _ _ (hP.trans (GT λhh=>hb ((nb _ _).2 hh)))⟩
 .obtain⟨a,b,c,rfl⟩:=kl3 (hl.trans (l18 e));have hP:AW vars next t [a,b,c]=if ¬a.Bool=ν∨b.Bool≠c.Bool then (OZ,13) else if b.Bool=ν then (b,0) else CV (KL τ b.Lo [(.i64,c.Lo)]) (KL ν b.Hi [(.i64,c.Hi)]):=by rw[PN (by omega),UV e];rfl
  refine⟨λ_=>by decide,by show 0<3;decide,λhn=>key _ _ (hP.trans (UV (.inl hn))),λhn=>⟨λ_=>by decide,by show 1<3;decide,λ_=>by decide,by show 2<3;decide,λhb=>key _ _ (hP.trans (UV (.inr ((nb _ _).1 hb)))),λhb=>⟨λ_=>by decide,by show 1<3;decide,λhc=>key _ _ ?_,λhc=>⟨λ_=>by decide,by show 1<3;decide,λ_=>by decide,by show 2<3;decide,λ_=>by decide,by show 1<3;decide,λ_=>by decide,by show 2<3;decide,D7 (key _ _ ?_)⟩⟩⟩⟩;all_goals
   have hn:a.Bool=ν:=af.1 hn
   have hb:=hb
   have hh:¬(¬a.Bool=ν∨b.Bool≠c.Bool):=λhh=>hh.elim (λh1=>h1 hn) λh2=>hb ((nb _ _).2 h2)
  .have hc:b.Bool=ν:=hc;rw[hP,GT hh,UV hc,(hT b (by simp)).2.2.2 hc]
  .have hc:¬b.Bool=ν:=hc;rw[hP,GT hh,GT hc];rfl
 .obtain⟨a,b,rfl⟩:=kl2 (hl.trans (l8 (by omega) (by omega)));obtain⟨k0,k1,hks⟩:=kl2 (l8 (by omega) (by omega));have ha:=hT a (by simp);have hb:=hT b (by simp);have hP:AW vars next t [a,b]=if a.Bool=ν∨b.Bool=ν then (OZ,13) else if t.Op=12∨t.Op=13 then (L5,0) else if t.Op=17 then Xk t.qZ else JV t.Op a b:=by rw[PN (by omega),GT n18,GT (by omega)];rfl
  refine⟨λ_=>by decide,by show 0<2;decide,λh1=>key _ _ (hP.trans (UV (.inl h1))),λh1=>⟨λ_=>by decide,by show 1<2;decide,λh2=>key _ _ (hP.trans (UV (.inr h2))),λh2=>?_⟩⟩;have hP:=hP.trans (GT λhh=>hh.elim h1 h2);obtain⟨a1,a2,a3,_⟩:=ha;obtain⟨b1,b2,b3,_⟩:=hb;have d0:∀{m:Nat},(True->(0:Int)<=(m:Int)):=λ{m}_=>ak m;refine⟨λe=>?_,λn14=>⟨λe=>?_,λn15=>⟨λe=>?_,λn16=>⟨λe=>?_,λn17=>key _ _ (hP.trans (UV (by omega)))⟩⟩⟩⟩
  .have hP:=(hP.trans (GT (by omega))).trans (GT (by omega));unfold JV at hP;exact⟨λ_=>by decide,by show 0<2;decide,λ_=>by decide,by show 1<2;decide,λ_ _=>⟨Aq.2 (by show _<=a.Lo+b.Lo/\a.Lo+b.Lo<=_;omega),λ_=>by decide,by show 0<2;decide,λ_=>by decide,by show 1<2;decide,λ_ _=>⟨Aq.2 (by show _<=a.Hi+b.Hi/\a.Hi+b.Hi<=_;omega),D7 (key _ _ ((hP.trans (GT (by omega))).trans (UV e)))⟩⟩⟩
  .have hP:=(hP.trans (GT (by omega))).trans (GT (by omega));unfold JV at hP;exact⟨λ_=>by decide,by show 0<2;decide,λ_=>by decide,by show 1<2;decide,λ_ _=>⟨Aq.2 (by show _<=a.Lo-b.Hi/\a.Lo-b.Hi<=_;omega),λ_=>by decide,by show 0<2;decide,λ_=>by decide,by show 1<2;decide,λ_ _=>⟨Aq.2 (by show _<=a.Hi-b.Lo/\a.Hi-b.Lo<=_;omega),D7 (key _ _ (hP.trans (UV e)))⟩⟩⟩
  .have hP:=(hP.trans (GT (by omega))).trans (GT (by omega));unfold JV at hP;refine⟨λ_=>by decide,by show 0<2;decide,λ_=>by decide,by show 1<2;decide,Tf (hT a (by simp)) (hT b (by simp)) (D7 (key _ _ ((hP.trans (GT (by omega))).trans (GT (by omega)))))⟩
  .have hM:Xk t.qZ=if k1.Op≠1∨k1.N<1 then (OZ,2) else CV 0 (k1.N-1):=by rw[hks];rfl
   have hP:=((hP.trans (GT (by omega))).trans (UV e)).trans hM;have hkl:1<σ t.qZ:=by rw[hks];show 1<2;decide
   have hk1:t.qZ[a8 (1:Int)]'hkl=k1:=by simp [hks]
   refine⟨λ_=>by decide,hkl,λho=>key _ _ (hP.trans (UV ?_)),λho=>⟨λ_=>by decide,hkl,λhN=>key _ _ (hP.trans (UV ?_)),λhN=>⟨λ_=>by decide,hkl,λhi=>⟨?_,D7 (key _ _ ?_)⟩⟩⟩⟩
   .rw[hk1]at ho;exact .inl ho
   .rw[hk1]at hN;exact .inr hN
   all_goals
    rw[hk1]at ho hN
    have ho:=af.1 ho
   .have hi:Bl .i64 (t.qZ[a8 (1:Int)]'hkl).N:=hi;rw[hk1]at hi;show Bl .i64 ((t.qZ[a8 (1:Int)]'hkl).N-1);rw[hk1];have:=Aq.1 hi;exact Aq.2 (by omega)
   .show _=CV 0 ((t.qZ[a8 (1:Int)]'hkl).N-1);rw[hk1];exact hP.trans (GT (by omega))
theorem Ano:∀{l:List Ab},(B6 vars next l).2=0->∀y∈(B6 vars next l).1,YR y:=λ{l}h y hy=>by obtain⟨h1,h2⟩:=N8 h;rw[h1]at hy;obtain⟨k,hk,rfl⟩:=ai.1 hy;exact LN _ k (ac _) (h2 k hk)
theorem P1{vars:List Al}{next:Bool}{X:PX}(hv:σ vars<=1000):∀(z:Nat)(t:Ab){H:HY}{Q:Af×Int×Unit->UU},SizeOf.sizeOf t<z->Um t->Q ((AA vars next t).1,(AA vars next t).2,()) () H->qK 45 EE (vars,t,next,()) H Q X
 |0,_,_,_,hz,_,_=>qG hz (a9 _)
 |z+1,t,H,Q,hz,ok,h=>by
  obtain⟨o1,o18,l64,l4,_⟩:=UE ok;apply OS;unfold JM;rw[L4]at h;have h4:t.Op<=4->∀y e,AW vars next t []=(y,e)->Q (y,e,()) () H:=λho y e he=>by rw[l4 ho,B6,UV rfl,he]at h;exact h
  have NM:(t.Op=3∨t.Op=4)->qK 113 Dv (vars,t.qJ,()) H (λ(b:Int×Unit)io H'=>(b.1<0->Q _ () H')/\
    (¬b.1<0->(t.Op=(4:Int)->(¬next=ν->Q _ () H')/\(¬¬next=ν->Bl .i64 b.1->(Bl .i64 b.1->0<=b.1)/\∃(h:b.1.toNat<σ vars),(vars[b.1.toNat].Bool=ν->Q ({Bool:=ν,Lo:=(0:Int),Hi:=(0:Int):Af},
    0,()) () H')/\(¬vars[b.1.toNat].Bool=ν->Bl .i64 b.1->(Bl .i64 b.1->0<=b.1)/\∃(h:b.1.toNat<σ vars),Bl .i64 b.1->(Bl .i64 b.1->0<=b.1)/\∃(h_1:b.1.toNat<σ vars),qK 112 AL
    (vars[b.1.toNat].Lo,vars[b.1.toNat].Hi,()) H' _ X)))/\(¬t.Op=(4:Int)->Bl .i64 b.1->(Bl .i64 b.1->0<=b.1)/\∃(h:b.1.toNat<σ vars),(vars[b.1.toNat].Bool
    = ν->Q _ () H')/\(¬vars[b.1.toNat].Bool=ν->Bl .i64 b.1->(Bl .i64 b.1->0<=b.1)/\∃(h:b.1.toNat<σ vars),Bl .i64 b.1->(Bl .i64 b.1->0<=b.1)/\∃(h_1:b.1.toNat <
    (σ vars)),qK 112 AL (vars[b.1.toNat].Lo,vars[b.1.toNat].Hi,()) H' (λ(b:Af×Int×Unit)io H'=>Q (b.1,b.2.1,()) () H') X)))) X:=λho=>by
   have hP:AW vars next t []=GC vars t.Op t.qJ next:=by unfold AW;rw[GT (by omega),GT (by omega),UV ho]
   have key:=h4 (by omega)
   rw[hP]at key
   refine P4 hv ?_
   by_cases hi:AY vars t.qJ<σ vars
   .rw[UV hi]
    unfold GC at key
    rw[a4 hi]at key
    dsimp only at key
    have e0:((AY vars t.qJ:Nat):Int).toNat=AY vars t.qJ:=ax _
    have hi':((AY vars t.qJ:Nat):Int).toNat<σ vars:=by rw[e0];exact hi
    have ev:vars[((AY vars t.qJ:Nat):Int).toNat]'hi'=vars[AY vars t.qJ]:=by simp only[e0]
    have nn:(0:Int)<=(AY vars t.qJ:Nat):=ak _
    have fin:¬(t.Op=4/\next=τ)->∀{p q:Prop},(∃(h:((AY vars t.qJ:Nat):Int).toNat<σ vars),(vars[((AY vars t.qJ:Nat):Int).toNat].Bool=ν->Q _ () H)/\(¬vars[((AY vars t.qJ:Nat):Int).toNat].Bool=ν->Bl .i64 ((AY vars t.qJ:Nat):Int)->(Bl .i64 ((AY vars t.qJ:Nat):Int)->(0:Int)<=((AY vars t.qJ:Nat):Int))/\∃(h:((AY vars t.qJ:Nat):Int).toNat<σ vars),Bl .i64 ((AY vars t.qJ:Nat):Int)->(Bl .i64 ((AY vars t.qJ:Nat):Int)->(0:Int)<=((AY vars t.qJ:Nat):Int))/\∃(h_1:((AY vars t.qJ:Nat):Int).toNat<σ vars),qK 112 AL (vars[((AY vars t.qJ:Nat):Int).toNat].Lo,vars[((AY vars t.qJ:Nat):Int).toNat].Hi,()) H (λ(b:Af×Int×Unit)io H'=>Q (b.1,b.2.1,()) () H') X)):=λhc{_ _}=>by rw[GT hc]at key;refine⟨hi',λhb=>key _ _ (UV (by rw[<-ev];exact hb)),λhb _=>⟨λ_=>nn,hi',λ_=>⟨λ_=>nn,hi',D7 (key _ _ ?_)⟩⟩⟩;rw[GT (by rw[<-ev];exact hb)];simp only[ev]
    refine⟨λhn=>qG hn (by show ¬((AY vars t.qJ:Nat):Int)<0;omega),λ_=>⟨λe=>⟨λhx=>key _ _ (UV ⟨e,by simpa using hx⟩),λhx _=>⟨λ_=>nn,fin (λhc=>hx (by rw[hc.2];decide)) (p:=True) (q:=True)⟩⟩,λe _=>⟨λ_=>nn,fin (λhc=>e hc.1) (p:=True) (q:=True)⟩⟩⟩
   .rw[GT hi]
    unfold GC at key
    rw[ao (by omega)]at key
    exact⟨λ_=>key _ _ rfl,λhn=>qG (by decide) hn⟩
  refine⟨λe=>D7 (h4 (by omega) _ _ (by unfold AW;exact UV e)),λn1=>⟨λe=>h4 (by omega) _ _ (by unfold AW;rw[GT n1,UV e]),λn2=>⟨λe=>NM (.inl e),λn3=>⟨λe=>NM (.inr e),λn4=>?_⟩⟩⟩⟩;refine⟨λn x=>n=σ t.qZ-x.2.2.1/\x.2.2.1<=σ t.qZ/\B6 vars next (t.qZ.take x.2.2.1)=(x.2.1,0),⟨_,rfl,rfl,a6 _,by show B6 vars next []=_;rw[B6]⟩,?_⟩;rintro n ⟨⟨q1,q2,q3,_⟩,ys,i,_⟩ ⟨hn0,hi0,hy0⟩ _;have hn:n=σ t.qZ-i:=hn0;have hi:i<=σ t.qZ:=hi0;have hy:=hy0;have hyl:σ ys=i:=by have:=Ut (vars:=vars) (next:=next) (t.qZ.take i) (by rw[hy]);rw[hy,be]at this;have this:σ ys=min i (σ t.qZ):=this;omega
  refine⟨λhlt0 _=>?_,λhge0=>?_⟩
  .have hlt:i<σ t.qZ:=hlt0;have htk:=a5 hlt;have hsn:=RQ (vars:=vars) (next:=next) t.qZ[i] _ hy;rw[<-htk]at hsn;refine⟨hlt,P1 hv z t.qZ[i] (by have:=Hj (ab hlt);omega) (ok.k _ (ab hlt)) ⟨λhf=>?_,λhz0=>⟨by show (σ ys+1)*24<=_;omega,by grind,σ t.qZ-(i+1),by omega,rfl,rfl,by grind,?_⟩⟩⟩
   .have hf:=hf;rw[GT hf]at hsn;have e5:B6 vars next t.qZ=([],(AA vars next t.qZ[i]).2):=by have:=Uu (vars:=vars) (next:=next) (t.qZ.drop (i+1)) (t.qZ.take (i+1)) (by grind);rw[an]at this;rw[this,hsn]
    grind
   grind
  .have hge:¬i<σ t.qZ:=hge0;have ei:i=σ t.qZ:=by omega
   subst ei;rw[bt]at hy;have hT:=Ano (vars:=vars) (next:=next) (l:=t.qZ) (by rw[hy]);rw[hy]at hT;rw[hy,UV rfl]at h;grind[Y4]
theorem K5{H:HY}{X:PX}{Q:Af×Int×Unit->UU}(hv:σ vars<=1000)(h:Q ((DP vars next t).1,(DP vars next t).2,()) () H):qK 13 EE (vars,t,next,()) H Q X:=by
 refine wF Tryz.f13 {im:=[4]} (?_:qK 44 Gr (t,()) H (λ(b:qV)_ G=>(¬b.1=0->Q ({Bool:=τ,Lo:=0,Hi:=0:Af},b.1,()) () G)/\(¬¬b.1=0->qK 45 EE (vars,t,next,()) G (λ(b:Af×qV)_ G=>Q (b.1,b.2.1,()) () G) X)) X);unfold DP at h;refine WN ⟨λhn=>?_,λhn=>?_⟩
 .grind
 .have hn:=af.1 hn;rw[UV hn]at h;exact P1 hv _ t (ac _) (Wo _ t _ _ (ac _) hn) h
end
section
set_option maxRecDepth 100000
set_option maxHeartbeats 2000000
end
section
variable {H:HY} {X:PX}
theorem Adh{l:List ByteArray}{s:ByteArray}{Q:Bool×Unit->UU}(hl:σ l<=1000000)(h:∀t:Bool,(t=ν↔s∈l)->Q (t,()) () H):qK 225 Gt (l,s,()) H Q X:=by
 refine wF Tryz.f225 {lp:=[(2,⟨[(5,.nat)],[0,1],τ⟩)]} (?_:∃(V:Nat->Nat×UT->Prop),(∃(n:Nat),H=H/\V n (0,()))/\∀n x,V n x->σ l<=2^63-1->(x.1<σ l->x.1<=2^63-1->∃(h:x.1<σ l),(l[x.1]=s->Q (ν,()) () H)/\(¬l[x.1]=s->x.1+1<=2^63-1/\∃m,m<n/\H=H/\V m (x.1+1,())))/\(¬x.1<σ l->Q (τ,()) () H));refine⟨λm z=>m=σ l-z.1/\z.1<=σ l/\s∉l.take z.1,⟨_,rfl,rfl,a6 _,by simp⟩,?_⟩;rintro m ⟨k,_⟩ ⟨hm0,hk0,hs0⟩ _;have hm:=hm0;have hk:=hk0;have hs:=hs0;refine⟨λhlt0 _=>?_,λhge0=>h _ ⟨λe=>(by cases e),λe=>?_⟩⟩
 .have hlt:=hlt0;refine⟨hlt,λe=>h _ ⟨λ_=>?_,λ_=>rfl⟩,λe=>⟨by grind,σ l-(k+1),by omega,rfl,rfl,by grind,?_⟩⟩
  .grind
  .show s∉l.take _;rw[a5 hlt,bf,av];rintro(h1|h1)
   .exact hs h1
   .exact e h1.symm
 grind
theorem WI{vars:List Al}{names:List ByteArray}{i:Nat}{Q:Bool×Unit->UU}(hl:σ names<=1000000)(_:σ vars<=1000)(hi:i<σ vars)(h:∀t:Bool,(t=ν↔vars[i].qJ∈names)->Q (t,()) () H):qK 116 Gp (vars,names,(i:Int),()) H Q X:=by
 refine wF Tryz.f116 {lp:=[(2,⟨[(7,.nat)],[0,1,2],τ⟩)]} (?_:letI E:=σ names;∃(V:Nat->Nat×UT->Prop),(∃(n:Nat),H=H/\V n (0,()))/\∀n x,V n x->E<=2^63-1->(x.1<E->x.1<=2^63-1->∃(h:x.1<E),IK (i:Int)->(IK (i:Int)->0<=(i:Int))/\∃(h1:(i:Int).toNat<σ vars),letI F:=names[x.1]=vars[(i:Int).toNat].qJ;(F->Q (ν,()) () H)/\(¬F->x.1+1<=2^63-1/\∃m,m<n/\H=H/\V m (x.1+1,())))/\(¬x.1<E->Q (τ,()) () H));refine⟨λm z=>m=σ names-z.1/\z.1<=σ names/\vars[i].qJ∉names.take z.1,⟨_,rfl,rfl,a6 _,by simp⟩,?_⟩;rintro m ⟨k,_⟩ ⟨hm0,hk0,hs0⟩ _;have hm:=hm0;have hk:=hk0;have hs:=hs0;have ei:(i:Int).toNat=i:=ax _;have hi':(i:Int).toNat<σ vars:=by omega
 have ev:vars[(i:Int).toNat]'hi'=vars[i]:=by rfl
 refine⟨λhlt0 _=>?_,λhge0=>h _ ⟨λe=>(by cases e),λe=>?_⟩⟩
 .have hlt:=hlt0;refine⟨hlt,λ_=>⟨λ_=>ak _,hi',λe=>h _ ⟨λ_=>?_,λ_=>rfl⟩,λe=>⟨by grind,σ names-(k+1),by omega,rfl,rfl,by grind,?_⟩⟩⟩
  .grind
  .have e:=e;rw[ev]at e;show vars[i].qJ∉names.take _;rw[a5 hlt,bf,av];rintro(h1|h1)
   .exact hs h1
   .exact e h1.symm
 grind
theorem Y5{l:List ByteArray}{s:ByteArray}{Q:List ByteArray×Unit->UU}(hl:σ l<=100000)(h:∀l':List ByteArray,(∀x,x∈l'↔x∈l∨x=s)->σ l'<=σ l+1->Q (l',()) () H):qK 178 GQ (l,s,()) H Q X:=by
 refine wF Tryz.f178 {lp:=[(6,⟨[(5,.one (.own .str)),(6,.one (.dat .bool)),(7,.nat)],[0,1],τ⟩)]} (?_:letI E:=[s];qK 225 Gt (l,s,()) H (λ(b:qU)_ G=>letI F:=G=G;(b.1->Q (l,()) () G)/\(¬b.1->∃(V:Nat->List ByteArray×Bool×Nat×UT->Prop),(∃(n:Nat),F/\V n ([],τ,0,()))/\∀n x,V n x->σ l<=2^63-1->(x.2.2.1<σ l->(¬x.2.1->x.2.2.1<=2^63-1->∃(h:x.2.2.1<σ l),letI I:=x.2.2.1+1;letI O:=gtS l[x.2.2.1] s=ν;(O->(σ x.1+σ E)*16<=2^47/\(x.2.2.1<=2^63-1->∃(h:x.2.2.1<σ l),letI P:=[l[x.2.2.1]];(σ (x.1++E)+σ P)*16<=2^47/\I<=2^63-1/\∃m,m<n/\F/\V m (x.1++E++P,ν,I,())))/\(¬O->x.2.2.1<=2^63-1->∃(h:x.2.2.1<σ l),letI R:=[l[x.2.2.1]];(σ x.1+σ R)*16<=2^47/\I<=2^63-1/\∃m,m<n/\F/\V m (x.1++R,x.2.1,I,())))/\(¬¬x.2.1->x.2.2.1<=2^63-1->∃(h:x.2.2.1<σ l),letI S:=[l[x.2.2.1]];(σ x.1+σ S)*16<=2^47/\x.2.2.1+1<=2^63-1/\∃m,m<n/\F/\V m (x.1++S,x.2.1,x.2.2.1+1,())))/\(¬x.2.2.1<σ l->(¬x.2.1->(σ x.1+σ E)*16<=2^47/\Q (x.1++E,()) () G)/\(¬¬x.2.1->Q (x.1,()) () G)))) X);refine Adh (by omega) λt ht=>⟨λe=>h l (λx=>⟨.inl,λhx=>hx.elim id λe2=>by rw[e2];exact ht.1 e⟩) (by omega),λ_=>?_⟩
 refine⟨λm z=>m=σ l-z.2.2.1/\z.2.2.1<=σ l/\(∀x,x∈z.1↔x∈l.take z.2.2.1∨(z.2.1=ν/\x=s))/\σ z.1=z.2.2.1+if z.2.1=ν then 1 else 0,⟨_,rfl,rfl,a6 _,λx=>by simp,rfl⟩,?_⟩;rintro m ⟨out,d,k,_⟩ ⟨hm0,hk0,hx0,hn0⟩ _;have hm:m=σ l-k:=hm0;have hk:=hk0;have hx:=hx0;have hn:σ out=k+if d=ν then 1 else 0:=hn0
 have hn2:σ out<=k+1:=by rw[hn];split<;>omega
 refine⟨λhlt0=>?_,λhge0=>?_⟩
 .have hlt:=hlt0;have tk:∀x,x∈l.take _↔x∈l.take k∨x=l[k]:=λx=>by rw[a5 _,bf,av]
  have plain:(σ out+1)*16<=140737488355328/\k+1<=9223372036854775807/\∃m1,m1<m/\H=H/\m1=σ l-(k+1)/\k+1<=σ l/\(∀x,x∈out++[l[k]]↔x∈l.take (k+1)∨d=ν/\x=s)/\σ (out++[l[k]])=(k+1)+if d=ν then 1 else 0:=by refine⟨by omega,by omega,_,by omega,rfl,rfl,by omega,λx=>?_,by rw[ah,hn];show _+1=_;omega⟩;grind
  refine⟨λhd _=>⟨hlt,λ_=>⟨by grind,λ_=>⟨hlt,by rw[ah];show (σ out+1+1)*16<=_;omega,by grind,σ l-(k+1),by omega,rfl,rfl,by grind,λx=>?_,?_⟩⟩,λ_ _=>⟨hlt,plain⟩⟩,λ_ _=>⟨hlt,plain⟩⟩;all_goals grind
 grind
theorem Aqh{op:Int}{nm:ByteArray}{t:Ab}:Vi op nm t↔(t.Op=op/\t.qJ=nm)∨∃k∈t.qZ,Vi op nm k:=
 ⟨λh=>by cases h with|here a b=>grind|kid a b=>grind,λh=>h.elim (λe=>.here e.1 e.2) λ⟨_,a,b⟩=>.kid a b⟩
theorem Mg{op:Int}{X:PX}:∀(z:Nat)(t:Ab){l:List ByteArray}{H:HY}{Q:List ByteArray×Unit->UU},SizeOf.sizeOf t<z->σ l+Er t<=10000->(∀l':List ByteArray,(∀x,x∈l'↔x∈l∨Vi op x t)->σ l'<=σ l+Er t->Q (l',()) () H)->qK 115 BI (t,op,l,()) H Q X
 |0,_,_,_,_,hz,_,_=>qG hz (a9 _)
 |z+1,t,l,H,Q,hz,hs,h=>by
  apply OU;unfold JO;have sz:=Ng t;have loop:∀{l0:List _},(∀x,x∈l0↔x∈l∨(t.Op=op/\t.qJ=x))->σ l0<=σ l+1->∃(V:Nat->List _×Nat×Unit->Prop),(∃(n:Nat),H=H/\V n (l0,0,()))/\∀n x,V n x->σ t.qZ<=9223372036854775807->(x.2.1<σ t.qZ->x.2.1<=9223372036854775807->∃(h:x.2.1<σ t.qZ),qK _
    BI (t.qZ[x.2.1],op,x.1,()) H (λb io H'_1=>x.2.1+1<=9223372036854775807/\∃(m:Nat),m<n/\H'_1=H/\V m (b.1,x.2.1+1,())) X)/\(¬x.2.1<σ t.qZ->Q (x.1,()) () H):=λ{l0}hx0 hl0=>by
   refine⟨λn x=>n=σ t.qZ-x.2.1/\x.2.1<=σ t.qZ/\(∀y,y∈x.1↔y∈l0∨∃k∈t.qZ.take x.2.1,Vi op y k)/\σ x.1<=σ l+1+Jh (t.qZ.take x.2.1),⟨_,rfl,rfl,a6 _,λy=>by simp,by grind⟩,?_⟩
   rintro n ⟨l1,i,_⟩ ⟨hn0,hi0,hy0,hl10⟩ _
   have hn:n=σ t.qZ-i:=hn0
   have hi:=hi0
   have hy:=hy0
   have hl1:=hl10
   refine⟨λhlt0 _=>?_,λhge0=>?_⟩
   .have hlt:i<σ t.qZ:=hlt0
    have s1:=Uy hlt
    have s2:=Aif (l:=t.qZ) (i+1)
    refine⟨hlt,Mg z t.qZ[i] (by have:=Hj (ab hlt);omega) (by grind) λl2 h2 h3=>⟨by omega,σ t.qZ-(i+1),by omega,rfl,rfl,by grind,λy=>?_,?_⟩⟩
    .show y∈l2↔y∈l0∨∃k∈t.qZ.take (i+1),Vi op y k
     have h2:=h2 y
     rw[h2,hy,a5 hlt]
     grind
    grind
   grind[al,Aqh]
  refine⟨λe=>Y5 (by omega) λl' h1 h2=>loop (λx=>?_) h2,λe=>loop (λx=>?_) (by omega)⟩
  .rw[h1];exact⟨λh3=>h3.elim .inl λh4=>.inr ⟨e,h4.symm⟩,λh3=>h3.elim .inl λh4=>.inr h4.2.symm⟩
  .exact⟨.inl,λh3=>h3.elim id λh4=>qG h4.1 e⟩
theorem WM{t:Ab}{Q:List ByteArray×List ByteArray×Unit->UU}(hs:Er t<=1000)(h:∀l m:List ByteArray,(∀x,x∈l↔Vi 3 x t)->(∀x,x∈m↔Vi 4 x t)->σ l<=1000->σ m<=1000->Q (l,m,()) () H):qK 47 Gq (t,()) H Q X:=by refine wF Tryz.f47 {im:=[1]} (?_:qK 115 BI (t,3,[],()) H (λ(b:List ByteArray×UT)_ G=>qK 115 BI (t,4,[],()) G (λ(b1:List ByteArray×UT)_ G=>Q (b.1,b1.1,()) () G) X) X);refine Mg _ t (ac _) (by grind) λl h1 h2=>Mg _ t (ac _) (by grind) λm h3 h4=>h l m (λx=>(h1 x).trans (by simp)) (λx=>(h3 x).trans (by simp)) (by grind) (by grind)
theorem P3{X:PX}:∀(z:Nat)(t:Ab){H:HY}{Q:Bool×Unit->UU},SizeOf.sizeOf t<z->σ t.qZ<=1000->(∀k,Um k->σ k.qZ<=1000)->Um t->(∀r:Bool,Q (r,()) () H)->qK 117 Du (t,()) H Q X
 |0,_,_,_,hz,_,_,_,_=>qG hz (a9 _)
 |z+1,t,H,Q,hz,hk,ha,ok,h=>by apply OW;unfold JQ;refine⟨λ_=>h _,λ_=>⟨λn x=>n=σ t.qZ-x.1,⟨_,rfl,rfl⟩,?_⟩⟩;rintro n ⟨i,_⟩ hn0 _;have hn:=hn0;refine⟨λhlt0 _=>?_,λ_=>h _⟩;have hlt:i<σ t.qZ:=hlt0;have m:=ab hlt;exact⟨hlt,P3 z t.qZ[i] (by have:=Hj m;omega) (ha _ (ok.k _ m)) ha (ok.k _ m) λr=>⟨λ_=>h _,λ_=>⟨by grind,σ t.qZ-(i+1),by omega,rfl,rfl⟩⟩⟩
end
theorem Aud{l:List Al}(hv:NP l){a:B.As}{next:Bool}{i:Nat}(hi:i<σ l):Ry (AM l) next a i=if Tg l a next (AM l) i=ν then rdV l a next (AM l) i else FW l[i]:=by unfold Ry;rw[Abc hv hi,show (AM l).Aa[i]?=φ l[i] from a4 hi];split<;>rfl
theorem OA{l:List Al}{names:List ByteArray}{a:B.As}{next:Bool}{H:HY}{X:PX}{Q:List Int×Bool×Unit->UU}(hv:NP l)(hl:σ l<=64)(hn:σ names<=1000000)(h:∀t:Bool,(t=ν↔∀i(hi:i<σ l),l[i].qJ∈names->(CB (AM l) next i a).isSome=ν)->Q ((a7 (σ l)).map (Ry (AM l) next a),t,()) () H):qK 48 Eb (l,(a7 (σ l)).map (rdV l a next (AM l)),(a7 (σ l)).map (Tg l a next (AM l)),names,()) H Q X:=by
 refine wF Tryz.f48 {lp:=[(3,⟨[(10,.one (.own I6)),(11,.one (.dat .bool)),(12,.nat)],[0,1,2,3],τ⟩)]} (?_:letI E:=σ l;∃(V:Nat->List Int×Bool×Nat×UT->Prop),(∃(n:Nat),H=H/\V n ([],ν,0,()))/\∀n x,V n x->E<=2^63-1->(x.2.2.1<E->x.2.2.1<=2^63-1->∃(h:x.2.2.1<σ ((a7 (σ l)).map (Tg l a next (AM l)))),letI F:=x.2.2.1+1;letI I:=((a7 (σ l)).map (Tg l a next (AM l)))[x.2.2.1]=ν;(I->x.2.2.1<=2^63-1->∃(h:x.2.2.1<σ ((a7 (σ l)).map (rdV l a next (AM l)))),letI O:=[((a7 (σ l)).map (rdV l a next (AM l)))[x.2.2.1]];(σ x.1+σ O)*8<=2^47/\F<=2^63-1/\∃m,m<n/\H=H/\V m (x.1++O,x.2.1,F,()))/\(¬I->x.2.2.1<=2^63-1->∃(h:x.2.2.1<E),qK 66 CM (l[x.2.2.1],()) H (λ(b:qV)_ G=>(σ x.1+σ [b.1])*8<=2^47/\(x.2.1->qK 116 Gp (l,names,(x.2.2.1:Int),()) G (λ(b1:qU)_ G=>F<=2^63-1/\∃m,m<n/\G=H/\V m (x.1++[b.1],δ ¬b1.1=ν,F,())) X)/\(¬x.2.1->F<=2^63-1/\∃m,m<n/\G=H/\V m (x.1++[b.1],τ,F,()))) X))/\(¬x.2.2.1<E->Q (x.1,x.2.1,()) () H));refine⟨λm z=>m=σ l-z.2.2.1/\z.2.2.1<=σ l/\z.1=(a7 z.2.2.1).map (Ry (AM l) next a)/\(z.2.1=ν↔∀i(hi:i<σ l),i<z.2.2.1->l[i].qJ∈names->(CB (AM l) next i a).isSome=ν),⟨_,rfl,rfl,a6 _,rfl,λ_ i _ hi=>qG hi (a9 _),λ_=>rfl⟩,?_⟩;rintro m ⟨out,t,k,_⟩ ⟨hm0,hk0,ho0,ht0⟩ _;have hm:m=σ l-k:=hm0;have hk:k<=σ l:=hk0;have ho:out=(a7 k).map (Ry (AM l) next a):=ho0;have ht:t=ν↔∀i(hi:i<σ l),i<k->l[i].qJ∈names->(CB (AM l) next i a).isSome=ν:=ht0;have hol:σ out=k:=by rw[ho,ae,ap]
 refine⟨λhlt0 _=>?_,λhge0=>?_⟩
 .have hlt:k<σ l:=hlt0;have nm:=Abc hv (a:=a) (next:=next) hlt;have md:=Aud hv (a:=a) (next:=next) hlt;have snoc:∀v,v=Ry (AM l) next a k->out++[v]=(a7 (k+1)).map (Ry (AM l) next a):=λv e=>by rw[ho,e,b7,am];rfl
  have DO:∀{P:Prop},(P↔(l[k].qJ∈names->(CB (AM l) next k a).isSome=ν))->∀u:Bool,(u=ν↔t=ν/\P)->(u=ν↔∀i(hi:i<σ l),i<k+1->l[i].qJ∈names->(CB (AM l) next i a).isSome=ν):=λ{P}hP u hu=>by grind
  refine⟨by show k<σ ((a7 (σ l)).map _);rw[ae,ap];exact hlt,λhb _=>?_,λhb _=>?_⟩
  .have hb:Tg l a next (AM l) k=ν:=by have hb:((a7 (σ l)).map (Tg l a next (AM l)))[k]'(by rw[ae,ap];exact hlt)=ν:=hb;rwa [aj,bb]at hb
   rw[UV hb]at nm md;refine⟨by show k<σ ((a7 (σ l)).map _);rw[ae,ap];exact hlt,by show (σ out+1)*8<=_;omega,by show k+1<=_;omega,σ l-(k+1),by omega,rfl,rfl,by show k+1<=_;omega,snoc _ ?_,?_⟩
   .show ((a7 (σ l)).map (rdV l a next (AM l)))[k]'(by rw[ae,ap];exact hlt)=_;rw[aj,bb,md]
   .exact DO (P:=True) ⟨λ_ _=>by rw[nm];rfl,λ_=>trivial⟩ t (by simp)
  .have hb:¬Tg l a next (AM l) k=ν:=by have hb:¬((a7 (σ l)).map (Tg l a next (AM l)))[k]'(by grind)=ν:=hb;rwa [aj,bb]at hb
   rw[GT hb]at nm md;have noN:(CB (AM l) next k a).isSome=ν↔False:=by rw[nm];simp
   refine⟨hlt,Vo ⟨by grind,λhtt=>WI hn (by omega) hlt λu hu=>⟨by grind,σ l-(k+1),by omega,rfl,rfl,by grind,snoc _ md.symm,?_⟩,λhtf=>⟨by grind,σ l-(k+1),by omega,rfl,rfl,by grind,snoc _ md.symm,?_⟩⟩⟩
   .have htt:t=ν:=htt;refine DO (P:=¬u=ν) ?_ _ (by simp [htt]);rw[hu,noN]
   .have htf:¬t=ν:=htf;refine DO (P:=l[k].qJ∈names->(CB (AM l) next k a).isSome=ν) Iff.rfl _ ?_;exact⟨λe=>qG (show τ=ν from e) (by decide),λe=>qG e.1 htf⟩
 grind
def Rg(b:Bool):Int:=if b=ν then 1 else 0
theorem Ao3(b:Bool):Rg b=0∨Rg b=1:=by cases b<;>simp [Rg]
theorem WY{b:Bool}:Rg b=1↔b=ν:=by cases b<;>simp [Rg]
theorem A2y{b:Bool}:Rg b=0↔b=τ:=by cases b<;>simp [Rg]
def LX(L:Ae)(t:Ab)(a:B.As):Int:=if (AA L.Aa ν t).1.Bool=ν then Rg ((Bq L t).1 a) else ((Bq L t).2 a).getD 0
theorem Se{vars:List Al}{t:Ab}{l:List Af}(he:(AW vars ν t l).2=0):(5<=t.Op->t.Op<=9->(AW vars ν t l).1.Bool=ν/\∀y∈l,y.Bool=ν)/\(t.Op=10∨t.Op=11->∀a b,l=[a,b]->(AW vars ν t l).1.Bool=ν/\a.Bool=b.Bool)/\(t.Op=12∨t.Op=13->∀a b,l=[a,b]->(AW vars ν t l).1.Bool=ν/\a.Bool=τ/\b.Bool=τ)/\(14<=t.Op->t.Op<=17->∀a b,l=[a,b]->(AW vars ν t l).1.Bool=τ/\a.Bool=τ/\b.Bool=τ)/\(t.Op=17->∀a b,l=[a,b]->∀p q,t.qZ=[p,q]->q.Op=1/\1<=q.N)/\(t.Op=18->∀a b c,l=[a,b,c]->a.Bool=ν/\b.Bool=c.Bool/\(AW vars ν t l).1.Bool=b.Bool):=by
 have sB:∀{lo hi:Int},(CV lo hi).1.Bool=τ:=λ{lo hi}=>by unfold CV;split<;>rfl
 have P5:5<=t.Op->t.Op<=9->AW vars ν t l=HC l:=λh1 h2=>by unfold AW;rw[GT (by omega),GT (by omega),GT (by omega),UV ⟨h1,h2⟩]
 have PN:10<=t.Op->AW vars ν t l=if t.Op=18 then ifE l else if t.Op=10∨t.Op=11 then eqE l else Alw t.Op t.qZ l:=λh2=>by unfold AW;rw[GT (by omega),GT (by omega),GT (by omega),GT (by omega)]
 have N:∀a b,l=[a,b]->12<=t.Op->t.Op<=17->a.Bool=τ/\b.Bool=τ/\AW vars ν t l=if t.Op=12∨t.Op=13 then (L5,0) else if t.Op=17 then Xk t.qZ else JV t.Op a b:=λa b hl h1 h2=>by
  have hP:=PN (by omega);rw[GT (by omega),GT (by omega),hl]at hP;have hP:AW vars ν t [a,b]=if a.Bool=ν∨b.Bool=ν then (OZ,(13:Int)) else if t.Op=12∨t.Op=13 then (L5,0) else if t.Op=17 then Xk t.qZ else JV t.Op a b:=hP
  grind
 refine⟨λh1 h2=>?_,λh1 a b hl=>?_,λh1 a b hl=>?_,λh1 h2 a b hl=>?_,λh1 a b hl p q hk=>?_,λh1 a b c hl=>?_⟩
 .rw[P5 h1 h2]at he ⊢;unfold HC at he ⊢;by_cases c:l.all (·.Bool)=ν
  .rw[UV c];exact⟨rfl,λy hy=>aq.1 c y hy⟩
  .rw[GT c]at he;exact qG he (by decide)
 .have hP:=PN (by omega);rw[GT (by omega),UV h1,hl]at hP;have hP:AW vars ν t [a,b]=if a.Bool≠b.Bool then (OZ,(13:Int)) else (L5,0):=hP
  rw[hl]at he ⊢;by_cases c:a.Bool≠b.Bool
  .rw[hP,UV c]at he;exact qG he (by decide)
  .rw[hP,GT c];exact⟨rfl,af.1 c⟩
 .grind
 .obtain⟨n1,n2,n3⟩:=N a b hl (by omega) h2;rw[n3,GT (by omega)];refine⟨?_,n1,n2⟩;split
  .unfold Xk;split
   .split
    .rfl
    .exact sB
   .rfl
  grind[JV]
 .obtain⟨n1,n2,n3⟩:=N a b hl (by omega) (by omega);rw[n3,GT (by omega),UV h1,hk]at he;have he:(if q.Op≠1∨q.N<1 then (OZ,(2:Int)) else CV 0 (q.N-1)).2=0:=he;grind
 .have hP:=PN (by omega);rw[UV h1,hl]at hP;have hP:AW vars ν t [a,b,c]=if ¬a.Bool=ν∨b.Bool≠c.Bool then (OZ,(13:Int)) else if b.Bool=ν then (b,0) else CV (KL τ b.Lo [(.i64,c.Lo)]) (KL ν b.Hi [(.i64,c.Hi)]):=hP
  grind
structure Afh(L:Ae)(a:B.As)(t:Ab):Prop where
 b:(AA L.Aa ν t).1.Bool=ν->LX L t a=Rg ((Bq L t).1 a)
 n:(AA L.Aa ν t).1.Bool=τ->(Bq L t).2 a=φ (LX L t a)
 r:-1048576<=LX L t a/\LX L t a<=1048576
theorem Afh.of{L:Ae}{n0:Int}{a:B.As}{t:Ab}(s:ON L n0 t (AA L.Aa ν t).1)(ty:YR (AA L.Aa ν t).1)(h1:Io L τ (σ L.Aa) a=ν)(h2:Io L ν (σ L.Aa) a=ν):Afh L a t:=by
 by_cases hb:(AA L.Aa ν t).1.Bool=ν
 .have e:LX L t a=Rg ((Bq L t).1 a):=UV hb;exact⟨λ_=>e,λh=>qG hb (by grind),by rw[e];rcases Ao3 ((Bq L t).1 a) with h|h<;>omega⟩
 .have hb':(AA L.Aa ν t).1.Bool=τ:=by grind
  obtain⟨v,hv⟩:=s.tt hb' a h1 h2;have e:LX L t a=v:=by grind[LX]
  have:=s.rg hb' a v hv;obtain⟨t1,t2,t3,_⟩:=ty;exact⟨λh=>qG h hb,λ_=>by grind,by omega⟩
theorem ZE{a:B.As}:∀(l:List B.Fn)(F:B.Fn),l.foldl CJ F a=(F a&&l.all λG=>G a)
 | [],F=>by simp
 |G::l,F=>by rw[bx,ZE l];simp [CJ,Bool.and_assoc]
theorem Aeo{a:B.As}:∀(l:List B.Fn)(F:B.Fn),l.foldl PA F a=(F a ||l.any λG=>G a)
 | [],F=>by simp
 |G::l,F=>by rw[bx,Aeo l];simp [PA,Bool.or_assoc]
theorem Awe{l:List Int}(h:∀x∈l,x=0∨x=1):∀{k:Nat},k<=σ l->0<=Dj l k/\Dj l k<=k/\(Dj l k=k↔∀i(_:i<σ l),i<k->l[i]=1)/\(0<Dj l k↔∃i,∃(_:i<σ l),i<k/\l[i]=1)
 |0,_=>⟨bv _,bv _,⟨λ_ i _ hi=>qG hi (a9 _),λ_=>rfl⟩,⟨λhh=>qG hh (Int.lt_irrefl 0),λ⟨i,_,hi,_⟩=>qG hi (a9 _)⟩⟩
 |k+1,hk=>by
  obtain⟨h1,h2,h3,h4⟩:=Awe h (k:=k) (by omega);have hx:=h _ (ab (show k<σ l by omega));rw[Ek (by omega)];refine⟨by omega,by omega,⟨λe i hi hik=>?_,λhh=>?_⟩,⟨λe=>?_,λ⟨i,hi,hik,hh⟩=>?_⟩⟩
  .by_cases e2:i=k
   .subst e2;omega
   .exact h3.1 (by omega) i _ (by omega)
  .have e1:=h3.2 λi hi hik=>hh i _ (by omega);have e2:=hh k (by omega) (by omega);omega
  .by_cases e2:l[k]=1
   .exact⟨k,by omega,by omega,e2⟩
   .obtain⟨i,hi,hik,hh⟩:=h4.1 (by omega);exact⟨i,hi,by omega,hh⟩
  .by_cases e2:i=k
   .subst e2;omega
   .have:=h4.2 ⟨i,hi,by omega,hh⟩;omega
def Af3(op:Int)(l:List Int):Int:=
 if op=5 then 1-l.getD 0 0 else if op=6 then Rg (δ (Dj l (σ l)=σ l)) else if op=7 then Rg (δ (0<Dj l (σ l)))
 else if op=8 then (if l.getD 0 0=0 then 1 else Rg (δ (l.getD 1 0=1))) else if op=9∨op=10 then Rg (δ (l.getD 0 0=l.getD 1 0)) else if op=11 then Rg (δ (¬l.getD 0 0=l.getD 1 0))
 else if op=12 then Rg (δ (l.getD 0 0<l.getD 1 0)) else if op=13 then Rg (δ (l.getD 0 0<=l.getD 1 0)) else if op=18 then (if l.getD 0 0=1 then l.getD 1 0 else l.getD 2 0) else opF op (l.getD 0 0) (l.getD 1 0)
theorem Aba{x y:Bool}:Rg x=Rg y↔x=y:=by cases x<;>simp [Rg]
theorem Ww{L:Ae}{a:B.As}{t:Ab}(ok:Um t)(h5:5<=t.Op)(he:(AW L.Aa ν t (t.qZ.map λk=>(AA L.Aa ν k).1)).2=0)(et:AA L.Aa ν t=AW L.Aa ν t (t.qZ.map λk=>(AA L.Aa ν k).1))(tv:Afh L a t)(kv:∀k∈t.qZ,Afh L a k):LX L t a=Af3 t.Op (t.qZ.map λk=>LX L k a):=by
 obtain⟨o1,o18,l4,l5,l64,l8,l18⟩:=ok.len;obtain⟨k59,k10,k12,k14,k17,k18⟩:=Se he;rw[<-et]at k59 k10 k12 k14 k18;have hT:(Bq L t).1=To L t.Op t.N t.qJ t.qZ (CG L t.qZ):=by rw[Kx]
 have hN:(Bq L t).2=opN L t.Op t.N t.qJ (CG L t.qZ):=by rw[Kx]
 have g1:∀{p:Ab},t.qZ=[p]->MN (CG L t.qZ) 0=(Bq L p).1:=λ{p}e=>by rw[e,Dp];rfl
 rcases(show t.Op=5∨t.Op=6∨t.Op=7∨(8<=t.Op/\t.Op<=17)∨t.Op=18 by omega) with o|o|o|o|o
 .obtain⟨p,hp⟩:∃p,t.qZ=[p]:=by
   match t.qZ,l5 o with
   | [p],_=>exact⟨p,rfl⟩
  obtain⟨y1,y2⟩:=k59 (by omega) (by omega);have bp:=y2 (AA L.Aa ν p).1 (by rw[hp];simp);have vp:=(kv p (by rw[hp];simp)).b bp;rw[tv.b y1,hT,o];have e1:To L 5 t.N t.qJ t.qZ (CG L t.qZ) a=!(Bq L p).1 a:=by rw[<-g1 hp];rfl
  rw[e1,hp];show Rg _=1-LX L p a;rw[vp];cases (Bq L p).1 a<;>rfl
 iterate 2
  .obtain⟨y1,y2⟩:=k59 (by omega) (by omega)
   have vk:∀i(hi:i<σ t.qZ),LX L t.qZ[i] a=Rg (MN (CG L t.qZ) i a):=λi hi=>by rw[Aad hi];exact(kv _ (ab hi)).b (y2 _ (bm (ab hi)))
   have s01:=(Awe (l:=t.qZ.map λk=>LX L k a) (λx hx=>by obtain⟨k,hk,rfl⟩:=ai.1 hx;obtain⟨i,hi,rfl⟩:=b9 hk;show LX L t.qZ[i] a=0∨LX L t.qZ[i] a=1;rw[vk i hi];exact Ao3 _) (Nat.le_refl _)).2.2
   rw[tv.b y1,hT,o]
   first
    |show Rg (((a7 (σ t.qZ)).map (MN (CG L t.qZ))).foldl CJ (λ_=>ν) a)=Rg (decide _)
     rw[Aba,ZE,Bool.true_and,b8,decide_eq_true_iff,s01.1,aq]
     refine⟨λh1 i hi _=>?_,λh1 F hF=>?_⟩
     .have hi:i<σ t.qZ:=by simpa using hi
      rw[aj,vk i hi,WY]
      exact h1 _ (ai.2 ⟨i,bd.2 hi,rfl⟩)
     .obtain⟨i,hi,rfl⟩:=ai.1 hF
      have hi:=bd.1 hi
      have:=h1 i (by simpa using hi) (by simpa using hi)
      rw[aj,vk i hi,WY]at this
      exact this
    |show Rg (((a7 (σ t.qZ)).map (MN (CG L t.qZ))).foldl PA (λ_=>τ) a)=Rg (decide _)
     rw[Aba,Aeo,Bool.false_or,b8,decide_eq_true_iff,s01.2,List.any_eq_true]
     refine⟨λ⟨F,hF,h1⟩=>?_,λ⟨i,hi,_,h1⟩=>?_⟩
     .obtain⟨i,hi,rfl⟩:=ai.1 hF
      have hi:=bd.1 hi
      exact⟨i,by simpa using hi,by simpa using hi,by rw[aj,vk i hi,WY];exact h1⟩
     .have hi:i<σ t.qZ:=by simpa using hi
      rw[aj,vk i hi,WY]at h1
      exact⟨_,ai.2 ⟨i,bd.2 hi,rfl⟩,h1⟩
 .obtain⟨p,q,hk⟩:=kl2 (l8 (by omega) (by omega));have mp:p∈t.qZ:=by rw[hk];simp
  have mq:q∈t.qZ:=by rw[hk];simp
  have F0:MN (CG L t.qZ) 0=(Bq L p).1:=by rw[hk,Dp];rfl
  have F1:MN (CG L t.qZ) 1=(Bq L q).1:=by rw[hk,Dp];rfl
  have V0:Yu (CG L t.qZ) 0=(Bq L p).2:=by rw[hk,Dp];rfl
  have V1:Yu (CG L t.qZ) 1=(Bq L q).2:=by rw[hk,Dp];rfl
  have tl:(t.qZ.map λk=>(AA L.Aa ν k).1)=[(AA L.Aa ν p).1,(AA L.Aa ν q).1]:=by rw[hk];rfl
  have kb:Az1 L t.qZ=(AA L.Aa ν p).1.Bool:=by rw[hk];rfl
  have hv:∀op,Af3 op (t.qZ.map λk=>LX L k a)=Af3 op [LX L p a,LX L q a]:=λop=>by rw[hk];rfl
  rw[hv];rcases(show t.Op=8∨t.Op=9∨(t.Op=10∨t.Op=11)∨(t.Op=12∨t.Op=13)∨(14<=t.Op/\t.Op<=17) by omega) with o|o|o|o|o
  iterate 2
   .obtain⟨y1,y2⟩:=k59 (by omega) (by omega)
    have bp:=y2 (AA L.Aa ν p).1 (by rw[tl];simp)
    have bq:=y2 (AA L.Aa ν q).1 (by rw[tl];simp)
    rw[tv.b y1,hT,o,(kv p mp).b bp,(kv q mq).b bq]
    first
     |rw[show To L 8 t.N t.qJ t.qZ (CG L t.qZ)=Xx _ _ from rfl,F0,F1]
     |rw[show To L 9 t.N t.qJ t.qZ (CG L t.qZ)=Ot (MN (CG L t.qZ) 0) (MN (CG L t.qZ) 1) from rfl,F0,F1]
    simp only[Xx,Ot]
    generalize (Bq L p).1 a=x
    generalize (Bq L q).1 a=y
    revert x y
    decide
  .obtain⟨y1,y2⟩:=k10 o _ _ tl;rw[tv.b y1,hT];by_cases bp:(AA L.Aa ν p).1.Bool=ν
   .rw[(kv p mp).b bp,(kv q mq).b (y2▸bp)];have e1:To L t.Op t.N t.qJ t.qZ (CG L t.qZ)=eqF t.Op (Bq L p).1 (Bq L q).1:=by rcases o with o|o<;>(rw[o,<-F0,<-F1];unfold To;simp [kb,bp])
    rw[e1];rcases o with o|o <;>
    .rw[o];first
      |rw[show eqF 10 (Bq L p).1 (Bq L q).1=Ot (Bq L p).1 (Bq L q).1 from UV rfl]
      |rw[show eqF 11 (Bq L p).1 (Bq L q).1=RN (Bq L p).1 (Bq L q).1 from GT (by decide)]
     simp only[Ot,RN];generalize (Bq L p).1 a=x;generalize (Bq L q).1 a=y;revert x y;decide
   .have bp:=by simpa using bp
    have vp:=(kv p mp).n bp;have vq:=(kv q mq).n (y2▸bp);have e1:To L t.Op t.N t.qJ t.qZ (CG L t.qZ)=TZ (VQ t.Op) (Bq L p).2 (Bq L q).2:=by rcases o with o|o<;>(rw[o,<-V0,<-V1];unfold To;simp [kb,bp])
    rw[e1];unfold TZ;rw[vp,vq];rcases o with o|o<;>(rw[o];simp [VQ,Af3,Rg])
  .obtain⟨y1,y2,y3⟩:=k12 o _ _ tl;rw[tv.b y1,hT];have vp:=(kv p mp).n y2;have vq:=(kv q mq).n y3;have e1:To L t.Op t.N t.qJ t.qZ (CG L t.qZ)=TZ (VQ t.Op) (Bq L p).2 (Bq L q).2:=by rcases o with o|o<;>(rw[o,<-V0,<-V1];unfold To;simp)
   rw[e1];unfold TZ;rw[vp,vq];rcases o with o|o<;>(rw[o];simp [VQ,Af3,Rg])
  .obtain⟨y1,y2,y3⟩:=k14 o.1 o.2 _ _ tl;have vp:=(kv p mp).n y2;have vq:=(kv q mq).n y3;have h1:=tv.n y1;have e1:opN L t.Op t.N t.qJ (CG L t.qZ)=Zs (opF t.Op) (Bq L p).2 (Bq L q).2:=by rw[<-V0,<-V1];unfold opN;rw[GT (by omega),GT (by omega),GT (by omega)]
   rw[hN,e1]at h1;unfold Zs at h1;rw[vp,vq]at h1;have h1:=h1;rw[<-ad h1];unfold Af3;rw[GT (by omega),GT (by omega),GT (by omega),GT (by omega),GT (by omega),GT (by omega),GT (by omega),GT (by omega),GT (by omega)];rfl
 .obtain⟨p,q,r,hk⟩:=kl3 (l18 o);have mp:p∈t.qZ:=by rw[hk];simp
  have mq:q∈t.qZ:=by rw[hk];simp
  have mr:r∈t.qZ:=by rw[hk];simp
  have F0:MN (CG L t.qZ) 0=(Bq L p).1:=by rw[hk,Dp];rfl
  have F1:MN (CG L t.qZ) 1=(Bq L q).1:=by rw[hk,Dp];rfl
  have F2:MN (CG L t.qZ) 2=(Bq L r).1:=by rw[hk,Dp];rfl
  have V1:Yu (CG L t.qZ) 1=(Bq L q).2:=by rw[hk,Dp];rfl
  have V2:Yu (CG L t.qZ) 2=(Bq L r).2:=by rw[hk,Dp];rfl
  have tl:(t.qZ.map λk=>(AA L.Aa ν k).1)=[(AA L.Aa ν p).1,(AA L.Aa ν q).1,(AA L.Aa ν r).1]:=by rw[hk];rfl
  obtain⟨y1,y2,y3⟩:=k18 o _ _ _ tl;have vp:=(kv p mp).b y1;have hv:Af3 t.Op (t.qZ.map λk=>LX L k a)=if LX L p a=1 then LX L q a else LX L r a:=by rw[hk,o];rfl
  rw[hv,vp];by_cases bq:(AA L.Aa ν q).1.Bool=ν
  .rw[tv.b (y3.trans bq),(kv q mq).b bq,(kv r mr).b (y2▸bq),hT,o];rw[show To L 18 t.N t.qJ t.qZ (CG L t.qZ)=Db (MN (CG L t.qZ) 0) (MN (CG L t.qZ) 1) (MN (CG L t.qZ) 2) from rfl,F0,F1,F2];simp only[Db];generalize (Bq L p).1 a=x;generalize (Bq L q).1 a=y;generalize (Bq L r).1 a=z;revert x y z;decide
  .have bq:=by simpa using bq
   have vq:=(kv q mq).n bq;have vr:=(kv r mr).n (y2▸bq);have h1:=tv.n (y3.trans bq);rw[hN,o,show opN L 18 t.N t.qJ (CG L t.qZ)=ifV (MN (CG L t.qZ) 0) (Yu (CG L t.qZ) 1) (Yu (CG L t.qZ) 2) from rfl,F0,V1,V2]at h1;unfold ifV at h1;rw[vq,vr]at h1;by_cases c:(Bq L p).1 a=ν
   .rw[UV c]at h1;rw[UV (WY.2 c)];exact(ad h1).symm
   .rw[GT c]at h1;rw[GT λh=>c (WY.1 h)];exact(ad h1).symm
end Go.Proofs.YtcbkbpjlbmalmaaGreatDoor
