/-
  What is to be shown of functions, as computed from their code; and that it suffices. (Merged by program out of 25 texts.)
-/
import Derived.Test.YtcbkbpjlbmalmaaGreatDoorTah
open Int renaming toNat->a4,natCast_nonneg->ah,mul_comm->az,toNat_natCast->b4,tdiv->bb,pow_succ->bq
open List renaming getElem?_eq_getElem->a5,take_succ_eq_append_getElem->a8,range->ac,getElem_mem->ad,mem_cons_self->ae,replicate->ag,length_append->ai,take_append_drop->aj,getElem?_eq_none->ak,map_append->al,length_map->am,length->ao,mem_map->ap,take_of_length_le->aq,mem_append_right->au,mem_cons->aw,mem_append_left->ax,mem_cons_of_mem->ay,all_eq_true->b5,length_take->b6,range_succ->b7,sizeOf_lt_of_mem->b8,perm_append_comm->b9,getElem_of_mem->bd,take_succ_cons->bf,getElem?_map->bg,take_length->bi,length_drop->bj,append_nil->bm,map_cons->bo
open Nat renaming zero_le->a6,lt_succ_self->a9,not_lt_zero->ab,pow_le_pow_right->ba,mul_le_mul->bn
open Classical renaming byContradiction->a7,not_not->aa
open Option renaming some.inj->af,getD_some->av
open Bool renaming false_ne_true->an,eq_iff_iff->bk
open And renaming intro->bh
namespace Go.Proofs.YtcbkbpjlbmalmaaGreatDoor
open Go Go.X Go.Y
section
def G0(op:Int):Int×Int:=if op=1∨op=2∨op=3∨op=4 then (0,0) else if op=5 then (1,1) else if op=6∨op=7 then (1,64) else if 8<=op/\op<=17 then (2,2) else if op=18 then (3,3) else (-1,-1)
theorem Ww{op:Int}{H:HY}{X:PX}{Q:Int×Int×Unit->UU}(h:Q ((G0 op).1,(G0 op).2,()) () H):qK IP GI (op,()) H Q X:=by
 refine wF Tryz.f219 {} (?_:GF op H Q X);unfold GF;have c:∀a b,G0 op=(a,b)->Q (a,b,()) () H:=λa b e=>by grind
 repeat' (first|(refine bh ?_ ?_)|intro _)
 all_goals grind[G0]
theorem Ad4{s:ByteArray}:s={data:={toList:=[]:Array UInt8}:ByteArray}↔s.size=0:=by
 constructor
 .rintro rfl;rfl
 .intro h;obtain⟨⟨l⟩⟩:=s;have:l.length=0:=h;grind
def Anb(op:Int):Int:=if op=1 then -255 else 0
def Amy(op:Int):Int:=if op=1 then 255 else if op=2 then 1 else 0
def CA(t:Ae):Int:=
 if (G0 t.Op).1<0 then 11 else if t.N<Anb t.Op∨Amy t.Op<t.N then 2
 else if ((t.Op=3∨t.Op=4)/\(t.qJ.size=0∨24<t.qJ.size))∨(¬(t.Op=3∨t.Op=4)/\t.qJ.size≠0) then 12
 else if (t.qZ.length:Int)<(G0 t.Op).1∨(G0 t.Op).2<(t.qZ.length:Int) then 3 else 0
theorem Yt(t:Ae){few many:Int}(g:G0 t.Op=(few,many)):∃le mo:Int,(few<0->CA t=11)/\(¬few<0->(t.N<le∨mo<t.N)->CA t=2)/\(¬few<0->¬(t.N<le∨mo<t.N)->(((t.Op=3∨t.Op=4)/\(t.qJ.size=0∨24<t.qJ.size))∨(¬(t.Op=3∨t.Op=4)/\t.qJ.size≠0))->CA t=12)/\(¬few<0->¬(t.N<le∨mo<t.N)->¬(((t.Op=3∨t.Op=4)/\(t.qJ.size=0∨24<t.qJ.size))∨(¬(t.Op=3∨t.Op=4)/\t.qJ.size≠0))->((t.qZ.length:Int)<few∨many<(t.qZ.length:Int))->CA t=3)/\(¬few<0->¬(t.N<le∨mo<t.N)->¬(((t.Op=3∨t.Op=4)/\(t.qJ.size=0∨24<t.qJ.size))∨(¬(t.Op=3∨t.Op=4)/\t.qJ.size≠0))->¬((t.qZ.length:Int)<few∨many<(t.qZ.length:Int))->CA t=0)/\(t.Op=1->le=-255/\mo=255)/\(t.Op=2->le=0/\mo=1)/\(¬t.Op=1->¬t.Op=2->le=0/\mo=0):=by
 unfold CA;rw[g];exact⟨Anb t.Op,Amy t.Op,λa=>UV a,λa b=>(GT a).trans (UV b),λa b c=>(GT a).trans ((GT b).trans (UV c)),λa b c d=>(GT a).trans ((GT b).trans ((GT c).trans (UV d))),λa b c d=>(GT a).trans ((GT b).trans ((GT c).trans (GT d))),
  λe=>by rw[e];exact⟨rfl,rfl⟩,λe=>by rw[e];exact⟨rfl,rfl⟩,λf h=>⟨GT f,by unfold Amy;rw[GT f,GT h]⟩⟩
set_option maxHeartbeats 4000000 in
theorem UB{t:Ae}{H:HY}{X:PX}{Q:Int×Unit->UU}(h:Q (CA t,()) () H):qK JK Hw (t,()) H Q X:=by
 refine wF Tryz.f166 {im:=[1]} (?_:FA t H Q X);unfold FA;refine Ww ?_;simp only[Ad4];have a:∀c,CA t=c->Q (c,()) () H:=λc e=>by rw[e]at h;exact h
 generalize j:G0 t.Op=d at *;obtain⟨f,b⟩:=d;simp only;obtain⟨k,l,g,p,i,o,q,m,r,n⟩:=Yt t j;generalize CA t=w at *;repeat' (first|(refine bh ?_ ?_)|intro _)
 all_goals grind
mutual
def GX(deep n:Int):Ae->Int×Int
 |⟨op,k,nm,ks⟩=>
  if 64<deep then (n+1,17)
  else if CA ⟨op,k,nm,ks⟩=0 then if 4096<n+1 then (n+1,4) else Ee (deep+1) (n+1) ks
  else (n+1,CA ⟨op,k,nm,ks⟩)
def Ee(deep n:Int):List Ae->Int×Int
 | []=>(n,0)
 |t::ts=>let r:=GX deep n t;if r.2=0 then Ee deep r.1 ts else r
end
theorem Uy(deep n:Int)(t:Ae):GX deep n t=if 64<deep then (n+1,17) else if CA t=0 then if 4096<n+1 then (n+1,4) else Ee (deep+1) (n+1) t.qZ else (n+1,CA t):=by cases t;rfl
theorem VY(a:Int)(t:Ae):∀(l:List Ae)(n m:Int),Ee a n l=(m,0)->Ee a n (l++[t])=GX a m t
 | [],n,m,h=>by
  have h:(n,(0:Int))=(m,0):=by grind[Ee]
  cases h;show Ee a n [t]=_;unfold Ee;show (if (GX a n t).2=0 then Ee a (GX a n t).1 [] else GX a n t)=_;by_cases e:(GX a n t).2=0
  .rw[UV e];grind[Ee]
  grind
 |s::l,n,m,h=>by show Ee a n (s::(l++[t]))=_;unfold Ee at h ⊢;simp only at h ⊢;by_cases e:(GX a n s).2=0;all_goals simp_all[VY]
theorem Yc(a:Int)(b:List Ae):∀(l:List Ae)(n:Int),(Ee a n l).2≠0->Ee a n (l++b)=Ee a n l
 | [],n,h=>by grind[Ee]
 |s::l,n,h=>by show Ee a n (s::(l++b))=_;unfold Ee at h ⊢;simp only at h ⊢;by_cases e:(GX a n s).2=0;all_goals simp_all[Yc]
abbrev At9(b1 b0:Nat):Ae×Int×Unit->HY->(Bool×Unit->HP)->PX->Prop:=λ(a:Ae×Int×Unit)(H:HY)(Q:Bool×Unit->HP)(X:Nat->Lf Y0.D->HP)=>qK F7 Ep (a.1,a.2.1,some b1,some b0,()) H (λ(b:Bool×Unit)_ H'=>Q (b.1,()) H') X
structure Sv(b1 b0:Nat)(H0 H:HY)(n w:Int):Prop where
 ne:b1≠b0
 n:H b1=some (.st Ba n)
 w:H b0=some (.st Ba w)
 f:∀c,c≠b1->c≠b0->H c=H0 c
variable {b1 b0:Nat} {H0 H:HY} {n w:Int}
theorem Sv.sn{m:Int}(h:Sv b1 b0 H0 H n w):Sv b1 b0 H0 (Ab H b1 (.st Ba m)) m w:=
 ⟨h.ne,Ai _ _ _,by rw[Ag _ _ (Ne.symm h.ne)];exact h.w,λc a b=>by rw[Ag _ _ a];exact h.f c a b⟩
theorem Sv.sw{m:Int}(h:Sv b1 b0 H0 H n w):Sv b1 b0 H0 (Ab H b0 (.st Ba m)) n m:=
 ⟨h.ne,by rw[Ag _ _ h.ne];exact h.n,Ai _ _ _,λc b a=>by rw[Ag _ _ a];exact h.f c b a⟩
def PA(deep n:Int)(t:Ae):Int:=if 64<deep then 17 else if CA t=0 then if 4096<n+1 then 4 else 0 else CA t
theorem Asp{deep:Int}{t:Ae}{X:PX}{Q:Bool×Unit->UU}(i:Sv b1 b0 H0 H n w)(j:0<=n/\n<1000000000000)(h:∀H',Sv b1 b0 H0 H' (n+1) (PA deep n t)->Q (decide (PA deep n t=0),()) () H'):qK F7 Ep (t,deep,some b1,some b0,()) H Q X:=by
 refine wF Tryz.f165 {im:=[4]} (?_:HN t deep (some b1) (some b0) H Q X);unfold HN;have f:Sv b1 b0 H0 (Ab H b1 (.st Ba (n+1))) (n+1) w:=i.sn;have b:∀v,PA deep n t=v->Q (decide (v=0),()) () (Ab (Ab H b1 (.st Ba (n+1))) b0 (.st Ba v)):=λv e=>by have:=h (Ab (Ab H b1 (.st Ba (n+1))) b0 (.st Ba v)) (by rw[e];exact f.sw);grind
 refine⟨b1,rfl,n,i.n,λ_=>⟨A7.2 (by omega),λc=>⟨b0,rfl,w,f.w,?_⟩,λc=>?_⟩⟩
 .exact b 17 (UV c)
 .refine UB ⟨b0,rfl,w,f.w,λa=>?_,λa=>?_⟩
  .have a:CA t=0:=a;have d:Sv b1 b0 H0 (Ab (Ab H b1 (.st Ba (n+1))) b0 (.st Ba (CA t))) (n+1) (CA t):=f.sw;refine⟨n+1,d.n,λg=>⟨rfl,CA t,d.w,?_⟩,λg=>⟨rfl,CA t,d.w,rfl,?_⟩⟩
   .have e:PA deep n t=4:=by unfold PA;rw[GT c,UV a,UV g]
    have:=h (Ab (Ab (Ab H b1 (.st Ba (n+1))) b0 (.st Ba (CA t))) b0 (.st Ba (4:Int))) (by rw[e];exact d.sw);grind
   .have e:PA deep n t=CA t:=by unfold PA;rw[GT c,UV a,GT g,a]
    grind
  .have a:¬CA t=0:=a;simp_all[PA]
theorem ZO{b1 b0:Nat}{H0:HY}{X:PX}:∀(z:Nat)(t:Ae){n w deep:Int}{H:HY}{Q:Bool×Unit->UU},SizeOf.sizeOf t<z->Sv b1 b0 H0 H n w->(0<=n/\n<=4096)->(0<=deep/\deep<=1000)->(∀H',Sv b1 b0 H0 H' (GX deep n t).1 (GX deep n t).2->n<=(GX deep n t).1->((GX deep n t).2=0->(GX deep n t).1<=4096)->Q (decide ((GX deep n t).2=0),()) () H')->qK Fw Ex (t,deep,At9 b1 b0,()) H Q X
 |0,_,_,_,_,_,_,L,_,_,_,_=>qG L (ab _)
 |z+1,t,n,w,deep,H,Q,L,T,hn,Y,h=>by
  apply Rb;unfold MK;have U:SizeOf.sizeOf t.qZ<SizeOf.sizeOf t:=by cases t;grind
  refine Asp T (by omega) λJ E=>⟨λa=>?_,λc _=>?_⟩
  .grind[decide,PA,decide_eq_true,GX,Uy]
  .have c:PA deep n t=0:=by grind
   rw[c]at E;have e:GX deep n t=Ee (deep+1) (n+1) t.qZ/\deep<=64/\n+1<=4096:=by grind[Uy,PA]
   obtain⟨e,K,C⟩:=e;rw[e]at h;refine⟨λm y v=>m=t.qZ.length-y.1/\y.1<=t.qZ.length/\∃d,Ee (deep+1) (n+1) (t.qZ.take y.1)=(d,0)/\Sv b1 b0 H0 v d 0/\n+1<=d/\d<=4096,⟨_,rfl,a6 _,n+1,?_,E,by omega,C⟩,?_⟩
   .rfl
   rintro m ⟨i,_⟩ v ⟨p,u,d,r,F,S,I⟩;have W:m=t.qZ.length-i:=p;have Z:i<=t.qZ.length:=u;have o:Ee (deep+1) (n+1) (t.qZ.take i)=(d,0):=r;refine⟨λs _=>?_,λq=>?_⟩
   .have j:i<t.qZ.length:=s;have D:SizeOf.sizeOf t.qZ[i]<z:=by have F:=b8 (ad j);omega
    have G:t.qZ.take (i+1)=t.qZ.take i++[t.qZ[i]]:=a8 j;have f:=VY (deep+1) t.qZ[i] _ _ _ o;rw[<-G]at f;refine⟨j,λ_=>⟨A7.2 (by omega),?_⟩⟩;show qK Fw Ex (Ae.mk t.qZ[i].Op t.qZ[i].N t.qZ[i].qJ t.qZ[i].qZ,deep+1,At9 b1 b0,()) v _ X;rw[Re];refine ZO z t.qZ[i] D F (by omega) (by omega) λR B l1 V=>⟨λa=>?_,λb=>⟨by grind,t.qZ.length-(i+1),by omega,rfl,by grind,(GX (deep+1) d t.qZ[i]).1,?_,?_,by omega,V (of_decide_eq_true (aa.1 b))⟩⟩
    .have a:¬(GX (deep+1) d t.qZ[i]).2=0:=λe=>a (decide_eq_true e);grind[Ee,GX,Yc,aj,decide_eq_false]
    all_goals grind
   grind
theorem UD{t:Ae}{X:PX}{Q:Int×Unit->UU}(h:∀H',(∀c,H c≠none->H' c=H c)->Q ((GX 1 0 t).2,()) () H'):qK Md JD (t,()) H Q X:=by
 refine wF Tryz.f90 {pr:=[(3,8),(4,8)],im:=[1]} (?_:JA t H Q X);unfold JA;intro b n f d;have a:f≠b:=λe=>by grind[Ai]
 have g:H f=none:=by grind[Ag]
 refine⟨0,by rw[Ag _ _ (Ne.symm a),Ai],0,by rw[Ag _ _ a,Ai],?_⟩;have m:Sv f b H (Ab (Ab (Ab (Ab H b (Ob.st Ba (0:Int))) f (Ob.st Ba (0:Int))) b (Ob.st Ba (0:Int))) f (Ob.st Ba (0:Int))) 0 0:=
  ⟨a,Ai _ _ _,by rw[Ag _ _ (Ne.symm a),Ai],λc j i=>by rw[Ag _ _ j,Ag _ _ i,Ag _ _ j,Ag _ _ i]⟩
 refine ZO (SizeOf.sizeOf t+1) t (by omega) m (by omega) (by omega) λH' k _ _=>⟨_,k.w,rfl,h H' λc l=>k.f c (λe=>l (by grind)) (λe=>l (by grind))⟩
end
section
abbrev Sz:Af:={Bool:=false,Lo:=0,Hi:=0}
abbrev N6:Af:={Bool:=true,Lo:=0,Hi:=0}
def Fe(lo hi:Int):Af×Int:=if lo < -1048576∨1048576<hi∨hi<lo∨4096<hi-lo then (Sz,2) else ({Bool:=false,Lo:=lo,Hi:=hi},0)
variable {H:HY} {X:PX} {Q:Af×Int×Unit->UU}
theorem E5{lo hi:Int}(h:Q ((Fe lo hi).1,(Fe lo hi).2,()) () H):qK Bz Br (lo,hi,()) H Q X:=by
 refine wF Tryz.f220 {} (?_:KB lo hi H Q X);unfold KB;have a:(lo < -1048576∨1048576<hi∨hi<lo∨4096<hi-lo)->Q (Sz,2,()) () H:=λc=>by simp_all[Fe]
 refine⟨λb=>a (.inl b),λb=>⟨λe=>a (.inr (.inl e)),λe=>⟨λf=>a (.inr (.inr (.inl f))),λf _ _=>⟨A7.2 (by omega),λd=>a (.inr (.inr (.inr d))),λd=>?_⟩⟩⟩⟩;simp_all[Fe]
def TyR(y:Af):Prop:=-1048576<=y.Lo/\y.Lo<=y.Hi/\y.Hi<=1048576/\(y.Bool=true->y=N6)
theorem ZW{lo hi:Int}(h:(Fe lo hi).2=0):TyR (Fe lo hi).1/\(Fe lo hi).1={Bool:=false,Lo:=lo,Hi:=hi}:=by
 unfold Fe at h ⊢;by_cases c:lo < -1048576∨1048576<hi∨hi<lo∨4096<hi-lo
 .grind
 .rw[GT c];exact⟨⟨by grind,by grind,by grind,λe=>by cases e⟩,rfl⟩
def KA(l:List Af):Af×Int:=if l.all (·.Bool)=true then (N6,0) else (Sz,13)
theorem TR{l:List Af}(u:l.length<=1000)(h:Q ((KA l).1,(KA l).2,()) () H):qK Eb D4 (l,()) H Q X:=by
 refine wF Tryz.f221 {lp:=[(2,⟨[(2,.blk [.dat .bool,.dat I6,.dat I6]),(8,.nat)],[6,7],false⟩)]} (?_:l.length<=2^63-1->∃(V:Nat->(Bool×Int×Int×UT)×Nat×UT->Prop),(∃(n:Nat),H=H/\V n ((false,0,0,()),0,()))/\∀n x,V n x->(x.2.1<l.length->x.2.1<=2^63-1->∃(h:x.2.1<l.length),(¬l[x.2.1].Bool->Q ({Bool:=false,Lo:=0,Hi:=0:Af},13,()) () H)/\(¬¬l[x.2.1].Bool->x.2.1+1<=2^63-1/\∃m,m<n/\H=H/\V m ((x.1.1,x.1.2.1,x.1.2.2.1,()),x.2.1+1,())))/\(¬x.2.1<l.length->Q ({Bool:=true,Lo:=0,Hi:=0:Af},0,()) () H));refine λ_=>⟨λm z=>m=l.length-z.2.1/\z.2.1<=l.length/\∀i(a:i<l.length),i<z.2.1->l[i].Bool=true,⟨_,rfl,rfl,a6 _,λi _ a=>qG a (ab _)⟩,?_⟩
 rintro m ⟨⟨x,y,z,_⟩,k,_⟩ ⟨o,n,b⟩;have v:m=l.length-k:=o;have t:k<=l.length:=n;have p:∀i(a:i<l.length),i<k->l[i].Bool=true:=b;unfold KA at h;refine⟨λd _=>?_,λj=>?_⟩
 .have f:k<l.length:=d;refine⟨f,λg=>?_,λg=>⟨by grind,l.length-(k+1),by omega,rfl,rfl,by grind,λi a c=>?_⟩⟩;all_goals grind
 .have s:¬k<l.length:=j;rw[UV (b5.2 λx r=>by obtain⟨i,a,rfl⟩:=bd r;grind)]at h
  exact h
def Oa(op:Int)(a b:Af):Af×Int:=
 if op=15 then Fe (a.Lo + -b.Hi) (a.Hi + -b.Lo) else if op=14 then Fe (a.Lo+b.Lo) (a.Hi+b.Hi)
 else Fe (GZ false (a.Lo*b.Lo) [(.i64,a.Lo*b.Hi),(.i64,a.Hi*b.Lo),(.i64,a.Hi*b.Hi)]) (GZ true (a.Lo*b.Lo) [(.i64,a.Lo*b.Hi),(.i64,a.Hi*b.Lo),(.i64,a.Hi*b.Hi)])
theorem Rc{op:Int}{a b:Af}(g:TyR a)(f:TyR b)(h:Q ((Oa op a b).1,(Oa op a b).2,()) () H):qK GQ EP (op,a,b,()) H Q X:=by
 refine wF Tryz.f222 {im:=[4]} (?_:GD op a b H Q X);unfold GD;obtain⟨s,o,r,_⟩:=g;obtain⟨j,m,n,_⟩:=f;unfold Oa at h;have c:∀x y:Int,-1048576<=x->x<=1048576->-1048576<=y->y<=1048576->Bn .i64 (x*y):=λx y k q l p=>by have:=Agh (x:=x) (y:=y) (by omega) (by omega);grind[A7]
 refine⟨λe _=>⟨A7.2 (by omega),λ_=>⟨A7.2 (by omega),λ_ _ _=>⟨A7.2 (by omega),λ_ _=>⟨A7.2 (by omega),E5 ?_⟩⟩,λi=>qG rfl i⟩⟩,λe=>⟨λd _ _=>⟨A7.2 (by omega),λ_ _=>⟨A7.2 (by omega),E5 ?_⟩⟩,λd _ _=>⟨c _ _ (by omega) (by omega) (by omega) (by omega),λ_ _=>⟨c _ _ (by omega) (by omega) (by omega) (by omega),λ_ _=>⟨c _ _ (by omega) (by omega) (by omega) (by omega),λ_ _=>⟨c _ _ (by omega) (by omega) (by omega) (by omega),E5 ?_⟩⟩⟩⟩⟩⟩;all_goals grind
def Wf(vars:List Ar)(m:List (ByteArray×Int)):Prop:=∀nm,Ad m nm=if Cl vars nm<vars.length then some (Cl vars nm:Int) else none
theorem XK{l:List Ar}{v:Ar}{nm:ByteArray}:Cl (l++[v]) nm=if Cl l nm<l.length then Cl l nm else if v.qJ=nm then l.length else l.length+1:=by grind[Cl]
theorem UC{vars:List Ar}{Q:List (ByteArray×Int)×Unit->UU}(y:vars.length<=1000)(h:∀m,Wf vars m->Q (m,()) () H):qK Mc JC (vars,()) H Q X:=by
 refine wF Tryz.f92 {lp:=[(3,⟨[(3,.map .str I6),(11,.nat)],[9,10],false⟩)]} (?_:J9 vars H Q X);unfold J9;refine λ_=>⟨λn z=>n=vars.length-z.2.1/\z.2.1<=vars.length/\Wf (vars.take z.2.1) z.1,⟨_,rfl,rfl,a6 _,λb=>rfl⟩,?_⟩
 rintro n ⟨m,k,_⟩ ⟨p,d,i⟩;have A:n=vars.length-k:=p;have x:k<=vars.length:=d;have q:Wf (vars.take k) m:=i;refine⟨λl _=>?_,λs=>?_⟩
 .have r:k<vars.length:=l;have v:vars.take (k+1)=vars.take k++[vars[k]]:=a8 r;have j:(vars.take k).length=k:=by grind
  have c:(vars.take (k+1)).length=k+1:=by grind
  have d:=q vars[k].qJ;refine⟨r,λg=>⟨by grind,vars.length-(k+1),by omega,rfl,rfl,by grind,λb=>?_⟩,λa=>⟨by show k+1<=_;omega,vars.length-(k+1),by omega,rfl,rfl,by grind,λb=>?_⟩⟩
  .have g:¬(Ad m vars[k].qJ).isSome=true:=g;have o:¬Cl (vars.take k) vars[k].qJ<(vars.take k).length:=λu=>by grind
   show Ad (BR m vars[k].qJ (k:Int)) b=if Cl (vars.take (k+1)) b<(vars.take (k+1)).length then some (Cl (vars.take (k+1)) b:Int) else none
   rw[c,v,XK,Cw];by_cases e:vars[k].qJ=b
   .subst e;rw[GT o,UV rfl,UV rfl,UV (by omega),j]
   .rw[GT (Ne.symm e),q b];grind
  .have a:¬¬(Ad m vars[k].qJ).isSome=true:=a;have t:Cl (vars.take k) vars[k].qJ<(vars.take k).length:=a7 λu=>by grind
   show Ad m b=if Cl (vars.take (k+1)) b<(vars.take (k+1)).length then some (Cl (vars.take (k+1)) b:Int) else none
   rw[c,v,XK,q b];grind
 grind
def R5(vars:List Ar)(op:Int)(nm:ByteArray)(next:Bool):Af×Int:=match vars[Cl vars nm]? with
 |none=>(Sz,12)
 |some v=>if op=4/\next=false then (Sz,24) else if v.Bool=true then (N6,0) else Fe v.Lo v.Hi
def ifE(l:List Af):Af×Int:=match l with
 | [a,b,c]=>if ¬a.Bool=true∨b.Bool≠c.Bool then (Sz,13) else if b.Bool=true then (b,0) else Fe (GZ false b.Lo [(.i64,c.Lo)]) (GZ true b.Hi [(.i64,c.Hi)])
 |_=>(Sz,0)
def eqE(l:List Af):Af×Int:=match l with
 | [a,b]=>if a.Bool≠b.Bool then (Sz,13) else (N6,0)
 |_=>(Sz,0)
def Ai6(ks:List Ae):Af×Int:=match ks with
 | [_,k]=>if k.Op≠1∨k.N<1 then (Sz,2) else Fe 0 (k.N-1)
 |_=>(Sz,0)
def Aq2(op:Int)(ks:List Ae)(l:List Af):Af×Int:=match l with
 | [a,b]=>if a.Bool=true∨b.Bool=true then (Sz,13) else if op=12∨op=13 then (N6,0) else if op=17 then Ai6 ks else Oa op a b
 |_=>(Sz,0)
def Cp(vars:List Ar)(next:Bool)(t:Ae)(l:List Af):Af×Int:=
 if t.Op=1 then Fe t.N t.N else if t.Op=2 then (N6,0) else if t.Op=3∨t.Op=4 then R5 vars t.Op t.qJ next
 else if 5<=t.Op/\t.Op<=9 then KA l else if t.Op=18 then ifE l else if t.Op=10∨t.Op=11 then eqE l else Aq2 t.Op t.qZ l
theorem Agk(a:Int):(G0 a).2<=64:=by unfold G0;(repeat' split)<;>decide
theorem nb:∀x y:Bool,(not (decide (x=true)==decide (y=true))=true)↔x≠y:=by decide
theorem Wv{vars:List Ar}{at_:List (ByteArray×Int)}{t:Ae}{next:Bool}{l:List Af}{Q:Af×Int×Unit->List (ByteArray×Int)×Unit->HP}(_:vars.length<=1000)(hm:Wf vars at_)(n:CA t=0)(R:l.length=t.qZ.length)(W:∀y∈l,TyR y)(h:Q ((Cp vars next t l).1,(Cp vars next t l).2,()) (at_,()) H):qK GR Fj (vars,at_,t,next,l,()) H Q X:=by
 refine wF Tryz.f167 {im:=[7]} (?_:Ev vars at_ t next l H Q X);unfold Ev;have d:∀y e,Cp vars next t l=(y,e)->Q (y,e,()) (at_,()) H:=λy e he=>by grind
 have r:0<=(G0 t.Op).1/\(G0 t.Op).1<=(t.qZ.length:Int)/\(t.qZ.length:Int)<=(G0 t.Op).2:=by grind[CA]
 have l64:l.length<=64:=by grind[G0,Agk]
 have L:8<=t.Op->t.Op<=17->∃a b,l=[a,b]:=λs C=>by
  have e:G0 t.Op=(2,2):=by unfold G0;rw[GT (by omega),GT (by omega),GT (by omega),UV (by omega)]
  rw[e]at r;have M:(2:Int)<=t.qZ.length:=r.2.1;have T:(t.qZ.length:Int)<=2:=r.2.2;match l,(show l.length=2 by omega) with
  | [a,b],_=>simp
 have l3:t.Op=18->∃a b c,l=[a,b,c]:=λs=>by
  have e:G0 t.Op=(3,3):=by rw[s];rfl
  rw[e]at r;have M:(3:Int)<=t.qZ.length:=r.2.1;have T:(t.qZ.length:Int)<=3:=r.2.2;match l,(show l.length=3 by omega) with
  | [a,b,c],_=>simp
 have Y:(t.Op=3∨t.Op=4)->(¬(Ad at_ t.qJ).isSome=true->Q ({Bool:=false,Lo:=(0:Int),Hi:=(0:Int):Af},12,()) (at_,()) H)/\(¬¬(Ad at_ t.qJ).isSome=true->(t.Op=(4:Int)->(¬next=true->Q ({Bool:=false,Lo:=(0:Int),Hi:=(0:Int):Af},24,()) (at_,()) H)/\(¬¬next=true->Bn .i64 ((Ad at_ t.qJ).getD 0)->(Bn .i64 ((Ad at_ t.qJ).getD 0)->(0:Int)<=(Ad at_ t.qJ).getD 0)/\∃(h:((Ad at_ t.qJ).getD 0).toNat<vars.length),(vars[((Ad at_ t.qJ).getD 0).toNat].Bool=true->Q ({Bool:=true,Lo:=(0:Int),Hi:=(0:Int):Af},0,()) (at_,()) H)/\(¬vars[((Ad at_ t.qJ).getD 0).toNat].Bool=true->Bn .i64 ((Ad at_ t.qJ).getD 0)->(Bn .i64 ((Ad at_ t.qJ).getD 0)->(0:Int)<=(Ad at_ t.qJ).getD 0)/\∃(h:((Ad at_ t.qJ).getD 0).toNat<vars.length),Bn .i64 ((Ad at_ t.qJ).getD 0)->(Bn .i64 ((Ad at_ t.qJ).getD 0)->(0:Int)<=(Ad at_ t.qJ).getD 0)/\∃(z:((Ad at_ t.qJ).getD 0).toNat<vars.length),qK Bz Br (vars[((Ad at_ t.qJ).getD 0).toNat].Lo,vars[((Ad at_ t.qJ).getD 0).toNat].Hi,()) H (λ(b:Af×Int×Unit)(Z:Unit)(B:HY)=>Q (b.1,b.2.1,()) (at_,()) B) X)))/\(¬t.Op=(4:Int)->Bn .i64 ((Ad at_ t.qJ).getD 0)->(Bn .i64 ((Ad at_ t.qJ).getD 0)->(0:Int)<=(Ad at_ t.qJ).getD 0)/\∃(h:((Ad at_ t.qJ).getD 0).toNat<vars.length),(vars[((Ad at_ t.qJ).getD 0).toNat].Bool=true->Q ({Bool:=true,Lo:=(0:Int),Hi:=(0:Int):Af},0,()) (at_,()) H)/\(¬vars[((Ad at_ t.qJ).getD 0).toNat].Bool=true->Bn .i64 ((Ad at_ t.qJ).getD 0)->(Bn .i64 ((Ad at_ t.qJ).getD 0)->(0:Int)<=(Ad at_ t.qJ).getD 0)/\∃(h:((Ad at_ t.qJ).getD 0).toNat<vars.length),Bn .i64 ((Ad at_ t.qJ).getD 0)->(Bn .i64 ((Ad at_ t.qJ).getD 0)->(0:Int)<=(Ad at_ t.qJ).getD 0)/\∃(z:((Ad at_ t.qJ).getD 0).toNat<vars.length),qK Bz Br (vars[((Ad at_ t.qJ).getD 0).toNat].Lo,vars[((Ad at_ t.qJ).getD 0).toNat].Hi,()) H (λ(b:Af×Int×Unit)(Z:Unit)(B:HY)=>Q (b.1,b.2.1,()) (at_,()) B) X))):=λq=>by
  have g:Cp vars next t l=R5 vars t.Op t.qJ next:=by unfold Cp;rw[GT (by omega),GT (by omega),UV q]
  have A:=hm t.qJ;refine⟨λG=>d _ _ ?_,λG=>?_⟩
  .have p:¬Cl vars t.qJ<vars.length:=λi=>by grind
   rw[g];unfold R5;rw[ak (by omega)]
  .have u:Cl vars t.qJ<vars.length:=a7 λi=>G (by grind);rw[A,UV u,av,b4];have J:Cp vars next t l=if t.Op=4/\next=false then (Sz,24) else if vars[Cl vars t.qJ].Bool=true then (N6,0) else Fe vars[Cl vars t.qJ].Lo vars[Cl vars t.qJ].Hi:=by rw[g];unfold R5;rw[a5 u]
   have F:¬(t.Op=4/\next=false)->(Bn .i64 (Cl vars t.qJ:Int)->(Bn .i64 (Cl vars t.qJ:Int)->(0:Int)<=(Cl vars t.qJ:Int))/\∃(h:Cl vars t.qJ<vars.length),(vars[Cl vars t.qJ].Bool=true->Q (N6,0,()) (at_,()) H)/\(¬vars[Cl vars t.qJ].Bool=true->Bn .i64 (Cl vars t.qJ:Int)->(Bn .i64 (Cl vars t.qJ:Int)->(0:Int)<=(Cl vars t.qJ:Int))/\∃(h:Cl vars t.qJ<vars.length),Bn .i64 (Cl vars t.qJ:Int)->(Bn .i64 (Cl vars t.qJ:Int)->(0:Int)<=(Cl vars t.qJ:Int))/\∃(z:Cl vars t.qJ<vars.length),qK Bz Br (vars[Cl vars t.qJ].Lo,vars[Cl vars t.qJ].Hi,()) H
     (λ(b:Af×Int×Unit)(Z:Unit)(B:HY)=>Q (b.1,b.2.1,()) (at_,()) B) X)):=λj _=>by
    rw[GT j]at J
    refine⟨λ_=>ah _,u,λf=>d _ _ (by rw[J,UV f]),λf _=>⟨λ_=>ah _,u,λ_=>⟨λ_=>ah _,u,E5 (d _ _ (by rw[J,GT f]))⟩⟩⟩
   refine⟨λK=>⟨λv=>d _ _ ?_,λv=>F λj=>v (by grind)⟩,λK=>F λj=>K j.1⟩;rw[J,UV ⟨K,by grind⟩]
 have P5:5<=t.Op->t.Op<=9->Cp vars next t l=KA l:=λs C=>by unfold Cp;rw[GT (by omega),GT (by omega),GT (by omega),UV ⟨s,C⟩]
 have O:¬(t.Op=1∨t.Op=2∨t.Op=3∨t.Op=4∨(5<=t.Op/\t.Op<=9))->Cp vars next t l=if t.Op=18 then ifE l else if t.Op=10∨t.Op=11 then eqE l else Aq2 t.Op t.qZ l:=λi=>by unfold Cp;rw[GT (by omega),GT (by omega),GT (by omega),GT (by omega)]
 have D:5<=t.Op->t.Op<=9->qK Eb D4 (l,()) H (λ(b:Af×Int×Unit)(_:Unit)(B:HY)=>Q (b.1,b.2.1,()) (at_,()) B) X:=λs C=>TR (by omega) (d _ _ (P5 s C));have V:∀a b,l=[a,b]->(t.Op=10∨t.Op=11)->(True->(0:Int)<=0)/\∃(h:a4 (0:Int)<[a,b].length),(True->(0:Int)<=1)/\∃(z:a4 (1:Int)<[a,b].length),(not (decide ([a,b][a4 (0:Int)].Bool=true)==decide ([a,b][a4 (1:Int)].Bool=true))=true->Q ({Bool:=false,Lo:=(0:Int),Hi:=(0:Int):Af},13,()) (at_,()) H)/\(¬not (decide ([a,b][a4 (0:Int)].Bool=true)==decide ([a,b][a4 (1:Int)].Bool=true))=true->Q ({Bool:=true,Lo:=(0:Int),Hi:=(0:Int):Af},0,()) (at_,()) H):=λa b R q=>by
  have g:Cp vars next t l=if a.Bool≠b.Bool then (Sz,13) else (N6,0):=by rw[O (by omega),GT (by omega),UV q,R];rfl
  grind
 refine⟨λe1=>E5 (d _ _ (by unfold Cp;rw[UV e1])),λn1=>⟨λe2=>d _ _ (by unfold Cp;rw[GT n1,UV e2]),λn2=>⟨λe3=>Y (.inl e3),λn3=>⟨λe4=>Y (.inr e4),λn4=>⟨λe=>D (by omega) (by omega),λn5=>⟨λe=>D (by omega) (by omega),λn6=>⟨λe=>D (by omega) (by omega),λn7=>⟨λe=>D (by omega) (by omega),λn8=>⟨λe=>D (by omega) (by omega),λn9=>⟨λe=>?_,λn18=>⟨λe=>?_,λn10=>⟨λe=>?_,λn11=>?_⟩⟩⟩⟩⟩⟩⟩⟩⟩⟩⟩⟩
 .obtain⟨a,b,c,rfl⟩:=l3 e;have g:Cp vars next t [a,b,c]=if ¬a.Bool=true∨b.Bool≠c.Bool then (Sz,13) else if b.Bool=true then (b,0) else Fe (GZ false b.Lo [(.i64,c.Lo)]) (GZ true b.Hi [(.i64,c.Hi)]):=by rw[O (by omega),UV e];rfl
  refine⟨λ_=>by decide,by simp,λp=>d _ _ ?_,λp=>⟨λ_=>by decide,by simp,λ_=>by decide,by simp,λf=>d _ _ ?_,λf=>⟨λ_=>by decide,by simp,λj=>⟨λ_=>by decide,by simp,d _ _ ?_⟩,λj=>⟨λ_=>by decide,by simp,λ_=>by decide,by simp,λ_=>by decide,by simp,λ_=>by decide,by simp,E5 (d _ _ ?_)⟩⟩⟩⟩;all_goals grind
 .grind
 .grind
 .have Mp:1<=t.Op/\t.Op<=18:=by
   refine a7 λi=>?_;have:G0 t.Op=(-1,-1):=by unfold G0;rw[GT (by omega),GT (by omega),GT (by omega),GT (by omega),GT (by omega)]
   rw[this]at r;exact qG r.1 (by decide)
  obtain⟨a,b,rfl⟩:=L (by omega) (by omega);obtain⟨I,o,x⟩:∃I o,t.qZ=[I,o]:=by
   match t.qZ,(show t.qZ.length=2 from R.symm) with
   | [I,o],_=>exact⟨I,o,rfl⟩
  have w:1<t.qZ.length:=by rw[x];show 1<2;decide
  have k:t.qZ[a4 (1:Int)]'w=o:=by simp [x]
  have g:Cp vars next t [a,b]=if a.Bool=true∨b.Bool=true then (Sz,13) else if t.Op=12∨t.Op=13 then (N6,0) else if t.Op=17 then Ai6 t.qZ else Oa t.Op a b:=by rw[O (by omega),GT (by omega),GT (by omega)];rfl
  have U:Ai6 t.qZ=if o.Op≠1∨o.N<1 then (Sz,2) else Fe 0 (o.N-1):=by rw[x];rfl
  refine⟨λ_=>by decide,by show 0<2;decide,λS=>d _ _ (by rw[g,UV (.inl S)]),λS=>⟨λ_=>by decide,by show 1<2;decide,λf=>d _ _ (by rw[g,UV (.inr f)]),λf=>?_⟩⟩;have P:¬(a.Bool=true∨b.Bool=true):=λi=>i.elim S f;rw[GT P]at g;refine⟨λe=>d _ _ (by rw[g,UV (.inl e)]),λe12=>⟨λe=>d _ _ (by rw[g,UV (.inr e)]),λe13=>⟨λm=>⟨λ_=>by decide,w,λq=>d _ _ ?_,λq=>⟨λE=>d _ _ ?_,λE=>⟨λ_=>by decide,w,λu=>⟨?_,?_⟩⟩⟩⟩,λm=>⟨λ_=>by decide,by show 0<2;decide,λ_=>by decide,by show 1<2;decide,Rc (W a (by simp)) (W b (by simp)) (d _ _ ?_)⟩⟩⟩⟩;all_goals rw[GT (by omega)]at g
  .rw[k]at q;rw[g,UV m,U,UV (.inl q)]
  .rw[k]at E;rw[g,UV m,U,UV (.inr E)]
  .rw[k]at E u ⊢;have:=A7.1 u;exact A7.2 (by omega)
  .rw[k]at E q;show qK Bz Br (0,t.qZ[a4 (1:Int)].N-1,()) H _ X;rw[k];refine E5 (d _ _ ?_);rw[g,UV m,U,GT (by omega)]
  grind
mutual
def Bf(vars:List Ar)(next:Bool):Ae->Af×Int
 |⟨op,n,nm,ks⟩=>let r:=Ct vars next ks;if r.2=0 then Cp vars next ⟨op,n,nm,ks⟩ r.1 else (Sz,r.2)
def Ct(vars:List Ar)(next:Bool):List Ae->List Af×Int
 | []=>([],0)
 |t::ts=>let y:=Bf vars next t;let r:=Ct vars next ts;if y.2=0 then if r.2=0 then (y.1::r.1,0) else ([],r.2) else ([],y.2)
end
theorem Yx(vars:List Ar)(next:Bool)(t:Ae):Bf vars next t=if (Ct vars next t.qZ).2=0 then Cp vars next t (Ct vars next t.qZ).1 else (Sz,(Ct vars next t.qZ).2):=by cases t;rfl
theorem FZ(vars:List Ar)(next:Bool)(t:Ae)(ts:List Ae):Ct vars next (t::ts)=if (Bf vars next t).2=0 then if (Ct vars next ts).2=0 then ((Bf vars next t).1::(Ct vars next ts).1,0) else ([],(Ct vars next ts).2) else ([],(Bf vars next t).2):=by rw[Ct]
theorem U6{vars:List Ar}{next:Bool}(t:Ae):∀(l:List Ae){ys:List Af},Ct vars next l=(ys,0)->Ct vars next (l++[t])=if (Bf vars next t).2=0 then (ys++[(Bf vars next t).1],0) else ([],(Bf vars next t).2)
 | [],ys,h=>by grind[Ct,FZ]
 |s::l,ys,h=>by
  show Ct vars next (s::(l++[t]))=_;rw[FZ]at h ⊢;by_cases e:(Bf vars next s).2=0
  .rw[UV e]at h ⊢;by_cases b:(Ct vars next l).2=0
   .rw[UV b]at h;have c:=U6 t l (ys:=(Ct vars next l).1) (Prod.ext rfl b);grind
   grind
  grind
theorem Xk{vars:List Ar}{next:Bool}(a:List Ae):∀(l:List Ae),(Ct vars next l).2≠0->Ct vars next (l++a)=Ct vars next l
 | [],h=>by grind[Ct]
 |s::l,h=>by
  show Ct vars next (s::(l++a))=_;rw[FZ]at h ⊢;rw[FZ];by_cases e:(Bf vars next s).2=0
  .rw[UV e]at h ⊢;rw[UV e];by_cases b:(Ct vars next l).2=0
   .grind
   .rw[Xk a l b]
  grind
theorem Xi{vars:List Ar}{next:Bool}:∀(l:List Ae),(Ct vars next l).2=0->(Ct vars next l).1.length=l.length
 | [],_=>by rfl
 |s::l,h=>by
  rw[FZ]at h ⊢;by_cases e:(Bf vars next s).2=0
  .rw[UV e]at h ⊢;by_cases a:(Ct vars next l).2=0;all_goals simp_all[Xi]
  grind
theorem Ra:TyR N6:=⟨by decide,by decide,by decide,λ_=>rfl⟩
variable {vars:List Ar} {next:Bool} {t:Ae}
theorem Al6{l:List Af}(n:∀y∈l,TyR y)(h:(Cp vars next t l).2=0):(Cp vars next t l).1=Sz∨TyR (Cp vars next t l).1:=by
 have d:∀f g,(Fe f g).2=0->TyR (Fe f g).1:=λf g m=>(ZW m).1;unfold Cp at h ⊢;split at h
 .grind
 rename_i o;rw[GT o];split at h
 .simp_all[Ra]
 rename_i j;rw[GT j];split at h
 .rename_i e;rw[UV e];unfold R5 at h ⊢;cases i:vars[Cl vars t.qJ]? with
  |none=>simp
  |some v=>
   rw[i]at h;dsimp only at h ⊢;split at h
   .omega
   .rename_i c;rw[GT c];split at h;all_goals simp_all[Ra]
 rename_i s;rw[GT s];split at h
 .rename_i e;rw[UV e];unfold KA at h ⊢;split at h;all_goals simp_all[Ra]
 rename_i p;rw[GT p];split at h
 .rename_i e;rw[UV e];unfold ifE at h ⊢;grind
 rename_i k;rw[GT k];split at h
 .rename_i e;rw[UV e];unfold eqE at h ⊢;split at h
  .split at h;all_goals simp_all[Ra]
  simp
 rename_i r;rw[GT r];unfold Aq2 at h ⊢;split at h
 .split at h
  .omega
  .rename_i q;rw[GT q];split at h
   .simp_all[Ra]
   .rename_i q;rw[GT q];split at h
    .rename_i q;rw[UV q];unfold Ai6 at h ⊢;grind
    .rename_i q;rw[GT q];grind[Oa]
 simp
theorem Aus:TyR Sz:=⟨by decide,by decide,by decide,λh=>by cases h⟩
theorem Adx{l:List Af}(a:∀y∈l,TyR y)(h:(Cp vars next t l).2=0):TyR (Cp vars next t l).1:=by grind[Al6,Aus]
inductive Yk:Ae->Prop
 |mk {t:Ae}:CA t=0->(∀k∈t.qZ,Yk k)->Yk t
theorem Ms{k:Ae}(h:k∈t.qZ):SizeOf.sizeOf k<SizeOf.sizeOf t:=by
 have a:=b8 h;have b:SizeOf.sizeOf t.qZ<SizeOf.sizeOf t:=by cases t;grind
 omega
theorem Z5:∀(z:Nat)(t:Ae)(deep n:Int),SizeOf.sizeOf t<z->(GX deep n t).2=0->Yk t
 |0,_,_,_,g,_=>qG g (ab _)
 |z+1,t,deep,n,g,h=>by
  rw[Uy]at h;split at h
  .omega
  .split at h
   .rename_i d;split at h
    .omega
    .refine .mk d ?_;have f:∀(l:List Ae)(m:Int),(∀k∈l,k∈t.qZ)->(Ee (deep+1) m l).2=0->∀k∈l,Yk k:=by
      intro l;induction l with
      |nil=>simp
      |cons s l i=>
       intro m a c k b;unfold Ee at c;simp only at c;by_cases e:(GX (deep+1) m s).2=0
       .rw[UV e]at c;rcases aw.1 b with rfl|b
        .exact Z5 z _ _ _ (by have:=Ms (a k ae);omega) e
        grind
       grind
     grind
   omega
theorem SH{vars:List Ar}{next:Bool}:∀(z:Nat)(t:Ae),SizeOf.sizeOf t<z->(Bf vars next t).2=0->TyR (Bf vars next t).1
 |0,_,g,_=>qG g (ab _)
 |z+1,t,g,h=>by
  rw[Yx]at h ⊢;by_cases e:(Ct vars next t.qZ).2=0
  .rw[UV e]at h ⊢;refine Adx ?_ h;have f:∀(l:List Ae),(∀k∈l,k∈t.qZ)->(Ct vars next l).2=0->∀y∈(Ct vars next l).1,TyR y:=by
    intro l;induction l with
    |nil=>grind[Ct]
    |cons s l j=>
     intro b c y a;rw[FZ]at c a;by_cases e:(Bf vars next s).2=0
     .rw[UV e]at c a;by_cases d:(Ct vars next l).2=0
      .rw[UV d]at a;rcases aw.1 a with rfl|a
       .exact SH z s (by have:=Ms (b s ae);omega) e
       grind
      grind
     grind
   grind
  grind
theorem NN{vars:List Ar}{at_:List (ByteArray×Int)}{next:Bool}{X:PX}(J:vars.length<=1000)(K:Wf vars at_):∀(z:Nat)(t:Ae){H:HY}{Q:Af×Int×Unit->List (ByteArray×Int)×Unit->HP},SizeOf.sizeOf t<z->Yk t->Q ((Bf vars next t).1,(Bf vars next t).2,()) (at_,()) H->qK DP Dy (vars,at_,t,next,()) H Q X
 |0,_,_,_,L,_,_=>qG L (ab _)
 |z+1,t,H,Q,L,T,h=>by
  apply LJ;unfold J8;obtain⟨f,O⟩:CA t=0/\∀k∈t.qZ,Yk k:=by cases T with|mk a b=>exact⟨a,b⟩
  have C:(Ct vars next t.qZ).2=0->∀y∈(Ct vars next t.qZ).1,TyR y:=λe=>by
   have E:∀(l:List Ae),(Ct vars next l).2=0->∀y∈(Ct vars next l).1,TyR y:=by
    intro l;induction l with
    |nil=>intro _ y c;rw[Ct]at c;cases c
    |cons s l R=>
     intro o y c;rw[FZ]at o c;by_cases e:(Bf vars next s).2=0
     .rw[UV e]at o c;by_cases B:(Ct vars next l).2=0
      .rw[UV B]at c;rcases aw.1 c with rfl|c
       .exact SH _ s (a9 _) e
       .exact R B y c
      .rw[GT B]at o;exact qG o B
     .rw[GT e]at o;exact qG o e
   exact E _ e
  have ar:(t.qZ.length:Int)<=64:=by
   have a1:(t.qZ.length:Int)<=(G0 t.Op).2:=by
    unfold CA at f;split at f
    .exact qG f (by decide)
    .split at f
     .exact qG f (by decide)
     .split at f
      .exact qG f (by decide)
      .split at f
       .exact qG f (by decide)
       .omega
   have V:(G0 t.Op).2<=64:=Agk t.Op;omega
  rw[Yx]at h;refine λ_=>⟨λn x=>n=t.qZ.length-x.2.2.2.1/\x.2.2.2.1<=t.qZ.length/\x.1=at_/\Ct vars next (t.qZ.take x.2.2.2.1)=(x.2.2.1,0),⟨_,rfl,rfl,a6 _,rfl,by show Ct vars next []=_;rw[Ct]⟩,?_⟩
  rintro n ⟨m,⟨Y,Z,W,_⟩,D,i,_⟩ ⟨r,A,p,w⟩;have U:n=t.qZ.length-i:=r;have hi:i<=t.qZ.length:=A;have F:m=at_:=p
  have c:Ct vars next (t.qZ.take i)=(D,0):=w;subst F;have G:D.length=i:=by grind[Xi,b6,min]
  refine⟨λu _=>?_,λq=>?_⟩
  .have g:i<t.qZ.length:=u;have I:t.qZ.take (i+1)=t.qZ.take i++[t.qZ[i]]:=a8 g;have d:=U6 (vars:=vars) (next:=next) t.qZ[i] _ c;rw[<-I]at d;refine⟨g,?_⟩;show qK DP Dy (vars,m,Ae.mk t.qZ[i].Op t.qZ[i].N t.qZ[i].qJ t.qZ[i].qZ,next,()) H _ X;rw[Re];refine NN J K z t.qZ[i] (by have:=Ms (ad g);omega) (O _ (ad g)) ⟨λv=>?_,λj=>⟨by grind,by grind,t.qZ.length-(i+1),by omega,rfl,rfl,by grind,rfl,?_⟩⟩
   .have v:¬(Bf vars next t.qZ[i]).2=0:=v;rw[GT v]at d;have M:Ct vars next t.qZ=([],(Bf vars next t.qZ[i]).2):=by have:=Xk (vars:=vars) (next:=next) (t.qZ.drop (i+1)) (t.qZ.take (i+1)) (by grind);rw[aj]at this;rw[this,d]
    grind
   grind
  .have P:¬i<t.qZ.length:=q;have S:i=t.qZ.length:=by omega
   subst S;rw[bi]at c;rw[c,UV rfl]at h;grind[Wv]
def Nq(vars:List Ar)(next:Bool)(t:Ae):Af×Int:=if (GX 1 0 t).2=0 then Bf vars next t else (Sz,(GX 1 0 t).2)
theorem PL{H:HY}{X:PX}{Q:Af×Int×Unit->UU}(b:vars.length<=1000)(h:∀H',(∀c,H c≠none->H' c=H c)->Q ((Nq vars next t).1,(Nq vars next t).2,()) () H'):qK Fx Ey (vars,t,next,()) H Q X:=by
 refine wF Tryz.f41 {im:=[4]} (?_:KC vars t next H Q X);unfold KC;refine UD λH' f=>⟨λa=>?_,λa=>?_⟩
 .simp_all[Nq]
 .have a:(GX 1 0 t).2=0:=aa.1 a;refine UC b λm d=>NN b d (SizeOf.sizeOf t+1) t (by omega) (Z5 _ t _ _ (a9 _) a) ?_;simp_all[Nq]
end
section
def A5s(L:Ac)(n0:Int)(t:Ae)(F:B.Fn)(c pk:Nat):Prop:=∀{wb b:Nat}{M0 M:Mn}{lv:List (Int×Bool)}{H:HY}{X:PX}{Q:Int×Unit->UU},WK H wb b M0 M L lv->M.nx+(c:Int)<576460752303420000->M.hs.length+pk<=59900->M.S.n=n0->(∀M' lv' H' r,Wk H H' wb b M0 M M' L lv lv' [(r,F)]->M'.nx<=M.nx+(c:Int)->Q (r,()) () H')->qK Ed Dq (some wb,t,()) H Q X
abbrev J5(L:Ac)(n0:Int)(t:Ae)(F:B.Fn):Prop:=A5s L n0 t F (1000000000*DV t) (1025*DV t)
variable {H:HY} {wb b:Nat} {M0 M:Mn} {L:Ac} {lv:List (Int×Bool)} {X:PX}
theorem Wk.A2v{Hb:HY}{Mb:Mn}{lvb:List (Int×Bool)}{hs1 hs:List (Int×B.Fn)}{l:List Int}{F:B.Fn}{J3:FT Y0 [.ptr,.sl I6] [.int .i64,.int .i64]}{Q:Int×Unit->UU}(k:Wk Hb H wb b M0 Mb M L lvb lv (hs1++hs))(s:M.nx<576460752303423486)(d:l=hs1.map (·.1))(r:l.length<=1000)(i:MG H b M->(∀p∈hs1,M.Aq p.1=some p.2)->DoS b M H l F J3)(h:∀M' lv' H',Wk Hb H' wb b M0 Mb M' L lvb lv' ((M.nx,F)::hs)->M'.nx=M.nx+1->Q (M.nx,()) () H'):qK Bk AY (some wb,J3,l,()) H Q X:=by
 have g:=k.h.nd;rw[al,List.nodup_append]at g;refine NI k.w (by omega) (by omega) (λj c=>?_) (i k.w.mg λp a=>k.h.Aq p (ax _ a)) λM' lv' H' q _ u f=>h M' lv' H' (k.step q ?_ f) u.nx
 .rw[d]at c;obtain⟨p,a,rfl⟩:=ap.1 c;exact(k.h.ge p (ax _ a)).2
 .have:=k.h.use u (by grind) (λj c=>by grind);have e:((hs1++hs).filter λp=>decide (p.1∉l))=hs:=by
   rw[List.filter_append];have o:(hs1.filter λp=>decide (p.1∉l))=[]:=List.filter_eq_nil_iff.2 λp a=>by grind
   grind[decide,List.filter_eq_self]
  grind
variable {n0:Int} {t:Ae} {Fs:Nat->B.Fn}
theorem Wu(I:∀i(h:i<t.qZ.length),J5 L n0 t.qZ[i] (Fs i)){Q:List Int×Unit->UU}(w:WK H wb b M0 M L lv)(S:M.nx+(1000000000*GG t.qZ:Nat)<576460752303420000)(U:M.hs.length+1025*GG t.qZ<=59900)(P:M.S.n=n0)(g:∀M' lv' H' ps,Wk H H' wb b M0 M M' L lv lv' ps->ps.map (·.2)=(ac t.qZ.length).map Fs->M'.nx<=M.nx+(1000000000*GG t.qZ:Nat)->Q (ps.map (·.1),()) () H'):qK Bp Bb (t,some wb,()) H Q X:=by
 refine wF Tryz.f93 {lp:=[(3,⟨[(3,.one (.own I6)),(9,.nat)],[1,7,8],true⟩)]} (?_:t.qZ.length<=2^63-1->∃(V:Nat->List Int×Nat×UT->HP),(∃(n:Nat),V n ([],0,()) H)/\∀n x H,V n x H->(x.2.1<t.qZ.length->x.2.1<=2^63-1->∃(h:x.2.1<t.qZ.length),qK Ed Dq ((some wb),{Op:=t.qZ[x.2.1].Op,N:=t.qZ[x.2.1].N,qJ:=t.qZ[x.2.1].qJ,qZ:=t.qZ[x.2.1].qZ:Ae},()) H (λ(b:Int×UT)_ G=>(x.1.length+[b.1].length)*8<=2^47/\x.2.1+1<=2^63-1/\∃m,m<n/\V m (x.1++[b.1],x.2.1+1,()) G) X)/\(¬x.2.1<t.qZ.length->Q (x.1,()) () H));have D:=Rg t.qZ;refine λ_=>⟨λn z d=>n=t.qZ.length-z.2.1/\z.2.1<=t.qZ.length/\∃q a ps,Wk H d wb b M0 M q L lv a ps/\z.1=ps.map (·.1)/\ps.map (·.2)=(ac z.2.1).map Fs/\q.nx<=M.nx+(1000000000*GG (t.qZ.take z.2.1):Nat),⟨_,rfl,a6 _,M,lv,[],.of w,rfl,rfl,by omega⟩,?_⟩
 rintro n ⟨x,i,_⟩ d ⟨f,u,q,a,ps,m,p,k,o⟩;have F:n=t.qZ.length-i:=f;have Y:i<=t.qZ.length:=u;have A:x=ps.map (·.1):=p;have v:ps.map (·.2)=(ac i).map Fs:=k;have E:q.nx<=M.nx+(1000000000*GG (t.qZ.take i):Nat):=o;have R:ps.length=i:=by have:=congrArg ao v;grind
 have J:=m.ln;have Z:=w.ln;refine⟨λs _=>?_,λj=>?_⟩
 .have c:i<t.qZ.length:=s;have V:=Xm c;have s2:=Aqc (l:=t.qZ) (i+1);have T:i<=GG (t.qZ.take i):=by grind[Rg,b6]
  refine⟨c,?_⟩;show qK Ed Dq (some wb,Ae.mk t.qZ[i].Op t.qZ[i].N t.qZ[i].qJ t.qZ[i].qZ,()) d _ X;rw[Re];refine I i c m.w (by omega) (by omega) (by rw[<-P];exact m.w.bs.n.trans w.bs.n.symm) λC y W r G K=>⟨?_,by grind,t.qZ.length-(i+1),by omega,rfl,by grind,C,y,ps++[(r,Fs i)],?_,?_,?_,?_⟩
  .grind
  .exact(m.trans G).perm (b9)
  .grind
  .show (ps++[(r,Fs i)]).map (·.2)=(ac (i+1)).map Fs;rw[al,v,b7,al];rfl
  .show C.nx<=M.nx+(1000000000*GG (t.qZ.take (i+1)):Nat);omega
 grind
theorem I7{F:B.Fn}{J3:FT Y0 [.ptr,.sl I6] [.int .i64,.int .i64]}(s:∀i(h:i<t.qZ.length),J5 L n0 t.qZ[i] (Fs i))(m:t.qZ.length<=64)(f:∀{b:Nat}{M:Mn}{H:HY}{ps:List (Int×B.Fn)},MG H b M->M.nx<576460752303423487->M.hs.length<=60000->(∀p∈ps,M.Aq p.1=some p.2)->ps.map (·.2)=(ac t.qZ.length).map Fs->DoS b M H (ps.map (·.1)) F J3){Q:Int×Unit->UU}(w:WK H wb b M0 M L lv)(I:M.nx+(1000000000*DV t:Nat)<576460752303420000)(J:M.hs.length+1025*DV t<=59900)(v:M.S.n=n0)(c:∀M' lv' a r,Wk H a wb b M0 M M' L lv lv' [(r,F)]->M'.nx<=M.nx+(1000000000*DV t:Nat)->Q (r,()) () a):qK Bp Bb (t,some wb,()) H (λ(b:List Int×Unit)(_:Unit)(a:HY)=>qK Bk AY (some wb,J3,b.1,()) a (λ(b:Int×Unit)(_:Unit)(a:HY)=>Q (b.1,()) () a) X) X:=by
 have E:=ML t;have G:=Rg t.qZ;refine Wu s w (by omega) (by omega) v λn d y ps l k z=>?_;have q:ps.length=t.qZ.length:=by have:=congrArg ao k;grind
 have A:=l.ln;have K:=w.ln;have j:Wk H y wb b M0 M n L lv d (ps++[]):=by grind
 refine j.A2v (by omega) rfl (by grind) (λg C=>f g (by omega) (by omega) C k) λo e D u x=>?_;grind
theorem Aa6{ps:List (Int×B.Fn)}(h:∀p∈ps,M.Aq p.1=some p.2):(ps.map (·.1)).map M.Aq=(ps.map (·.2)).map some:=by (simp_all;omega)
theorem Ah5(d:t.Op=2):J5 L n0 t (λ_=>decide (t.N=1)):=by intro j b h M n H X Q w l i m a;have p:=Pb t;apply Bv;unfold Bl;refine⟨λ_=>(Wk.of w).const (by omega) λf c g k o=>a f c g _ k (by omega),λe=>qG d e⟩
theorem Ak1(g:Ku L)(c:2*CR L<=n0)(x:t.Op=3∨t.Op=4)(hi:Cl L.Aa t.qJ<L.Aa.length)(m:L.Aa[Cl L.Aa t.qJ].Bool=true):J5 L n0 t (DQ (Gf (Cu L (Cl L.Aa t.qJ) (decide (t.Op=4))) (DL L (Cl L.Aa t.qJ) 1))):=by
 intro e b y M q H X Q w v s i a;have n:=Pb t;have j:Bn .i64 (DL L (Cl L.Aa t.qJ) 1):=by grind[DL,Cl,A7]
 have h:qK Ds CH (L,t.qJ,()) H (λ(b:Int×Unit)(_:Unit)(d:HY)=>qK BG B3 (some e,b.1,1,decide (t.Op=(4:Int)),()) d (λ(b:Int×Unit)(_:Unit)(d:HY)=>Q (b.1,()) () d) X) X:=
  Se g.toJf rfl hi ((Wk.of w).Adm (by omega) (by omega) g.toJf hi (by omega) j λl f d k r=>a l f d _ k (by omega))
 apply Bv;unfold Bl;refine⟨λu=>by omega,λ_=>⟨λ_=>⟨e,rfl,_,w.ob,rfl,h⟩,λp=>⟨λ_=>⟨e,rfl,_,w.ob,rfl,h⟩,λo=>by omega⟩⟩⟩
theorem Afm(E:∀i(h:i<t.qZ.length),J5 L n0 t.qZ[i] (Fs i))(k:t.qZ.length<=64):(t.Op=5->t.qZ.length=1->J5 L n0 t (λa=>!Fs 0 a))/\(t.Op=6->J5 L n0 t (((ac t.qZ.length).map Fs).foldl C6 (λ_=>true)))/\(t.Op=7->J5 L n0 t (((ac t.qZ.length).map Fs).foldl Q4 (λ_=>false)))/\(t.Op=18->t.qZ.length=3->J5 L n0 t (CU (Fs 0) (Fs 1) (Fs 2))):=by
 refine⟨λy N=>?_,λy=>?_,λy=>?_,λy J=>?_⟩
 .intro I b O M P H X Q w z C r c;apply Bv;unfold Bl;refine⟨λh=>by omega,λ_=>⟨λh=>by omega,λ_=>⟨λh=>by omega,λ_=>⟨λ_=>?_,λh=>qG y h⟩⟩⟩⟩;refine I7 E k (λ{b M H n}g d m o j=>?_) w z C r c;intro Q X x;apply OM;unfold Ki;rw[N]at j;match n,(show n.length=1 by have:=congrArg ao j;simpa using this) with
  | [p],_=>
   have e:p.2=Fs 0:=by have:=congrArg (λl:List B.Fn=>l[0]?) j;exact af this
   refine⟨λ_=>by decide,by show 0<1;decide,?_⟩
   refine TD g d (F:=Fs 0) (by rw[<-e];exact o p (by simp)) λv D u A f=>x v D u A f
 .intro I b O M P H X Q w z C r c;apply Bv;unfold Bl;refine⟨λh=>by omega,λ_=>⟨λh=>by omega,λ_=>⟨λh=>by omega,λ_=>⟨λh=>by omega,λ_=>⟨λ_=>?_,λh=>qG y h⟩⟩⟩⟩⟩;refine I7 E k (λ{b M H n}g d m o j=>?_) w z C r c;intro Q X x;exact MZ g d m (by have:=congrArg ao j;simp at this;show (n.map (·.1)).length<=1000;rw[am];omega) (by rw[Aa6 o,j]) λv D u A f=>x v D u A f
 .intro I b O M P H X Q w z C r c;apply Bv;unfold Bl;refine⟨λh=>by omega,λ_=>⟨λh=>by omega,λ_=>⟨λh=>by omega,λ_=>⟨λh=>by omega,λ_=>⟨λh=>by omega,λ_=>⟨λ_=>?_,λh=>qG y h⟩⟩⟩⟩⟩⟩;refine I7 E k (λ{b M H n}g d m o j=>?_) w z C r c;intro Q X x;exact Pn g d m (by have:=congrArg ao j;simp at this;show (n.map (·.1)).length<=1000;rw[am];omega) (by rw[Aa6 o,j]) λv D u A f=>x v D u A f
 .intro I b O M P H X Q w z C r c;apply Bv;unfold Bl;refine⟨λh=>by omega,λ_=>⟨λh=>by omega,λ_=>⟨λh=>by omega,λ_=>⟨λh=>by omega,λ_=>⟨λh=>by omega,λ_=>⟨λh=>by omega,λ_=>⟨λh=>by omega,λ_=>⟨λh=>by omega,λ_=>⟨λ_=>?_,λh=>qG y h⟩⟩⟩⟩⟩⟩⟩⟩⟩;refine I7 E k (λ{b M H n}g d m o j=>?_) w z C r c;intro Q X x;apply OK;unfold Kh;rw[J]at j;match n,(show n.length=3 by have:=congrArg ao j;simpa using this) with
  | [p,q,s],_=>
   have R:p.2=Fs 0:=by have:=congrArg (λl:List B.Fn=>l[0]?) j;exact af this
   have T:q.2=Fs 1:=by have:=congrArg (λl:List B.Fn=>l[1]?) j;exact af this
   have S:s.2=Fs 2:=by have:=congrArg (λl:List B.Fn=>l[2]?) j;exact af this
   refine⟨λ_=>by decide,by show 0<3;decide,λ_=>by decide,by show 1<3;decide,λ_=>by decide,by show 2<3;decide,?_⟩
   refine Abc g d m (F:=Fs 0) (G:=Fs 1) (K:=Fs 2) (by rw[<-R];exact o p (by simp)) (by rw[<-T];exact o q (by simp)) (by rw[<-S];exact o s (by simp)) λv D u A f=>x v D u A f
end
section
variable {M:Mn}
theorem Dx.symm{M':Mn}(h:Dx M M'):Dx M' M:=⟨h.sb.symm,h.mb.symm,h.bl.symm,h.bp.symm,h.tb.symm⟩
variable {wb b:Nat} {M0:Mn} {L:Ac}
theorem Wk.A23{Hb H:HY}{Mb:Mn}{lvb lv:List (Int×Bool)}{hs:List (Int×B.Fn)}{a c:Int}{Fa Fc F:B.Fn}{J3:FT Y0 [.ptr,.sl I6] [.int .i64,.int .i64]}{X:PX}{Q:Int×Unit->UU}(k:Wk Hb H wb b M0 Mb M L lvb lv ((a,Fa)::(c,Fc)::hs))(n:M.nx<576460752303423486)(d:MG H b M->M.Aq a=some Fa->M.Aq c=some Fc->DoS b M H [a,c] F J3)(h:∀M' lv' H',Wk Hb H' wb b M0 Mb M' L lvb lv' ((M.nx,F)::hs)->M'.nx=M.nx+1->QK wb b M0 H H'->Q (M.nx,()) () H'):qK Bk AY (some wb,J3,[a,c],()) H Q X:=by have m:=k.h.ge (a,Fa) (by simp);have i:=k.h.ge (c,Fc) (by simp);refine NI k.w (by omega) (by simp) (λj l=>?_) (d k.w.mg (k.h.Aq (a,Fa) (by simp)) (k.h.Aq (c,Fc) (by simp))) λM' lv' H' g _ u f=>h M' lv' H' (k.step g (k.h.two u) f) u.nx (f.same k.w.bs);grind
def QJ(hF:Int->Int->Bool)(Va Vc:B.As->Option Int)(ds:List (Int×Int)):B.Fn:=λa=>ds.any λp=>hF p.1 p.2&&(gV Va p.1 a&&gV Vc p.2 a)
def WR(hF:Int->Int->Bool)(Va Vc:B.As->Option Int):B.Fn:=λa=>match Va a,Vc a with
 |some x,some y=>hF x y
 |_,_=>false
variable {hF:Int->Int->Bool} {Va Vc:B.As->Option Int} {ds:List (Int×Int)}
theorem Aoo{a:B.As}:QJ hF Va Vc ds a=true↔∃x y,(x,y)∈ds/\hF x y=true/\Va a=some x/\Vc a=some y:=by simp[QJ,List.any_eq_true,Bool.and_eq_true,FL]
theorem Aon{a:B.As}:WR hF Va Vc a=true↔∃x y,Va a=some x/\Vc a=some y/\hF x y=true:=by grind[WR]
theorem Aop(h:∀x y a,gV Va x a=true->gV Vc y a=true->(x,y)∈ds):QJ hF Va Vc ds=WR hF Va Vc:=by funext a;rw[bk,Aoo,Aon];exact⟨λ⟨x,y,_,d,b,c⟩=>⟨x,y,b,c,d⟩,λ⟨x,y,b,c,d⟩=>⟨x,y,h x y a (FL.2 b) (FL.2 c),d,b,c⟩⟩
theorem Ajp{x y:Int}(h:hF x y=true):Q4 (QJ hF Va Vc ds) (C6 (gV Va x) (gV Vc y))=QJ hF Va Vc (ds++[(x,y)]):=by grind[QJ,Q4,C6]
theorem Yb{x y:Int}(h:hF x y=false∨∀a,C6 (gV Va x) (gV Vc y) a=false):QJ hF Va Vc (ds++[(x,y)])=QJ hF Va Vc ds:=by
 funext a;rcases h with h|h
 all_goals simp_all[QJ,C6]
theorem Asi{Hb:HY}{cb:Nat}{Mb:Mn}{lvb:List (Int×Bool)}{KH:HP}{holds:Int×Int×Unit->HY->(Bool×Unit->HP)->PX->Prop}(t:cb≠wb)(w:Fb b M0 cb)(T:Hb cb=none)(W:∀x y H(R:Bool×Unit->HP)X,KH H->R (hF x y,()) H->holds (x,y,()) H R X)(m:∀H f,KH H->QK wb b M0 H f->KH f)(E:∀H v,KH H->KH (Ab H cb (.st Ba (v:Int)))):DoU Hb wb b M0 Mb L lvb (gV Va) (gV Vc) (λds H hs=>KH H/\∃r:Int,H cb=some (.st Ba r)/\hs=[(r,QJ hF Va Vc ds)]) cb 1 1 (λ(a:Int×Int×Int×Unit)(H:HY)(Q:Unit->HP)(X:Nat->Lf Y0.D->HP)=>qK Fz DI (a.1,a.2.1,a.2.2.1,holds,some wb,some cb,()) H (λ(_ _:Unit)(f:HY)=>Q () f) X):=by
 refine⟨λds H hs⟨_,r,_,e⟩=>by grind,λds H f hs⟨j,r,d,s⟩J=>⟨m _ _ j J,r,by rw[J cb (by grind) t w];exact d,s⟩,λds H hs x y⟨j,r,d,s⟩P=>⟨j,r,d,by rw[s,Yb (.inr P)]⟩,λds H hs M O x y h p N X⟨j,r,d,s⟩he k Y Z i=>?_⟩;subst s;apply Nj;unfold Jc;refine W x y H _ _ j ⟨λA=>?_,λq=>?_⟩
 .have A:hF x y=true:=A;refine⟨cb,rfl,r,d,rfl,?_⟩;have D:Wk Hb H wb b M0 Mb M L lvb O ((r,QJ hF Va Vc ds)::(h,C6 (gV Va x) (gV Vc y))::p):=k.perm (.swap _ _ _);refine D.A23 (by omega) (λg S U=>Aoc g (by omega) (by omega) S U) λF n f u G o=>?_;rw[Ajp A]at u;have V:f cb=some (.st Ba r):=by rw[o cb (by grind) t w];exact d
  refine⟨r,V,i F n _ [(M.nx,QJ hF Va Vc (ds++[(x,y)]))] (u.Aac t w T) ⟨E _ _ (m _ _ j o),M.nx,Ai _ _ _,rfl⟩ (by omega) λc C K z I=>?_⟩;rw[Ag _ _ K];exact o c C z I
 .have q:hF x y=false:=by grind
  have D:Wk Hb H wb b M0 Mb M L lvb O ([(h,C6 (gV Va x) (gV Vc y))]++([(r,QJ hF Va Vc ds)]++p)):=k;refine D.drop (l:=[h]) (by omega) (by simp) (List.Perm.refl _) λF n f u G o=>?_;exact i F n f [(r,QJ hF Va Vc ds)] u ⟨m _ _ j o,r,by rw[o cb (by grind) t w];exact d,by rw[Yb (.inl q)]⟩ (by omega) λc C K z I=>o c C z I
abbrev PG(L:Ac)(n0:Int)(t:Ae)(V:B.As->Option Int):Prop:=Uh L n0 t (gV V) (256*DV t) (1000000000*DV t) (1025*DV t)
theorem QI{n0:Int}{ta tb:Ae}{KH:HP}{holds:Int×Int×Unit->HY->(Bool×Unit->HP)->PX->Prop}(na:PG L n0 ta Va)(nc:PG L n0 tb Vc)(sa:DV ta<=40)(Y:DV tb<=40)(I:∀x y H(R:Bool×Unit->HP)X,KH H->R (hF x y,()) H->holds (x,y,()) H R X){lv:List (Int×Bool)}{H:HY}{X:PX}{Q:Int×Unit->UU}(i:∀H H',KH H->QK wb b M0 H H'->KH H')(j:∀H cb v,H cb=none->KH H->∀H',KH H'->KH (Ab H' cb (.st Ba (v:Int))))(o:KH H)(w:WK H wb b M0 M L lv)(V:M.nx+(1000000000*(1+DV ta+DV tb):Nat)<576460752303420000)(hl:M.hs.length+1025*(1+DV ta+DV tb)<=59900)(T:M.S.n=n0)(h:∀M' lv' H' r,Wk H H' wb b M0 M M' L lv lv' [(r,WR hF Va Vc)]->M'.nx<=M.nx+(1000000000*(1+DV ta+DV tb):Nat)->Q (r,()) () H'):qK E3 D5 (some wb,ta,tb,holds,()) H Q X:=by
 refine wF Tryz.f102 {pr:=[(9,8)],im:=[4,5,6,7]} (?_:Kk (some wb) ta tb holds H Q X);unfold Kk;have wl:=w.ln;refine(Wk.of w).const (by omega) λN s z c P cb a=>?_;have f:=c.ln;have m:cb≠wb:=λe=>by rw[e,c.w.ob]at a;cases a
 have A:Fb b M0 cb:=(c.w.mg.h.notM a).same c.w.bs.symm;have n:H cb=none:=a7 λg=>by have:=c.f cb g m A;grind
 have q:KH z:=i _ _ o c.f;have S:Wk H (Ab z cb (.st Ba M.nx)) wb b M0 M N L lv s ([(M.nx,λ_=>false)]++[]):=by have:=c.fresh (y:=.st Ba M.nx) a;grind
 have D:=Asi (Hb:=H) (wb:=wb) (b:=b) (cb:=cb) (M0:=M0) (Mb:=M) (L:=L) (lvb:=lv) (hF:=hF) (Va:=Va) (Vc:=Vc) (KH:=KH) (holds:=holds) m A n I i (λH' v l=>j H cb v n o H' l);have C:256*DV ta*(256*DV tb*(1+1))<=500000000:=by
  have J:256*DV ta<=10240:=by omega
  have K:256*DV tb*(1+1)<=20480:=by omega
  have:=bn J K;omega
 refine PJ (ctx:=[]) (hsU:=[(M.nx,λ_=>false)]) (k:=S) (u:=⟨j H cb M.nx n o z q,M.nx,Ai _ _ _,by rfl⟩) (d:=D) (na:=na) (nc:=nc) (W:=256*DV tb*(1+1)) (Z:=256*DV ta*(256*DV tb*(1+1))) ((c.w.bs.n.trans w.bs.n.symm).trans T) (by grind[Ai]) m A (by omega) (by omega) rfl rfl (by omega) (by grind) (by grind) (by grind) λM' lv' H' F U E⟨_,r,O,G⟩p t=>?_;rw[bm,G,Aop p]at E;grind
end
section
def Do2(do2:Option Nat×Int×Int×Unit->HY->(Int×Int×Unit->HP)->PX->Prop)(T:B.Fn->B.Fn->B.Fn):Prop:=∀{b:Nat}{M:Mn}{H:HY}{p q:Int}{F G:B.Fn}(Q:Int×Int×Unit->HP)(X:PX),MG H b M->M.nx<576460752303423487->M.hs.length<=60000->M.Aq p=some F->M.Aq q=some G->(∀M' H',MG H' b M'->Uz M M' (T F G)->Jd b M H H'->Q (M.nx,0,()) H')->do2 (some b,p,q,()) H Q X
variable {L:Ac} {n0:Int} {t:Ae}
theorem MJ{Fs:Nat->B.Fn}{T:B.Fn->B.Fn->B.Fn}{do2:Option Nat×Int×Int×Unit->HY->(Int×Int×Unit->HP)->PX->Prop}(v:Do2 do2 T)(y:∀i(h:i<t.qZ.length),J5 L n0 t.qZ[i] (Fs i))(k:t.qZ.length=2){wb b:Nat}{M0 M:Mn}{lv:List (Int×Bool)}{H:HY}{X:PX}{Q:Int×Unit->UU}(w:WK H wb b M0 M L lv)(u:M.nx+(1000000000*DV t:Nat)<576460752303420000)(z:M.hs.length+1025*DV t<=59900)(C:M.S.n=n0)(d:∀M' lv' c r,Wk H c wb b M0 M M' L lv lv' [(r,T (Fs 0) (Fs 1))]->M'.nx<=M.nx+(1000000000*DV t:Nat)->Q (r,()) () c):qK CM Cm (do2,some wb,λ(_:Unit)(H:HY)(Q:List Int×Unit->HP)(X:Nat->Lf Y0.D->HP)=>qK Bp Bb (t,some wb,()) H (λ(b:List Int×Unit)(_:Unit)(c:HY)=>Q (b.1,()) c) X,()) H (λ(b:Int×Unit)(_:Unit)(c:HY)=>Q (b.1,()) () c) X:=by
 apply ON;unfold Kj;refine Sf ?_;refine I7 y (by omega) (λ{b M H n}g f j m e=>?_) w u z C d;intro Q X o;apply Nh;unfold Ja;rw[k]at e;match n,(show n.length=2 by have:=congrArg ao e;grind) with
 | [p,q],_=>
  have s:p.2=Fs 0:=by have:=congrArg (λl:List B.Fn=>l[0]?) e;exact af this
  have A:q.2=Fs 1:=by have:=congrArg (λl:List B.Fn=>l[1]?) e;exact af this
  refine⟨λ_=>by decide,by simp,λ_=>by decide,by simp,?_⟩
  exact v _ _ g f j (by grind) (by grind) o
theorem Afl{Fs:Nat->B.Fn}(v:∀i(h:i<t.qZ.length),J5 L n0 t.qZ[i] (Fs i))(c:t.qZ.length=2):(t.Op=8->J5 L n0 t (Tg (Fs 0) (Fs 1)))/\(t.Op=9->J5 L n0 t (Th (Fs 0) (Fs 1))):=by
 refine⟨λp=>?_,λp=>?_⟩
 .intro z b x M y H X Q w j n q a;apply Bv;unfold Bl;refine⟨λh=>by omega,λ_=>⟨λh=>by omega,λ_=>⟨λh=>by omega,λ_=>⟨λh=>by omega,λ_=>⟨λh=>by omega,λ_=>⟨λh=>by omega,λ_=>⟨λ_=>?_,λh=>qG p h⟩⟩⟩⟩⟩⟩⟩;exact MJ (T:=Tg) (λQ X g l o k u e=>Ad2 g l o k u λd r m s f=>e d r m s f) v c w j n q a
 .intro z b x M y H X Q w j n q a;apply Bv;unfold Bl;refine⟨λh=>by omega,λ_=>⟨λh=>by omega,λ_=>⟨λh=>by omega,λ_=>⟨λh=>by omega,λ_=>⟨λh=>by omega,λ_=>⟨λh=>by omega,λ_=>⟨λh=>by omega,λ_=>⟨λ_=>?_,λh=>qG p h⟩⟩⟩⟩⟩⟩⟩⟩;exact MJ (T:=Th) (λQ X g l o k u e=>Vb g l o k u λd r m s f=>e d r m s f) v c w j n q a
theorem Ak2{ta tb:Ae}{Va Vc:B.As->Option Int}(c:t.qZ=[ta,tb])(na:PG L n0 ta Va)(nc:PG L n0 tb Vc)(q:DV t<=40):(t.Op=12->J5 L n0 t (WR (λx y=>decide (x<y)) Va Vc))/\(t.Op=13->J5 L n0 t (WR (λx y=>decide (x<=y)) Va Vc)):=by
 have l:DV t=1+DV ta+DV tb:=by grind[ML,DR,JS]
 have f:0<t.qZ.length:=by grind
 have k:1<t.qZ.length:=by grind
 have m:t.qZ[a4 (0:Int)]'f=ta:=by simp [c]
 have n:t.qZ[a4 (1:Int)]'k=tb:=by simp [c]
 refine⟨λe=>?_,λe=>?_⟩
 .intro r b p M o H X Q w g d i a;rw[l]at g d a;apply Bv;unfold Bl;refine⟨λh=>by omega,λ_=>⟨λh=>by omega,λ_=>⟨λh=>by omega,λ_=>⟨λh=>by omega,λ_=>⟨λh=>by omega,λ_=>⟨λh=>by omega,λ_=>⟨λh=>by omega,λ_=>⟨λh=>by omega,λ_=>⟨λh=>by omega,λ_=>⟨λ_=>⟨λ_=>by decide,f,λ_=>by decide,k,?_⟩,λh=>qG e h⟩⟩⟩⟩⟩⟩⟩⟩⟩⟩;rw[m,n];refine QI (hF:=λx y=>decide (x<y)) (KH:=λ_=>True) na nc (by omega) (by omega) (λx y H R X _ j=>?_) (λ_ _ _ _=>trivial) (λ_ _ _ _ _ _ _=>trivial) trivial w (by omega) d i a;refine OI _ _ _ _ _ ?_;exact j
 .intro r b p M o H X Q w g d i a;rw[l]at g d a;apply Bv;unfold Bl;refine⟨λh=>by omega,λ_=>⟨λh=>by omega,λ_=>⟨λh=>by omega,λ_=>⟨λh=>by omega,λ_=>⟨λh=>by omega,λ_=>⟨λh=>by omega,λ_=>⟨λh=>by omega,λ_=>⟨λh=>by omega,λ_=>⟨λh=>by omega,λ_=>⟨λh=>by omega,λ_=>⟨λ_=>⟨λ_=>by decide,f,λ_=>by decide,k,?_⟩,λh=>qG e h⟩⟩⟩⟩⟩⟩⟩⟩⟩⟩⟩;rw[m,n];refine QI (hF:=λx y=>decide (x<=y)) (KH:=λ_=>True) na nc (by omega) (by omega) (λx y H R X _ j=>?_) (λ_ _ _ _=>trivial) (λ_ _ _ _ _ _ _=>trivial) trivial w (by omega) d i a;refine OG _ _ _ _ _ ?_;exact j
theorem Agd{ta tc:Ae}{Va Vc:B.As->Option Int}(u:t.Op=14∨t.Op=15∨t.Op=16∨t.Op=17)(i:t.qZ=[ta,tc])(na:PG L n0 ta Va)(nc:PG L n0 tc Vc)(x:DV t<=40)(h:VD 8 Va)(g:VD 8 Vc)(j:VB Va)(o:VB Vc)(l:t.Op=17->∀a y,Vc a=some y->1<=y):PG L n0 t (ZE (opF t.Op) Va Vc):=by
 have I:DV t=1+DV ta+DV tc:=by grind[ML,DR,JS]
 have s:256*DV ta*(256*DV tc*2)<=500000000:=by
  have h:256*DV ta<=10240:=by omega
  have g:256*DV tc*2<=20480:=by omega
  have:=bn h g;omega
 have c:Uh L n0 t (gV (ZE (opF t.Op) Va Vc)) 256 (1000000000*DV ta+1000000000*DV tc+256*DV ta*(256*DV tc*2)+2000) (1025*DV t):=X7 (by omega) u i na nc h g j o l (by omega) (by omega) rfl rfl;generalize 256*DV ta*(256*DV tc*2)=Z at s c;intro G b F M J H X Q w E A p d;exact c w (by omega) A p λC f D r m k n e v z q K=>d C f D r m k n e v z (by omega) (by omega)
end
section
variable {t:Ae}
theorem Afp{k:Ae}(h:k∈t.qZ):DV k+1<=DV t:=by
 have a:∀(l:List Ae),k∈l->DV k<=GG l:=by
  intro l;induction l with
  |nil=>simp
  |cons s l b=>
   grind[DR]
 grind[ML]
theorem Yk.w(h:Yk t):CA t=0:=by cases h with|mk a _=>exact a
theorem Yk.k(h:Yk t):∀k∈t.qZ,Yk k:=by cases h with|mk _ b=>exact b
theorem Ahi:∀(z:Nat)(t:Ae)(deep n:Int),SizeOf.sizeOf t<z->Yk t->deep+DV t<=65->n+DV t<=4096->GX deep n t=(n+DV t,0)
 |0,_,_,_,d,_,_,_=>qG d (ab _)
 |z+1,t,deep,n,d,f,o,r=>by
  have q:=Pb t;have j:=ML t;rw[Uy,GT (by omega),UV f.w,GT (by omega)];have c:∀(l:List Ae)(m:Int),(∀k∈l,k∈t.qZ)->m+GG l<=4096->Ee (deep+1) m l=(m+GG l,0):=by
   intro l;induction l with
   |nil=>grind[Ee,JS]
   |cons s l g=>
    intro m a i;rw[DR]at i ⊢;have b:=a s ae;have p:=Afp b;have e:=Ahi z s (deep+1) m (by have:=Ms b;omega) (f.k s b) (by omega) (by omega);grind[Ee]
  grind
theorem Aky{vars:List Ar}{next:Bool}(a:Yk t)(hs:DV t<=60):Nq vars next t=Bf vars next t:=by unfold Nq;rw[Ahi (SizeOf.sizeOf t+1) t 1 0 (by omega) a (by omega) (by omega),UV rfl]
variable {L:Ac}
theorem QW{wb b:Nat}{M0 M:Mn}{lv:List (Int×Bool)}{H:HY}{X:PX}{Q:Bool×Unit->UU}(w:WK H wb b M0 M L lv)(e:L.Aa.length<=1000)(d:Yk t)(hs:DV t<=60)(h:∀H',(∀c,H c≠none->H' c=H c)->Q ((Bf L.Aa true t).1.Bool,()) () H'):qK LC IH (some wb,t,()) H Q X:=by
 refine wF Tryz.f105 {im:=[3]} (?_:∃(b:Nat),(some wb)=some b/\(∃(x:Al),H b=some (Ob.st BJ x)/\dup ({x with l:={Aa:=x.l.Aa,Bits:=x.l.Bits,At:=x.l.At:Ac}}=x/\qK Fx Ey (x.l.Aa,t,true,()) H (λ(b:Af×Int×UT)_ G=>Q (b.1.Bool,()) () G) X))/\∃(x:Al),H b=some (Ob.st BJ x)/\{x with l:={Aa:=x.l.Aa,Bits:=x.l.Bits,At:=x.l.At:Ac}}=x/\qK Fx Ey (x.l.Aa,t,true,()) H (λ(b:Af×Int×UT)_ G=>Q (b.1.Bool,()) () G) X);have a:qK Fx Ey (L.Aa,t,true,()) H (λ(b:Af×Int×Unit)_ H'=>Q (b.1.Bool,()) () H') X:=PL e λH' f=>by grind[Nq,Aky]
 exact⟨wb,rfl,⟨_,w.ob,Sf ⟨rfl,a⟩⟩,_,w.ob,rfl,a⟩
theorem Wk.KK{Hb H H':HY}{wb b:Nat}{M0 Mb M:Mn}{lvb lv:List (Int×Bool)}{hs:List (Int×B.Fn)}(k:Wk Hb H wb b M0 Mb M L lvb lv hs)(f:∀c,H c≠none->H' c=H c):Wk Hb H' wb b M0 Mb M L lvb lv hs:=
 ⟨k.w.KK f,k.h,λc a d g=>by have e:=k.f c a d g;grind⟩
def eqF(op:Int)(F G:B.Fn):B.Fn:=if op=10 then Th F G else S8 F G
theorem Ar9:Do2 (λ(a:Option Nat×Int×Int×Unit)(H:HY)(Q:Int×Int×Unit->HP)(X:Nat->Lf Y0.D->HP)=>qK G3 E0 (a.1,a.2.1,a.2.2.1,()) H (λ(b:Int×Int×Unit)(_:Unit)(c:HY)=>Q (b.1,b.2.1,()) c) X) S8:=by
 intro b M H p q F G Q X g m j l n k;refine OC _ _ _ _ _ _ ?_;refine Ad1 g m j (by simp) (Gs:=[F,G]) (by grind) λh c i d f=>k h c i ?_ f;have e:[F,G].foldl S8 (λ_=>false)=S8 F G:=by funext x;simp [S8]
 grind
theorem Auu{n0:Int}{ta tb:Ae}(m:t.qZ=[ta,tb])(hv:L.Aa.length<=1000)(u:Yk ta)(hsz:DV t<=40)(ho:t.Op=10∨t.Op=11):(∀Va Vc,PG L n0 ta Va->PG L n0 tb Vc->(Bf L.Aa true ta).1.Bool=false->J5 L n0 t (WR (λx y=>decide (x=y)==decide (decide (t.Op=10)=true)) Va Vc))/\(∀Fa Fc,J5 L n0 ta Fa->J5 L n0 tb Fc->(Bf L.Aa true ta).1.Bool=true->J5 L n0 t (eqF t.Op Fa Fc)):=by
 have sz:DV t=1+DV ta+DV tb:=by rw[ML,m,DR,DR,JS];omega
 have G:0<t.qZ.length:=by rw[m];show 0<2;decide
 have l1:1<t.qZ.length:=by rw[m];show 1<2;decide
 have P:t.qZ[a4 (0:Int)]'G=ta:=by simp [m]
 have k1:t.qZ[a4 (1:Int)]'l1=tb:=by simp [m]
 have A:t.qZ.length=2:=by rw[m];rfl
 refine⟨λVa Vc na nc Y=>?_,λFa Fc fa fc Y=>?_⟩
 .intro I b K M E H X Q w J C N a;rw[sz]at J C a;apply Bv;unfold Bl;refine⟨λh=>by omega,λ_=>⟨λh=>by omega,λ_=>⟨λh=>by omega,λ_=>⟨λh=>by omega,λ_=>⟨λh=>by omega,λ_=>⟨λh=>by omega,λ_=>⟨λh=>by omega,λ_=>⟨λh=>by omega,λ_=>⟨λh=>by omega,λ_=>⟨λh=>by omega,λ_=>⟨λh=>by omega,λ_ c d=>⟨λ_=>by decide,G,?_⟩⟩⟩⟩⟩⟩⟩⟩⟩⟩⟩⟩;rw[P];have F:Wk H (Ab H c (.st Ho (decide (t.Op=10)))) I b K M M L E E []:=(Wk.of w).fresh d;have d1:c≠I:=λe=>by rw[e,w.ob]at d;cases d
  have n1:Fb b K c:=(w.mg.h.notM d).same w.bs.symm;refine QW F.w hv u (by omega) λZ z=>⟨λ_=>⟨λ_=>by decide,G,λ_=>by decide,l1,?_⟩,λO=>qG (by show ¬(Bf L.Aa true ta).1.Bool=true;rw[Y];decide) O⟩
  rw[P,k1];have p:=F.KK z;have o:Z c=some (.st Ho (decide (t.Op=10))):=by rw[z c (by grind[Ai]),Ai]
  refine QI (hF:=λx y=>decide (x=y) == decide (decide (t.Op=10)=true)) (KH:=λH=>H c=some (.st Ho (decide (t.Op=10)))) na nc (by omega) (by omega) (λx y H R X n hR=>?_) (λH l n fr=>by rw[fr c (by rw[n];simp) d1 n1];exact n) (λH cb v S n l U=>?_) o p.w (by omega) C N λs j l r k D=>a s j l r ?_ D
  .refine OE _ _ _ _ _ _ ?_;exact⟨c,rfl,_,n,rfl,hR⟩
  .have V:c≠cb:=λe=>by rw[e,S]at n;cases n
   show Ab l cb _ c=_;rw[Ag _ _ V];exact U
  .have:=p.trans k;grind
 .intro I b K M E H X Q w J C N a;apply Bv;unfold Bl;refine⟨λh=>by omega,λ_=>⟨λh=>by omega,λ_=>⟨λh=>by omega,λ_=>⟨λh=>by omega,λ_=>⟨λh=>by omega,λ_=>⟨λh=>by omega,λ_=>⟨λh=>by omega,λ_=>⟨λh=>by omega,λ_=>⟨λh=>by omega,λ_=>⟨λh=>by omega,λ_=>⟨λh=>by omega,λ_ c d=>⟨λ_=>by decide,G,?_⟩⟩⟩⟩⟩⟩⟩⟩⟩⟩⟩⟩;rw[P];have F:Wk H (Ab H c (.st Ho (decide (t.Op=10)))) I b K M M L E E []:=(Wk.of w).fresh d;refine QW F.w hv u (by omega) λZ z=>⟨λO=>qG Y O,λ_=>?_⟩
  have p:=F.KK z;have o:Z c=some (.st Ho (decide (t.Op=10))):=by rw[z c (by grind[Ai]),Ai]
  have B:∀i(h:i<t.qZ.length),J5 L n0 t.qZ[i] (if i=0 then Fa else Fc):=λi h=>by grind
  refine⟨_,o,λq=>⟨rfl,?_⟩,λq=>⟨rfl,?_⟩⟩
  .have q:t.Op=10:=of_decide_eq_true q;have W:eqF t.Op Fa Fc=Th Fa Fc:=UV q;rw[W]at a;refine MJ (T:=Th) (Fs:=λi=>if i=0 then Fa else Fc) (λQ X g h1 h2 hF hG hq=>Vb g h1 h2 hF hG λs l g' nw f=>hq s l g' nw f) B A p.w J C N λs j l r k D=>a s j l r ?_ D;have:=p.trans k;grind
  .have q:¬t.Op=10:=λe=>q (decide_eq_true e);have W:eqF t.Op Fa Fc=S8 Fa Fc:=GT q;rw[W]at a;refine MJ (T:=S8) (Fs:=λi=>if i=0 then Fa else Fc) Ar9 B A p.w J C N λs j l r k D=>a s j l r ?_ D;have:=p.trans k;grind
end
def ifV(F:B.Fn)(Va Vc:B.As->Option Int):B.As->Option Int:=λa=>if F a=true then Va a else Vc a
def ifG(F:B.Fn)(Va Vc:B.As->Option Int):Nat->Int->B.Fn
 |0=>λ_ _=>false
 |1=>λn=>Q4 (λ_=>false) (C6 (gV Va n) F)
 |_=>λn=>Q4 (Q4 (λ_=>false) (C6 (gV Va n) F)) (C6 (gV Vc n) λa=>!F a)
theorem Art{F:B.Fn}{Va Vc:B.As->Option Int}:ifG F Va Vc 2=gV (ifV F Va Vc):=by funext n a;show ((false ||(gV Va n a&&F a)) ||(gV Vc n a&&!F a))=_;unfold ifV gV;cases h:F a<;>simp [h]
def Sq(A G:Int->B.Fn)(ks:List Int):Int->B.Fn:=ks.foldl (λG n=>NM G n (A n)) G
theorem Yh{A G:Int->B.Fn}{ks:List Int}{n:Int}:Sq A G (ks++[n])=NM (Sq A G ks) n (A n):=by grind[Sq]
theorem Ao6{A:Int->B.Fn}:∀{ks:List Int}{G:Int->B.Fn},ks.Nodup->(∀n,n∉ks->A n=λ_=>false)->Sq A G ks=λn=>Q4 (G n) (A n):=by
 have c:∀{ks:List Int}{G:Int->B.Fn},ks.Nodup->∀n,Sq A G ks n=if n∈ks then Q4 (G n) (A n) else G n:=by
  intro ks;induction ks with
  |nil=>intro G _ n;rfl
  |cons k ks d=>
   intro G b n;have b:=List.nodup_cons.1 b;show Sq A (NM G k (A k)) ks n=_;grind[NM]
 intro ks G b h;funext n;rw[c b n];by_cases e:n∈ks
 .rw[UV e]
 .rw[GT e,h n e];grind[Q4]
theorem Av9{L:Ac}{n0:Int}{t ta tb tc:Ae}{F:B.Fn}{Va Vc:B.As->Option Int}(ho:t.Op=18)(hk:t.qZ=[ta,tb,tc])(fa:J5 L n0 ta F)(nb:PG L n0 tb Va)(nc:PG L n0 tc Vc)(hsz:DV t<=40):PG L n0 t (ifV F Va Vc):=by
 have sz:DV t=1+(DV ta+(DV tb+DV tc)):=by grind[ML,DR,JS]
 intro W b J M lv H X Q w hn hl hS post;apply E4;unfold D6;intro r hr c hc;obtain⟨k0,e1,e2,d1,d2,d3,m1,m2,hcn⟩:=Pr (z:=.st Ak (some r)) w hr hc;generalize Ab (Ab H r (.mp I6 I6 [])) c (.st Ak (some r))=H2 at k0 e1 e2;have wln:=w.ln;have l0:0<t.qZ.length:=by grind
 have k0l:t.qZ[a4 (0:Int)]'l0=ta:=by grind
 refine⟨λh=>by omega,λ_=>⟨λh=>by omega,λ_=>⟨λh=>by omega,λ_=>⟨λ_=>⟨λ_=>by decide,l0,?_⟩,λh=>qG ho h⟩⟩⟩⟩;rw[k0l];refine fa k0.w (by omega) (by omega) hS λM1 lv1 H1 p s nx1=>?_;have f1:=s.f;have s:=k0.trans s;rw[bm]at s;have k1l:=s.ln;have k1l:M1.hs.length=J.hs.length+lv.length+1:=k1l;refine⟨W,rfl,_,s.w.ob,rfl,?_⟩;refine TD s.w.mg (by omega) (F:=F) (s.h.Aq (p,F) (by simp)) λM2 H2' g2 nw2 f2=>L2 s.w g2 nw2 f2 λlv2 H3 w3 _ u3 f3=>?_;have k3:=(s.step w3 (s.h.push u3) f3).perm (hs':=Jm [] (ifG F Va Vc 0)++[(p,F),(M1.nx,λa=>!F a)]) (.swap _ _ _);have nx3:=nw2.nx;have f3:=f1.trans (f3.same s.w.bs);have r3:H3 r=some (.mp I6 I6 []):=by rw[f3 r (by grind) d1 m1];exact e1
 have c3:H3 c=some (.st Ak (some r)):=by rw[f3 c (by grind) d2 m2];exact e2
 obtain⟨q,hq⟩:∃q,q=M1.nx:=⟨_,rfl⟩
 rw[<-hq]at k3 nx3 nx1;rw[<-hq];obtain⟨g,T⟩:∃g:Nat->B.As->Option Int,g=λi=>if i=0 then Va else Vc:=⟨_,rfl⟩
 obtain⟨v,I⟩:∃v:Nat->B.Fn,v=λi=>if i=0 then F else λa=>!F a:=⟨_,rfl⟩
 obtain⟨f,K⟩:∃f:Nat->Nat,f=λi=>if i=0 then 0 else if i=1 then DV tb else DV tb+DV tc:=⟨_,rfl⟩
 have sI0:f 0=0:=by grind
 have sI2:f 2=DV tb+DV tc:=by grind
 have kid:∀i:Nat,i<2->∃h:((1:Int)+(i:Int)).toNat<t.qZ.length,PG L n0 (t.qZ[((1:Int)+(i:Int)).toNat]'h) (g i)/\f i+DV (t.qZ[((1:Int)+(i:Int)).toNat]'h)=f (i+1)/\f (i+1)<=f 2:=by grind
 have so:∀i(h:i<[p,q].length),([p,q][i],v i)∈[(p,F),(q,λa=>!F a)]:=by
  intro i hi;have hi:i<2:=hi;rcases(show i=0∨i=1 by omega) with rfl|rfl
  all_goals grind
 have gI:∀i:Nat,i<2->∀ks:List Int,ks.Nodup->(∀n,n∉ks->gV (g i) n=λ_=>false)->Sq (λn=>C6 (gV (g i) n) (v i)) (ifG F Va Vc i) ks=ifG F Va Vc (i+1):=by
  intro i hi ks hd hz;rw[Ao6 hd λn hn=>by rw[hz n hn];funext a;rfl];rcases(show i=0∨i=1 by omega) with rfl|rfl
  .rw[T,I];rfl
  .rw[T,I];rfl
 refine⟨λn z H'=>n=2-z.1/\z.1<=2/\∃M' lv' m,Wk H H' W b J M M' L lv lv' (Jm m (ifG F Va Vc z.1)++[(p,F),(q,λa=>!F a)])/\H' r=some (.mp I6 I6 m)/\H' c=some (.st Ak (some r))/\N9 m/\(∀n,Ad m n=none->ifG F Va Vc z.1 n=λ_=>false)/\m.length<=256*f z.1/\M'.nx<=M.nx+(1000000000*DV ta:Nat)+1+(1000000600*f z.1:Nat),⟨_,rfl,a6 _,M2,lv2,[],k3,r3,c3,by simp [N9],λn _=>rfl,a6 _,by show M2.nx<=M.nx+(1000000000*DV ta:Nat)+1+(1000000600*f 0:Nat);omega⟩,?_⟩;rintro n ⟨i,u⟩ H4 ⟨hn0,hi0,M4,lv4,m,P,r4,c4,nd4,z4,N,nx4⟩;have hn1:n=2-i:=hn0;have hi:i<=2:=hi0;have P:Wk H H4 W b J M M4 L lv lv4 (Jm m (ifG F Va Vc i)++[(p,F),(q,λa=>!F a)]):=P;have z4:∀n,Ad m n=none->ifG F Va Vc i n=λ_=>false:=z4;have N:m.length<=256*f i:=N;have nx4:M4.nx<=M.nx+(1000000000*DV ta:Nat)+1+(1000000600*f i:Nat):=nx4;have Y:∀(m:List (Int×Int))G,(Jm m G).length=m.length:=λm G=>am _;refine⟨λhlt0 _=>?_,λhge0=>?_⟩
 .have O:i<2:=hlt0;obtain⟨hkl,nk,hs1,hs2⟩:=kid i O;have k:=P.ln;rw[ai,Y]at k;have k:M4.hs.length=J.hs.length+lv.length+(m.length+2):=k;refine⟨O,λ_=>⟨A7.2 (by show _<=1+(i:Int)/\1+(i:Int)<=_;omega),λ_=>⟨λ_=>by show 0<=1+(i:Int);omega,hkl,?_⟩⟩⟩;refine nk P.w (by omega) (by omega) (by rw[<-hS];exact P.w.bs.n.trans w.bs.n.symm) λM5 lv5 H5 S d k5 V rf1 ndf zf lenf nx5=>?_;have XU:S≠W:=λe=>by rw[e,P.w.ob]at V;cases V
  have drm:Fb b J S:=(P.w.mg.h.notM V).back P.w.bs;have drr:S≠r:=λe=>by rw[e,r4]at V;cases V
  have R:∃A:Int->Int×B.Fn,∀n,A n=((Ad d n).getD 0,gV (g i) n):=⟨_,λ_=>rfl⟩
  obtain⟨A,R⟩:=R;have hperm:((AI d).map A).Perm (Jm d (gV (g i))):=by
   have e:Jm d (gV (g i))=(d.map (·.1)).map A:=by unfold Jm;rw[List.map_map];refine List.map_congr_left λx hx=>?_;show _=A x.1;rw[R,Gz ndf hx];rfl
   rw[e];exact(DW d).map A
  have ksl:=Pd d;have ksn:(AI d).Nodup:=(DW d).nodup_iff.2 ndf;have r5:H5 r=some (.mp I6 I6 m):=by rw[k5.f r (by rw[r4];simp) d1 m1];exact r4
  have c5:H5 c=some (.st Ak (some r)):=by rw[k5.f c (by rw[c4];simp) d2 m2];exact c4
  refine JB (b:=S) rf1 (by omega) λc2 l2 r2 D hl2=>?_;have ne:∀{c},H5 c≠none->c≠l2:=λh e=>h (by rw[e];exact hl2);have k6:=((P.trans k5).perm (List.Perm.append_right _ hperm)).fresh (y:=.lp D) hl2;have r6:Ab H5 l2 (.lp D) r=some (.mp I6 I6 m):=by rw[Ag _ _ (ne (by rw[r5];simp))];exact r5
  have c6:Ab H5 l2 (.lp D) c=some (.st Ak (some r)):=by rw[Ag _ _ (ne (by rw[c5];simp))];exact c5
  have f6:Ab H5 l2 (.lp D) S=some (.mp I6 I6 d):=by rw[Ag _ _ (ne (by rw[rf1];simp))];exact rf1
  generalize Ab H5 l2 (.lp D)=H6 at k6 r6 c6 f6;refine λ_=>⟨λn1 z H'=>n1=d.length-z.2.1/\z.2.1<=d.length/\z.1=AI d/\∃M' lv' m',Wk H H' W b J M M' L lv lv' (Jm m' (Sq (λn=>C6 (gV (g i) n) (v i)) (ifG F Va Vc i) ((AI d).take z.2.1))++(((AI d).drop z.2.1).map A++[(p,F),(q,λa=>!F a)]))/\H' r=some (.mp I6 I6 m')/\H' c=some (.st Ak (some r))/\H' S=some (.mp I6 I6 d)/\N9 m'/\(∀n,Ad m' n=none->Sq (λn=>C6 (gV (g i) n) (v i)) (ifG F Va Vc i) ((AI d).take z.2.1) n=λ_=>false)/\m'.length<=256*f i+z.2.1/\M'.nx+2*(n1:Int)<=M5.nx+2*(d.length:Int),⟨_,rfl,a6 _,rfl,M5,lv5,m,k6.perm (List.perm_append_comm_assoc _ _ _),r6,c6,f6,nd4,z4,N,Int.le_refl _⟩,?_⟩
  rintro n1 ⟨ks,j,u⟩ H7 ⟨hn70,hj0,hks0,M7,lv7,m7,C,r7,c7,f7,nd7,z7,len7,nx7⟩;have hn7:n1=d.length-j:=hn70;have hj:j<=d.length:=hj0;have hks:ks=AI d:=hks0;subst hks;replace C:Wk H H7 W b J M M7 L lv lv7 (Jm m7 (Sq (λn=>C6 (gV (g i) n) (v i)) (ifG F Va Vc i) ((AI d).take j))++(((AI d).drop j).map A++[(p,F),(q,λa=>!F a)])):=C;replace z7:∀n,Ad m7 n=none->Sq (λn=>C6 (gV (g i) n) (v i)) (ifG F Va Vc i) ((AI d).take j) n=λ_=>false:=z7;replace len7:m7.length<=256*f i+j:=len7;have k7l:=C.ln;rw[ai,ai,Y,am,bj,ksl]at k7l;have k7l:M7.hs.length=J.hs.length+lv.length+(m7.length+(d.length-j+2)):=k7l;refine⟨λE _=>?_,λE=>?_⟩
  .have o:j<(AI d).length:=E;have hdr:=List.drop_eq_getElem_cons o;have htk:=a8 o;generalize hx:(AI d)[j]=x at hdr htk;generalize hG:Sq (λn=>C6 (gV (g i) n) (v i)) (ifG F Va Vc i) ((AI d).take j)=G7 at C z7;rw[hdr,bo]at C;refine⟨o,o,W,rfl,⟨_,C.w.ob,rfl,S,rfl,d,f7,?_⟩,S,rfl,d,f7,Sf ⟨_,C.w.ob,rfl,?_⟩⟩;all_goals
    show qK Cy Ci (some b,[(Ad d ((AI d)[j]'o)).getD (0:Int),[p,q][i]],()) H7 _ X
    rw[hx]
    have mx:=C.h.Aq (A x) (au _ (ax _ ae))
    rw[R x]at mx
    refine C.Ao5 (by omega) (by omega) mx (C.h.Aq _ (au _ (au _ (so i O)))) λM8 lv8 H8 k8 nx8 f8=>?_
    refine⟨S,rfl,d,by rw[f8 S (by rw[f7];simp) XU drm];exact f7,?_⟩
    refine Wk.drop (hs1:=[A x]) (hs:=(M7.nx,C6 (gV (g i) x) (v i))::(Jm m7 G7++(((AI d).drop (j+1)).map A++[(p,F),(q,λa=>!F a)]))) (k8.perm ?_) (by omega) (by simp) ?_ λM9 lv9 H9 k9 nx9 f9=>?_
    .refine(List.Perm.swap _ _ _).trans (List.Perm.cons _ ?_)
     exact List.perm_middle.symm
    .rw[bo,R];exact .refl _
    have f9:=f8.trans f9
    have k9l:=k9.ln
    simp only[List.length_cons,ai,Y,am,bj,ksl,List.length_nil]at k9l
    refine⟨some r,by rw[f9 c (by rw[c7];simp) d2 m2];exact c7,rfl,?_⟩
    refine T7 k9 (by omega) (by omega) (by rw[f9 r (by rw[r7];simp) d1 m1];exact r7) d1 m1 hr nd7 z7 λM10 lv10 H10 Z k10 nx10 r10 nd10 U fr10=>?_
    have gt:∀c,H7 c≠none->c≠r->c≠W->Fb b J c->H10 c=H7 c:=λc a0 a1 a2 a3=>by have e:=f9 c a0 a2 a3;rw[fr10 c (by rw[e];exact a0) a1 a2 a3];exact e
    have l10:Z.length<=m7.length+1:=by
     have:=GO (l:=Z.map λ(p:Int×Int)=>p.1) (m:=x::m7.map λ(p:Int×Int)=>p.1) nd10 λy hy=>by
      by_cases e:y=x
      .rw[e];exact ae
      .refine ay _ (a7 λhne=>?_);exact Er.1 ((U y).2 ⟨Er.2 hne,e⟩) hy
     simpa using this
    refine⟨by show j+1<=_;omega,d.length-(j+1),by omega,rfl,by show j+1<=_;omega,rfl,M10,lv10,Z,?_,r10,by rw[gt c (by rw[c7];simp) (Ne.symm d3) d2 m2];exact c7,by rw[gt S (by rw[f7];simp) drr XU drm];exact f7,nd10,λy hy=>?_,by show _<=_+(j+1);omega,by omega⟩
    .show Wk H H10 W b J M M10 L lv lv10 (Jm Z (Sq (λn=>C6 (gV (g i) n) (v i)) (ifG F Va Vc i) ((AI d).take (j+1)))++(((AI d).drop (j+1)).map A++[(p,F),(q,λa=>!F a)]))
     rw[htk,Yh,hG];exact k10
    .show Sq (λn=>C6 (gV (g i) n) (v i)) (ifG F Va Vc i) ((AI d).take (j+1)) y=_
     have hy:=(U y).1 hy
     rw[htk,Yh,hG]
     unfold NM
     rw[GT hy.2];exact z7 y hy.1
  .have o:¬j<(AI d).length:=E;have e:j=d.length:=by omega
   subst e;rw[List.drop_of_length_le (by omega),aq (by omega),gI i O _ ksn λn hn=>zf n (Er.2 λhh=>hn ((DW d).mem_iff.2 hh))]at C;rw[aq (by omega),gI i O _ ksn λn hn=>zf n (Er.2 λhh=>hn ((DW d).mem_iff.2 hh))]at z7;refine⟨by show i+1<=_;omega,2-(i+1),by omega,rfl,by show i+1<=_;omega,M7,lv7,m7,C,r7,c7,nd7,z7,by show _<=256*f (i+1);omega,?_⟩;show M7.nx<=M.nx+(1000000000*DV ta:Nat)+1+(1000000600*f (i+1):Nat);omega
 .have hge:¬i<2:=hge0;have e:i=2:=by omega
  subst e;have k:=P.ln;rw[ai,Y]at k;have k:M4.hs.length=J.hs.length+lv.length+(m.length+2):=k;refine Wk.drop (hs1:=[(p,F),(q,λa=>!F a)]) (hs:=Jm m (ifG F Va Vc 2)) (P.perm b9) (by omega) (by simp) (.refl _) λM5 lv5 H5 k5 nx5 f5=>?_;rw[Art]at k5 z4;refine⟨some r,by rw[f5 c (by rw[c4];simp) d2 m2];exact c4,rfl,post M5 lv5 H5 r m k5 hr (by rw[f5 r (by rw[r4];simp) d1 m1];exact r4) nd4 z4 (by omega) (by omega)⟩
section
abbrev SV:=B.Fn×(B.As->Option Int)
def Rh(s:List SV)(i:Nat):B.Fn:=match s[i]? with
 |some v=>v.1
 |none=>λ_=>false
def svV(s:List SV)(i:Nat):B.As->Option Int:=match s[i]? with
 |some v=>v.2
 |none=>λ_=>none
def Aca(op x y:Int):Bool:=if op=12 then decide (x<y) else if op=13 then decide (x<=y) else decide (x=y)==decide (decide (op=10)=true)
def A0u(L:Ac)(ks:List Ae):Bool:=match ks with
 |k::_=>(Bf L.Aa true k).1.Bool
 | []=>false
def opT(L:Ac)(op n:Int)(nm:ByteArray)(ks:List Ae)(s:List SV):B.Fn:=
 if op=2 then λ_=>decide (n=1) else if op=3∨op=4 then DQ (Gf (Cu L (Cl L.Aa nm) (decide (op=4))) (DL L (Cl L.Aa nm) 1))
 else if op=5 then λa=>!Rh s 0 a
 else if op=6 then ((ac ks.length).map (Rh s)).foldl C6 (λ_=>true) else if op=7 then ((ac ks.length).map (Rh s)).foldl Q4 (λ_=>false)
 else if op=8 then Tg (Rh s 0) (Rh s 1) else if op=9 then Th (Rh s 0) (Rh s 1)
 else if op=18 then CU (Rh s 0) (Rh s 1) (Rh s 2)
 else if (op=10∨op=11)/\A0u L ks=true then eqF op (Rh s 0) (Rh s 1) else WR (Aca op) (svV s 0) (svV s 1)
def opN(L:Ac)(op n:Int)(nm:ByteArray)(s:List SV):B.As->Option Int:=
 if op=1 then λ_=>some n else if op=3∨op=4 then Jk L (decide (op=4)) (Cl L.Aa nm)
 else if op=18 then ifV (Rh s 0) (svV s 1) (svV s 2) else ZE (opF op) (svV s 0) (svV s 1)
mutual
def D3(L:Ac):Ae->SV
 |⟨op,n,nm,ks⟩=>(opT L op n nm ks (Hv L ks),opN L op n nm (Hv L ks))
def Hv(L:Ac):List Ae->List SV
 | []=>[]
 |t::ts=>D3 L t::Hv L ts
end
variable {L:Ac}
theorem YA(t:Ae):D3 L t=(opT L t.Op t.N t.qJ t.qZ (Hv L t.qZ),opN L t.Op t.N t.qJ (Hv L t.qZ)):=by cases t;rw[D3]
theorem HO{L:Ac}:∀(l:List Ae),Hv L l=l.map (D3 L)
 | []=>by rfl
 |t::a=>by simp[Hv,HO]
variable {i:Nat}
theorem Afq{l:List Ae}(h:i<l.length):Rh (Hv L l) i=(D3 L l[i]).1:=by unfold Rh;rw[HO,bg,a5 h];rfl
def SD(n:Int)(s:SV):Prop:=∀a b:B.As,(∀v,0<=v->v<n->a v=b v)->s.1 a=s.1 b/\s.2 a=s.2 b
theorem Adl(a:Jf L)(hi:¬i<L.Aa.length){next:Bool}:Cu L i next=[]:=by have h:=a.lb;unfold Cu Mq;rw[ak (l:=L.Bits) (by omega)];split<;>rfl
theorem All(b:Jf L){n:Int}(d:2*CR L<=n){next:Bool}{v:Int}(a:v∈Cu L i next):0<=v/\v<n:=by grind[Rk,Adl]
theorem Tj{f:B.Fn->B.Fn->B.Fn}{a b:B.As}(e:∀F G:B.Fn,F a=F b->G a=G b->f F G a=f F G b):∀{l:List B.Fn}{F:B.Fn},F a=F b->(∀G∈l,G a=G b)->l.foldl f F a=l.foldl f F b
 | [],_,c,_=>c
 |G::l,F,c,d=>Tj e (l:=l) (F:=f F G) (e F G c (d G ae)) λG g=>d G (ay _ g)
inductive Ata(op:Int)(nm:ByteArray):Ae->Prop
 |here {t:Ae}:t.Op=op->t.qJ=nm->Ata op nm t
 |kid {t k:Ae}:k∈t.qZ->Ata op nm k->Ata op nm t
theorem Alk{L:Ac}{a b:B.As}:∀(z:Nat)(t:Ae),SizeOf.sizeOf t<z->(∀op nm,Ata op nm t->(op=3∨op=4)->∀v∈Cu L (Cl L.Aa nm) (decide (op=4)),a v=b v)->(D3 L t).1 a=(D3 L t).1 b/\(D3 L t).2 a=(D3 L t).2 b
 |0,_,hz,_=>qG hz (ab _)
 |z+1,t,hz,e=>by
  have kid:∀s∈Hv L t.qZ,s.1 a=s.1 b/\s.2 a=s.2 b:=λs hs=>by rw[HO]at hs;obtain⟨k,hk,rfl⟩:=ap.1 hs;exact Alk z k (by have:=Ms hk;omega) λop nm h=>e op nm (.kid hk h)
  have c:∀i,Rh (Hv L t.qZ) i a=Rh (Hv L t.qZ) i b:=λi=>by
   unfold Rh;cases h:(Hv L t.qZ)[i]? with
   |none=>rfl
   |some s=>grind
  have d:∀i,svV (Hv L t.qZ) i a=svV (Hv L t.qZ) i b:=λi=>by
   unfold svV;cases h:(Hv L t.qZ)[i]? with
   |none=>rfl
   |some s=>grind
  have e':=e t.Op t.qJ (.here rfl rfl);rw[YA];generalize Hv L t.qZ=s at c d;refine⟨?_,?_⟩
  .show opT L t.Op t.N t.qJ t.qZ s a=opT L t.Op t.N t.qJ t.qZ s b;unfold opT;split
   .rfl
   split
   .rename_i o;rw[bk,EX,EX];have:∀u∈Gf (Cu L (Cl L.Aa t.qJ) (decide (t.Op=4))) (DL L (Cl L.Aa t.qJ) 1),a u.Var=b u.Var:=λu f=>by have hm:u.Var∈(Gf (Cu L (Cl L.Aa t.qJ) (decide (t.Op=4))) (DL L (Cl L.Aa t.qJ) 1)).map (·.Var):=List.mem_map_of_mem f;grind[Qs]
    grind
   split
   .show (!Rh s 0 a)=(!Rh s 0 b);rw[c]
   split
   .exact Tj (λF G h1 h2=>by unfold C6;rw[h1,h2]) rfl λG hG=>by obtain⟨i,_,rfl⟩:=ap.1 hG;grind
   split
   .exact Tj (λF G h1 h2=>by unfold Q4;rw[h1,h2]) rfl λG hG=>by obtain⟨i,_,rfl⟩:=ap.1 hG;grind
   split
   .unfold Tg;rw[c 0,c 1]
   split
   .unfold Th;rw[c 0,c 1]
   split
   .unfold CU;rw[c 0,c 1,c 2]
   split
   .unfold eqF Th S8;split<;>(grind)
   grind[WR]
  .show opN L t.Op t.N t.qJ s a=opN L t.Op t.N t.qJ s b;unfold opN;split;all_goals grind[Jk,OA,ifV,ZE]
theorem Afu(c:Jf L){n:Int}(f:2*CR L<=n)(z:Nat)(t:Ae)(d:SizeOf.sizeOf t<z):SD n (D3 L t):=λa b e=>
 Alk z t d λ_ _ _ _ v g=>by grind[All]
theorem Yk.len{t:Ae}(h:Yk t):1<=t.Op/\t.Op<=18/\(t.Op<=4->t.qZ.length=0)/\(t.Op=5->t.qZ.length=1)/\(t.qZ.length<=64)/\(8<=t.Op->t.Op<=17->t.qZ.length=2)/\(t.Op=18->t.qZ.length=3):=by
 have a:=h.w;unfold CA at a;split at a
 .omega
 rename_i b;split at a
 .omega
 split at a
 .omega
 split at a
 .omega
 rename_i c;unfold G0 at b c;(repeat' split at b)<;>simp_all<;>omega
theorem kl2{α:Type}:∀{l:List α},l.length=2->∃a b,l=[a,b]
 | [a,b],_=>⟨a,b,rfl⟩
theorem kl3{α:Type}:∀{l:List α},l.length=3->∃a b c,l=[a,b,c]
 | [a,b,c],_=>⟨a,b,c,rfl⟩
theorem Xj{vars:List Ar}{next:Bool}:∀{l:List Ae},(Ct vars next l).2=0->(Ct vars next l).1=l.map (λk=>(Bf vars next k).1)/\∀k∈l,(Bf vars next k).2=0
 | [],_=>by grind[Ct]
 |s::l,h=>by
  rw[FZ]at h ⊢;by_cases e:(Bf vars next s).2=0
  .rw[UV e]at h ⊢;by_cases b:(Ct vars next l).2=0
   .rw[UV b];obtain⟨d,c⟩:=Xj b;grind
   grind
  grind
variable {x:Int}
theorem Zl{a1 a2:Int}(a:a1<=x)(b:x<=a2)(c:Int):(a1*c<=x*c/\x*c<=a2*c)∨(a2*c<=x*c/\x*c<=a1*c):=by
 rcases Int.le_total 0 c with h|h
 all_goals simp_all[Int.mul_le_mul_of_nonneg_right,Int.mul_le_mul_of_nonpos_right]
theorem Arb{a1 a2 b1 b2 y:Int}(f:a1<=x)(a:x<=a2)(g:b1<=y)(i:y<=b2):GZ false (a1*b1) [(.i64,a1*b2),(.i64,a2*b1),(.i64,a2*b2)]<=x*y/\x*y<=GZ true (a1*b1) [(.i64,a1*b2),(.i64,a2*b1),(.i64,a2*b2)]:=by have k:=Zl f a b1;have l:=Zl f a b2;have h:=Zl g i x;rw[az b1 x,az b2 x,az y x]at h;generalize x*y=p at *;generalize x*b1=j at *;generalize x*b2=m at *;generalize a1*b1=c at *;generalize a1*b2=e at *;generalize a2*b1=d at *;generalize a2*b2=b at *;show min (min (min c e) d) b<=p/\p<=max (max (max c e) d) b;omega
theorem Arc{y:Int}(h:1<=y):0<=opF 17 x y/\opF 17 x y<=y-1:=by show 0<=(x.tmod y+y).tmod y/\(x.tmod y+y).tmod y<=y-1;have m:=UA (x:=x) h;have b:=Int.tmod_nonneg (a:=x.tmod y+y) y (by omega);have c:(x.tmod y+y).tmod y<y:=Int.tmod_lt_of_pos _ (by omega);omega
end
structure Su(L:Ac)(n0:Int)(t:Ae)(y:Af):Prop where
 tr:y.Bool=true->J5 L n0 t (D3 L t).1
 nu:y.Bool=false->PG L n0 t (D3 L t).2
 rg:y.Bool=false->∀a v,(D3 L t).2 a=some v->y.Lo<=v/\v<=y.Hi
 tt:y.Bool=false->∀a,EA L false L.Aa.length a=true->EA L true L.Aa.length a=true->∃v,(D3 L t).2 a=some v
theorem Ali{L:Ac}{n0:Int}(hL:Ku L)(hfit:2*CR L<=n0)(h8:2*CR L<=8)(hv:L.Aa.length<=1000){t:Ae}(ok:Yk t)(hs:DV t<=40)(hT:∀k∈t.qZ,TyR (Bf L.Aa true k).1)(ks:∀k∈t.qZ,Su L n0 k (Bf L.Aa true k).1)(u:(Cp L.Aa true t (t.qZ.map λk=>(Bf L.Aa true k).1)).2=0):Su L n0 t (Cp L.Aa true t (t.qZ.map λk=>(Bf L.Aa true k).1)).1:=by
 obtain⟨o1,o18,l4,l5,l64,l8,l18⟩:=ok.len;have j:=YA (L:=L) t;have dep:∀k∈t.qZ,SD 8 (D3 L k):=λk _=>Afu hL.toJf h8 _ k (a9 _);have vd:∀k∈t.qZ,VD 8 (D3 L k).2:=λk s a b e=>(dep k s a b e).2;have vb:∀k∈t.qZ,(Bf L.Aa true k).1.Bool=false->VB (D3 L k).2:=λk s Y a n e=>by have K:=(ks k s).rg Y a n e;obtain⟨r1,r2,r3,_⟩:=hT k s;omega
 have sp:∀{lo O:Int}{V:B.As->Option Int},Cp L.Aa true t (t.qZ.map λk=>(Bf L.Aa true k).1)=Fe lo O->(D3 L t).2=V->PG L n0 t V->(∀a v,V a=some v->lo<=v/\v<=O)->(∀a,EA L false L.Aa.length a=true->EA L true L.Aa.length a=true->∃v,V a=some v)->Su L n0 t (Cp L.Aa true t (t.qZ.map λk=>(Bf L.Aa true k).1)).1:=λ{lo O V}J e2 K W h3=>by rw[J]at u ⊢;rw[(ZW u).2];exact⟨λh=>qG h an,λ_=>e2.symm▸K,λ_=>e2.symm▸W,λ_=>e2.symm▸h3⟩
 have N:∀{F:B.Fn},Cp L.Aa true t (t.qZ.map λk=>(Bf L.Aa true k).1)=(N6,0)->(D3 L t).1=F->J5 L n0 t F->Su L n0 t (Cp L.Aa true t (t.qZ.map λk=>(Bf L.Aa true k).1)).1:=λ{F}J e2 K=>by rw[J];exact⟨λ_=>e2.symm▸K,λh=>qG h.symm an,λh=>qG h.symm an,λh=>qG h.symm an⟩
 have iT:∀{p:Prop}[Decidable p]{α:Type}{x y z:α},p->x=z->(if p then x else y)=z:=λh e=>(UV h).trans e;have d:∀{p:Prop}[Decidable p]{α:Type}{x y z:α},¬p->y=z->(if p then x else y)=z:=λh e=>(GT h).trans e;rcases(show t.Op=1∨t.Op=2∨(t.Op=3∨t.Op=4)∨(5<=t.Op/\t.Op<=9)∨t.Op=18∨(t.Op=10∨t.Op=11)∨(t.Op=12∨t.Op=13)∨t.Op=17∨(t.Op=14∨t.Op=15∨t.Op=16) by omega) with o|o|o|o|o|o|o|o|o
 .refine sp (lo:=t.N) (O:=t.N) (V:=λ_=>some t.N) (by unfold Cp;exact UV o) (by rw[j];unfold opN;exact UV o) ?_ (λa v e=>by cases e;omega) λa _ _=>⟨_,rfl⟩
  intro wb b M0 M lv H X Q w hn hl hS P;have sz:=Pb t;exact R1 o w (by omega) (by omega) hS λM' lv' H' r m k hr e nd z hm' nx=>P M' lv' H' r m k hr e nd z (by omega) (by omega)
 .exact N (F:=λ_=>decide (t.N=1)) (by unfold Cp;exact d (by omega) (UV o)) (by rw[j];unfold opT;exact UV o) (Ah5 o)
 .have E:Cp L.Aa true t (t.qZ.map λk=>(Bf L.Aa true k).1)=R5 L.Aa t.Op t.qJ true:=by unfold Cp;exact d (by omega) (d (by omega) (UV o))
  rw[E]at u;unfold R5 at u;by_cases O:Cl L.Aa t.qJ<L.Aa.length
  .rw[a5 O]at u;dsimp only at u;rw[GT (by rintro⟨_,h⟩;cases h)]at u;have l:R5 L.Aa t.Op t.qJ true=if L.Aa[Cl L.Aa t.qJ].Bool=true then (N6,0) else Fe L.Aa[Cl L.Aa t.qJ].Lo L.Aa[Cl L.Aa t.qJ].Hi:=by unfold R5;rw[a5 O];exact GT (by rintro⟨_,h⟩;cases h)
   by_cases Y:L.Aa[Cl L.Aa t.qJ].Bool=true
   .exact N (by rw[E,l,UV Y]) (by rw[j];unfold opT;exact d (by omega) (UV o)) (Ak1 hL hfit o O Y)
   .have he':(Cp L.Aa true t (t.qZ.map λk=>(Bf L.Aa true k).1)).2=0:=by rw[E,l,GT Y];rw[GT Y]at u;exact u
    refine sp (lo:=L.Aa[Cl L.Aa t.qJ].Lo) (O:=L.Aa[Cl L.Aa t.qJ].Hi) (V:=Jk L (decide (t.Op=4)) (Cl L.Aa t.qJ)) (by rw[E,l,GT Y]) (by rw[j];unfold opN;exact d (by omega) (UV o)) ?_ (λa v e=>?_) λa U T=>?_
    .intro wb b M0 M lv H X Q w hn hl hS P;have sz:=Pb t;exact TB hL hfit o O w (by omega) (by omega) hS λM' lv' H' r m k hr e nd z hm' nx=>P M' lv' H' r m k hr e nd z (by omega) (by omega)
    .have:=((Jx hL O).1 e).1;rw[show E8 L.Aa[Cl L.Aa t.qJ]=L.Aa[Cl L.Aa t.qJ].Lo from GT Y,show NF L.Aa[Cl L.Aa t.qJ]=L.Aa[Cl L.Aa t.qJ].Hi from GT Y]at this;exact this
    .refine Option.isSome_iff_exists.1 ?_;by_cases e4:t.Op=4
     .rw[decide_eq_true e4];exact(OS hL).1 T _ O
     .rw[decide_eq_false e4];exact(OS hL).1 U _ O
  .rw[ak (by omega)]at u;exact qG (show (12:Int)=0 from u) (by decide)
 .have E:Cp L.Aa true t (t.qZ.map λk=>(Bf L.Aa true k).1)=KA (t.qZ.map λk=>(Bf L.Aa true k).1):=by unfold Cp;exact d (by omega) (d (by omega) (d (by omega) (UV o)))
  rw[E]at u;have hall:(t.qZ.map λk=>(Bf L.Aa true k).1).all (·.Bool)=true:=a7 λh=>by unfold KA at u;rw[GT h]at u;exact qG u (by decide)
  have s:∀i(h:i<t.qZ.length),J5 L n0 t.qZ[i] (Rh (Hv L t.qZ) i):=λi h=>by rw[Afq h];have I:=ad h;exact(@Su.tr _ _ _ _ (ks _ I) (b5.1 hall _ (ap.2 ⟨_,I,rfl⟩)))
  have R:Cp L.Aa true t (t.qZ.map λk=>(Bf L.Aa true k).1)=(N6,0):=by rw[E];unfold KA;exact UV hall
  have t1:=Afm (t:=t) (Fs:=Rh (Hv L t.qZ)) s l64;rcases(show t.Op=5∨t.Op=6∨t.Op=7∨t.Op=8∨t.Op=9 by omega) with e|e|e|e|e
  .exact N R (by rw[j];unfold opT;exact d (by omega) (d (by omega) (UV e))) ((t1.1 e (l5 e)))
  .exact N R (by rw[j];unfold opT;exact d (by omega) (d (by omega) (d (by omega) (UV e)))) ((t1.2.1 e))
  .exact N R (by rw[j];unfold opT;exact d (by omega) (d (by omega) (d (by omega) (d (by omega) (UV e))))) ((t1.2.2.1 e))
  .exact N R (by rw[j];unfold opT;exact d (by omega) (d (by omega) (d (by omega) (d (by omega) (d (by omega) (UV e)))))) (((Afl (Fs:=Rh (Hv L t.qZ)) s (l8 (by omega) (by omega))).1 e))
  .exact N R (by rw[j];unfold opT;exact d (by omega) (d (by omega) (d (by omega) (d (by omega) (d (by omega) (d (by omega) (UV e))))))) (((Afl (Fs:=Rh (Hv L t.qZ)) s (l8 (by omega) (by omega))).2 e))
 .obtain⟨g,f,G,s⟩:=kl3 (l18 o);have E:Cp L.Aa true t (t.qZ.map λk=>(Bf L.Aa true k).1)=ifE (t.qZ.map λk=>(Bf L.Aa true k).1):=by unfold Cp;exact d (by omega) (d (by omega) (d (by omega) (d (by omega) (UV o))))
  rw[E,s]at u;have u:(if ¬(Bf L.Aa true g).1.Bool=true∨(Bf L.Aa true f).1.Bool≠(Bf L.Aa true G).1.Bool then (Sz,(13:Int)) else if (Bf L.Aa true f).1.Bool=true then ((Bf L.Aa true f).1,0) else Fe (GZ false (Bf L.Aa true f).1.Lo [(.i64,(Bf L.Aa true G).1.Lo)]) (GZ true (Bf L.Aa true f).1.Hi [(.i64,(Bf L.Aa true G).1.Hi)])).2=0:=u;by_cases c:¬(Bf L.Aa true g).1.Bool=true∨(Bf L.Aa true f).1.Bool≠(Bf L.Aa true G).1.Bool
  .rw[UV c]at u;exact qG u (by decide)
  rw[GT c]at u;have S:(Bf L.Aa true g).1.Bool=true:=a7 λh=>c (.inl h);have bc:(Bf L.Aa true G).1.Bool=(Bf L.Aa true f).1.Bool:=(a7 λh=>c (.inr h):(Bf L.Aa true f).1.Bool=(Bf L.Aa true G).1.Bool).symm;have D:g∈t.qZ:=by rw[s];simp
  have C:f∈t.qZ:=by rw[s];simp
  have mc:G∈t.qZ:=by rw[s];simp
  have Z:Rh (Hv L t.qZ) 0=(D3 L g).1:=by rw[s,HO];rfl
  have l:Cp L.Aa true t (t.qZ.map λk=>(Bf L.Aa true k).1)=if (Bf L.Aa true f).1.Bool=true then ((Bf L.Aa true f).1,0) else Fe (GZ false (Bf L.Aa true f).1.Lo [(.i64,(Bf L.Aa true G).1.Lo)]) (GZ true (Bf L.Aa true f).1.Hi [(.i64,(Bf L.Aa true G).1.Hi)]):=by rw[E,s];exact GT c
  by_cases A:(Bf L.Aa true f).1.Bool=true
  .rw[UV A]at l;have hkk:∀i(h:i<t.qZ.length),J5 L n0 t.qZ[i] (Rh (Hv L t.qZ) i):=λi h=>by
    rw[Afq h];have I:=ad h;refine @Su.tr _ _ _ _ (ks _ I) ?_;generalize t.qZ[i]=k at I;rw[s]at I;rcases aw.1 I with rfl|I
    .exact S
    rcases aw.1 I with rfl|I
    .exact A
    rw[List.mem_singleton]at I;rw[I,bc];exact A
   exact N (by rw[l,(hT f C).2.2.2 A]) (by rw[j];unfold opT;exact d (by omega) (d (by omega) (d (by omega) (d (by omega) (d (by omega) (d (by omega) (d (by omega) (UV o)))))))) (((Afm (Fs:=Rh (Hv L t.qZ)) hkk l64).2.2.2 o (l18 o)))
  .rw[GT A]at l;have A:(Bf L.Aa true f).1.Bool=false:=by simpa using A
   have J:svV (Hv L t.qZ) 1=(D3 L f).2:=by rw[s,HO];rfl
   have e2:svV (Hv L t.qZ) 2=(D3 L G).2:=by rw[s,HO];rfl
   refine sp l (V:=ifV (D3 L g).1 (D3 L f).2 (D3 L G).2) (by rw[j];unfold opN;rw[Z,J,e2];exact d (by omega) (d (by omega) (UV o))) (Av9 o s (((ks g D).tr S)) (((ks f C).nu A)) (((ks G mc).nu (bc.trans A))) hs) (λa v e=>?_) λa U T=>?_
   .show min (Bf L.Aa true f).1.Lo (Bf L.Aa true G).1.Lo<=v/\v<=max (Bf L.Aa true f).1.Hi (Bf L.Aa true G).1.Hi;unfold ifV at e;split at e
    .have:=(ks f C).rg A a v e;omega
    .have:=(ks G mc).rg (bc.trans A) a v e;omega
   .unfold ifV;split
    .exact(ks f C).tt A a U T
    .exact(ks G mc).tt (bc.trans A) a U T
 .obtain⟨g,f,s⟩:=kl2 (l8 (by omega) (by omega));have E:Cp L.Aa true t (t.qZ.map λk=>(Bf L.Aa true k).1)=eqE (t.qZ.map λk=>(Bf L.Aa true k).1):=by unfold Cp;exact d (by omega) (d (by omega) (d (by omega) (d (by omega) (d (by omega) (UV o)))))
  rw[E,s]at u;have u:(if (Bf L.Aa true g).1.Bool≠(Bf L.Aa true f).1.Bool then (Sz,(13:Int)) else (N6,0)).2=0:=u;by_cases c:(Bf L.Aa true g).1.Bool≠(Bf L.Aa true f).1.Bool
  .rw[UV c]at u;exact qG u (by decide)
  have c':(Bf L.Aa true g).1.Bool=(Bf L.Aa true f).1.Bool:=aa.1 c;have l:Cp L.Aa true t (t.qZ.map λk=>(Bf L.Aa true k).1)=(N6,0):=by rw[E,s];exact GT c
  have D:g∈t.qZ:=by rw[s];simp
  have C:f∈t.qZ:=by rw[s];simp
  have q:=Auu (n0:=n0) s hv (ok.k g D) hs o;have hkB:A0u L t.qZ=(Bf L.Aa true g).1.Bool:=by rw[s];rfl
  by_cases A:(Bf L.Aa true g).1.Bool=true
  .have Z:Rh (Hv L t.qZ) 0=(D3 L g).1:=by rw[s,HO];rfl
   have J:Rh (Hv L t.qZ) 1=(D3 L f).1:=by rw[s,HO];rfl
   exact N l (by rw[j];unfold opT;rw[Z,J];exact d (by omega) (d (by omega) (d (by omega) (d (by omega) (d (by omega) (d (by omega) (d (by omega) (d (by omega) (UV ⟨o,by rw[hkB];exact A⟩))))))))) ((q.2 _ _ ((ks g D).tr A) ((ks f C).tr (c'.symm.trans A)) A))
  .have bb':(Bf L.Aa true g).1.Bool=false:=by simpa using A
   have Z:svV (Hv L t.qZ) 0=(D3 L g).2:=by rw[s,HO];rfl
   have J:svV (Hv L t.qZ) 1=(D3 L f).2:=by rw[s,HO];rfl
   have eo:Aca t.Op=λx y=>decide (x=y)==decide (decide (t.Op=10)=true):=by funext x y;unfold Aca;exact d (by omega) (GT (by omega))
   exact N l (by rw[j];unfold opT;rw[Z,J,eo];exact d (by omega) (d (by omega) (d (by omega) (d (by omega) (d (by omega) (d (by omega) (d (by omega) (d (by omega) (GT λh=>A (by rw[<-hkB];exact h.2)))))))))) ((q.1 _ _ ((ks g D).nu bb') ((ks f C).nu (c'.symm.trans bb')) bb'))
 all_goals
  obtain⟨g,f,s⟩:=kl2 (l8 (by omega) (by omega))
  have E:Cp L.Aa true t (t.qZ.map λk=>(Bf L.Aa true k).1)=Aq2 t.Op t.qZ (t.qZ.map λk=>(Bf L.Aa true k).1):=by unfold Cp;exact d (by omega) (d (by omega) (d (by omega) (d (by omega) (d (by omega) (GT (by omega))))))
  rw[E,s]at u
  have u:(if (Bf L.Aa true g).1.Bool=true∨(Bf L.Aa true f).1.Bool=true then (Sz,(13:Int)) else if t.Op=12∨t.Op=13 then (N6,0) else if t.Op=17 then Ai6 [g,f] else Oa t.Op (Bf L.Aa true g).1 (Bf L.Aa true f).1).2=0:=u
  have l:Cp L.Aa true t (t.qZ.map λk=>(Bf L.Aa true k).1)=if (Bf L.Aa true g).1.Bool=true∨(Bf L.Aa true f).1.Bool=true then (Sz,(13:Int)) else if t.Op=12∨t.Op=13 then (N6,0) else if t.Op=17 then Ai6 [g,f] else Oa t.Op (Bf L.Aa true g).1 (Bf L.Aa true f).1:=by rw[E,s];rfl
  by_cases c:(Bf L.Aa true g).1.Bool=true∨(Bf L.Aa true f).1.Bool=true
  .rw[UV c]at u;exact qG u (by decide)
  rw[GT c]at u l
  have S:(Bf L.Aa true g).1.Bool=false:=by have h:¬(Bf L.Aa true g).1.Bool=true:=λh=>c (.inl h);simpa using h
  have A:(Bf L.Aa true f).1.Bool=false:=by have h:¬(Bf L.Aa true f).1.Bool=true:=λh=>c (.inr h);simpa using h
  have D:g∈t.qZ:=by rw[s];simp
  have C:f∈t.qZ:=by rw[s];simp
  have Z:svV (Hv L t.qZ) 0=(D3 L g).2:=by rw[s,HO];rfl
  have J:svV (Hv L t.qZ) 1=(D3 L f).2:=by rw[s,HO];rfl
 .rw[UV o]at l;have q:=Ak2 (n0:=n0) s (((ks g D).nu S)) (((ks f C).nu A)) hs;have eT:(D3 L t).1=WR (Aca t.Op) (D3 L g).2 (D3 L f).2:=by rw[j];unfold opT;rw[Z,J];exact d (by omega) (d (by omega) (d (by omega) (d (by omega) (d (by omega) (d (by omega) (d (by omega) (d (by omega) (GT (by omega)))))))))
  rcases o with e|e
  .have eo:Aca t.Op=λx y=>decide (x<y):=by funext x y;unfold Aca;exact UV e
   rw[eo]at eT;exact N l eT ((q.1 e))
  .have eo:Aca t.Op=λx y=>decide (x<=y):=by funext x y;unfold Aca;exact d (by omega) (UV e)
   rw[eo]at eT;exact N l eT ((q.2 e))
 .have n12:¬(t.Op=12∨t.Op=13):=by omega
  rw[GT n12,UV o]at u l;have u:(if f.Op≠1∨f.N<1 then (Sz,(2:Int)) else Fe 0 (f.N-1)).2=0:=u;by_cases c2:f.Op≠1∨f.N<1
  .rw[UV c2]at u;exact qG u (by decide)
  have hp3:Cp L.Aa true t (t.qZ.map λk=>(Bf L.Aa true k).1)=Fe 0 (f.N-1):=l.trans (GT c2);have ob:f.Op=1:=a7 λh=>c2 (.inl h);have sb:(D3 L f).2=λ_=>some f.N:=by rw[YA];unfold opN;exact UV ob
  have hpos:1<=f.N:=by omega
  have I:∀a y,(D3 L f).2 a=some y->y=f.N:=λa y e=>by rw[sb]at e;cases e;rfl
  refine sp hp3 (V:=ZE (opF t.Op) (D3 L g).2 (D3 L f).2) (by rw[j];unfold opN;rw[Z,J];exact d (by omega) (d (by omega) (GT (by omega)))) (Agd (by omega) s (((ks g D).nu S)) (((ks f C).nu A)) hs (vd g D) (vd f C) (vb g D S) (vb f C A) λ_ a y e=>by rw[I a y e];exact hpos) (λa v e=>?_) λa U T=>?_
  .obtain⟨x,y,K,W,h3⟩:=Po.1 e;have:=I a y W;subst this;rw[<-h3,o];exact Arc hpos
  .obtain⟨x,hx⟩:=(ks g D).tt S a U T;obtain⟨y,hy⟩:=(ks f C).tt A a U T;exact⟨_,Po.2 ⟨x,y,hx,hy,rfl⟩⟩
 .have n12:¬(t.Op=12∨t.Op=13):=by omega
  have n17:¬t.Op=17:=by omega
  rw[GT n12,GT n17]at u l;have hrg:∀a v,ZE (opF t.Op) (D3 L g).2 (D3 L f).2 a=some v->∃x y,opF t.Op x y=v/\((Bf L.Aa true g).1.Lo<=x/\x<=(Bf L.Aa true g).1.Hi)/\((Bf L.Aa true f).1.Lo<=y/\y<=(Bf L.Aa true f).1.Hi):=λa v e=>by obtain⟨x,y,K,W,h3⟩:=Po.1 e;exact⟨x,y,h3,(ks g D).rg S a x K,(ks f C).rg A a y W⟩
  have hnu:PG L n0 t (ZE (opF t.Op) (D3 L g).2 (D3 L f).2):=Agd (by omega) s (((ks g D).nu S)) (((ks f C).nu A)) hs (vd g D) (vd f C) (vb g D S) (vb f C A) λh=>qG h n17;have htt:∀a,EA L false L.Aa.length a=true->EA L true L.Aa.length a=true->∃v,ZE (opF t.Op) (D3 L g).2 (D3 L f).2 a=some v:=λa U T=>by obtain⟨x,hx⟩:=(ks g D).tt S a U T;obtain⟨y,hy⟩:=(ks f C).tt A a U T;exact⟨_,Po.2 ⟨x,y,hx,hy,rfl⟩⟩
  have eV:(D3 L t).2=ZE (opF t.Op) (D3 L g).2 (D3 L f).2:=by rw[j];unfold opN;rw[Z,J];exact d (by omega) (d (by omega) (GT (by omega)))
  rcases o with e|e|e
  .refine sp (l.trans (by unfold Oa;exact d (by omega) (UV e))) eV (@hnu) (λa v h=>?_) htt;obtain⟨x,y,rfl,K,W⟩:=hrg a v h;rw[e];show _<=x+y/\x+y<=_;omega
  .refine sp (l.trans (by unfold Oa;exact UV e)) eV (@hnu) (λa v h=>?_) htt;obtain⟨x,y,rfl,K,W⟩:=hrg a v h;rw[e];show _<=x-y/\x-y<=_;omega
  .refine sp (l.trans (by unfold Oa;exact d (by omega) (GT (by omega)))) eV (@hnu) (λa v h=>?_) htt;obtain⟨x,y,rfl,K,W⟩:=hrg a v h;rw[e];exact Arb K.1 K.2 W.1 W.2
theorem Alj{L:Ac}{n0:Int}(h:Ku L)(a:2*CR L<=n0)(i:2*CR L<=8)(g:L.Aa.length<=1000):∀(z:Nat)(t:Ae),SizeOf.sizeOf t<z->Yk t->DV t<=40->(Bf L.Aa true t).2=0->Su L n0 t (Bf L.Aa true t).1
 |0,_,d,_,_,_=>qG d (ab _)
 |z+1,t,d,j,l,c=>by
  rw[Yx]at c ⊢;by_cases e:(Ct L.Aa true t.qZ).2=0
  .rw[UV e]at c ⊢;obtain⟨m,f⟩:=Xj e;rw[m]at c ⊢;exact Ali h a i g j l (λk b=>SH _ k (a9 _) (f k b)) (λk b=>Alj h a i g z k (by have:=Ms b;omega) (j.k k b) (by have:=Afp b;omega) (f k b)) c
  grind
section
variable {t:Ae}
theorem Akx{vars:List Ar}{next:Bool}(h:(Nq vars next t).2=0):Yk t/\(Bf vars next t).2=0/\Nq vars next t=Bf vars next t:=by
 unfold Nq at h ⊢;by_cases e:(GX 1 0 t).2=0
 .rw[UV e]at h ⊢;exact⟨Z5 _ t 1 0 (a9 _) e,h,rfl⟩
 grind
theorem Avb{L:Ac}{n0:Int}(d:Ku L)(a:2*CR L<=n0)(c:2*CR L<=8)(b:L.Aa.length<=1000)(hs:DV t<=40)(h:(Nq L.Aa true t).2=0):Su L n0 t (Nq L.Aa true t).1:=by obtain⟨o,e,r⟩:=Akx h;rw[r];exact Alj d a c b _ t (a9 _) o hs e
theorem Apr{b:Nat}{M:Mn}{L:Ac}{H:HY}{X:PX}{Q:Int×Int×Unit->UU}(hM:MG H b M)(hn:M.nx+((1000000000*DV t:Nat):Int)<576460752303410000)(hl:M.hs.length+1025*DV t<=59000)(hL:Ku L)(hfit:2*CR L<=M.S.n)(h8:2*CR L<=8)(hv:L.Aa.length<=1000)(hs:DV t<=40)(he:(Nq L.Aa true t).2≠0->∀H',MG H' b M->Q (0,(Nq L.Aa true t).2,()) () H')(hb:(Nq L.Aa true t).2=0->(Nq L.Aa true t).1.Bool=false->∀H',MG H' b M->Q (0,13,()) () H')(h0:(Nq L.Aa true t).2=0->(Nq L.Aa true t).1.Bool=true->∀M' H' r,MG H' b M'->Got M M' r (D3 L t).1->M'.nx<=M.nx+((1000000000*DV t:Nat):Int)->Q (r,0,()) () H'):qK Akf Aez (some b,L,t,()) H Q X:=by
 refine wF Tryz.f12 {im:=[4,5]} (?_:qK JO HB ((some b),L,()) H (λ(a:Option Nat×Int×UT)_ G=>(¬a.2.1=0->Q (0,a.2.1,()) () G)/\(¬¬a.2.1=0->qK Fx Ey (L.Aa,t,true,()) G (λ(b1:Af×Int×UT)_ G=>(¬b1.2.1=0->Q (0,b1.2.1,()) () G)/\(¬¬b1.2.1=0->(¬b1.1.Bool->Q (0,13,()) () G)/\(¬¬b1.1.Bool->qK Ed Dq (a.1,t,()) G (λ(b2:Int×UT)_ G=>qK J2 GL (a.1,[b2.1],()) G (λ(a:Int×UT)_ G=>Q (b2.1,a.1,()) () G) X) X))) X)) X);refine Lw hM hL.toJf (λhlt=>by omega) λ_ wb H0 hwb w0 f0=>⟨λhh=>qG rfl hh,λ_=>PL hv λH1 fT=>⟨λhh=>?_,λhh=>⟨λhh2=>?_,λhh2=>?_⟩⟩⟩
 all_goals have w:=w0.KK fT
 .exact he hh H1 w.mg
 .exact hb (aa.1 hh) (by grind) H1 w.mg
 .have e0:(Nq L.Aa true t).2=0:=aa.1 hh;have eb:(Nq L.Aa true t).1.Bool=true:=aa.1 hh2;have tr:=@Su.tr _ _ _ _ (Avb hL hfit h8 hv hs e0) eb;refine tr w (by omega) (by omega) rfl λM2 lv2 H2 r k2 nx2=>?_;exact T6 k2.w (by omega) (by simp) λM3 H3 g3 e3 f3=>h0 e0 eb M3 H3 r g3 (Got.Av1 k2 e3) (by rw[e3.nx];omega)
end
section
set_option maxRecDepth 100000
set_option maxHeartbeats 2000000
def Adz(v:Ar)(H:HY)(Q:Int×UT->UU)(_:PX):=(v.Bool->Q (0,()) () H)/\(¬v.Bool->Q (v.Lo,()) () H)
theorem Akg v H Q X(h_:Adz v H Q X):qK Uv P7 (v,()) H Q X:=wF Tryz.f66 {im:=[1]} h_
end
section
variable {v:Ar}
theorem PW(h:v.Bool=true):E8 v=0:=UV h
theorem XN(h:v.Bool=true):NF v=1:=UV h
theorem PV(h:¬v.Bool=true):E8 v=v.Lo:=GT h
theorem XM(h:¬v.Bool=true):NF v=v.Hi:=GT h
theorem Aic{L:Ac}(c:Jf L){i j:Nat}(hi:i<L.Aa.length)(b:i<L.Bits.length)(d:j<L.Bits[i].toNat){next:Bool}:(Cu L i next)[j]?=some (2*(D0 L.Bits i+(j:Int))+if next=true then 1 else 0):=by
 have a:i<L.At.length:=by rw[c.la];exact hi
 have e:(Mq L i)[j]?=some (2*(D0 L.Bits i+(j:Int))):=by unfold Mq;rw[bg,a5 b,a5 a,av,av,List.getElem?_range d,c.at_ i a];rfl
 grind[Cu]
theorem Ann{yes:Bool}{v:Nat}{H:HY}{X:PX}{Q:List Bool×Unit->UU}(y:v<=20)(h:∀l:List Bool,l.length=2^v->Q (l,()) () H):qK Wa Qn (yes,(v:Int),()) H Q X:=by
 refine wF Tryz.f46 {lp:=[(8,⟨[(7,.one (.own .bool)),(8,.nat)],[0,5,7],false⟩),(3,⟨[(5,.one (.dat I6)),(6,.nat)],[0,1],false⟩)]} (?_:∃(V:Nat->Int×Nat×UT->Prop),(∃(n:Nat),H=H/\V n (1,0,()))/\∀n x,V n x->((↑x.2.1:Int)<(v:Int)->IK x.1->IK (2*x.1)/\x.2.1+1<=2^63-1/\∃m,m<n/\H=H/\V m (2*x.1,x.2.1+1,()))/\(¬(↑x.2.1:Int)<(v:Int)->IK x.1->IK x.1->0<=x.1/\x.1=x.1/\x.1.toNat*1<=281474976710656/\∃(V:Nat->List Bool×Nat×UT->Prop),(∃(n:Nat),H=H/\V n (ag x.1.toNat false,0,()))/\∀n x1,V n x1->((↑x1.2.1:Int)<x.1->x1.2.1<=2^63-1->∃(h:x1.2.1<x1.1.length),x1.2.1<x1.1.length/\x1.2.1+1<=2^63-1/\∃m,m<n/\H=H/\V m (x1.1.set x1.2.1 yes,x1.2.1+1,()))/\(¬(↑x1.2.1:Int)<x.1->Q (x1.1,()) () H)));refine⟨λm z=>m=v-z.2.1/\z.2.1<=v/\z.1=2^z.2.1,⟨_,rfl,rfl,a6 _,rfl⟩,?_⟩;rintro m ⟨x,k,_⟩ ⟨n,p,b⟩;have C:m=v-k:=n;have A:k<=v:=p;have d:x=2^k:=b;have r:(2:Int)^k<=1048576/\0<=(2:Int)^k:=by have:(2:Nat)^k<=2^20:=ba (by omega) (by omega);grind
 refine⟨λa _=>?_,λa=>?_⟩
 .have a:(k:Int)<(v:Int):=a;refine⟨A7.2 (by omega),by grind,v-(k+1),by omega,rfl,rfl,by grind,?_⟩;show 2*x=2^(k+1);rw[d,bq,az]
 .have a:¬(k:Int)<(v:Int):=a;have e:k=v:=by omega
  subst e;have g:x.toNat=2^k:=by grind
  have b:0<=x:=by omega
  have u:x<=1048576:=by omega
  refine λ_ _=>⟨b,rfl,by omega,?_⟩
  refine⟨λm z=>m=x.toNat-z.2.1/\z.2.1<=x.toNat/\z.1.length=x.toNat,⟨_,rfl,rfl,a6 _,List.length_replicate⟩,?_⟩;rintro s ⟨l,j,_⟩ ⟨i,f,o⟩;have w:s=x.toNat-j:=i;have B:j<=x.toNat:=f;have q:l.length=x.toNat:=o;refine⟨λa _=>?_,λt=>?_⟩
  .have a:(j:Int)<x:=a;have c:j<l.length:=by omega
   refine⟨c,c,by grind,x.toNat-(j+1),by omega,rfl,rfl,by grind,?_⟩;grind
  grind
theorem A1u{a:BH}{H:HY}{X:PX}{Q:Int×Unit->UU}(s:Ayr a)(h:Q (((2^(2*GC a.Aa).toNat:Nat):Int),()) () H):qK TV Nk (a,()) H Q X:=by
 refine wF Tryz.f15 {im:=[1]} (?_:qK FM Eh (a.Aa,()) H (λ(b:Int×UT)_ G=>IK b.1->IK (2*b.1)/\qK Wa Qn (true,2*b.1,()) G (λ(b:List Bool×UT)_ G=>b.1.length<=2^63-1->Q ((↑b.1.length:Int),()) () G) X) X);have e:=s.t;have f:=s.n;refine PR (by omega) λ_ _ _=>⟨A7.2 (by omega),?_⟩
 obtain⟨v,d⟩:=Int.eq_ofNat_of_zero_le (show 0<=2*GC a.Aa by omega);have b:v<=20:=by omega
 show qK Wa Qn (true,2*GC a.Aa,()) H _ X;grind[Ann]
end
theorem Apo{a:B.As}:∀{l:List Int}{j:Nat}(h:j<l.length),CE a (l.take (j+1))=CE a (l.take j)+(if a l[j]=true then 2^j else 0)
 |v::l,0,_=>by show (if a v=true then 1 else 0)+2*0=0+(if a v=true then 2^0 else 0);split<;>rfl
 |v::l,j+1,h=>by
  have b:j<l.length:=by grind
  have c:=Apo (a:=a) (l:=l) (j:=j) b;rw[bf,bf,Lt,Lt,c];grind
def rdV(l:List Ar)(a:B.As)(next:Bool)(L:Ac)(i:Nat):Int:=(l[i]?.map E8).getD 0+(CE a (Cu L i next):Int)
noncomputable def rdB(l:List Ar)(a:B.As)(next:Bool)(L:Ac)(i:Nat):Bool:=decide ((CE a (Cu L i next):Int)<(l[i]?.map BL).getD 0)
def RdI(a:B.As)(v:List Int)(s:List Int)(is:List Bool)(b K:Nat)(m:Nat)(z:List Int×List Bool×Nat×Int×Int×Nat×Unit):Prop:=m=K-z.2.2.2.2.2.1/\z.2.2.2.2.2.1<=K/\z.1=s/\z.2.1=is/\z.2.2.1=b+z.2.2.2.2.2.1/\z.2.2.2.1=(CE a (v.take z.2.2.2.2.2.1):Int)/\z.2.2.2.2.1=2^z.2.2.2.2.2.1
theorem Alo{v:Ar}{H:HY}{X:PX}{Q:Int×Unit->UU}(h:Q (E8 v,()) () H):qK Uv P7 (v,()) H Q X:=by grind[Akg,Adz,PW,PV]
theorem Akc{l:List Ar}{k N:Nat}{next:Bool}{H:HY}{X:PX}{Q:List Int×List Bool×Unit->UU}(hv:OT l)(hl:l.length<=64)(ht:GC l<=15)(hN:2*GC l<=N)(hk:k<=1000000)(h:Q ((ac l.length).map (rdV l (asN N k) next (Dg l)),(ac l.length).map (rdB l (asN N k) next (Dg l)),()) () H):qK Xo Tu (l,(k:Int),next,()) H Q X:=by
 have hL:Ku (Dg l):=Zv hv hl;have sb:∀i(hi:i<l.length),0<=D0 (Ck l) i/\D0 (Ck l) i+(EC (BL l[i]):Int)<=GC l:=λi hi=>by
  have h1:=hL.toJf.sum (k:=i) (by show i<=(Ck l).length;grind[Du]);have U:=hL.toJf.NP (j:=i+1) (k:=(Ck l).length) (by grind[Du]) (Nat.le_refl _);rw[show (Dg l).Bits=Ck l from rfl,Eo (by grind[Du]),Iy hi]at U;have h3:GC l=D0 (Ck l) (Ck l).length:=by unfold GC;rw[Du]
  exact⟨h1.1,by omega⟩
 refine wF Tryz.f19 {lp:=[(8,⟨[(8,.one (.own I6)),(9,.one (.own .bool)),(10,.nat),(12,.one (.dat I6)),(13,.one (.dat I6)),(14,.nat)],[0,1,2,8,9,11],false⟩),(4,⟨[(8,.one (.own I6)),(9,.one (.own .bool)),(10,.nat),(11,.nat)],[0,1,2],false⟩)]} (?_:∃(V:Nat->List Int×List Bool×Nat×Nat×UT->Prop),(∃(n:Nat),H=H/\V n ([],[],0,0,()))/\∀n x,V n x->l.length<=2^63-1->(x.2.2.2.1<l.length->∃(V1:Nat->List Int×List Bool×Nat×Int×Int×Nat×UT->Prop),(∃(n:Nat),H=H/\V1 n (x.1,x.2.1,x.2.2.1,0,1,0,()))/\∀n1 x1,V1 n1 x1->x.2.2.2.1<=2^63-1->∃(h:x.2.2.2.1<l.length),qK BT BE (l[x.2.2.2.1],()) H (λ(b:Int×UT)_ G=>qK JX Gi (b.1,()) G (λ(b:Int×UT)_ G=>((↑x1.2.2.2.2.2.1:Int)<b.1->x1.2.2.1<=2^63-1->IK (2*(↑x1.2.2.1:Int))/\(next->IK (2*(↑x1.2.2.1:Int))->IK (2*(↑x1.2.2.1:Int)+1)/\qK Jp FG ((k:Int),2*(↑x1.2.2.1:Int)+1,()) G (λ(b:Bool×UT)_ G=>(b.1->IK x1.2.2.2.1->IK x1.2.2.2.2.1->IK (x1.2.2.2.1+x1.2.2.2.2.1)/\(IK x1.2.2.2.2.1->IK (2*x1.2.2.2.2.1)/\x1.2.2.1+1<=2^63-1/\x1.2.2.2.2.2.1+1<=2^63-1/\∃m,m<n1/\G=H/\V1 m (x1.1,x1.2.1,x1.2.2.1+1,x1.2.2.2.1+x1.2.2.2.2.1,2*x1.2.2.2.2.1,x1.2.2.2.2.2.1+1,())))/\(¬b.1->IK x1.2.2.2.2.1->IK (2*x1.2.2.2.2.1)/\x1.2.2.1+1<=2^63-1/\x1.2.2.2.2.2.1+1<=2^63-1/\∃m,m<n1/\G=H/\V1 m (x1.1,x1.2.1,x1.2.2.1+1,x1.2.2.2.1,2*x1.2.2.2.2.1,x1.2.2.2.2.2.1+1,()))) X)/\(¬next->qK Jp FG ((k:Int),2*(↑x1.2.2.1:Int),()) G (λ(b:Bool×UT)_ G=>(b.1->IK x1.2.2.2.1->IK x1.2.2.2.2.1->IK (x1.2.2.2.1+x1.2.2.2.2.1)/\(IK x1.2.2.2.2.1->IK (2*x1.2.2.2.2.1)/\x1.2.2.1+1<=2^63-1/\x1.2.2.2.2.2.1+1<=2^63-1/\∃m,m<n1/\G=H/\V1 m (x1.1,x1.2.1,x1.2.2.1+1,x1.2.2.2.1+x1.2.2.2.2.1,2*x1.2.2.2.2.1,x1.2.2.2.2.2.1+1,())))/\(¬b.1->IK x1.2.2.2.2.1->IK (2*x1.2.2.2.2.1)/\x1.2.2.1+1<=2^63-1/\x1.2.2.2.2.2.1+1<=2^63-1/\∃m,m<n1/\G=H/\V1 m (x1.1,x1.2.1,x1.2.2.1+1,x1.2.2.2.1,2*x1.2.2.2.2.1,x1.2.2.2.2.2.1+1,()))) X))/\(¬(↑x1.2.2.2.2.2.1:Int)<b.1->x.2.2.2.1<=2^63-1->∃(h:x.2.2.2.1<l.length),qK Uv P7 (l[x.2.2.2.1],()) G (λ(b:Int×UT)_ G=>IK b.1->IK x1.2.2.2.1->IK (b.1+x1.2.2.2.1)/\(x1.1.length+[b.1+x1.2.2.2.1].length)*8<=2^47/\(x.2.2.2.1<=2^63-1->∃(h:x.2.2.2.1<l.length),qK BT BE (l[x.2.2.2.1],()) G (λ(b1:Int×UT)_ G=>(x1.2.1.length+[decide (x1.2.2.2.1<b1.1)].length)*1<=2^47/\x.2.2.2.1+1<=2^63-1/\∃m,m<n/\G=H/\V m (x1.1++[b.1+x1.2.2.2.1],x1.2.1++[decide (x1.2.2.2.1<b1.1)],x1.2.2.1,x.2.2.2.1+1,())) X)) X)) X) X)/\(¬x.2.2.2.1<l.length->Q (x.1,x.2.1,()) () H));refine⟨λm z=>m=l.length-z.2.2.2.1/\z.2.2.2.1<=l.length/\z.1=(ac z.2.2.2.1).map (rdV l (asN N k) next (Dg l))/\z.2.1=(ac z.2.2.2.1).map (rdB l (asN N k) next (Dg l))/\(z.2.2.1:Int)=D0 (Ck l) z.2.2.2.1,⟨_,rfl,rfl,a6 _,rfl,rfl,rfl⟩,?_⟩;rintro m ⟨s,is,b,i,_⟩ ⟨I,T,J,y,hb0⟩;have hm:m=l.length-i:=I;have hi:i<=l.length:=T;have hs:s=(ac i).map (rdV l (asN N k) next (Dg l)):=J;have D:is=(ac i).map (rdB l (asN N k) next (Dg l)):=y;have hb:(b:Int)=D0 (Ck l) i:=hb0;intro _;refine⟨λhlt0=>?_,λhge0=>?_⟩
 .have f:i<l.length:=hlt0;obtain⟨s0,s1⟩:=sb i f;have r:i<(Dg l).Bits.length:=by show i<(Ck l).length;grind[Du]
  have hK:((Dg l).Bits[i]).toNat=EC (BL l[i]):=by exact(congrArg a4 (Iy f)).trans (b4 _)
  have V:(Cu (Dg l) i next).length=EC (BL l[i]):=(Jt r).trans hK;have d:∀j,j<EC (BL l[i])->(Cu (Dg l) i next)[j]?=some (2*(D0 (Ck l) i+(j:Int))+if next=true then 1 else 0):=λj hj=>Aic hL.toJf f r (by omega);generalize hv:Cu (Dg l) i next=v at V d;generalize F:EC (BL l[i])=K at *;refine⟨RdI (asN N k) v s is b K,⟨_,rfl,rfl,a6 _,rfl,rfl,rfl,rfl,rfl⟩,?_⟩;rintro m2 ⟨u,o,g,n,c,j,_⟩ ⟨w,P,A,q,x,L,S⟩;have hm2:m2=K-j:=w;have hj:j<=K:=P;have hs':u=s:=A;have W:o=is:=q;have hb':g=b+j:=x;have G:n=(CE (asN N k) (v.take j):Int):=L;have ho:c=2^j:=S;subst hs' W;have O:(2:Nat)^j<=2^30:=ba (by omega) (by omega);have hcl:CE (asN N k) (v.take j)<2^j:=by have:=VU (a:=asN N k) (l:=v.take j);grind
  have ho1:c=((2^j:Nat):Int):=by rw[ho,Rt]
  have hob:0<=c/\c<=1073741824:=by omega
  have hnb:0<=n/\n<1073741824:=by omega
  have hsl:u.length<=64:=by grind
  have hisl:o.length<=64:=by grind
  refine λ_=>⟨f,HD (WA (Rj _).1 (Rj _).2 λ_ _=>⟨λp _=>?_,λp _=>?_⟩)⟩
  .have R:j<K:=by grind
   have Y:j<v.length:=by omega
   have d:=d j R;rw[a5 Y]at d;have d:v[j]=2*(D0 (Ck l) i+(j:Int))+if next=true then 1 else 0:=af d
   have Z:∀t:Bool,t=asN N k v[j]->(t=true->Bn .i64 n->Bn .i64 c->Bn .i64 (n+c)/\(Bn .i64 c->Bn .i64 (2*c)/\g+1<=9223372036854775807/\j+1<=9223372036854775807/\∃M,M<m2/\H=H/\RdI (asN N k) v u o b K M (u,o,g+1,n+c,2*c,j+1,())))/\
     (¬t=true->Bn .i64 c->Bn .i64 (2*c)/\g+1<=9223372036854775807/\j+1<=9223372036854775807/\∃M,M<m2/\H=H/\RdI (asN N k) v u o b K M (u,o,g+1,n,2*c,j+1,())):=λt ht=>by
    have hc:=Apo (a:=asN N k) Y
    have U:2*c=2^(j+1):=by rw[ho,bq,az]
    have i1:Bn .i64 (2*c):=A7.2 (by omega)
    refine⟨λC _ _=>⟨A7.2 (by omega),λ_=>⟨i1,by omega,by omega,K-(j+1),by omega,rfl,rfl,by grind,rfl,rfl,by show g+1=b+(j+1);omega,?_,U⟩⟩,λC _=>⟨i1,by omega,by omega,K-(j+1),by omega,rfl,rfl,by show j+1<=K;omega,rfl,rfl,by show g+1=b+(j+1);omega,?_,U⟩⟩
    all_goals grind
   refine⟨A7.2 (by show _<=2*(g:Int)/\2*(g:Int)<=_;omega),λB _=>⟨A7.2 (by show _<=2*(g:Int)+1/\2*(g:Int)+1<=_;omega),?_⟩,λB=>?_⟩
   .rw[UV B]at d;have e:(2*(g:Int)+1)=((2*g+1:Nat):Int):=by omega
    have e2:v[j]=((2*g+1:Nat):Int):=by rw[d];omega
    show qK Jp FG ((k:Int),2*(g:Int)+1,()) H _ X;rw[e];refine UO hk (by omega) ?_;exact Z _ (by rw[e2,A06 (by omega)])
   .rw[GT B]at d;have e:(2*(g:Int))=((2*g:Nat):Int):=by omega
    have e2:v[j]=((2*g:Nat):Int):=by rw[d];omega
    show qK Jp FG ((k:Int),2*(g:Int),()) H _ X;rw[e];refine UO hk (by omega) ?_;exact Z _ (by rw[e2,A06 (by omega)])
  .have R:¬j<K:=by rw[F]at p;exact λhh=>p (Int.ofNat_lt.2 hh)
   have hjK:j=K:=by omega
   subst hjK;have E:v.take j=v:=aq (by omega);rw[E]at G;have hlo:=(hL.fit i f r).2.2;have hlo1:-1152921504606846976<=E8 l[i]:=hlo.1;have hlo2:E8 l[i]<=1152921504606846976:=Int.le_trans (hL.fit i f r).1 hlo.2;have er:rdV l (asN N k) next (Dg l) i=E8 l[i]+n:=by unfold rdV;rw[hv,a5 f,G];rfl
   have eb:rdB l (asN N k) next (Dg l) i=decide (n<BL l[i]):=by unfold rdB;rw[hv,a5 f,G];rfl
   refine⟨f,Alo λ_ _=>⟨A7.2 (by show _<=E8 l[i]+n/\E8 l[i]+n<=_;omega),by show (u.length+1)*8<=_;omega,λ_=>⟨f,HD ⟨by show (o.length+1)*1<=_;omega,by show i+1<=_;omega,l.length-(i+1),by omega,rfl,rfl,by show i+1<=_;omega,?_,?_,?_⟩⟩⟩⟩
   .show u++[E8 l[i]+n]=(ac (i+1)).map _;rw[b7,al,<-hs];show _=u++[rdV l (asN N k) next (Dg l) i];rw[er]
   .show o++[decide (n<BL l[i])]=(ac (i+1)).map _;rw[b7,al,<-D];show _=o++[rdB l (asN N k) next (Dg l) i];rw[eb]
   .show (g:Int)=D0 (Ck l) (i+1);rw[Eo (by rw[Du];exact f),Iy f,F];omega
 grind
abbrev Rn:Bi:=⟨[.own I6,.dat I6],[.dat I6]⟩
def sgO:FuncId->Option Bi:=lkG ((173,Rn)::sgL)
section
set_option maxRecDepth 100000
set_option maxHeartbeats 2000000
def Ru(l:List Int)(H:HY)(Q:List Int×UT->UU)(_:PX):=l.length<=2^63-1->l.length<=2^63-1->l.length<=2^63-1->(0:Int)<=(↑l.length:Int)/\(↑l.length:Int)=(↑l.length:Int)/\(↑l.length:Int).toNat*8<=281474976710656/\0<=(ag (↑l.length:Int).toNat (0:Int)).length/\Q (List.take 0 (ag (↑l.length:Int).toNat (0:Int))++(List.take (min l.length ((ag (↑l.length:Int).toNat (0:Int)).length-0)) l++List.drop (0+min l.length ((ag (↑l.length:Int).toNat (0:Int)).length-0)) (ag (↑l.length:Int).toNat (0:Int))),()) () H
theorem YU l H Q X(h_:Ru l H Q X):qK KL IA (l,()) H Q X:=wF Tryz.f275 {} h_
def T9(l:List Int)(H:HY)(Q:List Int×UT->UU)(X:PX):=qK KL IA (l,()) H (λ(b:List Int×UT)_ G=>qK HJ E6 (b.1,()) G (λ(_:UT)(io:List Int×UT)(G:HY)=>Q (io.1,()) () G) X) X
theorem Aav l H Q X(h_:T9 l H Q X):qK Oy L6 (l,()) H Q X:=wF Tryz.f258 {} h_
def Abo(s:List Int)(v:Int)(H:HY)(Q:Int×UT->List Int×UT->HP)(_:PX):=s.length<=2^63-1->∃(V:Nat->List Int×Int×UT->Prop),(∃(n:Nat),H=H/\V n (s,0,()))/\∀n x,V n x->(x.2.1<(↑s.length:Int)->IK x.2.1->(IK x.2.1->0<=x.2.1)/\∃(h:x.2.1.toNat<x.1.length),∃(h:x.2.1.toNat<x.1.length),(v=x.1[x.2.1.toNat]->Q (x.2.1,()) (x.1,()) H)/\(¬v=x.1[x.2.1.toNat]->IK x.2.1->IK (x.2.1+1)/\∃m,m<n/\H=H/\V m (x.1,x.2.1+1,())))/\(¬x.2.1<(↑s.length:Int)->Q (-1,()) (x.1,()) H)
theorem Anm(s:List Int)(v:Int)(H:HY)(Q:Int×Unit->List Int×Unit->HP)(X:PX)(hyp_:Abo s v H Q X):qK CX Rn (s,v,()) H Q X:=by refine U2 (sigs:=sgO) (NG:=QE) (pf:=pfT) (F:=Tryz.f173) (n:={lp:=[(2,⟨[(0,.one (.own I6)),(8,.one (.dat I6))],[0,1,7],false⟩)],pr:=[],im:=[]}) (by kernel_rfl) (mpF hyp_ _ ?_);kernel_rfl
def Rv(a b:List Int)(H:HY)(Q:List Int×Int×UT->UU)(X:PX):=qK Na KD (a,()) H (λ(b1:Bool×UT)_ G=>(¬b1.1->Q ([],1,()) () G)/\(¬¬b1.1->qK Na KD (b,()) G (λ(b2:Bool×UT)_ G=>(¬b2.1->Q ([],1,()) () G)/\(¬¬b2.1->a.length<=2^63-1->b.length<=2^63-1->(¬a.length=b.length->Q ([],3,()) () G)/\(¬¬a.length=b.length->qK KL IA (a,()) G (λ(b3:List Int×UT)_ G=>b.length<=2^63-1->∃(V:Nat->List Int×List Int×Nat×UT->Prop),(∃(n:Nat),G=G/\V n ([],b3.1,0,()))/\∀n x,V n x->(x.2.2.1<b.length->x.2.2.1<=2^63-1->∃(h:x.2.2.1<b.length),qK CX Rn (x.2.1,b[x.2.2.1],()) G (λ(b:Int×UT)(io:List Int×UT)(H'_1:HY)=>∃(V1:Nat->List Int×List Int×Int×UT->Prop),(∃(n:Nat),H'_1=H'_1/\V1 n (x.1,io.1,b.1,()))/\∀n1 x1,V1 n1 x1->((↑x.2.2.1:Int)<x1.2.2.1->IK x1.2.2.1->IK (x1.2.2.1-1)/\(IK x1.2.2.1->(IK x1.2.2.1->0<=x1.2.2.1)/\∃(h:x1.2.2.1.toNat<x1.2.1.length),∃(h:x1.2.2.1.toNat<x1.2.1.length),IK x1.2.2.1->IK (x1.2.2.1-1)/\(IK (x1.2.2.1-1)->(IK (x1.2.2.1-1)->0<=x1.2.2.1-1)/\∃(h1:(x1.2.2.1-1).toNat<x1.2.1.length),∃(h2:(x1.2.2.1-1).toNat<x1.2.1.length),IK (x1.2.2.1-1)->(IK (x1.2.2.1-1)->0<=x1.2.2.1-1)/\∃(h3:(x1.2.2.1-1).toNat<x1.2.1.length),(x1.2.2.1-1).toNat<x1.2.1.length/\(IK x1.2.2.1->(IK x1.2.2.1->0<=x1.2.2.1)/\∃(h4:x1.2.2.1.toNat<(x1.2.1.set (x1.2.2.1-1).toNat x1.2.1[x1.2.2.1.toNat]).length),x1.2.2.1.toNat<(x1.2.1.set (x1.2.2.1-1).toNat x1.2.1[x1.2.2.1.toNat]).length/\(IK x1.2.2.1->IK (x1.2.2.1-1)/\(x1.1.length+[x1.2.2.1-1].length)*(8:Nat)<=(2^47:Nat)/\(IK x1.2.2.1->IK (x1.2.2.1-1)/\∃m,m<n1/\H'_1=H'_1/\V1 m (x1.1++[x1.2.2.1-1],(x1.2.1.set (x1.2.2.1-1).toNat x1.2.1[x1.2.2.1.toNat]).set x1.2.2.1.toNat x1.2.1[(x1.2.2.1-1).toNat],x1.2.2.1-1,())))))))/\(¬(↑x.2.2.1:Int)<x1.2.2.1->x.2.2.1+1<=2^63-1/\∃m,m<n/\H'_1=G/\V m (x1.1,x1.2.1,x.2.2.1+1,()))) X)/\(¬x.2.2.1<b.length->Q (x.1,0,()) () G)) X))) X)) X
theorem YV(a b:List Int)(H:HY)(Q:List Int×Int×Unit->UU)(X:PX)(hyp_:Rv a b H Q X):qK KM IB (a,b,()) H Q X:=by refine U2 (sigs:=sgO) (NG:=QE) (pf:=pfT) (F:=Tryz.f257) (n:={lp:=[(11,⟨[(6,.one (.own I6)),(7,.one (.own I6)),(10,.one (.dat I6))],[7,8,28,29,30],false⟩),(8,⟨[(6,.one (.own I6)),(7,.one (.own I6)),(30,.nat)],[7,28,29],false⟩)],pr:=[],im:=[]}) (by kernel_rfl) (mpF hyp_ _ ?_);kernel_rfl
end
section
variable {H:HY} {X:PX}
theorem Acb{l:List Int}{Q:List Int×Unit->UU}(a:l.length<=1000)(h:Q (l,()) () H):qK KL IA (l,()) H Q X:=by grind[YU,Ru]
theorem Adr{s:List Int}{Q:Unit->List Int×Unit->HP}(r:s.length<=1000)(h:∀l:List Int,l.length=s.length->Q () (l,()) H):qK HJ E6 (s,()) H Q X:=by
 refine wF Tryz.f276 {lp:=[(1,⟨[(0,.one (.own I6)),(2,.nat),(3,.one (.dat I6))],[0],false⟩)]} (?_:s.length<=2^63-1->s.length<=2^63-1->IK ((↑s.length:Int)-1)/\∃(V:Nat->List Int×Nat×Int×UT->Prop),(∃(n:Nat),H=H/\V n (s,0,(↑s.length:Int)-1,()))/\∀n x,V n x->((↑x.2.1:Int)<x.2.2.1->IK x.2.2.1->(IK x.2.2.1->0<=x.2.2.1)/\∃(h:x.2.2.1.toNat<x.1.length),∃(h:x.2.2.1.toNat<x.1.length),x.2.1<=2^63-1->∃(h1:x.2.1<x.1.length),∃(h2:x.2.1<x.1.length),x.2.1<=2^63-1->∃(h3:x.2.1<x.1.length),x.2.1<x.1.length/\(IK x.2.2.1->(IK x.2.2.1->0<=x.2.2.1)/\∃(h4:x.2.2.1.toNat<(x.1.set x.2.1 x.1[x.2.2.1.toNat]).length),x.2.2.1.toNat<(x.1.set x.2.1 x.1[x.2.2.1.toNat]).length/\x.2.1+1<=2^63-1/\(IK x.2.2.1->IK (x.2.2.1-1)/\∃m,m<n/\H=H/\V m ((x.1.set x.2.1 x.1[x.2.2.1.toNat]).set x.2.2.1.toNat x.1[x.2.1],x.2.1+1,x.2.2.1-1,()))))/\(¬(↑x.2.1:Int)<x.2.2.1->Q () (x.1,()) H));refine λ_ _=>⟨A7.2 (by omega),λn z=>n=s.length-z.2.1/\z.1.length=s.length/\z.2.1<=s.length/\(z.2.1:Int)+z.2.2.1=s.length-1,⟨_,rfl,rfl,rfl,a6 _,by simp⟩,?_⟩
 rintro n ⟨l,i,j,_⟩ ⟨f,g,m,d⟩;have q:n=s.length-i:=f;have c:l.length=s.length:=g;have t:i<=s.length:=m;have p:(i:Int)+j=s.length-1:=d;refine⟨λe _=>?_,λ_=>h l c⟩;have o:(i:Int)<j:=e;have b:j.toNat<l.length:=by omega
 have a:i<l.length:=by omega
 have k:j.toNat<(l.set i l[j.toNat]).length:=by grind
 refine⟨λ_=>by omega,b,b,λ_=>⟨a,a,λ_=>⟨a,a,λ_=>⟨λ_=>by omega,k,k,by grind,λ_=>⟨A7.2 (by grind),s.length-(i+1),by omega,rfl,rfl,?_,by grind,by grind⟩⟩⟩⟩⟩;grind
theorem Aak{l:List Int}{Q:Bool×Unit->UU}(G:l.length<=1000)(h:∀t:Bool,Q (t,()) () H):qK Na KD (l,()) H Q X:=by
 refine wF Tryz.f274 {lp:=[(6,⟨[(4,.arr .bool),(16,.nat)],[0,3,14,15],false⟩),(2,⟨[(3,.nat)],[0],false⟩)]} (?_:∃(V:Nat->Nat×UT->Prop),(∃(n:Nat),H=H/\V n (0,()))/\∀n x,V n x->l.length<=2^63-1->(x.1<l.length->l.length<=2^63-1->∃(V1:Nat->List Bool×Nat×UT->Prop),(∃(n:Nat),H=H/\V1 n (ag 64 false,0,()))/\∀n1 x1,V1 n1 x1->(x1.2.1<l.length->x1.2.1<=2^63-1->∃(h:x1.2.1<l.length),(l[x1.2.1]<0->Q (false,()) () H)/\(¬l[x1.2.1]<0->l.length<=2^63-1->((↑l.length:Int)<=l[x1.2.1]->Q (false,()) () H)/\(¬(↑l.length:Int)<=l[x1.2.1]->IK l[x1.2.1]->x.1<=2^63-1->IK (l[x1.2.1]-(↑x.1:Int))/\(0<=l[x1.2.1]-(↑x.1:Int)->(l[x1.2.1]-(↑x.1:Int)<64->IK (l[x1.2.1]-(↑x.1:Int))->(IK (l[x1.2.1]-(↑x.1:Int))->0<=l[x1.2.1]-(↑x.1:Int))/\∃(h1:(l[x1.2.1]-(↑x.1:Int)).toNat<64),∃(h2:(l[x1.2.1]-(↑x.1:Int)).toNat<x1.1.length),(x1.1[(l[x1.2.1]-(↑x.1:Int)).toNat]->Q (false,()) () H)/\(¬x1.1[(l[x1.2.1]-(↑x.1:Int)).toNat]->IK (l[x1.2.1]-(↑x.1:Int))->(IK (l[x1.2.1]-(↑x.1:Int))->0<=l[x1.2.1]-(↑x.1:Int))/\∃(h3:(l[x1.2.1]-(↑x.1:Int)).toNat<64),(l[x1.2.1]-(↑x.1:Int)).toNat<x1.1.length/\x1.2.1+1<=2^63-1/\∃m,m<n1/\H=H/\V1 m (x1.1.set (l[x1.2.1]-(↑x.1:Int)).toNat true,x1.2.1+1,())))/\(¬l[x1.2.1]-(↑x.1:Int)<64->x1.2.1+1<=2^63-1/\∃m,m<n1/\H=H/\V1 m (x1.1,x1.2.1+1,())))/\(¬0<=l[x1.2.1]-(↑x.1:Int)->x1.2.1+1<=2^63-1/\∃m,m<n1/\H=H/\V1 m (x1.1,x1.2.1+1,())))))/\(¬x1.2.1<l.length->x.1+64<=2^63-1/\∃m,m<n/\H=H/\V m (x.1+64,())))/\(¬x.1<l.length->Q (true,()) () H));refine⟨λn z=>n=l.length+64-z.1/\z.1<=l.length+64,⟨_,rfl,rfl,a6 _⟩,?_⟩;rintro n ⟨b,_⟩ ⟨e,k⟩;have D:n=l.length+64-b:=e;have F:b<=l.length+64:=k;intro _;refine⟨λg _=>?_,λ_=>h true⟩;have C:b<l.length:=g;refine⟨λn z=>n=l.length-z.2.1/\z.2.1<=l.length/\z.1.length=64,⟨_,rfl,rfl,a6 _,rfl⟩,?_⟩;rintro m ⟨x,i,_⟩ ⟨c,j,d⟩;have I:m=l.length-i:=c;have E:i<=l.length:=j;have q:x.length=64:=d;refine⟨λf _=>?_,λ_=>⟨by grind,l.length+64-(b+64),by omega,rfl,rfl,by grind⟩⟩;have p:i<l.length:=f;have a:∀y:List Bool,y.length=64->i+1<=9223372036854775807/\∃w,w<m/\H=H/\w=l.length-(i+1)/\i+1<=l.length/\y.length=64:=λy B=>⟨by omega,l.length-(i+1),by omega,rfl,rfl,by omega,B⟩
 refine⟨p,λ_=>h false,λr _=>⟨λ_=>h false,λv _ _=>⟨A7.2 ?_,λo=>⟨λu _=>⟨λ_=>o,?_⟩,λ_=>a x q⟩,λ_=>a x q⟩⟩⟩
 .omega
 .have o:0<=l[i]-(b:Int):=o;have u:l[i]-(b:Int)<64:=u;have s:(l[i]-(b:Int)).toNat<64:=by omega
  have A:(l[i]-(b:Int)).toNat<x.length:=by omega
  exact⟨s,A,λ_=>h false,λ_ _=>⟨λ_=>o,s,A,a _ (by grind)⟩⟩
theorem Ajd{s:List Int}{v:Int}{Q:Int×Unit->List Int×Unit->HP}(p:s.length<=1000)(h:∀i:Int,-1<=i->i<s.length->Q (i,()) (s,()) H):qK CX Rn (s,v,()) H Q X:=by
 apply Anm;unfold Abo;refine λ_=>⟨λn z=>n=s.length-z.2.1.toNat/\z.1=s/\0<=z.2.1/\z.2.1<=s.length,⟨_,rfl,rfl,rfl,by simp,by simp⟩,?_⟩
 rintro n ⟨l,i,_⟩ ⟨d,f,e,c⟩;have o:n=s.length-i.toNat:=d;have j:l=s:=f;have k:0<=i:=e;have m:i<=s.length:=c;subst j;refine⟨λb _=>?_,λ_=>h (-1) (by omega) (by omega)⟩;have g:i<(l.length:Int):=b;have a:i.toNat<l.length:=by omega
 exact⟨λ_=>k,a,a,λ_=>h i (by omega) g,λ_ _=>⟨A7.2 (by grind),l.length-(i+1).toNat,by omega,rfl,rfl,rfl,by grind,by grind⟩⟩
theorem Ak7{a b:List Int}{Q:List Int×Int×Unit->UU}(S:a.length<=64)(O:b.length<=64)(h:∀l e,l.length<=1000000->Q (l,e,()) () H):qK KM IB (a,b,()) H Q X:=by
 apply YV;unfold Rv;refine Aak (by omega) λN=>⟨λ_=>h _ _ (a6 _),λ_=>Aak (by omega) λR=>⟨λ_=>h _ _ (a6 _),λ_ _ _=>⟨λ_=>h _ _ (a6 _),λ_=>Acb (by omega) λ_=>?_⟩⟩⟩
 refine⟨λn z=>n=b.length-z.2.2.1/\z.2.2.1<=b.length/\z.2.1.length=a.length/\z.1.length<=64*z.2.2.1,⟨_,rfl,rfl,a6 _,rfl,a6 _⟩,?_⟩;rintro n ⟨l,w,i,_⟩ ⟨o,v,t,q⟩;have M:n=b.length-i:=o;have P:i<=b.length:=v;have J:w.length=a.length:=t;have V:l.length<=64*i:=q;refine⟨λx _=>?_,λ_=>h l 0 (by omega)⟩;have D:i<b.length:=x;refine⟨D,Ajd (by grind) λr K C=>?_⟩;have C:r<(w.length:Int):=C;refine⟨λm z=>m=z.2.2.1.toNat/\z.2.1.length=a.length/\z.2.2.1<w.length/\(z.1.length:Int)<=64*i+(64-1-z.2.2.1)/\-1<=z.2.2.1,⟨_,rfl,rfl,J,C,by grind,K⟩,?_⟩;rintro m ⟨A,g,j,_⟩ ⟨k,c,s,f,d⟩;have T:m=j.toNat:=k;have u:g.length=a.length:=c;have U:j<(w.length:Int):=s;have G:(A.length:Int)<=64*i+(64-1-j):=f;have I:-1<=j:=d;refine⟨λp _=>?_,λ_=>⟨by grind,b.length-(i+1),by omega,rfl,rfl,by grind,u,by grind⟩⟩;have L:(i:Int)<j:=p;have E:j.toNat<g.length:=by omega
 have B:(j-1).toNat<g.length:=by omega
 have y:Bn .i64 (j-1):=A7.2 (by omega);have F:j.toNat<(g.set (j-1).toNat g[j.toNat]).length:=by grind
 refine⟨y,λ_=>⟨λ_=>by omega,E,E,λ_=>⟨y,λ_=>⟨λ_=>by omega,B,B,λ_=>⟨λ_=>by omega,B,B,λ_=>⟨λ_=>by omega,F,F,λ_=>⟨y,by grind,λ_=>⟨y,(j-1).toNat,by omega,rfl,rfl,?_,by grind,?_,by grind⟩⟩⟩⟩⟩⟩⟩⟩;all_goals grind
theorem Aut:Ao9:=by intro o H X Q b h;grind[Aav,T9,Acb,Adr,Ak7]
end
theorem Y7{v:Ar}(h:Wd v):BL v=NF v-E8 v+1:=by
 unfold BL;by_cases a:v.Bool=true
 .rw[UV a,XN a,PW a];rfl
 .obtain⟨e,d,c,b⟩:=h.nu (by simpa using a);rw[GT a,GT (by omega),XM a,PV a,Int.min_eq_left (by omega)]
theorem Avo{l:List Ar}(b:OT l){a:B.As}{next:Bool}{i:Nat}(hi:i<l.length):Jk (Dg l) next i a=if rdB l a next (Dg l) i=true then some (rdV l a next (Dg l) i) else none:=by
 have e:rdV l a next (Dg l) i=E8 l[i]+(CE a (Cu (Dg l) i next):Int):=by unfold rdV;rw[a5 hi];rfl
 have d:rdB l a next (Dg l) i=decide ((CE a (Cu (Dg l) i next):Int)<BL l[i]):=by unfold rdB;rw[a5 hi];rfl
 have f:=Y7 (b.ok i hi);rw[e,d];unfold Jk;rw[show (Dg l).Aa[i]?=some l[i] from a5 hi];show (if E8 l[i]+(CE a (Cu (Dg l) i next):Int)<=NF l[i] then _ else _)=_;generalize (CE a (Cu (Dg l) i next):Int)=c;by_cases h:E8 l[i]+c<=NF l[i]
 .rw[UV h,UV (decide_eq_true (by omega))]
 .rw[GT h,GT (by rw[decide_eq_true_iff];omega)]
section
variable {L:Ac} {i:Nat} {n:Bool}
theorem At8(hL:Jf L){j:Nat}{m:Bool}{v:Int}(hi:i<L.Aa.length)(hj:j<L.Aa.length)(h1:v∈Cu L i n)(h2:v∈Cu L j m):i=j/\n=m:=by
 have get:∀{i:Nat}{n:Bool}(hi:i<L.Aa.length),v∈Cu L i n->∃k:Nat,D0 L.Bits i+(k:Int)<D0 L.Bits (i+1)/\v=2*(D0 L.Bits i+(k:Int))+if n=true then 1 else 0:=λ{i n}hi h=>by
  have hib:i<L.Bits.length:=by rw[hL.lb];exact hi
  obtain⟨k,hk,e⟩:=List.mem_iff_getElem.1 h;have hk2:k<L.Bits[i].toNat:=by grind[Jt]
  have g:=Aic hL hi hib hk2 (next:=n);grind[a5,Eo,af]
 have mono:∀{i j:Nat},i<j->j<L.Aa.length->D0 L.Bits (i+1)<=D0 L.Bits j:=λ{i j}h hj=>hL.NP h (by rw[hL.lb];omega);obtain⟨k,k1,k2⟩:=get hi h1;obtain⟨q,q1,q2⟩:=get hj h2;rcases Nat.lt_trichotomy i j with h|h|h
 all_goals grind
open Classical in
noncomputable def Alm(L:Ac)(a:B.As):B.As:=λv=>a v&&decide (∃i n,i<L.Aa.length/\v∈Cu L i n/\(Jk L n i a).isSome=true)
variable {a:B.As}
open Classical in
theorem Awg(hi:i<L.Aa.length)(h:(Jk L n i a).isSome=true):∀v∈Cu L i n,Alm L a v=a v:=λv hv=>by unfold Alm;rw[decide_eq_true ⟨i,n,hi,hv,h⟩,Bool.and_true]
open Classical in
theorem A02(hL:Jf L)(hi:i<L.Aa.length)(h:Jk L n i a=none):∀v∈Cu L i n,Alm L a v=false:=λv hv=>by unfold Alm;rw[decide_eq_false,Bool.and_false];rintro⟨j,m,hj,h1,h2⟩;obtain⟨rfl,rfl⟩:=At8 hL hi hj hv h1;grind
theorem Apn{a:B.As}:∀{l:List Int},(∀v∈l,a v=false)->CE a l=0
 | [],_=>rfl
 |v::l,h=>by rw[Lt,h v ae,Apn λu hu=>h u (ay _ hu)];rfl
def Akd(L:Ac)(n:Bool)(a:B.As)(i:Nat):Int:=(Jk L n i a).getD ((L.Aa[i]?.map E8).getD 0)
theorem Aw5(hL:Ku L)(hi:i<L.Aa.length):Jk L n i (Alm L a)=some (Akd L n a i):=by
 unfold Akd;cases h:Jk L n i a with
 |some x=>
  rw[av,<-h];unfold Jk;rw[OA (Awg hi (by grind))]
 |none=>
  have h1:=(hL.fit i hi (by rw[hL.lb];exact hi)).1;unfold Jk;rw[Apn (A02 hL.toJf hi h),a5 hi];grind
theorem A1v{t:Ae}(h:∀op nm,Ata op nm t->(op=3∨op=4)->Cl L.Aa nm<L.Aa.length/\(Jk L (decide (op=4)) (Cl L.Aa nm) a).isSome=true):(D3 L t).1 (Alm L a)=(D3 L t).1 a/\(D3 L t).2 (Alm L a)=(D3 L t).2 a:=Alk _ t (a9 _) λop nm hh o=>Awg (h op nm hh o).1 (h op nm hh o).2
end
section
set_option maxRecDepth 100000
set_option maxHeartbeats 2000000
def Acr(t:Ae)(deep parts:Int)(H:HY)(Q:Int×Int×UT->UU)(X:PX):=IK parts->IK (parts+1)/\qK Ac2 W7 (t,deep,()) H (λ(b:Int×UT)_ G=>(¬b.1=0->Q (b.1,parts+1,()) () G)/\(¬¬b.1=0->((4096:Int)<parts+1->Q (4,parts+1,()) () G)/\(¬(4096:Int)<parts+1->∃(V:Nat->Int×Nat×UT->Prop),(∃(n:Nat),G=G/\V n (parts+1,0,()))/\∀n x,V n x->t.qZ.length<=2^63-1->(x.2.1<t.qZ.length->x.2.1<=2^63-1->∃(h:x.2.1<t.qZ.length),IK deep->IK (deep+1)/\qK Sn LB (t.qZ[x.2.1],deep+1,x.1,()) G (λ(b:Int×Int×UT)(io:UT)(H'_1:HY)=>(¬b.1=0->Q (b.1,b.2.1,()) () H'_1)/\(¬¬b.1=0->x.2.1+1<=2^63-1/\∃m,m<n/\H'_1=G/\V m (b.2.1,x.2.1+1,()))) X)/\(¬x.2.1<t.qZ.length->Q (0,x.1,()) () G)))) X
theorem Ahx t deep parts H Q X(h_:Acr t deep parts H Q X):qK Sn LB (t,deep,parts,()) H Q X:=wF Tryz.f111 {lp:=[(8,⟨[(2,.one (.dat I6)),(9,.nat)],[1,3],false⟩)],im:=[3]} h_
def Aay(vars:List Ar)(t:Ae)(EV:Bool)(H:HY)(Q:Af×Int×UT->UU)(X:PX):=(t.Op=1->qK G6 Gm (t.N,t.N,()) H (λ(b:Af×Int×UT)_ G=>Q (b.1,b.2.1,()) () G) X)/\(¬t.Op=1->(t.Op=2->Q ({Bool:=true,Lo:=0,Hi:=0:Af},0,()) () H)/\(¬t.Op=2->(t.Op=3->qK Kg IN (vars,t.qJ,()) H (λ(b:Int×UT)_ G=>(b.1<0->Q ({Bool:=false,Lo:=0,Hi:=0:Af},12,()) () G)/\(¬b.1<0->(t.Op=4->(¬EV->Q ({Bool:=false,Lo:=0,Hi:=0:Af},24,()) () G)/\(¬¬EV->IK b.1->(IK b.1->0<=b.1)/\∃(h:b.1.toNat<vars.length),(vars[b.1.toNat].Bool->Q ({Bool:=true,Lo:=0,Hi:=0:Af},0,()) () G)/\(¬vars[b.1.toNat].Bool->IK b.1->(IK b.1->0<=b.1)/\∃(h:b.1.toNat<vars.length),IK b.1->(IK b.1->0<=b.1)/\∃(h1:b.1.toNat<vars.length),qK G6 Gm (vars[b.1.toNat].Lo,vars[b.1.toNat].Hi,()) G (λ(b:Af×Int×UT)_ G=>Q (b.1,b.2.1,()) () G) X)))/\(¬t.Op=4->IK b.1->(IK b.1->0<=b.1)/\∃(h:b.1.toNat<vars.length),(vars[b.1.toNat].Bool->Q ({Bool:=true,Lo:=0,Hi:=0:Af},0,()) () G)/\(¬vars[b.1.toNat].Bool->IK b.1->(IK b.1->0<=b.1)/\∃(h:b.1.toNat<vars.length),IK b.1->(IK b.1->0<=b.1)/\∃(h1:b.1.toNat<vars.length),qK G6 Gm (vars[b.1.toNat].Lo,vars[b.1.toNat].Hi,()) G (λ(b:Af×Int×UT)_ G=>Q (b.1,b.2.1,()) () G) X)))) X)/\(¬t.Op=3->(t.Op=4->qK Kg IN (vars,t.qJ,()) H (λ(b:Int×UT)_ G=>(b.1<0->Q ({Bool:=false,Lo:=0,Hi:=0:Af},12,()) () G)/\(¬b.1<0->(t.Op=4->(¬EV->Q ({Bool:=false,Lo:=0,Hi:=0:Af},24,()) () G)/\(¬¬EV->IK b.1->(IK b.1->0<=b.1)/\∃(h:b.1.toNat<vars.length),(vars[b.1.toNat].Bool->Q ({Bool:=true,Lo:=0,Hi:=0:Af},0,()) () G)/\(¬vars[b.1.toNat].Bool->IK b.1->(IK b.1->0<=b.1)/\∃(h:b.1.toNat<vars.length),IK b.1->(IK b.1->0<=b.1)/\∃(h1:b.1.toNat<vars.length),qK G6 Gm (vars[b.1.toNat].Lo,vars[b.1.toNat].Hi,()) G (λ(b:Af×Int×UT)_ G=>Q (b.1,b.2.1,()) () G) X)))/\(¬t.Op=4->IK b.1->(IK b.1->0<=b.1)/\∃(h:b.1.toNat<vars.length),(vars[b.1.toNat].Bool->Q ({Bool:=true,Lo:=0,Hi:=0:Af},0,()) () G)/\(¬vars[b.1.toNat].Bool->IK b.1->(IK b.1->0<=b.1)/\∃(h:b.1.toNat<vars.length),IK b.1->(IK b.1->0<=b.1)/\∃(h1:b.1.toNat<vars.length),qK G6 Gm (vars[b.1.toNat].Lo,vars[b.1.toNat].Hi,()) G (λ(b:Af×Int×UT)_ G=>Q (b.1,b.2.1,()) () G) X)))) X)/\(¬t.Op=4->∃(V:Nat->(Bool×Int×Int×UT)×List Af×Nat×UT->Prop),(∃(n:Nat),H=H/\V n ((false,0,0,()),[],0,()))/\∀n x,V n x->t.qZ.length<=2^63-1->(x.2.2.1<t.qZ.length->x.2.2.1<=2^63-1->∃(h:x.2.2.1<t.qZ.length),qK RY Ll (vars,t.qZ[x.2.2.1],EV,()) H (λ(b:Af×Int×UT)_ G=>(¬b.2.1=0->Q ({Bool:=false,Lo:=0,Hi:=0:Af},b.2.1,()) () G)/\(¬¬b.2.1=0->(x.2.1.length+[b.1].length)*24<=2^47/\x.2.2.1+1<=2^63-1/\∃m,m<n/\G=H/\V m ((x.1.1,x.1.2.1,x.1.2.2.1,()),x.2.1++[b.1],x.2.2.1+1,()))) X)/\(¬x.2.2.1<t.qZ.length->qK Ac0 W5 (t,x.2.1,()) H (λ(b:Af×Int×UT)_ G=>Q (b.1,b.2.1,()) () G) X)))))
theorem Af5 vars t EV H Q X(h_:Aay vars t EV H Q X):qK RY Ll (vars,t,EV,()) H Q X:=wF Tryz.f45 {lp:=[(18,⟨[(6,.blk [.dat .bool,.dat I6,.dat I6]),(9,.one (.own (.u 5))),(10,.nat)],[0,2,4],false⟩)],im:=[4]} h_
def Adf(n:Int)(H:HY)(Q:Bool×UT->UU)(_:PX):=(n < -9007199254740992->Q (true,()) () H)/\(¬n < -9007199254740992->Q (decide ((9007199254740992:Int)<n),()) () H)
theorem Akb n H Q X(h_:Adf n H Q X):qK Ef C7 (n,()) H Q X:=wF Tryz.f180 {} h_
def Abh(yes:Bool)(H:HY)(Q:Int×UT->UU)(_:PX):=(yes->Q (1,()) () H)/\(¬yes->Q (0,()) () H)
theorem Ahe yes H Q X(h_:Abh yes H Q X):qK Gj Fi (yes,()) H Q X:=wF Tryz.f179 {} h_
def Aau(vars:List Ar)(t:Ae)(s n:List Int)(H:HY)(Q:Int×Bool×UT->UU)(X:PX):=(t.Op=1->Q (t.N,true,()) () H)/\(¬t.Op=1->(t.Op=2->Q (t.N,true,()) () H)/\(¬t.Op=2->(t.Op=3->qK Kg IN (vars,t.qJ,()) H (λ(b:Int×UT)_ G=>(t.Op=3->IK b.1->(IK b.1->0<=b.1)/\∃(h:b.1.toNat<s.length),IK b.1->(IK b.1->0<=b.1)/\∃(h1:b.1.toNat<vars.length),(vars[b.1.toNat].Bool->qK Gj Fi (decide ¬s[b.1.toNat]=0,()) G (λ(b:Int×UT)_ G=>Q (b.1,true,()) () G) X)/\(¬vars[b.1.toNat].Bool->qK Ef C7 (s[b.1.toNat],()) G (λ(b1:Bool×UT)_ G=>Q (s[b.1.toNat],decide ¬b1.1=true,()) () G) X))/\(¬t.Op=3->IK b.1->(IK b.1->0<=b.1)/\∃(h:b.1.toNat<n.length),IK b.1->(IK b.1->0<=b.1)/\∃(h1:b.1.toNat<vars.length),(vars[b.1.toNat].Bool->qK Gj Fi (decide ¬n[b.1.toNat]=0,()) G (λ(b:Int×UT)_ G=>Q (b.1,true,()) () G) X)/\(¬vars[b.1.toNat].Bool->qK Ef C7 (n[b.1.toNat],()) G (λ(b1:Bool×UT)_ G=>Q (n[b.1.toNat],decide ¬b1.1=true,()) () G) X))) X)/\(¬t.Op=3->(t.Op=4->qK Kg IN (vars,t.qJ,()) H (λ(b:Int×UT)_ G=>(t.Op=3->IK b.1->(IK b.1->0<=b.1)/\∃(h:b.1.toNat<s.length),IK b.1->(IK b.1->0<=b.1)/\∃(h1:b.1.toNat<vars.length),(vars[b.1.toNat].Bool->qK Gj Fi (decide ¬s[b.1.toNat]=0,()) G (λ(b:Int×UT)_ G=>Q (b.1,true,()) () G) X)/\(¬vars[b.1.toNat].Bool->qK Ef C7 (s[b.1.toNat],()) G (λ(b1:Bool×UT)_ G=>Q (s[b.1.toNat],decide ¬b1.1=true,()) () G) X))/\(¬t.Op=3->IK b.1->(IK b.1->0<=b.1)/\∃(h:b.1.toNat<n.length),IK b.1->(IK b.1->0<=b.1)/\∃(h1:b.1.toNat<vars.length),(vars[b.1.toNat].Bool->qK Gj Fi (decide ¬n[b.1.toNat]=0,()) G (λ(b:Int×UT)_ G=>Q (b.1,true,()) () G) X)/\(¬vars[b.1.toNat].Bool->qK Ef C7 (n[b.1.toNat],()) G (λ(b1:Bool×UT)_ G=>Q (n[b.1.toNat],decide ¬b1.1=true,()) () G) X))) X)/\(¬t.Op=4->∃(V:Nat->List Int×Int×Nat×UT->Prop),(∃(n:Nat),H=H/\V n ([],0,0,()))/\∀n1 x,V n1 x->t.qZ.length<=2^63-1->(x.2.2.1<t.qZ.length->x.2.2.1<=2^63-1->∃(h:x.2.2.1<t.qZ.length),qK JY IC (vars,t.qZ[x.2.2.1],s,n,()) H (λ(b:Int×Bool×UT)_ G=>(¬b.2.1->Q (0,false,()) () G)/\(¬¬b.2.1->(x.1.length+[b.1].length)*8<=2^47/\(t.Op=6->IK x.2.1->IK b.1->IK (x.2.1+b.1)/\x.2.2.1+1<=2^63-1/\∃m,m<n1/\G=H/\V m (x.1++[b.1],x.2.1+b.1,x.2.2.1+1,()))/\(¬t.Op=6->(t.Op=7->IK x.2.1->IK b.1->IK (x.2.1+b.1)/\x.2.2.1+1<=2^63-1/\∃m,m<n1/\G=H/\V m (x.1++[b.1],x.2.1+b.1,x.2.2.1+1,()))/\(¬t.Op=7->x.2.2.1+1<=2^63-1/\∃m,m<n1/\G=H/\V m (x.1++[b.1],x.2.1,x.2.2.1+1,()))))) X)/\(¬x.2.2.1<t.qZ.length->(t.Op=5->(True->(0:Int)<=0)/\∃(h:a4 (0:Int)<x.1.length),∃(h:a4 (0:Int)<x.1.length),IK x.1[a4 (0:Int)]->IK (1-x.1[a4 (0:Int)])/\qK Ef C7 (1-x.1[a4 (0:Int)],()) H (λ(b:Bool×UT)_ G=>Q (1-x.1[a4 (0:Int)],decide ¬b.1=true,()) () G) X)/\(¬t.Op=5->(t.Op=6->x.1.length<=2^63-1->qK Gj Fi (decide (x.2.1=(↑x.1.length:Int)),()) H (λ(b:Int×UT)_ G=>qK Ef C7 (b.1,()) G (λ(b1:Bool×UT)_ G=>Q (b.1,decide ¬b1.1=true,()) () G) X) X)/\(¬t.Op=6->(t.Op=7->qK Gj Fi (decide ((0:Int)<x.2.1),()) H (λ(b:Int×UT)_ G=>qK Ef C7 (b.1,()) G (λ(b1:Bool×UT)_ G=>Q (b.1,decide ¬b1.1=true,()) () G) X) X)/\(¬t.Op=7->(t.Op=8->(True->(0:Int)<=0)/\∃(h:a4 (0:Int)<x.1.length),∃(h:a4 (0:Int)<x.1.length),(x.1[a4 (0:Int)]=0->qK Gj Fi (true,()) H (λ(b:Int×UT)_ G=>qK Ef C7 (b.1,()) G (λ(b1:Bool×UT)_ G=>Q (b.1,decide ¬b1.1=true,()) () G) X) X)/\(¬x.1[a4 (0:Int)]=0->(True->(0:Int)<=1)/\∃(h:a4 (1:Int)<x.1.length),∃(h:a4 (1:Int)<x.1.length),qK Gj Fi (decide (x.1[a4 (1:Int)]=1),()) H (λ(b:Int×UT)_ G=>qK Ef C7 (b.1,()) G (λ(b1:Bool×UT)_ G=>Q (b.1,decide ¬b1.1=true,()) () G) X) X))/\(¬t.Op=8->(t.Op=9->(True->(0:Int)<=0)/\∃(h:a4 (0:Int)<x.1.length),(True->(0:Int)<=1)/\∃(h:a4 (1:Int)<x.1.length),(∃(h:a4 (0:Int)<x.1.length),∃(h1:a4 (1:Int)<x.1.length),qK Gj Fi (decide (x.1[a4 (0:Int)]=x.1[a4 (1:Int)]),()) H (λ(b:Int×UT)_ G=>qK Ef C7 (b.1,()) G (λ(b1:Bool×UT)_ G=>Q (b.1,decide ¬b1.1=true,()) () G) X) X)/\∃(h:a4 (1:Int)<x.1.length),∃(h1:a4 (0:Int)<x.1.length),qK Gj Fi (decide (x.1[a4 (0:Int)]=x.1[a4 (1:Int)]),()) H (λ(b:Int×UT)_ G=>qK Ef C7 (b.1,()) G (λ(b1:Bool×UT)_ G=>Q (b.1,decide ¬b1.1=true,()) () G) X) X)/\(¬t.Op=9->(t.Op=10->(True->(0:Int)<=0)/\∃(h:a4 (0:Int)<x.1.length),(True->(0:Int)<=1)/\∃(h:a4 (1:Int)<x.1.length),(∃(h:a4 (0:Int)<x.1.length),∃(h1:a4 (1:Int)<x.1.length),qK Gj Fi (decide (x.1[a4 (0:Int)]=x.1[a4 (1:Int)]),()) H (λ(b:Int×UT)_ G=>qK Ef C7 (b.1,()) G (λ(b1:Bool×UT)_ G=>Q (b.1,decide ¬b1.1=true,()) () G) X) X)/\∃(h:a4 (1:Int)<x.1.length),∃(h1:a4 (0:Int)<x.1.length),qK Gj Fi (decide (x.1[a4 (0:Int)]=x.1[a4 (1:Int)]),()) H (λ(b:Int×UT)_ G=>qK Ef C7 (b.1,()) G (λ(b1:Bool×UT)_ G=>Q (b.1,decide ¬b1.1=true,()) () G) X) X)/\(¬t.Op=10->(t.Op=11->(True->(0:Int)<=0)/\∃(h:a4 (0:Int)<x.1.length),(True->(0:Int)<=1)/\∃(h:a4 (1:Int)<x.1.length),(∃(h:a4 (0:Int)<x.1.length),∃(h1:a4 (1:Int)<x.1.length),qK Gj Fi (decide ¬x.1[a4 (0:Int)]=x.1[a4 (1:Int)],()) H (λ(b:Int×UT)_ G=>qK Ef C7 (b.1,()) G (λ(b1:Bool×UT)_ G=>Q (b.1,decide ¬b1.1=true,()) () G) X) X)/\∃(h:a4 (1:Int)<x.1.length),∃(h1:a4 (0:Int)<x.1.length),qK Gj Fi (decide ¬x.1[a4 (0:Int)]=x.1[a4 (1:Int)],()) H (λ(b:Int×UT)_ G=>qK Ef C7 (b.1,()) G (λ(b1:Bool×UT)_ G=>Q (b.1,decide ¬b1.1=true,()) () G) X) X)/\(¬t.Op=11->(t.Op=12->(True->(0:Int)<=0)/\∃(h:a4 (0:Int)<x.1.length),(True->(0:Int)<=1)/\∃(h:a4 (1:Int)<x.1.length),(∃(h:a4 (0:Int)<x.1.length),∃(h1:a4 (1:Int)<x.1.length),qK Gj Fi (decide (x.1[a4 (0:Int)]<x.1[a4 (1:Int)]),()) H (λ(b:Int×UT)_ G=>qK Ef C7 (b.1,()) G (λ(b1:Bool×UT)_ G=>Q (b.1,decide ¬b1.1=true,()) () G) X) X)/\∃(h:a4 (1:Int)<x.1.length),∃(h1:a4 (0:Int)<x.1.length),qK Gj Fi (decide (x.1[a4 (0:Int)]<x.1[a4 (1:Int)]),()) H (λ(b:Int×UT)_ G=>qK Ef C7 (b.1,()) G (λ(b1:Bool×UT)_ G=>Q (b.1,decide ¬b1.1=true,()) () G) X) X)/\(¬t.Op=12->(t.Op=13->(True->(0:Int)<=0)/\∃(h:a4 (0:Int)<x.1.length),(True->(0:Int)<=1)/\∃(h:a4 (1:Int)<x.1.length),(∃(h:a4 (0:Int)<x.1.length),∃(h1:a4 (1:Int)<x.1.length),qK Gj Fi (decide (x.1[a4 (0:Int)]<=x.1[a4 (1:Int)]),()) H (λ(b:Int×UT)_ G=>qK Ef C7 (b.1,()) G (λ(b1:Bool×UT)_ G=>Q (b.1,decide ¬b1.1=true,()) () G) X) X)/\∃(h:a4 (1:Int)<x.1.length),∃(h1:a4 (0:Int)<x.1.length),qK Gj Fi (decide (x.1[a4 (0:Int)]<=x.1[a4 (1:Int)]),()) H (λ(b:Int×UT)_ G=>qK Ef C7 (b.1,()) G (λ(b1:Bool×UT)_ G=>Q (b.1,decide ¬b1.1=true,()) () G) X) X)/\(¬t.Op=13->(t.Op=14->(True->(0:Int)<=0)/\∃(h:a4 (0:Int)<x.1.length),∃(h:a4 (0:Int)<x.1.length),(True->(0:Int)<=1)/\∃(h1:a4 (1:Int)<x.1.length),∃(h2:a4 (1:Int)<x.1.length),IK x.1[a4 (0:Int)]->IK x.1[a4 (1:Int)]->IK (x.1[a4 0]+x.1[a4 1])/\qK Ef C7 (x.1[a4 0]+x.1[a4 1],()) H (λ(b:Bool×UT)_ G=>Q (x.1[a4 0]+x.1[a4 1],decide ¬b.1=true,()) () G) X)/\(¬t.Op=14->(t.Op=15->(True->(0:Int)<=0)/\∃(h:a4 (0:Int)<x.1.length),∃(h:a4 (0:Int)<x.1.length),(True->(0:Int)<=1)/\∃(h1:a4 (1:Int)<x.1.length),∃(h2:a4 (1:Int)<x.1.length),IK x.1[a4 (0:Int)]->IK x.1[a4 1]->IK (x.1[a4 0]-x.1[a4 1])/\qK Ef C7 (x.1[a4 0]-x.1[a4 1],()) H (λ(b:Bool×UT)_ G=>Q (x.1[a4 0]-x.1[a4 1],decide ¬b.1=true,()) () G) X)/\(¬t.Op=15->(t.Op=16->(True->(0:Int)<=0)/\∃(h:a4 (0:Int)<x.1.length),∃(h:a4 (0:Int)<x.1.length),(¬x.1[a4 (0:Int)]=0->(True->(0:Int)<=1)/\∃(h:a4 (1:Int)<x.1.length),∃(h:a4 (1:Int)<x.1.length),(True->(0:Int)<=0)/\∃(h1:a4 (0:Int)<x.1.length),qK NT Kz (x.1[a4 (1:Int)],()) H (λ(b:Int×UT)_ G=>∃(h:a4 (0:Int)<x.1.length),qK NT Kz (x.1[a4 (0:Int)],()) G (λ(b1:Int×UT)_ G=>IK b1.1->¬b1.1=0/\IK (bb (9007199254740992:Int) b1.1)/\(bb (9007199254740992:Int) b1.1<b.1->Q ((0:Int),false,()) () G)/\(¬bb (9007199254740992:Int) b1.1<b.1->(True->(0:Int)<=(0:Int))/\∃(h:a4 (0:Int)<x.1.length),∃(h:a4 (0:Int)<x.1.length),(True->(0:Int)<=(1:Int))/\∃(h2:a4 (1:Int)<x.1.length),∃(h3:a4 (1:Int)<x.1.length),IK x.1[a4 (0:Int)]->IK x.1[a4 (1:Int)]->IK (x.1[a4 (0:Int)]*x.1[a4 (1:Int)])/\qK Ef C7 (x.1[a4 (0:Int)]*x.1[a4 (1:Int)],()) G (λ(b:Bool×UT)_ G=>Q (x.1[a4 (0:Int)]*x.1[a4 (1:Int)],decide ¬b.1=true,()) () G) X)) X) X/\∃(h2:a4 (0:Int)<x.1.length),qK NT Kz (x.1[a4 (1:Int)],()) H (λ(b:Int×UT)_ G=>qK NT Kz (x.1[a4 (0:Int)],()) G (λ(b1:Int×UT)_ G=>IK b1.1->¬b1.1=0/\IK (bb (9007199254740992:Int) b1.1)/\(bb (9007199254740992:Int) b1.1<b.1->Q ((0:Int),false,()) () G)/\(¬bb (9007199254740992:Int) b1.1<b.1->(True->(0:Int)<=(0:Int))/\∃(h:a4 (0:Int)<x.1.length),∃(h:a4 (0:Int)<x.1.length),(True->(0:Int)<=(1:Int))/\∃(h3:a4 (1:Int)<x.1.length),∃(h4:a4 (1:Int)<x.1.length),IK x.1[a4 (0:Int)]->IK x.1[a4 (1:Int)]->IK (x.1[a4 (0:Int)]*x.1[a4 (1:Int)])/\qK Ef C7 (x.1[a4 (0:Int)]*x.1[a4 (1:Int)],()) G (λ(b:Bool×UT)_ G=>Q (x.1[a4 (0:Int)]*x.1[a4 (1:Int)],decide ¬b.1=true,()) () G) X)) X) X)/\(¬¬x.1[a4 (0:Int)]=0->dup ((True->(0:Int)<=0)/\∃(h:a4 (0:Int)<x.1.length),∃(h:a4 (0:Int)<x.1.length),(True->(0:Int)<=1)/\∃(h1:a4 (1:Int)<x.1.length),∃(h2:a4 (1:Int)<x.1.length),IK x.1[a4 (0:Int)]->IK x.1[a4 (1:Int)]->IK (x.1[a4 (0:Int)]*x.1[a4 (1:Int)])/\qK Ef C7 (x.1[a4 (0:Int)]*x.1[a4 (1:Int)],()) H (λ(b:Bool×UT)_ G=>Q (x.1[a4 (0:Int)]*x.1[a4 (1:Int)],decide ¬b.1=true,()) () G) X)))/\(¬t.Op=16->(t.Op=17->(True->(0:Int)<=0)/\∃(h:a4 (0:Int)<x.1.length),∃(h:a4 (0:Int)<x.1.length),(True->(0:Int)<=1)/\∃(h1:a4 (1:Int)<x.1.length),∃(h2:a4 (1:Int)<x.1.length),IK x.1[a4 0]->IK x.1[a4 1]->¬x.1[a4 (1:Int)]=0/\IK (x.1[a4 (0:Int)].tmod x.1[a4 (1:Int)])/\(True->(0:Int)<=(1:Int))/\∃(h3:a4 (1:Int)<x.1.length),∃(h4:a4 (1:Int)<x.1.length),IK (x.1[a4 (0:Int)].tmod x.1[a4 (1:Int)])->IK x.1[a4 (1:Int)]->IK (x.1[a4 (0:Int)].tmod x.1[a4 (1:Int)]+x.1[a4 (1:Int)])/\(True->(0:Int)<=(1:Int))/\∃(h5:a4 (1:Int)<x.1.length),∃(h6:a4 (1:Int)<x.1.length),IK (x.1[a4 (0:Int)].tmod x.1[a4 (1:Int)]+x.1[a4 (1:Int)])->IK x.1[a4 (1:Int)]->¬x.1[a4 (1:Int)]=0/\IK ((x.1[a4 (0:Int)].tmod x.1[a4 (1:Int)]+x.1[a4 (1:Int)]).tmod x.1[a4 (1:Int)])/\qK Ef C7 ((x.1[a4 (0:Int)].tmod x.1[a4 (1:Int)]+x.1[a4 (1:Int)]).tmod x.1[a4 (1:Int)],()) H (λ(b:Bool×UT)_ G=>Q ((x.1[a4 (0:Int)].tmod x.1[a4 (1:Int)]+x.1[a4 (1:Int)]).tmod x.1[a4 (1:Int)],decide ¬b.1=true,()) () G) X)/\(¬t.Op=17->(t.Op=18->(True->(0:Int)<=2)/\∃(h:a4 (2:Int)<x.1.length),∃(h:a4 (2:Int)<x.1.length),(True->(0:Int)<=0)/\∃(h1:a4 (0:Int)<x.1.length),∃(h2:a4 (0:Int)<x.1.length),(x.1[a4 (0:Int)]=1->(True->(0:Int)<=(1:Int))/\∃(h:a4 (1:Int)<x.1.length),∃(h:a4 (1:Int)<x.1.length),qK Ef C7 (x.1[a4 (1:Int)],()) H (λ(b:Bool×UT)_ G=>Q (x.1[a4 (1:Int)],decide ¬b.1=true,()) () G) X)/\(¬x.1[a4 (0:Int)]=1->qK Ef C7 (x.1[a4 (2:Int)],()) H (λ(b:Bool×UT)_ G=>Q (x.1[a4 (2:Int)],decide ¬b.1=true,()) () G) X))/\(¬t.Op=18->qK Ef C7 (0,()) H (λ(b:Bool×UT)_ G=>Q (0,decide ¬b.1=true,()) () G) X)))))))))))))))))))
theorem Afx vars t s n H Q X(h_:Aau vars t s n H Q X):qK JY IC (vars,t,s,n,()) H Q X:=wF Tryz.f118 {lp:=[(18,⟨[(12,.one (.own I6)),(13,.one (.dat I6)),(14,.nat)],[0,2,3,5],false⟩)],im:=[5]} h_
def Acs(t:Ae)(H:HY)(Q:Bool×UT->UU)(X:PX):=(t.Op=4->Q (true,()) () H)/\(¬t.Op=4->∃(V:Nat->Nat×UT->Prop),(∃(n:Nat),H=H/\V n (0,()))/\∀n x,V n x->t.qZ.length<=2^63-1->(x.1<t.qZ.length->x.1<=2^63-1->∃(h:x.1<t.qZ.length),qK Tr LV (t.qZ[x.1],()) H (λ(b:Bool×UT)_ G=>(b.1->Q (true,()) () G)/\(¬b.1->x.1+1<=2^63-1/\∃m,m<n/\G=H/\V m (x.1+1,()))) X)/\(¬x.1<t.qZ.length->Q (false,()) () H))
theorem Ah7 t H Q X(h_:Acs t H Q X):qK Tr LV (t,()) H Q X:=wF Tryz.f117 {lp:=[(4,⟨[(3,.nat)],[1],false⟩)],im:=[1]} h_
def Ab0(t:Ae)(op:Int)(l:List ByteArray)(H:HY)(Q:List ByteArray×UT->UU)(X:PX):=(t.Op=op->qK Ac1 W6 (l,t.qJ,()) H (λ(b:List ByteArray×UT)_ G=>∃(V:Nat->List ByteArray×Nat×UT->Prop),(∃(n:Nat),G=G/\V n (b.1,0,()))/\∀n x,V n x->t.qZ.length<=2^63-1->(x.2.1<t.qZ.length->x.2.1<=2^63-1->∃(h:x.2.1<t.qZ.length),qK J0 Hg (t.qZ[x.2.1],op,x.1,()) G (λ(b:List ByteArray×UT)(io:UT)(H'_1:HY)=>x.2.1+1<=2^63-1/\∃m,m<n/\H'_1=G/\V m (b.1,x.2.1+1,())) X)/\(¬x.2.1<t.qZ.length->Q (x.1,()) () G)) X)/\(¬t.Op=op->∃(V:Nat->List ByteArray×Nat×UT->Prop),(∃(n:Nat),H=H/\V n (l,0,()))/\∀n x,V n x->t.qZ.length<=2^63-1->(x.2.1<t.qZ.length->x.2.1<=2^63-1->∃(h:x.2.1<t.qZ.length),qK J0 Hg (t.qZ[x.2.1],op,x.1,()) H (λ(b:List ByteArray×UT)_ G=>x.2.1+1<=2^63-1/\∃m,m<n/\G=H/\V m (b.1,x.2.1+1,())) X)/\(¬x.2.1<t.qZ.length->Q (x.1,()) () H))
theorem Ahj t op l H Q X(h_:Ab0 t op l H Q X):qK J0 Hg (t,op,l,()) H Q X:=wF Tryz.f115 {lp:=[(4,⟨[(2,.one (.dat (.sl .str))),(7,.nat)],[1,3],false⟩)],im:=[3]} h_
end
section
variable {H:HY} {X:PX}
theorem Apy{op:Int}{Q:Int×Int×Unit->UU}(h:Q ((G0 op).1,(G0 op).2,()) () H):qK Ac3 WB (op,()) H Q X:=by
 refine wF Tryz.f224 {} (?_:(op=1->Q (0,0,()) () H)/\(¬op=1->(op=2->Q (0,0,()) () H)/\(¬op=2->(op=3->Q (0,0,()) () H)/\(¬op=3->(op=4->Q (0,0,()) () H)/\(¬op=4->(op=5->Q (1,1,()) () H)/\(¬op=5->(op=6->Q (1,64,()) () H)/\(¬op=6->(op=7->Q (1,64,()) () H)/\(¬op=7->(op=18->Q (3,3,()) () H)/\(¬op=18->(op<1->Q (-1,-1,()) () H)/\(¬op<1->((18:Int)<op->Q (-1,-1,()) () H)/\(¬(18:Int)<op->Q (2,2,()) () H)))))))))));have key:∀a b,G0 op=(a,b)->Q (a,b,()) () H:=λa b e=>by grind
 repeat' (first|(refine bh ?_ ?_)|intro _)
 all_goals grind[G0]
variable {Q:Int×Unit->UU}
set_option maxHeartbeats 4000000 in
theorem Apw{t:Ae}{deep:Int}(h:Q (if 64<deep then 17 else CA t,()) () H):qK Ac2 W7 (t,deep,()) H Q X:=by
 refine wF Tryz.f175 {im:=[2]} (?_:((64:Int)<deep->Q (17,()) () H)/\(¬(64:Int)<deep->qK Ac3 WB (t.Op,()) H (λ(b:Int×Int×UT)_ G=>(b.1<0->Q (11,()) () G)/\(¬b.1<0->(t.Op=1->(t.Op=2->(t.N < -255->Q (2,()) () G)/\(¬t.N < -255->((1:Int)<t.N->Q (2,()) () G)/\(¬(1:Int)<t.N->(t.Op=3->t.qJ.size<=2^63-1->(t.qJ.size<1->Q (12,()) () G)/\(¬t.qJ.size<1->t.qJ.size<=2^63-1->(24<t.qJ.size->Q (12,()) () G)/\(¬24<t.qJ.size->t.qZ.length<=2^63-1->((↑t.qZ.length:Int)<b.1->Q (3,()) () G)/\(¬(↑t.qZ.length:Int)<b.1->t.qZ.length<=2^63-1->(b.2.1<(↑t.qZ.length:Int)->Q (3,()) () G)/\(¬b.2.1<(↑t.qZ.length:Int)->Q (0,()) () G)))))/\(¬t.Op=3->(t.Op=4->t.qJ.size<=2^63-1->(t.qJ.size<1->Q (12,()) () G)/\(¬t.qJ.size<1->t.qJ.size<=2^63-1->(24<t.qJ.size->Q (12,()) () G)/\(¬24<t.qJ.size->(¬t.Op=4->(¬t.qJ={data:={toList:=[]:Array UInt8}:ByteArray}->Q (12,()) () G)/\(¬¬t.qJ={data:={toList:=[]:Array UInt8}:ByteArray}->t.qZ.length<=2^63-1->((↑t.qZ.length:Int)<b.1->Q (3,()) () G)/\(¬(↑t.qZ.length:Int)<b.1->t.qZ.length<=2^63-1->(b.2.1<(↑t.qZ.length:Int)->Q (3,()) () G)/\(¬b.2.1<(↑t.qZ.length:Int)->Q (0,()) () G))))/\(¬¬t.Op=4->t.qZ.length<=2^63-1->((↑t.qZ.length:Int)<b.1->Q (3,()) () G)/\(¬(↑t.qZ.length:Int)<b.1->t.qZ.length<=2^63-1->(b.2.1<(↑t.qZ.length:Int)->Q (3,()) () G)/\(¬b.2.1<(↑t.qZ.length:Int)->Q (0,()) () G))))))/\(¬t.Op=4->(¬t.Op=4->(¬t.qJ={data:={toList:=[]:Array UInt8}:ByteArray}->Q (12,()) () G)/\(¬¬t.qJ={data:={toList:=[]:Array UInt8}:ByteArray}->t.qZ.length<=2^63-1->((↑t.qZ.length:Int)<b.1->Q (3,()) () G)/\(¬(↑t.qZ.length:Int)<b.1->t.qZ.length<=2^63-1->(b.2.1<(↑t.qZ.length:Int)->Q (3,()) () G)/\(¬b.2.1<(↑t.qZ.length:Int)->Q (0,()) () G))))/\(¬¬t.Op=4->t.qZ.length<=2^63-1->((↑t.qZ.length:Int)<b.1->Q (3,()) () G)/\(¬(↑t.qZ.length:Int)<b.1->t.qZ.length<=2^63-1->(b.2.1<(↑t.qZ.length:Int)->Q (3,()) () G)/\(¬b.2.1<(↑t.qZ.length:Int)->Q (0,()) () G))))))))/\(¬t.Op=2->(t.N < -255->Q (2,()) () G)/\(¬t.N < -255->((255:Int)<t.N->Q (2,()) () G)/\(¬(255:Int)<t.N->(t.Op=3->t.qJ.size<=2^63-1->(t.qJ.size<1->Q (12,()) () G)/\(¬t.qJ.size<1->t.qJ.size<=2^63-1->(24<t.qJ.size->Q (12,()) () G)/\(¬24<t.qJ.size->t.qZ.length<=2^63-1->((↑t.qZ.length:Int)<b.1->Q (3,()) () G)/\(¬(↑t.qZ.length:Int)<b.1->t.qZ.length<=2^63-1->(b.2.1<(↑t.qZ.length:Int)->Q (3,()) () G)/\(¬b.2.1<(↑t.qZ.length:Int)->Q (0,()) () G)))))/\(¬t.Op=3->(t.Op=4->t.qJ.size<=2^63-1->(t.qJ.size<1->Q (12,()) () G)/\(¬t.qJ.size<1->t.qJ.size<=2^63-1->(24<t.qJ.size->Q (12,()) () G)/\(¬24<t.qJ.size->(¬t.Op=4->(¬t.qJ={data:={toList:=[]:Array UInt8}:ByteArray}->Q (12,()) () G)/\(¬¬t.qJ={data:={toList:=[]:Array UInt8}:ByteArray}->t.qZ.length<=2^63-1->((↑t.qZ.length:Int)<b.1->Q (3,()) () G)/\(¬(↑t.qZ.length:Int)<b.1->t.qZ.length<=2^63-1->(b.2.1<(↑t.qZ.length:Int)->Q (3,()) () G)/\(¬b.2.1<(↑t.qZ.length:Int)->Q (0,()) () G))))/\(¬¬t.Op=4->t.qZ.length<=2^63-1->((↑t.qZ.length:Int)<b.1->Q (3,()) () G)/\(¬(↑t.qZ.length:Int)<b.1->t.qZ.length<=2^63-1->(b.2.1<(↑t.qZ.length:Int)->Q (3,()) () G)/\(¬b.2.1<(↑t.qZ.length:Int)->Q (0,()) () G))))))/\(¬t.Op=4->(¬t.Op=4->(¬t.qJ={data:={toList:=[]:Array UInt8}:ByteArray}->Q (12,()) () G)/\(¬¬t.qJ={data:={toList:=[]:Array UInt8}:ByteArray}->t.qZ.length<=2^63-1->((↑t.qZ.length:Int)<b.1->Q (3,()) () G)/\(¬(↑t.qZ.length:Int)<b.1->t.qZ.length<=2^63-1->(b.2.1<(↑t.qZ.length:Int)->Q (3,()) () G)/\(¬b.2.1<(↑t.qZ.length:Int)->Q (0,()) () G))))/\(¬¬t.Op=4->t.qZ.length<=2^63-1->((↑t.qZ.length:Int)<b.1->Q (3,()) () G)/\(¬(↑t.qZ.length:Int)<b.1->t.qZ.length<=2^63-1->(b.2.1<(↑t.qZ.length:Int)->Q (3,()) () G)/\(¬b.2.1<(↑t.qZ.length:Int)->Q (0,()) () G)))))))))/\(¬t.Op=1->(t.Op=2->(t.N<0->Q (2,()) () G)/\(¬t.N<0->((1:Int)<t.N->Q (2,()) () G)/\(¬(1:Int)<t.N->(t.Op=3->t.qJ.size<=2^63-1->(t.qJ.size<1->Q (12,()) () G)/\(¬t.qJ.size<1->t.qJ.size<=2^63-1->(24<t.qJ.size->Q (12,()) () G)/\(¬24<t.qJ.size->t.qZ.length<=2^63-1->((↑t.qZ.length:Int)<b.1->Q (3,()) () G)/\(¬(↑t.qZ.length:Int)<b.1->t.qZ.length<=2^63-1->(b.2.1<(↑t.qZ.length:Int)->Q (3,()) () G)/\(¬b.2.1<(↑t.qZ.length:Int)->Q (0,()) () G)))))/\(¬t.Op=3->(t.Op=4->t.qJ.size<=2^63-1->(t.qJ.size<1->Q (12,()) () G)/\(¬t.qJ.size<1->t.qJ.size<=2^63-1->(24<t.qJ.size->Q (12,()) () G)/\(¬24<t.qJ.size->(¬t.Op=4->(¬t.qJ={data:={toList:=[]:Array UInt8}:ByteArray}->Q (12,()) () G)/\(¬¬t.qJ={data:={toList:=[]:Array UInt8}:ByteArray}->t.qZ.length<=2^63-1->((↑t.qZ.length:Int)<b.1->Q (3,()) () G)/\(¬(↑t.qZ.length:Int)<b.1->t.qZ.length<=2^63-1->(b.2.1<(↑t.qZ.length:Int)->Q (3,()) () G)/\(¬b.2.1<(↑t.qZ.length:Int)->Q (0,()) () G))))/\(¬¬t.Op=4->t.qZ.length<=2^63-1->((↑t.qZ.length:Int)<b.1->Q (3,()) () G)/\(¬(↑t.qZ.length:Int)<b.1->t.qZ.length<=2^63-1->(b.2.1<(↑t.qZ.length:Int)->Q (3,()) () G)/\(¬b.2.1<(↑t.qZ.length:Int)->Q (0,()) () G))))))/\(¬t.Op=4->(¬t.Op=4->(¬t.qJ={data:={toList:=[]:Array UInt8}:ByteArray}->Q (12,()) () G)/\(¬¬t.qJ={data:={toList:=[]:Array UInt8}:ByteArray}->t.qZ.length<=2^63-1->((↑t.qZ.length:Int)<b.1->Q (3,()) () G)/\(¬(↑t.qZ.length:Int)<b.1->t.qZ.length<=2^63-1->(b.2.1<(↑t.qZ.length:Int)->Q (3,()) () G)/\(¬b.2.1<(↑t.qZ.length:Int)->Q (0,()) () G))))/\(¬¬t.Op=4->t.qZ.length<=2^63-1->((↑t.qZ.length:Int)<b.1->Q (3,()) () G)/\(¬(↑t.qZ.length:Int)<b.1->t.qZ.length<=2^63-1->(b.2.1<(↑t.qZ.length:Int)->Q (3,()) () G)/\(¬b.2.1<(↑t.qZ.length:Int)->Q (0,()) () G))))))))/\(¬t.Op=2->(t.N<0->Q (2,()) () G)/\(¬t.N<0->((0:Int)<t.N->Q (2,()) () G)/\(¬(0:Int)<t.N->(t.Op=3->t.qJ.size<=2^63-1->(t.qJ.size<1->Q (12,()) () G)/\(¬t.qJ.size<1->t.qJ.size<=2^63-1->(24<t.qJ.size->Q (12,()) () G)/\(¬24<t.qJ.size->t.qZ.length<=2^63-1->((↑t.qZ.length:Int)<b.1->Q (3,()) () G)/\(¬(↑t.qZ.length:Int)<b.1->t.qZ.length<=2^63-1->(b.2.1<(↑t.qZ.length:Int)->Q (3,()) () G)/\(¬b.2.1<(↑t.qZ.length:Int)->Q (0,()) () G)))))/\(¬t.Op=3->(t.Op=4->t.qJ.size<=2^63-1->(t.qJ.size<1->Q (12,()) () G)/\(¬t.qJ.size<1->t.qJ.size<=2^63-1->(24<t.qJ.size->Q (12,()) () G)/\(¬24<t.qJ.size->(¬t.Op=4->(¬t.qJ={data:={toList:=[]:Array UInt8}:ByteArray}->Q (12,()) () G)/\(¬¬t.qJ={data:={toList:=[]:Array UInt8}:ByteArray}->t.qZ.length<=2^63-1->((↑t.qZ.length:Int)<b.1->Q (3,()) () G)/\(¬(↑t.qZ.length:Int)<b.1->t.qZ.length<=2^63-1->(b.2.1<(↑t.qZ.length:Int)->Q (3,()) () G)/\(¬b.2.1<(↑t.qZ.length:Int)->Q (0,()) () G))))/\(¬¬t.Op=4->t.qZ.length<=2^63-1->((↑t.qZ.length:Int)<b.1->Q (3,()) () G)/\(¬(↑t.qZ.length:Int)<b.1->t.qZ.length<=2^63-1->(b.2.1<(↑t.qZ.length:Int)->Q (3,()) () G)/\(¬b.2.1<(↑t.qZ.length:Int)->Q (0,()) () G))))))/\(¬t.Op=4->(¬t.Op=4->(¬t.qJ={data:={toList:=[]:Array UInt8}:ByteArray}->Q (12,()) () G)/\(¬¬t.qJ={data:={toList:=[]:Array UInt8}:ByteArray}->t.qZ.length<=2^63-1->((↑t.qZ.length:Int)<b.1->Q (3,()) () G)/\(¬(↑t.qZ.length:Int)<b.1->t.qZ.length<=2^63-1->(b.2.1<(↑t.qZ.length:Int)->Q (3,()) () G)/\(¬b.2.1<(↑t.qZ.length:Int)->Q (0,()) () G))))/\(¬¬t.Op=4->t.qZ.length<=2^63-1->((↑t.qZ.length:Int)<b.1->Q (3,()) () G)/\(¬(↑t.qZ.length:Int)<b.1->t.qZ.length<=2^63-1->(b.2.1<(↑t.qZ.length:Int)->Q (3,()) () G)/\(¬b.2.1<(↑t.qZ.length:Int)->Q (0,()) () G))))))))))) X));refine⟨λhd=>by rw[UV hd]at h;exact h,λhd=>Apy ?_⟩;rw[GT hd]at h;simp only[Ad4];have key:∀c,CA t=c->Q (c,()) () H:=λc e=>by rw[e]at h;exact h
 generalize hk:G0 t.Op=kk at *;obtain⟨few,many⟩:=kk;simp only;obtain⟨le,mo,w11,w2,w12,w3,w0,l1,l2,l3⟩:=Yt t hk;generalize CA t=w at *;repeat' (first|(refine bh ?_ ?_)|intro _)
 all_goals grind
theorem Aj0{X:PX}:∀(z:Nat)(t:Ae){parts deep:Int}{H:HY}{Q:Int×Int×Unit->UU},SizeOf.sizeOf t<z->(0<=parts/\parts<=4096)->(0<=deep/\deep<=1000)->(parts<=(GX deep parts t).1->((GX deep parts t).2=0->(GX deep parts t).1<=4096)->Q ((GX deep parts t).2,(GX deep parts t).1,()) () H)->qK Sn LB (t,deep,parts,()) H Q X
 |0,_,_,_,_,_,hz,_,_,_=>qG hz (ab _)
 |z+1,t,parts,deep,H,Q,hz,hn,hd,h=>by
  apply Ahx;unfold Acr;refine λ_=>⟨A7.2 (by omega),Apw ?_⟩
  rw[Uy]at h;by_cases a1:64<deep
  .grind
  rw[GT a1]at h ⊢;by_cases a2:CA t=0
  .rw[UV a2]at h;refine⟨λhh=>qG a2 hh,λ_=>⟨λh2=>?_,λh2=>?_⟩⟩
   .grind
   rw[GT h2]at h;refine⟨λm y=>m=t.qZ.length-y.2.1/\y.2.1<=t.qZ.length/\Ee (deep+1) (parts+1) (t.qZ.take y.2.1)=(y.1,0)/\parts+1<=y.1/\y.1<=4096,⟨_,rfl,rfl,a6 _,?_,by omega,by omega⟩,?_⟩
   .rfl
   rintro m ⟨p,i,_⟩ ⟨hm0,hi0,hc0,hp0,hq0⟩ _;have hi:i<=t.qZ.length:=hi0;have hc:Ee (deep+1) (parts+1) (t.qZ.take i)=(p,0):=hc0;have hm:m=t.qZ.length-i:=hm0;have hp:parts+1<=p:=hp0;have hq:p<=4096:=hq0;refine⟨λhlt0 _=>?_,λhge0=>?_⟩
   .have hlt:i<t.qZ.length:=hlt0;have hsz:SizeOf.sizeOf t.qZ[i]<z:=by have:=Ms (ad hlt);omega
    have htk:t.qZ.take (i+1)=t.qZ.take i++[t.qZ[i]]:=a8 hlt;have hsn:=VY (deep+1) t.qZ[i] _ _ _ hc;rw[<-htk]at hsn;refine⟨hlt,λ_=>⟨A7.2 (by omega),?_⟩⟩;refine Aj0 z t.qZ[i] hsz (by omega) (by omega) λl1 l2=>⟨λhf=>?_,λhz0=>⟨by grind,t.qZ.length-(i+1),by omega,rfl,rfl,by grind,?_,?_,?_⟩⟩
    all_goals grind[GX,Ee,Yc,aj]
   grind
  grind
theorem An5{t:Ae}(h:Q ((GX 1 0 t).2,()) () H):qK Acx VK (t,()) H Q X:=by refine wF Tryz.f44 {im:=[1]} (?_:qK Sn LB (t,1,0,()) H (λ(b:Int×Int×UT)_ G=>Q (b.1,()) () G) X);exact Aj0 _ t (a9 _) (by decide) (by decide) λ_ _=>h
theorem Aj6{vars:List Ar}{nm:ByteArray}(hv:vars.length<=1000)(h:Q (if Cl vars nm<vars.length then (Cl vars nm:Int) else -1,()) () H):qK Kg IN (vars,nm,()) H Q X:=by
 refine wF Tryz.f113 {lp:=[(2,⟨[(5,.one (.dat I6))],[0,1],false⟩)]} (?_:∃(V:Nat->Int×UT->Prop),(∃(n:Nat),H=H/\V n (0,()))/\∀n x,V n x->vars.length<=2^63-1->(x.1<(↑vars.length:Int)->IK x.1->(IK x.1->0<=x.1)/\∃(h:x.1.toNat<vars.length),(vars[x.1.toNat].qJ=nm->Q (x.1,()) () H)/\(¬vars[x.1.toNat].qJ=nm->IK x.1->IK (x.1+1)/\∃m,m<n/\H=H/\V m (x.1+1,())))/\(¬x.1<(↑vars.length:Int)->Q (-1,()) () H));refine⟨λn z=>∃j:Nat,z.1=(j:Int)/\n=vars.length-j/\j<=vars.length/\j<=Cl vars nm,⟨_,rfl,0,rfl,rfl,a6 _,a6 _⟩,?_⟩;rintro n ⟨x,_⟩ ⟨j,hx0,hn,hl,hj⟩ _;have hx:x=(j:Int):=hx0;subst hx;have t0:((j:Int)).toNat=j:=by omega
 refine⟨λhlt0 _=>⟨λ_=>by omega,by omega,λhe=>?_,λhe _=>⟨A7.2 (by omega),vars.length-(j+1),?_,rfl,j+1,rfl,rfl,?_,?_⟩⟩,λhge0=>?_⟩;all_goals first
  |have hge:¬(j:Int)<(vars.length:Int):=hge0
   grind
  |have hlt:(j:Int)<(vars.length:Int):=hlt0
 .grind[Cl,List.not_of_lt_findIdx]
 .omega
 .omega
 .have he:¬(vars[((j:Int)).toNat]'(by omega)).qJ=nm:=he;simp only[t0]at he;have:j≠Cl vars nm:=λe=>by have h2:=List.findIdx_getElem (xs:=vars) (p:=λv:Ar=>decide (v.qJ=nm)) (w:=by grind[Cl]);have h2:=of_decide_eq_true h2;subst e;exact he h2
  omega
theorem MR{lo hi:Int}{Q:Af×Int×Unit->UU}(h:Q ((Fe lo hi).1,(Fe lo hi).2,()) () H):qK G6 Gm (lo,hi,()) H Q X:=by
 refine wF Tryz.f112 {} (?_:IK (-1048576)/\(lo < -1048576->Q ({Bool:=false,Lo:=0,Hi:=0:Af},2,()) () H)/\(¬lo < -1048576->((1048576:Int)<lo->Q ({Bool:=false,Lo:=0,Hi:=0:Af},2,()) () H)/\(¬(1048576:Int)<lo->IK (-1048576)/\(hi < -1048576->Q ({Bool:=false,Lo:=0,Hi:=0:Af},2,()) () H)/\(¬hi < -1048576->((1048576:Int)<hi->Q ({Bool:=false,Lo:=0,Hi:=0:Af},2,()) () H)/\(¬(1048576:Int)<hi->(hi<lo->Q ({Bool:=false,Lo:=0,Hi:=0:Af},2,()) () H)/\(¬hi<lo->IK hi->IK lo->IK (hi-lo)/\((4096:Int)<hi-lo->Q ({Bool:=false,Lo:=0,Hi:=0:Af},2,()) () H)/\(¬(4096:Int)<hi-lo->Q ({Bool:=false,Lo:=lo,Hi:=hi:Af},0,()) () H)))))));unfold Fe at h;have no:(lo < -1048576∨1048576<hi∨hi<lo∨4096<hi-lo)->Q (Sz,2,()) () H:=λc=>by grind
 grind[Bn,A7]
theorem Am7{l:List Af}{Q:Bool×Unit->UU}(hl:l.length<=1000)(h:Q (l.all (·.Bool),()) () H):qK Iw GY (l,()) H Q X:=by
 refine wF Tryz.f176 {lp:=[(2,⟨[(3,.nat)],[0],false⟩)]} (?_:∃(V:Nat->Nat×UT->Prop),(∃(n:Nat),H=H/\V n (0,()))/\∀n x,V n x->l.length<=2^63-1->(x.1<l.length->x.1<=2^63-1->∃(h:x.1<l.length),(¬l[x.1].Bool->Q (false,()) () H)/\(¬¬l[x.1].Bool->x.1+1<=2^63-1/\∃m,m<n/\H=H/\V m (x.1+1,())))/\(¬x.1<l.length->Q (true,()) () H));refine⟨λm z=>m=l.length-z.1/\z.1<=l.length/\∀i(hi:i<l.length),i<z.1->l[i].Bool=true,⟨_,rfl,rfl,a6 _,λi _ hi=>qG hi (ab _)⟩,?_⟩;rintro m ⟨k,_⟩ ⟨hm0,hk0,ha0⟩ _;have hm:m=l.length-k:=hm0;have hk:k<=l.length:=hk0;have ha:∀i(hi:i<l.length),i<k->l[i].Bool=true:=ha0;refine⟨λhlt0 _=>?_,λhge0=>?_⟩
 .have hlt:k<l.length:=hlt0;refine⟨hlt,λhn=>?_,λhn=>⟨by grind,l.length-(k+1),by omega,rfl,rfl,by grind,λi hi hik=>?_⟩⟩;all_goals grind
 .have hge:¬k<l.length:=hge0;rw[b5.2 λx hx=>by obtain⟨i,hi,rfl⟩:=bd hx;grind]at h
  exact h
theorem Aki{a b:Af}{Q:Int×Int×Unit->UU}(ha:TyR a)(hb:TyR b)(h:Q (GZ false (a.Lo*b.Lo) [(.i64,a.Lo*b.Hi),(.i64,a.Hi*b.Lo),(.i64,a.Hi*b.Hi)],GZ true (a.Lo*b.Lo) [(.i64,a.Lo*b.Hi),(.i64,a.Hi*b.Lo),(.i64,a.Hi*b.Hi)],()) () H):qK Yw Uf (a,b,()) H Q X:=by
 refine wF Tryz.f177 {lp:=[(4,⟨[(6,.one (.own I6)),(7,.one (.dat I6)),(8,.one (.dat I6)),(9,.nat)],[6],false⟩)],im:=[2,3]} (?_:IK a.Lo->IK b.Lo->IK (a.Lo*b.Lo)/\(IK a.Lo->IK b.Hi->IK (a.Lo*b.Hi)/\(IK a.Hi->IK b.Lo->IK (a.Hi*b.Lo)/\(IK a.Hi->IK b.Hi->IK (a.Hi*b.Hi)/\(True->(0:Int)<=0)/\∃(h:a4 (0:Int)<[a.Lo*b.Lo,a.Lo*b.Hi,a.Hi*b.Lo,a.Hi*b.Hi].length),∃(h:a4 (0:Int)<[a.Lo*b.Lo,a.Lo*b.Hi,a.Hi*b.Lo,a.Hi*b.Hi].length),(True->(0:Int)<=0)/\∃(h1:a4 (0:Int)<[a.Lo*b.Lo,a.Lo*b.Hi,a.Hi*b.Lo,a.Hi*b.Hi].length),∃(h2:a4 (0:Int)<[a.Lo*b.Lo,a.Lo*b.Hi,a.Hi*b.Lo,a.Hi*b.Hi].length),∃(V:Nat->List Int×Int×Int×Nat×UT->Prop),(∃(n:Nat),H=H/\V n ([a.Lo*b.Lo,a.Lo*b.Hi,a.Hi*b.Lo,a.Hi*b.Hi],[a.Lo*b.Lo,a.Lo*b.Hi,a.Hi*b.Lo,a.Hi*b.Hi][a4 (0:Int)],[a.Lo*b.Lo,a.Lo*b.Hi,a.Hi*b.Lo,a.Hi*b.Hi][a4 (0:Int)],1,()))/\∀n x,V n x->(x.2.2.2.1<4->x.2.2.2.1<=2^63-1->∃(h:x.2.2.2.1<x.1.length),∃(h:x.2.2.2.1<x.1.length),x.2.2.2.1<=2^63-1->∃(h3:x.2.2.2.1<x.1.length),∃(h4:x.2.2.2.1<x.1.length),x.2.2.2.1+1<=2^63-1/\∃m,m<n/\H=H/\V m (x.1,GZ false x.2.1 [(.i64,x.1[x.2.2.2.1])],GZ true x.2.2.1 [(.i64,x.1[x.2.2.2.1])],x.2.2.2.1+1,()))/\(¬x.2.2.2.1<4->Q (x.2.1,x.2.2.1,()) () H)))));obtain⟨a1,a2,a3,_⟩:=ha;obtain⟨b1,b2,b3,_⟩:=hb;have mb:∀x y:Int,-1048576<=x->x<=1048576->-1048576<=y->y<=1048576->Bn .i64 (x*y):=λx y h1 h2 h3 h4=>by have:=Agh (x:=x) (y:=y) (by omega) (by omega);grind[A7]
 refine λ_ _=>⟨mb _ _ (by omega) (by omega) (by omega) (by omega),λ_ _=>⟨mb _ _ (by omega) (by omega) (by omega) (by omega),λ_ _=>⟨mb _ _ (by omega) (by omega) (by omega) (by omega),λ_ _=>⟨mb _ _ (by omega) (by omega) (by omega) (by omega),λ_=>by decide,by simp,by simp,λ_=>by decide,by simp,by simp,?_⟩⟩⟩⟩
 generalize a.Lo*b.Lo=p at *;generalize a.Lo*b.Hi=q at *;generalize a.Hi*b.Lo=r at *;generalize a.Hi*b.Hi=s at *;refine⟨λn x=>x.1=[p,q,r,s]/\((n=3/\x.2=(p,p,1,()))∨(n=2/\x.2=(min p q,max p q,2,()))∨(n=1/\x.2=(min (min p q) r,max (max p q) r,3,()))∨(n=0/\x.2=(min (min (min p q) r) s,max (max (max p q) r) s,4,()))),⟨3,rfl,rfl,.inl ⟨rfl,rfl⟩⟩,?_⟩;rintro n ⟨l,lo,hi,i,_⟩ ⟨hl,hx⟩;have hl:l=[p,q,r,s]:=hl;subst hl;rcases hx with ⟨rfl,hx⟩|⟨rfl,hx⟩|⟨rfl,hx⟩|⟨rfl,hx⟩<;>cases hx
 .exact⟨λ_ _=>⟨by omega,by omega,λ_=>⟨by omega,by omega,by simp,2,by decide,rfl,rfl,.inr (.inl ⟨rfl,rfl⟩)⟩⟩,λhh=>qG (show 1<4 by decide) hh⟩
 .exact⟨λ_ _=>⟨by omega,by omega,λ_=>⟨by omega,by omega,by simp,1,by decide,rfl,rfl,.inr (.inr (.inl ⟨rfl,rfl⟩))⟩⟩,λhh=>qG (show 2<4 by decide) hh⟩
 .exact⟨λ_ _=>⟨by omega,by omega,λ_=>⟨by omega,by omega,by simp,0,by decide,rfl,rfl,.inr (.inr (.inr ⟨rfl,rfl⟩))⟩⟩,λhh=>qG (show 3<4 by decide) hh⟩
 .exact⟨λhh=>qG hh (by simp),λ_=>h⟩
end
section
variable {t:Ae}
theorem Ak9(ok:Yk t):1<=t.Op/\t.Op<=18/\t.qZ.length<=64/\(t.Op<=4->t.qZ=[])/\(t.Op=5->t.qZ.length=1)/\(8<=t.Op->t.Op<=17->t.qZ.length=2)/\(t.Op=18->t.qZ.length=3):=by obtain⟨o1,o18,l4,l5,l64,l8,l18⟩:=ok.len;grind
variable {vars:List Ar} {next:Bool}
theorem Apu{l:List Af}{H:HY}{X:PX}{Q:Af×Int×Unit->UU}(ok:Yk t)(h5:5<=t.Op)(hl:l.length=t.qZ.length)(hT:∀y∈l,TyR y)(h:Q ((Cp vars next t l).1,(Cp vars next t l).2,()) () H):qK Ac0 W5 (t,l,()) H Q X:=by
 obtain⟨o1,o18,l64,_,_,l8,l18⟩:=Ak9 ok;refine wF Tryz.f114 {im:=[2]} (?_:(t.Op=5->qK Iw GY (l,()) H (λ(b:Bool×UT)_ G=>(¬b.1->Q ({Bool:=false,Lo:=0,Hi:=0:Af},13,()) () G)/\(¬¬b.1->Q ({Bool:=true,Lo:=0,Hi:=0:Af},0,()) () G)) X)/\(¬t.Op=5->(t.Op=6->qK Iw GY (l,()) H (λ(b:Bool×UT)_ G=>(¬b.1->Q ({Bool:=false,Lo:=0,Hi:=0:Af},13,()) () G)/\(¬¬b.1->Q ({Bool:=true,Lo:=0,Hi:=0:Af},0,()) () G)) X)/\(¬t.Op=6->(t.Op=7->qK Iw GY (l,()) H (λ(b:Bool×UT)_ G=>(¬b.1->Q ({Bool:=false,Lo:=0,Hi:=0:Af},13,()) () G)/\(¬¬b.1->Q ({Bool:=true,Lo:=0,Hi:=0:Af},0,()) () G)) X)/\(¬t.Op=7->(t.Op=8->qK Iw GY (l,()) H (λ(b:Bool×UT)_ G=>(¬b.1->Q ({Bool:=false,Lo:=0,Hi:=0:Af},13,()) () G)/\(¬¬b.1->Q ({Bool:=true,Lo:=0,Hi:=0:Af},0,()) () G)) X)/\(¬t.Op=8->(t.Op=9->qK Iw GY (l,()) H (λ(b:Bool×UT)_ G=>(¬b.1->Q ({Bool:=false,Lo:=0,Hi:=0:Af},13,()) () G)/\(¬¬b.1->Q ({Bool:=true,Lo:=0,Hi:=0:Af},0,()) () G)) X)/\(¬t.Op=9->(t.Op=10->(True->(0:Int)<=0)/\∃(h:a4 (0:Int)<l.length),(True->(0:Int)<=1)/\∃(h1:a4 (1:Int)<l.length),(not (decide (l[a4 (0:Int)].Bool=true)==decide (l[a4 (1:Int)].Bool=true))->Q ({Bool:=false,Lo:=0,Hi:=0:Af},13,()) () H)/\(¬not (decide (l[a4 (0:Int)].Bool=true)==decide (l[a4 (1:Int)].Bool=true))->Q ({Bool:=true,Lo:=0,Hi:=0:Af},0,()) () H))/\(¬t.Op=10->(t.Op=11->(True->(0:Int)<=0)/\∃(h:a4 (0:Int)<l.length),(True->(0:Int)<=1)/\∃(h1:a4 (1:Int)<l.length),(not (decide (l[a4 (0:Int)].Bool=true)==decide (l[a4 (1:Int)].Bool=true))->Q ({Bool:=false,Lo:=0,Hi:=0:Af},13,()) () H)/\(¬not (decide (l[a4 (0:Int)].Bool=true)==decide (l[a4 (1:Int)].Bool=true))->Q ({Bool:=true,Lo:=0,Hi:=0:Af},0,()) () H))/\(¬t.Op=11->(t.Op=18->(True->(0:Int)<=0)/\∃(h:a4 (0:Int)<l.length),(¬l[a4 (0:Int)].Bool->Q ({Bool:=false,Lo:=0,Hi:=0:Af},13,()) () H)/\(¬¬l[a4 (0:Int)].Bool->(True->(0:Int)<=1)/\∃(h:a4 (1:Int)<l.length),(True->(0:Int)<=2)/\∃(h1:a4 (2:Int)<l.length),(not (decide (l[a4 (1:Int)].Bool=true)==decide (l[a4 (2:Int)].Bool=true))->Q ({Bool:=false,Lo:=0,Hi:=0:Af},13,()) () H)/\(¬not (decide (l[a4 (1:Int)].Bool=true)==decide (l[a4 (2:Int)].Bool=true))->(True->(0:Int)<=1)/\∃(h:a4 (1:Int)<l.length),(l[a4 (1:Int)].Bool->Q ({Bool:=true,Lo:=0,Hi:=0:Af},0,()) () H)/\(¬l[a4 (1:Int)].Bool->(True->(0:Int)<=1)/\∃(h:a4 (1:Int)<l.length),(True->(0:Int)<=2)/\∃(h2:a4 (2:Int)<l.length),(True->(0:Int)<=1)/\∃(h3:a4 (1:Int)<l.length),(True->(0:Int)<=2)/\∃(h4:a4 (2:Int)<l.length),qK G6 Gm (GZ false l[a4 (1:Int)].Lo [(.i64,l[a4 (2:Int)].Lo)],GZ true l[a4 (1:Int)].Hi [(.i64,l[a4 (2:Int)].Hi)],()) H (λ(b:Af×Int×UT)_ G=>Q (b.1,b.2.1,()) () G) X))))/\(¬t.Op=18->(True->(0:Int)<=0)/\∃(h:a4 (0:Int)<l.length),(l[a4 (0:Int)].Bool->Q ({Bool:=false,Lo:=0,Hi:=0:Af},13,()) () H)/\(¬l[a4 (0:Int)].Bool->(True->(0:Int)<=1)/\∃(h:a4 (1:Int)<l.length),(l[a4 (1:Int)].Bool->Q ({Bool:=false,Lo:=0,Hi:=0:Af},13,()) () H)/\(¬l[a4 (1:Int)].Bool->(t.Op=14->(True->(0:Int)<=0)/\∃(h:a4 (0:Int)<l.length),(True->(0:Int)<=1)/\∃(h1:a4 (1:Int)<l.length),IK l[a4 (0:Int)].Lo->IK l[a4 (1:Int)].Lo->IK (l[a4 (0:Int)].Lo+l[a4 (1:Int)].Lo)/\(True->(0:Int)<=0)/\∃(h2:a4 (0:Int)<l.length),(True->(0:Int)<=1)/\∃(h3:a4 (1:Int)<l.length),IK l[a4 (0:Int)].Hi->IK l[a4 (1:Int)].Hi->IK (l[a4 (0:Int)].Hi+l[a4 (1:Int)].Hi)/\qK G6 Gm (l[a4 (0:Int)].Lo+l[a4 (1:Int)].Lo,l[a4 (0:Int)].Hi+l[a4 (1:Int)].Hi,()) H (λ(b:Af×Int×UT)_ G=>Q (b.1,b.2.1,()) () G) X)/\(¬t.Op=14->(t.Op=15->(True->(0:Int)<=0)/\∃(h:a4 (0:Int)<l.length),(True->(0:Int)<=1)/\∃(h1:a4 (1:Int)<l.length),IK l[a4 (0:Int)].Lo->IK l[a4 (1:Int)].Hi->IK (l[a4 (0:Int)].Lo-l[a4 (1:Int)].Hi)/\(True->(0:Int)<=0)/\∃(h2:a4 (0:Int)<l.length),(True->(0:Int)<=1)/\∃(h3:a4 (1:Int)<l.length),IK l[a4 (0:Int)].Hi->IK l[a4 (1:Int)].Lo->IK (l[a4 (0:Int)].Hi-l[a4 (1:Int)].Lo)/\qK G6 Gm (l[a4 (0:Int)].Lo-l[a4 (1:Int)].Hi,l[a4 (0:Int)].Hi-l[a4 (1:Int)].Lo,()) H (λ(b:Af×Int×UT)_ G=>Q (b.1,b.2.1,()) () G) X)/\(¬t.Op=15->(t.Op=16->(True->(0:Int)<=0)/\∃(h:a4 (0:Int)<l.length),(True->(0:Int)<=1)/\∃(h1:a4 (1:Int)<l.length),qK Yw Uf (l[a4 (0:Int)],l[a4 (1:Int)],()) H (λ(b:Int×Int×UT)_ G=>qK G6 Gm (b.1,b.2.1,()) G (λ(b:Af×Int×UT)_ G=>Q (b.1,b.2.1,()) () G) X) X)/\(¬t.Op=16->(t.Op=17->(True->(0:Int)<=1)/\∃(h:a4 (1:Int)<t.qZ.length),(¬t.qZ[a4 (1:Int)].Op=1->Q ({Bool:=false,Lo:=0,Hi:=0:Af},2,()) () H)/\(¬¬t.qZ[a4 (1:Int)].Op=1->(True->(0:Int)<=1)/\∃(h:a4 (1:Int)<t.qZ.length),(t.qZ[a4 (1:Int)].N<1->Q ({Bool:=false,Lo:=0,Hi:=0:Af},2,()) () H)/\(¬t.qZ[a4 (1:Int)].N<1->(True->(0:Int)<=1)/\∃(h:a4 (1:Int)<t.qZ.length),IK t.qZ[a4 1].N->IK (t.qZ[a4 1].N-1)/\qK G6 Gm (0,t.qZ[a4 1].N-1,()) H (λ(b:Af×Int×UT)_ G=>Q (b.1,b.2.1,()) () G) X)))/\(¬t.Op=17->Q ({Bool:=true,Lo:=0,Hi:=0:Af},0,()) () H)))))))))))))));have key:∀y e,Cp vars next t l=(y,e)->Q (y,e,()) () H:=λy e he=>by rw[he]at h;exact h
 have P5:t.Op<=9->Cp vars next t l=KA l:=λh2=>by unfold Cp;rw[GT (by omega),GT (by omega),GT (by omega),UV ⟨h5,h2⟩]
 have PN:10<=t.Op->Cp vars next t l=if t.Op=18 then ifE l else if t.Op=10∨t.Op=11 then eqE l else Aq2 t.Op t.qZ l:=λh2=>by unfold Cp;rw[GT (by omega),GT (by omega),GT (by omega),GT (by omega)]
 have tr:t.Op<=9->qK Iw GY (l,()) H (λ(b:Bool×Unit)io H'=>(¬b.1=true->Q ({Bool:=false,Lo:=(0:Int),Hi:=(0:Int):Af},13,()) () H')/\(¬¬b.1=true->Q ({Bool:=true,Lo:=(0:Int),Hi:=(0:Int):Af},0,()) () H')) X:=λh2=>Am7 (by omega) (by have e:=P5 h2;unfold KA at e;exact⟨λhn=>key _ _ (e.trans (GT hn)),λhn=>key _ _ (e.trans (UV (aa.1 hn)))⟩)
 refine⟨λ_=>tr (by omega),λ_=>⟨λ_=>tr (by omega),λ_=>⟨λ_=>tr (by omega),λ_=>⟨λ_=>tr (by omega),λ_=>⟨λ_=>tr (by omega),λn9=>⟨λe=>?_,λn10=>⟨λe=>?_,λn11=>⟨λe=>?_,λn18=>?_⟩⟩⟩⟩⟩⟩⟩⟩;iterate 2
  .obtain⟨a,b,rfl⟩:=kl2 (hl.trans (l8 (by omega) (by omega)))
   have hP:Cp vars next t [a,b]=if a.Bool≠b.Bool then (Sz,13) else (N6,0):=by rw[PN (by omega),GT (by omega),UV (by omega)];rfl
   exact⟨λ_=>by decide,by show 0<2;decide,λ_=>by decide,by show 1<2;decide,λhb=>key _ _ (hP.trans (UV ((nb _ _).1 hb))),λhb=>key _ _ (hP.trans (GT λhh=>hb ((nb _ _).2 hh)))⟩
 .obtain⟨a,b,c,rfl⟩:=kl3 (hl.trans (l18 e));have hP:Cp vars next t [a,b,c]=if ¬a.Bool=true∨b.Bool≠c.Bool then (Sz,13) else if b.Bool=true then (b,0) else Fe (GZ false b.Lo [(.i64,c.Lo)]) (GZ true b.Hi [(.i64,c.Hi)]):=by rw[PN (by omega),UV e];rfl
  refine⟨λ_=>by decide,by show 0<3;decide,λhn=>key _ _ (hP.trans (UV (.inl hn))),λhn=>⟨λ_=>by decide,by show 1<3;decide,λ_=>by decide,by show 2<3;decide,λhb=>key _ _ (hP.trans (UV (.inr ((nb _ _).1 hb)))),λhb=>⟨λ_=>by decide,by show 1<3;decide,λhc=>key _ _ ?_,λhc=>⟨λ_=>by decide,by show 1<3;decide,λ_=>by decide,by show 2<3;decide,λ_=>by decide,by show 1<3;decide,λ_=>by decide,by show 2<3;decide,MR (key _ _ ?_)⟩⟩⟩⟩;all_goals
   have hn:a.Bool=true:=aa.1 hn
   have hb:¬not (decide (b.Bool=true)==decide (c.Bool=true))=true:=hb
   have hh:¬(¬a.Bool=true∨b.Bool≠c.Bool):=λhh=>hh.elim (λh1=>h1 hn) λh2=>hb ((nb _ _).2 h2)
  .have hc:b.Bool=true:=hc;rw[hP,GT hh,UV hc,(hT b (by simp)).2.2.2 hc]
  .have hc:¬b.Bool=true:=hc;rw[hP,GT hh,GT hc];rfl
 .obtain⟨a,b,rfl⟩:=kl2 (hl.trans (l8 (by omega) (by omega)));obtain⟨k0,k1,hks⟩:=kl2 (l8 (by omega) (by omega));have ha:=hT a (by simp);have hb:=hT b (by simp);have hP:Cp vars next t [a,b]=if a.Bool=true∨b.Bool=true then (Sz,13) else if t.Op=12∨t.Op=13 then (N6,0) else if t.Op=17 then Ai6 t.qZ else Oa t.Op a b:=by rw[PN (by omega),GT n18,GT (by omega)];rfl
  refine⟨λ_=>by decide,by show 0<2;decide,λh1=>key _ _ (hP.trans (UV (.inl h1))),λh1=>⟨λ_=>by decide,by show 1<2;decide,λh2=>key _ _ (hP.trans (UV (.inr h2))),λh2=>?_⟩⟩;have hP:=hP.trans (GT λhh=>hh.elim h1 h2);obtain⟨a1,a2,a3,_⟩:=ha;obtain⟨b1,b2,b3,_⟩:=hb;have d0:∀{m:Nat},(True->(0:Int)<=(m:Int)):=λ{m}_=>ah m;refine⟨λe=>?_,λn14=>⟨λe=>?_,λn15=>⟨λe=>?_,λn16=>⟨λe=>?_,λn17=>key _ _ (hP.trans (UV (by omega)))⟩⟩⟩⟩
  .have hP:=(hP.trans (GT (by omega))).trans (GT (by omega));unfold Oa at hP;exact⟨λ_=>by decide,by show 0<2;decide,λ_=>by decide,by show 1<2;decide,λ_ _=>⟨A7.2 (by show _<=a.Lo+b.Lo/\a.Lo+b.Lo<=_;omega),λ_=>by decide,by show 0<2;decide,λ_=>by decide,by show 1<2;decide,λ_ _=>⟨A7.2 (by show _<=a.Hi+b.Hi/\a.Hi+b.Hi<=_;omega),MR (key _ _ ((hP.trans (GT (by omega))).trans (UV e)))⟩⟩⟩
  .have hP:=(hP.trans (GT (by omega))).trans (GT (by omega));unfold Oa at hP;exact⟨λ_=>by decide,by show 0<2;decide,λ_=>by decide,by show 1<2;decide,λ_ _=>⟨A7.2 (by show _<=a.Lo-b.Hi/\a.Lo-b.Hi<=_;omega),λ_=>by decide,by show 0<2;decide,λ_=>by decide,by show 1<2;decide,λ_ _=>⟨A7.2 (by show _<=a.Hi-b.Lo/\a.Hi-b.Lo<=_;omega),MR (key _ _ (hP.trans (UV e)))⟩⟩⟩
  .have hP:=(hP.trans (GT (by omega))).trans (GT (by omega));unfold Oa at hP;refine⟨λ_=>by decide,by show 0<2;decide,λ_=>by decide,by show 1<2;decide,Aki (hT a (by simp)) (hT b (by simp)) (MR (key _ _ ((hP.trans (GT (by omega))).trans (GT (by omega)))))⟩
  .have hM:Ai6 t.qZ=if k1.Op≠1∨k1.N<1 then (Sz,2) else Fe 0 (k1.N-1):=by rw[hks];rfl
   have hP:=((hP.trans (GT (by omega))).trans (UV e)).trans hM;have hkl:1<t.qZ.length:=by rw[hks];show 1<2;decide
   have hk1:t.qZ[a4 (1:Int)]'hkl=k1:=by simp [hks]
   refine⟨λ_=>by decide,hkl,λho=>key _ _ (hP.trans (UV ?_)),λho=>⟨λ_=>by decide,hkl,λhN=>key _ _ (hP.trans (UV ?_)),λhN=>⟨λ_=>by decide,hkl,λhi=>⟨?_,MR (key _ _ ?_)⟩⟩⟩⟩
   .rw[hk1]at ho;exact .inl ho
   .rw[hk1]at hN;exact .inr hN
   all_goals
    rw[hk1]at ho hN
    have ho:=aa.1 ho
   .have hi:Bn .i64 (t.qZ[a4 (1:Int)]'hkl).N:=hi;rw[hk1]at hi;show Bn .i64 ((t.qZ[a4 (1:Int)]'hkl).N-1);rw[hk1];have:=A7.1 hi;exact A7.2 (by omega)
   .show _=Fe 0 ((t.qZ[a4 (1:Int)]'hkl).N-1);rw[hk1];exact hP.trans (GT (by omega))
theorem Aza:∀{l:List Ae},(Ct vars next l).2=0->∀y∈(Ct vars next l).1,TyR y:=λ{l}h y hy=>by obtain⟨h1,h2⟩:=Xj h;rw[h1]at hy;obtain⟨k,hk,rfl⟩:=ap.1 hy;exact SH _ k (a9 _) (h2 k hk)
theorem Ajj{vars:List Ar}{next:Bool}{X:PX}(hv:vars.length<=1000):∀(z:Nat)(t:Ae){H:HY}{Q:Af×Int×Unit->UU},SizeOf.sizeOf t<z->Yk t->Q ((Bf vars next t).1,(Bf vars next t).2,()) () H->qK RY Ll (vars,t,next,()) H Q X
 |0,_,_,_,hz,_,_=>qG hz (ab _)
 |z+1,t,H,Q,hz,ok,h=>by
  obtain⟨o1,o18,l64,l4,_⟩:=Ak9 ok;apply Af5;unfold Aay;rw[Yx]at h;have h4:t.Op<=4->∀y e,Cp vars next t []=(y,e)->Q (y,e,()) () H:=λho y e he=>by rw[l4 ho,Ct,UV rfl,he]at h;exact h
  have NM:(t.Op=3∨t.Op=4)->qK Kg IN (vars,t.qJ,()) H (λ(b:Int×Unit)io H'=>(b.1<0->Q ({Bool:=false,Lo:=(0:Int),Hi:=(0:Int):Af},12,()) () H')/\
    (¬b.1<0->(t.Op=(4:Int)->(¬next=true->Q ({Bool:=false,Lo:=(0:Int),Hi:=(0:Int):Af},24,()) () H')/\(¬¬next=true->Bn .i64 b.1->(Bn .i64 b.1->0<=b.1)/\∃(h:b.1.toNat<vars.length),(vars[b.1.toNat].Bool=true->Q ({Bool:=true,Lo:=(0:Int),Hi:=(0:Int):Af},
    0,()) () H')/\(¬vars[b.1.toNat].Bool=true->Bn .i64 b.1->(Bn .i64 b.1->0<=b.1)/\∃(h:b.1.toNat<vars.length),Bn .i64 b.1->(Bn .i64 b.1->0<=b.1)/\∃(h_1:b.1.toNat<vars.length),qK G6 Gm
    (vars[b.1.toNat].Lo,vars[b.1.toNat].Hi,()) H' (λ(b:Af×Int×Unit)io H'=>Q (b.1,b.2.1,()) () H') X)))/\(¬t.Op=(4:Int)->Bn .i64 b.1->(Bn .i64 b.1->0<=b.1)/\∃(h:b.1.toNat<vars.length),(vars[b.1.toNat].Bool
    = true->Q ({Bool:=true,Lo:=(0:Int),Hi:=(0:Int):Af},0,()) () H')/\(¬vars[b.1.toNat].Bool=true->Bn .i64 b.1->(Bn .i64 b.1->0<=b.1)/\∃(h:b.1.toNat<vars.length),Bn .i64 b.1->(Bn .i64 b.1->0<=b.1)/\∃(h_1:b.1.toNat <
    vars.length),qK G6 Gm (vars[b.1.toNat].Lo,vars[b.1.toNat].Hi,()) H' (λ(b:Af×Int×Unit)io H'=>Q (b.1,b.2.1,()) () H') X)))) X:=λho=>by
   have hP:Cp vars next t []=R5 vars t.Op t.qJ next:=by unfold Cp;rw[GT (by omega),GT (by omega),UV ho]
   have key:=h4 (by omega)
   rw[hP]at key
   refine Aj6 hv ?_
   by_cases hi:Cl vars t.qJ<vars.length
   .rw[UV hi]
    unfold R5 at key
    rw[a5 hi]at key
    dsimp only at key
    have e0:((Cl vars t.qJ:Nat):Int).toNat=Cl vars t.qJ:=b4 _
    have hi':((Cl vars t.qJ:Nat):Int).toNat<vars.length:=by rw[e0];exact hi
    have ev:vars[((Cl vars t.qJ:Nat):Int).toNat]'hi'=vars[Cl vars t.qJ]:=by simp only[e0]
    have nn:(0:Int)<=(Cl vars t.qJ:Nat):=ah _
    have fin:¬(t.Op=4/\next=false)->∀{p q:Prop},(∃(h:((Cl vars t.qJ:Nat):Int).toNat<vars.length),(vars[((Cl vars t.qJ:Nat):Int).toNat].Bool=true->Q ({Bool:=true,Lo:=(0:Int),Hi:=(0:Int):Af},0,()) () H)/\(¬vars[((Cl vars t.qJ:Nat):Int).toNat].Bool=true->Bn .i64 ((Cl vars t.qJ:Nat):Int)->(Bn .i64 ((Cl vars t.qJ:Nat):Int)->(0:Int)<=((Cl vars t.qJ:Nat):Int))/\∃(h:((Cl vars t.qJ:Nat):Int).toNat<vars.length),Bn .i64 ((Cl vars t.qJ:Nat):Int)->(Bn .i64 ((Cl vars t.qJ:Nat):Int)->(0:Int)<=((Cl vars t.qJ:Nat):Int))/\∃(h_1:((Cl vars t.qJ:Nat):Int).toNat<vars.length),qK G6 Gm (vars[((Cl vars t.qJ:Nat):Int).toNat].Lo,vars[((Cl vars t.qJ:Nat):Int).toNat].Hi,()) H (λ(b:Af×Int×Unit)io H'=>Q (b.1,b.2.1,()) () H') X)):=λhc{_ _}=>by rw[GT hc]at key;refine⟨hi',λhb=>key _ _ (UV (by rw[<-ev];exact hb)),λhb _=>⟨λ_=>nn,hi',λ_=>⟨λ_=>nn,hi',MR (key _ _ ?_)⟩⟩⟩;rw[GT (by rw[<-ev];exact hb)];simp only[ev]
    refine⟨λhn=>qG hn (by show ¬((Cl vars t.qJ:Nat):Int)<0;omega),λ_=>⟨λe=>⟨λhx=>key _ _ (UV ⟨e,by simpa using hx⟩),λhx _=>⟨λ_=>nn,fin (λhc=>hx (by rw[hc.2];decide)) (p:=True) (q:=True)⟩⟩,λe _=>⟨λ_=>nn,fin (λhc=>e hc.1) (p:=True) (q:=True)⟩⟩⟩
   .rw[GT hi]
    unfold R5 at key
    rw[ak (by omega)]at key
    exact⟨λ_=>key _ _ rfl,λhn=>qG (by decide) hn⟩
  refine⟨λe=>MR (h4 (by omega) _ _ (by unfold Cp;exact UV e)),λn1=>⟨λe=>h4 (by omega) _ _ (by unfold Cp;rw[GT n1,UV e]),λn2=>⟨λe=>NM (.inl e),λn3=>⟨λe=>NM (.inr e),λn4=>?_⟩⟩⟩⟩;refine⟨λn x=>n=t.qZ.length-x.2.2.1/\x.2.2.1<=t.qZ.length/\Ct vars next (t.qZ.take x.2.2.1)=(x.2.1,0),⟨_,rfl,rfl,a6 _,by show Ct vars next []=_;rw[Ct]⟩,?_⟩;rintro n ⟨⟨q1,q2,q3,_⟩,ys,i,_⟩ ⟨hn0,hi0,hy0⟩ _;have hn:n=t.qZ.length-i:=hn0;have hi:i<=t.qZ.length:=hi0;have hy:Ct vars next (t.qZ.take i)=(ys,0):=hy0;have hyl:ys.length=i:=by have:=Xi (vars:=vars) (next:=next) (t.qZ.take i) (by rw[hy]);rw[hy,b6]at this;have this:ys.length=min i t.qZ.length:=this;omega
  refine⟨λhlt0 _=>?_,λhge0=>?_⟩
  .have hlt:i<t.qZ.length:=hlt0;have htk:t.qZ.take (i+1)=t.qZ.take i++[t.qZ[i]]:=a8 hlt;have hsn:=U6 (vars:=vars) (next:=next) t.qZ[i] _ hy;rw[<-htk]at hsn;refine⟨hlt,Ajj hv z t.qZ[i] (by have:=Ms (ad hlt);omega) (ok.k _ (ad hlt)) ⟨λhf=>?_,λhz0=>⟨by show (ys.length+1)*24<=_;omega,by grind,t.qZ.length-(i+1),by omega,rfl,rfl,by grind,?_⟩⟩⟩
   .have hf:¬(Bf vars next t.qZ[i]).2=0:=hf;rw[GT hf]at hsn;have e5:Ct vars next t.qZ=([],(Bf vars next t.qZ[i]).2):=by have:=Xk (vars:=vars) (next:=next) (t.qZ.drop (i+1)) (t.qZ.take (i+1)) (by grind);rw[aj]at this;rw[this,hsn]
    grind
   grind
  .have hge:¬i<t.qZ.length:=hge0;have ei:i=t.qZ.length:=by omega
   subst ei;rw[bi]at hy;have hT:=Aza (vars:=vars) (next:=next) (l:=t.qZ) (by rw[hy]);rw[hy]at hT;rw[hy,UV rfl]at h;grind[Apu]
theorem Acz{H:HY}{X:PX}{Q:Af×Int×Unit->UU}(hv:vars.length<=1000)(h:Q ((Nq vars next t).1,(Nq vars next t).2,()) () H):qK XA TI (vars,t,next,()) H Q X:=by
 refine wF Tryz.f13 {im:=[4]} (?_:qK Acx VK (t,()) H (λ(b:Int×UT)_ G=>(¬b.1=0->Q ({Bool:=false,Lo:=0,Hi:=0:Af},b.1,()) () G)/\(¬¬b.1=0->qK RY Ll (vars,t,next,()) G (λ(b:Af×Int×UT)_ G=>Q (b.1,b.2.1,()) () G) X)) X);unfold Nq at h;refine An5 ⟨λhn=>?_,λhn=>?_⟩
 .grind
 .have hn:(GX 1 0 t).2=0:=aa.1 hn;rw[UV hn]at h;exact Ajj hv _ t (a9 _) (Z5 _ t _ _ (a9 _) hn) h
end
section
set_option maxRecDepth 100000
set_option maxHeartbeats 2000000
end
end Go.Proofs.YtcbkbpjlbmalmaaGreatDoor
