/-
  The law BlastEquals, as a contract. (Merged by program out of 8 texts.)
-/
import Derived.Test.YtcbkbpjlbmalmaaGreatDoorEai
open Decidable renaming decide->ν
open Classical renaming byContradiction->a0,not_not->a8
open List renaming length_map->a3,getElem_map->a5,length_cons->a6,length_nil->a7,length_append->a9,take_succ_eq_append_getElem->aa,range->ac,getElem_range->ad,length_range->ae,getElem?_eq_getElem->af,length_drop->ag,take_of_length_le->ah,getElem_mem->ak,map_cons->ap,length->f
open Nat renaming lt_succ_self->a4,zero_le->ai
open Bool renaming and_eq_true->ab,or_false->ao,true->d,false->σ
open Int renaming toNat_natCast->aj,tdiv->an
open Option renaming some.inj->am,some->δ
namespace Go.Proofs.YtcbkbpjlbmalmaaGreatDoor
open Go Go.X Go.Y
section
variable {H:HY} {X:PX}
theorem Eu{y:Bool}{Q:Int×Unit->UU}(h:Q (Rg y,()) () H):qK 179 Av (y,()) H Q X:=by grind[OT,JN,Rg]
theorem Aao{n:Int}{Q:Bool×Unit->UU}(hn:-1048576<=n/\n<=1048576)(h:Q (σ,()) () H):qK 180 CX (n,()) H Q X:=by grind[Rb,Lr,decide_eq_false]
theorem K4{n:Int}{Q:Int×Unit->UU}(hn:-1048576<=n/\n<=1048576)(h:Q (max n (-n),()) () H):qK 181 EG (n,()) H Q X:=by refine wF Tryz.f181 {} (?_:IK n->IK (-n)/\Q (KL d n [(.i64,-n)],()) () H);exact λ_=>⟨Aq.2 (by omega),h⟩
theorem Au7{m x:Int}(h1:1<=m)(h2:m<=1048576)(h3:x<=1048576):Bl .i64 (an 9007199254740992 m)/\¬an 9007199254740992 m<x:=by rw[Int.tdiv_eq_ediv_of_nonneg (by decide)];have e1:1048576<=9007199254740992/m:=(Int.le_ediv_iff_mul_le (by omega)).2 (by omega);have e2:9007199254740992/m<=9007199254740992:=Int.ediv_le_self _ (by decide);grind[Aq]
structure Afs(L:Ae)(next:Bool)(a:B.As)(s:List Int):Prop where
 len:f s=f L.Aa
 at_:∀i(_:i<f L.Aa)(h:i<f s),CB L next i a=δ s[i]
theorem Afs.all{L:Ae}(hL:JJ L){next:Bool}{a:B.As}{s:List Int}(h:Afs L next a s):Io L next (f L.Aa) a=d:=
 (NO hL).2 λi hi=>by rw[h.at_ i hi (by rw[h.len];exact hi)];rfl
theorem As3{L:Ae}(hL:JJ L){a:B.As}{t:Ab}{s:List Int}(o:t.Op=3∨t.Op=4)(he:(GC L.Aa t.Op t.qJ d).2=0)(et:AA L.Aa d t=GC L.Aa t.Op t.qJ d)(tv:Afh L a t)(hs:Afs L (ν (t.Op=4)) a s):∃(hi:AY L.Aa t.qJ<f L.Aa)(h:AY L.Aa t.qJ<f s),LX L t a=s[AY L.Aa t.qJ]/\(L.Aa[AY L.Aa t.qJ].Bool=d->s[AY L.Aa t.qJ]=0∨s[AY L.Aa t.qJ]=1):=by
 have hi:AY L.Aa t.qJ<f L.Aa:=a0 λh=>by grind[GC]
 have h:AY L.Aa t.qJ<f s:=by rw[hs.len];exact hi
 have nv:=hs.at_ _ hi h;refine⟨hi,h,?_⟩;have e1:GC L.Aa t.Op t.qJ d=if L.Aa[AY _ _].Bool=d then (L5,0) else CV L.Aa[AY _ _].Lo L.Aa[AY _ _].Hi:=by grind[GC]
 have ni:=(Jc hL hi).1 nv;by_cases hb:L.Aa[AY _ _].Bool=d
 .rw[UV hb]at e1;have v01:s[AY _ _]=0∨s[AY _ _]=1:=by grind[Aea,Ajh]
  refine⟨?_,λ_=>v01⟩;rw[tv.b (by rw[et,e1])];have e2:(Bq L t).1 a=Ym L (ν (t.Op=4)) (AY L.Aa t.qJ) 1 a:=by rw[Kx];unfold To;rw[GT (by omega),UV o];rfl
  rw[e2];have i1:=Jc hL hi (next:=ν (t.Op=4)) (a:=a) (n:=1);rw[Aea hb,Ajh hb,nv]at i1;rcases v01 with e|e
  .grind[A2y,Ym,decide,AY,am]
  .rw[e]at i1 ⊢;exact WY.2 (i1.1 rfl).2
 .rw[GT hb]at e1;refine⟨?_,λh=>qG h hb⟩;have sB:∀{lo hi:Int},(CV lo hi).1.Bool=σ:=λ{lo hi}=>by unfold CV;split<;>rfl
  have h1:=tv.n (by grind);have e2:(Bq L t).2=CB L (ν (t.Op=4)) (AY L.Aa t.qJ):=by rw[Kx];unfold opN;rw[GT (by omega),UV o]
  simp_all
set_option maxHeartbeats 1000000 in
theorem P0{L:Ae}{a:B.As}{s n:List Int}{X:PX}(hL:JJ L)(h8:2*Fy L<=8)(hv:f L.Aa<=1000)(hs:Afs L σ a s)(hn:Afs L d a n):∀(z:Nat)(t:Ab){H:HY}{Q:Int×Bool×Unit->UU},SizeOf.sizeOf t<z->Um t->Er t<=40->(AA L.Aa d t).2=0->Q (LX L t a,d,()) () H->qK 118 GU (L.Aa,t,s,n,()) H Q X
 |0,_,_,_,hz,_,_,_,_=>qG hz (Nat.not_lt_zero _)
 |z+1,t,H,Q,hz,ok,hsz,he,h=>by
  have a1:=hs.all hL;have a2:=hn.all hL;have tvo:∀k,Um k->Er k<=40->(AA L.Aa d k).2=0->Afh L a k:=λk o1 o2 o3=>.of (Aaj (n0:=8) hL h8 h8 hv _ k (a4 _) o1 o2 o3) (LN _ k (a4 _) o3) a1 a2;have tv:=tvo t ok hsz he;have et0:=L4 L.Aa d t;have ek:(B6 L.Aa d t.qZ).2=0:=a0 λhh=>by grind
  obtain⟨k1,k2⟩:=N8 ek;have et:AA L.Aa d t=AW L.Aa d t (t.qZ.map λk=>(AA L.Aa d k).1):=by rw[et0,UV ek,k1]
  have hp:(AW L.Aa d t (t.qZ.map λk=>(AA L.Aa d k).1)).2=0:=by grind
  have kv:∀k∈t.qZ,Afh L a k:=λk hk=>tvo k (ok.k k hk) (by have:=Wa hk;omega) (k2 k hk);obtain⟨o1,o18,l64,l4,l5,l8,l18⟩:=UE ok;have tr:=tv.r;have sB:∀{lo hi:Int},(CV lo hi).1.Bool=σ:=λ{lo hi}=>by unfold CV;split<;>rfl
  have far:∀{v:Int}{H':HY},v=LX L t a->H'=H->qK 180 CX (v,()) H' (λ(b:Bool×Unit)io H'=>Q (v,ν ¬b.1=d,()) () H') X:=λ{v H'}e eH=>by grind[Aao]
  apply OQ;unfold JL;have nm:(t.Op=3∨t.Op=4)->GC L.Aa t.Op t.qJ d=AW L.Aa d t (t.qZ.map λk=>(AA L.Aa d k).1):=λo=>by unfold AW;rw[GT (by omega),GT (by omega),UV o]
  refine⟨λe=>?_,λn1=>⟨λe=>?_,λn2=>⟨λe=>?_,λn3=>⟨λe=>?_,λn4=>?_⟩⟩⟩⟩
  .have hb:(AA L.Aa d t).1.Bool=σ:=by simp_all[AW]
   have h1:=tv.n hb;rw[show (Bq L t).2=λ_=>δ t.N by rw[Kx];unfold opN;grind]at h1;grind
  .have hb:(AA L.Aa d t).1.Bool=d:=by rw[et];unfold AW;rw[GT n1,UV e]
   have h1:=tv.b hb;rw[show (Bq L t).1=λ_=>ν (t.N=1) by rw[Kx];unfold To;grind]at h1;have r01:t.N=0∨t.N=1:=by obtain⟨le,mo,_,w2,_,_,_,_,b2,_⟩:=NV t (few:=0) (many:=0) (by rw[e];rfl);have b2:=b2 e;have hw:=ok.w;omega
   have:LX L t a=t.N:=by rw[h1];rcases r01 with e|e<;>(rw[e];rfl)
   grind
  iterate 2
   .obtain⟨hi,hl,e1,e2⟩:=As3 hL (s:=if t.Op=3 then s else n) (by omega) (by grind) (et.trans (nm (by omega)).symm) tv (by
     first
      |(rw[UV e,decide_eq_false (by omega)];exact hs)
      |grind)
    have e0:((AY L.Aa t.qJ:Nat):Int).toNat=AY L.Aa t.qJ:=aj _;have hi':((AY L.Aa t.qJ:Nat):Int).toNat<f L.Aa:=by omega
    have ev:L.Aa[((AY L.Aa t.qJ:Nat):Int).toNat]'hi'=L.Aa[AY L.Aa t.qJ]:=by rfl
    have nn:(0:Int)<=((AY L.Aa t.qJ:Nat):Int):=Int.natCast_nonneg _;refine P4 hv ?_;rw[UV hi];refine⟨λo=>?_,λo=>?_⟩;all_goals first
     |exact qG e (by omega)
     |skip
    all_goals
     first
      |rw[UV e]at hl
       simp only[UV e]at e1 e2
      |rw[GT o]at hl
       simp only[GT o]at e1 e2
     intro _
     have hl':=hl
     rw[<-e0]at hl'
     refine⟨λ_=>nn,hl',λ_=>⟨λ_=>nn,hi',λhb=>Eu ?_,λhb=>?_⟩⟩
     .rw[ev]at hb
      have:=e2 hb
      simp only[e0]
      rw[e1]at h
      rcases this with e3|e3<;>(rw[e3]at h ⊢;exact h)
     grind
  .have V6:=Ww ok (by omega) hp et tv kv;have vr:∀i(hi:i<f (t.qZ.map λk=>LX L k a)),-1048576<=(t.qZ.map λk=>LX L k a)[i]/\(t.qZ.map λk=>LX L k a)[i]<=1048576:=λi hi=>by rw[a5];exact(kv _ (ak _)).r
   have k17:=(Se hp).2.2.2.2.1;have vm:t.Op=17->∀x y,(t.qZ.map λk=>LX L k a)=[x,y]->1<=y:=λo x y hxy=>by
    obtain⟨p,q,hk⟩:=kl2 (l8 (by omega) (by omega));obtain⟨c1,c2⟩:=k17 o _ _ (by rw[hk];rfl) p q hk;rw[hk]at hxy;have e1:LX L q a=y:=by have:[LX L p a,LX L q a]=[x,y]:=hxy;simp at this;exact this.2
    have hb:(AA L.Aa d q).1.Bool=σ:=((Se hp).2.2.2.1 (by omega) (by omega) (AA L.Aa d p).1 (AA L.Aa d q).1 (by rw[hk];rfl)).2.2;have h1:=(kv q (by rw[hk];simp)).n hb;rw[show (Bq L q).2=λ_=>δ q.N by rw[Kx];unfold opN;exact UV c1]at h1;grind
   have ll:f (t.qZ.map λk=>LX L k a)=f t.qZ:=a3 ..;refine⟨λm x=>m=f t.qZ-x.2.2.1/\x.2.2.1<=f t.qZ/\x.1=(t.qZ.map λk=>LX L k a).take x.2.2.1/\(x.2.1=if t.Op=6∨t.Op=7 then Dj (t.qZ.map λk=>LX L k a) x.2.2.1 else 0)/\(-1048576*(x.2.2.1:Int)<=x.2.1/\x.2.1<=1048576*(x.2.2.1:Int)),⟨_,rfl,rfl,ai _,rfl,by show 0=if t.Op=6∨t.Op=7 then Dj _ 0 else 0;split<;>rfl,by show -1048576*((0:Nat):Int)<=0/\(0:Int)<=1048576*((0:Nat):Int);omega⟩,?_⟩;rintro m ⟨l,sm,i,_⟩ ⟨hm0,hi0,hl0,hs0,hb0⟩ _;have hm:m=f t.qZ-i:=hm0;have hi:i<=f t.qZ:=hi0;have hl:l=(t.qZ.map λk=>LX L k a).take i:=hl0;have hsm:sm=if t.Op=6∨t.Op=7 then Dj (t.qZ.map λk=>LX L k a) i else 0:=hs0
   have hbd:-1048576*(i:Int)<=sm/\sm<=1048576*(i:Int):=hb0;refine⟨λhlt0 _=>?_,λhge0=>?_⟩
   .have hlt:i<f t.qZ:=hlt0;have mi:=ak hlt;have kr:=(kv _ mi).r;have ln:f l=i:=by rw[hl,List.length_take];omega
    have hl1:l++[LX L t.qZ[i] a]=(t.qZ.map λk=>LX L k a).take (i+1):=by rw[aa (by omega),<-hl,a5]
    have ss:(t.Op=6∨t.Op=7)->sm+LX L t.qZ[i] a=if t.Op=6∨t.Op=7 then Dj (t.qZ.map λk=>LX L k a) (i+1) else 0:=λo=>by rw[UV o]at hsm ⊢;rw[Ek (by omega),a5,hsm]
    refine⟨hlt,P0 hL h8 hv hs hn z t.qZ[i] (by have:=Hj mi;omega) (ok.k _ mi) (by have:=Wa mi;omega) (k2 _ mi) ⟨λhn=>qG rfl hn,λ_=>⟨by show (f l+1)*8<=_;omega,λe _ _=>?_,λe6=>⟨λe _ _=>?_,λe7=>?_⟩⟩⟩⟩;iterate 2
     .exact⟨Aq.2 (by show _<=sm+LX L t.qZ[i] a/\sm+LX L t.qZ[i] a<=_;omega),by show i+1<=_;omega,f t.qZ-(i+1),by omega,rfl,rfl,by show i+1<=_;omega,hl1,ss (by omega),by show -1048576*((i+1:Nat):Int)<=sm+LX L t.qZ[i] a/\sm+LX L t.qZ[i] a<=1048576*((i+1:Nat):Int);omega⟩
    .refine⟨by show i+1<=_;omega,f t.qZ-(i+1),by omega,rfl,rfl,by show i+1<=_;omega,hl1,?_,by show -1048576*((i+1:Nat):Int)<=sm/\sm<=1048576*((i+1:Nat):Int);omega⟩;show sm=_;rw[hsm,GT (by omega),GT (by omega)]
   .have hge:¬i<f t.qZ:=hge0;have ei:i=f t.qZ:=by omega
    rw[ah (by omega)]at hl;rw[<-hl]at V6 vr hsm ll;have vm:=λo x y=>vm o x y;rw[<-hl]at vm;rw[show i=f l by omega]at hsm;have d0:∀{k:Int},0<=k->(True->(0:Int)<=k):=λ{k}hk _=>hk;refine⟨λe=>?_,λn5=>⟨λe _=>?_,λn6=>⟨λe=>?_,λn7=>?_⟩⟩⟩
    .obtain⟨x,rfl⟩:∃x,l=[x]:=by
      match l,ll.trans (l5 e) with
      | [x],_=>exact⟨x,rfl⟩
     have b:-1048576<=x/\x<=1048576:=vr 0 (by show 0<1;decide);exact⟨λ_=>by decide,by show 0<1;decide,by show 0<1;decide,λ_=>⟨Aq.2 (by show _<=1-x/\1-x<=_;omega),far (by rw[V6,e];rfl) rfl⟩⟩
    .rw[UV (.inl e)]at hsm;exact Eu (far (by rw[V6,e,hsm];rfl) rfl)
    .rw[UV (.inr e)]at hsm;exact Eu (far (by rw[V6,e,hsm];rfl) rfl)
    by_cases o18':t.Op=18
    .obtain⟨x,y,w,rfl⟩:=kl3 (ll.trans (l18 o18'));refine⟨λe=>qG e (by omega),λ_=>⟨λe=>qG e (by omega),λ_=>⟨λe=>qG e (by omega),λ_=>⟨λe=>qG e (by omega),λ_=>⟨λe=>qG e (by omega),λ_=>⟨λe=>qG e (by omega),λ_=>⟨λe=>qG e (by omega),λ_=>⟨λe=>qG e (by omega),λ_=>⟨λe=>qG e (by omega),λ_=>⟨λe=>qG e (by omega),λ_=>⟨λ_=>?_,λhh=>qG o18' hh⟩⟩⟩⟩⟩⟩⟩⟩⟩⟩⟩;refine⟨λ_=>by decide,by show 2<3;decide,by show 2<3;decide,λ_=>by decide,by show 0<3;decide,by show 0<3;decide,λe1=>⟨λ_=>by decide,by show 1<3;decide,by show 1<3;decide,far ?_ rfl⟩,λe1=>far ?_ rfl⟩
     .have e1:x=1:=e1;rw[V6,o18',e1];rfl
     .have e1:¬x=1:=e1;rw[V6,o18'];exact(GT e1:(if x=1 then y else w)=w).symm
    obtain⟨x,y,rfl⟩:=kl2 (ll.trans (l8 (by omega) (by omega)));have bx:-1048576<=x/\x<=1048576:=vr 0 (by show 0<2;decide);have by_:-1048576<=y/\y<=1048576:=vr 1 (by show 1<2;decide);have h0:Int.toNat (0:Int)<f [x,y]:=by show 0<2;decide
    have h1:Int.toNat (1:Int)<f [x,y]:=by show 1<2;decide
    have mb:=We (x:=x) (y:=y) (by omega) (by omega);refine⟨λe=>?_,λn8=>⟨λe=>?_,λn9=>⟨λe=>?_,λn10=>⟨λe=>?_,λn11=>⟨λe=>?_,λn12=>⟨λe=>?_,λn13=>⟨λe=>?_,λn14=>⟨λe=>?_,λn15=>⟨λe=>?_,λn16=>⟨λe=>?_,λn17=>⟨λe=>qG e o18',λ_=>qG (show t.Op<=17 by omega) (by omega)⟩⟩⟩⟩⟩⟩⟩⟩⟩⟩⟩
    .refine⟨λ_=>by decide,h0,h0,λe1=>Eu (far ?_ rfl),λe1=>⟨λ_=>by decide,h1,h1,Eu (far ?_ rfl)⟩⟩
     .have e1:x=0:=e1;rw[V6,e,e1];rfl
     .have e1:¬x=0:=e1;rw[V6,e];exact(GT e1:(if x=0 then 1 else Rg (ν (y=1)))=_).symm
    iterate 5
     .exact⟨λ_=>by decide,h0,λ_=>by decide,h1,⟨h0,h1,Eu (far (by rw[V6,e];rfl) rfl)⟩,h1,h0,Eu (far (by rw[V6,e];rfl) rfl)⟩
    .exact⟨λ_=>by decide,h0,h0,λ_=>by decide,h1,h1,λ_ _=>⟨Aq.2 (by show _<=x+y/\x+y<=_;omega),far (by rw[V6,e];rfl) rfl⟩⟩
    .exact⟨λ_=>by decide,h0,h0,λ_=>by decide,h1,h1,λ_ _=>⟨Aq.2 (by show _<=x-y/\x-y<=_;omega),far (by rw[V6,e];rfl) rfl⟩⟩
    .have mul:∀{H':HY},H'=H->Bl .i64 (x*y)/\qK 180 CX (x*y,()) H' _ X:=λ{H'}eH=>⟨Aq.2 (by omega),far (by rw[V6,e];rfl) eH⟩
     have div:¬x=0->Bl .i64 (max x (-x))->¬max x (-x)=0/\Bl .i64 (an 9007199254740992 (max x (-x)))/\¬an 9007199254740992 (max x (-x))<max y (-y):=λhx _=>by have:=Au7 (m:=max x (-x)) (x:=max y (-y)) (by omega) (by omega) (by omega);exact⟨by omega,this.1,this.2⟩
     refine⟨λ_=>by decide,h0,h0,λhx=>⟨λ_=>by decide,h1,h1,λ_=>by decide,h0,K4 by_ ⟨h0,K4 bx λhk=>?_⟩,h0,K4 by_ (K4 bx λhk=>?_)⟩,λ_=>Qb ⟨λ_=>by decide,h0,h0,λ_=>by decide,h1,h1,λ_ _=>mul rfl⟩⟩;all_goals
      have hx:¬x=0:=hx
      obtain⟨q1,q2,q3⟩:=div hx hk
      exact⟨q1,q2,λhh=>qG hh q3,λ_=>⟨λ_=>by decide,h0,h0,λ_=>by decide,h1,h1,λ_ _=>mul rfl⟩⟩
    .have y1:=vm e x y rfl;have m1:=Pn (x:=x) y1;have m2:=Pn (x:=x.tmod y+y) y1;refine⟨λ_=>by decide,h0,h0,λ_=>by decide,h1,h1,λ_ _=>⟨by show ¬y=0;omega,Aq.2 (by show _<=x.tmod y/\x.tmod y<=_;omega),λ_=>by decide,h1,h1,λ_ _=>⟨Aq.2 (by show _<=x.tmod y+y/\x.tmod y+y<=_;omega),λ_=>by decide,h1,h1,λ_ _=>⟨by show ¬y=0;omega,Aq.2 (by show _<=(x.tmod y+y).tmod y/\(x.tmod y+y).tmod y<=_;omega),far (by rw[V6,e];rfl) rfl⟩⟩⟩⟩
end
theorem Got.self{M M':Mn}{F:B.Fn}{r:Int}(n:Got M M' r F):M'.Ar r=δ F:=by rw[n.Ar,UV rfl]
section
variable {vars:List Al} {t:Ab}
theorem Ann{next:Bool}{k:Ab}(he:(AA vars next t).2=0)(hk:k∈t.qZ):(AA vars next k).2=0:=by
 have et0:=L4 vars next t;have ek:(B6 vars next t.qZ).2=0:=a0 λhh=>by grind
 grind[N8]
theorem At4{next:Bool}{op:Int}{nm:ByteArray}(h:Vi op nm t)(o:op=3∨op=4):(AA vars next t).2=0->AY vars nm<f vars:=by
 induction h with
 |@here t e1 e2=>
  intro he;have et0:=L4 vars next t;have ek:(B6 vars next t.qZ).2=0:=a0 λhh=>by grind
  rw[et0,UV ek]at he;have hp:AW vars next t (B6 vars next t.qZ).1=GC vars t.Op t.qJ next:=by unfold AW;rw[GT (by omega),GT (by omega),UV (by omega)]
  rw[hp,e2]at he;refine a0 λhh=>?_;grind[GC]
 |kid hk _ ih=>grind[Ann]
theorem Aei{nm:ByteArray}(h:AY vars nm<f vars):vars[AY vars nm].qJ=nm:=of_decide_eq_true (List.findIdx_getElem (xs:=vars) (p:=λv:Al=>ν (v.qJ=nm)) (w:=h))
theorem Y8{L:Ae}{a:B.As}{s n:List Int}{H:HY}{X:PX}{Q:Int×Bool×Unit->UU}(hL:JJ L)(h8:2*Fy L<=8)(hv:f L.Aa<=1000)(hs:Afs L σ a s)(hn:Afs L d a n)(hz:Er t<=40)(he:(DP L.Aa d t).2=0)(h:Q (LX L t a,d,()) () H):qK 49 GU (L.Aa,t,s,n,()) H Q X:=by
 refine wF Tryz.f49 {im:=[5]} (?_:letI E:=λ(b:Int×qU)_ G=>(¬b.2.1->Q (0,σ,()) () G)/\(¬¬b.2.1->Q (b.1,d,()) () G);letI F:=f L.Aa;qK 13 EE (L.Aa,t,d,()) H (λ(b:Af×qV)_ G=>letI I:=Q (0,σ,()) () G;(¬b.2.1=0->I)/\(¬¬b.2.1=0->f s<=2^63-1->F<=2^63-1->(¬f s=F->I)/\(¬¬f s=F->qK 117 Du (t,()) G (λ(b:qU)_ G=>letI O:=qK 118 GU (L.Aa,t,s,n,()) G E X;(b.1->f n<=2^63-1->F<=2^63-1->(¬f n=F->Q (0,σ,()) () G)/\(¬¬f n=F->O))/\(¬b.1->O)) X))) X);obtain⟨o,e,_⟩:=Pm he;have val:qK 118 GU (L.Aa,t,s,n,()) H (λ(b:Int×Bool×Unit)io H'=>(¬b.2.1=d->Q (0,σ,()) () H')/\(¬¬b.2.1=d->Q (b.1,d,()) () H')) X:=
  P0 hL h8 hv hs hn _ t (a4 _) o hz e ⟨λhh=>qG rfl hh,λ_=>h⟩
 refine K5 hv ⟨λhh=>qG he hh,λ_ _ _=>⟨λhh=>qG hs.len hh,λ_=>P3 _ t (a4 _) (by have:=o.len.2.2.2.2.1;omega) (λk hk=>by have:=hk.len.2.2.2.2.1;omega) o λr=>⟨λ_ _ _=>⟨λhh=>qG hn.len hh,λ_=>val⟩,λ_=>val⟩⟩⟩
theorem WJ{l:List Al}{k N:Nat}{H:HY}{X:PX}{Q:Int×Bool×Unit->UU}(hv:NP l)(hl:f l<=64)(ht:GH l<=4)(hN:2*GH l<=N)(hk:k<=1000000)(hz:Er t<=40)(he:(DP l d t).2=0)(h:∀(v:Int)(y:Bool),(y=d->v=LX (AM l) t (UK (AM l) (NT N k))/\(Bq (AM l) t).1 (UK (AM l) (NT N k))=(Bq (AM l) t).1 (NT N k)/\(Bq (AM l) t).2 (UK (AM l) (NT N k))=(Bq (AM l) t).2 (NT N k))->Q (v,y,()) () H):qK 16 Ex (l,t,(k:Int),()) H Q X:=by
 have hL:JJ (AM l):=XG hv hl;have tot:=TT (l:=l);refine wF Tryz.f16 {im:=[4]} (?_:qK 47 Gq (t,()) H (λ(b:List ByteArray×List ByteArray×UT)_ G=>qK 19 CL (l,(k:Int),σ,()) G (λ(b1:List Int×List Bool×UT)_ G=>qK 19 CL (l,(k:Int),d,()) G (λ(b2:List Int×List Bool×UT)_ G=>qK 48 Eb (l,b1.1,b1.2.1,b.1,()) G (λ(b3:List Int×qU)_ G=>qK 48 Eb (l,b2.1,b2.2.1,b.2.1,()) G (λ(b:List Int×qU)_ G=>letI E:=Q (0,σ,()) () G;(¬b3.2.1->E)/\(¬¬b3.2.1->(¬b.2.1->E)/\(¬¬b.2.1->qK 49 GU (l,t,b3.1,b.1,()) G (λ(b:Int×qU)_ G=>Q (b.1,b.2.1,()) () G) X))) X) X) X) X) X);have enc:∀next,Afs (AM l) next (UK (AM l) (NT N k)) ((ac (f l)).map (Ry (AM l) next (NT N k))):=λnext=>
  ⟨by rw[a3,ae];rfl,λi hi h'=>by simp_all[a5,ad,ZF]⟩
 refine WM (by omega) λn3 n4 h3 h4 l3 l4=>Nw hv hl (by omega) hN hk (Nw hv hl (by omega) hN hk (OA hv hl (show f n3<=1000000 by omega) λu hu=>OA hv hl (show f n4<=1000000 by omega) λw hw=>⟨λ_=>h 0 σ λe=>qG e (by decide),λhu1=>⟨λ_=>h 0 σ λe=>qG e (by decide),λhw1=>?_⟩⟩));have hu1:=hu.1 (a8.1 hu1);have hw1:=hw.1 (a8.1 hw1);refine Y8 (L:=AM l) hL (by omega) (by show f l<=1000;omega) (enc σ) (enc d) hz he (h _ d λ_=>⟨rfl,Atb λop nm hh o=>?_⟩);have hi:AY l nm<f l:=At4 hh o (Pm he).2.1;refine⟨hi,?_⟩;rcases o with o|o
 .rw[o,decide_eq_false (by decide)];exact hu1 _ hi (show l[AY l nm].qJ∈n3 by grind[Aei])
 .rw[o,decide_eq_true rfl];exact hw1 _ hi (show l[AY l nm].qJ∈n4 by grind[Aei])
end
theorem Agw{vars:List Al}{op:Int}{nm:ByteArray}(h:(GC vars op nm σ).2=0):GC vars op nm d=GC vars op nm σ:=by grind[GC]
mutual
theorem Zb{vars:List Al}:∀(t:Ab),(AA vars σ t).2=0->AA vars d t=AA vars σ t
 |⟨op,n,nm,ks⟩,h=>by
  rw[L4]at h ⊢;rw[L4];by_cases e:(B6 vars σ (Ab.mk op n nm ks).qZ).2=0
  .rw[UV e]at h ⊢;rw[Wz ks e,UV e];unfold AW at h ⊢;split
   .rfl
   split
   .rfl
   split
   .rename_i o1 o2 o;rw[GT o1,GT o2,UV o]at h;exact Agw h
   .rfl
  .rw[GT e]at h;exact qG h e
theorem Wz{vars:List Al}:∀(l:List Ab),(B6 vars σ l).2=0->B6 vars d l=B6 vars σ l
 | [],_=>by rw[B6,B6]
 |t::ts,h=>by
  rw[ER]at h ⊢;rw[ER];by_cases e:(AA vars σ t).2=0
  .rw[UV e]at h ⊢;rw[Zb t e,UV e];by_cases e2:(B6 vars σ ts).2=0
   .rw[Wz ts e2]
   .rw[GT e2]at h;exact qG h e2
  .rw[GT e]at h;exact qG h e
end
theorem RR{vars:List Al}{t:Ab}(h:(DP vars σ t).2=0):DP vars d t=DP vars σ t:=by unfold DP at h ⊢;by_cases e:(Im 1 0 t).2=0;all_goals simp_all[Zb]
section
variable {L:Ae}
theorem Got.Atu{Hb H:HY}{wb b:Nat}{M Mx M':Mn}{lv:List (Int×Bool)}{r:Int}{F:B.Fn}{hs:List (Int×B.Fn)}(k:Wk Hb H wb b M M Mx L [] lv ((r,F)::hs))(e:Akl M Mx M' lv [r]):Got M M' r F:=by
 have g:=k.h.ge (r,F) (by simp);have get:∀j,Ag _ j=if j∈((r,F)::hs).map _ then δ _ else none:=λj=>by rw[k.h.get];rfl
 have hr:Ag lv r=δ d:=by rw[get,UV (by simp)]
 refine⟨k.w.bs.trans e.bs,g.1,by rw[e.nx];omega,?_,λj=>?_⟩
 .rw[e.ln];have:f (lv.filter λp=>ν (p.1∈[r]))=1:=by rw[OF k.w.nd (by simp) λj hj=>by grind];rfl
  rw[this]
 .rw[e.Ar];by_cases hj:j=r
  .subst hj;rw[GT (by simp),UV rfl];exact k.h.Ar (j,F) (by simp)
  .rw[GT hj];by_cases hm:j∈((r,F)::hs).map (·.1)
   .rw[get,UV hm,UV ⟨rfl,by grind⟩];obtain⟨p,hp,rfl⟩:=List.mem_map.1 hm;exact(k.h.nb _ (k.h.ge p hp).1).2.symm
   .rw[get,GT hm,GT (by simp)];exact k.h.Lu j hm
noncomputable def ZH(L:Ae)(V:B.As->Option Int)(i:Nat)(lo hi:Int)(ks:List Int):B.Fn:=λa=>ks.any λn=>ν (lo<=n/\n<=hi)&&(gV V n a&&Ym L d i n a)
theorem A0q{V:B.As->Option Int}{i:Nat}{lo hi:Int}{ks:List Int}{n:Int}(h:lo<=n/\n<=hi):PA (ZH L V i lo hi ks) (CJ (gV V n) (Ym L d i n))=ZH L V i lo hi (ks++[n]):=by grind[ZH,PA,CJ]
theorem Au3{V:B.As->Option Int}{i:Nat}{lo hi:Int}{ks:List Int}{n:Int}(h:¬(lo<=n/\n<=hi)):ZH L V i lo hi (ks++[n])=ZH L V i lo hi ks:=by funext a;simp only[ZH,List.any_append,List.any_cons,List.any_nil,ao];rw[decide_eq_false h,Bool.false_and,ao]
theorem Ya{l:List Al}{b:Nat}{M:Mn}{t:Ab}{i:Int}{H:HY}{X:PX}{Q:Int×Int×Unit->UU}(hv:NP l)(hl64:f l<=64)(hM:MG H b M)(hn:M.nx+((1000000000*Er t:Nat):Int)<576460752303000000)(hl:f M.hs+1025*Er t+256*Er t<=58000)(hfit:2*GH l<=M.S.n)(h8:2*GH l<=8)(hs:Er t<=40)(hi:(i<0∨(f l:Int)<=i)->∀H',MG H' b M->Q (0,2,()) () H')(he:∀(_:0<=i)(_:i.toNat<f l),(DP l σ t).2≠0->∀H',MG H' b M->Q (0,(DP l σ t).2,()) () H')(hb:∀(_:0<=i)(h1:i.toNat<f l),(DP l σ t).2=0->(DP l σ t).1.Bool≠l[i.toNat].Bool->∀H',MG H' b M->Q (0,13,()) () H')(h0:∀(_:0<=i)(h1:i.toNat<f l),(DP l σ t).2=0->(DP l σ t).1.Bool=l[i.toNat].Bool->∀M' H' r F,MG H' b M'->Got M M' r F->M'.nx<=M.nx+((1000000000*Er t:Nat):Int)+1000000->(l[i.toNat].Bool=d->∀a,F a=d↔CB (AM l) d i.toNat a=δ (Rg ((Bq (AM l) t).1 a)))->(l[i.toNat].Bool=σ->∀a,F a=d↔∃n,(Bq (AM l) t).2 a=δ n/\CB (AM l) d i.toNat a=δ n)->Q (r,0,()) () H'):qK 18 Ns (δ b,AM l,i,t,()) H Q X:=by
 have hL:JJ (AM l):=XG hv hl64;have tot:=TT (l:=l);have v1000:f (AM l).Aa<=1000:=by show f l<=1000;omega
 refine wF Tryz.f18 {lp:=[(23,⟨[(13,.blk [.dat .str,.dat .bool,.dat I6,.dat I6]),(18,.one (.dat I6)),(104,.one (.own I6)),(106,.nat)],[2,10,19,104,105],d⟩)],im:=[5,7],il:=ilT} (?_:RI (δ b) (AM l) i t H Q X);unfold RI;refine MD hM hL.toLK (λhlt=>by omega) λ_ wb H0 hwb w0 f0=>⟨λhh=>qG rfl hh,λ_=>⟨λh1=>hi (.inl h1) _ w0.mg,λh1 _=>⟨λh2=>hi (.inr h2) _ w0.mg,λh2=>Ro v1000 λH1 fT=>?_⟩⟩⟩
 have w:=w0.Lu fT;have i0:0<=i:=Int.not_lt.1 h1;have h2:¬(f l:Int)<=i:=h2;have i1:i.toNat<f l:=by omega
 refine λ_=>⟨λ_=>i0,i1,λhh=>he i0 i1 hh H1 w.mg,λhh=>?_⟩
 have e0:(DP l σ t).2=0:=a8.1 hh;have hi0:=hi;refine⟨λhd=>hb i0 i1 e0 ((nb _ _).1 hd) H1 w.mg,λhd=>?_⟩;have ebv:(DP l σ t).1.Bool=l[i.toNat].Bool:=a8.1 λh=>hd ((nb _ _).2 h);have en:=RR e0;have so:=Ayb (L:=AM l) (n0:=M.S.n) hL (by omega) (by omega) v1000 hs (by show (DP l d t).2=0;grind);have so:ON (AM l) M.S.n t (DP l σ t).1:=by rw[<-en];exact so
 have post:=h0 i0 i1 e0 ebv;obtain⟨j,rfl⟩:∃j:Nat,i=(j:Int):=⟨i.toNat,by omega⟩
 have ej:((j:Nat):Int).toNat=j:=aj _;have hj:j<f l:=by omega
 have evj:l[((j:Nat):Int).toNat]'i1=l[j]:=by rfl
 have nj:CB (AM l) d ((j:Nat):Int).toNat=CB (AM l) d j:=by rw[ej]
 rw[nj]at post;have ni:∀{n a},CB (AM l) d j a=δ n↔(FW l[j]<=n/\n<=QS l[j])/\Ym (AM l) d j n a=d:=λ{n a}=>Jc hL hj;refine⟨λbv=>?_,λbv=>?_⟩
 .have bv:l[j].Bool=d:=by rw[<-evj];exact bv
  have hbit:(AM l).Bits[j]'(by show j<f (Cd l);grind[Cl])=1:=by
   have e1:=HX (l:=l) hj;have e2:DC l[j]=2:=by unfold DC;rw[UV bv]
   rw[e2,Qv (n:=2) (k:=1) ⟨by decide,λq hq=>by grind⟩]at e1;exact e1
  have hlen:f (Cu (AM l) j d)=1:=by grind[QB,Cd,Cl]
  obtain⟨bit,hs1⟩:∃v,Cu (AM l) j d=[v]:=by
   match Cu (AM l) j d,hlen with
   | [v],_=>simp
  have hnow:(Ny (AM l) j).map (·+1)=[bit]:=by rw[<-hs1];rfl
  have bitr:=Ac7 hL.toLK (n:=2*Fy (AM l)) (Int.le_refl _) (v:=bit) (i:=j) (next:=d) (by grind);refine Vy hL.toLK hj ?_;rw[hnow];refine⟨λ_=>by decide,by simp,?_⟩;have tr:=@ON.tr _ _ _ _ so (by grind);refine tr w (by omega) (by omega) rfl λM2 lv2 H2 p k2 nx2=>?_;have l2:=k2.ln;simp only[a6,a7]at l2;refine⟨wb,rfl,_,k2.w.ob,λ_=>⟨rfl,?_⟩,λhh=>qG rfl hh⟩;have n2:M2.S.n=M.S.n:=k2.w.bs.n;refine Agz k2.w.mg (by omega) (by omega) (by grind) λM3 H3 g3 nw3 f3=>KG k2.w g3 nw3 f3 λlv3 H4 w4 _ u4 f4=>?_;have k4:=k2.step w4 (k2.h.push u4) f4;have nx3:=nw3.nx;have l4:=k4.ln;simp only[a6,a7]at l4;refine(k4.perm (hs':=[(p,(Bq (AM l) t).1),(M2.nx,Acq bit)]) (.swap _ _ _)).two (F:=Ot (Bq (AM l) t).1 (Acq bit)) (by omega) (λg hp hq=>λQ X h=>?_) λM5 lv5 H5 k5 nx5=>?_
  .grind[VR,OM,Sg]
  .refine ML k5.w (by omega) (by simp) λM6 H6 g6 e6 f6=>post M6 H6 _ _ g6 (Got.Ao2 k5 e6) (by rw[e6.nx];omega) (λ_ a=>?_) λhh=>qG (show l[j].Bool=σ by grind) (by grind);have ev:CB (AM l) d j a=δ (Rg (a bit)):=by unfold CB;rw[show (AM l).Aa[j]?=δ l[j] from af hj,hs1];show (if FW l[j]+(((if a bit=d then 1 else 0)+2*0:Nat):Int)<=QS l[j] then δ (FW l[j]+(((if a bit=d then 1 else 0)+2*0:Nat):Int)) else none)=_;rw[Aea bv,Ajh bv];cases a bit<;>rfl
   rw[ev];grind[Ot,Acq,Bq,AM,Aba,am]
 .have bv:l[j].Bool=σ:=by have bv:¬(l[((j:Nat):Int).toNat]'i1).Bool=d:=bv;rw[evj]at bv;grind
  have lo:FW l[j]=l[j].Lo:=Apt (by rw[bv];decide);have hi:QS l[j]=l[j].Hi:=Aw1 (by rw[bv];decide);have vr:=(hv.ok j hj).nu bv;refine(Wk.of w).const (by omega) λM2 lv2 H2 k2 nx2=>?_;have l2:=k2.ln;simp only[a6,a7]at l2;have na:=@ON.nu _ _ _ _ so (by rw[ebv,evj];exact bv);have n2:M2.S.n=M.S.n:=k2.w.bs.n;refine na k2.w (by omega) (by omega) n2 λM3 lv3 H3 rf mf k3 rf0 rf1 ndf zf lenf nx3=>?_;have k3:=k2.trans k3;have XI:rf≠wb:=λe=>by rw[e,k2.w.ob]at rf0;cases rf0
  have drm:G5 b M rf:=(k2.w.mg.h.notM rf0).back k2.w.bs;generalize hV:(Bq (AM l) t).2=V at k3 zf;obtain⟨fh,hfh⟩:∃fh:Int->Int×B.Fn,∀n,fh n=((Ag mf n).getD 0,gV V n):=⟨_,λ_=>rfl⟩
  have hperm:(JH mf (gV V)).Perm ((Au mf).map fh):=by
   have e:JH mf (gV V)=(mf.map (·.1)).map fh:=by unfold JH;rw[List.map_map];refine List.map_congr_left λx hx=>?_;show _=fh x.1;rw[hfh,FV ndf hx];rfl
   rw[e];exact((Dz mf).map fh).symm
  have ksl:=N9 mf;refine Iq (b:=rf) rf1 (by omega) λc2 l2' r2 r2' hl2=>?_;have k4:=(k3.perm (hs':=(M.nx,ZH (AM l) V j l[j].Lo l[j].Hi [])::([]++(Au mf).map fh)) (by refine List.Perm.trans ?_ (List.perm_append_comm (l₁:=[_]));rw[List.nil_append];exact(List.Perm.cons _ hperm.symm))).fresh (y:=.lp r2') hl2
  have f4:Ac H3 l2' (.lp r2') rf=δ (.mp I6 I6 mf):=by rw[Ad _ _ λe=>by rw[<-e,rf1]at hl2;cases hl2];exact rf1
  generalize Ac H3 l2' (.lp r2')=H4 at k4 f4;refine λ_=>⟨λn z H'=>n=f mf-z.2.2.2.1/\z.2.2.2.1<=f mf/\z.1.2.2.1=l[j].Lo/\z.1.2.2.2.1=l[j].Hi/\z.2.2.1=Au mf/\∃M' lv' rest,Wk H1 H' wb b M M M' (AM l) [] lv' ((z.2.1,ZH (AM l) V j l[j].Lo l[j].Hi ((Au mf).take z.2.2.2.1))::(rest++((Au mf).drop z.2.2.2.1).map fh))/\H' rf=δ (.mp I6 I6 mf)/\f rest<=z.2.2.2.1/\M'.nx<=M.nx+((1000000000*Er t:Nat):Int)+1+4*(z.2.2.2.1:Int),
   ⟨_,rfl,ai _,by show (l[((j:Nat):Int).toNat]'i1).Lo=_;rw[evj],by show (l[((j:Nat):Int).toNat]'i1).Hi=_;rw[evj],rfl,M3,lv3,[],k4,f4,ai _,by show M3.nx<=_+4*((0:Nat):Int);omega⟩,?_⟩
  rintro n ⟨⟨q1,q2,vlo,vhi,_⟩,r,ks,c,_⟩ H5 ⟨hn0,hc0,hlo0,hhi0,hks0,M5,lv5,rest,k5,f5,lr5,nx5⟩;have hnn:n=f mf-c:=hn0;have hc:c<=f mf:=hc0;have hlo:vlo=l[j].Lo:=hlo0;have hhi:vhi=l[j].Hi:=hhi0;have hks:ks=Au mf:=hks0;subst hks hlo hhi;replace k5:Wk H1 H5 wb b M M M5 (AM l) [] lv5 ((r,ZH (AM l) V j l[j].Lo l[j].Hi ((Au mf).take c))::(rest++((Au mf).drop c).map fh)):=k5;replace lr5:f rest<=c:=lr5;replace nx5:M5.nx<=M.nx+((1000000000*Er t:Nat):Int)+1+4*(c:Int):=nx5;have k5l:=k5.ln;simp only[a6,a9,a3,ag,ksl,a7]at k5l;refine⟨λhcl0 _=>?_,λhcl0=>?_⟩
  .have hcl:c<f (Au mf):=hcl0;have hdr:=List.drop_eq_getElem_cons hcl;have htk:=aa hcl;obtain⟨x,hx⟩:∃x,x=(Au mf)[c]:=⟨_,rfl⟩
   rw[<-hx]at hdr htk;have out:¬(l[j].Lo<=x/\x<=l[j].Hi)->c+1<=9223372036854775807/\∃m,m<n/\(m=f mf-(c+1)/\c+1<=f mf/\l[j].Lo=l[j].Lo/\l[j].Hi=l[j].Hi/\Au mf=Au mf/\∃M' lv' rest,Wk H1 H5 wb b M M M' (AM l) [] lv' ((r,ZH (AM l) V j l[j].Lo l[j].Hi ((Au mf).take (c+1)))::(rest++((Au mf).drop (c+1)).map fh))/\H5 rf=δ (.mp I6 I6 mf)/\f rest<=c+1/\M'.nx<=M.nx+((1000000000*Er t:Nat):Int)+1+4*((c+1:Nat):Int)):=λho=>by
    refine⟨by omega,_,by omega,rfl,by omega,rfl,rfl,rfl,M5,lv5,rest++[fh x],?_,f5,by rw[a9];show f rest+1<=_;omega,by omega⟩;have q1:(rest++[fh x])++((Au mf).drop (c+1)).map fh=rest++((Au mf).drop c).map fh:=by rw[hdr,ap,List.append_assoc];rfl
    have q2:ZH (AM l) V j l[j].Lo l[j].Hi ((Au mf).take (c+1))=ZH (AM l) V j l[j].Lo l[j].Hi ((Au mf).take c):=by rw[htk,Au3 ho]
    rw[q1,q2];exact k5
   refine⟨hcl,hcl,λc1=>⟨λc2=>?_,λc2=>?_⟩,λc1=>?_⟩
   .have c1:l[j].Lo<=(Au mf)[c]:=c1;have c2:(Au mf)[c]<=l[j].Hi:=c2;have xin:l[j].Lo<=x/\x<=l[j].Hi:=by rw[hx];exact⟨c1,c2⟩
    have mx:=k5.h.Ar (fh x) (List.mem_cons_of_mem _ (List.mem_append_right _ (by rw[hdr];simp)));have sN:Bl .i64 (GM (AM l) j x):=by unfold GM;rw[show (AM l).Aa[j]?=δ l[j] from af hj];show Bl .i64 (if l[j].Bool=d then x else x-l[j].Lo);rw[GT (by rw[bv];decide)];exact Aq.2 (by omega)
    have n5:M5.S.n=M.S.n:=k5.w.bs.n;have step:∀{H6:HY}{M6:Mn}{lv6:List (Int×Bool)},Wk H1 H6 wb b M M M6 (AM l) [] lv6 ((M5.nx,Ym (AM l) d j x)::(r,ZH (AM l) V j l[j].Lo l[j].Hi ((Au mf).take c))::(rest++((Au mf).drop c).map fh))->M6.nx=M5.nx+1->H6 rf=δ (.mp I6 I6 mf)->qK 56 A6 _ H6
      (λ(b_8:Int×Unit)io H'=>qK 56 A6 (δ wb,λ(a:Option Nat×List Int×Unit)(H:HY)(Q:Int×Int×Unit->HP)(X:Nat->Lf Y0.D->HP)=>qK 28 Ck (a.1,a.2.1,()) H (λ(b:Int×Int×Unit)(x:Unit)(H':HY)=>Q (b.1,b.2.1,()) H') X,[r,b_8.1],()) H'
       (λ(bb:Int×Unit)io H'=>c+1<=9223372036854775807/\∃m,m<n/\(m=f mf-(c+1)/\c+1<=f mf/\l[j].Lo=l[j].Lo/\l[j].Hi=l[j].Hi/\Au mf=Au mf/\∃M' lv' rest,Wk H1 H' wb b M M M' (AM l) [] lv' ((bb.1,ZH (AM l) V j l[j].Lo l[j].Hi ((Au mf).take (c+1)))::(rest++((Au mf).drop (c+1)).map fh))/\H' rf=δ (.mp I6 I6 mf)/\f rest<=c+1/\M'.nx<=M.nx+((1000000000*Er t:Nat):Int)+1+4*((c+1:Nat):Int))) X) X:=λ{H6 M6 lv6}k6 nx6 f6=>by
     rw[hdr,ap]at k6
     have k6:=k6.perm (hs':=((Ag mf x).getD 0,gV V x)::(M5.nx,Ym (AM l) d j x)::(r,ZH (AM l) V j l[j].Lo l[j].Hi ((Au mf).take c))::(rest++((Au mf).drop (c+1)).map fh)) (by rw[<-hfh x];exact(List.perm_middle (l₁:=(M5.nx,Ym (AM l) d j x)::(r,ZH (AM l) V j l[j].Lo l[j].Hi ((Au mf).take c))::rest)).symm)
     have l6:=k6.ln
     simp only[a6,a9,a3,ag,ksl,a7]at l6
     refine k6.Axr (F:=CJ (gV V x) (Ym (AM l) d j x)) (by omega) (λg hp hq=>Ahf g (by omega) (by omega) hp hq) λM7 lv7 H7 k7 nx7 f7=>?_
     have l7:=k7.ln
     simp only[a6,a9,a3,ag,ksl,a7]at l7
     refine(k7.perm (hs':=(r,ZH (AM l) V j l[j].Lo l[j].Hi ((Au mf).take c))::(M6.nx,CJ (gV V x) (Ym (AM l) d j x))::(rest++((Au mf).drop (c+1)).map fh)) (.swap _ _ _)).Axr (F:=PA (ZH (AM l) V j l[j].Lo l[j].Hi ((Au mf).take c)) (CJ (gV V x) (Ym (AM l) d j x))) (by omega) (λg hp hq=>Ajz g (by omega) (by omega) hp hq) λM8 lv8 H8 k8 nx8 f8=>?_
     have f9:=f7.trans f8
     refine⟨by omega,_,by omega,rfl,by omega,rfl,rfl,rfl,M8,lv8,rest,?_,by rw[f9 rf (by rw[f6];simp) XI drm];exact f6,by omega,by omega⟩
     rw[htk,<-A0q xin];exact k8
    have sy:∀{Q2:Int×Unit->UU},(∀H6 M6 lv6,Wk H1 H6 wb b M M M6 (AM l) [] lv6 ((M5.nx,Ym (AM l) d j x)::(r,ZH (AM l) V j l[j].Lo l[j].Hi ((Au mf).take c))::(rest++((Au mf).drop c).map fh))->M6.nx=M5.nx+1->H6 rf=δ (.mp I6 I6 mf)->Q2 (M5.nx,()) () H6)->
      qK 63 Bb (δ wb,((j:Nat):Int),x,d,()) H5 Q2 X:=λ{Q2}h=>SH k5.w (by omega) (by omega) hL.toLK hj (by omega) sN λM6 lv6 H6 w6 _ u6 g6=>
     h H6 M6 lv6 (k5.step w6 (k5.h.push u6) g6) u6.nx (by rw[g6 rf (by rw[f5];simp) XI (drm.same k5.w.bs)];exact f5)
    refine⟨⟨rf,rfl,mf,f5,?_⟩,?_⟩
    .show qK 63 Bb (δ wb,((j:Nat):Int),(Au mf)[c],d,()) H5 _ X;rw[<-hx];exact sy λH6 M6 lv6 k6 nx6 f6=>step k6 nx6 f6
    .show qK 63 Bb (δ wb,((j:Nat):Int),(Au mf)[c],d,()) H5 _ X;rw[<-hx];exact sy λH6 M6 lv6 k6 nx6 f6=>⟨rf,rfl,mf,f6,step k6 nx6 f6⟩
   .have c2:¬(Au mf)[c]<=l[j].Hi:=c2;exact out λhh=>c2 (by rw[<-hx];exact hh.2)
   .have c1:¬l[j].Lo<=(Au mf)[c]:=c1;exact out λhh=>c1 (by rw[<-hx];exact hh.1)
  .have hcl:¬c<f (Au mf):=hcl0;rw[List.drop_of_length_le (by omega),ah (by omega)]at k5;refine ML k5.w (by omega) (by simp) λM6 H6 g6 e6 f6=>post M6 H6 _ _ g6 (Got.Atu k5 e6) (by rw[e6.nx];omega) (λhh=>qG (show l[j].Bool=d by rw[<-evj];exact hh) (by rw[bv];decide)) λ_ a=>?_;unfold ZH;rw[List.any_eq_true,hV];constructor
   .rintro⟨n,hn,h1⟩;rw[ab,ab,decide_eq_true_iff,Hk]at h1;exact⟨n,h1.2.1,ni.2 ⟨by rw[lo,hi];exact h1.1,h1.2.2⟩⟩
   .rintro⟨n,h1,h2⟩;have h3:=ni.1 h2;rw[lo,hi]at h3;refine⟨n,(Dz mf).mem_iff.2 (a0 λhh=>?_),by rw[ab,ab,decide_eq_true_iff,Hk];exact⟨h3.1,h1,h3.2⟩⟩;have:=congrFun (zf n (En.2 hh)) a;rw[Hk.2 h1]at this;cases this
end
section
set_option maxRecDepth 100000
set_option maxHeartbeats 2000000
end
theorem Axs{l:List Al}{t:Ab}{x:B.As}(hv:NP l)(hl:f l<=64)(ht:GH l<=4)(hz:Er t<=40)(he:(DP l d t).2=0):Afh (AM l) (UK (AM l) x) t:=by
 have hL:JJ (AM l):=XG hv hl;have tot:=TT (l:=l);obtain⟨o,e,_⟩:=Pm he;have al:∀n,Io (AM l) n (f (AM l).Aa) (UK (AM l) x)=d:=λn=>(NO hL).2 λi hi=>by grind[ZF]
 exact .of (Aaj (n0:=8) hL (by omega) (by omega) (by show f l<=1000;omega) _ t (a4 _) o hz e) (LN _ t (a4 _) e) (al σ) (al d)
theorem Yi{a:B0}{i:Int}{t:Ab}{H:HY}{X:PX}{Q:Bool×Unit->UU}(hl:f a.Aa<=1000000000000000)(_:Bl .i64 i)(h:∀H',Q (d,()) () H'):qK 4 G8 (a,i,t,()) H Q X:=by
 refine wF Tryz.f4 {lp:=[(16,⟨[(15,.nat)],[1,3,5,7,10],d⟩)],im:=[3,5],jn:=[(53,⟨[(12,.one (.dat I6))],[1,3,5,7,10,11],d⟩)]} (?_:letI F:=λ(b:qU)_ G=>Q (b.1,()) () G;letI E:=λ(b:qV)_ G=>(b.1=2->qK 10 Bt () G F X)/\(¬b.1=2->Q (σ,()) () G);letI I:=i.toNat;letI O:=λ(b:qV)_ G=>(b.1=3->qK 10 Bt () G F X)/\(¬b.1=3->Q (σ,()) () G);letI P:=IK i;letI R:=P->0<=i;letI S:=f a.Aa;qK 8 Gv (a,()) H (λ(b:qU)_ G=>(¬b.1->qK 10 Bt () G F X)/\(¬¬b.1->qK 9 DX (t,(30:den Y0.D (Ty.int .i64)),()) G (λ(b:qV)_ G=>(b.1<0->qK 10 Bt () G F X)/\(¬b.1<0->qK 11 E0 (a,()) G (λ(b:Option Nat×Ae×qU)_ G=>(¬b.2.2.1->Q (σ,()) () G)/\(¬¬b.2.2.1->qK 18 Ns (b.1,b.2.1,i,t,()) G (λ(b1:Int×qV)_ G=>letI Y:=b1.1=0;letI B:=b1.2.1=2;letI C:=Q (σ,()) () G;letI W:=(B->(Y->qK 14 Cv (b.1,()) G E X)/\(¬Y->C))/\(¬B->C);(0<=i->S<=2^63-1->∃(M:qV->HP),(∀x H,M x H->(¬x.1=0->(b1.2.1=x.1->(Y->qK 14 Cv (b.1,()) H E X)/\(¬Y->Q (σ,()) () H))/\(¬b1.2.1=x.1->Q (σ,()) () H))/\(¬¬x.1=0->(¬b1.2.1=x.1->(b1.2.1=x.1->(Y->qK 14 Cv (b.1,()) H E X)/\(¬Y->Q (σ,()) () H))/\(¬b1.2.1=x.1->Q (σ,()) () H))/\(¬¬b1.2.1=x.1->∃(V:Nat->Nat×UT->HP),(∃(n:Nat),V n (0,()) H)/\∀n x H,V n x H->qK 15 EH (a,()) H (λ(b2:qV)_ G=>letI A:=x.1+1;letI Z:=(x.1:Int);(Z<b2.1->qK 16 Ex (a.Aa,t,Z,()) G (λ(b3:Int×qU)_ G=>qK 19 CL (a.Aa,Z,d,()) G (λ(b4:List Int×List Bool×UT)_ G=>(b3.2.1->P->R/\∃(h:(I<f b4.2.1)),qK 17 BR (b.1,b1.1,Z,()) G (λ(b:qU)_ G=>letI N:=A<=(2^63-1:Nat)/\∃m,m<n/\V m (A,()) G;letI L:=ν (b.1=d);letI J:=Q (σ,()) () G;letI K:=(!L==σ)=d;∃(h:(I<f b4.2.1)),(b4.2.1[I]->P->R/\∃(h:(I<f b4.1)),∃(h:(I<f b4.1)),((!L==ν (b4.1[I]=b3.1))->J)/\(¬(!L==ν (b4.1[I]=b3.1))->N))/\(¬b4.2.1[I]->(K->J)/\(¬K->N))) X/\∃(h:(I<f b4.2.1)),qK 17 BR (b.1,b1.1,Z,()) G (λ(b:qU)_ G=>(b4.2.1[I]->P->R/\∃(h:(I<f b4.1)),∃(h:(I<f b4.1)),((!ν (b.1=d)==ν (b4.1[I]=b3.1))->Q (σ,()) () G)/\(¬(!ν (b.1=d)==ν (b4.1[I]=b3.1))->A<=(2^63-1:Nat)/\∃m,m<n/\V m (A,()) G))/\(¬b4.2.1[I]->((!ν (b.1=d)==σ)->Q (σ,()) () G)/\(¬(!ν (b.1=d)==σ)->A<=(2^63-1:Nat)/\∃m,m<n/\V m (A,()) G))) X)/\(¬b3.2.1->dup (A<=2^63-1/\∃m,m<n/\V m (A,()) G))) X) X)/\(¬Z<b2.1->qK 14 Cv (b.1,()) G O X)) X)))/\(i<(S:Int)->qK 13 EE (a.Aa,t,σ,()) G (λ(b:Af×qV)_ G=>(b.2.1=0->P->R/\∃(h:I<S),((!ν (b.1.Bool=d)==ν (a.Aa[I].Bool=d))->M (13,()) G)/\(¬(!ν (b.1.Bool=d)==ν (a.Aa[I].Bool=d))->M (b.2.1,()) G))/\(¬b.2.1=0->M (b.2.1,()) G)) X)/\(¬i<(S:Int)->M (2,()) G))/\(¬0<=i->(¬(2:Int)=0->W)/\(¬¬(2:Int)=0->(¬B->W)/\(¬¬B->∃(V:Nat->Nat×UT->HP),(∃(n:Nat),V n (0,()) G)/\∀n x H,V n x H->qK 15 EH (a,()) H (λ(b2:qV)_ G=>((x.1:Int)<b2.1->qK 16 Ex (a.Aa,t,(x.1:Int),()) G (λ(b3:Int×qU)_ G=>qK 19 CL (a.Aa,(x.1:Int),d,()) G (λ(b4:List Int×List Bool×UT)_ G=>(b3.2.1->P->R/\∃(h:I<f b4.2.1),qK 17 BR (b.1,b1.1,(x.1:Int),()) G (λ(b:qU)_ G=>∃(h:I<f b4.2.1),(b4.2.1[I]->P->R/\∃(h:I<f b4.1),∃(h:I<f b4.1),((!ν (b.1=d)==ν (b4.1[I]=b3.1))->Q (σ,()) () G)/\(¬(!ν (b.1=d)==ν (b4.1[I]=b3.1))->x.1+1<=(2^63-1:Nat)/\∃m,m<n/\V m (x.1+1,()) G))/\(¬b4.2.1[I]->((!ν (b.1=d)==σ)->Q (σ,()) () G)/\(¬(!ν (b.1=d)==σ)->x.1+1<=(2^63-1:Nat)/\∃m,m<n/\V m (x.1+1,()) G))) X/\∃(h:I<f b4.2.1),qK 17 BR (b.1,b1.1,(x.1:Int),()) G (λ(b:qU)_ G=>(b4.2.1[I]->P->R/\∃(h:I<f b4.1),∃(h:I<f b4.1),((!ν (b.1=d)==ν (b4.1[I]=b3.1))->Q (σ,()) () G)/\(¬(!ν (b.1=d)==ν (b4.1[I]=b3.1))->x.1+1<=(2^63-1:Nat)/\∃m,m<n/\V m (x.1+1,()) G))/\(¬b4.2.1[I]->((!ν (b.1=d)==σ)->Q (σ,()) () G)/\(¬(!ν (b.1=d)==σ)->x.1+1<=(2^63-1:Nat)/\∃m,m<n/\V m (x.1+1,()) G))) X)/\(¬b3.2.1->dup (x.1+1<=2^63-1/\∃m,m<n/\V m (x.1+1,()) G))) X) X)/\(¬(x.1:Int)<b2.1->qK 14 Cv (b.1,()) G O X)) X)))) X)) X)) X)) X);have lv:∀{H':HY},qK 10 Bt () H' (λ(b:Bool×Unit)io H'=>Q (b.1,()) () H') X:=λ{H'}=>Apv λH2=>h H2;refine Ar0 hl λt0 hs=>⟨λ_=>lv,λhs'=>Aqs (SizeOf.sizeOf t+1) t (by omega) (by decide) (by decide) λr _ _ hr=>⟨λ_=>lv,λhr0=>?_⟩⟩
 have sm:=hs (a8.1 hs');have hz:Er t<=31:=by have:=hr (Int.not_lt.1 hr0);omega
 have st:=sm.t;have sn:=sm.n;have v1000:f a.Aa<=1000:=by omega
 refine Afi sm λb M H1 mn mi mv ws rm nm=>⟨λhn=>qG rfl hn,λ_=>?_⟩
 have hn0:M.S.n=2*GH a.Aa:=nm.n;have g:MG H1 b M:=⟨mn,mi,mv,λ_ _=>.inr (.inr Axt),by omega,rm⟩
 have hnx:=nm.nx;have hln:=nm.ln;have two:∀{H':HY},MG H' b M->qK 14 Cv (δ b,()) H' (λ(b:Int×Unit)io H'=>(b.1=(2:Int)->qK 10 Bt () H' (λ(b:Bool×Unit)io H'=>Q (b.1,()) () H') X)/\(¬b.1=(2:Int)->Q (σ,()) () H')) X:=λ{H'}g2=>
  PH g2.h g2.i (by omega) ⟨λ_=>lv,λhn=>qG (by show (f M.hs:Int)=2;rw[hln];rfl) hn⟩
 have no:∀{H':HY}{w:Int}{Z:Prop},¬w=0->MG H' b M->(¬w=(0:Int)->(w=w->((0:Int)=(0:Int)->qK 14 Cv (δ b,()) H' (λ(b:Int×Unit)io H'=>(b.1=(2:Int)->qK 10 Bt () H' (λ(b:Bool×Unit)io H'=>Q (b.1,()) () H') X)/\(¬b.1=(2:Int)->Q (σ,()) () H')) X)/\(¬(0:Int)=(0:Int)->Q (σ,()) () H'))/\(¬w=w->Q (σ,()) () H'))/\(¬¬w=(0:Int)->Z):=λ{H' w Z}hw g2=>
  ⟨λ_=>⟨λ_=>⟨λ_=>two g2,λhh=>qG rfl hh⟩,λhh=>qG rfl hh⟩,λhh=>qG hw hh⟩
 have inn:0<=i->i.toNat<f a.Aa->i<(f a.Aa:Int):=λ_ _=>by omega
 refine Ya (l:=a.Aa) sm.v (by omega) g (by omega) (by omega) (by omega) (by omega) (by omega) (λho H2 g2=>?_) (λi0 i1 he H2 g2=>?_) (λi0 i1 he hb H2 g2=>?_) λi0 i1 he hb M2 H2 r F g2 q2 nx2 hT hN=>?_
 .exact⟨λi0 _=>⟨λw H'=>w=(2,())/\H'=H2,by rintro w H' ⟨rfl,rfl⟩;exact no (by decide) g2,λhh=>qG hh (by omega),λ_=>⟨rfl,rfl⟩⟩,λ_=>no (by decide) g2⟩
 .exact⟨λ_ _=>⟨λw H'=>w=((DP a.Aa σ t).2,())/\H'=H2,by rintro w H' ⟨rfl,rfl⟩;exact no he g2,λ_=>K5 v1000 ⟨λhh=>qG hh he,λ_=>⟨rfl,rfl⟩⟩,λhh=>qG (inn i0 i1) hh⟩,λhh=>qG i0 hh⟩
 .exact⟨λ_ _=>⟨λw H'=>w=(13,())/\H'=H2,by rintro w H' ⟨rfl,rfl⟩;exact no (by decide) g2,λ_=>K5 v1000 ⟨λ_ _=>⟨λ_=>i0,i1,λ_=>⟨rfl,rfl⟩,λhh=>qG ((nb _ _).2 hb) hh⟩,λhh=>qG he hh⟩,λhh=>qG (inn i0 i1) hh⟩,λhh=>qG i0 hh⟩
 .have he1:(DP a.Aa d t).2=0:=by rw[RR he];exact he
  have hb1:(AA a.Aa d t).1.Bool=a.Aa[i.toNat].Bool:=by rw[<-(Pm he1).2.2,RR he];exact hb
  have ln2:=q2.ln;have n2:M2.S.n=2*GH a.Aa:=q2.bs.n.trans hn0;have hN2:M2.S.n.toNat=(2*GH a.Aa).toNat:=by rw[n2]
  have hsz:2^(2*GH a.Aa).toNat<=256:=Nat.le_trans (Nat.pow_le_pow_right (by omega) (show (2*GH a.Aa).toNat<=8 by omega)) (by decide);refine⟨λ_ _=>⟨λw H'=>w=(0,())/\H'=H2,?_,λ_=>K5 v1000 ⟨λ_ _=>⟨λ_=>i0,i1,λhh=>qG hb ((nb _ _).1 hh),λ_=>⟨by rw[he],rfl⟩⟩,λhh=>qG he hh⟩,λhh=>qG (inn i0 i1) hh⟩,λhh=>qG i0 hh⟩;rintro w H' ⟨rfl,rfl⟩;refine⟨λhh=>qG rfl hh,λ_=>⟨λhh=>qG rfl hh,λ_=>?_⟩⟩;generalize hS:2^(2*GH a.Aa).toNat=S at hsz;refine⟨λn z H3=>H3=H'/\n=S-z.1/\z.1<=S,⟨_,rfl,rfl,ai _⟩,?_⟩;rintro n ⟨k,_⟩ H3 ⟨rfl,hn0',hk0⟩;have hnn:n=S-k:=hn0';have hk:k<=S:=hk0;refine As9 sm ?_;rw[hS];refine⟨λhlt0=>?_,λ_=>PH g2.h g2.i (by omega) ⟨λ_=>lv,λhn=>qG (by show (f M2.hs:Int)=3;rw[ln2,hln];rfl) hn⟩⟩;have hlt:k<S:=Int.ofNat_lt.1 hlt0;have nxt:k+1<=9223372036854775807/\∃m,m<n/\H3=H3/\m=S-(k+1)/\k+1<=S:=⟨by omega,S-(k+1),by omega,rfl,rfl,by omega⟩
  refine WJ (N:=M2.S.n.toNat) sm.v (by omega) (by omega) (by omega) (by omega) (by omega) he1 λv y hy=>Nw (N:=M2.S.n.toNat) sm.v (by omega) (by omega) (by omega) (by omega) ⟨λhyt _=>?_,λ_=>Qb nxt⟩;obtain⟨e1,e2,e3⟩:=hy hyt;obtain⟨x,hx⟩:∃x,x=NT M2.S.n.toNat k:=⟨_,rfl⟩
  rw[<-hx]at e1 e2 e3;have tv:=Axs (x:=x) sm.v (by omega) (by omega) (by omega) he1;have key:F x=d↔CB (AM a.Aa) d i.toNat x=δ v:=by
   cases hB:a.Aa[i.toNat].Bool with
   |true=>rw[hT hB x,e1,tv.b (hb1.trans hB),e2]
   |false=>
    have n1:=tv.n (hb1.trans hB);rw[e3,<-e1]at n1;rw[hN hB x];exact⟨λ⟨n,h1,h2⟩=>by rw[n1]at h1;rw[h2,h1],λhh=>⟨v,n1,hh⟩⟩
  have rd:=Abc sm.v i1 (a:=x) (next:=d);have lb:i.toNat<f ((ac (f a.Aa)).map (Tg a.Aa (NT M2.S.n.toNat k) d (AM a.Aa))):=by rw[a3,ae];exact i1
  have lw:i.toNat<f ((ac (f a.Aa)).map (rdV a.Aa (NT M2.S.n.toNat k) d (AM a.Aa))):=by rw[a3,ae];exact i1
  have eb:((ac (f a.Aa)).map (Tg a.Aa (NT M2.S.n.toNat k) d (AM a.Aa)))[i.toNat]'lb=Tg a.Aa x d (AM a.Aa) i.toNat:=by rw[a5,ad,hx]
  have ew:((ac (f a.Aa)).map (rdV a.Aa (NT M2.S.n.toNat k) d (AM a.Aa)))[i.toNat]'lw=rdV a.Aa x d (AM a.Aa) i.toNat:=by rw[a5,ad,hx]
  refine⟨λ_=>i0,lb,Afb (k:=k) g2.h g2.i q2.self g2.n8 (by omega) ⟨lb,?_⟩,lb,Afb (k:=k) g2.h g2.i q2.self g2.n8 (by omega) ?_⟩;all_goals
   refine⟨λhb2 _=>⟨λ_=>i0,lw,lw,λhh=>qG hh ?_,λ_=>nxt⟩,λhb2=>⟨λhh=>qG hh ?_,λ_=>nxt⟩⟩
   .have hb3:Tg a.Aa x d (AM a.Aa) i.toNat=d:=eb.symm.trans hb2
    show ¬not (ν (F (NT M2.S.n.toNat k)=d)==ν (((ac (f a.Aa)).map (rdV a.Aa (NT M2.S.n.toNat k) d (AM a.Aa)))[i.toNat]'lw=v))=d
    rw[UV hb3]at rd
    have kd:ν (F x=d)=ν (rdV a.Aa x d (AM a.Aa) i.toNat=v):=decide_eq_decide.2 (key.trans (by rw[rd,Option.some.injEq]))
    rw[ew,<-hx,kd]
    simp
   .have hb3:¬Tg a.Aa x d (AM a.Aa) i.toNat=d:=λhh=>hb2 (eb.trans hh)
    show ¬not (ν (F (NT M2.S.n.toNat k)=d)==σ)=d
    rw[GT hb3]at rd
    have nf:¬F x=d:=λhh=>by rw[key.1 hh]at rd;cases rd
    rw[<-hx,decide_eq_false nf]
    decide
end Go.Proofs.YtcbkbpjlbmalmaaGreatDoor
