/-
  What it says that a variable is valid; the chapter's example. (Merged by program out of 2 texts.)
-/
import Derived.Test.YtcbkbpjlbmalmaaGreatDoorpag
open Int renaming mul_le_mul_of_nonneg_right->a0
open List renaming mem_range->a1,mem_map->a2
namespace Go.Proofs.YtcbkbpjlbmalmaaGreatDoor
open Go Go.X Go.Y
section
def nmE:ByteArray:={data:={toList:=[]:Array UInt8}:ByteArray}
def nmN:ByteArray:={data:={toList:=[(110:UInt8)]:Array UInt8}:ByteArray}
def N3:Ar:={Name:=nmN,Bool:=false,Lo:=(0:Int),Hi:=(2:Int):Ar}
def trN:Ae:={Op:=(3:Int),N:=(0:Int),Name:=nmN,Kids:=[]:Ae}
def tr1:Ae:={Op:=(1:Int),N:=(1:Int),Name:=nmE,Kids:=[]:Ae}
def trL:Ae:={Op:=(14:Int),N:=(0:Int),Name:=nmE,Kids:=[trN,tr1]:Ae}
theorem Amt:¬nmN={data:={toList:=[]:Array UInt8}:ByteArray}:=Afs.2 (by decide)
theorem Re(t:Ae):Ae.mk t.Op t.N t.Name t.Kids=t:=by cases t;rfl
variable {H:HY} {X:PX}
theorem RJ{op:Int}{Q:Int×Int×Unit->UU}(a:op=1∨op=3)(h:Q (0,0,()) () H):Wp Y0 IP GI (op,()) H Q X:=by
 refine wF Tryz.f219 {} (?_:GF op H Q X);unfold GF;rcases a with e|e<;>subst e <;>
 repeat' first
  |exact h
  |(intro b;exact absurd b (by decide))
  |refine⟨?_,?_⟩
  |intro _
theorem Abm{Q:Int×Int×Unit->UU}(h:Q (2,2,()) () H):Wp Y0 IP GI (14,()) H Q X:=by grind[Yz,GF,absurd]
def Ao7(t:Ae):Prop:=∀(H:HY)(X:PX)(Q:Int×Unit->UU),Q (0,()) () H->Wp Y0 JK Hw (t,()) H Q X
theorem Ap3:Ao7 trN:=by
 intro H X Q h;apply LI;unfold FA;refine RJ (.inr rfl) ?_;repeat' first
  |exact h
  |(intro a;exact absurd a Amt)
  |(intro a;exact absurd Amt a)
  |(intro a;exact absurd a (by decide))
  |refine⟨?_,?_⟩
  |intro _
theorem Ap5:Ao7 tr1:=by
 intro H X Q h;apply LI;unfold FA;refine RJ (.inl rfl) ?_;repeat' first
  |exact h
  |(intro a;exact absurd (show nmE=nmE from rfl) a)
  |(intro a;exact absurd a (by decide))
  |refine⟨?_,?_⟩
  |intro _
theorem Ap4:Ao7 trL:=by
 intro H X Q h;apply LI;unfold FA;refine Abm ?_;repeat' first
  |exact h
  |(intro a;exact absurd (show nmE=nmE from rfl) a)
  |(intro a;exact absurd a (by decide))
  |refine⟨?_,?_⟩
  |intro _
def CkP:Nat->Int->Ae->Prop
 |0,_,_=>False
 |f+1,deep,t=>deep<=64/\Ao7 t/\t.Kids.length<=64/\∀k∈t.Kids,CkP f (deep+1) k
def CkN:Nat->Nat
 |0=>0
 |f+1=>1+64*CkN f
abbrev CkC(n w:Nat):FT Y0 [.u 3,.int .i64] [.bool]:=λ(a:Ae×Int×Unit)(H:HY)(Q:Bool×Unit->HP)(X:Nat->Lf Y0.D->HP)=>Wp Y0 F7 Ep (a.1,a.2.1,some n,some w,()) H (λ(b:Bool×Unit)(_:Unit)(H':HY)=>Q (b.1,()) H') X
variable {t:Ae}
theorem Asq{deep x y:Int}{n w:Nat}{Q:Bool×Unit->UU}(c:Ao7 t)(g:deep<=64)(f:0<=x/\x+1<=4096)(a:n≠w)(e:H n=some (.st Ba x))(d:H w=some (.st Ba y))(h:Q (true,()) () (Ab (Ab H n (.st Ba (x+1))) w (.st Ba (0:Int)))):Wp Y0 F7 Ep (t,deep,some n,some w,()) H Q X:=by refine wF Tryz.f165 {im:=[4]} (?_:HN t deep (some n) (some w) H Q X);unfold HN;refine⟨n,rfl,x,e,λ_=>⟨A7.2 (by omega),λb=>absurd b (by omega),λ_=>c _ _ _ ⟨w,rfl,y,by simp_all[Ag,Ne.symm],λ_=>⟨x+1,by grind[Ag,Ai],λb=>absurd b (by omega),λ_=>⟨rfl,0,Ai _ _ _,rfl,h⟩⟩,λb=>absurd rfl b⟩⟩⟩
theorem Afg{n w:Nat}(d:n≠w):∀(f:Nat)(a:Int)(t:Ae)(x:Int){H:HY}{X:PX}{Q:Bool×Unit->UU},CkP f a t->0<=a->H n=some (.st Ba x)->H w=some (.st Ba (0:Int))->0<=x->x+(CkN f:Int)<=4096->(∀H' x',x<=x'->x'<=x+(CkN f:Int)->H' n=some (.st Ba x')->H' w=some (.st Ba (0:Int))->(∀c,c≠n->c≠w->H' c=H c)->Q (true,()) () H')->Wp Y0 Fw Ex (t,a,CkC n w,()) H Q X
 |0,_,_,_,_,_,_,h,_,_,_,_,_,_=>h.elim
 |f+1,a,t,x,H,X,Q,⟨F,J,W,K⟩,V,G,I,D,E,h=>by
  apply Rb;unfold MK;have O:(CkN (f+1):Int)=1+64*(CkN f:Int):=by rfl
  rw[O]at E h;refine Asq J F ⟨D,by omega⟩ d G I ⟨λo=>absurd rfl o,λ_ _=>⟨λm z H'=>m=t.Kids.length-z.1/\z.1<=t.Kids.length/\∃x',x<=x'/\x'<=x+1+(z.1:Int)*(CkN f:Int)/\H' n=some (.st Ba x')/\H' w=some (.st Ba (0:Int))/\∀c,c≠n->c≠w->H' c=H c,⟨_,rfl,Nat.zero_le _,x+1,by omega,by simp,by grind[Ag,Ai],Ai _ _ _,λc i g=>by rw[Ag _ _ g,Ag _ _ i]⟩,?_⟩⟩;rintro m ⟨k,_⟩ H' ⟨j,r,x',q,e,u,y,A⟩;have U:m=t.Kids.length-k:=j;have P:k<=t.Kids.length:=r;have B:x'<=x+1+(k:Int)*(CkN f:Int):=e;have v:(k:Int)*(CkN f:Int)<=64*(CkN f:Int):=a0 (by omega) (by omega);refine⟨λb _=>?_,λ_=>h H' x' q (by omega) u y A⟩;have b:k<t.Kids.length:=b;refine⟨b,λ_=>⟨A7.2 (by omega),?_⟩⟩;have p:((k+1:Nat):Int)*(CkN f:Int)=(k:Int)*(CkN f:Int)+(CkN f:Int):=by rw[show ((k+1:Nat):Int)=(k:Int)+1 by omega,Int.add_mul,Int.one_mul]
  have l:((k+1:Nat):Int)*(CkN f:Int)<=64*(CkN f:Int):=a0 (by omega) (by omega);show Wp Y0 Fw Ex (Ae.mk t.Kids[k].Op t.Kids[k].N t.Kids[k].Name t.Kids[k].Kids,a+1,CkC n w,()) H' _ X;rw[Re];refine Afg d f (a+1) t.Kids[k] x' (K _ (List.getElem_mem b)) (by omega) u y (by omega) (by omega) λR s T S L C M=>⟨λo=>absurd rfl o,λ_=>⟨by grind,t.Kids.length-(k+1),by omega,rfl,by grind,s,by omega,?_,L,C,λc i g=>(M c i g).trans (A c i g)⟩⟩
  grind
theorem Apl{f:Nat}{Q:Int×Unit->UU}(m:CkP f 1 t)(q:CkN f<=4096)(h:∀H',(∀c,H c≠none->H' c=H c)->Q (0,()) () H'):Wp Y0 Md JD (t,()) H Q X:=by
 refine wF Tryz.f90 {pr:=[(3,8),(4,8)],im:=[1]} (?_:JA t H Q X);unfold JA;intro w l n d;have a:n≠w:=λe=>by grind[Ai]
 have j:H n=none:=by grind[Ag]
 refine⟨0,by rw[Ag _ _ (Ne.symm a),Ai],0,by rw[Ag _ _ a,Ai],?_⟩;refine Afg a f 1 t 0 m (by decide) (Ai _ _ _) (by rw[Ag _ _ (Ne.symm a),Ai]) (Int.le_refl _) (by omega) λH' p _ _ _ o k=>⟨0,o,rfl,h H' λc b=>?_⟩
 have i:c≠n:=λe=>b (by grind);have g:c≠w:=λe=>b (by grind);rw[k c i g,Ag _ _ i,Ag _ _ g,Ag _ _ i,Ag _ _ g]
theorem A5i:CkP 2 1 trL:=by
 refine⟨by decide,Ap4,by decide,λk a=>?_⟩;rcases List.mem_cons.1 a with e|a
 .rw[e];exact⟨by decide,Ap3,by decide,λk a=>by cases a⟩
 .rw[List.mem_singleton.1 a];exact⟨by decide,Ap5,by decide,λk a=>by cases a⟩
def Ta:List (ByteArray×Int):=[(nmN,0)]
theorem Amx{Q:List (ByteArray×Int)×Unit->UU}(h:Q (Ta,()) () H):Wp Y0 Mc JC ([N3],()) H Q X:=by
 refine wF Tryz.f92 {lp:=[(3,⟨[(3,.map .str I6),(11,.nat)],[9,10],false⟩)]} (?_:J9 [N3] H Q X);unfold J9;refine λ_=>⟨λm z=>(m=1/\z.1=[]/\z.2.1=0)∨(m=0/\z.1=Ta/\z.2.1=1),⟨_,rfl,.inl ⟨rfl,rfl,rfl⟩⟩,?_⟩
 rintro m ⟨d,k,_⟩ e;rcases e with ⟨f,a,b⟩|⟨f,a,b⟩
 .have a:d=[]:=a;have b:k=0:=b;subst a b;refine⟨λ_ _=>⟨by omega,λ_=>⟨by omega,0,by omega,rfl,.inr ⟨rfl,rfl,rfl⟩⟩,λc=>absurd (show ¬(Ad ([]:List (ByteArray×Int)) nmN).isSome=true by simp [Ad]) c⟩,λc=>absurd (show 0<1 by decide) c⟩
 .have a:d=Ta:=a;have b:k=1:=b;subst a b;exact⟨λc=>absurd c (by show ¬1<1;decide),λ_=>h⟩
theorem Y6{lo hi:Int}{Q:Af×Int×Unit->UU}(e:-1048576<=lo)(d:hi<=1048576)(c:lo<=hi)(b:hi-lo<=4096)(h:Q ({Bool:=false,Lo:=lo,Hi:=hi:Af},0,()) () H):Wp Y0 Bz Br (lo,hi,()) H Q X:=by grind[Yy,KB,A7]
theorem Awq:Ad Ta nmN=some 0:=by simp [Ad,Ta]
variable {Q:Af×Int×Unit->List (ByteArray×Int)×Unit->HP}
theorem Avu(h:Q ({Bool:=false,Lo:=1,Hi:=1:Af},0,()) (Ta,()) H):Wp Y0 GR Fj ([N3],Ta,tr1,true,[],()) H Q X:=by refine wF Tryz.f167 {im:=[7]} (?_:Ev [N3] Ta tr1 true [] H Q X);unfold Ev;exact⟨λ_=>Y6 (by decide) (by decide) (by decide) (by decide) h,λa=>absurd rfl a⟩
theorem Avs(h:Q ({Bool:=false,Lo:=0,Hi:=2:Af},0,()) (Ta,()) H):Wp Y0 GR Fj ([N3],Ta,trN,true,[],()) H Q X:=by
 refine wF Tryz.f167 {im:=[7]} (?_:Ev [N3] Ta trN true [] H Q X);unfold Ev;have e:Ad Ta trN.Name=some 0:=Awq;rw[e];have a:Wp Y0 Bz Br (N3.Lo,N3.Hi,()) H (λ(b:Af×Int×Unit)(f:Unit)(d:HY)=>Q (b.1,b.2.1,()) (Ta,()) d) X:=Y6 (by decide) (by decide) (by decide) (by decide) h;repeat' first
  |exact a
  |(intro c;exact absurd c (by decide))
  |refine⟨?_,?_⟩
  |intro _
  |decide
theorem Avt(h:Q ({Bool:=false,Lo:=1,Hi:=3:Af},0,()) (Ta,()) H):Wp Y0 GR Fj ([N3],Ta,trL,true,[{Bool:=false,Lo:=0,Hi:=2:Af},{Bool:=false,Lo:=1,Hi:=1:Af}],()) H Q X:=by
 refine wF Tryz.f167 {im:=[7]} (?_:Ev [N3] Ta trL true [{Bool:=false,Lo:=0,Hi:=2:Af},{Bool:=false,Lo:=1,Hi:=1:Af}] H Q X);unfold Ev;have a:Wp Y0 GQ EP ((14:Int),{Bool:=false,Lo:=0,Hi:=2:Af},{Bool:=false,Lo:=1,Hi:=1:Af},()) H (λ(b:Af×Int×Unit)(f:Unit)(d:HY)=>Q (b.1,b.2.1,()) (Ta,()) d) X:=by apply SL;unfold GD;exact⟨λc=>absurd c (by decide),λ_=>⟨λ_ _ _=>⟨A7.2 (by decide),λ_ _=>⟨A7.2 (by decide),Y6 (by decide) (by decide) (by decide) (by decide) h⟩⟩,λc=>absurd rfl c⟩⟩
 repeat' first
  |exact a
  |(intro e;exact absurd e (by decide))
  |refine⟨?_,?_⟩
  |intro _
  |decide
def As5(t:Ae)(ty:Af):Prop:=∀(H:HY)(X:PX)(Q:Af×Int×Unit->List (ByteArray×Int)×Unit->HP),Q (ty,0,()) (Ta,()) H->Wp Y0 DP Dy ([N3],Ta,t,true,()) H Q X
theorem Afi{ty:Af}(f:t.Kids=[])(e:∀(H:HY)(X:PX)(Q:Af×Int×Unit->List (ByteArray×Int)×Unit->HP),Q (ty,0,()) (Ta,()) H->Wp Y0 GR Fj ([N3],Ta,t,true,[],()) H Q X):As5 t ty:=by
 intro H X Q h;apply LJ;unfold J8;refine λ_=>⟨λm z=>z.1=Ta/\z.2.2.1=[]/\z.2.2.2.1=0,⟨0,rfl,rfl,rfl,rfl⟩,?_⟩
 rintro m ⟨g,i,l,k,_⟩ ⟨a,b,c⟩;have a:g=Ta:=a;have b:l=[]:=b;have c:k=0:=c;subst a b c;exact⟨λd=>absurd d (by grind),λ_=>e _ _ _ h⟩
theorem A20:As5 trN {Bool:=false,Lo:=0,Hi:=2:Af}:=Afi rfl λ_ _ _ h=>Avs h
theorem A22:As5 tr1 {Bool:=false,Lo:=1,Hi:=1:Af}:=Afi rfl λ_ _ _ h=>Avu h
theorem A21:As5 trL {Bool:=false,Lo:=1,Hi:=3:Af}:=by
 intro H X Q h;apply LJ;unfold J8;refine λ_=>⟨λm z=>m=2-z.2.2.2.1/\z.1=Ta/\((z.2.2.2.1=0/\z.2.2.1=[])∨(z.2.2.2.1=1/\z.2.2.1=[{Bool:=false,Lo:=0,Hi:=2:Af}])∨(z.2.2.2.1=2/\z.2.2.1=[{Bool:=false,Lo:=0,Hi:=2:Af},{Bool:=false,Lo:=1,Hi:=1:Af}])),⟨_,rfl,rfl,rfl,.inl ⟨rfl,rfl⟩⟩,?_⟩
 rintro m ⟨g,i,l,k,_⟩ ⟨f,e,d⟩;have e:g=Ta:=e;subst e;rcases d with ⟨a,b⟩|⟨a,b⟩|⟨a,b⟩
 .have a:k=0:=a;have b:l=[]:=b;subst a b;refine⟨λ_ _=>⟨by omega,?_⟩,λc=>absurd (show 0<2 by decide) c⟩;show Wp Y0 DP Dy ([N3],Ta,trN,true,()) H _ X;exact A20 _ _ _ ⟨λc=>absurd rfl c,λ_=>⟨by simp,by simp,1,by omega,rfl,rfl,rfl,.inr (.inl ⟨rfl,rfl⟩)⟩⟩
 .have a:k=1:=a;have b:l=[{Bool:=false,Lo:=0,Hi:=2:Af}]:=b;subst a b;refine⟨λ_ _=>⟨by omega,?_⟩,λc=>absurd (show 1<2 by decide) c⟩;show Wp Y0 DP Dy ([N3],Ta,tr1,true,()) H _ X;exact A22 _ _ _ ⟨λc=>absurd rfl c,λ_=>⟨by simp,by simp,0,by omega,rfl,rfl,rfl,.inr (.inr ⟨rfl,rfl⟩)⟩⟩
 .have a:k=2:=a;have b:l=[{Bool:=false,Lo:=0,Hi:=2:Af},{Bool:=false,Lo:=1,Hi:=1:Af}]:=b;subst a b;exact⟨λc=>absurd c (by show ¬2<2;decide),λ_=>Avt h⟩
theorem Ayq{Q:Af×Int×Unit->UU}(h:∀H',(∀c,H c≠none->H' c=H c)->Q ({Bool:=false,Lo:=1,Hi:=3:Af},0,()) () H'):Wp Y0 Fx Ey ([N3],trL,true,()) H Q X:=by refine wF Tryz.f41 {im:=[4]} (?_:KC [N3] trL true H Q X);unfold KC;exact Apl A5i (by decide) λH' f=>⟨λa=>absurd rfl a,λ_=>Amx (A21 _ _ _ (h H' f))⟩
end
section
variable {L:Ac} {i:Nat}
theorem Ku.A5e(h:Ku L)(hi:i<L.Aa.length):E8 L.Aa[i]<=NF L.Aa[i]/\(Ng L.Aa[i]:Int)=NF L.Aa[i]-E8 L.Aa[i]+1:=by obtain⟨a,b,d,c⟩:=h.fit i hi (by rw[h.lb];exact hi);grind[Ng]
variable {next:Bool} {a:B.As}
theorem Xr(b:Ku L)(hi:i<L.Aa.length):PN L next i ((L.Aa[i]?.map Ng).getD 0) a=true↔(Jk L next i a).isSome=true:=by
 have g:=b.A5e hi;unfold PN MY;rw[List.getElem?_eq_getElem hi];simp only[Option.map_some,Option.getD_some,List.any_eq_true,a2,a1];constructor
 .rintro⟨F,⟨j,f,rfl⟩,c⟩;have:=(Jx b hi (next:=next) (a:=a) (n:=E8 L.Aa[i]+(j:Int))).2 ⟨by omega,c⟩;grind
 .intro h;obtain⟨n,e⟩:=Option.isSome_iff_exists.1 h;obtain⟨k,d⟩:=(Jx b hi).1 e;exact⟨_,⟨(n-E8 L.Aa[i]).toNat,by omega,rfl⟩,by grind⟩
theorem OS(c:Ku L):EA L next L.Aa.length a=true↔∀i(_:i<L.Aa.length),(Jk L next i a).isSome=true:=by
 unfold EA Ach;simp only[List.all_eq_true,a2,a1];constructor
 .intro h i b;exact(Xr c b).1 (h _ ⟨i,b,rfl⟩)
 .rintro h F ⟨i,b,rfl⟩;grind[Xr]
theorem OA{a b:B.As}:∀{l:List Int},(∀v∈l,a v=b v)->CE a l=CE b l
 | [],_=>rfl
 |v::l,h=>by rw[Lt,Lt,h v List.mem_cons_self,OA λu c=>h u (List.mem_cons_of_mem _ c)]
theorem Ai5(f:Jf L){n:Int}(g:2*CR L<=n)(hi:i<L.Aa.length):VD n (Jk L next i):=λa b e=>by have:=(Rk f hi (next:=next)).2.2;have d:CE a (Cu L i next)=CE b (Cu L i next):=OA λv c=>e v (this v c).1 (by grind);unfold Jk;rw[d]
noncomputable def LL:Ac:=Dg [N3]
def aL:BH:={Aa:=[N3],Order:=[],ED:=[]}
theorem Awc:Aj3 nmN:=by
 refine⟨by decide,by decide,λ_=>?_,λi h=>?_,λh=>?_⟩
 .rfl
 .have h:i<1:=h;obtain rfl:i=0:=by omega
  rfl
 .have:=List.mem_map_of_mem (f:=λs:ByteArray=>s.data.toList) h;revert this;show ¬[(110:UInt8)]∈He.map λs=>s.data.toList;decide
theorem Akr:OT [N3]:=by
 refine⟨λi h=>?_,λk i a b=>?_⟩
 .have h:i<1:=h;obtain rfl:i=0:=by omega
  exact⟨Awc,λe=>absurd e (by show ¬N3.Bool=true;decide),λ_=>by show N3.Lo<=N3.Hi/\-255<=N3.Lo/\N3.Hi<=255/\N3.Hi-N3.Lo<64;decide⟩
 grind
theorem Aua:EC (BL N3)=2:=by
 have:BL N3=3:=by decide
 rw[this];exact Sl ⟨by decide,λj a=>by
  have:j=0∨j=1:=by omega
  rcases this with e|e<;>subst e<;>decide⟩
theorem Auv:GC [N3]=2:=by grind[GC,D0,Ck,Aua]
theorem Aj4:Ku LL:=Zv Akr (by decide)
theorem Ae0:CR LL=2:=Ab2.trans Auv
theorem smL:Ayr aL:=⟨Akr,by decide,by show 0<=GC [N3]/\GC [N3]<=4;grind[Auv],by decide,λi h=>absurd h (Nat.not_lt_zero _),.inl rfl⟩
theorem Aqg:Cu LL 0 next=if next=true then [1,3] else [0,2]:=by
 have c:Mq LL 0=[0,2]:=by
  unfold Mq;have a:LL.Bits[0]?=some 2:=by show (Ck [N3])[0]?=some 2;grind[Ck,Aua]
  have b:LL.At[0]?=some 0:=by rfl
  rw[a,b];rfl
 grind[Cu]
theorem Ps:Jk LL next 0 a=if CE a (if next=true then [1,3] else [0,2])<=2 then some (CE a (if next=true then [1,3] else [0,2]):Int) else none:=by have e:LL.Aa[0]?=some N3:=rfl;unfold Jk;rw[e,Aqg];generalize CE a (if next=true then [1,3] else [0,2])=k;show (if (0:Int)+(k:Int)<=2 then some ((0:Int)+(k:Int)) else none)=_;grind
theorem Aeb:Cl LL.Aa trN.Name=0:=by rfl
noncomputable def VL:B.As->Option Int:=ZE (opF trL.Op) (Jk LL (decide (trN.Op=4)) (Cl LL.Aa trN.Name)) (λ_=>some tr1.N)
theorem Ao8:VL a=if CE a [0,2]<=2 then some ((CE a [0,2]:Int)+1) else none:=by
 unfold VL ZE;rw[Aeb,show decide (trN.Op=4)=false from rfl,Ps];show Option.bind (if CE a [0,2]<=2 then some (CE a [0,2]:Int) else none) _=_;by_cases h:CE a [0,2]<=2
 .rw[if_pos h,if_pos h];rfl
 grind
theorem A0f{n0:Int}(c:2*CR LL<=n0):Uh LL n0 trL (gV VL) 256 (20+1+32+2000) (256+16+1+20+1):=by
 have f:Cl LL.Aa trN.Name<LL.Aa.length:=by rw[Aeb];decide
 unfold VL;intro j b i M g H X Q;refine X7 (PK:=256+16+1+20+1) (by decide) (t:=trL) (ta:=trN) (tc:=tr1) (W:=2) (Z:=32) (.inl rfl) rfl (TB Aj4 c (.inl rfl) f) (R1 (t:=tr1) rfl) ?_ (λ_ _ _=>rfl) (λa n h=>?_) (λa n h=>?_) (λe=>absurd e (by decide)) (by decide) (by decide) rfl rfl
 .exact Ai5 Aj4.toJf (by grind[Ae0]) f
 .rw[Aeb,show decide (trN.Op=4)=false from rfl,Ps]at h;grind
 .have h:=Option.some.inj h;have:n=1:=h.symm;omega
theorem A5q:C6 (EA LL false LL.Aa.length) (EA LL true LL.Aa.length) a=true↔CE a [0,2]<=2/\CE a [1,3]<=2:=by
 have c:∀{b:Bool},EA LL b LL.Aa.length a=true↔CE a (if b=true then [1,3] else [0,2])<=2:=λ{b}=>by
  rw[OS Aj4];refine⟨λh=>?_,λh i e=>?_⟩
  .have:=h 0 (by decide);simp_all[Ps]
  .have e:i<1:=e;obtain rfl:i=0:=by omega
   simp_all[Ps]
 grind[C6]
theorem Aqd{l:List Int}(hs:l.Pairwise (·<·))(c:∀n,n∈l↔n=1∨n=2∨n=3):l=[1,2,3]:=by
 have p:l.Perm [1,2,3]:=(List.perm_ext_iff_of_nodup (hs.imp λh=>by omega) (by decide)).2 λn=>by grind
 exact List.Perm.eq_of_pairwise (le:=λa b=>a<b) (λa b _ _ e d=>by omega) hs (by decide) p
theorem Aot{M M':Mn}{cs:List BU}(h:Ae2 M M' VL (C6 (EA LL false LL.Aa.length) (EA LL true LL.Aa.length)) cs):cs.map (·.N)=[1,2,3]:=by
 refine Aqd h.srt λn=>?_;rw[h.mem];refine⟨λ⟨a,b,d⟩=>?_,λg=>?_⟩
 .grind[Ao8]
 .have c:∀(x y:Bool)(k:Int),CE (λv=>if v=0 then x else if v=2 then y else false) [0,2]<=2->((CE (λv=>if v=0 then x else if v=2 then y else false) [0,2]:Nat):Int)+1=k->CE (λv=>if v=0 then x else if v=2 then y else false) [1,3]<=2->∃a,VL a=some k/\C6 (EA LL false LL.Aa.length) (EA LL true LL.Aa.length) a=true:=λx y k b d f=>⟨_,by rw[Ao8,if_pos b,d],A5q.2 ⟨b,f⟩⟩
  rcases g with e|e|e
  .rw[e];exact c false false 1 (by decide) (by decide) (by decide)
  .rw[e];exact c true false 2 (by decide) (by decide) (by decide)
  .rw[e];exact c false true 3 (by decide) (by decide) (by decide)
theorem Am6{H:HY}{X:PX}{Q:Bool×Unit->UU}(h:∀H',Q (true,()) () H'):Wp Y0 BM B7 () H Q X:=by
 apply N5;unfold Jj;refine Acn (a:=aL) smL λb M H1 W mi mv Z rm D=>⟨λd=>absurd rfl d,λ_=>?_⟩
 have w:M.S.n=4:=by rw[D.n];show 2*GC [N3]=4;grind[Auv]
 have g:MG H1 b M:=⟨W,mi,mv,(by rw[Z];intro ev O;cases O),by omega,rm⟩
 have m:2*CR LL<=M.S.n:=by grind[Ae0]
 have nx2:=D.nx;have G:=D.ln;refine OO (L:=LL) (t:=trL) (V:=VL) (y:={Bool:=false,Lo:=1,Hi:=3:Af}) (e:=0) (bd:=256) (c:=20+1+32+2000) (pk:=256+16+1+20+1) g (by omega) (by omega) Aj4 m (λH X Q U=>Ayq U) (λ_ _=>A0f m) (λC=>absurd rfl C) (λ_ C=>absurd C (by decide)) λ_ _ S H2 E P A Y _=>?_;have B:=Aot A;have l3:E.length=3:=by have:=congrArg List.length B;grind
 obtain⟨v,n,u,rfl⟩:∃v n u,E=[v,n,u]:=by
  match E,l3 with
  | [v,n,u],_=>simp
 have e0:v.N=1:=by grind
 have e1:n.N=2:=by grind
 have e2:u.N=3:=by grind
 have K:=A.ln;have T:S.S.n=4:=A.bs.n.trans w;refine Ly (L:=LL) (next:=false) P (by omega) (by omega) Aj4 (λF=>absurd F (by omega)) λ_ f H3 r s j nx4 _=>?_;have n3:f.S.n=4:=j.bs.n.trans T;have N:=j.Aq r;rw[if_pos rfl]at N;have z:∀k,EA LL false LL.Aa.length (asN f.S.n.toNat k)=true↔CE (asN f.S.n.toNat k) [0,2]<=2:=λk=>by
  rw[OS Aj4];refine⟨λh=>?_,λh i R=>?_⟩
  .have:=h 0 (by decide);grind[Ps]
  .have R:i<1:=R;obtain rfl:i=0:=by omega
   grind[Ps]
 have o:f.S.n.toNat=4:=by omega
 have I:f.Aq n.H=some (gV VL 2):=by
  have p:=A.Aq n (by simp);rw[e1]at p;rw[j.Aq,if_neg λe=>?_]
  .exact p
  .have h2:=j.ge;have h3:∃x,Ad S.hs n.H=some x:=by grind[Mn.Es]
   obtain⟨x,J⟩:=h3;have:=(P.i.ok _ _ J).2.2;omega
 refine⟨λ_=>⟨λ_ _=>⟨λ_=>⟨λ_=>by omega,by simp,by simp,λ_=>⟨λ_=>by omega,by simp,by simp,λ_=>Ao2 (k:=4) s.h s.i N (by omega) (by decide) ⟨λ_=>Ao2 (k:=5) s.h s.i N (by omega) (by decide) ⟨λ_=>⟨λ_=>by omega,by simp,by simp,Ao2 (k:=1) s.h s.i I (by omega) (by decide) ?_⟩,λd=>?_⟩,λd=>?_⟩,λd=>absurd e2 d⟩,λd=>absurd e0 d⟩,λd=>absurd rfl d⟩,λd=>absurd rfl d⟩,λd=>absurd rfl d⟩
 .have:gV VL 2 (asN f.S.n.toNat 1)=true:=by rw[FL,Ao8,o];rfl
  grind
 .have d:¬¬EA LL false LL.Aa.length (asN f.S.n.toNat 5)=true:=d;have:=(z 5).1 (Classical.not_not.1 d);rw[o]at this;exact absurd this (by decide)
 .have d:¬EA LL false LL.Aa.length (asN f.S.n.toNat 4)=true:=d;refine absurd ((z 4).2 ?_) d;rw[o];decide
end
end Go.Proofs.YtcbkbpjlbmalmaaGreatDoor
