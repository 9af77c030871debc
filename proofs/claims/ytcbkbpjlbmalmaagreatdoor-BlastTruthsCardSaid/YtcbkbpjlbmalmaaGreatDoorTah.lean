/-
  What it says that a variable is valid; the chapter's example. (Merged by program out of 1 texts.)
-/
import Derived.Test.YtcbkbpjlbmalmaaGreatDoorTag
open List renaming mem_range->a0,mem_map->a1
namespace Go.Proofs.YtcbkbpjlbmalmaaGreatDoor
open Go Go.X Go.Y
section
variable {L:Ac} {i:Nat}
theorem Ku.A5e(h:Ku L)(hi:i<L.Aa.length):E8 L.Aa[i]<=NF L.Aa[i]/\(Ng L.Aa[i]:Int)=NF L.Aa[i]-E8 L.Aa[i]+1:=by obtain⟨a,b,d,c⟩:=h.fit i hi (by rw[h.lb];exact hi);grind[Ng]
variable {next:Bool} {a:B.As}
theorem Xr(b:Ku L)(hi:i<L.Aa.length):PN L next i ((L.Aa[i]?.map Ng).getD 0) a=true↔(Jk L next i a).isSome=true:=by
 have g:=b.A5e hi;unfold PN MY;rw[List.getElem?_eq_getElem hi];simp only[Option.map_some,Option.getD_some,List.any_eq_true,a1,a0];constructor
 .rintro⟨F,⟨j,f,rfl⟩,c⟩;have:=(Jx b hi (next:=next) (a:=a) (n:=E8 L.Aa[i]+(j:Int))).2 ⟨by omega,c⟩;grind
 .intro h;obtain⟨n,e⟩:=Option.isSome_iff_exists.1 h;obtain⟨k,d⟩:=(Jx b hi).1 e;exact⟨_,⟨(n-E8 L.Aa[i]).toNat,by omega,rfl⟩,by grind⟩
theorem OS(c:Ku L):EA L next L.Aa.length a=true↔∀i(_:i<L.Aa.length),(Jk L next i a).isSome=true:=by
 unfold EA Ach;simp only[List.all_eq_true,a1,a0];constructor
 .intro h i b;exact(Xr c b).1 (h _ ⟨i,b,rfl⟩)
 .rintro h F ⟨i,b,rfl⟩;grind[Xr]
theorem OA{a b:B.As}:∀{l:List Int},(∀v∈l,a v=b v)->CE a l=CE b l
 | [],_=>rfl
 |v::l,h=>by rw[Lt,Lt,h v List.mem_cons_self,OA λu c=>h u (List.mem_cons_of_mem _ c)]
theorem Ai5(f:Jf L){n:Int}(g:2*CR L<=n)(hi:i<L.Aa.length):VD n (Jk L next i):=λa b e=>by have:=(Rk f hi (next:=next)).2.2;have d:CE a (Cu L i next)=CE b (Cu L i next):=OA λv c=>e v (this v c).1 (by grind);unfold Jk;rw[d]
noncomputable def LL:Ac:=Dg [N3]
def aL:BH:={Aa:=[N3],Order:=[],ED:=[]}
theorem Awc:Aj3 nmN:=by
 refine⟨by decide,by decide,λ_=>?_,λi h=>?_,λh=>?_⟩
 .rfl
 .have h:i<1:=h;obtain rfl:i=0:=by omega
  rfl
 .have:=List.mem_map_of_mem (f:=λs:ByteArray=>s.data.toList) h;revert this;show ¬[(110:UInt8)]∈He.map λs=>s.data.toList;decide
theorem Akr:OT [N3]:=by
 refine⟨λi h=>?_,λk i a b=>?_⟩
 .have h:i<1:=h;obtain rfl:i=0:=by omega
  exact⟨Awc,λe=>qG e (by show ¬N3.Bool=true;decide),λ_=>by show N3.Lo<=N3.Hi/\-255<=N3.Lo/\N3.Hi<=255/\N3.Hi-N3.Lo<64;decide⟩
 grind
theorem Aua:EC (BL N3)=2:=by
 have:BL N3=3:=by decide
 rw[this];exact Sl ⟨by decide,λj a=>by
  have:j=0∨j=1:=by omega
  rcases this with e|e<;>subst e<;>decide⟩
theorem Auv:GC [N3]=2:=by grind[GC,D0,Ck,Aua]
theorem Aj4:Ku LL:=Zv Akr (by decide)
theorem Ae0:CR LL=2:=Ab2.trans Auv
theorem smL:Ayr aL:=⟨Akr,by decide,by show 0<=GC [N3]/\GC [N3]<=4;grind[Auv],by decide,λi h=>qG h (Nat.not_lt_zero _),.inl rfl⟩
theorem Aqg:Cu LL 0 next=if next=true then [1,3] else [0,2]:=by
 have c:Mq LL 0=[0,2]:=by
  unfold Mq;have a:LL.Bits[0]?=some 2:=by show (Ck [N3])[0]?=some 2;grind[Ck,Aua]
  have b:LL.At[0]?=some 0:=by rfl
  rw[a,b];rfl
 grind[Cu]
theorem Ps:Jk LL next 0 a=if CE a (if next=true then [1,3] else [0,2])<=2 then some (CE a (if next=true then [1,3] else [0,2]):Int) else none:=by have e:LL.Aa[0]?=some N3:=rfl;unfold Jk;rw[e,Aqg];generalize CE a (if next=true then [1,3] else [0,2])=k;show (if (0:Int)+(k:Int)<=2 then some ((0:Int)+(k:Int)) else none)=_;grind
theorem Aeb:Cl LL.Aa trN.qJ=0:=by rfl
noncomputable def VL:B.As->Option Int:=ZE (opF trL.Op) (Jk LL (decide (trN.Op=4)) (Cl LL.Aa trN.qJ)) (λ_=>some tr1.N)
theorem Ao8:VL a=if CE a [0,2]<=2 then some ((CE a [0,2]:Int)+1) else none:=by
 unfold VL ZE;rw[Aeb,show decide (trN.Op=4)=false from rfl,Ps];show Option.bind (if CE a [0,2]<=2 then some (CE a [0,2]:Int) else none) _=_;by_cases h:CE a [0,2]<=2
 .rw[UV h,UV h];rfl
 grind
theorem A0f{n0:Int}(c:2*CR LL<=n0):Uh LL n0 trL (gV VL) 256 (20+1+32+2000) (256+16+1+20+1):=by
 have f:Cl LL.Aa trN.qJ<LL.Aa.length:=by rw[Aeb];decide
 unfold VL;intro j b i M g H X Q;refine X7 (PK:=256+16+1+20+1) (by decide) (t:=trL) (ta:=trN) (tc:=tr1) (W:=2) (Z:=32) (.inl rfl) rfl (TB Aj4 c (.inl rfl) f) (R1 (t:=tr1) rfl) ?_ (λ_ _ _=>rfl) (λa n h=>?_) (λa n h=>?_) (λe=>qG e (by decide)) (by decide) (by decide) rfl rfl
 .exact Ai5 Aj4.toJf (by grind[Ae0]) f
 .rw[Aeb,show decide (trN.Op=4)=false from rfl,Ps]at h;grind
 .have h:=Option.some.inj h;have:n=1:=h.symm;omega
theorem A5q:C6 (EA LL false LL.Aa.length) (EA LL true LL.Aa.length) a=true↔CE a [0,2]<=2/\CE a [1,3]<=2:=by
 have c:∀{b:Bool},EA LL b LL.Aa.length a=true↔CE a (if b=true then [1,3] else [0,2])<=2:=λ{b}=>by
  rw[OS Aj4];refine⟨λh=>?_,λh i e=>?_⟩
  .have:=h 0 (by decide);simp_all[Ps]
  .have e:i<1:=e;obtain rfl:i=0:=by omega
   simp_all[Ps]
 grind[C6]
theorem Aqd{l:List Int}(hs:l.Pairwise (·<·))(c:∀n,n∈l↔n=1∨n=2∨n=3):l=[1,2,3]:=by
 have p:l.Perm [1,2,3]:=(List.perm_ext_iff_of_nodup (hs.imp λh=>by omega) (by decide)).2 λn=>by grind
 exact List.Perm.eq_of_pairwise (le:=λa b=>a<b) (λa b _ _ e d=>by omega) hs (by decide) p
theorem Aot{M M':Mn}{cs:List BU}(h:Ae2 M M' VL (C6 (EA LL false LL.Aa.length) (EA LL true LL.Aa.length)) cs):cs.map (·.N)=[1,2,3]:=by
 refine Aqd h.srt λn=>?_;rw[h.mem];refine⟨λ⟨a,b,d⟩=>?_,λg=>?_⟩
 .grind[Ao8]
 .have c:∀(x y:Bool)(k:Int),CE (λv=>if v=0 then x else if v=2 then y else false) [0,2]<=2->((CE (λv=>if v=0 then x else if v=2 then y else false) [0,2]:Nat):Int)+1=k->CE (λv=>if v=0 then x else if v=2 then y else false) [1,3]<=2->∃a,VL a=some k/\C6 (EA LL false LL.Aa.length) (EA LL true LL.Aa.length) a=true:=λx y k b d f=>⟨_,by rw[Ao8,UV b,d],A5q.2 ⟨b,f⟩⟩
  rcases g with e|e|e
  .rw[e];exact c false false 1 (by decide) (by decide) (by decide)
  .rw[e];exact c true false 2 (by decide) (by decide) (by decide)
  .rw[e];exact c false true 3 (by decide) (by decide) (by decide)
theorem Am6{H:HY}{X:PX}{Q:Bool×Unit->UU}(h:∀H',Q (true,()) () H'):qK BM B7 () H Q X:=by
 apply N5;unfold Jj;refine Acn (a:=aL) smL λb M H1 W mi mv Z rm D=>⟨λd=>qG rfl d,λ_=>?_⟩
 have w:M.S.n=4:=by rw[D.n];show 2*GC [N3]=4;grind[Auv]
 have g:MG H1 b M:=⟨W,mi,mv,(by rw[Z];intro ev O;cases O),by omega,rm⟩
 have m:2*CR LL<=M.S.n:=by grind[Ae0]
 have nx2:=D.nx;have G:=D.ln;refine OO (L:=LL) (t:=trL) (V:=VL) (y:={Bool:=false,Lo:=1,Hi:=3:Af}) (e:=0) (bd:=256) (c:=20+1+32+2000) (pk:=256+16+1+20+1) g (by omega) (by omega) Aj4 m (λH X Q U=>Ayq U) (λ_ _=>A0f m) (λC=>qG rfl C) (λ_ C=>qG C (by decide)) λ_ _ S H2 E P A Y _=>?_;have B:=Aot A;have l3:E.length=3:=by have:=congrArg List.length B;grind
 obtain⟨v,n,u,rfl⟩:∃v n u,E=[v,n,u]:=by
  match E,l3 with
  | [v,n,u],_=>simp
 have e0:v.N=1:=by grind
 have e1:n.N=2:=by grind
 have e2:u.N=3:=by grind
 have K:=A.ln;have T:S.S.n=4:=A.bs.n.trans w;refine Ly (L:=LL) (next:=false) P (by omega) (by omega) Aj4 (λF=>qG F (by omega)) λ_ f H3 r s j nx4 _=>?_;have n3:f.S.n=4:=j.bs.n.trans T;have N:=j.Aq r;rw[UV rfl]at N;have z:∀k,EA LL false LL.Aa.length (asN f.S.n.toNat k)=true↔CE (asN f.S.n.toNat k) [0,2]<=2:=λk=>by
  rw[OS Aj4];refine⟨λh=>?_,λh i R=>?_⟩
  .have:=h 0 (by decide);grind[Ps]
  .have R:i<1:=R;obtain rfl:i=0:=by omega
   grind[Ps]
 have o:f.S.n.toNat=4:=by omega
 have I:f.Aq n.H=some (gV VL 2):=by
  have p:=A.Aq n (by simp);rw[e1]at p;rw[j.Aq,GT λe=>?_]
  .exact p
  .have h2:=j.ge;have h3:∃x,Ad S.hs n.H=some x:=by grind[Mn.Es]
   obtain⟨x,J⟩:=h3;have:=(P.i.ok _ _ J).2.2;omega
 refine⟨λ_=>⟨λ_ _=>⟨λ_=>⟨λ_=>by omega,by simp,by simp,λ_=>⟨λ_=>by omega,by simp,by simp,λ_=>Ao2 (k:=4) s.h s.i N (by omega) (by decide) ⟨λ_=>Ao2 (k:=5) s.h s.i N (by omega) (by decide) ⟨λ_=>⟨λ_=>by omega,by simp,by simp,Ao2 (k:=1) s.h s.i I (by omega) (by decide) ?_⟩,λd=>?_⟩,λd=>?_⟩,λd=>qG e2 d⟩,λd=>qG e0 d⟩,λd=>qG rfl d⟩,λd=>qG rfl d⟩,λd=>qG rfl d⟩
 .have:gV VL 2 (asN f.S.n.toNat 1)=true:=by rw[FL,Ao8,o];rfl
  grind
 .have d:¬¬EA LL false LL.Aa.length (asN f.S.n.toNat 5)=true:=d;have:=(z 5).1 (Classical.not_not.1 d);rw[o]at this;exact qG this (by decide)
 .have d:¬EA LL false LL.Aa.length (asN f.S.n.toNat 4)=true:=d;refine qG ((z 4).2 ?_) d;rw[o];decide
end
end Go.Proofs.YtcbkbpjlbmalmaaGreatDoor
