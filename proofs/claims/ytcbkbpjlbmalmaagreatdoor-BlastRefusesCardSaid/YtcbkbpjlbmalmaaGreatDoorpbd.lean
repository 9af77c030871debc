/-
  What it says that a variable is valid; the chapter's example. (Merged by program out of 1 texts.)
-/
import Derived.Test.YtcbkbpjlbmalmaaGreatDoorpbc
namespace Go.Proofs.YtcbkbpjlbmalmaaGreatDoor
open Go Go.X Go.Y
section
variable {L:Ae} {i:Nat}
theorem Aas.A9u(h:Aas L)(hi:i<L.Ag.length):loV L.Ag[i]<=hiV L.Ag[i]/\(U2 L.Ag[i]:Int)=hiV L.Ag[i]-loV L.Ag[i]+1:=by obtain⟨f1,f2,f3,f4⟩:=h.fit i hi (by rw[h.lb];exact hi);unfold U2;omega
variable {next:Bool} {a:B.As}
theorem Ajo(hL:Aas L)(hi:i<L.Ag.length):Y2 L next i ((L.Ag[i]?.map U2).getD 0) a=true↔(Vf L next i a).isSome=true:=by
 have hc:=hL.A9u hi;unfold Y2 Aw9;rw[List.getElem?_eq_getElem hi];simp only[Option.map_some,Option.getD_some,List.any_eq_true,List.mem_map,List.mem_range];constructor
 .rintro⟨F,⟨j,hj,rfl⟩,hF⟩;have:=(Xz hL hi (next:=next) (a:=a) (n:=loV L.Ag[i]+(j:Int))).2 ⟨by omega,hF⟩;rw[this];rfl
 .intro h;obtain⟨n,hn⟩:=Option.isSome_iff_exists.1 h;obtain⟨h1,h2⟩:=(Xz hL hi).1 hn;exact⟨_,⟨(n-loV L.Ag[i]).toNat,by omega,rfl⟩,by rw[show loV L.Ag[i]+(((n-loV L.Ag[i]).toNat:Nat):Int)=n by omega];exact h2⟩
theorem Apo(hL:Aas L):O3 L next L.Ag.length a=true↔∀i(_:i<L.Ag.length),(Vf L next i a).isSome=true:=by
 unfold O3 Apm;simp only[List.all_eq_true,List.mem_map,List.mem_range];constructor
 .intro h i hi;exact(Ajo hL hi).1 (h _ ⟨i,hi,rfl⟩)
 .rintro h F ⟨i,hi,rfl⟩;exact(Ajo hL hi).2 (h i hi)
theorem Aen{a b:B.As}:∀{l:List Int},(∀v∈l,a v=b v)->Ea a l=Ea b l
 | [],_=>rfl
 |v::l,h=>by rw[Ry,Ry,h v List.mem_cons_self,Aen λu hu=>h u (List.mem_cons_of_mem _ hu)]
theorem Aux(hL:R5 L){n:Int}(hn:2*Iv L<=n)(hi:i<L.Ag.length):VD n (Vf L next i):=λa b e=>by have:=(Af4 hL hi (next:=next)).2.2;have h1:Ea a (Lu L i next)=Ea b (Lu L i next):=Aen λv hv=>e v (this v hv).1 (by have:=(this v hv).2;omega);unfold Vf;rw[h1]
noncomputable def LL:Ae:=Avb [vrN]
def aL:B0:={Ag:=[vrN],Order:=[],Hx:=[]}
theorem A40:Avs nmN:=by
 refine⟨by decide,by decide,λ_=>?_,λi h=>?_,λh=>?_⟩
 .show Dl 110=true;decide
 .have h:i<1:=h;obtain rfl:i=0:=by omega
  show Vx 110=true;decide
 .have:=List.mem_map_of_mem (f:=λs:ByteArray=>s.data.toList) h;revert this;show ¬[(110:UInt8)]∈Lm.map λs=>s.data.toList;decide
theorem Av4:Aks [vrN]:=by
 refine⟨λi h=>?_,λk i hi hk=>?_⟩
 .have h:i<1:=h;obtain rfl:i=0:=by omega
  exact⟨A40,λe=>absurd e (by show ¬vrN.Bool=true;decide),λ_=>by show vrN.Lo<=vrN.Hi/\-255<=vrN.Lo/\vrN.Hi<=255/\vrN.Hi-vrN.Lo<64;decide⟩
 .have hi:i<1:=hi;omega
theorem A3k:Jp (G3 vrN)=2:=by
 have:G3 vrN=3:=by decide
 rw[this];exact Acu ⟨by decide,λj hj=>by
  have:j=0∨j=1:=by omega
  rcases this with e|e<;>subst e<;>decide⟩
theorem A3u:Nk [vrN]=2:=by unfold Nk Kb Em;simp [A3k]
theorem Avt:Aas LL:=Ayx Av4 (by decide)
theorem Arh:Iv LL=2:=Ao6.trans A3u
theorem smL:A69 aL:=⟨Av4,by decide,by show 0<=Nk [vrN]/\Nk [vrN]<=4;rw[A3u];decide,by decide,λi h=>absurd h (Nat.not_lt_zero _),.inl rfl⟩
theorem A0m:Lu LL 0 next=if next=true then [1,3] else [0,2]:=by
 have h1:Wu LL 0=[0,2]:=by
  unfold Wu;have e1:LL.Bits[0]?=some 2:=by show (Em [vrN])[0]?=some 2;unfold Em;simp [A3k]
  have e2:LL.At[0]?=some 0:=by show (V0 [vrN])[0]?=some 0;unfold V0;simp [Kb]
  rw[e1,e2];rfl
 unfold Lu;rw[h1];rfl
theorem Xy:Vf LL next 0 a=if Ea a (if next=true then [1,3] else [0,2])<=2 then some (Ea a (if next=true then [1,3] else [0,2]):Int) else none:=by
 have e:LL.Ag[0]?=some vrN:=rfl;unfold Vf;rw[e,A0m];generalize Ea a (if next=true then [1,3] else [0,2])=k;show (if (0:Int)+(k:Int)<=2 then some ((0:Int)+(k:Int)) else none)=_;by_cases h:k<=2
 .rw[if_pos h,if_pos (by omega),Int.zero_add]
 .rw[if_neg h,if_neg (by omega)]
theorem Aqu:Ag6 LL.Ag trN.Name=0:=by show List.findIdx (λv:Bi=>decide (v.Name=nmN)) [vrN]=0;have:decide (vrN.Name=nmN)=true:=decide_eq_true rfl;simp [List.findIdx_cons,this]
noncomputable def VL:B.As->Option Int:=opV (opF trL.Op) (Vf LL (decide (trN.Op=4)) (Ag6 LL.Ag trN.Name)) (λ_=>some tr1.N)
theorem Azu:VL a=if Ea a [0,2]<=2 then some ((Ea a [0,2]:Int)+1) else none:=by
 unfold VL opV;rw[Aqu,show decide (trN.Op=4)=false from rfl,Xy];show Option.bind (if Ea a [0,2]<=2 then some (Ea a [0,2]:Int) else none) _=_;by_cases h:Ea a [0,2]<=2
 .rw[if_pos h,if_pos h];rfl
 .rw[if_neg h,if_neg h];rfl
theorem A78{n0:Int}(hfit:2*Iv LL<=n0):Ajf LL n0 trL (gV VL) 256 (20+1+32+2000) (256+16+1+20+1):=by
 have hi:Ag6 LL.Ag trN.Name<LL.Ag.length:=by rw[Aqu];decide
 unfold VL;intro wb b M0 M lv H X Q;refine Auw (t:=trL) (ta:=trN) (tc:=tr1) (W:=2) (Z:=32) (.inl rfl) rfl (An6 Avt hfit (.inl rfl) hi) (Alv (t:=tr1) rfl) ?_ (λ_ _ _=>rfl) (λa n h=>?_) (λa n h=>?_) (λe=>absurd e (by decide)) (by decide) (by decide) rfl rfl
 .exact Aux Avt.toR5 (by rw[Arh];decide) hi
 .rw[Aqu,show decide (trN.Op=4)=false from rfl,Xy]at h;have h:(if Ea a [0,2]<=2 then some (Ea a [0,2]:Int) else none)=some n:=h;generalize Ea a [0,2]=q at h;by_cases h1:q<=2
  .rw[if_pos h1]at h;have h:=Option.some.inj h;omega
  .rw[if_neg h1]at h;cases h
 .have h:=Option.some.inj h;have:n=1:=h.symm;omega
theorem Baj:Hw (O3 LL false LL.Ag.length) (O3 LL true LL.Ag.length) a=true↔Ea a [0,2]<=2/\Ea a [1,3]<=2:=by
 have one:∀{next:Bool},O3 LL next LL.Ag.length a=true↔Ea a (if next=true then [1,3] else [0,2])<=2:=λ{next}=>by
  rw[Apo Avt];refine⟨λh=>?_,λh i hi=>?_⟩
  .have:=h 0 (by decide);rw[Xy]at this;generalize Ea a (if next=true then [1,3] else [0,2])=k at this ⊢;by_cases h1:k<=2
   .exact h1
   .rw[if_neg h1]at this;cases this
  .have hi:i<1:=hi;obtain rfl:i=0:=by omega
   rw[Xy,if_pos h];rfl
 unfold Hw;rw[Bool.and_eq_true,one,one];rfl
theorem A0j{l:List Int}(hs:l.Pairwise (·<·))(hm:∀n,n∈l↔n=1∨n=2∨n=3):l=[1,2,3]:=by
 have p:l.Perm [1,2,3]:=(List.perm_ext_iff_of_nodup (hs.imp λh=>by omega) (by decide)).2 λn=>by rw[hm];simp
 exact List.Perm.eq_of_pairwise (le:=λa b=>a<b) (λa b _ _ h1 h2=>by omega) hs (by decide) p
theorem Azg{M M':Mn}{cs:List Cm}(h:Ari M M' VL (Hw (O3 LL false LL.Ag.length) (O3 LL true LL.Ag.length)) cs):cs.map (·.N)=[1,2,3]:=by
 refine A0j h.srt λn=>?_;rw[h.mem];refine⟨λ⟨a,h1,h2⟩=>?_,λhn=>?_⟩
 .rw[Azu]at h1;split at h1
  .have h1:=Option.some.inj h1;omega
  .cases h1
 .have mk:∀(x y:Bool)(k:Int),Ea (λv=>if v=0 then x else if v=2 then y else false) [0,2]<=2->((Ea (λv=>if v=0 then x else if v=2 then y else false) [0,2]:Nat):Int)+1=k->Ea (λv=>if v=0 then x else if v=2 then y else false) [1,3]<=2->∃a,VL a=some k/\Hw (O3 LL false LL.Ag.length) (O3 LL true LL.Ag.length) a=true:=λx y k h1 h2 h3=>⟨_,by rw[Azu,if_pos h1,h2],Baj.2 ⟨h1,h3⟩⟩
  rcases hn with e|e|e
  .rw[e];exact mk false false 1 (by decide) (by decide) (by decide)
  .rw[e];exact mk true false 2 (by decide) (by decide) (by decide)
  .rw[e];exact mk false true 3 (by decide) (by decide) (by decide)
theorem Ax4{H:HY}{X:PX}{Q:Bool×Unit->UU}(h:∀H',Q (true,()) () H'):Wp Y0 Dh Cu () H Q X:=by
 refine Vr _ _ _ ?_;unfold Oi;refine Apt (a:=aL) smL λb M H1 mn mi mv ws rm nm=>⟨λhn=>absurd rfl hn,λ_=>?_⟩
 have hn4:M.S.n=4:=by rw[nm.n];show 2*Nk [vrN]=4;rw[A3u];rfl
 have g:MG H1 b M:=⟨mn,mi,mv,(by rw[ws];intro ev hev;cases hev),by omega,rm⟩
 have hfit:2*Iv LL<=M.S.n:=by rw[Arh,hn4];decide
 have nx2:=nm.nx;have ln2:=nm.ln;refine Ah3 (L:=LL) (t:=trL) (V:=VL) (y:={Bool:=false,Lo:=1,Hi:=3:Ai}) (e:=0) (bd:=256) (c:=20+1+32+2000) (pk:=256+16+1+20+1) g (by omega) (by omega) Avt hfit (λH X Q hq=>A67 hq) (λ_ _=>A78 hfit) (λhh=>absurd rfl hh) (λ_ hh=>absurd hh (by decide)) λ_ _ M2 H2 cs g2 cr nx3 _=>?_;have c3:=Azg cr;have l3:cs.length=3:=by have:=congrArg List.length c3;rw[List.length_map]at this;exact this
 obtain⟨c0,c1,c2,rfl⟩:∃c0 c1 c2,cs=[c0,c1,c2]:=by
  match cs,l3 with
  | [c0,c1,c2],_=>exact⟨c0,c1,c2,rfl⟩
 have e0:c0.N=1:=by have:=congrArg (λl:List Int=>l[0]?) c3;exact Option.some.inj this
 have e1:c1.N=2:=by have:=congrArg (λl:List Int=>l[1]?) c3;exact Option.some.inj this
 have e2:c2.N=3:=by have:=congrArg (λl:List Int=>l[2]?) c3;exact Option.some.inj this
 have ln3:=cr.ln;have n2:M2.S.n=4:=cr.bs.n.trans hn4;refine Ah2 (L:=LL) (next:=false) g2 (by omega) (by rw[ln3,ln2];simp) Avt (λhlt=>absurd hlt (by rw[n2,Arh];decide)) λ_ M3 H3 r g3 got nx4 _=>?_;have n3:M3.S.n=4:=got.bs.n.trans n2;have hv:=got.Ba r;rw[if_pos rfl]at hv;have val:∀k,O3 LL false LL.Ag.length (asN M3.S.n.toNat k)=true↔Ea (asN M3.S.n.toNat k) [0,2]<=2:=λk=>by
  rw[Apo Avt];refine⟨λh=>?_,λh i hi=>?_⟩
  .have:=h 0 (by decide);rw[Xy]at this;have this:(if Ea (asN M3.S.n.toNat k) [0,2]<=2 then some (Ea (asN M3.S.n.toNat k) [0,2]:Int) else none).isSome=true:=this;generalize Ea (asN M3.S.n.toNat k) [0,2]=q at this ⊢;by_cases h1:q<=2
   .exact h1
   .rw[if_neg h1]at this;cases this
  .have hi:i<1:=hi;obtain rfl:i=0:=by omega
   rw[Xy];show (if Ea (asN M3.S.n.toNat k) [0,2]<=2 then some (Ea (asN M3.S.n.toNat k) [0,2]:Int) else none).isSome=true;rw[if_pos h];rfl
 have n3':M3.S.n.toNat=4:=by rw[n3];rfl
 have hc1:M3.Ba c1.H=some (gV VL 2):=by
  have h1:=cr.Ba c1 (by simp);rw[e1]at h1;rw[got.Ba,if_neg λe=>?_]
  .exact h1
  .have h2:=got.ge;have h3:∃x,Ac M2.hs c1.H=some x:=by obtain⟨x,hx,_⟩:=Mn.Ju h1;exact⟨x,hx⟩
   obtain⟨x,hx⟩:=h3;have:=(g2.i.ok _ _ hx).2.2;omega
 refine⟨λ_=>⟨λ_ _=>⟨λ_=>⟨λ_=>by omega,by show 0<3;decide,by show 0<3;decide,λ_=>⟨λ_=>by omega,by show 2<3;decide,by show 2<3;decide,λ_=>Azp (k:=4) g3.h g3.i hv (by omega) (by decide) ⟨λ_=>Azp (k:=5) g3.h g3.i hv (by omega) (by decide) ⟨λ_=>⟨λ_=>by omega,by show 1<3;decide,by show 1<3;decide,Azp (k:=1) g3.h g3.i hc1 (by omega) (by decide) ?_⟩,λhn=>?_⟩,λhn=>?_⟩,λhn=>absurd e2 hn⟩,λhn=>absurd e0 hn⟩,λhn=>absurd rfl hn⟩,λhn=>absurd rfl hn⟩,λhn=>absurd rfl hn⟩
 .have:gV VL 2 (asN M3.S.n.toNat 1)=true:=by
   rw[Rq,Azu,n3'];have:Ea (asN 4 1) [0,2]=1:=by decide
   rw[this];rfl
  rw[this];exact h H3
 .have hn:¬¬O3 LL false LL.Ag.length (asN M3.S.n.toNat 5)=true:=hn;have:=(val 5).1 (Classical.not_not.1 hn);rw[n3']at this;exact absurd this (by decide)
 .have hn:¬O3 LL false LL.Ag.length (asN M3.S.n.toNat 4)=true:=hn;refine absurd ((val 4).2 ?_) hn;rw[n3'];decide
theorem Ae8{a:B0}{t:A6}{H:HY}{X:PX}{Q:Bool×Unit->UU}(hl:a.Ag.length<=1000000000000000)(h:∀H',Q (true,()) () H'):Wp Y0 Jk Fz (a,t,()) H Q X:=by
 refine P9 _ _ _ _ _ ?_;unfold Jg;have lv:∀{H':HY},Wp Y0 Dh Cu () H' (λ(b:Bool×Unit)_ H'=>Q (b.1,()) () H') X:=λ{H'}=>Ax4 λH2=>h H2;refine Azy hl λs hs=>⟨λ_=>lv,λhs'=>Pj hl λh0 _=>⟨λ_=>lv,λhne=>Ayt (SizeOf.sizeOf t+1) t (by omega) (by decide) (by decide) λr _ _=>⟨λ_=>lv,λ_=>?_⟩⟩⟩
 have sm:=hs (Classical.not_not.1 hs');have hne:¬Nk a.Ag=0:=hne;have ht:=sm.t;have hL:=(Ayx sm.v (by have:=sm.n;omega)).toR5;refine Apt sm λb M H1 _ _ _ _ _ _=>Pj hl λ_ _ _=>⟨Bk.2 (by show _<=2*Nk a.Ag/\2*Nk a.Ag<=_;omega),λ_=>⟨Bk.2 (by show _<=2*Nk a.Ag-1/\2*Nk a.Ag-1<=_;omega),?_⟩⟩
 refine Atv (by omega) (by decide) (by decide) λb2 M2 H2 ar _ _ nm _ _ _=>⟨λhn=>absurd rfl hn,λ_=>⟨λhn=>absurd hn (by simp),λ_=>⟨λhn=>absurd rfl hn,λ_=>?_⟩⟩⟩
 have few:M2.S.n<2*Iv (Avb a.Ag):=by rw[nm.n,Ao6];omega
 refine Yt (Aap ar.mn ar.mi hL few (Aao ar.mn ar.mi hL few (Ys (Aaq ar.mn ar.mi hL few ⟨λ_=>⟨λ_=>⟨λ_=>⟨λ_=>⟨λ_=>Agw ar.mn ar.mi (by rw[nm.nx];decide) ⟨λ_=>lv,λhn=>absurd (by show (M2.hs.length:Int)=2;rw[nm.ln];rfl) hn⟩,λhn=>absurd rfl hn⟩,λhn=>absurd rfl hn⟩,λhn=>absurd rfl hn⟩,λhn=>absurd rfl hn⟩,λhn=>absurd rfl hn⟩))))
end
end Go.Proofs.YtcbkbpjlbmalmaaGreatDoor
