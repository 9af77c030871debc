/-
  The statement's frame around the law that nothing is refused: the package variable that stays, the witness, the card. (Merged by program out of 1 texts.)
-/
import Derived.Test.YtcbkbpjlbmalmaaGreatDoorpan
import Derived.Test.YtcbkbpjlbmalmaaGreatDoorpbd
import Derived.Test.YtcbkbpjlbmalmaaGreatDoorCards
import Derived.Test.YtcbkbpjlbmalmaaGreatDoorTie
import Derived.LaidMore
import Derived.SevenTiedAt
namespace Go.Proofs.YtcbkbpjlbmalmaaGreatDoor
open Go Go.X Go.Y Go.RowKit Go.ChangeShapes Go.WideShapes Go.ChangeAt
theorem Ayn:Tryz.prog.globalNamed "voussoir/lexi.words"=some 0:=by kernel_rfl
theorem A3x:(Tryz.prog.globals[0]?).map (·.type)=some 252:=by kernel_rfl
abbrev Aj8:List (String×DataW Unit):=[("voussoir/lexi.words",Rows.laid_voussoir_lexi_words)]
theorem lits:(Rows.laid_voussoir_lexi_words:DataW Unit)=.agg (Lm.map λs=>.lit (.string s.data.toList)):=by kernel_rfl
theorem Av1{W:World}(h:laidMetH Tryz.prog Aj8 W):(HK' Y0).gl (Aib W) W:=by
 have h1:laidMet Tryz.prog Aj8 W:=h;obtain⟨ps,⟨g,t,cs,fuel,p,q,hg,ht,hvar,htr,_,_⟩,_,_⟩:=h1;obtain rfl:=Option.some.inj (Ayn.symm.trans hg);obtain rfl:=Option.some.inj (A3x.symm.trans ht);obtain⟨xs,m,rfl,hx,hl,hn,key⟩:=DataW.trod_array Tryz.underlying252 htr;have hx1:xs.map (·.1)=Lm.map λs=>DataW.lit (.string s.data.toList):=by have:=congrArg Prod.fst hx;rw[lits]at this;exact(DataW.agg.inj this).symm
 have c9:Tryz.prog.cellsOf 9=1:=by kernel_rfl
 have cell:∀j(hj:j<Lm.length),W.cell? ⟨0,j,none⟩=some (.string Lm[j]):=by
  intro j hj;have hj24:j<24:=hj;have k:=key j hj24;rw[c9,Nat.mul_one]at k;have hjx:j<xs.length:=by omega
  rw[List.getElem?_eq_getElem hjx]at k;obtain⟨s,e1,e2,_⟩:=DataW.trod_string Tryz.underlying9 k;have e3:xs[j].1=DataW.lit (.string Lm[j].data.toList):=by have:=congrArg (λl=>l[j]?) hx1;simp only[List.getElem?_map,List.getElem?_eq_getElem hjx,List.getElem?_eq_getElem hj,Option.map_some,Option.some.injEq]at this;exact this
  rw[e2]at e3;have e4:s.data.toList=Lm[j].data.toList:=by simpa using e3
  have e5:s=Lm[j]:=by obtain⟨⟨a⟩⟩:=s;generalize Lm[j]=z at e4 ⊢;obtain⟨⟨b⟩⟩:=z;exact congrArg (λx=>(⟨⟨x⟩⟩:ByteArray)) e4
  subst e5;rw[World.var?_cell Ayn hvar j,<-Array.getElem?_toList];have h7:=congrArg (λl=>l[0]?) e1;simp only[List.getElem?_take,List.getElem?_drop]at h7;exact h7
 intro g q hq;have hq:A52 g=some q:=hq;unfold A52 at hq;split at hq
 .rename_i hg0;subst hg0;obtain rfl:=Option.some.inj hq;have hb:0<W.heap.size:=by
   have:=cell 0 (by decide);unfold World.cell? at this;by_cases h:0<W.heap.size
   .exact h
   .rw[Array.getElem?_eq_none (by omega)]at this;cases this
  refine Abg.2 ⟨some ⟨0,0,none⟩,24,rfl,by decide,by decide,.inr ⟨0,0,rfl,hb,λj hj=>⟨.string Lm[j],Ta.2 ⟨rfl,?_⟩,rfl,λk hk=>?_⟩⟩⟩
  .have:∀j(hj:j<Lm.length),Lm[j].size<=Vw:=by decide
   exact this j hj
  .have hk:k<1:=hk;obtain rfl:k=0:=by omega
   have h8:=cell j hj;have e:(⟨0,0+j*sz US0 .str+0,none⟩:Addr)=⟨0,j,none⟩:=by
    have:0+j*sz US0 .str+0=j:=by show 0+j*1+0=j;omega
    rw[this]
   exact(congrArg W.cell? e).trans h8
 .cases hq
theorem own:ownKnob Tryz.prog.godebug=none:=by kernel_rfl
theorem laidOut:laidOutB Tryz.prog=true:=by kernel_rfl
theorem Ay1(os:Os)(args:Array Value):laidMetH Tryz.prog Aj8 ((World.doorLaid Tryz.prog 600 os).forCall (λ_ _=>0) ⟨#[],args,[]⟩).memory:=
 laidMetH_of_parts (laidMet_of_run' 8 (by kernel_rfl) (by kernel_rfl)) (by kernel_rfl)
set_option maxRecDepth 100000 in
theorem lifted(os:Os)(started:os.Started)(H:Type)(enc:TypeId×Value->H):ReturnsInHanded {} Tryz.checked os 7 .any (λw args=>(Rows.blastRefusesSpec.pre enc Tryz.prog Tryz.f7 [] false w args/\laidMetH Tryz.prog Aj8 w)/\sizedMet enc Tryz.prog Tryz.f7 (OpenSpec.ofChange Rows.blastRefusesSpec) false w args) (Rows.blastRefusesSpec.post enc Tryz.prog Tryz.f7 false true false false):=by
 refine returnsInHanded_of_change_and (C:=Tryz.checked) (X:=λw _=>laidMetH Tryz.prog Aj8 w) (λ_ _ _ hh h=>h.of_heap hh) own started (by kernel_rfl) Tryz.func7
  (ChangeSpec.witness_shaped (enc:=enc) (C:=Tryz.checked) (os:=os) (X:=λw _=>laidMetH Tryz.prog Aj8 w) false (World.doorLaid Tryz.prog 600 os) #[.agg #[.slice none 0 0,.slice none 0 0,.slice none 0 0],.agg #[.int .i64 0,.int .i64 0,.string ByteArray.empty,.slice none 0 0]] 8 rfl (World.shaped_of_RefB (by kernel_rfl) (by kernel_rfl)) (by kernel_rfl) (by kernel_rfl) (by kernel_rfl) (Ay1 os _)) ?_
 intro W base args ds gs before hval0 hW _ hsz hL _;have hval:∀(j:Nat)t v,Tryz.f7.params[j]?=some t->args[j]?=some v->Value.okWide Tryz.prog W .any base t v:=hval0;have hW':=hW;obtain⟨p,q,hA0,hV,rfl,hfz,hnd⟩:=hW;have hA:DataW.TrodAll enc Tryz.prog W 0 (λ_=>true) true Tryz.f7.params.toList args.toList ds p:=hA0;have hsz:(DataW.weightsEach Tryz.prog (Tryz.f7.params.toList++Rows.blastRefusesSpec.plain.varTypes Tryz.prog) (ds++gs)).all (·<=reachBytes)=true:=hsz;rw[Tryz.params7]at hA hval hsz;obtain⟨v0,v1,d0,d1,p0,p1,rfl,rfl,rfl,h0,h1⟩:=trodAll_two hA;obtain⟨rfl,rfl⟩:=trodVars_none hV;obtain⟨c0,hc0,_⟩:=okWide_struct Tryz.underlying26 (hval 0 26 v0 rfl rfl);obtain⟨c1,hc1,_⟩:=okWide_struct Tryz.underlying29 (hval 1 29 v1 rfl rfl);have k0:=h0;have k1:=h1;have lt0:∀x∈p0,x.block<W.heap.size:=by obtain⟨m,hm⟩:=k0;exact DataW.trod_lt m _ _ _ hm
 have lt1:∀x∈p1,x.block<W.heap.size:=by obtain⟨m,hm⟩:=k1;exact DataW.trod_lt m _ _ _ hm
 obtain⟨m0,t0⟩:=h0;obtain⟨m1,t1⟩:=h1;obtain⟨x,r0,hlen⟩:=A4a ⟨c0,hc0⟩ t0;obtain⟨y,r1⟩:=A7j ⟨c1,hc1⟩ t1;have hl:x.Ag.length<=1000000000000000:=by
  rcases hlen with e|⟨es,rs,dr,e1,e2⟩
  .rw[e];decide
  .have e1:d0=.agg (.slice es rs::dr):=e1;subst e1;rw[<-e2];exact A2n (by simpa using hsz)
 clear hA0 hval0;have hgl:=Av1 hL;have call:=Ae8 (a:=x) (t:=y) (H:=λ_=>none) (X:=λ_ _ _=>False) (Q:=λb _ _=>b=(true,())) hl (λ_=>rfl) (Aib W) W [] [] [] [v0,v1]
  ⟨v0,_,rfl,r0,v1,_,rfl,r1,rfl,rfl⟩ ⟨⟨[],λ_=>rfl,rfl,hgl⟩⟩ (Aib.st W)
 refine Calls.mono call λe W' hE=>?_;rcases hE with ⟨v,I',rfl,ext,AH',A',H',_,_,b,io,us,A1,A2,_,rv,re,_,hb⟩|⟨v,I',_,_,AH',H',t,l,u,_,_,_,_,hx⟩
 .have bel:=A6z ext;obtain⟨u,us',rfl,ru,hu,_⟩:=re;have hu:us'=[]:=hu;subst hu;have hb:b=(true,()):=hb;subst hb;have ru:=Nt.1 ru;subst ru;have rv:v=.bool true:=rv;subst rv;exact⟨_,rfl,_,_,_,[],_,[],hW',trodAll_mk1 (shut_bool Tryz.underlying4 _),trodAll_cons_mk (Below.trod laidOut (by kernel_rfl) (of_decide_eq_true (by kernel_rfl)) k0 bel lt0) (trodAll_cons_mk (Below.trod laidOut (by kernel_rfl) (of_decide_eq_true (by kernel_rfl)) k1 bel lt1) trodAll_mk0),rfl,bel.frame _,λh=>by cases h⟩
 .exact hx.elim
end Go.Proofs.YtcbkbpjlbmalmaaGreatDoor
