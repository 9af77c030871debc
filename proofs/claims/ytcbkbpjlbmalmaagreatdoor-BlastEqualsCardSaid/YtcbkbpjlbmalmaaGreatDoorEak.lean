/-
  The statement's frame around the law of Equal. (Merged by program out of 1 texts.)
-/
import Derived.Test.YtcbkbpjlbmalmaaGreatDoorEah
import Derived.Test.YtcbkbpjlbmalmaaGreatDoorEaj
namespace Go.Proofs.YtcbkbpjlbmalmaaGreatDoor
open Go Go.X Go.Y Go.RowKit Go.ChangeShapes Go.WideShapes Go.ChangeAt
set_option maxRecDepth 100000 in
theorem Aug(os:Os)(started:os.Started)(H:Type)(enc:TypeId×Value->H):ReturnsInHanded {} Tryz.checked os 4 .any (λw args=>(Rows.blastEqualsSpec.pre enc Tryz.prog Tryz.f4 [] false w args/\laidMetH Tryz.prog Z3 w)/\sizedMet enc Tryz.prog Tryz.f4 (OpenSpec.ofChange Rows.blastEqualsSpec) false w args) (Rows.blastEqualsSpec.post enc Tryz.prog Tryz.f4 false true false false):=by
 refine returnsInHanded_of_change_and (C:=Tryz.checked) (X:=λw _=>laidMetH Tryz.prog Z3 w) (λ_ _ _ hh h=>h.of_heap hh) own started (by kernel_rfl) Tryz.func4
  (ChangeSpec.witness_shaped (enc:=enc) (C:=Tryz.checked) (os:=os) (X:=λw _=>laidMetH Tryz.prog Z3 w) false (World.doorLaid Tryz.prog 600 os) #[.agg #[.slice none 0 0,.slice none 0 0,.slice none 0 0],.int .i64 0,.agg #[.int .i64 0,.int .i64 0,.string ByteArray.empty,.slice none 0 0]] 8 rfl (World.shaped_of_RefB (by kernel_rfl) (by kernel_rfl)) (by kernel_rfl) (by kernel_rfl) (by kernel_rfl) (Aqy os _)) ?_
 intro W base args ds gs before hval0 hW _ hsz hL _;have hval:∀(j:Nat)t v,Tryz.f4.params[j]?=some t->args[j]?=some v->Value.okWide Tryz.prog W .any base t v:=hval0;have hW':=hW;obtain⟨p,q,hA0,hV,rfl,hfz,hnd⟩:=hW;have hA:DataW.TrodAll enc Tryz.prog W 0 (λ_=>true) true Tryz.f4.params.toList args.toList ds p:=hA0;have hsz:(DataW.weightsEach Tryz.prog (Tryz.f4.params.toList++Rows.blastEqualsSpec.plain.varTypes Tryz.prog) (ds++gs)).all (·<=reachBytes)=true:=hsz;rw[Tryz.params4]at hA hval hsz;obtain⟨v0,v1,v2,d0,d1,d2,p0,p1,p2,rfl,rfl,rfl,h0,h1,h2⟩:=trodAll_three hA;obtain⟨rfl,rfl⟩:=trodVars_none hV;obtain⟨c0,hc0,_⟩:=okWide_struct Tryz.underlying26 (hval 0 26 v0 rfl rfl);obtain⟨b1,rfl⟩:=okWide_int Tryz.underlying3 (hval 1 3 v1 rfl rfl);obtain⟨c2,hc2,_⟩:=okWide_struct Tryz.underlying29 (hval 2 29 v2 rfl rfl);have k0:=h0;have k1:=h1;have k2:=h2;have lt0:∀x∈p0,x.block<W.heap.size:=by obtain⟨m,hm⟩:=k0;exact DataW.trod_lt m _ _ _ hm
 have lt1:∀x∈p1,x.block<W.heap.size:=by obtain⟨m,hm⟩:=k1;exact DataW.trod_lt m _ _ _ hm
 have lt2:∀x∈p2,x.block<W.heap.size:=by obtain⟨m,hm⟩:=k2;exact DataW.trod_lt m _ _ _ hm
 obtain⟨m0,t0⟩:=h0;obtain⟨m1,t1⟩:=h1;obtain⟨m2,t2⟩:=h2;obtain⟨x,r0,hlen⟩:=Ayh ⟨c0,hc0⟩ t0;obtain⟨v1',y,e1,r1'⟩:=On Tryz.underlying3 t1;have r1:rp YQ I6 (VW W) W (.int .i64 b1) y:=one_cell rfl e1 r1';obtain⟨z,r2⟩:=A2q ⟨c2,hc2⟩ t2;have hl:x.Aa.length<=1000000000000000:=by
  rcases hlen with e|⟨es,rs,dr,e1,e2⟩
  .rw[e];decide
  .have e1:d0=.agg (.slice es rs::dr):=e1;subst e1;rw[<-e2];exact Avw (by simpa using hsz)
 have hgl:=Anc hL;have call:=Yi (a:=x) (i:=y) (t:=z) (H:=λ_=>none) (X:=λ_ _ _=>False) (Q:=λb _ _=>b=(true,())) hl (AS.1 r1).2 (λ_=>rfl) (VW W) W [] [] [] [v0,.int .i64 b1,v2]
  ⟨v0,_,rfl,r0,_,_,rfl,r1,v2,_,rfl,r2,rfl,rfl⟩ ⟨⟨[],λ_=>rfl,rfl,hgl⟩⟩ (VW.st W)
 refine Calls.mono call λe W' hE=>?_;rcases hE with ⟨v,I',rfl,ext,AH',A',H',_,_,b,io,us,A1,A2,_,rv,re,_,hb⟩|⟨v,I',_,_,AH',H',t,l,u,_,_,_,_,hx⟩
 .have bel:=A1h ext;obtain⟨u,us',rfl,ru,hu,_⟩:=re;have hu:us'=[]:=hu;subst hu;have hb:b=(true,()):=hb;subst hb;have ru:=HQ.1 ru;subst ru;have rv:v=.bool true:=rv;subst rv;exact⟨_,rfl,_,_,_,[],_,[],hW',trodAll_mk1 (shut_bool Tryz.underlying4 _),trodAll_cons_mk (Below.trod laidOut (by kernel_rfl) (of_decide_eq_true (by kernel_rfl)) k0 bel lt0) (trodAll_cons_mk (Below.trod laidOut (by kernel_rfl) (of_decide_eq_true (by kernel_rfl)) k1 bel lt1) (trodAll_cons_mk (Below.trod laidOut (by kernel_rfl) (of_decide_eq_true (by kernel_rfl)) k2 bel lt2) trodAll_mk0)),rfl,bel.frame _,λh=>by cases h⟩
 .exact hx.elim
end Go.Proofs.YtcbkbpjlbmalmaaGreatDoor
