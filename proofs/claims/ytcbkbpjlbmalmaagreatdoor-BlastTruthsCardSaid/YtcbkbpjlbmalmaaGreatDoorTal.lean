/-
  The statement's frame around the law of Truth. (Merged by program out of 1 texts.)
-/
import Derived.Test.YtcbkbpjlbmalmaaGreatDoorTai
import Derived.Test.YtcbkbpjlbmalmaaGreatDoorTak
namespace Go.Proofs.YtcbkbpjlbmalmaaGreatDoor
open Go Go.X Go.Y Go.RowKit Go.ChangeShapes Go.WideShapes Go.ChangeAt
set_option maxRecDepth 100000 in
theorem A12(os:Os)(started:os.Started)(H:Type)(enc:TypeId×Value->H):ReturnsInHanded {} Tryz.checked os 3 .any (λw args=>(Rows.blastTruthsSpec.pre enc Tryz.prog Tryz.f3 [] false w args/\laidMetH Tryz.prog XF w)/\sizedMet enc Tryz.prog Tryz.f3 (OpenSpec.ofChange Rows.blastTruthsSpec) false w args) (Rows.blastTruthsSpec.post enc Tryz.prog Tryz.f3 false true false false):=by
 refine returnsInHanded_of_change_and (C:=Tryz.checked) (X:=λw _=>laidMetH Tryz.prog XF w) (λ_ _ _ hh h=>h.of_heap hh) own started (by kernel_rfl) Tryz.func3
  (ChangeSpec.witness_shaped (enc:=enc) (C:=Tryz.checked) (os:=os) (X:=λw _=>laidMetH Tryz.prog XF w) false (World.doorLaid Tryz.prog 600 os) #[.agg #[.slice none 0 0,.slice none 0 0,.slice none 0 0],.agg #[.int .i64 0,.int .i64 0,.string ByteArray.empty,.slice none 0 0]] 8 rfl (World.shaped_of_RefB (by kernel_rfl) (by kernel_rfl)) (by kernel_rfl) (by kernel_rfl) (by kernel_rfl) (Aob os _)) ?_
 intro W base args ds gs before hval0 hW _ hsz hL _;have hval:∀(j:Nat)t v,Tryz.f3.params[j]?=some t->args[j]?=some v->Value.okWide Tryz.prog W .any base t v:=hval0;have hW':=hW;obtain⟨p,q,hA0,hV,rfl,hfz,hnd⟩:=hW;have hA:DataW.TrodAll enc Tryz.prog W 0 (λ_=>true) true Tryz.f3.params.toList args.toList ds p:=hA0;have hsz:(DataW.weightsEach Tryz.prog (Tryz.f3.params.toList++Rows.blastTruthsSpec.plain.varTypes Tryz.prog) (ds++gs)).all (·<=reachBytes)=true:=hsz;rw[Tryz.params3]at hA hval hsz;obtain⟨v0,v1,d0,d1,p0,p1,rfl,rfl,rfl,h0,h1⟩:=trodAll_two hA;obtain⟨rfl,rfl⟩:=trodVars_none hV;obtain⟨c0,hc0,_⟩:=okWide_struct Tryz.underlying26 (hval 0 26 v0 rfl rfl);obtain⟨c1,hc1,_⟩:=okWide_struct Tryz.underlying29 (hval 1 29 v1 rfl rfl);have k0:=h0;have k1:=h1;have lt0:∀x∈p0,x.block<W.heap.size:=by obtain⟨m,hm⟩:=k0;exact DataW.trod_lt m _ _ _ hm
 have lt1:∀x∈p1,x.block<W.heap.size:=by obtain⟨m,hm⟩:=k1;exact DataW.trod_lt m _ _ _ hm
 obtain⟨m0,t0⟩:=h0;obtain⟨m1,t1⟩:=h1;obtain⟨x,r0,hlen⟩:=Avh ⟨c0,hc0⟩ t0;obtain⟨y,r1⟩:=Azp ⟨c1,hc1⟩ t1;have hl:x.Aa.length<=1000000000000000:=by
  rcases hlen with e|⟨es,rs,dr,e1,e2⟩
  .rw[e];decide
  .have e1:d0=.agg (.slice es rs::dr):=e1;subst e1;rw[<-e2];exact Asz (by simpa using hsz)
 have hgl:=Ako hL;have call:=Aps (a:=x) (t:=y) (H:=λ_=>none) (X:=λ_ _ _=>False) (Q:=λb _ _=>b=(true,())) hl (λ_=>rfl) (Wm W) W [] [] [] [v0,v1]
  ⟨v0,_,rfl,r0,v1,_,rfl,r1,rfl,rfl⟩ ⟨⟨[],λ_=>rfl,rfl,hgl⟩⟩ (Wm.st W)
 refine Calls.mono call λe W' hE=>?_;rcases hE with ⟨v,I',rfl,ext,AH',A',H',_,_,b,io,us,A1,A2,_,rv,re,_,hb⟩|⟨v,I',_,_,AH',H',t,l,u,_,_,_,_,hx⟩
 .have bel:=Ayi ext;obtain⟨u,us',rfl,ru,hu,_⟩:=re;have hu:us'=[]:=hu;subst hu;have hb:b=(true,()):=hb;subst hb;have ru:=GN.1 ru;subst ru;have rv:v=.bool true:=rv;subst rv;exact⟨_,rfl,_,_,_,[],_,[],hW',trodAll_mk1 (shut_bool Tryz.underlying4 _),trodAll_cons_mk (Below.trod laidOut (by kernel_rfl) (of_decide_eq_true (by kernel_rfl)) k0 bel lt0) (trodAll_cons_mk (Below.trod laidOut (by kernel_rfl) (of_decide_eq_true (by kernel_rfl)) k1 bel lt1) trodAll_mk0),rfl,bel.frame _,λh=>by cases h⟩
 .exact hx.elim
end Go.Proofs.YtcbkbpjlbmalmaaGreatDoor
