/-
  The statement's frame around the law that nothing is refused: the package variable that stays, the witness, the card. (Merged by program out of 1 texts.)
-/
import Derived.Test.YtcbkbpjlbmalmaaGreatDoorEag
import Derived.Test.YtcbkbpjlbmalmaaGreatDoorCards
import Derived.Test.YtcbkbpjlbmalmaaGreatDoorTie
import Derived.LaidMore
import Derived.SevenTiedAt
open List renaming getElem?_eq_getElem->a0
open Option renaming some.inj->a1
namespace Go.Proofs.YtcbkbpjlbmalmaaGreatDoor
open Go Go.X Go.Y Go.RowKit Go.ChangeShapes Go.WideShapes Go.ChangeAt
theorem Aql:Tryz.prog.globalNamed "voussoir/lexi.words"=some 0:=by kernel_rfl
theorem Ax1:(Tryz.prog.globals[0]?).map (·.type)=some 252:=by kernel_rfl
abbrev Z3:List (String×DataW Unit):=[("voussoir/lexi.words",Rows.laid_voussoir_lexi_words)]
theorem lits:(Rows.laid_voussoir_lexi_words:DataW Unit)=.agg (Ib.map λs=>.lit (.string s.data.toList)):=by kernel_rfl
theorem Anc{W:World}(h:laidMetH Tryz.prog Z3 W):(Ra Y0).gl (VW W) W:=by
 have h1:laidMet Tryz.prog Z3 W:=h;obtain⟨ps,⟨g,t,cs,fuel,p,q,hg,ht,hvar,htr,_,_⟩,_,_⟩:=h1;obtain rfl:=a1 (Aql.symm.trans hg);obtain rfl:=a1 (Ax1.symm.trans ht);obtain⟨xs,m,rfl,hx,hl,hn,key⟩:=DataW.trod_array Tryz.underlying252 htr;have hx1:xs.map (·.1)=Ib.map λs=>DataW.lit (.string s.data.toList):=by have:=congrArg Prod.fst hx;rw[lits]at this;exact(DataW.agg.inj this).symm
 have c9:Tryz.prog.cellsOf 9=1:=by kernel_rfl
 have cell:∀j(hj:j<Ib.length),W.cell? ⟨0,j,none⟩=some (.string Ib[j]):=by
  intro j hj;have hj24:j<24:=hj;have k:=key j hj24;rw[c9,Nat.mul_one]at k;have hjx:j<xs.length:=by omega
  rw[a0 hjx]at k;obtain⟨s,e1,e2,_⟩:=DataW.trod_string Tryz.underlying9 k;have e3:xs[j].1=DataW.lit (.string Ib[j].data.toList):=by have:=congrArg (λl=>l[j]?) hx1;simp only[List.getElem?_map,a0 hjx,a0 hj,Option.map_some,Option.some.injEq]at this;exact this
  rw[e2]at e3;have e4:s.data.toList=Ib[j].data.toList:=by simpa using e3
  have e5:s=Ib[j]:=by obtain⟨⟨a⟩⟩:=s;generalize Ib[j]=z at e4 ⊢;obtain⟨⟨b⟩⟩:=z;exact congrArg (λx=>(⟨⟨x⟩⟩:ByteArray)) e4
  subst e5;rw[World.var?_cell Aql hvar j,<-Array.getElem?_toList];have h7:=congrArg (λl=>l[0]?) e1;simp only[List.getElem?_take,List.getElem?_drop]at h7;exact h7
 intro g q hq;have hq:A0j g=some q:=hq;unfold A0j at hq;split at hq
 .rename_i hg0;subst hg0;obtain rfl:=a1 hq;have hb:0<W.heap.size:=by
   have:=cell 0 (by decide);unfold World.cell? at this;by_cases h:0<W.heap.size
   .exact h
   .rw[Array.getElem?_eq_none (by omega)]at this;cases this
  refine Te.2 ⟨some ⟨0,0,none⟩,24,rfl,by decide,by decide,.inr ⟨0,0,rfl,hb,λj hj=>⟨.string Ib[j],Nv.2 ⟨rfl,?_⟩,rfl,λk hk=>?_⟩⟩⟩
  .have:∀j(hj:j<Ib.length),Ib[j].size<=Pd:=by decide
   exact this j hj
  .have hk:k<1:=hk;obtain rfl:k=0:=by omega
   have h8:=cell j hj;have e:(⟨0,0+j*sz YQ .str+0,none⟩:Addr)=⟨0,j,none⟩:=by
    have:0+j*sz YQ .str+0=j:=by show 0+j*1+0=j;omega
    rw[this]
   exact(congrArg W.cell? e).trans h8
 .cases hq
theorem own:ownKnob Tryz.prog.godebug=none:=by kernel_rfl
theorem laidOut:laidOutB Tryz.prog=true:=by kernel_rfl
theorem Aqy(os:Os)(args:Array Value):laidMetH Tryz.prog Z3 ((World.doorLaid Tryz.prog 600 os).forCall (λ_ _=>0) ⟨#[],args,[]⟩).memory:=
 laidMetH_of_parts (laidMet_of_run' 8 (by kernel_rfl) (by kernel_rfl)) (by kernel_rfl)
end Go.Proofs.YtcbkbpjlbmalmaaGreatDoor
