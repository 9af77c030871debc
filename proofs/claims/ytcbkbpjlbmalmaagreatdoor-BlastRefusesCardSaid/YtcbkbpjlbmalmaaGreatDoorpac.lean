/-
  The Y layer, part a: kinds of data as codes ('Ty'), the user's own types ('US'), which value stands for which datum; a walk is computed from the code, not printed. (Merged by program out of 7 texts.)
-/
import Derived.Test.YtcbkbpjlbmalmaaGreatDoorpab
import Derived.DataShut
import Derived.WideShapes4
import Derived.Maps.RangeRun
namespace Go.X
open Go Go.RowKit
section
def A8y(P:Program)(r:Result Next)(v:Value)(w:World):Prop:=r=.ok (.value v) w∨∃g args,r=.ok (.enter g args) w/\Calls P g args w λe w'=>e=.returned v/\w'=w
def Av3(md:Region.Mode)(ops:Array Oper)(listed:Array Bool)(C:List Nat)(i:Nat):Bool:=
 C.all λc=>!(listed.getD c true)&&match ops[c]? with
  |some o=>o.after.any λe=>Region.binds md e&&(e.on==i ||C.contains e.on)
  |none=>false
def A8t(listed:Array Bool)(E C:List Nat):Bool:=E.all λe=>C.contains e ||listed.getD e true
theorem Ki{i:Nat}{listed:Array Bool}(h:listed.getD i true=false)(h1:listed.getD i false=true):False:=by
 rcases Nat.lt_or_ge i listed.size with h'|h'
 .simp [h']at h h1;rw[h]at h1;cases h1
 .simp [Array.getElem?_eq_none h']at h1
section
variable {P:Program} {ops:Array Oper} {R:List PanicEntry->World->Prop} {V:Act->World->Prop} {S:World->Prop} {E:List Nat} {w1:World}
def YG(P:Program)(ops:Array Oper)(S:World->Prop)(o:Oper)(v:Value)(a:Act):Prop:=(Region.wanted o (yielded ops a.tmps)=true/\∀w,S w->A8y P ((execOp a.eval o).run P w) v w)∨(Region.wanted o (yielded ops a.tmps)=false/\v=undef)
variable {i:Nat} {v:Value} {a:Act}
theorem YG.opA{o:Oper}(hi:ops[i]?=some o)(hy:YG P ops S o v a){K:Act->World->Prop}{w:World}(hS:S w)(h:K (a.put o.dst v) w):OpA P ops R i K a w:=by
 unfold OpA;simp only[hi];rcases hy with ⟨hw,hv⟩|⟨hw,rfl⟩
 .simp only[hw,if_true];rcases hv w hS with h1|⟨g,args,h1,h2⟩
  .rw[h1];exact h
  .rw[h1];refine⟨rfl,Calls.mono h2 λe w' he=>?_⟩;obtain⟨rfl,rfl⟩:=he;exact h
 .simp only[hw,Bool.false_eq_true,if_false];exact h
theorem YG.of_same{o:Oper}{a':Act}(hy:YG P ops S o v a)(he:execOp a'.eval o=execOp a.eval o)(hw:Region.wanted o (yielded ops a'.tmps)=Region.wanted o (yielded ops a.tmps)):YG P ops S o v a':=by unfold YG at *;rw[he,hw];exact hy
variable {oi:Oper}
theorem OpA.put{j:Nat}{oj:Oper}(hj:ops[j]?=some oj)(hap:oi.apart ops oj=true)(hsi:∀cs b,oi.op≠.select cs b)(hsj:∀cs b,oj.op≠.select cs b){K:Act->World->Prop}{w:World}(hy:YG P ops S oi v a)(h:OpA P ops R j K (a.put oi.dst v) w):OpA P ops R j (λa' w'=>YG P ops S oi v a'/\K (a'.put oi.dst v) w') a w:=by
 obtain⟨h1,h2,h3⟩:=Oper.apart_spec hap;have Cq:∀u,YG P ops S oi v (a.put oj.dst u):=λu=>hy.of_same (execOp_put oi hsi a oj.dst u h3) (wanted_put oi a oj.dst u h3);unfold OpA at *;simp only[hj]at *;rw[wanted_put oj a oi.dst v h1]at h;split
 .rename_i hw;simp only[hw,if_true]at h;rw[execOp_put oj hsj a oi.dst v h1]at h;exact h.mono λu w' he=>⟨Cq u,by rw[<-Act.put_comm a v u h2];exact he⟩
 .rename_i hw;simp only[hw]at h;exact⟨Cq _,by rw[<-Act.put_comm a v undef h2];exact h⟩
theorem Aca{j:Nat}{listed:Array Bool}(hjun:listed.getD j true=false)(hfree:∀j oj,ops[j]?=some oj->j≠i->listed.getD j true=false->(∀e∈oj.after,Region.binds .any e=true->e.on≠i)->oi.apart ops oj=true):∀k ok,ops[k]?=some ok->k≠i->(listed.setIfInBounds j true).getD k true=false->(∀e∈ok.after,Region.binds .any e=true->e.on≠i)->oi.apart ops ok=true:=λk ok hk hki hun hno=>by
 refine hfree k ok hk hki ?_ hno;by_cases hjk:j=k
 .subst hjk;exact hjun
 .rw[getD_set_ne true hjk]at hun;exact hun
theorem Arj(hi:ops[i]?=some oi)(hsel:∀(j:Nat)(o:Oper)cs b,ops[j]?=some o->o.op≠.select cs b):∀(fuel:Nat)(listed:Array Bool)(a:Act)(w:World),(∀j oj,ops[j]?=some oj->j≠i->listed.getD j true=false->(∀e∈oj.after,Region.binds .any e=true->e.on≠i)->oi.apart ops oj=true)->i∈Region.ready .any ops listed->YG P ops S oi v a->S w->Aia P ops R V S fuel (listed.setIfInBounds i true) (a.put oi.dst v) w->Aia P ops R V S (fuel+1) listed a w:=by
 intro fuel;induction fuel with
 |zero=>
  intro listed a w _ hr hy hS H;refine⟨λh=>(by rw[h]at hr;cases hr),λj hj=>?_⟩;by_cases hji:j=i
  .subst hji;exact hy.opA hi hS ⟨hS,H⟩
  .have:=ready_mono hj hji;rw[H.1]at this;cases this
 |succ fuel ih=>
  intro listed a w hfree hr hy hS H;refine⟨λh=>(by rw[h]at hr;cases hr),λj hj=>?_⟩;by_cases hji:j=i
  .subst hji;exact hy.opA hi hS ⟨hS,H⟩
  .have h1:=H.2 j (ready_mono hj hji);have hiu:=(mem_ready.1 hr).1;obtain⟨hjun,oj,hoj,hall⟩:=mem_ready.1 hj;have hnot:∀e∈oj.after,Region.binds .any e=true->e.on≠i:=λe he hb heq=>by have h2:=hall e he hb;rw[heq]at h2;exact Ki hiu h2
   have h2:=OpA.put hoj (hfree j oj hoj hji hjun hnot) (λcs b=>hsel i oi cs b hi) (λcs b=>hsel j oj cs b hoj) hy h1;refine h2.mono λa' w' h3=>⟨h3.2.1,ih (listed.setIfInBounds j true) a' w' (Aca hjun hfree) (ready_mono hr (Ne.symm hji)) h3.1 h3.2.1 ?_⟩
   rw[Array.setIfInBounds_comm _ _ hji];exact h3.2.2
theorem Arl{C:List Nat}(hi:ops[i]?=some oi)(hsel:∀(j:Nat)(o:Oper)cs b,ops[j]?=some o->o.op≠.select cs b)(hiE:E.contains i=false):∀(fuel:Nat)(listed:Array Bool)(a:Act),(∀j oj,ops[j]?=some oj->j≠i->listed.getD j true=false->(∀e∈oj.after,Region.binds .any e=true->e.on≠i)->oi.apart ops oj=true)->i∈Region.ready .any ops listed->(∀c∈C,listed.getD c true=false/\∃o,ops[c]?=some o/\∃e∈o.after,Region.binds .any e=true/\(e.on=i∨e.on∈C))->(∀e∈E,e∈C∨listed.getD e true=true)->YG P ops (·=w1) oi v a->Ajh P ops R V S E w1 fuel (listed.setIfInBounds i true) (a.put oi.dst v) w1->Ajh P ops R V S E w1 (fuel+1) listed a w1:=by
 intro fuel;induction fuel with
 |zero=>
  intro listed a _ hr _ _ hy H;refine⟨λh=>(by rw[h]at hr;cases hr),λj hj=>?_⟩;by_cases hji:j=i
  .subst hji;exact hy.opA hi rfl (by rw[hiE];exact⟨rfl,H⟩)
  .have:=ready_mono hj hji;rw[H.1]at this;cases this
 |succ fuel ih=>
  intro listed a hfree hr hC hE hy H;refine⟨λh=>(by rw[h]at hr;cases hr),λj hj=>?_⟩;by_cases hji:j=i
  .subst hji;exact hy.opA hi rfl (by rw[hiE];exact⟨rfl,H⟩)
  .have hiu:=(mem_ready.1 hr).1;obtain⟨hjun,oj,hoj,hall⟩:=mem_ready.1 hj;have hjC:j∉C:=λhc=>by
    obtain⟨_,o,ho,e,he,hb,h1⟩:=hC j hc;rw[hoj]at ho;obtain rfl:=Option.some.inj ho;have h2:=hall e he hb;rcases h1 with h1|h1
    .rw[h1]at h2;exact Ki hiu h2
    .exact Ki (hC _ h1).1 h2
   have hjE:E.contains j=false:=by
    rw[Bool.eq_false_iff];intro h;rcases hE j (by simpa using h) with h1|h1
    .exact hjC h1
    .rw[hjun]at h1;cases h1
   have h1:=H.2 j (ready_mono hj hji);have hnot:∀e∈oj.after,Region.binds .any e=true->e.on≠i:=λe he hb heq=>by have h2:=hall e he hb;rw[heq]at h2;exact Ki hiu h2
   have h2:=OpA.put hoj (hfree j oj hoj hji hjun hnot) (λcs b=>hsel i oi cs b hi) (λcs b=>hsel j oj cs b hoj) hy h1;refine h2.mono λa' w' h3=>?_;rw[hjE]at h3 ⊢;obtain⟨h4,rfl,h5⟩:=h3;refine⟨rfl,ih (listed.setIfInBounds j true) a' (Aca hjun hfree) (ready_mono hr (Ne.symm hji)) (λc hc=>?_) (λe he=>?_) h4 ?_⟩
   .have:=hC c hc;exact⟨by rw[getD_set_ne true (λh:j=c=>hjC (h.symm▸hc))];exact this.1,this.2⟩
   .refine(hE e he).imp id λh=>?_;by_cases hje:j=e
    .subst hje;rw[hjun]at h;cases h
    .rw[getD_set_ne true hje];exact h
   .rw[Array.setIfInBounds_comm _ _ hji];exact h5
theorem Aeo(hi:ops[i]?=some oi)(hsel:∀(j:Nat)(o:Oper)cs b,ops[j]?=some o->o.op≠.select cs b)(hiE:E.contains i=false)(hS:S w1):∀(fuel:Nat)(listed:Array Bool)(a:Act),(∀j oj,ops[j]?=some oj->j≠i->listed.getD j true=false->(∀e∈oj.after,Region.binds .any e=true->e.on≠i)->oi.apart ops oj=true)->i∈Region.ready .any ops listed->YG P ops S oi v a->Ajh P ops R V S E w1 fuel (listed.setIfInBounds i true) (a.put oi.dst v) w1->Ajh P ops R V S E w1 (fuel+1) listed a w1:=by
 intro fuel;induction fuel with
 |zero=>
  intro listed a _ hr hy H;refine⟨λh=>(by rw[h]at hr;cases hr),λj hj=>?_⟩;by_cases hji:j=i
  .subst hji;exact hy.opA hi hS (by rw[hiE];exact⟨rfl,H⟩)
  .have:=ready_mono hj hji;rw[H.1]at this;cases this
 |succ fuel ih=>
  intro listed a hfree hr hy H;refine⟨λh=>(by rw[h]at hr;cases hr),λj hj=>?_⟩;by_cases hji:j=i
  .subst hji;exact hy.opA hi hS (by rw[hiE];exact⟨rfl,H⟩)
  .have hiu:=(mem_ready.1 hr).1;obtain⟨hjun,oj,hoj,hall⟩:=mem_ready.1 hj;have h1:=H.2 j (ready_mono hj hji);have hnot:∀e∈oj.after,Region.binds .any e=true->e.on≠i:=λe he hb heq=>by have h2:=hall e he hb;rw[heq]at h2;exact Ki hiu h2
   have h2:=OpA.put hoj (hfree j oj hoj hji hjun hnot) (λcs b=>hsel i oi cs b hi) (λcs b=>hsel j oj cs b hoj) hy h1;refine h2.mono λa' w' h3=>?_;by_cases hjE:E.contains j=true
   .rw[if_pos hjE]at h3 ⊢;obtain⟨h4,h5,h6⟩:=h3;refine⟨h5,Arj hi hsel fuel _ a' w' (Aca hjun hfree) (ready_mono hr (Ne.symm hji)) h4 h5 ?_⟩;rw[Array.setIfInBounds_comm _ _ hji];exact h6
   .rw[if_neg hjE]at h3 ⊢;obtain⟨h4,rfl,h6⟩:=h3;refine⟨rfl,ih (listed.setIfInBounds j true) a' (Aca hjun hfree) (ready_mono hr (Ne.symm hji)) h4 ?_⟩;rw[Array.setIfInBounds_comm _ _ hji];exact h6
end
section
variable {P:Program} {φ:FK} {N:Nat} {k:List Item} {R:Xit->World->Prop} {f:Fr} {w:World} {ops:Array Oper} {S:World->Prop} {n:Nat} {l:Array Bool} {E:List Nat}
def VG(P:Program)(φ:FK)(N:Nat)(k:List Item)(R:Xit->World->Prop):Act->World->Prop:=λa w=>a.defers=φ.ds/\∃f,Is N a.tmps f/\WT P φ N k R f w
def WE(P:Program)(φ:FK)(N:Nat)(ops:Array Oper)(k:List Item)(R:Xit->World->Prop)(S:World->Prop)(E:List Nat)(n:Nat)(l:Array Bool)(f:Fr)(w:World):Prop:=∀a,Is N a f->Ajh P ops (φ.at R) (VG P φ N k R) S E w n l ⟨a,φ.ds⟩ w
theorem Ami(E:List Nat)(hS:S w)(h:WE P φ N ops k R S E n l f w):WG P φ N ops k R S n l f w:=λa ha=>Akd hS _ _ _ _ (h a ha)
theorem Ayz(hr:Region.ready .any ops l=[])(h:WT P φ N k R f w):WE P φ N ops k R S E n l f w:=λa ha=>by
 cases n with
 |zero=>exact⟨hr,rfl,f,ha,h⟩
 |succ n=>exact⟨λ_=>⟨rfl,f,ha,h⟩,by rw[hr];simp⟩
variable {d:Nat} {o:Oper} {f2:Fr}
theorem Ayy{w:World}(hd:o.dst=some d)(hN:Nat.blt d N=true)(h1:WL P N ops (λ_ _=>False) true (λf' w'=>f'=f2/\w'=w) [o] f w):∃v,put N f o.dst v=f2/\((Region.wanted o (yl ops f)=true/\(execOp (ev f) o).run P w=.ok (.value v) w)∨(Region.wanted o (yl ops f)=false/\v=undef)):=by
 have hdN:d<N:=by simpa [Nat.blt_eq] using hN
 by_cases hw:Region.wanted o (yl ops f)=true
 .simp only[WL,hw,if_true]at h1;obtain⟨v,w2,hr,e1,e2⟩:=Amw _ h1;exact⟨v,e1,.inl ⟨hw,by rw[hr,e2]⟩⟩
 .simp only[WL,hw,if_false,Bool.false_eq_true]at h1;exact⟨undef,h1.1,.inr ⟨by simpa using hw,rfl⟩⟩
variable {i:Nat}
theorem A8u{l':Array Bool}(C:List Nat)(hi:ops[i]?=some o)(hd:o.dst=some d)(hN:Nat.blt d N=true)(hb:(Region.noSelect ops&&Region.free .any ops l i&&(Region.ready .any ops l).contains i&&!(E.contains i)&&Av3 .any ops l C i&&A8t l E C)=true)(hl:l.setIfInBounds i true=l')(h1:WL P N ops (λ_ _=>False) true (λf' w'=>f'=f2/\w'=w) [o] f w)(h:WE P φ N ops k R S E n l' f2 w):WE P φ N ops k R S E (n+1) l f w:=by
 intro a ha;simp only[Bool.and_eq_true,Bool.not_eq_true']at hb;obtain⟨v,rfl,hy⟩:=Ayy hd hN h1;obtain⟨a',e1,h2⟩:=ha.put (ds:=φ.ds) o.dst v;refine Arl (C:=C) (v:=v) hi (Region.noSelect_spec hb.1.1.1.1.1) hb.1.1.2 _ _ _ (Region.free_spec hi hb.1.1.1.1.2) (by simpa using hb.1.1.1.2) (λc hc=>?_) (λe he=>?_) ?_ ?_
 .have:=List.all_eq_true.1 hb.1.2 c hc;simp only[Bool.and_eq_true,Bool.not_eq_true']at this;refine⟨this.1,?_⟩;cases ho:ops[c]? with
  |none=>rw[ho]at this;simp at this
  |some o=>
   rw[ho]at this;have h3:=this.2;simp only[<-Array.any_toList,List.any_eq_true]at h3;obtain⟨e,he,hx⟩:=h3;simp only[Bool.and_eq_true,Bool.or_eq_true,beq_iff_eq,List.contains_iff_mem]at hx;exact⟨o,rfl,e,by simpa using he,hx.1,hx.2⟩
 .have:=List.all_eq_true.1 hb.2 e he;simpa [Bool.or_eq_true,List.contains_iff_mem] using this
 .unfold YG;rw[Afp ha,Kt ha];exact hy.imp (λ⟨h1,h2⟩=>⟨h1,λw hw=>by rw[hw];exact .inl h2⟩) id
 .rw[e1];subst hl;exact h a' h2
theorem Tp{l':Array Bool}(hi:ops[i]?=some o)(hd:o.dst=some d)(hN:Nat.blt d N=true)(hb:(Region.noSelect ops&&Region.free .any ops l i&&(Region.ready .any ops l).contains i&&!(E.contains i))=true)(hl:l.setIfInBounds i true=l')(hS:S w)(h1:∀w,S w->WL P N ops (λ_ _=>False) true (λf' w'=>f'=f2/\w'=w) [o] f w)(h:WE P φ N ops k R S E n l' f2 w):WE P φ N ops k R S E (n+1) l f w:=by
 intro a ha;simp only[Bool.and_eq_true,Bool.not_eq_true']at hb;have hdN:d<N:=by simpa [Nat.blt_eq] using hN
 obtain⟨v,rfl,hy⟩:=Ayy hd hN (h1 w hS);obtain⟨a',e1,h2⟩:=ha.put (ds:=φ.ds) o.dst v;have self:∀u,put N f o.dst u d=u:=λu=>by rw[hd];simp [put,upd,hdN]
 refine Aeo (v:=v) hi (Region.noSelect_spec hb.1.1.1) hb.2 hS _ _ _ (Region.free_spec hi hb.1.1.2) (by simpa using hb.1.2) ?_ ?_
 .unfold YG;rw[Afp ha,Kt ha];refine hy.imp (λ⟨h3,_⟩=>⟨h3,λw' hw'=>.inl ?_⟩) id;obtain⟨u,hu,hyu⟩:=Ayy hd hN (h1 w' hw');have:u=v:=by rw[<-self u,hu,self]
  subst this;rcases hyu with ⟨_,h4⟩|⟨h4,_⟩
  .exact h4
  .rw[h3]at h4;cases h4
 .rw[e1];subst hl;exact h a' h2
theorem Atb{v:Value}(hi:ops[i]?=some o)(_hd:o.dst=some d)(hb:(Region.noSelect ops&&Region.free .any ops l i&&(Region.ready .any ops l).contains i&&!(E.contains i))=true)(hS:S w)(hw:Region.wanted o (yl ops f)=true)(h1:∀w,S w->A8y P ((execOp (ev f) o).run P w) v w)(h:WE P φ N ops k R S E n (l.setIfInBounds i true) (put N f o.dst v) w):WE P φ N ops k R S E (n+1) l f w:=by
 intro a ha;simp only[Bool.and_eq_true,Bool.not_eq_true']at hb;obtain⟨a',e1,h2⟩:=ha.put (ds:=φ.ds) o.dst v;refine Aeo (v:=v) hi (Region.noSelect_spec hb.1.1.1) hb.2 hS _ _ _ (Region.free_spec hi hb.1.1.2) (by simpa using hb.1.2) ?_ ?_
 .unfold YG;rw[Afp ha,Kt ha];exact .inl ⟨hw,h1⟩
 .rw[e1];exact h a' h2
theorem A8w{rs:List Nat}(hr:Region.ready .any ops l=rs)(hne:rs≠[])(h:∀i∈rs,∀a,Is N a f->OpA P ops (φ.at R) i (λa' w'=>if E.contains i then S w'/\Aia P ops (φ.at R) (VG P φ N k R) S n (l.setIfInBounds i true) a' w' else w'=w/\Ajh P ops (φ.at R) (VG P φ N k R) S E w n (l.setIfInBounds i true) a' w') ⟨a,φ.ds⟩ w):WE P φ N ops k R S E (n+1) l f w:=λa ha=>
 ⟨λh0=>absurd (hr▸h0) hne,λi hi=>h i (hr▸hi) a ha⟩
end
end
section
def Ajd(P:Program)(g:FuncId)(vs:List Value)(I:Reg)(w:World)(Q X:Value->Reg->World->Prop):Prop:=Calls P g ⟨vs⟩ w λe w'=>(∃v I',e=.returned v/\Ext I w I' w'/\Q v I' w')∨(∃v I',e=.panicked [{v,recovered:=false}]/\Ext I w I' w'/\X v I' w')
theorem Ajd.mono{P:Program}{g:FuncId}{vs:List Value}{I:Reg}{w:World}{Q Q' X X':Value->Reg->World->Prop}(h:Ajd P g vs I w Q X)(hq:∀v I' w',Ext I w I' w'->Q v I' w'->Q' v I' w')(hx:∀v I' w',Ext I w I' w'->X v I' w'->X' v I' w'):Ajd P g vs I w Q' X':=Calls.mono h λe w' hh=>hh.imp (λ⟨v,I',h1,h2,h3⟩=>⟨v,I',h1,h2,hq _ _ _ h2 h3⟩) (λ⟨v,I',h1,h2,h3⟩=>⟨v,I',h1,h2,hx _ _ _ h2 h3⟩)
section
variable {P:Program} {N:Nat} {ops:Array Oper} {R:List PanicEntry->World->Prop} {m:Bool} {K:Fr->World->Prop} {os:List Oper} {f:Fr} {w:World}
variable {dst:Option Tmp} {ty:TypeId} {pos:String} {af:Array Edge} {I:Reg} {T A:Own} {x y z:Operand} {t e u:TypeId} {kd:IntKind}
variable {k:List Item}
variable {vs:List Value} {Q X:Value->Reg->World->Prop}
theorem Axh{g:FuncId}{as:Array Operand}{at_:Array TypeId}(hg:En P g=true)(hc:Ajd P g vs I w Q X)(ha:as.toList.map (ev f)=vs)(hx:∀v I' w',Ext I w I' w'->X v I' w'->R [{v,recovered:=false}] w')(h:∀v I' w',Ext I w I' w'->Q v I' w'->WL P N ops R false K os (put N f dst v) w'):WL P N ops R false K (⟨dst,.call ⟨.value (.func g),as,at_⟩,ty,pos,af,none⟩::os) f w:=
 Agp hg ha (Calls.mono hc λe w' hh=>by
  rcases hh with ⟨v,I',h1,h2,h3⟩|⟨v,I',h1,h2,h3⟩
  .subst h1;exact h v I' w' h2 h3
  .subst h1;exact hx v I' w' h2 h3)
theorem Asg{g:FuncId}{fv:Operand}{first captured:Array Value}{as:Array Operand}{at_:Array TypeId}(hg:En P g=true)(hc:Ajd P g vs I w Q X)(hv:ev f fv=.func (.func g) first captured)(ha:first.toList++as.toList.map (ev f)++captured.toList=vs)(hx:∀v I' w',Ext I w I' w'->X v I' w'->R [{v,recovered:=false}] w')(h:∀v I' w',Ext I w I' w'->Q v I' w'->WL P N ops R false K os (put N f dst v) w'):WL P N ops R false K (⟨dst,.call ⟨.value fv,as,at_⟩,ty,pos,af,none⟩::os) f w:=
 Asl hv hg ha (Calls.mono hc λe w' hh=>by
  rcases hh with ⟨v,I',h1,h2,h3⟩|⟨v,I',h1,h2,h3⟩
  .subst h1;exact h v I' w' h2 h3
  .subst h1;exact hx v I' w' h2 h3)
theorem Zz{q:FuncId}{F:Func}{c:Code}(hf:P.funcs[q]?=some F)(hb:F.body=some c)(hn:F.ntmps=N)(hv:Nat.ble vs.length N=true)(h:WT P ⟨q,none,[]⟩ N [.code c] (Avq P F N λe w'=>(∃v I',e=.returned v/\Ext I w I' w'/\Q v I' w')∨(∃v I',e=.panicked [{v,recovered:=false}]/\Ext I w I' w'/\X v I' w')) (fr0 vs) w):Ajd P q vs I w Q X:=Nf hf hb hn (Nat.le_of_ble_eq_true hv) h
theorem Wj(n:Nat)(p:Option Addr)(ht:P.underlying t=some (.pointer e)):(Op.equalIn (n+1) t (.pointer p) (.pointer none)).run P w=.ok p.isNone w:=by cases p<;>simp [Op.equalIn,run_underlying ht]
variable {p:Option Addr}
theorem Aqc(ht:P.underlying t=some (.pointer e)):(binOp .eql t (.pointer p) (.pointer none)).run P w=.ok (.bool p.isNone) w:=by simp only[binOp,Op.equal,Sem.run_bind,Op.maxDepth,Wj 9999 p ht,Result.andThen_ok,Sem.run_pure]
theorem Aqb(ht:P.underlying t=some (.pointer e)):(binOp .neq t (.pointer p) (.pointer none)).run P w=.ok (.bool (!p.isNone)) w:=by simp only[binOp,Op.equal,Sem.run_bind,Op.maxDepth,Wj 9999 p ht,Result.andThen_ok,Sem.run_pure]
theorem Akf{op:BinOp}{q:Option Addr}:(eqGuard op t x y (.pointer p) (.pointer q)).run P w=.ok () w:=by simp only[eqGuard];cases op<;>simp
theorem Anx{p:Option Nat}:(p.map λb=>(⟨b,0,none⟩:Addr)).isNone=decide (p=none):=by cases p<;>simp
variable {v:Value}
theorem A72{p:Option Nat}(ht:∃e,P.underlying t=some (.pointer e))(hr:rep I w v p)(hx:ev f x=v)(hy:ev f y=.pointer none)(h:WL P N ops R m K os (put N f dst (.bool (decide (p=none)))) w):WL P N ops R m K (⟨dst,.binOp .eql t x y u,ty,pos,af,none⟩::os) f w:=by obtain⟨e,ht⟩:=ht;have hr:v=.pointer (p.map λb=>⟨b,0,none⟩):=hr;subst hr;exact Ax (by simp only[execOp,hx,hy,Sem.run_bind,Akf,Result.andThen_ok,Aqc ht,Sem.run_pure,Anx]) h
theorem A7v{p:Option Nat}(ht:∃e,P.underlying t=some (.pointer e))(hr:rep I w v p)(hx:ev f x=v)(hy:ev f y=.pointer none)(h:WL P N ops R m K os (put N f dst (.bool (decide (¬(p=none))))) w):WL P N ops R m K (⟨dst,.binOp .neq t x y u,ty,pos,af,none⟩::os) f w:=by obtain⟨e,ht⟩:=ht;have hr:v=.pointer (p.map λb=>⟨b,0,none⟩):=hr;subst hr;exact Ax (by simp only[execOp,hx,hy,Sem.run_bind,Akf,Result.andThen_ok,Aqb ht,Sem.run_pure,Anx,decide_not]) h
variable {a b:ByteArray}
theorem Ake{op:BinOp}:(eqGuard op t x y (.string a) (.string b)).run P w=.ok () w:=by simp only[eqGuard];cases op<;>simp
theorem Azo(a b:ByteArray):(a.toList==b.toList)=decide (a=b):=by
 by_cases h:a=b
 .subst h;simp
 .rw[decide_eq_false h];refine beq_eq_false_iff_ne.2 λe=>h ?_;rw[ByteArray.toList_eq,ByteArray.toList_eq]at e;cases a with|mk a=>cases b with|mk b=>simpa using e
theorem A71(hx:ev f x=.string a)(hy:ev f y=.string b)(h:WL P N ops R m K os (put N f dst (.bool (decide (a=b)))) w):WL P N ops R m K (⟨dst,.binOp .eql t x y u,ty,pos,af,none⟩::os) f w:=
 Ax (by simp only[execOp,hx,hy,Sem.run_bind,Ake,Result.andThen_ok,binOp,Op.stringOp,Sem.run_pure,Azo]) h
theorem A7t(hx:ev f x=.string a)(hy:ev f y=.string b)(h:WL P N ops R m K os (put N f dst (.bool (decide (¬(a=b))))) w):WL P N ops R m K (⟨dst,.binOp .neq t x y u,ty,pos,af,none⟩::os) f w:=
 Ax (by simp only[execOp,hx,hy,Sem.run_bind,Ake,Result.andThen_ok,binOp,Op.stringOp,Sem.run_pure,Azo,decide_not]) h
theorem A01{tv:TypeId}(hx:ev f x=.iface tv v)(h:R [{v:=.iface tv v,recovered:=false}] w):WL P N ops R false K (⟨dst,.panic x,ty,pos,af,none⟩::os) f w:=by simp only[WL,Region.wanted];rw[if_pos (by simp)];simp [execOp,hx,Instr.panic,UP];exact h
end
end
section
def InK(k:IntKind)(n:Int):Prop:=k.min<=n/\n<=k.max
theorem Nv(k:IntKind)(n:Int):InK k (k.wrap n):=by unfold InK;have:=(Lit.wf_int_iff k _).1 (WideShapes.wf_wrap k n);exact this
theorem A5v(b:UInt8):InK .u8 (b.toNat:Int):=by
 have h1:IntKind.u8.min=0:=by decide
 have h2:IntKind.u8.max=255:=by decide
 have:=b.toNat_lt;unfold InK;omega
theorem Hc{k:IntKind}{n:Int}(h:InK k n):k.wrap n=n:=by unfold InK at h;cases k<;>simp [IntKind.min,IntKind.max,IntKind.bits,IntKind.signed]at h<;>simp [IntKind.wrap,IntKind.bits,IntKind.signed]<;>omega
theorem Ame{a d:Int}(hd:0<d):(0<=a->0<=a.fdiv d/\a.fdiv d<=a)/\(a<0->a<=a.fdiv d/\a.fdiv d<0):=by rw[Int.fdiv_eq_ediv_of_nonneg a (by omega)];refine⟨λh=>⟨Int.ediv_nonneg h (by omega),Int.ediv_le_self d h⟩,λh=>⟨?_,Int.ediv_neg_of_neg_of_pos h hd⟩⟩;rw[Int.le_ediv_iff_mul_le hd];have:=Int.mul_le_mul_of_nonpos_left (a:=a) (show a<=0 by omega) (show (1:Int)<=d by omega);omega
theorem Au3(k:IntKind):k.min<=0/\0<=k.max:=by cases k<;>decide
theorem A1l{k:IntKind}{a b:Int}(h:InK k a)(_:0<=b):InK k (a.fdiv (2^(min b.toNat k.bits))):=by
 have h1:=Ame (a:=a) (d:=2^(min b.toNat k.bits)) (Int.pow_pos (by decide));have h2:=Au3 k;unfold InK at *;rcases Int.lt_or_le a 0 with h3|h3
 .have:=h1.2 h3;omega
 .have:=h1.1 h3;omega
section
variable {P:Program} {N:Nat} {ops:Array Oper} {R:List PanicEntry->World->Prop} {m:Bool} {K:Fr->World->Prop} {os:List Oper} {f:Fr} {w:World}
variable {dst:Option Tmp} {ty:TypeId} {pos:String} {af:Array Edge} {I:Reg} {T A:Own} {x y z:Operand} {t e u:TypeId} {kd kd2:IntKind} {a b:Int}
def D0(op:BinOp)(k:IntKind)(a b:Int):Int:=match op with
 | .and=>k.wrap (BitVec.ofInt k.bits a&&&BitVec.ofInt k.bits b).toNat
 | .or=>k.wrap (BitVec.ofInt k.bits a|||BitVec.ofInt k.bits b).toNat
 | .xor=>k.wrap (BitVec.ofInt k.bits a ^^^ BitVec.ofInt k.bits b).toNat
 |_=>k.wrap (BitVec.ofInt k.bits a&&&~~~ BitVec.ofInt k.bits b).toNat
theorem X4{op:BinOp}{k:IntKind}{a b:Int}:InK k (D0 op k a b):=by unfold D0;split<;>exact Nv _ _
theorem A3a(hx:ev f x=.int kd a)(hy:ev f y=.int kd b)(h:WL P N ops R m K os (put N f dst (.int kd (D0 .and kd a b))) w):WL P N ops R m K (⟨dst,.binOp .and t x y u,ty,pos,af,none⟩::os) f w:=
 Abn hx hy (by simp [binOp,Op.intBits,D0]) h
theorem A7s(hx:ev f x=.int kd a)(hy:ev f y=.int kd b)(h:WL P N ops R m K os (put N f dst (.int kd (D0 .or kd a b))) w):WL P N ops R m K (⟨dst,.binOp .or t x y u,ty,pos,af,none⟩::os) f w:=
 Abn hx hy (by simp [binOp,Op.intBits,D0]) h
theorem A25(hx:ev f x=.int kd a)(hy:ev f y=.int kd b)(h:WL P N ops R m K os (put N f dst (.int kd (D0 .xor kd a b))) w):WL P N ops R m K (⟨dst,.binOp .xor t x y u,ty,pos,af,none⟩::os) f w:=
 Abn hx hy (by simp [binOp,Op.intBits,D0]) h
theorem Ag7{op:BinOp}:(eqGuard op t x y (.int kd a) (.int kd2 b)).run P w=.ok () w:=by simp only[eqGuard];cases op<;>simp
theorem A7r(hx:ev f x=.int kd a)(hy:ev f y=.int kd2 b)(hb:0<=b)(h:WL P N ops R m K os (put N f dst (.int kd (kd.wrap (a*2^(min b.toNat kd.bits))))) w):WL P N ops R m K (⟨dst,.binOp .shl t x y u,ty,pos,af,none⟩::os) f w:=
 Ax (by
  have:¬b<0:=by omega
  simp only[execOp,hx,hy,Sem.run_bind,Ag7,Result.andThen_ok,binOp,Op.shift,if_neg this,Sem.run_pure]) h
theorem A7q(hx:ev f x=.int kd a)(hy:ev f y=.int kd2 b)(hb:0<=b)(h:WL P N ops R m K os (put N f dst (.int kd (a.fdiv (2^(min b.toNat kd.bits))))) w):WL P N ops R m K (⟨dst,.binOp .shr t x y u,ty,pos,af,none⟩::os) f w:=
 Ax (by
  have:¬b<0:=by omega
  simp only[execOp,hx,hy,Sem.run_bind,Ag7,Result.andThen_ok,binOp,Op.shift,if_neg this,Sem.run_pure]) h
theorem Ago{kt ku:IntKind}(ht:P.underlying t=some (.int kt))(hu:P.underlying e=some (.int ku))(hx:ev f x=.int kd a)(h:WL P N ops R m K os (put N f dst (.int ku (ku.wrap a))) w):WL P N ops R m K (⟨dst,.convert t e x,ty,pos,af,none⟩::os) f w:=
 Ax (by simp only[execOp,hx,convert,Sem.run_bind,run_underlying ht,run_underlying hu,Result.andThen_ok,Conv.intToInt,Sem.run_pure]) h
theorem Axj(hx:ev f x=.int kd a)(hy:ev f y=.int kd b)(h0:b≠0)(hb:InK kd (a.tdiv b))(h:WL P N ops R m K os (put N f dst (.int kd (a.tdiv b))) w):WL P N ops R m K (⟨dst,.binOp .quo t x y u,ty,pos,af,none⟩::os) f w:=
 Abn hx hy (by simp [binOp,Op.intDiv,h0,Hc hb]) h
theorem Axi(hx:ev f x=.int kd a)(hy:ev f y=.int kd b)(h0:b≠0)(hb:InK kd (a.tmod b))(h:WL P N ops R m K os (put N f dst (.int kd (a.tmod b))) w):WL P N ops R m K (⟨dst,.binOp .rem t x y u,ty,pos,af,none⟩::os) f w:=
 Abn hx hy (by simp [binOp,Op.intDiv,h0,Hc hb]) h
theorem Axm{s:ByteArray}{j:Nat}(ht:P.underlying t=some .string)(hj:j<s.size)(hx:ev f x=.string s)(hy:ev f y=.int kd a)(ha:a=(j:Int))(h:WL P N ops R m K os (put N f dst (.int .u8 (s[j].toNat:Int))) w):WL P N ops R m K (⟨dst,.index t x y,ty,pos,af,none⟩::os) f w:=
 Ax (by subst ha;simp [execOp,hx,hy,Instr.index,asIntOf,run_underlying ht,hj]) h
end
end
section
section
variable {P:Program} {φ:FK} {N:Nat} {k:List Item} {R:Xit->World->Prop} {f:Fr} {w:World}
def Aew(fn:FuncId)(a:Array Value)(ps:Array Tmp)(as bd:Code)(b:Nat):Loop:={state:=.ready,pending:=none,fn:=fn,tmps:=a,params:=ps,assign:=as,body:=bd,defers:=b}
def FK.mark(φ:FK)(b:Nat):FK:={φ with ds:=⟨.collected b,#[]⟩::φ.ds}
theorem Akx(hro:φ.ro=none){g:Operand}{ps:Array Tmp}{as bd:Code}{q:FuncId}{first cap:Array Value}(hg:ev f g=.func (.func q) first cap)(h:∀a,Is N a f->En P q=true/\Calls P q ⟨first.toList++[.func (.yield (w.heap.size+1)) #[] #[]]++cap.toList⟩ ((w.alloc (.deferred (some []))).alloc (.loop (Aew φ.fn a ps as bd w.heap.size))) λe w'=>match e with
   | .returned _=>∃r,w'.heap[w.heap.size+1]?=some (.loop r)/\r.state≠.busy/\WT P (φ.mark w.heap.size) N ((r.pending.map Item.code).toList++k) R f (w'.putObj (w.heap.size+1) (.loop {r with state:=.exhausted}))
   | .panicked ch=>R (.pan ch f (φ.mark w.heap.size).ds) w'
   | .outgrown=>False):WT P φ N (.code (.rangeFunc g ps as bd)::k) R f w:=by
 intro b cs a ha hb hk hr
 obtain⟨hq,h⟩:=h a ha
 have he:(Instr.enterLoop b.fn a ps as bd b.roundOf).run P w=.ok (w.heap.size+1,[⟨.collected w.heap.size,#[]⟩]) ((w.alloc (.deferred (some []))).alloc (.loop (Aew φ.fn a ps as bd w.heap.size))):=by rw[hr,hro,hb,run_enterLoop_outer];rfl
 have hev:(Act.eval ⟨a,φ.ds⟩) g=.func (.func q) first cap:=by rw[Ack ha];exact hg
 have Kk:∀w1:World,∃d,(resolve (Act.eval ⟨a,φ.ds⟩) (rangeCall g (w.heap.size+1)) 0).run P w1=.ok d w1/\(invoke d.target d.args).run P w1=.ok (.enter q ⟨first.toList++[.func (.yield (w.heap.size+1)) #[] #[]]++cap.toList⟩) w1:=λw1=>by have hc:(Act.eval ⟨a,φ.ds⟩) (.const (.func (.yield (w.heap.size+1)) #[] #[]))=.func (.yield (w.heap.size+1)) #[] #[]:=rfl;refine⟨_,by simp only[resolve,rangeCall,hev,Sem.run_bind,Sem.run_pure,Result.andThen_ok,Deferred.ofValue];rfl,?_⟩;simp [invoke,Tz hq,hc]
 obtain⟨d,hd,hi⟩:=Kk ((w.alloc (.deferred (some []))).alloc (.loop (Aew φ.fn a ps as bd w.heap.size)))
 have henter:=stepR_rangeFunc (P:=P) (b:=b) (a:=⟨a,φ.ds⟩) (k:=k) (cs:=cs) (w:=w) he hd hi
 obtain⟨e,w₃,fr,hR,hsteps,hfn,hleave⟩:=h (b.atR ⟨a,(φ.mark w.heap.size).ds⟩ (.inRangeFunc (w.heap.size+1)::k)::cs)
 cases e with
 |outgrown=>exact hR.elim
 |returned v=>
  obtain⟨r,hr1,hr2,hw⟩:=hR;have hend:=run_endLoop (P:=P) hr1 hr2;obtain⟨e',w4,hR',hc⟩:=hw b cs a ha hb hk hr;refine⟨e',w4,hR',hc.of_steps (.head henter (hsteps.trans (.head ?_ (.one (stepR_endRangeFunc hend)))))⟩;rw[<-finish_atR_inRangeFunc _ v];exact step_leave_returned hleave
 |panicked ch=>
  refine⟨.pan ch f (φ.mark w.heap.size).ds,w₃,hR,a,.inRangeFunc (w.heap.size+1)::k,ha,.head henter (hsteps.trans (.one ?_))⟩;rw[<-Frame.raise_atR];exact step_leave_panicked hleave
def A2v(P:Program)(l:Nat)(R:Ending->World->Prop):Xit->World->Prop
 | .lv j _ [],w=>∃v w',(Instr.endRound l j).run P w=.ok v w'/\R (.returned v) w'
 | .pan ch _ [],w=>R (.panicked ch) w
 |_,_=>False
theorem Aic{l:Nat}{w':World}(hro:φ.ro=some l)(hr:(Instr.beginRound l).run P w=.ok () w')(h:WT P φ N k R f w'):WT P φ N (.beginRound::k) R f w:=K3 (λ_ _ _ _ _ hb=>stepR_beginRound (hb.trans hro) hr) h
theorem Aue{l:Nat}{fn:FuncId}{tmps:Array Value}{as bd:Code}{R:Ending->World->Prop}(hF:∃F,P.funcs[fn]?=some F)(ha:Is N tmps f)(h:WT P ⟨fn,some l,[]⟩ N [.code as,.beginRound,.code bd] (A2v P l R) f w):Rnd P l fn tmps as bd w R:=by
 refine⟨trivial,λc cs _=>?_⟩;let b:Frame:={(default:Frame) with fn:=fn,kind:=.normal,roundOf:=some l}
 have hb0:Frame.round l fn tmps as bd .normal=b.atR ⟨tmps,[]⟩ [.code as,.beginRound,.code bd]:=by simp [Frame.round,Frame.atR,b]
 obtain⟨e,w1,hR,hc⟩:=h b (c::cs) tmps ha rfl rfl rfl;rw[<-hb0]at hc;cases e with
 |pan ch f' ds=>
  cases ds with
  |cons _ _=>exact hR.elim
  |nil=>
   obtain⟨a,td,_,hs⟩:=hc;exact⟨.panicked ch,w1,hR,comesIn_wide.2 (hs.trans (.one (step_leave_panicked ⟨rfl,rfl,hF⟩)))⟩
 |lv j f' ds=>
  cases ds with
  |cons _ _=>exact hR.elim
  |nil=>
   obtain⟨a,td,_,hj,hs⟩:=hc;obtain⟨v,w2,hend,hR⟩:=hR;have fin:step P (lone (b.atR ⟨a,[]⟩ td) (c::cs) w1)=.next (lone (c.finish v) cs w2)->∃e w',R e w'/\ComesIn (Machine.fenced P Fence.wide) P (lone (Frame.round l fn tmps as bd .normal) (c::cs) w) (match e with
     | .returned v=>lone (c.finish v) cs w'
     | .panicked chain=>lone (c.raise chain) cs w'
     | .outgrown=>lone c cs w') e:=λhst=>⟨.returned v,w2,hR,comesIn_wide.2 (hs.trans (.one hst))⟩
   cases j with
   |none=>obtain rfl:td=[]:=hj;exact fin (stepR_round_end rfl rfl hend)
   |some j=>
    cases j with
    |ret=>obtain⟨k',rfl⟩:=hj;exact fin (stepR_round_ret rfl rfl hend)
    |exit id=>obtain⟨k',rfl,hx⟩:=hj;exact fin (stepR_round_exit rfl rfl hx hend)
    |_=>exact hj.elim
def Aku(N:Nat):List Tmp->List Value->Fr->Fr
 |p::ps,v::vs,f=>Aku N ps vs (upd N f p v)
 |_,_,f=>f
def Clb(P:Program)(v:Value)(vs:List Value)(w:World)(R:Ending->World->Prop):Prop:=(∃g first cap,v=.func (.func g) first cap/\En P g=true/\Calls P g ⟨first.toList++vs++cap.toList⟩ w R)∨(∃l r,v=.func (.yield l) #[] #[]/\w.heap[l]?=some (.loop r)/\vs.length=r.params.size/\Rnd P l r.fn ((r.params.zip ⟨vs⟩).foldl (λtmps(t,a)=>tmps.setIfInBounds t a) r.tmps) r.assign r.body w R)
theorem Clb.mono{v:Value}{vs:List Value}{R R':Ending->World->Prop}(h:Clb P v vs w R)(hr:∀e w,R e w->R' e w):Clb P v vs w R':=by
 rcases h with ⟨g,first,cap,h1,h2,h3⟩|⟨l,r,h1,h2,h3,h4⟩
 .exact .inl ⟨g,first,cap,h1,h2,Calls.mono h3 hr⟩
 .exact .inr ⟨l,r,h1,h2,h3,RoundIn.mono h4 hr⟩
theorem Aki{f:Fr}:∀(ps:List Tmp)(vs:List Value)(f:Fr)(a:Array Value),Is N a f->Is N ((ps.zip vs).foldl (λ(tmps:Array Value)(p:Tmp×Value)=>tmps.setIfInBounds p.1 p.2) a) (Aku N ps vs f)
 | [],_,f,a,h=>by simpa [Aku] using h
 |_::_,[],f,a,h=>by simpa [Aku] using h
 |p::ps,v::vs,f,a,h=>by
  obtain⟨a',h1,h2⟩:=h.put (ds:=[]) (some p) v;have:a'=a.setIfInBounds p v:=by simp only[Act.put]at h1;injection h1 with h1;exact h1.symm
  subst this;simp only[List.zip_cons_cons,List.foldl_cons,Aku];exact Aki (f:=f) ps vs _ _ h2
theorem A5o{ps:Array Tmp}{vs:List Value}{a:Array Value}(h:Is N a f):Is N ((ps.zip ⟨vs⟩).foldl (λtmps(t,a)=>tmps.setIfInBounds t a) a) (Aku N ps.toList vs f):=by have:=Aki (f:=f) ps.toList vs f a h;rw[<-Array.foldl_toList];simpa using this
section
variable {Rp:List PanicEntry->World->Prop} {ops:Array Oper} {K:Fr->World->Prop} {os:List Oper} {dst:Option Tmp} {ty:TypeId} {pos:String} {af:Array Edge}
theorem A75{fv:Operand}{as:Array Operand}{at_:Array TypeId}{vs:List Value}(ha:as.toList.map (ev f)=vs)(h:Clb P (ev f fv) vs w λe w'=>match e with
   | .returned v=>WL P N ops Rp false K os (put N f dst v) w'
   | .panicked ch=>Rp ch w'
   | .outgrown=>False):WL P N ops Rp false K (⟨dst,.call ⟨.value fv,as,at_⟩,ty,pos,af,none⟩::os) f w:=by
 rcases h with ⟨g,first,cap,h1,h2,h3⟩|⟨l,r,h1,h2,h3,h4⟩
 .exact Asl h1 h2 (by rw[ha]) h3
 .have he:(execOp (ev f) ⟨dst,.call ⟨.value fv,as,at_⟩,ty,pos,af,none⟩).run P w=.ok (.round l r.fn ((r.params.zip ⟨vs⟩).foldl (λtmps(t,a)=>tmps.setIfInBounds t a) r.tmps) r.assign r.body) w:=by
   have hs:(as.map (ev f))=⟨vs⟩:=by rw[<-ha];exact(Array.toArray_toList).symm.trans (by rw[Array.toList_map])
   simp only[execOp,resolve,h1,Sem.run_bind,Sem.run_pure,Result.andThen_ok,Deferred.ofValue,invoke,hs];have:=run_yield (P:=P) (args:=⟨vs⟩) h2 h3;rw[Array.empty_append];exact this
  simp only[WL,Region.wanted,if_true,he,UP];exact⟨trivial,h4⟩
end
end
end
section
section
variable {P:Program} {φ:FK} {N:Nat} {k:List Item} {R:Xit->World->Prop} {f:Fr} {w:World}
def Qd(P:Program)(φ:FK)(N:Nat)(k:List Item)(R:Xit->World->Prop):Exit->Act->World->Prop
 | .normal,a,w=>∃f,Is N a.tmps f/\WT P {φ with ds:=a.defers} N k R f w
 | .panic ch,a,w=>a.defers=φ.ds/\∃f,Is N a.tmps f/\R (.pan ch f φ.ds) w
 |_,_,_=>False
theorem At0{c:Code}(h:∀a,Is N a f->c.wpIn φ.T7 0 P (Qd P φ N k R) ⟨a,φ.ds⟩ w):WT P φ N (.code c::k) R f w:=by
 intro b cs a ha hb hk hr;obtain⟨e,a',w',hq,harr⟩:=h a ha b k cs hr trivial (λd hd=>(by cases hd));cases e with
 |normal=>
  obtain⟨f',hf',hw⟩:=hq;obtain⟨t,d⟩:=a';obtain⟨e,w₂,hR,hc⟩:=hw b cs t hf' hb hk hr;exact⟨e,w₂,hR,hc.of_steps (Un harr)⟩
 |panic ch=>
  obtain⟨hd,f',hf',hR⟩:=hq;obtain⟨t,d⟩:=a';simp only at hd;subst hd;obtain⟨todo,hs⟩:=harr;exact⟨.pan ch f' φ.ds,w',hR,t,todo,hf',Un hs⟩
 |exit id=>exact hq.elim
 |goto l=>exact hq.elim
 |ret=>exact hq.elim
 |outgrown=>exact hq.elim
theorem Am4{Rp:List PanicEntry->World->Prop}{o:Oper}{a:Array Value}{K':Act->World->Prop}{next:Value->World->Prop}(hp:∀ch w,Rp ch w->∃f,Is N a f/\R (.pan ch f φ.ds) w)(hn:∀v w',next v w'->K' (Act.put ⟨a,φ.ds⟩ o.dst v) w')(h:UP P Rp false next ((execOp (Act.eval ⟨a,φ.ds⟩) o).run P w)):o.wpIn φ.T7 0 P ⟨a,φ.ds⟩ w K' (Qd P φ N k R):=by
 refine⟨λf _=>trivial,?_⟩;rw[Anl h];generalize (execOp (Act.eval ⟨a,φ.ds⟩) o).run P w=r at h;cases r with
 |ok nx w'=>
  cases nx with
  |value v=>exact hn _ _ h
  |skip=>exact hn _ _ h.2
  |enter g args=>
   refine⟨λhd=>(by cases hd),Aph (Calls.mono h.2 λe w''=>?_)⟩;cases e with
   |returned v=>exact hn _ _
   |panicked ch=>exact λh=>⟨rfl,hp _ _ h⟩
   |outgrown=>exact λh=>h.elim
  |round l g tmps as bd=>
   refine⟨λhd=>(by cases hd),Anp (RoundIn.mono h.2 λe w''=>?_)⟩;cases e with
   |returned v=>exact hn _ _
   |panicked ch=>exact λh=>⟨rfl,hp _ _ h⟩
   |outgrown=>exact λh=>h.elim
  |_=>exact False.elim h
 |halt x w'=>
  cases x with
  |panic v=>exact⟨rfl,hp _ _ h.2⟩
  |_=>exact False.elim h
theorem Aaz{ops:Array Oper}{cl:Call}{ty:TypeId}{pos:String}{af:Array Edge}(hro:φ.ro=none):∀(os:List Oper)(l:List Nat)(f:Fr)(w:World)(a:Array Value),Is N a f->l.map (ops[·]?)=(os++[(⟨none,.defer cl,ty,pos,af,none⟩:Oper)]).map some->WL P N ops (φ.at R) false (λf w=>∃d w',(resolve (ev f) cl ty).run P w=.ok d w'/\WT P {φ with ds:=d::φ.ds} N k R f w') os f w->wpOpsIn φ.T7 0 P ops (Qd P φ N k R) l ⟨a,φ.ds⟩ w
 | [],[],_,_,_,_,hl,_=>by simp at hl
 | [],[i],f,w,a,ha,hl,h=>by
  simp only[List.map_cons,List.map_nil,List.nil_append,List.cons.injEq,and_true]at hl;obtain⟨d,w',hd,hw⟩:=h;simp only[wpOpsIn,hl];rw[Afp ha];have hwt:Region.wanted (⟨none,.defer cl,ty,pos,af,none⟩:Oper) (yl ops f)=true:=by simp [Region.wanted]
  simp only[hwt,if_true];refine⟨λ_ _=>trivial,?_⟩;have hs:(Oper.semAt φ.T7.round (Act.eval ⟨a,φ.ds⟩) ⟨none,.defer cl,ty,pos,af,none⟩).run P w=.ok (.defer d) w':=by show (Oper.semAt φ.ro _ _).run P w=_;rw[hro];rw[Kt ha];simp [Oper.semAt,execOp,hd]
  rw[hs];exact⟨f,ha,hw⟩
 | [],_::_::_,_,_,_,_,hl,_=>by simp at hl
 |_::_,[],_,_,_,_,hl,_=>by simp at hl
 |o::os,i::l,f,w,a,ha,hl,h=>by
  simp only[List.cons_append,List.map_cons,List.cons.injEq]at hl;obtain⟨ho,hl⟩:=hl;simp only[wpOpsIn,ho];simp only[WL]at h;rw[Afp ha];have next:∀v w',WL P N ops (φ.at R) false (λf w=>∃d w',(resolve (ev f) cl ty).run P w=.ok d w'/\WT P {φ with ds:=d::φ.ds} N k R f w') os (put N f o.dst v) w'->wpOpsIn φ.T7 0 P ops (Qd P φ N k R) l (Act.put ⟨a,φ.ds⟩ o.dst v) w':=λv w' h'=>by obtain⟨a',h1,h2⟩:=ha.put o.dst v;rw[h1];exact Aaz hro os l _ _ _ h2 hl h'
  split at h
  .rename_i hw;simp only[hw,if_true];exact Am4 (Rp:=φ.at R) (λch w h=>⟨f,ha,h f⟩) next (by rw[Kt ha];exact h)
  .rename_i hw;simp only[hw,if_false,Bool.false_eq_true];exact⟨λ_ _=>trivial,next _ _ h⟩
theorem Am0{id:Nat}{ops:Array Oper}{os:List Oper}{cl:Call}{ty:TypeId}{pos:String}{af:Array Edge}(hro:φ.ro=none)(hops:ops.toList=os++[⟨none,.defer cl,ty,pos,af,none⟩])(h:WL P N ops (φ.at R) false (λf w=>∃d w',(resolve (ev f) cl ty).run P w=.ok d w'/\WT P {φ with ds:=d::φ.ds} N k R f w') os f w):WT P φ N (.code (.region id ops false)::k) R f w:=
 At0 λa ha=>wpIn_region (Aaz hro os _ _ _ a ha (by rw[Y7,hops]) h)
end
end
section
section
variable {P:Program} {N:Nat} {ops:Array Oper} {R:List PanicEntry->World->Prop} {mo:Bool} {K:Fr->World->Prop} {os:List Oper} {f:Fr} {w:World}
variable {dst:Option Tmp} {ty:TypeId} {pos:String} {af:Array Edge} {I:Reg} {T A:Own} {t kt et:TypeId} {x:Operand}
variable {b c:Nat} {es:Array MapEntry}
theorem Ash(ht:P.underlying t=some (.map kt et))(hs:St I w ([(b,.map es c)]++T))(hx:ev f x=.map (some b))(h:∀r w',Ext I w I w'->St I w' ([(r,.mapIter (some b) c #[] c)]++([(b,.map es c)]++T))->WL P N ops R mo K os (put N f dst (.pointer (some ⟨r,0,none⟩))) w'):WL P N ops R mo K (⟨dst,.range t x,ty,pos,af,none⟩::os) f w:=by obtain⟨e1,s1⟩:=hs.alloc (.mapIter (some b) c #[] c);refine Ax ?_ (h w.heap.size _ e1 s1);simp [execOp,hx,run_range_map w t kt et b es c ht hs.heap]
variable {r:Nat}
theorem Anj{o o':Obj}(hs:St I w ((r,o)::T)):Ext I w I (ChangeMaps.setBlock w r o')/\St I (ChangeMaps.setBlock w r o') ((r,o')::T):=by
 have hb:=(hs.own (r,o) (by simp)).1;have hlt:r<w.heap.size:=(Array.getElem?_eq_some_iff.1 hb).1;refine hs.write (b:=r) (o:=o) (o':=o') (T:=T) rfl rfl rfl ?_ ?_ λc hc=>?_
 .simp [ChangeMaps.setBlock]
 .simp [ChangeMaps.setBlock,hlt]
 .simp [ChangeMaps.setBlock];exact Array.getElem?_setIfInBounds_ne (λe=>hc e.symm)
theorem A4r{seen:Array Nat}(hs:St I w ([(r,.mapIter (some b) c seen c)]++([(b,.map es c)]++T)))(hb:∀e∈es.toList,e.born<c)(hx:ev f x=.pointer (some ⟨r,0,none⟩))(h0:(leftOf es seen).size=0->WL P N ops R mo K os (put N f dst (.tuple #[.bool false])) w)(h1:∀e∈(leftOf es seen).toList,∀w',Ext I w I w'->St I w' ([(r,.mapIter (some b) c (seen.push e.born) c)]++([(b,.map es c)]++T))->WL P N ops R mo K os (put N f dst (.tuple #[.bool true,e.key,e.val])) w'):WL P N ops R mo K (⟨dst,.next x false,ty,pos,af,none⟩::os) f w:=by
 have hr:=hs.heap;have hm:=hs.Aip.heap;rcases run_next_at (P:=P) w ty r b c c seen es c hr hm hb (Nat.le_refl _) with ⟨hl,hrun⟩|⟨e,he,w1,hw1,hrun⟩
 .refine Ax ?_ (h0 hl);simp [execOp,hx,hrun]
 .have k1:Ext I w I w1/\St I w1 ([(r,.mapIter (some b) c seen c)]++([(b,.map es c)]++T)):=by
   rcases hw1 with rfl|rfl
   .exact⟨Ext.refl _ _,hs⟩
   .exact hs.drew (w.drawn+1)
  obtain⟨k2,k3⟩:=Anj (o':=.mapIter (some b) c (seen.push e.born) c) k1.2;refine Ax ?_ (h1 e he _ (k1.1.trans k2) k3);simp [execOp,hx,hrun]
theorem A04{seen:Array Nat}{e:MapEntry}(hs:St I w ([(r,.mapIter (some b) c (seen.push e.born) c)]++([(b,.map es c)]++T)))(he:e∈es.toList)(hn:(es.toList.map (·.born)).Nodup)(hx:ev f x=.pointer (some ⟨r,0,none⟩))(h:WL P N ops R mo K os (put N f dst (.tuple #[e.key,e.val])) w):WL P N ops R mo K (⟨dst,.entry x,ty,pos,af,none⟩::os) f w:=by refine Ax ?_ h;simp [execOp,hx,run_entry_at (P:=P) w r b c seen es c e hs.heap hs.Aip.heap he hn]
end
theorem Ax7{es:Array MapEntry}:leftOf es #[]=es:=by unfold leftOf;simp
end
end Go.X
namespace Go.Y
open Go Go.RowKit Go.X
section
inductive Ty where
 |int (k:IntKind)
 |bool
 |str
 |ptr
 |mref
 |sl (e:Ty)
 |u (n:Nat)
abbrev I6:Ty:=.int .i64
def Ty.dec:(a b:Ty)->Decidable (a=b)
 | .int j,.int k=>if h:j=k then .isTrue (by rw[h]) else .isFalse (by intro e;cases e;exact h rfl)
 | .bool,.bool=>.isTrue rfl
 | .str,.str=>.isTrue rfl
 | .ptr,.ptr=>.isTrue rfl
 | .mref,.mref=>.isTrue rfl
 | .sl a,.sl b=>match Ty.dec a b with
  | .isTrue h=>.isTrue (by rw[h])
  | .isFalse h=>.isFalse (by intro e;cases e;exact h rfl)
 | .u a,.u b=>if h:a=b then .isTrue (by rw[h]) else .isFalse (by intro e;cases e;exact h rfl)
 | .int _,.mref | .bool,.mref | .str,.mref | .ptr,.mref | .sl _,.mref | .u _,.mref=>.isFalse (by intro e;cases e)
 | .mref,.int _ | .mref,.bool | .mref,.str | .mref,.ptr | .mref,.sl _ | .mref,.u _=>.isFalse (by intro e;cases e)
 | .int _,.bool | .int _,.str | .int _,.ptr | .int _,.sl _ | .int _,.u _=>.isFalse (by intro e;cases e)
 | .bool,.int _ | .bool,.str | .bool,.ptr | .bool,.sl _ | .bool,.u _=>.isFalse (by intro e;cases e)
 | .str,.int _ | .str,.bool | .str,.ptr | .str,.sl _ | .str,.u _=>.isFalse (by intro e;cases e)
 | .ptr,.int _ | .ptr,.bool | .ptr,.str | .ptr,.sl _ | .ptr,.u _=>.isFalse (by intro e;cases e)
 | .sl _,.int _ | .sl _,.bool | .sl _,.str | .sl _,.ptr | .sl _,.u _=>.isFalse (by intro e;cases e)
 | .u _,.int _ | .u _,.bool | .u _,.str | .u _,.ptr | .u _,.sl _=>.isFalse (by intro e;cases e)
instance:DecidableEq Ty:=Ty.dec
abbrev den(D:Nat->Type):Ty->Type
 | .int _=>Int
 | .bool=>Bool
 | .str=>ByteArray
 | .ptr=>Option Nat
 | .mref=>Option Nat
 | .sl e=>List (den D e)
 | .u n=>D n
structure Lf(D:Nat->Type) where
 t:Ty
 x:den D t
def Ty.leaf:Ty->Bool
 | .u _=>false
 |_=>true
structure US where
 D:Nat->Type
 sig:Nat->List Ty
 flat:(n:Nat)->D n->List (Lf D)
 At3:(n:Nat)->List (Lf D)->Option (D n)
 Acd:∀n x,(flat n x).map (·.t)=sig n
 Aa3:∀n l x,At3 n l=some x->flat n x=l
 Ani:∀n,∀t∈sig n,t.leaf=true
 Ar4:∀n,0<(sig n).length
section
variable (S:US)
def sz:Ty->Nat
 | .u n=>(S.sig n).length
 |_=>1
inductive F2{α β:Type}(R:α->β->Prop):List α->List β->Prop
 |nil:F2 R [] []
 |cons {a b as bs}:R a b->F2 R as bs->F2 R (a::as) (b::bs)
theorem F2.len{α β:Type}{R:α->β->Prop}{l:List α}{m:List β}(h:F2 R l m):l.length=m.length:=by
 induction h with
 |nil=>rfl
 |cons _ _ ih=>simp [ih]
theorem F2.mono{α β:Type}{R R':α->β->Prop}{l:List α}{m:List β}(h:F2 R l m)(f:∀a b,R a b->R' a b):F2 R' l m:=by
 induction h with
 |nil=>exact .nil
 |cons h _ ih=>exact .cons (f _ _ h) ih
variable {α β:Type}
theorem F2.mem{R:α->β->Prop}{l:List α}{m:List β}(h:F2 R l m):∀a∈l,∃b∈m,R a b:=by
 induction h with
 |nil=>intro a ha;cases ha
 |cons h _ ih=>
  intro a ha;rcases List.mem_cons.1 ha with rfl|ha
  .exact⟨_,by simp,h⟩
  .obtain⟨b,hb,hr⟩:=ih a ha;exact⟨b,by simp [hb],hr⟩
theorem F2.get{R:α->β->Prop}{l:List α}{m:List β}(h:F2 R l m):∀{i:Nat}{b:β},m[i]?=some b->∃a,l[i]?=some a/\R a b:=by
 induction h with
 |nil=>intro i b hb;simp at hb
 |cons h _ ih=>
  intro i b hb;cases i with
  |zero=>simp at hb;subst hb;exact⟨_,by simp,h⟩
  |succ i=>simp at hb;simpa using ih hb
theorem F2.get'{R:α->β->Prop}{l:List α}{m:List β}(h:F2 R l m):∀{i:Nat}{a:α},l[i]?=some a->∃b,m[i]?=some b/\R a b:=by
 induction h with
 |nil=>intro i b hb;simp at hb
 |cons h _ ih=>
  intro i b hb;cases i with
  |zero=>simp at hb;subst hb;exact⟨_,by simp,h⟩
  |succ i=>simp at hb;simpa using ih hb
theorem F2.take{R:α->β->Prop}{l:List α}{m:List β}(h:F2 R l m):∀n,F2 R (l.take n) (m.take n):=by
 induction h with
 |nil=>intro n;simp;exact .nil
 |cons h _ ih=>
  intro n;cases n with
  |zero=>exact .nil
  |succ n=>exact .cons h (ih n)
theorem F2.drop{R:α->β->Prop}{l:List α}{m:List β}(h:F2 R l m):∀n,F2 R (l.drop n) (m.drop n):=by
 induction h with
 |nil=>intro n;simp;exact .nil
 |cons h h2 ih=>
  intro n;cases n with
  |zero=>exact .cons h h2
  |succ n=>exact ih n
theorem F2.app{R:α->β->Prop}{l l':List α}{m m':List β}(h:F2 R l m)(h':F2 R l' m'):F2 R (l++l') (m++m'):=by
 induction h with
 |nil=>exact h'
 |cons h _ ih=>exact .cons h ih
def Af7(ru:(n:Nat)->Reg->World->Value->S.D n->Prop):(t:Ty)->Reg->World->Value->den S.D t->Prop
 | .int k,_,_,v,n=>v=.int k n/\InK k n
 | .bool,_,_,v,b=>v=.bool b
 | .str,_,_,v,s=>v=.string s/\s.size<=Vw
 | .ptr,_,_,v,p=>v=.pointer (p.map λb=>⟨b,0,none⟩)
 | .mref,_,_,v,p=>v=.map p
 | .sl e,I,w,v,xs=>∃a cap,v=.slice a xs.length cap/\xs.length<=cap/\cap<=Vw/\
  (xs=[]∨∃b off,a=some ⟨b,off,none⟩/\I b/\∀j(h:j<xs.length),∃v,Af7 ru e I w v xs[j]/\E3 w ⟨b,off+j*sz S e,none⟩ v)
 | .u n,I,w,v,x=>ru n I w v x
def Aeu:Nat->(n:Nat)->Reg->World->Value->S.D n->Prop
 |0=>λ_ _ _ _ _=>False
 |f+1=>λn I w v x=>∃cs:List Value,v=.agg ⟨cs⟩/\F2 (λc(l:Lf S.D)=>Af7 S (Aeu f) l.t I w c l.x) cs (S.flat n x)
theorem Ald{ru ru':(n:Nat)->Reg->World->Value->S.D n->Prop}(h:∀n I w v x,ru n I w v x->ru' n I w v x):∀(t:Ty)(I:Reg)(w:World)(v:Value)(x:den S.D t),Af7 S ru t I w v x->Af7 S ru' t I w v x
 | .int _,_,_,_,_,r=>r
 | .bool,_,_,_,_,r=>r
 | .str,_,_,_,_,r=>r
 | .ptr,_,_,_,_,r=>r
 | .mref,_,_,_,_,r=>r
 | .sl e,I,w,v,xs,⟨a,cap,h1,h2,h3,h4⟩=>⟨a,cap,h1,h2,h3,h4.imp id λ⟨b,off,ha,hb,he⟩=>⟨b,off,ha,hb,λj hj=>by obtain⟨v,hv,hp⟩:=he j hj;exact⟨v,Ald h e _ _ _ _ hv,hp⟩⟩⟩
 | .u n,I,w,v,x,r=>h n I w v x r
theorem Ajr:∀(f n:Nat)(I:Reg)(w:World)(v:Value)(x:S.D n),Aeu S f n I w v x->Aeu S (f+1) n I w v x
 |0,_,_,_,_,_,h=>h.elim
 |f+1,n,I,w,v,x,⟨cs,h1,h2⟩=>⟨cs,h1,h2.mono λc l r=>Ald S (Ajr f) _ _ _ _ _ r⟩
theorem A0s{f g:Nat}(hfg:f<=g)(n:Nat)(I:Reg)(w:World)(v:Value)(x:S.D n)(h:Aeu S f n I w v x):Aeu S g n I w v x:=by
 induction hfg with
 |refl=>exact h
 |step _ ih=>exact Ajr S _ _ _ _ _ _ ih
def rp(t:Ty)(I:Reg)(w:World)(v:Value)(x:den S.D t):Prop:=∃f,Af7 S (Aeu S f) t I w v x
theorem Ale{f g:Nat}(hfg:f<=g){t:Ty}{I:Reg}{w:World}{v:Value}{x:den S.D t}(h:Af7 S (Aeu S f) t I w v x):Af7 S (Aeu S g) t I w v x:=Ald S (A0s S hfg) _ _ _ _ _ h
variable {S}
theorem Akq{p:Nat->Nat->Prop}(hm:∀j f g,f<=g->p j f->p j g):∀n,(∀j,j<n->∃f,p j f)->∃f,∀j,j<n->p j f
 |0,_=>⟨0,λj h=>by omega⟩
 |n+1,h=>by
  obtain⟨f,hf⟩:=Akq hm n λj hj=>h j (by omega);obtain⟨g,hg⟩:=h n (by omega);refine⟨max f g,λj hj=>?_⟩;by_cases hjn:j=n
  .subst hjn;exact hm _ _ _ (Nat.le_max_right _ _) hg
  .exact hm _ _ _ (Nat.le_max_left _ _) (hf j (by omega))
variable {I:Reg} {w:World} {v:Value}
theorem Bq{k:IntKind}{n:Int}:rp S (.int k) I w v n↔v=.int k n/\InK k n:=⟨λ⟨_,h⟩=>h,λh=>⟨0,h⟩⟩
theorem Nt{b:Bool}:rp S .bool I w v b↔v=.bool b:=⟨λ⟨_,h⟩=>h,λh=>⟨0,h⟩⟩
theorem Ta{s:ByteArray}:rp S .str I w v s↔v=.string s/\s.size<=Vw:=⟨λ⟨_,h⟩=>h,λh=>⟨0,h⟩⟩
theorem Re{p:Option Nat}:rp S .ptr I w v p↔v=.pointer (p.map λb=>⟨b,0,none⟩):=⟨λ⟨_,h⟩=>h,λh=>⟨0,h⟩⟩
theorem Q0{p:Option Nat}:rp S .mref I w v p↔v=.map p:=⟨λ⟨_,h⟩=>h,λh=>⟨0,h⟩⟩
theorem Abg{e:Ty}{xs:List (den S.D e)}:rp S (.sl e) I w v xs↔∃a cap,v=.slice a xs.length cap/\xs.length<=cap/\cap<=Vw/\(xs=[]∨∃b off,a=some ⟨b,off,none⟩/\I b/\∀j(h:j<xs.length),∃v,rp S e I w v xs[j]/\E3 w ⟨b,off+j*sz S e,none⟩ v):=by
 constructor
 .rintro⟨f,a,cap,h1,h2,h3,h4⟩;refine⟨a,cap,h1,h2,h3,h4.imp id λ⟨b,off,ha,hb,he⟩=>⟨b,off,ha,hb,λj hj=>?_⟩⟩;obtain⟨v,hv,hp⟩:=he j hj;exact⟨v,⟨f,hv⟩,hp⟩
 .rintro⟨a,cap,h1,h2,h3,h4⟩;rcases h4 with h4|⟨b,off,ha,hb,he⟩
  .exact⟨0,a,cap,h1,h2,h3,.inl h4⟩
  .obtain⟨f,hf⟩:=Akq (p:=λj f=>∀hj:j<xs.length,∃v,Af7 S (Aeu S f) e I w v xs[j]/\E3 w ⟨b,off+j*sz S e,none⟩ v)
    (λj f g hfg h hj=>by obtain⟨v,h1,h2⟩:=h hj;exact⟨v,Ale S hfg h1,h2⟩) xs.length
    (λj hj=>by obtain⟨v,⟨f,h1⟩,h2⟩:=he j hj;exact⟨f,λ_=>⟨v,h1,h2⟩⟩)
   exact⟨f,a,cap,h1,h2,h3,.inr ⟨b,off,ha,hb,λj hj=>hf j hj hj⟩⟩
theorem Az4{cs:List Value}{ls:List (Lf S.D)}(h:F2 (λc(l:Lf S.D)=>rp S l.t I w c l.x) cs ls):∃f,F2 (λc(l:Lf S.D)=>Af7 S (Aeu S f) l.t I w c l.x) cs ls:=by
 induction h with
 |nil=>exact⟨0,.nil⟩
 |cons h _ ih=>
  obtain⟨f,hf⟩:=ih;obtain⟨g,hg⟩:=h;exact⟨max f g,.cons (Ale S (Nat.le_max_right _ _) hg) (hf.mono λc l r=>Ale S (Nat.le_max_left _ _) r)⟩
theorem Lc{n:Nat}{x:S.D n}:rp S (.u n) I w v x↔∃cs:List Value,v=.agg ⟨cs⟩/\F2 (λc(l:Lf S.D)=>rp S l.t I w c l.x) cs (S.flat n x):=by
 constructor
 .rintro⟨f,hf⟩;cases f with
  |zero=>exact hf.elim
  |succ f=>obtain⟨cs,h1,h2⟩:=hf;exact⟨cs,h1,h2.mono λc l r=>⟨f,r⟩⟩
 .rintro⟨cs,h1,h2⟩;obtain⟨f,hf⟩:=Az4 h2;exact⟨f+1,cs,h1,hf⟩
theorem Awf(t:Ty):0<sz S t:=by cases t<;>simp only[sz]<;>first|exact Nat.one_pos|exact S.Ar4 _
variable {t:Ty}
theorem Ph(ht:t.leaf=true){x:den S.D t}(h:rp S t I w v x):v.cells=#[v]/\v.oneCell'=true:=by
 cases t with
 |int k=>rw[(Bq.1 h).1];exact⟨rfl,rfl⟩
 |bool=>rw[Nt.1 h];exact⟨rfl,rfl⟩
 |str=>rw[(Ta.1 h).1];exact⟨rfl,rfl⟩
 |ptr=>rw[Re.1 h];exact⟨rfl,rfl⟩
 |mref=>rw[Q0.1 h];exact⟨rfl,rfl⟩
 |sl e=>obtain⟨a,cap,h,_⟩:=Abg.1 h;rw[h];exact⟨rfl,rfl⟩
 |u n=>simp [Ty.leaf]at ht
theorem X6{n:Nat}{x:S.D n}:∀l∈S.flat n x,l.t.leaf=true:=λl hl=>S.Ani n _ (by rw[<-S.Acd n x];exact List.mem_map_of_mem hl)
theorem Ano{x:den S.D t}(h:rp S t I w v x):v.cells.size=sz S t:=by
 cases t with
 |u n=>
  obtain⟨cs,rfl,h2⟩:=Lc.1 h;have:=h2.len;show cs.length=_;rw[this,sz,<-S.Acd n x,List.length_map]
 |_=>exact congrArg Array.size (Ph rfl h).1
theorem Ah7{cs:List Value}{ls:List (Lf S.D)}(h:F2 (λc(l:Lf S.D)=>rp S l.t I w c l.x) cs ls):(∀l∈ls,l.t.leaf=true)->∀c∈cs,c.oneCell'=true:=by
 induction h with
 |nil=>intro _ c hc;cases hc
 |cons h _ ih=>
  intro hl c hc;rcases List.mem_cons.1 hc with rfl|hc
  .exact(Ph (hl _ List.mem_cons_self) h).2
  .exact ih (λl h=>hl l (List.mem_cons_of_mem _ h)) c hc
theorem Adf{I I':Reg}{w w':World}(e:Ext I w I' w'){ru:(n:Nat)->Reg->World->Value->S.D n->Prop}(hu:∀n v x,ru n I w v x->ru n I' w' v x):∀(t:Ty)(v:Value)(x:den S.D t),Af7 S ru t I w v x->Af7 S ru t I' w' v x
 | .int _,_,_,r=>r
 | .bool,_,_,r=>r
 | .str,_,_,r=>r
 | .ptr,_,_,r=>r
 | .mref,_,_,r=>r
 | .sl t,v,xs,⟨a,cap,h1,h2,h3,h4⟩=>⟨a,cap,h1,h2,h3,h4.imp id λ⟨b,off,ha,hb,he⟩=>⟨b,off,ha,e.sub b hb,λj hj=>by obtain⟨v,hv,hp⟩:=he j hj;exact⟨v,Adf e hu t _ _ hv,E3.mono e hb hp⟩⟩⟩
 | .u n,v,x,r=>hu n v x r
theorem Ajs{I I':Reg}{w w':World}(e:Ext I w I' w'):∀(f n:Nat)(v:Value)(x:S.D n),Aeu S f n I w v x->Aeu S f n I' w' v x
 |0,_,_,_,h=>h.elim
 |f+1,_,_,_,⟨cs,h1,h2⟩=>⟨cs,h1,h2.mono λc l r=>Adf e (Ajs e f) _ _ _ r⟩
theorem Ig{I':Reg}{w':World}(e:Ext I w I' w'){x:den S.D t}(h:rp S t I w v x):rp S t I' w' v x:=by obtain⟨f,hf⟩:=h;exact⟨f,Adf e (Ajs e f) _ _ _ hf⟩
def isU:Ty->Bool
 | .u _=>true
 |_=>false
@[reducible] def RT(S:US)(t:Ty):Rep (den S.D t) where
 size:=sz S t
 agg:=isU t
 rep:=rp S t
 pos:=Awf t
 cells h:=Ano h
 form {I w v x} h:=by
  cases t with
  |u n=>obtain⟨cs,rfl,_⟩:=Lc.1 h;exact⟨_,rfl⟩
  |_=>exact(Ph rfl h).1
 one {I w v x} h:=by
  cases t with
  |u n=>
   obtain⟨cs,rfl,h2⟩:=Lc.1 h;exact Ah7 h2 X6
  |_=>rw[(Ph rfl h).1];intro c hc;simp at hc;subst hc;exact(Ph rfl h).2
 mono e h:=Ig e h
end
end
end Go.Y
