/-
  The BDD theory, part e: nodes that count; the nodes of a set of functions; a change of places under way. (Merged by program out of 9 texts.)
-/
import Derived.Test.YtcbkbpjlbmalmaaGreatDoorpaj
import Derived.Shelf.SlSortCmp.NoneTotal
namespace Go.Proofs.YtcbkbpjlbmalmaaGreatDoor
open Go Go.X Go.Y Go.RowKit
section
set_option maxRecDepth 100000
set_option maxHeartbeats 2000000
section
variable {P:Program} {φ:FK} {N:Nat} {k:List Item} {R:Qy->World->Prop} {f:Fr} {w:World} {ops:Array Oper} {S:World->Prop} {n:Nat} {l:Array Bool} {E:List Nat}
theorem Atf{i:Nat}{o:Oper}(hi:ops[i]?=some o)(hr:Region.ready .any ops l=[i])(h:WL P N ops (φ.at R) false (λf' w'=>S w'/\WG P φ N ops k R S n (l.setIfInBounds i true) f' w') [o] f w):WG P φ N ops k R S (n+1) l f w:=λa ha=>by refine⟨λh0=>absurd (hr.symm.trans h0) (by simp),λj hj=>?_⟩;rw[hr,List.mem_singleton]at hj;subst hj;exact Pn ha hi (λf' w' a' h1 h2=>⟨h2.1,h2.2 a' h1⟩) h
theorem A0d{i:Nat}{o:Oper}(hi:ops[i]?=some o)(hE:E.contains i=true)(hr:Region.ready .any ops l=[i])(h:WL P N ops (φ.at R) false (λf' w'=>S w'/\WG P φ N ops k R S n (l.setIfInBounds i true) f' w') [o] f w):WE P φ N ops k R S E (n+1) l f w:=λa ha=>by refine⟨λh0=>absurd (hr.symm.trans h0) (by simp),λj hj=>?_⟩;rw[hr,List.mem_singleton]at hj;subst hj;refine(Pn (ds:=φ.ds) ha hi (K':=λa' w'=>S w'/\WB P ops (φ.at R) (VG P φ N k R) S n (l.setIfInBounds j true) a' w') (λf' w' a' h1 h2=>⟨h2.1,h2.2 a' h1⟩) h).mono λa' w' h'=>?_;rw[if_pos hE];exact h'
theorem Awo(hr:Region.ready .any ops l=[])(h:WT P φ N k R f w):WG P φ N ops k R S 0 l f w:=λa ha=>⟨hr,rfl,f,ha,h⟩
end
structure ClW(W:World)(ab ao tb mb:Nat)(m:List (K2×Int)):Prop where
 box:W.cell? ⟨ab,ao,none⟩=some (.pointer (some ⟨tb,0,none⟩))
 tab:W.cell? ⟨tb,0,none⟩=some (.map (some mb))
 map:∃es cl,W.heap[mb]?=some (.map es cl)/\WN Y0 (.u 17) I6 (λ_=>False) W [(mb,.map es cl)] (.map (some mb)) m
variable {x:K2}
theorem Alg{I I':BY}{w w':World}{v:Value}(h:rp Y0.toUS (.u 17) I w v x):rp Y0.toUS (.u 17) I' w' v x:=by obtain⟨cs,rfl,hF⟩:=Hq.1 h;refine Hq.2 ⟨cs,rfl,?_⟩;cases hF with|cons a b=>cases b with|cons c d=>cases d;exact .cons (AX.2 (AX.1 a)) (.cons (AX.2 (AX.1 c)) .nil)
theorem ClW.BA{W W':World}{ab ao tb mb:Nat}{m:List (K2×Int)}(h:ClW W ab ao tb mb m)(e:∀b,b=ab∨b=tb∨b=mb->W'.heap[b]?=W.heap[b]?):ClW W' ab ao tb mb m:=by
 obtain⟨es,cl,h1,h2⟩:=h.map;refine⟨?_,?_,es,cl,?_,?_⟩
 .rw[cell?_of_heap (e ab (.inl rfl))];exact h.box
 .rw[cell?_of_heap (e tb (.inr (.inl rfl)))];exact h.tab
 .rw[e mb (.inr (.inr rfl))];exact h1
 .obtain⟨b,es',c,k1,k2,k3,k4⟩:=@C4.ex _ _ (RT Y0.toUS (.u 17)) (RT Y0.toUS I6) _ _ _ _ _ h2;exact @C4.mk _ _ (RT Y0.toUS (.u 17)) (RT Y0.toUS I6) _ _ _ _ _ ⟨b,es',c,k1,k2,k3,λj hj hj'=>⟨Alg (k4 j hj hj').1,AX.2 (AX.1 (k4 j hj hj').2)⟩⟩ (@C4.bo _ _ (RT Y0.toUS (.u 17)) (RT Y0.toUS I6) _ _ _ _ _ h2)
def ZV(m:List (K2×Int))(x:K2):Int:=(Ae m x).getD 0
def MK(x:K2):List Value:=[.int .i64 x.a0,.int .i64 x.a1]
def okK(x:K2):Prop:=Ag .i64 x.a0/\Ag .i64 x.a1
theorem Af5{I:BY}{w:World}(h:okK x):rp Y0.toUS (.u 17) I w (.agg ⟨MK x⟩) x:=Hq.2 ⟨_,rfl,.cons (AX.2 ⟨rfl,h.1⟩) (.cons (AX.2 ⟨rfl,h.2⟩) .nil)⟩
def cfK(m:List (K2×Int))(x y:K2):Int:=orI λj=>match j with
 |0=>Io (ZV m x) (ZV m y)
 |1=>Io x.a0 y.a0
 |_=>Io x.a1 y.a1
theorem Wu{x y:Int}:Ag .i64 (Io x y):=by unfold Io;split<;>(try split)<;>exact AG.2 (by omega)
theorem Ig{P:Program}{f:Fr}{w:World}{t ty:TypeId}{x:Operand}{a:Addr}{v:Value}(ht:Pg P t false 1=true)(hx:ev f x=.pointer (some a))(hc:w.cell? a=some v)(dst:Option Tmp)(pos:String)(af:Array Edge):(execOp (ev f) ⟨dst,.load t x,ty,pos,af,none⟩).run P w=.ok (.value v) w:=by simp [execOp,Instr.loadAt,hx,Instr.sureAddr,loadVar,(GH (w:=w) ht).1,hc]
theorem Ad6{q:FuncId}{f:Fr}{w:World}{a b:Operand}{x y:Value}{at_:Array TypeId}(hc:CU Y0.P q=true)(ha:ev f a=x)(hb:ev f b=y)(dst:Option Tmp)(ty:TypeId)(pos:String)(af:Array Edge):(execOp (ev f) ⟨dst,.call ⟨.value (.func q),#[a,b],at_⟩,ty,pos,af,none⟩).run Y0.P w=.ok (.enter q #[x,y]) w:=by rw[Tg (Y:=Y0) hc];simp [ha,hb]
theorem Ap3{f:Fr}{w:World}{a b c:Operand}{p q r:Int}(ha:ev f a=.int .i64 p)(hb:ev f b=.int .i64 q)(hc:ev f c=.int .i64 r)(hp:Ag .i64 p)(hq:Ag .i64 q)(hr:Ag .i64 r)(dst:Option Tmp)(ty:TypeId)(pos:String)(af:Array Edge):(execOp (ev f) ⟨dst,.buildSlice 23 3 #[(0,a),(1,b),(2,c)],ty,pos,af,none⟩).run Y0.P w=.ok (.value (.slice (some ⟨w.heap.size,0,none⟩) 3 3)) (w.alloc (.cells #[.int .i64 p,.int .i64 q,.int .i64 r] 3)):=by
 have hs23:WH Y0.P 23 3 1 8=true:=by kernel_rfl
 letI:AT (den Y0.D I6):=RT Y0.toUS I6
 have hrun:=KM (P:=Y0.P) (I:=λ_=>False) (w:=w) (α:=den Y0.D I6) (t:=23) (e:=3) (nb:=8) (ps:=#[(0,.int .i64 p),(1,.int .i64 q),(2,.int .i64 r)]) (vs:=[.int .i64 p,.int .i64 q,.int .i64 r]) (xs:=[p,q,r]) (EO hs23) rfl rfl (λj h h'=>by
  match j,h with
  |0,_=>exact AX.2 ⟨rfl,hp⟩
  |1,_=>exact AX.2 ⟨rfl,hq⟩
  |2,_=>exact AX.2 ⟨rfl,hr⟩) (by show 3*1<=16777216;decide)
 have hps:((#[(0,a),(1,b),(2,c)]:Array (Nat×Operand)).map λ(x:Nat×Operand)=>match x with|(i,x)=>(i,ev f x))=#[(0,.int .i64 p),(1,.int .i64 q),(2,.int .i64 r)]:=by simp [ha,hb,hc]
 simp only[execOp,Sem.run_bind];rw[hps];have hl:([p,q,r]:List (den Y0.D I6)).length=3:=rfl;rw[hl]at hrun;rw[hrun];rfl
theorem Ajo{W:World}{ab ao tb mb:Nat}{m:List (K2×Int)}{y:K2}(hx:okK x)(hy:okK y)(hW:ClW W ab ao tb mb m):Calls Y0.P 270 #[.agg ⟨MK x⟩,.agg ⟨MK y⟩,.pointer (some ⟨ab,ao,none⟩)] W λe w'=>e=.returned (.int .i64 (cfK m x y))/\∃q os',w'=Sort.grow (W.drewN q) os':=by
 refine Il (F:=Tryz.f270) (N:=31) (vs:=[.agg ⟨MK x⟩,.agg ⟨MK y⟩,.pointer (some ⟨ab,ao,none⟩)]) (by kernel_rfl) rfl rfl (by simp) ?_;have t201:Pg Y0.P 201 false 1=true:=by kernel_rfl
 have t248:Pg Y0.P 248 false 1=true:=by kernel_rfl
 have t140:Pg Y0.P 140 false 1=true:=by kernel_rfl
 have t288:Pg Y0.P 288 true 2=true:=by kernel_rfl
 have fl250:flB Y0.P 250 0 0=true:=by kernel_rfl
 have hm:QP Y0.P 248=some (288,3):=by kernel_rfl
 have hkm:Y0.km 288 (.u 17)=true:=by kernel_rfl
 have hT:=Zu (e:=.int .i64) hm hkm;have und288:Y0.P.underlying 288=some (.array 2 140):=by kernel_rfl
 have sz140:∀w,(Go.sizeOf 140).run Y0.P w=.ok 1 w:=λw=>(GH (w:=w) t140).2;generalize hf0:WI [.agg ⟨MK x⟩,.agg ⟨MK y⟩,.pointer (some ⟨ab,ao,none⟩)]=f0;have f00:f0 0=.agg ⟨MK x⟩:=by rw[<-hf0];rfl
 have f01:f0 1=.agg ⟨MK y⟩:=by rw[<-hf0];rfl
 have f02:f0 2=.pointer (some ⟨ab,ao,none⟩):=by rw[<-hf0];rfl
 clear hf0;let bx:Obj:=.cells ⟨MK x⟩ 288 (0,0);let b_y:Obj:=.cells ⟨MK y⟩ 288 (0,0);refine D8 (CK (Ay (w':=W.alloc bx) (v:=.pointer (some ⟨W.heap.size,0,none⟩)) ?_ (Ay (w':=(W.alloc bx).alloc b_y) (v:=.pointer (some ⟨W.heap.size+1,0,none⟩)) ?_ (Ay (v:=.int .i64 0) (Nn rfl _ _ _ _) ?_))))
 .have e0:ev f0 (.tmp 0)=.agg ⟨MK x⟩:=f00;simp [execOp,Instr.box,newVar,newRow,e0];rfl
 .have e1:ev (put 31 f0 (some 3) (.pointer (some ⟨W.heap.size,0,none⟩))) (.tmp 1)=.agg ⟨MK y⟩:=by simp [ev,put,DO,f01]
  simp [execOp,Instr.box,newVar,newRow,e1];rfl
 generalize hf1:put 31 (put 31 (put 31 f0 (some 3) (.pointer (some ⟨W.heap.size,0,none⟩))) (some 4) (.pointer (some ⟨W.heap.size+1,0,none⟩))) (some 5) (.int .i64 0)=f1;have f12:f1 2=.pointer (some ⟨ab,ao,none⟩):=by rw[<-hf1];simp [put,DO,f02]
 have f13:f1 3=.pointer (some ⟨W.heap.size,0,none⟩):=by rw[<-hf1];simp [put,DO]
 have f14:f1 4=.pointer (some ⟨W.heap.size+1,0,none⟩):=by rw[<-hf1];simp [put,DO]
 clear hf1;let wd:World:={(W.alloc bx).alloc b_y with drawn:=((W.alloc bx).alloc b_y).drawn+1}
 have hwd:wd=Sort.grow (W.drewN 1) #[bx,b_y]:=by show ({(W.alloc bx).alloc b_y with drawn:=((W.alloc bx).alloc b_y).drawn+1}:World)=_;rw[Sort.alloc_eq_grow,Sort.alloc_eq_grow,Sort.grow_grow];rfl
 let S:World->Prop:=λw=>∃os,w=Sort.grow wd os;have hS:S wd:=⟨#[],by simp⟩
 have KR:∀w,S w->∀b,b<W.heap.size->w.heap[b]?=W.heap[b]?:=λw⟨os,e⟩b hb=>by rw[e,hwd,Sort.grow_grow];show (W.heap++_)[b]?=_;rw[Array.getElem?_append_left hb]
 have lt:∀{b:Nat}{o:Obj},W.heap[b]?=some o->b<W.heap.size:=λh=>(Array.getElem?_eq_some_iff.1 h).1;have ltc:∀{b o:Nat}{v:Value},W.cell? ⟨b,o,none⟩=some v->b<W.heap.size:=λ{b o v}h=>by
  rcases Nat.lt_or_ge b W.heap.size with h1|h1
  .exact h1
  .simp [World.cell?,Array.getElem?_eq_none h1]at h
 have cl:∀w,S w->ClW w ab ao tb mb m:=λw hw=>hW.BA λb hb=>KR w hw b (by
  obtain⟨es,c,h1,_⟩:=hW.map;rcases hb with rfl|rfl|rfl
  .exact ltc hW.box
  .exact ltc hW.tab
  .exact lt h1)
 have hbx:∀w,S w->w.heap[W.heap.size]?=some bx:=λw⟨os,e⟩=>by rw[e,hwd,Sort.grow_grow];show (W.heap++_)[W.heap.size]?=_;simp [Array.getElem?_append]
 have hby:∀w,S w->w.heap[W.heap.size+1]?=some b_y:=λw⟨os,e⟩=>by rw[e,hwd,Sort.grow_grow];show (W.heap++_)[W.heap.size+1]?=_;simp [Array.getElem?_append]
 have look:∀(z:K2),okK z->∀w,S w->∀(f:Fr)(a b:Operand)(dst:Option Tmp)(ty:TypeId)(pos:String)(af:Array Edge),ev f a=.map (some mb)->ev f b=.agg ⟨MK z⟩->(execOp (ev f) ⟨dst,.lookup 248 a b false,ty,pos,af,none⟩).run Y0.P w=.ok (.value (.int .i64 (ZV m z))) w:=λz hz w hw f a b dst ty pos af ha hb=>by
  obtain⟨es,c,h1,h2⟩:=(cl w hw).map;have hs:St (λ_=>False) w ([(mb,.map es c)]++[]):=⟨λ_ h=>h.elim,λp hp=>by simp at hp;subst hp;exact⟨h1,λh=>h⟩,by simp⟩
  refine Ie (P:=Y0.P) (f:=f) (w:=w) (w':=w) (v:=.int .i64 (ZV m z)) (ty:=ty) (λpos af K hk=>?_) dst pos af;have hzr:(zeroValue 3).run Y0.P w=.ok (.int .i64 0) w:=by
   have:zrB Y0.P 3 (.int .i64 0):=by unfold zrB;kernel_rfl
   unfold zrB at this;cases hi:Y0.P.info? 3 with
   |none=>simp [hi]at this
   |some i=>simp only[hi,Option.bind_some]at this;simp [zeroValue,typeInfo,hi,this]
  letI:AT (den Y0.D (.u 17)):=RT Y0.toUS (.u 17)
  letI:AT (den Y0.D I6):=RT Y0.toUS I6
  letI:DecidableEq (den Y0.D (.u 17)):=Hw Y0 (.u 17)
  refine Vu (P:=Y0.P) (κ:=den Y0.D (.u 17)) (β:=den Y0.D I6) (k:=z) (zd:=(0:Int)) hT h2 hs ha hb (Af5 hz) hzr (AX.2 ⟨rfl,AG.2 (by omega)⟩) λu hu=>?_;have hu':=(AX.1 (show rp Y0.toUS I6 _ _ u _ from hu)).1;rw[hu'];exact hk
 have ink:∀z,okK z->Ag .i64 (ZV m z):=λz hz=>by
  obtain⟨es,c,h1,h2⟩:=(cl wd hS).map;obtain⟨b,es',c',k1,k2,k3,k4⟩:=@C4.ex _ _ (RT Y0.toUS (.u 17)) (RT Y0.toUS I6) _ _ _ _ _ h2;unfold ZV;cases hg:Ae m z with
  |none=>exact AG.2 (by simp)
  |some v=>
   rw[Option.getD_some];have:∃j,∃(hj:j<m.length),m[j].2=v:=by
    rw[RR]at hg;cases hi:(m.map (·.1)).findIdx? (· == z) with
    |none=>rw[hi]at hg;cases hg
    |some i=>
     rw[hi,Option.bind_some]at hg;cases hm:m[i]? with
     |none=>rw[hm]at hg;cases hg
     |some p=>
      rw[hm]at hg;obtain⟨hj,e⟩:=List.getElem?_eq_some_iff.1 hm;exact⟨i,hj,by rw[e];simpa using hg⟩
   obtain⟨j,hj,e⟩:=this;have:=AX.1 (k4 j (by rw[k3];exact hj) hj).2;rw[<-e];exact this.2
 have arr:∀(b j:Nat)(w:World)(f:Fr)(a:Operand)(dst:Option Tmp)(ty:TypeId)(pos:String)(af:Array Edge),j<2->ev f a=.pointer (some ⟨b,0,none⟩)->(execOp (ev f) ⟨dst,.indexAddr 288 a (.const (.int .i64 (j:Int))),ty,pos,af,none⟩).run Y0.P w=.ok (.value (.pointer (some ⟨b,j,none⟩))) w:=λb j w f a dst ty pos af hj ha=>by
  have h1:(0:Int)<=j/\(j:Int)<(2:Nat):=by omega
  have ec:ev f (.const (.int .i64 (j:Int)))=.int .i64 (j:Int):=rfl;simp [execOp,Instr.indexAt,ha,ec,asIntOf,run_underlying und288,Instr.sureAddr,sz140,DM];omega
 refine D8 (Afq (m:=26) S (by kernel_rfl) rfl rfl (ZD [23,24,25] hS ?_));refine Mj (i:=0) (d:=6) rfl rfl rfl (by kernel_rfl) rfl hS (λw hw=>Ay (v:=.pointer (some ⟨tb,0,none⟩)) (Ig t201 (a:=⟨ab,ao,none⟩) (by simp [ev,put,DO,f12,f13,f14]) (cl w hw).box _ _ _) ⟨rfl,rfl⟩) ?_;refine Mj (i:=1) (d:=7) rfl rfl rfl (by kernel_rfl) rfl hS (λw hw=>QG (a:=⟨tb,0,none⟩) (by simp [ev,put,DO,f12,f13,f14]) ⟨rfl,rfl⟩) ?_;refine Mj (i:=2) (d:=8) rfl rfl rfl (by kernel_rfl) rfl hS (λw hw=>Vv fl250 (b:=tb) (o:=0) (by simp [ev,put,DO,f12,f13,f14]) ⟨rfl,rfl⟩) ?_;refine Mj (i:=3) (d:=9) rfl rfl rfl (by kernel_rfl) rfl hS (λw hw=>Ay (v:=.map (some mb)) (Ig t248 (a:=⟨tb,0,none⟩) (by simp [ev,put,DO,f12,f13,f14]) (cl w hw).tab _ _ _) ⟨rfl,rfl⟩) ?_;refine Mj (i:=4) (d:=10) rfl rfl rfl (by kernel_rfl) rfl hS (λw hw=>Ay (v:=.agg ⟨MK x⟩) (Ie (λpos af K hk=>RJ (n:=2) (I:=λ_=>False) (T:=[]) t288 (b:=W.heap.size) (o:=0) (cs:=⟨MK x⟩) ⟨λ_ h=>h.elim,λp hp=>by simp at hp;subst hp;exact⟨hbx w hw,λh=>h⟩,by simp⟩ (by simp [ev,put,DO,f12,f13,f14]) rfl rfl hk) _ _ _) ⟨rfl,rfl⟩) ?_;refine Mj (i:=5) (d:=11) rfl rfl rfl (by kernel_rfl) rfl hS (λw hw=>Ay (v:=.int .i64 (ZV m x)) (look x hx w hw _ _ _ _ _ _ _ (by simp [ev,put,DO,f12,f13,f14]) (by simp [ev,put,DO,f12,f13,f14])) ⟨rfl,rfl⟩) ?_;refine Mj (i:=6) (d:=12) rfl rfl rfl (by kernel_rfl) rfl hS (λw hw=>Ay (v:=.pointer (some ⟨tb,0,none⟩)) (Ig t201 (a:=⟨ab,ao,none⟩) (by simp [ev,put,DO,f12,f13,f14]) (cl w hw).box _ _ _) ⟨rfl,rfl⟩) ?_;refine Mj (i:=7) (d:=13) rfl rfl rfl (by kernel_rfl) rfl hS (λw hw=>QG (a:=⟨tb,0,none⟩) (by simp [ev,put,DO,f12,f13,f14]) ⟨rfl,rfl⟩) ?_;refine Mj (i:=8) (d:=14) rfl rfl rfl (by kernel_rfl) rfl hS (λw hw=>Vv fl250 (b:=tb) (o:=0) (by simp [ev,put,DO,f12,f13,f14]) ⟨rfl,rfl⟩) ?_;refine Mj (i:=9) (d:=15) rfl rfl rfl (by kernel_rfl) rfl hS (λw hw=>Ay (v:=.map (some mb)) (Ig t248 (a:=⟨tb,0,none⟩) (by simp [ev,put,DO,f12,f13,f14]) (cl w hw).tab _ _ _) ⟨rfl,rfl⟩) ?_;refine Mj (i:=10) (d:=16) rfl rfl rfl (by kernel_rfl) rfl hS (λw hw=>Ay (v:=.agg ⟨MK y⟩) (Ie (λpos af K hk=>RJ (n:=2) (I:=λ_=>False) (T:=[]) t288 (b:=W.heap.size+1) (o:=0) (cs:=⟨MK y⟩) ⟨λ_ h=>h.elim,λp hp=>by simp at hp;subst hp;exact⟨hby w hw,λh=>h⟩,by simp⟩ (by simp [ev,put,DO,f12,f13,f14]) rfl rfl hk) _ _ _) ⟨rfl,rfl⟩) ?_;refine Mj (i:=11) (d:=17) rfl rfl rfl (by kernel_rfl) rfl hS (λw hw=>Ay (v:=.int .i64 (ZV m y)) (look y hy w hw _ _ _ _ _ _ _ (by simp [ev,put,DO,f12,f13,f14]) (by simp [ev,put,DO,f12,f13,f14])) ⟨rfl,rfl⟩) ?_;refine Aha (i:=12) (d:=18) (v:=.int .i64 (Io (ZV m x) (ZV m y))) rfl rfl (by kernel_rfl) hS rfl (λw hw=>.inr ⟨272,#[.int .i64 (ZV m x),.int .i64 (ZV m y)],?_,Ajn _ _ (ink x hx) (ink y hy) w⟩) ?_
 .have hcan:CU Y0.P 272=true:=by kernel_rfl
  exact Ad6 hcan (by simp [ev,put,DO,f12,f13,f14]) (by simp [ev,put,DO,f12,f13,f14]) _ _ _ _
 refine Mj (i:=13) (d:=19) rfl rfl rfl (by kernel_rfl) rfl hS (λw hw=>Ay (v:=.pointer (some ⟨W.heap.size,0,none⟩)) (arr (W.heap.size) 0 w _ _ _ _ _ _ (by decide) (by simp [ev,put,DO,f12,f13,f14])) ⟨rfl,rfl⟩) ?_;refine Mj (i:=14) (d:=20) rfl rfl rfl (by kernel_rfl) rfl hS (λw hw=>Ay (v:=.int .i64 x.a0) (Ig t140 (a:=⟨W.heap.size,0,none⟩) (by simp [ev,put,DO,f12,f13,f14]) (by rw[Bp (hbx w hw)];rfl) _ _ _) ⟨rfl,rfl⟩) ?_;refine Mj (i:=15) (d:=21) rfl rfl rfl (by kernel_rfl) rfl hS (λw hw=>Ay (v:=.pointer (some ⟨W.heap.size+1,0,none⟩)) (arr (W.heap.size+1) 0 w _ _ _ _ _ _ (by decide) (by simp [ev,put,DO,f12,f13,f14])) ⟨rfl,rfl⟩) ?_;refine Mj (i:=16) (d:=22) rfl rfl rfl (by kernel_rfl) rfl hS (λw hw=>Ay (v:=.int .i64 y.a0) (Ig t140 (a:=⟨W.heap.size+1,0,none⟩) (by simp [ev,put,DO,f12,f13,f14]) (by rw[Bp (hby w hw)];rfl) _ _ _) ⟨rfl,rfl⟩) ?_;refine Aha (i:=17) (d:=23) (v:=.int .i64 (Io (x.a0) (y.a0))) rfl rfl (by kernel_rfl) hS rfl (λw hw=>.inr ⟨273,#[.int .i64 (x.a0),.int .i64 (y.a0)],?_,Wv _ _ (hx.1) (hy.1) w⟩) ?_
 .have hcan:CU Y0.P 273=true:=by kernel_rfl
  exact Ad6 hcan (by simp [ev,put,DO,f12,f13,f14]) (by simp [ev,put,DO,f12,f13,f14]) _ _ _ _
 refine Mj (i:=18) (d:=24) rfl rfl rfl (by kernel_rfl) rfl hS (λw hw=>Ay (v:=.pointer (some ⟨W.heap.size,1,none⟩)) (arr (W.heap.size) 1 w _ _ _ _ _ _ (by decide) (by simp [ev,put,DO,f12,f13,f14])) ⟨rfl,rfl⟩) ?_;refine Mj (i:=19) (d:=25) rfl rfl rfl (by kernel_rfl) rfl hS (λw hw=>Ay (v:=.int .i64 x.a1) (Ig t140 (a:=⟨W.heap.size,1,none⟩) (by simp [ev,put,DO,f12,f13,f14]) (by rw[Bp (hbx w hw)];rfl) _ _ _) ⟨rfl,rfl⟩) ?_;refine Mj (i:=20) (d:=26) rfl rfl rfl (by kernel_rfl) rfl hS (λw hw=>Ay (v:=.pointer (some ⟨W.heap.size+1,1,none⟩)) (arr (W.heap.size+1) 1 w _ _ _ _ _ _ (by decide) (by simp [ev,put,DO,f12,f13,f14])) ⟨rfl,rfl⟩) ?_;refine Mj (i:=21) (d:=27) rfl rfl rfl (by kernel_rfl) rfl hS (λw hw=>Ay (v:=.int .i64 y.a1) (Ig t140 (a:=⟨W.heap.size+1,1,none⟩) (by simp [ev,put,DO,f12,f13,f14]) (by rw[Bp (hby w hw)];rfl) _ _ _) ⟨rfl,rfl⟩) ?_;refine Aha (i:=22) (d:=28) (v:=.int .i64 (Io (x.a1) (y.a1))) rfl rfl (by kernel_rfl) hS rfl (λw hw=>.inr ⟨273,#[.int .i64 (x.a1),.int .i64 (y.a1)],?_,Wv _ _ (hx.2) (hy.2) w⟩) ?_
 .have hcan:CU Y0.P 273=true:=by kernel_rfl
  exact Ad6 hcan (by simp [ev,put,DO,f12,f13,f14]) (by simp [ev,put,DO,f12,f13,f14]) _ _ _ _
 have hcan271:CU Y0.P 271=true:=by kernel_rfl
 have hs23:WH Y0.P 23 3 1 8=true:=by kernel_rfl
 let lv:Nat->Int:=λj=>match j with
  |0=>Io (ZV m x) (ZV m y)
  |1=>Io x.a0 y.a0
  |_=>Io x.a1 y.a1
 let row:Array Value:=#[.int .i64 (lv 0),.int .i64 (lv 1),.int .i64 (lv 2)];refine A0d (i:=23) rfl rfl (by kernel_rfl) (Ay (v:=.slice (some ⟨wd.heap.size,0,none⟩) 3 3) (w':=wd.alloc (.cells row 3)) ?_ ⟨⟨#[.cells row 3 (0,0)],Sort.alloc_eq_grow _ _⟩,?_⟩)
 .exact Ap3 (by simp [ev,put,DO]) (by simp [ev,put,DO]) (by simp [ev,put,DO]) Wu Wu Wu _ _ _ _
 have hrow:(wd.alloc (.cells row 3)).heap[wd.heap.size]?=some (.cells row 3 (0,0)):=heap_alloc_new _ _;have hS2:S (wd.alloc (.cells row 3)):=⟨#[.cells row 3 (0,0)],Sort.alloc_eq_grow _ _⟩
 refine Atf (i:=24) rfl (by kernel_rfl) (Vx (vs:=[.slice (some ⟨wd.heap.size,0,none⟩) 3 3]) hcan271 (by simp [ev,put,DO]) (Calls.mono (Al0 (l:=lv) hrow λj hj=>?_) ?_))
 .match j,hj with
  |0,_|1,_|2,_=>rfl
 rintro e w' ⟨rfl,rfl⟩;refine⟨hS2,?_⟩;refine Atf (i:=25) rfl (by kernel_rfl) (Ay (v:=.int .i64 (orI lv)) (Nn (by simp [ev,put,DO]) _ _ _ _) ⟨hS2,?_⟩);refine Awo (by kernel_rfl) (MW ⟨.int .i64 (orI lv),λa ha=>?_,rfl,1,#[bx,b_y,.cells row 3 (0,0)],?_⟩)
 .refine Gx (vs:=[.int .i64 (orI lv)]) ?_;have hR:Tryz.f270.results.toList=[.tmp 5]:=rfl;have h4:=ha.2 5;rw[Array.getD_eq_getD_getElem?]at h4;rw[hR];have h5:(a[5]?).getD undef=.int .i64 (orI lv):=by rw[h4];simp [put,DO]
  simp [List.mapM_cons,PU,h5]
 .rw[Sort.alloc_eq_grow,hwd,Sort.grow_grow];rfl
end
section
set_option maxRecDepth 100000
set_option maxHeartbeats 1000000
abbrev KS:Type:={x:K2 // okK x}
instance:Inhabited KS:=⟨⟨⟨0,0⟩,AG.2 (by show _<=(0:Int)/\(0:Int)<=_;omega),AG.2 (by show _<=(0:Int)/\(0:Int)<=_;omega)⟩⟩
def encS(x:KS):List Value:=MK x.1
def cfS(m:List (K2×Int))(x y:KS):Int:=cfK m x.1 y.1
theorem ltS(m:List (K2×Int))(x y:KS):Go.Proofs.ltOf (cfS m) x y=decide (ZV m x.1<ZV m y.1∨ZV m x.1=ZV m y.1/\(x.1.a0<y.1.a0∨x.1.a0=y.1.a0/\x.1.a1<y.1.a1)):=by
 unfold Go.Proofs.ltOf cfS cfK orI Io;simp only;repeat' split
 all_goals (refine decide_eq_decide.2 ?_;omega)
theorem A18(m:List (K2×Int)):Sort.SWO (Go.Proofs.ltOf (cfS m)) where
 irrefl x:=by rw[ltS];simp
 trans x y z h1 h2:=by rw[ltS]at *;simp only[decide_eq_true_eq]at *;omega
 ntrans x y z h1 h2:=by rw[ltS]at *;simp only[decide_eq_false_iff_not]at *;omega
theorem Ak4{I:BY}{w:World}{T:Bh}(os:Array Obj)(h:St I w T):Ext I w I (Sort.grow w os)/\St I (Sort.grow w os) T:=by
 have hlt:∀b,b<w.heap.size->(Sort.grow w os).heap[b]?=w.heap[b]?:=λb hb=>by show (w.heap++os)[b]?=_;rw[Array.getElem?_append_left hb]
 refine⟨⟨rfl,rfl,rfl,by simp,λ_ h=>h,λb hb=>hlt b (h.imm b hb)⟩,λb hb=>?_,λp hp=>⟨?_,(h.own p hp).2⟩,h.nodup⟩
 .have:=h.imm b hb;simp;omega
 .have:=(h.own p hp).1;rw[hlt p.1 (Array.getElem?_eq_some_iff.1 this).1];exact this
theorem Adz{I:BY}{W:World}{A T:Bh}{v:Value}{xs:List K2}{ab ao tb mb:Nat}{m:List (K2×Int)}(ho:ND Y0 (.u 17) I W A v xs)(hs:St I W (A++T))(hW:ClW W ab ao tb mb m)(hne:∀p∈A,p.1≠ab/\p.1≠tb/\p.1≠mb)(hmax:xs.length<4611686018427387904):Calls Y0.P 269 #[v,.func (.func 270) #[] #[.pointer (some ⟨ab,ao,none⟩)]] W λe w'=>e=.returned (.tuple #[])/\∃xs' A',xs'.Perm xs/\Ext I W I w'/\St I w' (A'++T)/\ND Y0 (.u 17) I w' A' v xs':=by
 rcases @Bw.ex _ (RT Y0.toUS (.u 17)) _ _ _ _ _ ho with ⟨rfl,rfl,rfl⟩|⟨b,arr,cap,e0,off,rfl,rfl,h3,h4,h5,h6⟩
 .have key:=Go.Proofs.AnyF.slices_SortFunc_none (P:=Y0.P) {Aao with} none 0 (.func (.func 270) #[] #[.pointer (some ⟨ab,ao,none⟩)]) W;change Calls Y0.P 269 _ _ _ at key;refine Calls.mono key λe w'⟨he,hw⟩=>⟨he,[],[],.refl _,?_⟩
  subst hw;exact⟨Ext.refl _ _,hs,ho⟩
 .have hok:∀x∈xs,okK x:=λx hx=>by obtain⟨j,hj,rfl⟩:=List.mem_iff_getElem.1 hx;obtain⟨u,hu,_⟩:=h6 j hj;obtain⟨cs,rfl,hF⟩:=Hq.1 (show rp Y0.toUS (.u 17) _ _ u _ from hu);cases hF with|cons a c=>cases c with|cons d f=>exact⟨(AX.1 a).2,(AX.1 d).2⟩
  obtain⟨ys,hys⟩:∃ys:List KS,ys.map (·.1)=xs:=⟨xs.attach.map λx=>⟨x.1,hok x.1 x.2⟩,by simp⟩
  subst hys;let d:Array KS:=⟨ys⟩
  letI:AT (den Y0.D (.u 17)):=RT Y0.toUS (.u 17)
  have hsz:AT.size (den Y0.D (.u 17))=2:=rfl;have hlen:(ys.map (·.1)).length=ys.length:=by simp
  replace h3:ys.length<=cap:=hlen▸h3;have cell:∀j(hj:j<ys.length)(i:Nat)(hi:i<2),arr[off+(j*2+i)]?=some ((encS ys[j])[i]!):=λj hj i hi=>by
   obtain⟨u,hu,hc⟩:=h6 j (Nat.lt_of_lt_of_eq hj hlen.symm);have hu':rp Y0.toUS (.u 17) I W u ys[j].1:=by
    have e:(ys.map (·.1))[j]'(Nat.lt_of_lt_of_eq hj hlen.symm)=ys[j].1:=by simp
    rw[<-e];exact hu
   obtain⟨cs,rfl,hF⟩:=Hq.1 hu';have hcs:cs=encS ys[j]:=by cases hF with|cons a c=>cases c with|cons d f=>cases f;rw[(AX.1 a).1,(AX.1 d).1];rfl
   subst hcs;have:=hc i (by show i<(encS ys[j]).length;exact hi);rw[hsz]at this;refine(show arr[off+(j*2+i)]?=_ from this).trans ?_;match i,hi with
   |0,_|1,_=>rfl
  have hb:=hs.heap;have hblk:b<W.heap.size:=(Array.getElem?_eq_some_iff.1 hb).1;have hH:Go.Sort.HoldsK encS 2 W b off d:=by
   intro t ht;have ht':t<ys.length*2:=by have:=ht;rw[Go.Sort.size_flatK]at this;exact this
   refine⟨?_,by simp [World.frozen?,hb]⟩;rw[Bp hb,id,Go.Sort.get_flatK _ _ _ _ (show t<d.size*2 from ht')];have h1:t/2<ys.length:=by omega
   have h2:=cell (t/2) h1 (t%2) (by omega);have e1:t/2*2+t%2=t:=by omega
   rw[e1]at h2;rw[h2];have e2:d[t/2]! = ys[t/2]:=by rw[getElem!_pos d (t/2) h1];rfl
   rw[e2]
  obtain⟨n1,n2,n3⟩:=hne _ (List.mem_singleton.2 rfl);have ltc:∀{b o:Nat}{v:Value},W.cell? ⟨b,o,none⟩=some v->b<W.heap.size:=λ{b o v}h=>by
   rcases Nat.lt_or_ge b W.heap.size with h1|h1
   .exact h1
   .simp [World.cell?,Array.getElem?_eq_none h1]at h
  have oth:∀(n:Nat)(dk:Array KS)(os:Array Obj)(c:Nat),c<W.heap.size->c≠b->(Go.Proofs.sortWorldK encS 2 W b off n dk os).heap[c]?=W.heap[c]?:=λn dk os c hc hcb=>by show ((W.heap.modify b _)++os)[c]?=_;rw[Array.getElem?_append_left (by simpa using hc),Array.getElem?_modify,if_neg (Ne.symm hcb)]
  have hcmp:Go.Proofs.CmpLays Y0.P 270 #[.pointer (some ⟨ab,ao,none⟩)] encS 2 (cfS m) b off d.size W:=by
   intro n os dk hdk x y;have hW':ClW (Go.Proofs.sortWorldK encS 2 W b off n dk os) ab ao tb mb m:=hW.BA λc hc=>by
    obtain⟨es,cl,h1,_⟩:=hW.map;rcases hc with rfl|rfl|rfl
    .exact oth n dk os _ (ltc hW.box) (Ne.symm n1)
    .exact oth n dk os _ (ltc hW.tab) (Ne.symm n2)
    .exact oth n dk os _ (Array.getElem?_eq_some_iff.1 h1).1 (Ne.symm n3)
   exact Ajo x.2 y.2 hW'
  have key:=Go.Proofs.AnyQ.slices_SortFunc (P:=Y0.P) Aao 2 (λw=>(GH (w:=w) (show Pg Y0.P 288 true 2=true by kernel_rfl)).1) (λw=>(GH (w:=w) (show Pg Y0.P 288 true 2=true by kernel_rfl)).2) encS (λ_=>rfl) (λx v hv=>by simp [encS,MK]at hv;rcases hv with rfl|rfl<;>rfl) (cfS m) (A18 m) 270 #[.pointer (some ⟨ab,ao,none⟩)] b off cap d W (λargs w=>Mv (by kernel_rfl)) hcmp hH hblk (Nat.lt_of_le_of_lt (Nat.le_of_eq hlen.symm) hmax);change Calls Y0.P 269 _ _ _ at key;suffices hN:∀N,N=ys.length->Calls Y0.P 269 #[.slice (some ⟨b,off,none⟩) N cap,.func (.func 270) #[] #[.pointer (some ⟨ab,ao,none⟩)]] W λe w'=>e=.returned (.tuple #[])/\∃xs' A',xs'.Perm (ys.map (·.1))/\Ext I W I w'/\St I w' (A'++T)/\ND Y0 (.u 17) I w' A' (.slice (some ⟨b,off,none⟩) N cap) xs' from hN _ hlen
  intro N hN;subst hN;refine key.mono λe w'⟨he,d',n,os,hp,_,hw⟩=>⟨he,d'.toList.map (·.1),?_⟩
  obtain⟨p1,_,p3⟩:=hp;have hd':d'.toList.Perm ys:=by
   have e1:d'.extract 0 d.size=d':=by rw[<-p1];simp
   have e2:d.extract 0 d.size=d:=by simp
   rw[e1,e2]at p3;exact p3
  have hl':d'.toList.length=ys.length:=hd'.length_eq;have hlm:(d'.toList.map (·.1)).length=ys.length:=by rw[List.length_map];exact hl'
  let arr':Array Value:=Go.Sort.putCells id off (Go.Sort.flatK encS 2 d') arr;have harr':arr'.size=arr.size:=by simp [arr',Go.Sort.putCells]
  refine⟨[(b,.cells arr' e0 (0,0))],hd'.map _,?_⟩;obtain⟨x1,s1⟩:=hs.write (w':=Go.Sort.putRowK encS 2 (Go.Sort.ahead W n) b off d') (o':=.cells arr' e0 (0,0)) rfl rfl rfl (by simp [Go.Sort.putRowK,Go.Sort.putRow,Go.Sort.mapBlock,Go.Sort.ahead]) (by
   show (W.heap.modify b _)[b]?=_;rw[Array.getElem?_modify,if_pos rfl,hb];rfl) (λc hc=>by
   show (W.heap.modify b _)[c]?=_;rw[Array.getElem?_modify,if_neg (Ne.symm hc)])
  obtain⟨x2,s2⟩:=Ak4 os s1;subst hw;refine⟨x1.trans x2,s2,⟨.inr ⟨b,arr',cap,e0,off,rfl,congrArg (λn=>Value.slice (some ⟨b,off,none⟩) n cap) hlm.symm,Nat.le_trans (Nat.le_of_eq hlm) h3,h4,by rw[harr'];exact h5,λj hj=>?_⟩⟩⟩;have hj':j<d'.toList.length:=Nat.lt_of_lt_of_eq hj (hlm.trans hl'.symm);have hjs:j<d'.size:=hj';refine⟨.agg ⟨encS d'.toList[j]⟩,?_,λi hi=>?_⟩
  .have e:(d'.toList.map (·.1))[j]'(by rw[List.length_map];exact hj')=d'.toList[j].1:=by simp
   exact cast (congrArg (λz=>rp Y0.toUS (.u 17) I _ _ z) e.symm) (Af5 d'.toList[j].2)
  .have hi2:i<2:=hi;show arr'[off+(j*2+i)]?=(⟨encS d'.toList[j]⟩:Array Value)[i]?;have hlt:off+(j*2+i)<arr.size:=by
    rw[hsz]at h5;have:j*2+i<cap*2:=by omega
    omega
   simp only[arr',Go.Sort.putCells,Array.getElem?_mapIdx,Array.getElem?_eq_getElem hlt,Option.map_some];have hr:off<=off+(j*2+i)/\off+(j*2+i)<off+(Go.Sort.flatK encS 2 d').size:=by rw[Go.Sort.size_flatK];omega
   rw[if_pos hr];have e1:off+(j*2+i)-off=j*2+i:=by omega
   rw[e1,id,Go.Sort.get_flatK _ _ _ _ (by omega)];have e2:(j*2+i)/2=j:=by omega
   have e3:(j*2+i)%2=i:=by omega
   rw[e2,e3,getElem!_pos d' j hjs];match i,hi2 with
   |0,_|1,_=>rfl
end
section
set_option maxRecDepth 100000
set_option maxHeartbeats 1000000
def Asv(c:Cf Y0)(la:List (AV Y0))(_:PX)(k:AV Y0->Cf Y0->Prop):Prop:=match la with
 | [.own j,.own j2]=>match c.op,HG c.sg j,HG c.sg j2 with
  |none,some (.sl (.u 17) xs),some (.clo 270 [] [.del .ptr p 0])=>(∃tb y,p=some tb/\c.H tb=some (.st 7 y))/\xs.length<4611686018427387904/\∀xs':List (den Y0.D (.u 17)),xs'.Perm xs->k (.own c.nx) {c with sg:=(c.nx,.tp [])::(j,.sl (.u 17) xs')::Gb c.sg j,nx:=c.nx+1}
  |_,_,_=>False
 |_=>False
noncomputable def Aq8:TG Y0 269 where
 tr:=Asv
 can:=by kernel_rfl
 ok {g0 g T AH A c f la vs X k} h ha hx R K _ next:=by
  unfold Asv at hx;split at hx
  .rename_i j j2;split at hx
   .rename_i xs p hop hj hj2;obtain⟨⟨tb,y,rfl,hH⟩,hlen,hx⟩:=hx;rcases ha with _|⟨a1,_|⟨a2,_|_⟩⟩
    obtain⟨hjn,rfl⟩:=a1;obtain⟨hj2n,rfl⟩:=a2;obtain⟨A1,A2,hp,_,hsl,hsg⟩:=h.sg.take hj;obtain⟨B1,B2,_,_,⟨rfl,vs,us,hm,hv1,hv2⟩,_⟩:=h.sg.take hj2;rcases hv1 with _|_
    rcases hv2 with _|⟨b1,_|_⟩
    obtain⟨ab,ao,u,hu,hpt,hI,rfl⟩:=b1;replace hu:u=.pointer (some ⟨tb,0,none⟩):=by have:=KN.1 hu;exact this
    subst hu;have hr:=h.hr;rw[hop]at hr;obtain⟨C1,C2,hob,hX,hst⟩:=Hk.take (T:=A++T) hr hH h.st;obtain⟨arr,e,A',rfl,hor⟩:=hob;obtain⟨cell,hcell,mA,hmp⟩:∃v,arr.toList=[v]/\∃A1,A'=A1/\WN Y0 (.u 17) I6 g.I g.w A1 v y.ids:=by
     have hor:OR Y0 g.I g.w arr.toList [.map (.u 17) I6 y.ids] A':=hor;revert hor;cases arr.toList with
     |nil=>exact λhor=>hor.elim
     |cons v vs=>
      intro hor;obtain⟨D1,D2,rfl,hm,hn⟩:=hor;cases vs with
      |nil=>cases (show D2=[] from hn);exact⟨v,rfl,_,List.append_nil _,hm⟩
      |cons _ _=>exact hn.elim
    obtain⟨rfl,hmp⟩:=hmp;obtain⟨mb,es,cl,k1,k2,k3,k4⟩:=@C4.ex _ _ (RT Y0.toUS (.u 17)) (RT Y0.toUS I6) _ _ _ _ _ hmp;subst k1 k2;have st1:St g.I g.w (A1++(((tb,.cells arr e (0,0))::[(mb,.map es cl)])++(C2++(A2++T)))):=by refine hst.perm ?_;have:=FH (T:=T) hp (((tb,Obj.cells arr e (0,0))::[(mb,Obj.map es cl)])++C2);simpa [List.append_assoc] using this
    have inT:∀p,p∈((tb,Obj.cells arr e (0,0))::[(mb,Obj.map es cl)])->g.w.heap[p.1]?=some p.2/\¬g.I p.1:=λp hm=>hst.own p (List.mem_append_left _ hm);have hbox:g.w.cell? ⟨ab,ao,none⟩=some (.pointer (some ⟨tb,0,none⟩)):=hpt.2 0 Nat.zero_lt_one;have hW:ClW g.w ab ao tb mb y.ids:=by
     refine⟨hbox,?_,es,cl,(inT (mb,.map es cl) (List.mem_cons_of_mem _ List.mem_cons_self)).1,?_⟩
     .rw[Bp (inT (tb,.cells arr e (0,0)) List.mem_cons_self).1];show arr[0]?=some (Value.map (some mb));rw[<-Array.getElem?_toList,hcell];rfl
     .exact @C4.mk _ _ (RT Y0.toUS (.u 17)) (RT Y0.toUS I6) _ _ _ _ _ ⟨mb,es,cl,rfl,rfl,k3,λj hj hj'=>⟨Alg (k4 j hj hj').1,AX.2 (AX.1 (k4 j hj hj').2)⟩⟩ (@C4.bo _ _ (RT Y0.toUS (.u 17)) (RT Y0.toUS I6) _ _ _ _ _ hmp)
    have nd:∀p∈A1,p.1≠ab/\p.1≠tb/\p.1≠mb:=λp hm=>by have h1:=(st1.own p (List.mem_append_left _ hm)).2;have h2:=st1.nodup;rw[List.map_append,List.nodup_append]at h2;have h3:=h2.2.2 p.1 (List.mem_map_of_mem hm);exact⟨λe'=>h1 (e'▸hI),h3 tb (by simp),h3 mb (by simp)⟩
    have key:=Adz (I:=g.I) (T:=((tb,.cells arr e (0,0))::[(mb,.map es cl)])++(C2++(A2++T))) (ao:=ao) hsl st1 hW nd hlen;rw[hm];refine Calls.mono key λen w'⟨he,xs',A1',hpm,hext,hst',hsl'⟩=>?_;subst he;have hle:Le g (g.new w' (.tuple #[])):=Le.new hext;refine next (.tuple #[]) (.own c.nx) _ (g.new w' (.tuple #[])) (((tb,.cells arr e (0,0))::[(mb,.map es cl)])++C2) (A1'++A2) hle ?_ ?_ (hx xs' hpm)
    .refine⟨by show g.n+1=c.nx+1;rw[h.n],h.le.trans hext,?_,?_,⟨[],A1'++A2,rfl,by show c.nx<g.n+1;rw[h.n];omega,⟨rfl,[],by rw[<-h.n];exact B3.B7 _ _ _,.nil⟩,A1',A2,rfl,Nat.lt_succ_of_lt hjn,?_,hsg.mono hle⟩,h.hs.mono hle,hle.pt h.pt,λj a hj=>(h.fr j a hj).mono hle⟩
     .refine hst'.perm ?_;have:=(FH (T:=T) (List.Perm.refl (A1'++A2)) (((tb,Obj.cells arr e (0,0))::[(mb,Obj.map es cl)])++C2)).symm;simpa [List.append_assoc] using this
     .show HR _ c.H _ _ c.op;rw[hop];exact Hk.mono (HpX.back hX hH ⟨arr,e,_,rfl,by show OR Y0 g.I g.w arr.toList [.map (.u 17) I6 y.ids] _;rw[hcell];exact⟨_,[],(List.append_nil _).symm,hmp,rfl⟩⟩) hext
     .show ND Y0 (.u 17) g.I w' A1' ((g.new w' (.tuple #[])).μ j) xs';rw[hle.μ j hjn];exact hsl'
    .rw[<-h.n];exact FX rfl
   .exact hx.elim
  .exact hx.elim
noncomputable def ilS:(q:FuncId)->Option (TG Y0 q)
 |269=>some Aq8
 |q=>ilT q
end
end Go.Proofs.YtcbkbpjlbmalmaaGreatDoor
namespace Go.Proofs.YtcbkbpjlbmalmaaGreatDoor
open Go Go.X Go.Y
section
set_option maxRecDepth 100000
set_option maxHeartbeats 2000000
def KT(s:Option Nat)(x y:Int)(H:HY)(Q:List AB×Unit->UU)(X:PX):=∀(b:Nat),H b=none->∃(b1:Nat),s=some b1/\∃(x1:Aa),Ac H b (Ob.st AQ []) b1=some (Ob.st AA x1)/\(Ag .i64 x->(Ag .i64 x->0<=x)/\∃(h:x.toNat<x1.tables.length),∃(h:x.toNat<x1.tables.length),x1=x1/\∀(l:Nat)(r:Loop),Ac H b (Ob.st AQ []) l=none->Wp Y0 Hf ET (λ(a:Ah×Int×Unit)(H:HY)(Q:Bool×Unit->HP)(X:Nat->Lf Y0.D->HP)=>H l=some (Ob.lp r)/\H l=some (Ob.lp r)/\∃(b2:Nat),s=some b2/\∃(x:Aa),Ac H l (Ob.lp (CE r)) b2=some (Ob.st AA x)/\x=x/\Wp Y0 AI AE (x.Ba,a.2.1,()) (Ac H l (Ob.lp (CE r))) (λ(b3:Ap×Bool×Unit)_ G=>Wp Y0 EZ DK (s,b3.1.Lo,y,()) G (λ(b4:Int×Int×Unit)_ G=>Wp Y0 EZ DK (s,b3.1.Hi,y,()) G (λ(b5:Int×Int×Unit)_ G=>(¬b4.1=b4.2.1->∃(x:List AB),G b=some (Ob.st AQ x)/\(x.length+[{n:=b3.1,ll:=b4.1,lh:=b4.2.1,hl:=b5.1,hh:=b5.2.1:AB}].length)*72<=140737488355328/\Ac G b (Ob.st AQ (x++[{n:=b3.1,ll:=b4.1,lh:=b4.2.1,hl:=b5.1,hh:=b5.2.1:AB}])) l=some (Ob.lp (CE r))/\Q (true,()) (Ac (Ac G b (Ob.st AQ (x++[{n:=b3.1,ll:=b4.1,lh:=b4.2.1,hl:=b5.1,hh:=b5.2.1:AB}]))) l (Ob.lp r)))/\(¬¬b4.1=b4.2.1->(¬b5.1=b5.2.1->∃(x:List AB),G b=some (Ob.st AQ x)/\(x.length+[{n:=b3.1,ll:=b4.1,lh:=b4.2.1,hl:=b5.1,hh:=b5.2.1:AB}].length)*72<=140737488355328/\Ac G b (Ob.st AQ (x++[{n:=b3.1,ll:=b4.1,lh:=b4.2.1,hl:=b5.1,hh:=b5.2.1:AB}])) l=some (Ob.lp (CE r))/\Q (true,()) (Ac (Ac G b (Ob.st AQ (x++[{n:=b3.1,ll:=b4.1,lh:=b4.2.1,hl:=b5.1,hh:=b5.2.1:AB}]))) l (Ob.lp r)))/\(¬¬b5.1=b5.2.1->G l=some (Ob.lp (CE r))/\Q (true,()) (Ac G l (Ob.lp r))))) X) X) X,x1.tables[x.toNat],()) (Ac (Ac H b (Ob.st AQ [])) l (Ob.lp r)) (λ(b2 io:Unit)(G:HY)=>(G l=some (Ob.lp r)/\∀(r':Loop),∃(x:List AB),Ac G l (Ob.lp r') b=some (Ob.st AQ x)/\Q (x,()) () (Cs (Ac G l (Ob.lp r')) b))∨G l=some (Ob.lp (OQ r Code.ret))/\∀(r':Loop),Q ([],()) () (Ac G l (Ob.lp r'))) X)
theorem QH s x y H Q X(h_:KT s x y H Q X):Wp Y0 HQ F4 (s,x,y,()) H Q X:=wFS Tryz.f208 {pr:=[(7,48)],im:=[3,5],il:=ilT,tk:=[70]} h_
def Kk(s:Option Nat)(x:Int)(l:List AB)(H:HY)(Q:Int×Unit->UU)(X:PX):=l.length<=9223372036854775807->∃(V:Nat->List (Ah×Bool)×Nat×Nat×Unit->HP),(∃(n:Nat),V n ([],0,0,()) H)/\∀n x1 H,V n x1 H->(x1.2.2.1<l.length->x1.2.2.1<=9223372036854775807->∃(h:x1.2.2.1<l.length),[{a0:=l[x1.2.2.1].ll,a1:=l[x1.2.2.1].hl:Ah},{a0:=l[x1.2.2.1].lh,a1:=l[x1.2.2.1].hh:Ah}].length<=9223372036854775807->∃(V1:Nat->List (Ah×Bool)×Nat×List Ah×Nat×Unit->HP),(∃(n:Nat),V1 n (x1.1,x1.2.1,[{a0:=l[x1.2.2.1].ll,a1:=l[x1.2.2.1].hl:Ah},{a0:=l[x1.2.2.1].lh,a1:=l[x1.2.2.1].hh:Ah}],0,()) H)/\∀n1 x2 H,V1 n1 x2 H->(x2.2.2.2.1<[{a0:=l[x1.2.2.1].ll,a1:=l[x1.2.2.1].hl:Ah},{a0:=l[x1.2.2.1].lh,a1:=l[x1.2.2.1].hh:Ah}].length->x2.2.2.2.1<=9223372036854775807->∃(h:x2.2.2.2.1<x2.2.2.1.length),∃(h:x2.2.2.2.1<x2.2.2.1.length),∃(b:Nat),s=some b/\∃(x3:Aa),H b=some (Ob.st AA x3)/\(Ag .i64 x->(Ag .i64 x->0<=x)/\∃(h1:x.toNat<x3.tables.length),∃(h2:x.toNat<x3.tables.length),x3=x3/\Wp Y0 DG CY (x3.tables[x.toNat],A8 x2.2.2.1[x2.2.2.2.1].a0 (Bc x2.2.2.1[x2.2.2.2.1].a1),A8 x2.2.2.1[x2.2.2.2.1].a1 (Bc x2.2.2.1[x2.2.2.2.1].a1),()) H (λ(b:Int×Bool×Unit)_ G=>(A8 x2.2.2.1[x2.2.2.2.1].a0 (Bc x2.2.2.1[x2.2.2.2.1].a1)=A8 x2.2.2.1[x2.2.2.2.1].a1 (Bc x2.2.2.1[x2.2.2.2.1].a1)->x2.2.2.2.1+1<=9223372036854775807/\∃m,m<n1/\V1 m (x2.1,x2.2.1,x2.2.2.1,x2.2.2.2.1+1,()) G)/\(¬A8 x2.2.2.1[x2.2.2.2.1].a0 (Bc x2.2.2.1[x2.2.2.2.1].a1)=A8 x2.2.2.1[x2.2.2.2.1].a1 (Bc x2.2.2.1[x2.2.2.2.1].a1)->(b.2.1=true->x2.2.2.2.1+1<=9223372036854775807/\∃m,m<n1/\V1 m (x2.1,x2.2.1,x2.2.2.1,x2.2.2.2.1+1,()) G)/\(¬b.2.1=true->((Ae x2.1 {a0:=A8 x2.2.2.1[x2.2.2.2.1].a0 (Bc x2.2.2.1[x2.2.2.2.1].a1),a1:=A8 x2.2.2.1[x2.2.2.2.1].a1 (Bc x2.2.2.1[x2.2.2.2.1].a1):Ah}).getD false=true->x2.2.2.2.1+1<=9223372036854775807/\∃m,m<n1/\V1 m (x2.1,x2.2.1,x2.2.2.1,x2.2.2.2.1+1,()) G)/\(¬(Ae x2.1 {a0:=A8 x2.2.2.1[x2.2.2.2.1].a0 (Bc x2.2.2.1[x2.2.2.2.1].a1),a1:=A8 x2.2.2.1[x2.2.2.2.1].a1 (Bc x2.2.2.1[x2.2.2.2.1].a1):Ah}).getD false=true->x2.2.1+1<=9223372036854775807/\x2.2.2.2.1+1<=9223372036854775807/\∃m,m<n1/\V1 m (BL x2.1 {a0:=A8 x2.2.2.1[x2.2.2.2.1].a0 (Bc x2.2.2.1[x2.2.2.2.1].a1),a1:=A8 x2.2.2.1[x2.2.2.2.1].a1 (Bc x2.2.2.1[x2.2.2.2.1].a1):Ah} true,x2.2.1+1,x2.2.2.1,x2.2.2.2.1+1,()) G)))) X))/\(¬x2.2.2.2.1<[{a0:=l[x1.2.2.1].ll,a1:=l[x1.2.2.1].hl:Ah},{a0:=l[x1.2.2.1].lh,a1:=l[x1.2.2.1].hh:Ah}].length->x1.2.2.1+1<=9223372036854775807/\∃m,m<n/\V m (x2.1,x2.2.1,x1.2.2.1+1,()) H))/\(¬x1.2.2.1<l.length->Q ((↑x1.2.1:Int),()) () H)
theorem P9 s x l H Q X(h_:Kk s x l H Q X):Wp Y0 Hh EV (s,x,l,()) H Q X:=wF Tryz.f209 {lp:=[(7,⟨[(7,.map (.u 17) .bool),(8,.nat),(36,.one (.own (.u 17))),(38,.nat)],[0,1,20,21,22,36,37],true⟩),(4,⟨[(7,.map (.u 17) .bool),(8,.nat),(22,.nat)],[0,1,20,21],true⟩)]} h_
def KW(s:Option Nat)(level:Int)(H:HY)(Q:Int×Unit->UU)(X:PX):=(s=none->Q (5,()) () H)/\(¬s=none->(level<0->Q (2,()) () H)/\(¬level<0->∃(b:Nat),s=some b/\∃(x:Aa),H b=some (Ob.st AA x)/\∃(b1:Nat),x.levels=some b1/\x=x/\∃(x:AF),H b1=some (Ob.st CF x)/\(x.vars.length<=9223372036854775807->x.vars.length<=9223372036854775807->Ag .i64 ((↑x.vars.length:Int)-1)/\((↑x.vars.length:Int)-1<=level->x=x/\Q (2,()) () H)/\(¬(↑x.vars.length:Int)-1<=level->x=x/\Wp Y0 CB Cb (s,()) H (λ(b2:Int×Unit)_ G=>∃(x:Aa),G b=some (Ob.st AA x)/\∃(b3:Nat),x.levels=some b3/\x=x/\∃(x:AF),G b3=some (Ob.st CF x)/\(Ag .i64 level->(Ag .i64 level->0<=level)/\∃(h:level.toNat<x.vars.length),∃(h:level.toNat<x.vars.length),x=x/\∃(x1:Aa),G b=some (Ob.st AA x1)/\∃(b4:Nat),x1.levels=some b4/\x1=x1/\∃(x2:AF),G b4=some (Ob.st CF x2)/\(Ag .i64 level->Ag .i64 (level+1)/\(Ag .i64 (level+1)->(Ag .i64 (level+1)->0<=level+1)/\∃(h1:(level+1).toNat<x2.vars.length),∃(h2:(level+1).toNat<x2.vars.length),x2=x2/\Wp Y0 HQ F4 (s,x.vars[level.toNat],x2.vars[(level+1).toNat],()) G (λ(b5:List AB×Unit)_ G=>Wp Y0 Hh EV (s,x.vars[level.toNat],b5.1,()) G (λ(b6:Int×Unit)_ G=>Wp Y0 HT F6 (s,()) G (λ(b7:Int×Unit)_ G=>Wp Y0 IG Gg (s,()) G (λ(b8:Int×Unit)_ G=>Ag .i64 b7.1->Ag .i64 b8.1->Ag .i64 (b7.1-b8.1)/\(b7.1-b8.1<b6.1->Q ((7:Int),()) () G)/\(¬b7.1-b8.1<b6.1->∃(x3:Aa),G b=some (Ob.st AA x3)/\x3=x3/\Wp Y0 Hg EU (x3.levels,level,()) G (λ(b9 io:Unit)(G:HY)=>b5.1.length<=(9223372036854775807:Nat)->∃(V:Nat->Nat×Unit->HP),(∃(n:Nat),V n (0,()) G)/\∀n x4 H,V n x4 H->(x4.1<b5.1.length->x4.1<=(9223372036854775807:Nat)->∃(h3:x4.1<b5.1.length),∃(x5:Aa),H b=some (Ob.st AA x5)/\(Ag .i64 x.vars[level.toNat]->(Ag .i64 x.vars[level.toNat]->0<=x.vars[level.toNat])/\∃(h4:x.vars[level.toNat].toNat<x5.tables.length),∃(h5:x.vars[level.toNat].toNat<x5.tables.length),x5=x5/\Wp Y0 Ed Dt (x5.tables[x.vars[level.toNat].toNat],b5.1[x4.1].n.Lo,b5.1[x4.1].n.Hi,()) H (λ(b:Int×Unit)_ G=>x4.1+1<=(9223372036854775807:Nat)/\∃m,m<n/\V m (x4.1+1,()) G) X))/\(¬x4.1<b5.1.length->b5.1.length<=(9223372036854775807:Nat)->∃(V:Nat->Nat×Unit->HP),(∃(n:Nat),V n (0,()) H)/\∀n x5 H,V n x5 H->(x5.1<b5.1.length->x5.1<=(9223372036854775807:Nat)->∃(h3:x5.1<b5.1.length),Wp Y0 C7 BZ (s,x.vars[level.toNat],b5.1[x5.1].ll,b5.1[x5.1].hl,()) H (λ(b10:Int×Unit)_ G=>Wp Y0 C7 BZ (s,x.vars[level.toNat],b5.1[x5.1].lh,b5.1[x5.1].hh,()) G (λ(b11:Int×Unit)_ G=>Wp Y0 Bt Bm (s,b10.1,()) G (λ(b12 io:Unit)(G:HY)=>Wp Y0 Bt Bm (s,b11.1,()) G (λ(b13 io:Unit)(G:HY)=>∃(x:Aa),G b=some (Ob.st AA x)/\x=x/\Wp Y0 BH B8 (x.Ba,{ID:=b5.1[x5.1].n.ID,Var:=x2.vars[(level+1).toNat],Lo:=b10.1,Hi:=b11.1,Refs:=b5.1[x5.1].n.Refs:Ap},()) G (λ(b14:Int×Unit)_ G=>∃(x:Aa),G b=some (Ob.st AA x)/\(Ag .i64 x2.vars[(level+1).toNat]->(Ag .i64 x2.vars[(level+1).toNat]->0<=x2.vars[(level+1).toNat])/\∃(h:x2.vars[(level+1).toNat].toNat<x.tables.length),∃(h:x2.vars[(level+1).toNat].toNat<x.tables.length),x=x/\Wp Y0 Dv CM (x.tables[x2.vars[(level+1).toNat].toNat],b10.1,b11.1,b5.1[x5.1].n.ID,()) G (λ(b:Int×Unit)_ G=>Wp Y0 Bu Bn (s,b5.1[x5.1].n.Lo,()) G (λ(b io:Unit)(G:HY)=>Wp Y0 Bu Bn (s,b5.1[x5.1].n.Hi,()) G (λ(b io:Unit)(G:HY)=>x5.1+1<=(9223372036854775807:Nat)/\∃m,m<n/\V m (x5.1+1,()) G) X) X) X)) X) X) X) X) X)/\(¬x5.1<b5.1.length->Wp Y0 CB Cb (s,()) H (λ(b:Int×Unit)_ G=>Q ((0:Int),()) () G) X))) X)) X) X) X) X)))) X))))
theorem QK s level H Q X(h_:KW s level H Q X):Wp Y0 Dw CH (s,level,()) H Q X:=wF Tryz.f163 {lp:=[(17,⟨[(98,.nat)],[0,5,6,96,97],true⟩),(12,⟨[(77,.nat)],[0,5,6,7,75,76],true⟩)],hd:=[(19,[11])]} h_
def Ki(yield:Ah×Int×Unit->HY->(Bool×Unit->HP)->PX->Prop)(p1:Option Nat)(H:HY)(Q:Unit->UU)(X:PX):=(p1=none->Q () () H)/\(¬p1=none->∃(b:Nat),p1=some b/\∃(x:Az),H b=some (Ob.st BC x)/\(some (C6.blk (Y:=Y0) [AV.own (2)])=some (C6.blk [AV.own (2)])/\True)/\∃(V:List (Ah×Int)->List Ah×Unit->HP),({i:=1,b:=b,n:=7,x:=none:WM Y0}={i:=1,b:=b,n:=7,x:=none:WM Y0}/\(some (C6.blk (Y:=Y0) [AV.own (2)])=some (C6.blk [AV.own (2)])/\True)/\V x.ids ([],()) H)/\∀(left:List (Ah×Int))(x1:List Ah×Unit)(H1:HY),V left x1 H1->(left=[]->(∃(tb:Nat),∃(y:Az),p1=some tb/\Ac H1 b (Ob.st BC x) tb=some (Ob.st BC y))/\x1.1.length<4611686018427387904/\∀(xs':List Ah),xs'.Perm x1.1->xs'.length<=9223372036854775807->∃(V:Nat->List Ah×Nat×Unit->HP),(∃(n:Nat),V n (xs',0,()) (Ac H1 b (Ob.st BC x)))/\∀n x H,V n x H->(x.2.1<xs'.length->x.2.1<=9223372036854775807->∃(h:x.2.1<x.1.length),∃(h:x.2.1<x.1.length),∃(b:Nat),p1=some b/\∃(x2:Az),H b=some (Ob.st BC x2)/\x2=x2/\yield (x.1[x.2.1],(Ae x2.ids x.1[x.2.1]).getD 0,()) H (λ(b:Bool×Unit)(G:HY)=>(¬b.1=true->Q () () G)/\(¬¬b.1=true->x.2.1+1<=9223372036854775807/\∃m,m<n/\V m (x.1,x.2.1+1,()) G)) X)/\(¬x.2.1<xs'.length->Q () () H))/\∀(l1:List (Ah×Int))(p:Ah×Int)(l2:List (Ah×Int)),left=l1++p::l2->(x1.1.length+[p.1].length)*16<=140737488355328/\{i:=1,b:=b,n:=7,x:=none:WM Y0}={i:=1,b:=b,n:=7,x:=none:WM Y0}/\(some (C6.blk (Y:=Y0) [AV.own (2)])=some (C6.blk [AV.own (2)])/\True)/\V (l1++l2) (x1.1++[p.1],()) H1)
theorem P6 yield p1 H Q X(h_:Ki yield p1 H Q X):Wp Y0 Hf ET (yield,p1,()) H Q X:=wFS Tryz.f268 {lp:=[(8,⟨[(25,.one (.own (.u 17))),(27,.nat)],[0,1,25,26],true⟩),(3,⟨[(3,.one (.own (.u 17)))],[0,1,13],true⟩)],il:=ilS,hd:=[(10,[6])]} h_
def Vm(room:Int)(H:HY)(Q:Option Nat×Int×Unit->UU)(X:PX):=(room<1->Q (none,2,()) () H)/\(¬room<1->((1048576:Int)<room->Q (none,2,()) () H)/\(¬(1048576:Int)<room->((0:Int)<=1/\(1:Int)=1/\Int.toNat (1:Int)*40<=281474976710656/\(0:Int)<=1/\(1:Int)=1/\Int.toNat (1:Int)*1<=281474976710656/\∀(b:Nat),H b=none->Q (some b,0,()) () (Ac H b (Ob.st CR {room:=room,at_:=List.replicate (Int.toNat (1:Int)) {ID:=(0:Int),Var:=(0:Int),Lo:=(0:Int),Hi:=(0:Int),Refs:=(0:Int):Ap},taken:=List.replicate (Int.toNat (1:Int)) false,free:=[],many:=(0:Int):Av})))/\(0:Int)<=1/\(1:Int)=1/\Int.toNat (1:Int)*1<=281474976710656/\(0:Int)<=1/\(1:Int)=1/\Int.toNat (1:Int)*40<=281474976710656/\∀(b:Nat),H b=none->Q (some b,0,()) () (Ac H b (Ob.st CR {room:=room,at_:=List.replicate (Int.toNat (1:Int)) {ID:=(0:Int),Var:=(0:Int),Lo:=(0:Int),Hi:=(0:Int),Refs:=(0:Int):Ap},taken:=List.replicate (Int.toNat (1:Int)) false,free:=[],many:=(0:Int):Av}))))
theorem Ad9 room H Q X(h_:Vm room H Q X):Wp Y0 QV Ng (room,()) H Q X:=wF Tryz.f151 {pr:=[(14,6)]} h_
end
section
variable {x:Av}
theorem Zk{k:Nat}(h:k<x.taken.length):Nr x (k:Int)=x.taken[k]:=by unfold Nr;simp [h]
theorem Aa9{p:Nat}{y:FT Y0 [.int .i64] [.bool]}{H:HY}{X:PX}{Q:Unit->UU}(hI:Fw x)(J:Nat->HP)(h0:J 0 H)(hp:∀k H,J k H->H p=some (.st CR x))(hy:∀(k:Nat)H(Q:Bool×Unit->HP),Nr x k=true->J k H->(∀H',J (k+1) H'->Q (true,()) H')->y ((k:Int),()) H Q X)(hs:∀(k:Nat)H,Nr x k=false->k<x.at_.length->J k H->J (k+1) H)(hq:∀H,J x.at_.length H->Q () () H):Wp Y0 IF Gf (y,some p,()) H Q X:=by
 apply RB;unfold L3;have hL:x.at_.length<2000000:=by have:=hI.len;have:=hI.room;omega
 refine⟨λh=>absurd h (by simp),λ_=>⟨p,rfl,x,hp _ _ h0,λ_=>⟨rfl,λn z H'=>n=x.at_.length-z.1/\z.1<=x.at_.length/\J z.1 H',⟨_,rfl,Nat.zero_le _,h0⟩,?_⟩⟩⟩;rintro n ⟨k,_⟩ H' ⟨hn0,hk0,hJ0⟩;have hn:n=x.at_.length-k:=hn0;have hk:k<=x.at_.length:=hk0;have hJ:J k H':=hJ0;clear hn0 hk0 hJ0;refine⟨λhkl=>?_,λhkl=>?_⟩
 .have hkl':k<x.at_.length:=hkl;have hkt:k<x.taken.length:=by rw[<-hI.ln];exact hkl'
  have nxt:∀H'',J (k+1) H''->∃m,m<n/\(m=x.at_.length-(k+1)/\k+1<=x.at_.length/\J (k+1) H''):=λH'' h=>⟨x.at_.length-(k+1),by omega,rfl,by omega,h⟩
  refine⟨p,rfl,x,hp _ _ hJ,λ_=>⟨hkt,hkt,λht=>⟨rfl,?_⟩,λht=>⟨by show k+1<=_;omega,?_⟩⟩⟩
  .refine hy k H' _ ((Zk hkt).trans ht) hJ λH'' h=>⟨λh=>absurd rfl h,λ_=>⟨by show k+1<=_;omega,nxt H'' h⟩⟩
  .have ht':Nr x k=false:=by rw[Zk hkt];simpa using ht
   obtain⟨m,h1,h2⟩:=nxt H' (hs k H' ht' hkl' hJ);exact⟨m,h1,rfl,h2⟩
 .have hkl':¬k<x.at_.length:=hkl;have:k=x.at_.length:=by omega
  subst this;exact hq H' hJ
theorem Ze{p:Nat}{y:FT Y0 [.u 13] [.bool]}{H0:HY}{X:PX}{Q:Unit->UU}(hI:Fw x)(J:Nat->HP)(h0:J 0 H0)(hp:∀k H,J k H->H p=some (.st CR x))(hl:∀l k H o,H0 l=none->J k H->J k (Ac H l o))(hy:∀(k:Nat)(n:Ap)H(Q:Bool×Unit->HP),Gi x k=some n->J k H->(∀H',J (k+1) H'->(∀c,H0 c=none->H' c=H c)->Q (true,()) H')->y (n,()) H Q X)(hs:∀(k:Nat)H,Gi x k=none->k<x.at_.length->J k H->J (k+1) H)(hq:∀H,J x.at_.length H->Q () () H):Wp Y0 HO F3 (y,some p,()) H0 Q X:=by
 apply QE;unfold KP;intro l r hl0;have hpl:p≠l:=λe=>by have:=hp _ _ h0;rw[e,hl0]at this;cases this
 refine Aa9 hI (λk H=>J k H/\H l=some (.lp r)) ⟨hl l 0 H0 _ hl0 h0,Ai _ _ _⟩ (λk H h=>hp k H h.1) (λk H Q' ht hJ h=>?_) (λk H ht hk hJ=>⟨hs k H ?_ hk hJ.1,hJ.2⟩) λH hJ=>.inl ⟨hJ.2,λr'=>hq _ (hl l _ H _ hl0 hJ.1)⟩
 .obtain⟨t1,t2,n,t3,t4⟩:=hI.tk ht;obtain⟨hlt,hget⟩:=List.getElem?_eq_some_iff.1 t4;have e:n=x.at_[((k:Int)).toNat]'hlt:=hget.symm;refine⟨hJ.2,hJ.2,p,rfl,x,by rw[Af _ _ hpl];exact hp _ _ hJ.1,λ_=>⟨λ_=>by show (0:Int)<=(k:Int);omega,hlt,hlt,rfl,?_⟩⟩;have:=hy k n (Ac H l (.lp (CE r))) (λb H'=>(¬b.1=true->H' l=some (Ob.lp (CE r))/\Q' (false,()) (Ac H' l (Ob.lp (OQ r Code.ret))))/\(¬¬b.1=true->H' l=some (Ob.lp (CE r))/\Q' (true,()) (Ac H' l (Ob.lp r)))) t3 (hl l k H _ hl0 hJ.1) λH' hJ' hfr=>⟨λh=>absurd rfl h,λ_=>⟨by rw[hfr l hl0,Ai],h _ ⟨hl l _ H' _ hl0 hJ',Ai _ _ _⟩⟩⟩
  rw[e]at this;exact this
 .unfold Gi;rw[ht];rfl
end
section
def PJ(b:Nat)(S:B4)(H H':HY):Prop:=∀c,H c≠none->c≠b->c≠S.bl->c≠S.bp->c∉S.tb->H' c=H c
variable {b:Nat} {S:B4} {H:HY}
theorem NF.n{H':HY}(h:NF b S H H'):PJ b S H H':=λc _ a1 a2 a3 a4=>h c a1 a2 a3 a4
theorem PJ.refl:PJ b S H H:=λ_ _ _ _ _ _=>rfl
theorem PJ.trans{S':B4}{H' H'':HY}(h:PJ b S H H')(k:PJ b S' H' H'')(h1:S'.bl=S.bl)(h2:S'.bp=S.bp)(h3:S'.tb=S.tb):PJ b S H H'':=λc a0 a1 a2 a3 a4=>by have e:=h c a0 a1 a2 a3 a4;rw[k c (by rw[e];exact a0) a1 (by rw[h1];exact a2) (by rw[h2];exact a3) (by rw[h3];exact a4),e]
def gl(S:B4):Nat->List Ap
 |0=>[]
 |k+1=>gl S k++(match Gi S.po k with
  |some n=>if FD S.cn k=0 then [n] else []
  |none=>[])
theorem Aet{S:B4}(hI:Fw S.po){n:Ap}:∀{k:Nat},n∈gl S k↔Gi S.po n.ID=some n/\FD S.cn n.ID=0/\0<=n.ID/\n.ID<k
 |0=>by simp only[gl,List.not_mem_nil,false_iff];intro ⟨_,_,h1,h2⟩;omega
 |k+1=>by
  simp only[gl,List.mem_append,Aet hI (k:=k)];constructor
  .rintro(⟨h1,h2,h3,h4⟩|h)
   .exact⟨h1,h2,h3,by omega⟩
   .split at h
    .rename_i m hm;split at h
     .rename_i h0;rw[List.mem_singleton]at h;subst h;have:=hI.id _ _ hm;exact⟨by rw[this];exact hm,by rw[this];exact h0,by omega,by omega⟩
     .cases h
    .cases h
  .rintro⟨h1,h2,h3,h4⟩;by_cases e:n.ID=k
   .right;rw[e]at h1 h2;rw[h1];simp only[h2,if_true,List.mem_singleton]
   .exact .inl ⟨h1,h2,h3,by omega⟩
theorem Ani{S:B4}(hI:Fw S.po):∀{k:Nat},((gl S k).map (·.ID)).Nodup/\(gl S k).length<=k
 |0=>by simp [gl]
 |k+1=>by
  obtain⟨h1,h2⟩:=Ani hI (k:=k);simp only[gl];split
  .rename_i m hm;split
   .rename_i h0;refine⟨?_,by simp;omega⟩;rw[List.map_append,List.nodup_append];refine⟨h1,by simp,λa ha b hb=>?_⟩;obtain⟨n,hn,rfl⟩:=List.mem_map.1 ha;have:=((Aet hI).1 hn).2.2.2;have h3:=hI.id _ _ hm;simp only[List.map_cons,List.map_nil,List.mem_singleton]at hb;omega
   .simpa using ⟨h1,by omega⟩
  .simpa using ⟨h1,by omega⟩
structure W8(S S':B4)(l:List Int):Prop where
 po:Fw S'.po
 nd:∀j,Gi S'.po j=if j∈l then none else Gi S.po j
 many:S'.po.many=S.po.many-l.length
 room:S'.po.room=S.po.room
 len:S'.po.at_.length=S.po.at_.length
 lv:S'.lv=S.lv
 tb:S'.tb=S.tb
 bl:S'.bl=S.bl
 bp:S'.bp=S.bp
 cn:S'.cn=S.cn
 tn:∀v:Nat,v<S.tb.length->Pq (S'.ta v).ids
 tg:∀v:Nat,v<S.tb.length->∀lo hi i,Ae (S'.ta v).ids (⟨lo,hi⟩:K2)=some i↔i∉l/\A6 S.po i=some ⟨(v:Int),lo,hi⟩
theorem W8.refl(h:SI S):W8 S S []:=⟨h.sc.po,λj=>by simp,by simp,rfl,rfl,rfl,rfl,rfl,rfl,rfl,h.tn,λv hv lo hi i=>by simpa using h.tg v hv lo hi i⟩
structure Clt(S S':B4):Prop where
 lv:S'.lv=S.lv
 tb:S'.tb=S.tb
 bl:S'.bl=S.bl
 bp:S'.bp=S.bp
 room:S'.po.room=S.po.room
 A6:∀i,A6 S'.po i=if FD S.cn i=0 then none else YtcbkbpjlbmalmaaGreatDoor.A6 S.po i
 rf:∀i,Fl S'.po i=Fl S.po i
 cn:S'.cn=S.cn
theorem W8.si{S':B4}{l:List Int}(h:SI S)(c:W8 S S' l)(hl:∀i,i∈l↔A6 S.po i≠none/\FD S.cn i=0):SI {S' with dead:=0}/\Clt S {S' with dead:=0}:=by
 have ht:∀i,A6 S'.po i=if FD S.cn i=0 then none else A6 S.po i:=λi=>by
  unfold A6;rw[c.nd];by_cases h1:i∈l
  .rw[if_pos h1,if_pos ((hl i).1 h1).2];rfl
  .rw[if_neg h1];by_cases h2:FD S.cn i=0
   .rw[if_pos h2];have:A6 S.po i=none:=by
     cases e:A6 S.po i with
     |none=>rfl
     |some d=>exact absurd ((hl i).2 ⟨by rw[e];simp,h2⟩) h1
    exact this
   .rw[if_neg h2]
 have hsub:∀i d,A6 S'.po i=some d->A6 S.po i=some d/\FD S.cn i≠0:=λi d hd=>by
  rw[ht]at hd;split at hd
  .cases hd
  .rename_i h0;exact⟨hd,h0⟩
 have hpos:∀i d,A6 S'.po i=some d->0<FD S.cn i:=λi d hd=>by have:=hsub i d hd;have:=h.sc.cn.nn this.1;omega
 have hrf:∀i,Fl S'.po i=Fl S.po i:=λi=>by
  unfold Fl;rw[c.nd];by_cases h1:i∈l
  .rw[if_pos h1];obtain⟨h2,h3⟩:=(hl i).1 h1;cases e:A6 S.po i with
   |none=>exact absurd e h2
   |some d=>
    have h4:=h.sc.cn.ge e;have h5:=h.rf i;unfold Fl at h4 h5;cases hn:Gi S.po i with
    |none=>rfl
    |some n=>rw[hn]at h4 h5;simp only at h4 h5 ⊢;omega
  .rw[if_neg h1]
 have hkid:∀i d,A6 S'.po i=some d->B.Ok (A6 S'.po) d.lo/\B.Ok (A6 S'.po) d.hi:=λi d hd=>by
  obtain⟨h1,h2⟩:=hsub i d hd;obtain⟨k1,k2⟩:=h.kids i d h1;have one:∀e,B.Ok (A6 S.po) e->(e/2=d.lo/2∨e/2=d.hi/2)->B.Ok (A6 S'.po) e:=λe he hm=>by
   refine⟨he.1,?_⟩;rcases he.2 with h3|⟨d',hd'⟩
   .exact .inl h3
   .have:=h.sc.cn.kid (λ_=>h.rf _) h1 (hpos i d hd) hd' hm;exact .inr ⟨d',by rw[ht,if_neg (by omega)];exact hd'⟩
  exact⟨one _ k1 (.inl rfl),one _ k2 (.inr rfl)⟩
 have hcut:=h.BP.cut B4.JO (λi d hd=>(hsub i d hd).1) hkid;have hn:S'.n=S.n:=by unfold B4.n;rw[c.tb]
 have hpt:∀i p,B.pt (A6 S'.po) (FD S.cn) i p=B.pt (A6 S.po) (FD S.cn) i p:=λi p=>by
  unfold B.pt;rw[ht];by_cases h0:FD S.cn p=0
  .rw[if_pos h0];cases A6 S.po p with
   |none=>rfl
   |some d=>simp only;rw[if_neg (by omega)]
  .rw[if_neg h0]
 refine⟨⟨⟨c.po,⟨λ{i d}hd=>?_,λ{i d}hd=>?_,λ{i d}hd=>?_⟩,λi d hd=>?_,?_⟩,?_,?_,?_,?_,c.tb▸c.tn,?_,λi=>by rw[hrf];exact h.rf i⟩,c.lv,c.tb,c.bl,c.bp,c.room,ht,hrf,c.cn⟩
 .show 0<i/\i<(S'.po.at_.length:Int);rw[c.len];exact h.sc.cn.KB (hsub i d hd).1
 .show 0<=FD S'.cn i;rw[c.cn];exact h.sc.cn.nn (hsub i d hd).1
 .show FD S'.cn i=Fl S'.po i+B.sm S'.po.at_.length (B.pt (A6 S'.po) (FD S'.cn) i);rw[c.cn,c.len,hrf,h.sc.cn.eq (hsub i d hd).1];congr 1;exact(B.Ff λk _ _=>hpt i k).symm
 .show i.toNat<S'.cn.length;rw[c.cn];exact h.sc.ln i d (hsub i d hd).1
 .show (0:Int)=B.sm S'.po.at_.length (B.zr (A6 S'.po) (FD S'.cn));rw[B.Ff (g:=λ_=>0) λk _ _=>?_,B.U4];unfold B.zr;rw[c.cn];cases e:A6 S'.po k with
  |none=>rfl
  |some d=>have:=hpos k d e;simp only;rw[if_neg (by omega)]
 .show B.Good S'.n (Dh S'.lv) (A6 S'.po);rw[hn,c.lv];exact hcut.1
 .show S'.lv.vars.length=S'.tb.length;rw[c.lv,c.tb];exact h.vl
 .show S'.lv.level.length=S'.tb.length;rw[c.lv,c.tb];exact h.ll
 .show ∀(l:Nat)(v:Int),S'.lv.vars[l]?=some v->0<=v/\v<S'.n/\Dh S'.lv v=(l:Int);rw[c.lv,hn];exact h.inv
 .intro v hv lo hi i;show Ae (S'.ta v).ids (⟨lo,hi⟩:K2)=some i↔A6 S'.po i=some ⟨(v:Int),lo,hi⟩;have hv':v<S.tb.length:=by rw[<-c.tb];exact hv
  rw[c.tg v hv',ht];constructor
  .rintro⟨h1,h2⟩;rw[if_neg λh0=>h1 ((hl i).2 ⟨by rw[h2];simp,h0⟩)];exact h2
  .intro h1;split at h1
   .cases h1
   .rename_i h0;exact⟨λhi=>h0 ((hl i).1 hi).2,h1⟩
end
section
variable {S:B4}
theorem BX.KR{H H':HY}{b:Nat}(h:BX H b S)(f:∀c,H c≠none->H' c=H c):BX H' b S:=by
 refine⟨?_,?_,?_,h.nd,λv hv=>?_⟩
 .rw[f _ (by rw[h.st];simp)];exact h.st
 .rw[f _ (by rw[h.lv];simp)];exact h.lv
 .rw[f _ (by rw[h.po];simp)];exact h.po
 .rw[f _ (by rw[h.ta v hv];simp)];exact h.ta v hv
variable {k:Nat}
theorem Arb(h:Gi S.po k=none):gl S (k+1)=gl S k:=by simp [gl,h]
variable {n:Ap}
theorem Ard(h:Gi S.po k=some n)(h0:FD S.cn k=0):gl S (k+1)=gl S k++[n]:=by simp [gl,h,h0]
theorem Arc(h:Gi S.po k=some n)(h0:¬FD S.cn k=0):gl S (k+1)=gl S k:=by simp [gl,h,h0]
theorem W8.step{S1:B4}{l:List Int}(h:SI S)(c:W8 S S1 l)(hn:Gi S.po n.ID=some n)(hl:n.ID∉l){x':Av}(hx:Fw x')(hj:∀j,Gi x' j=if j=n.ID then none else Gi S1.po j)(hm:x'.many=S1.po.many-1)(hr:x'.room=S1.po.room)(hle:x'.at_.length=S1.po.at_.length){t:Az}(ht:t=⟨Df (S1.ta n.Var.toNat).ids (⟨n.Lo,n.Hi⟩:K2)⟩):W8 S {S1 with ta:=λw=>if w=n.Var.toNat then t else S1.ta w,po:=x'} (n.ID::l):=by
 subst ht;have hd:=GZ hn;have hv:0<=n.Var/\n.Var<S.n:=(h.BP.var hd).2;have hv':n.Var.toNat<S.tb.length:=by have:=hv.2;unfold B4.n at this;omega
 have hvv:((n.Var.toNat:Nat):Int)=n.Var:=by omega
 refine⟨hx,λj=>?_,?_,hr.trans c.room,hle.trans c.len,c.lv,c.tb,c.bl,c.bp,c.cn,λv hv2=>?_,λv hv2 lo hi i=>?_⟩
 .show Gi x' j=_;rw[hj,c.nd];by_cases e:j=n.ID
  .simp [e]
  .simp [e]
 .show x'.many=_;rw[hm,c.many];simp;omega
 .show Pq (if v=n.Var.toNat then _ else S1.ta v).ids;split
  .exact RW (c.tn _ hv') _
  .exact c.tn v hv2
 .show Ae (if v=n.Var.toNat then _ else S1.ta v).ids (⟨lo,hi⟩:K2)=some i↔_;by_cases e:v=n.Var.toNat
  .subst e;rw[if_pos rfl];simp only;rw[Ij (c.tn _ hv')];by_cases ek:(⟨lo,hi⟩:K2)=⟨n.Lo,n.Hi⟩
   .rw[if_pos ek];obtain⟨rfl,rfl⟩:lo=n.Lo/\hi=n.Hi:=by injection ek with a b;exact⟨a,b⟩
    constructor
    .intro hh;cases hh
    .rintro⟨h1,h2⟩;exfalso;rw[<-h.tg _ hv']at h2;have h3:=(h.tg _ hv' n.Lo n.Hi n.ID).2 (by rw[hd,hvv]);rw[h2]at h3;injection h3 with h3
     exact h1 (by simp [h3])
   .rw[if_neg ek,c.tg _ hv'];constructor
    .rintro⟨h1,h2⟩;refine⟨λhm=>?_,h2⟩;rcases List.mem_cons.1 hm with e|hm
     .rw[e,hd]at h2;injection h2 with h2
      injection h2 with _ a b
      exact ek (by rw[a,b])
     .exact h1 hm
    .rintro⟨h1,h2⟩;exact⟨λhm=>h1 (List.mem_cons_of_mem _ hm),h2⟩
  .rw[if_neg e,c.tg v hv2];constructor
   .rintro⟨h1,h2⟩;refine⟨λhm=>?_,h2⟩;rcases List.mem_cons.1 hm with e2|hm
    .rw[e2,hd]at h2;injection h2 with h2
     injection h2 with a _ _
     have:n.Var=(v:Int):=a;omega
    .exact h1 hm
   .rintro⟨h1,h2⟩;exact⟨λhm=>h1 (List.mem_cons_of_mem _ hm),h2⟩
theorem Aoa(h:SI S)(hd:S.dead=0):Clt S S:=by
 refine⟨rfl,rfl,rfl,rfl,rfl,λi=>?_,λ_=>rfl,rfl⟩;split
 .rename_i h0;cases e:A6 S.po i with
  |none=>rfl
  |some d=>
   have h1:=h.sc.dead;have h2:=h.sc.cn.KB e;have h3:=B.Asx (f:=B.zr (A6 S.po) (FD S.cn)) (m:=S.po.at_.length) (λ_ _ _=>Akj.1) (Int.le_of_lt h2.1) h2.2;have h4:B.zr (A6 S.po) (FD S.cn) i=1:=by unfold B.zr;rw[e];simp [h0]
   omega
 .rfl
theorem GI{b:Nat}{H:HY}{X:PX}{Q:Int×Unit->UU}(hS:BX H b S)(hI:SI S)(h:∀S' H' k,BX H' b S'->SI S'->Clt S S'->PJ b S H H'->Q (k,()) () H'):Wp Y0 CB Cb (some b,()) H Q X:=by
 apply NR;unfold Jd;refine⟨λh=>absurd h (by simp),λ_=>⟨b,rfl,S.ob,hS.st,λhd=>⟨rfl,h S H 0 hS hI (Aoa hI hd) PJ.refl⟩,λhd=>⟨rfl,λb2 hb2=>?_⟩⟩⟩;have hP:=hI.sc.po;have hL:S.po.at_.length<2000000:=by have:=hP.len;have:=hP.room;omega
 have bne:∀{c:Nat}{o:Ob Y0},H c=some o->c≠b2:=λhc e=>by rw[e,hb2]at hc;cases hc
 refine⟨b,rfl,S.ob,by rw[Af _ _ (bne hS.st)];exact hS.st,rfl,λl r hl0=>?_⟩;have hlb:l≠b2:=λe=>by rw[e,Ai]at hl0;cases hl0
 have hl:H l=none:=by rw[Af _ _ hlb]at hl0;exact hl0
 have lne:∀{c:Nat},H c≠none->c≠l:=λhc e=>hc (by rw[e];exact hl);have bne':∀{c:Nat},H c≠none->c≠b2:=λhc e=>hc (by rw[e];exact hb2);refine Ze hP (λk H'=>H' b2=some (.st Di (gl S k))/\H' l=some (.lp r)/\∀c,H c≠none->H' c=H c) ⟨?_,Ai _ _ _,λc hc=>?_⟩ (λk H' hJ=>(hS.KR hJ.2.2).po) (λl' k H' o hl' hJ=>?_) (λk n H' Q' hn hJ hQ=>?_) (λk H' hn hk hJ=>?_) λH' hJ=>.inl ⟨hJ.2.1,λr'=>⟨gl S S.po.at_.length,?_,λ_=>?_⟩⟩
 .rw[Af _ _ (Ne.symm hlb),Ai];rfl
 .rw[Af _ _ (lne hc),Af _ _ (bne' hc)]
 .have e1:l'≠l:=λe=>by rw[e,Ai]at hl';cases hl'
  have e2:l'≠b2:=λe=>by rw[e,Af _ _ (Ne.symm hlb),Ai]at hl';cases hl'
  rw[Af _ _ e1,Af _ _ e2]at hl';exact⟨by rw[Af _ _ (Ne.symm e2)];exact hJ.1,by rw[Af _ _ (Ne.symm e1)];exact hJ.2.1,λc hc=>by rw[Af _ _ (λe=>hc (by rw[e];exact hl'))];exact hJ.2.2 c hc⟩
 .obtain⟨j1,j2,j3⟩:=hJ;have hid:=hP.id _ _ hn;have hk:k<S.cn.length:=by have:=hI.sc.ln k _ (GZ hn);simpa using this
  have hkk:n.ID.toNat=k:=by omega
  have hgk:∀(h:n.ID.toNat<S.cn.length),S.cn[n.ID.toNat]=FD S.cn k:=λh=>by rw[<-hid,UG (by omega) h]
  have hlt:n.ID.toNat<S.cn.length:=by omega
  have hlen:=(Ani hP (k:=k)).2;have hkL:k<S.po.at_.length:=by have:=hI.sc.cn.KB (GZ hn);omega
  have st':Ac H' l (Ob.lp (CE r)) b=some (Ob.st AA S.ob):=by rw[Af _ _ (lne (by rw[hS.st];simp))];exact(hS.KR j3).st
  refine⟨j2,j2,b,rfl,S.ob,st',λ_=>⟨λ_=>(by show 0<=n.ID;omega),hlt,hlt,λh0=>⟨rfl,gl S k,?_,?_,?_,?_⟩,λh0=>⟨rfl,Ai _ _ _,?_⟩⟩⟩
  .rw[Af _ _ (Ne.symm hlb)];exact j1
  .show ((gl S k).length+1)*40<=_;omega
  .rw[Af _ _ hlb,Ai]
  .have h0':FD S.cn k=0:=(hgk hlt).symm.trans h0;refine hQ _ ⟨?_,Ai _ _ _,λc hc=>?_⟩ λc hc=>?_
   .rw[Af _ _ (Ne.symm hlb),Ai,Ard hn h0']
   .rw[Af _ _ (lne hc),Af _ _ (bne' hc),Af _ _ (lne hc)];exact j3 c hc
   .have e1:c≠l:=λe=>by rw[e,Ai]at hc;cases hc
    have e2:c≠b2:=λe=>by rw[e,Af _ _ (Ne.symm hlb),Ai]at hc;cases hc
    rw[Af _ _ e1,Af _ _ e2,Af _ _ e1]
  .have h0':¬FD S.cn k=0:=λe=>h0 ((hgk hlt).trans e);refine hQ _ ⟨?_,Ai _ _ _,λc hc=>?_⟩ λc hc=>?_
   .rw[Af _ _ (Ne.symm hlb),Af _ _ (Ne.symm hlb),Arc hn h0'];exact j1
   .rw[Af _ _ (lne hc),Af _ _ (lne hc)];exact j3 c hc
   .have e1:c≠l:=λe=>by rw[e,Ai]at hc;cases hc
    rw[Af _ _ e1,Af _ _ e1]
 .obtain⟨j1,j2,j3⟩:=hJ;exact⟨by rw[Arb hn];exact j1,j2,j3⟩
 .rw[Af _ _ (Ne.symm hlb)];exact hJ.1
 .obtain⟨j1,j2,j3⟩:=hJ;have hg:∀n,n∈gl S S.po.at_.length↔Gi S.po n.ID=some n/\FD S.cn n.ID=0/\0<=n.ID/\n.ID<S.po.at_.length:=λn=>Aet hP;obtain⟨g1,g2⟩:=Ani hP (k:=S.po.at_.length);generalize gl S S.po.at_.length=gs at hg g1 g2;have s0:BX (Cs (Ac H' l (Ob.lp r')) b2) b S/\PJ b S H (Cs (Ac H' l (Ob.lp r')) b2):=by
   have f:∀c,H c≠none->Cs (Ac H' l (Ob.lp r')) b2 c=H c:=λc hc=>by unfold Cs;rw[if_neg (bne' hc),Af _ _ (lne hc)];exact j3 c hc
   exact⟨hS.KR f,λc hc _ _ _ _=>f c hc⟩
  refine⟨λn x H2=>x.1.1=gs/\n=gs.length-x.2.1/\x.2.1<=gs.length/\∃S1,BX H2 b S1/\W8 S S1 ((gs.take x.2.1).map (·.ID))/\S1.dead=S.dead/\PJ b S H H2,⟨_,rfl,rfl,Nat.zero_le _,S,s0.1,W8.refl hI,rfl,s0.2⟩,?_⟩;rintro m ⟨⟨xs,_⟩,k,_⟩ H2 ⟨e0,hm0,hk0,S1,s1,c1,d1,f1⟩;have e0:xs=gs:=e0;have hm:m=gs.length-k:=hm0;have hk:k<=gs.length:=hk0;replace c1:W8 S S1 ((gs.take k).map (·.ID)):=c1;subst e0;clear hm0 hk0;refine⟨λhkl _=>?_,λhkl=>?_⟩
  .have hkl':k<xs.length:=hkl;obtain⟨hn,h0,hid0,hid1⟩:=(hg xs[k]).1 (List.getElem_mem hkl');have hd:=GZ hn;have hv:=hI.BP.var hd;simp only at hv;have hv':(xs[k]).Var.toNat<S.tb.length:=by have:=hv.2.2;unfold B4.n at this;omega
   have hv1:(xs[k]).Var.toNat<S1.tb.length:=by rw[c1.tb];exact hv'
   have hvv:(((xs[k]).Var.toNat:Nat):Int)=(xs[k]).Var:=by omega
   have hnl:(xs[k]).ID∉(xs.take k).map (·.ID):=λhmem=>by
    have h1:xs.map (·.ID)=(xs.take k).map (·.ID)++(xs[k]).ID::(xs.drop (k+1)).map (·.ID):=by rw[<-List.map_cons,<-List.map_append,<-List.drop_eq_getElem_cons hkl',List.take_append_drop]
    rw[h1,List.nodup_append]at g1;exact g1.2.2 _ hmem _ (List.mem_cons_self) rfl
   have hob:S1.ob.tables[(xs[k]).Var.toNat]'(by simpa [B4.ob] using hv1)=some S1.tb[(xs[k]).Var.toNat]:=by simp [B4.ob]
   have cut:Wp Y0 Ed Dt (S1.ob.tables[(xs[k]).Var.toNat]'(by simpa [B4.ob] using hv1),(xs[k]).Lo,(xs[k]).Hi,()) H2 (λ(b_2:Int×Unit)io H'=>∃(b_3:Nat),some b=some b_3/\∃(x_3:Aa),H' b_3=some (Ob.st AA x_3)/\({levels:=x_3.levels,Ba:=x_3.Ba,tables:=x_3.tables,counts:=x_3.counts,dead:=x_3.dead}:Aa)=x_3/\
     Wp Y0 Fp Ea (x_3.Ba,(xs[k]).ID,()) H' (λ(b_4:Int×Unit)io H'=>k+1<=9223372036854775807/\∃(m':Nat),m'<m/\(xs=xs/\m'=xs.length-(k+1)/\k+1<=xs.length/\∃S1,BX H' b S1/\W8 S S1 ((xs.take (k+1)).map (·.ID))/\S1.dead=S.dead/\PJ b S H H')) X) X:=by
    rw[hob]
    refine UX (s1.ta _ hv1) ((c1.tg _ hv' _ _ _).2 ⟨hnl,by rw[hd,hvv]⟩) ⟨b,rfl,?_⟩
    obtain⟨s2,f2⟩:=s1.Ala hv1 ⟨Df (S1.ta (xs[k]).Var.toNat).ids (⟨(xs[k]).Lo,(xs[k]).Hi⟩:K2)⟩
    refine⟨_,s2.st,rfl,?_⟩
    refine Zd (m:=xs[k]) s2.po c1.po (by rw[c1.nd,if_neg hnl];exact hn) λx' hx hj hm' hr hle=>?_
    obtain⟨s3,f3⟩:=s2.Alb x'
    refine⟨by show k+1<=_;omega,xs.length-(k+1),by omega,rfl,rfl,by show k+1<=_;omega,_,s3,?_,d1,?_⟩
    .have:=c1.step hI hn hnl hx hj hm' hr hle rfl
     have hmem:∀j,j∈(xs[k]).ID::(xs.take k).map (·.ID)↔j∈(xs.take k).map (·.ID)++[(xs[k]).ID]:=λj=>by rw[List.mem_append,List.mem_cons,List.mem_singleton];exact or_comm
     have e:(xs.take (k+1)).map (·.ID)=(xs.take k).map (·.ID)++[(xs[k]).ID]:=by show (xs.take (k+1)).map (·.ID)=_;rw[List.take_succ_eq_append_getElem hkl',List.map_append];rfl
     rw[e]
     refine⟨this.po,λj=>?_,?_,this.room,this.len,this.lv,this.tb,this.bl,this.bp,this.cn,this.tn,λv hv lo hi i=>?_⟩
     .rw[this.nd];simp only[hmem j]
     .rw[this.many];simp
     .rw[this.tg v hv,hmem i]
    .exact(f1.trans (f2.trans f3 rfl rfl rfl).n c1.bl c1.bp c1.tb)
   refine⟨hkl',b,rfl,⟨S1.ob,s1.st,λ_=>⟨λ_=>hv.2.1,by simpa [B4.ob] using hv1,by simpa [B4.ob] using hv1,rfl,cut⟩⟩,S1.ob,s1.st,λ_=>⟨λ_=>hv.2.1,by simpa [B4.ob] using hv1,by simpa [B4.ob] using hv1,rfl,cut⟩⟩
  .have hkl':¬k<xs.length:=hkl;have:k=xs.length:=by omega
   subst this;rw[List.take_length]at c1;obtain⟨s2,f2⟩:=s1.Tf S1.cn 0;obtain⟨i1,i2⟩:=c1.si hI λi=>by
    rw[List.mem_map];constructor
    .rintro⟨n,hn,rfl⟩;have:=(hg n).1 hn;exact⟨by rw[GZ this.1];simp,this.2.1⟩
    .rintro⟨h1,h2⟩;cases e:A6 S.po i with
     |none=>exact absurd e h1
     |some d=>
      obtain⟨n,hn,_⟩:=Gq e;have hid:=hP.id _ _ hn;have hdm:=hI.sc.cn.KB e;exact⟨n,(hg n).2 ⟨by rw[hid];exact hn,by rw[hid];exact h2,by omega,by omega⟩,hid⟩
   exact⟨b,rfl,S1.ob,s1.st,λ_=>h {S1 with dead:=0} _ _ s2 i1 i2 (f1.trans f2.n c1.bl c1.bp c1.tb)⟩
end
section
section
variable {κ β:Type} [DecidableEq κ]
theorem Hr:∀{m:List (κ×β)}{p:κ×β},Pq m->p∈m->Ae m p.1=some p.2
 |q::m,p,h,hp=>by
  obtain⟨h1,h2⟩:=List.nodup_cons.1 h;show (if q.1=p.1 then some q.2 else Ae m p.1)=some p.2;rcases List.mem_cons.1 hp with rfl|hp
  .exact if_pos rfl
  .rw[if_neg λe=>h1 (by show q.1∈_;rw[e];exact List.mem_map_of_mem (f:=Prod.fst) hp)];exact Hr h2 hp
theorem I9:∀{m:List (κ×β)}{k:κ}{v:β},Ae m k=some v->(k,v)∈m
 |q::m,k,v,h=>by
  have h:(if q.1=k then some q.2 else Ae m k)=some v:=h;split at h
  .rename_i e;cases h;subst e;exact List.mem_cons_self
  .exact List.mem_cons_of_mem _ (I9 h)
end
theorem Agu{α:Type}(f:α->Nat){l:List α}{n:Nat}(hn:l.Nodup)(hf:∀a∈l,f a<n)(hi:∀a∈l,∀b∈l,f a=f b->a=b):l.length<=n:=by
 have h1:(l.map f).Nodup:=by rw[List.Nodup,List.pairwise_map];exact hn.imp_of_mem λ{a b}ha hb hne e=>hne (hi a ha b hb e)
 have:=Ih (m:=List.range n) h1 λk hk=>by obtain⟨a,ha,rfl⟩:=List.mem_map.1 hk;exact List.mem_range.2 (hf a ha)
 simpa using this
theorem Aam{b:Nat}{x:Az}{y:FT Y0 [.u 17,.int .i64] [.bool]}{H0:HY}{X:PX}{Q:Unit->UU}(hx:H0 b=some (.st BC x))(hnd:Pq x.ids)(hlen:x.ids.length<=2000000)(J:List K2->HP)(h0:J [] H0)(hp:∀d H,J d H->H b=some (.st BC x))(hy:∀(d:List K2)(k:K2)(i:Int)H(Q:Bool×Unit->HP),J d H->Ae x.ids k=some i->k∉d->d.length<2000000->(∀H',J (d++[k]) H'->Q (true,()) H')->y (k,i,()) H Q X)(hq:∀d H,J d H->d.Nodup->(∀k i,Ae x.ids k=some i->k∈d)->Q () () H):Wp Y0 Hf ET (y,some b,()) H0 Q X:=by
 apply P6;unfold Ki;refine⟨λh=>absurd h (by simp),λ_=>⟨b,rfl,x,hx,⟨rfl,trivial⟩,λleft z H=>H=H0/\∃d:List (K2×Int),d.map (·.1)=z.1/\(d++left).Perm x.ids,⟨rfl,⟨rfl,trivial⟩,⟨rfl,[],rfl,List.Perm.refl _⟩⟩,?_⟩⟩;rintro left ⟨ks,_⟩ H ⟨rfl,d,hd,hpm⟩;have hd:d.map (·.1)=ks:=hd;subst hd;refine⟨λhl=>?_,λl1 p l2 hl=>?_⟩
 .subst hl;rw[List.append_nil]at hpm;have hlen':d.length<=2000000:=by rw[hpm.length_eq];exact hlen
  refine⟨⟨b,x,rfl,Ai _ _ _⟩,by show (d.map (·.1)).length<_;rw[List.length_map];omega,λxs hxs _=>?_⟩;rw[KA hx];have hxs:xs.Perm (d.map (·.1)):=hxs;have hxl:xs.length<=2000000:=by rw[hxs.length_eq,List.length_map];exact hlen'
  have hxk:xs.Perm (x.ids.map (·.1)):=hxs.trans (hpm.map _);have hxn:xs.Nodup:=hxk.nodup_iff.2 hnd;have hmem:∀k,k∈xs↔∃i,Ae x.ids k=some i:=λk=>by
   rw[hxk.mem_iff];constructor
   .intro h;obtain⟨q,hq,rfl⟩:=List.mem_map.1 h;exact⟨_,Hr hnd hq⟩
   .rintro⟨i,h⟩;exact List.mem_map_of_mem (f:=Prod.fst) (I9 h)
  refine⟨λn z H'=>z.1=xs/\n=xs.length-z.2.1/\z.2.1<=xs.length/\J (xs.take z.2.1) H',⟨_,rfl,rfl,Nat.zero_le _,h0⟩,?_⟩;rintro n ⟨ys,k,_⟩ H' ⟨e0,hn0,hk0,hJ0⟩;have e0:ys=xs:=e0;subst e0;have hn:n=ys.length-k:=hn0;have hk:k<=ys.length:=hk0;have hJ:J (ys.take k) H':=hJ0;clear hn0 hk0 hJ0;refine⟨λhkl _=>?_,λhkl=>?_⟩
  .have hkl':k<ys.length:=hkl;obtain⟨i,hi⟩:=(hmem ys[k]).1 (List.getElem_mem hkl');refine⟨hkl',hkl',b,rfl,x,hp _ _ hJ,rfl,?_⟩;have hi':(Ae x.ids ys[k]).getD 0=i:=by rw[hi];rfl
   show y (ys[k],(Ae x.ids ys[k]).getD 0,()) H' _ X;rw[hi'];refine hy (ys.take k) ys[k] i H' _ hJ hi (λhm=>?_) (by rw[List.length_take];omega) λH'' hJ''=>⟨λh=>absurd rfl h,λ_=>⟨by show k+1<=_;omega,ys.length-(k+1),by omega,rfl,rfl,by show k+1<=_;omega,?_⟩⟩
   .obtain⟨j,hj,e⟩:=List.mem_iff_getElem.1 hm;rw[List.length_take]at hj;rw[List.getElem_take]at e;have:=(List.getElem_inj hxn).1 e;omega
   .show J (ys.take (k+1)) H'';rw[List.take_succ_eq_append_getElem hkl'];exact hJ''
  .have hkl':¬k<ys.length:=hkl;have:k=ys.length:=by omega
   subst this;rw[List.take_length]at hJ;exact hq ys H' hJ hxn λk i h=>(hmem k).2 ⟨i,h⟩
 .subst hl;have hl2:d.length+1<=x.ids.length:=by rw[<-hpm.length_eq];simp;omega
  refine⟨?_,rfl,⟨rfl,trivial⟩,rfl,d++[p],by simp,?_⟩
  .show ((d.map (·.1)).length+1)*16<=_;rw[List.length_map];omega
  .refine List.Perm.trans ?_ hpm;rw[List.append_assoc];exact List.Perm.append_left d (by simpa using (List.perm_middle (a:=p) (l₁:=l1) (l₂:=l2)).symm)
theorem SI.Ayn{S:B4}(h:SI S){v:Nat}(hv:v<S.tb.length):(S.ta v).ids.length<=2000000:=by
 have hn:=h.tn v hv;have key:∀p∈(S.ta v).ids,A6 S.po p.2=some ⟨(v:Int),p.1.a0,p.1.a1⟩:=λp hp=>(h.tg v hv p.1.a0 p.1.a1 p.2).1 (Hr hn hp);refine Agu (λp=>p.2.toNat) (?_:(S.ta v).ids.Nodup) (λp hp=>?_) λp hp q hq e=>?_
 .have:((S.ta v).ids.map (·.1)).Nodup:=hn;rw[List.Nodup,List.pairwise_map]at this;exact this.imp λh e=>h (by rw[e])
 .have:=h.ib (key p hp);omega
 .have h1:=key p hp;have h2:=key q hq;have:=h.ib h1;have:=h.ib h2;have e:p.2=q.2:=by have e:p.2.toNat=q.2.toNat:=e;omega
  rw[<-e,h1]at h2;have h3:=Option.some.inj h2;have e1:p.1.a0=q.1.a0:=congrArg B.Nd.lo h3;have e2:p.1.a1=q.1.a1:=congrArg B.Nd.hi h3;obtain⟨⟨a,b⟩,c⟩:=p;obtain⟨⟨a',b'⟩,c'⟩:=q;simp only at e e1 e2;subst e e1 e2;rfl
structure TnE(S:B4)(x y:Int)(t:AB):Prop where
 nd:Gi S.po t.n.ID=some t.n
 v:t.n.Var=x
 l:(t.ll,t.lh)=B.sp (A6 S.po) y t.n.Lo
 h:(t.hl,t.hh)=B.sp (A6 S.po) y t.n.Hi
 ne:t.ll≠t.lh∨t.hl≠t.hh
def kyT(t:AB):K2:=⟨t.n.Lo,t.n.Hi⟩
theorem WZ{b:Nat}{S:B4}{x y:Int}{H:HY}{X:PX}{Q:List AB×Unit->UU}(hS:BX H b S)(hI:SI S)(hx:0<=x/\x<S.n)(h:∀L H',BX H' b S->PJ b S H H'->(L.map (·.n.ID)).Nodup->L.length<=2000000->(∀t∈L,TnE S x y t)->(∀i n,Gi S.po i=some n->n.Var=x->(B.MU (A6 S.po) y n.Lo∨B.MU (A6 S.po) y n.Hi)->∃t∈L,t.n=n)->Q (L,()) () H'):Wp Y0 HQ F4 (some b,x,y,()) H Q X:=by
 apply QH;unfold KT;intro b2 hb2;have hP:=hI.sc.po;have bne:∀{c:Nat},H c≠none->c≠b2:=λhc e=>hc (by rw[e];exact hb2);have hx':x.toNat<S.tb.length:=by have:=hx.2;unfold B4.n at this;omega
 have hxx:((x.toNat:Nat):Int)=x:=by omega
 refine⟨b,rfl,S.ob,by rw[Af _ _ (bne (by rw[hS.st];simp))];exact hS.st,λ_=>⟨λ_=>hx.1,by simpa [B4.ob] using hx',by simpa [B4.ob] using hx',rfl,λl r hl0=>?_⟩⟩;have hlb:l≠b2:=λe=>by rw[e,Ai]at hl0;cases hl0
 have hl:H l=none:=by rw[Af _ _ hlb]at hl0;exact hl0
 have lne:∀{c:Nat},H c≠none->c≠l:=λhc e=>hc (by rw[e];exact hl);have hob:S.ob.tables[x.toNat]'(by simpa [B4.ob] using hx')=some S.tb[x.toNat]:=by simp [B4.ob]
 rw[hob];have old0:∀c,H c≠none->Ac (Ac H b2 (Ob.st AQ [])) l (Ob.lp r) c=H c:=λc hc=>by rw[Af _ _ (lne hc),Af _ _ (bne hc)]
 have hg:=hI.tg x.toNat hx';simp only[hxx]at hg;refine Aam (x:=S.ta x.toNat) (hS.KR old0 |>.ta x.toNat hx') (hI.tn _ hx') (hI.Ayn hx') (λd H'=>∃L:List AB,H' b2=some (.st AQ L)/\H' l=some (.lp r)/\(∀c,H c≠none->H' c=H c)/\L.length<=d.length/\(L.map kyT).Nodup/\(∀t∈L,TnE S x y t/\kyT t∈d)/\
  ∀i n,Gi S.po i=some n->n.Var=x->(⟨n.Lo,n.Hi⟩:K2)∈d->(B.MU (A6 S.po) y n.Lo∨B.MU (A6 S.po) y n.Hi)->∃t∈L,t.n=n) ?_ (λd H'⟨L,_,_,h3,_⟩=>(hS.KR h3).ta x.toNat hx') (λd k i H' Q'⟨L,j1,j2,j3,j4,j5,j6,j7⟩hk hkd hdl hQ=>?_) λd H'⟨L,j1,j2,j3,j4,j5,j6,j7⟩hdn hall=>.inl ⟨j2,λr'=>⟨L,?_,?_⟩⟩
 .exact⟨[],by rw[Af _ _ (Ne.symm hlb),Ai],Ai _ _ _,old0,Nat.le_refl _,List.nodup_nil,λt ht=>absurd ht List.not_mem_nil,λi n _ _ hd=>absurd hd List.not_mem_nil⟩
 .have hd:=(hg k.a0 k.a1 i).1 hk;obtain⟨n,hn,hv,hlo,hhi⟩:=Gq hd;simp only at hv hlo hhi;have hid:=hP.id _ _ hn;have old1:∀c,H c≠none->Ac H' l (Ob.lp (CE r)) c=H c:=λc hc=>by rw[Af _ _ (lne hc)];exact j3 c hc
  have s1:=hS.KR old1;refine⟨j2,j2,b,rfl,S.ob,s1.st,rfl,?_⟩;refine Gz (x:=S.po) s1.po hP (λh0=>absurd (h0.symm.trans hn) (by simp)) λn' hn'=>?_;have:n'=n:=by rw[hn]at hn';cases hn';rfl
  subst this;obtain⟨kl,kh⟩:=hI.kids _ _ hd;simp only at kl kh;rw[<-hlo]at kl;rw[<-hhi]at kh;refine Oq s1 hP kl (Oq s1 hP kh ?_);have hkey:(⟨n'.Lo,n'.Hi⟩:K2)=k:=by rw[hlo,hhi]
  have yes:((B.sp (A6 S.po) y n'.Lo).1≠(B.sp (A6 S.po) y n'.Lo).2∨(B.sp (A6 S.po) y n'.Hi).1≠(B.sp (A6 S.po) y n'.Hi).2)->∃z:List AB,Ac H' l (Ob.lp (CE r)) b2=some (Ob.st AQ z)/\(z.length+1)*72<=140737488355328/\Ac (Ac H' l (Ob.lp (CE r))) b2 (Ob.st AQ (z++[⟨n',(B.sp (A6 S.po) y n'.Lo).1,(B.sp (A6 S.po) y n'.Lo).2,(B.sp (A6 S.po) y n'.Hi).1,(B.sp (A6 S.po) y n'.Hi).2⟩])) l=some (Ob.lp (CE r))/\
    Q' (true,()) (Ac (Ac (Ac H' l (Ob.lp (CE r))) b2 (Ob.st AQ (z++[⟨n',(B.sp (A6 S.po) y n'.Lo).1,(B.sp (A6 S.po) y n'.Lo).2,(B.sp (A6 S.po) y n'.Hi).1,(B.sp (A6 S.po) y n'.Hi).2⟩]))) l (Ob.lp r)):=λhne=>by
   refine⟨L,by rw[Af _ _ (Ne.symm hlb)];exact j1,by omega,by rw[Af _ _ hlb,Ai],hQ _ ⟨L++[⟨n',(B.sp (A6 S.po) y n'.Lo).1,(B.sp (A6 S.po) y n'.Lo).2,(B.sp (A6 S.po) y n'.Hi).1,(B.sp (A6 S.po) y n'.Hi).2⟩],by rw[Af _ _ (Ne.symm hlb),Ai];rfl,Ai _ _ _,λc hc=>by rw[Af _ _ (lne hc),Af _ _ (bne hc),Af _ _ (lne hc)];exact j3 c hc,by simp;omega,?_,λt ht=>?_,λi2 n2 h2 hv2 hd2 hy2=>?_⟩⟩
   .rw[List.map_append,List.nodup_append]
    refine⟨j5,by simp,λa ha c hc=>?_⟩
    obtain⟨t,ht,rfl⟩:=List.mem_map.1 ha
    simp only[List.map_cons,List.map_nil,List.mem_singleton]at hc
    intro e
    rw[hc]at e
    have:=(j6 t ht).2
    rw[e]at this
    exact hkd (by rw[<-hkey];exact this)
   .rcases List.mem_append.1 ht with ht|ht
    .exact⟨(j6 t ht).1,List.mem_append_left _ (j6 t ht).2⟩
    .rw[List.mem_singleton]at ht
     subst ht
     refine⟨⟨by rw[hid];exact hn,hv,rfl,rfl,hne⟩,List.mem_append_right _ ?_⟩
     rw[List.mem_singleton];exact hkey
   .rcases List.mem_append.1 hd2 with hd2|hd2
    .obtain⟨t,ht,e⟩:=j7 i2 n2 h2 hv2 hd2 hy2
     exact⟨t,List.mem_append_left _ ht,e⟩
    .rw[List.mem_singleton]at hd2
     have e1:n2.Lo=k.a0:=congrArg Ah.a0 hd2
     have e2:n2.Hi=k.a1:=congrArg Ah.a1 hd2
     have h3:=GZ h2
     rw[hv2,e1,e2]at h3
     have:i2=i:=hI.BP.XD h3 hd
     subst this
     rw[hn]at h2;cases h2
     exact⟨_,List.mem_append_right _ (List.mem_singleton.2 rfl),rfl⟩
  refine⟨λhne=>yes (.inl hne),λhe1=>⟨λhne=>yes (.inr hne),λhe2=>⟨Ai _ _ _,hQ _ ⟨L,?_,Ai _ _ _,λc hc=>?_,by simp;omega,j5,λt ht=>⟨(j6 t ht).1,List.mem_append_left _ (j6 t ht).2⟩,λi2 n2 h2 hv2 hd2 hy2=>?_⟩⟩⟩⟩
  .rw[Af _ _ (Ne.symm hlb),Af _ _ (Ne.symm hlb)];exact j1
  .rw[Af _ _ (lne hc),Af _ _ (lne hc)];exact j3 c hc
  .rcases List.mem_append.1 hd2 with hd2|hd2
   .exact j7 i2 n2 h2 hv2 hd2 hy2
   .exfalso;rw[List.mem_singleton]at hd2;have e1:n2.Lo=k.a0:=congrArg Ah.a0 hd2;have e2:n2.Hi=k.a1:=congrArg Ah.a1 hd2;have h3:=GZ h2;rw[hv2,e1,e2]at h3;have:i2=i:=hI.BP.XD h3 hd;subst this;rw[hn]at h2;cases h2;rcases hy2 with h4|h4
    .exact(hI.BP.XI.1 h4) (Classical.not_not.1 he1)
    .exact(hI.BP.XI.1 h4) (Classical.not_not.1 he2)
 .rw[Af _ _ (Ne.symm hlb)];exact j1
 .have f:∀c,H c≠none->Cs (Ac H' l (Ob.lp r')) b2 c=H c:=λc hc=>by unfold Cs;rw[if_neg (bne hc),Af _ _ (lne hc)];exact j3 c hc
  refine h L _ (hS.KR f) (λc hc _ _ _ _=>f c hc) ?_ ?_ (λt ht=>(j6 t ht).1) λi n hn hv hy=>?_
  .rw[List.Nodup,List.pairwise_map]at j5 ⊢;refine j5.imp_of_mem λ{s t}hs ht hne e=>hne ?_;have h1:=(j6 s hs).1.nd;have h2:=(j6 t ht).1.nd;rw[e,h2]at h1;unfold kyT;rw[Option.some.inj h1]
  .have h1:(L.map kyT).length<=(S.ta x.toNat).ids.length:=by
    have:=Ih (m:=(S.ta x.toNat).ids.map (·.1)) j5 λk hk=>by obtain⟨t,ht,rfl⟩:=List.mem_map.1 hk;have:=GZ (j6 t ht).1.nd;rw[(j6 t ht).1.v]at this;exact List.mem_map_of_mem (f:=Prod.fst) (I9 ((hg _ _ _).2 this))
    simpa using this
   rw[List.length_map]at h1;have:=hI.Ayn hx';omega
  .have h1:=GZ hn;rw[hv]at h1;exact j7 i n hn hv (hall _ _ ((hg _ _ _).2 h1)) hy
end
end Go.Proofs.YtcbkbpjlbmalmaaGreatDoor
namespace Go.B
section
theorem Ad1{f:Int->Int}:∀{m:Nat},0<sm m f->∃k:Int,0<=k/\k<m/\0<f k
 |0,h=>by simp [sm]at h
 |m+1,h=>by
  by_cases hm:0<f m
  .exact⟨m,by omega,by omega,hm⟩
  .have h1:sm (m+1) f=sm m f+f m:=rfl;obtain⟨k,a,b,c⟩:=Ad1 (f:=f) (m:=m) (by omega);exact⟨k,a,by omega,c⟩
theorem Auv{N:Tb}{c:Int->Int}{i p:Int}(h:0<pt N c i p):∃d,N p=some d/\0<c p/\(i=d.lo/2∨i=d.hi/2):=by
 unfold pt at h;split at h
 .rename_i d hd;split at h
  .rename_i hc;refine⟨d,hd,hc,?_⟩;unfold mu dl at h;by_cases h1:d.lo/2=i
   .exact .inl h1.symm
   .by_cases h2:d.hi/2=i
    .exact .inr h2.symm
    .rw[if_neg h1,if_neg h2]at h;omega
  .omega
 .omega
section
variable {n:Int} {lv:Int->Int} {N:Tb} {m:Nat} {c r:Int->Int}
variable {i:Int} {d:Nd}
theorem Cn.why(h:Cn N m c r)(hd:N i=some d)(hc:0<c i):0<r i∨∃p dp,N p=some dp/\0<c p/\(i=dp.lo/2∨i=dp.hi/2):=by
 have h1:=h.eq hd;by_cases hr:0<r i
 .exact .inl hr
 .obtain⟨p,_,_,h2⟩:=Ad1 (f:=pt N c i) (m:=m) (by omega);obtain⟨dp,a,b,e⟩:=Auv h2;exact .inr ⟨p,dp,a,b,e⟩
theorem Good.par(g:Good n lv N){p:Int}{dp:Nd}(hd:N i=some d)(hp:N p=some dp)(h:i=dp.lo/2∨i=dp.hi/2):lv dp.v<lv d.v:=by
 have h0:=(g.var hd).1;rcases h with e|e
 .have:=(g.lo hp).2;rwa [Bl (by omega) (by rw[<-e];exact hd)]at this
 .have:=(g.hi hp).2;rwa [Bl (by omega) (by rw[<-e];exact hd)]at this
theorem Good.node2(g:Good n lv N)(hd:N i=some d):2*i/2=i/\Ok N (2*i)/\el n lv N (2*i)=lv d.v:=by
 have h0:=(g.var hd).1;have h2:2*i/2=i:=by omega
 exact⟨h2,⟨by omega,.inr ⟨d,by rw[h2];exact hd⟩⟩,Bl (by omega) (by rw[h2];exact hd)⟩
theorem Cn.Aw7(g:Good n lv N)(hn:0<=n)(h:Cn N m c r)(hl:∀i d,N i=some d->0<c i){R:List Fn}(hR:∀i d,N i=some d->0<r i->∃f∈R,∃s:Bool,∀a,den N (2*i) a=(s ^^ f a)):Rh n lv N R:=by
 have key:∀(k:Nat)i d,N i=some d->lv d.v<k->∃f∈R,SO lv (lv d.v) f (den N (2*i)):=by
  intro k;induction k with
  |zero=>intro i d hd hk;have:=g.var hd;have:=g.od.MT _ this.2.1 this.2.2;omega
  |succ k ih=>
   intro i d hd hk;obtain⟨h2,hok,hel⟩:=g.node2 hd;have dep:=g.dep hok (k:=lv d.v) (by omega);rcases h.why hd (hl i d hd) with hr|⟨p,dp,hp,_,hc⟩
   .obtain⟨f,hf,s,hs⟩:=hR i d hd hr;refine⟨f,hf,s,λ_=>false,λa=>?_⟩;rw[<-hs];exact dep _ _ λv _ _ h2=>(if_neg (by omega)).symm
   .have hlt:=g.par hd hp hc;obtain⟨f,hf,hcof⟩:=ih p dp hp (by omega);obtain⟨p2,pok,pel⟩:=g.node2 hp;have hp0:=(g.var hp).1;refine⟨f,hf,?_⟩;have one:∀(b:Bool)(e:Int),e=(if b=true then dp.hi else dp.lo)->i=e/2->Ok N e->SO lv (lv d.v) f (den N (2*i)):=λb e he hi hoe=>by
     have h3:SO lv (lv d.v) f (den N e):=hcof.set (v:=dp.v) (c:=b) hlt (Int.le_refl _) (λa=>by rw[g.cof hn (e:=2*p) (by omega) (by rw[p2];exact hp) b a,<-he];simp) (g.dep hoe (by rw[Bl (by have:=(g.var hd).1;omega) (by rw[<-hi];exact hd)];exact Int.le_refl _))
     have hd2:den N (2*i)=λa=>(decide (e%2=1)) ^^ den N e a:=by
      have h4:2*i=fl e e:=by
       unfold fl flip;split
       .rename_i h5;rw[if_neg (by omega)];omega
       .omega
      funext a;rw[h4,IL hoe]
     rw[hd2];exact h3.sign _
    rcases hc with e|e
    .exact one false dp.lo rfl e (g.lo hp).1
    .exact one true dp.hi rfl e (g.hi hp).1
 intro i d hd;have hv:=g.var hd;have:=g.od.MT _ hv.2.1 hv.2.2;exact .inr (key (lv d.v+1).toNat i d hd (by omega))
theorem Cn.Aq0(g:Good n lv N)(h:Cn N m c r)(hl:∀i d,N i=some d->0<c i){M:Tb}{m':Nat}{c' r':Int->Int}(h':Cn M m' c' r')(hr:∀i,0<=r i)(hrr:∀i,r i<=r' i){a:Int}(hs:∀i d,N i=some d->lv d.v<a->M i=some d):∀(k:Nat)i d d',N i=some d->lv d.v<=a->lv d.v<k->M i=some d'->0<c' i:=by
 intro k;induction k with
 |zero=>intro i d _ hd _ hk;have:=g.var hd;have:=g.od.MT _ this.2.1 this.2.2;omega
 |succ k ih=>
  intro i d d' hd ha hk hd';rcases h.why hd (hl i d hd) with hr0|⟨p,dp,hp,_,hc⟩
  .have:=h'.ge hd';have:=hrr i;omega
  .have hlt:=g.par hd hp hc;have hpM:=hs p dp hp (by omega);exact h'.kid (λ{i _}_=>Int.le_trans (hr i) (hrr i)) hpM (ih p dp dp hp (by omega) (by omega) hpM) hd' hc
theorem Cn.set(h:Cn N m c r){p:Int}{d':Nd}(hp:N p=some d)(hc:0<c p):Cn (λj=>if j=p then some d' else N j) m c (λi=>r i+mu d i-mu d' i)/\sm m (zr (λj=>if j=p then some d' else N j) c)=sm m (zr N c):=by
 have hdom:=h.KB hp;have of:∀{i e},(if i=p then some d' else N i)=some e->∃e',N i=some e':=λ{i e}hi=>by
  split at hi
  .rename_i e;exact⟨d,by rw[e];exact hp⟩
  .exact⟨e,hi⟩
 have hpt:∀i,sm m (pt (λj=>if j=p then some d' else N j) c i)=sm m (pt N c i)+(mu d' i-mu d i):=λi=>by rw[Te (f:=pt (λj=>if j=p then some d' else N j) c i) (g:=pt N c i) (Int.le_of_lt hdom.1) hdom.2 λk hk=>by unfold pt;simp only[hk,if_false]];congr 1;unfold pt;simp only[hp,hc,if_true]
 refine⟨⟨λhi=>?_,λhi=>?_,λ{i e}hi=>?_⟩,Ff λk _ _=>?_⟩
 .obtain⟨_,h1⟩:=of hi;exact h.KB h1
 .obtain⟨_,h1⟩:=of hi;exact h.nn h1
 .obtain⟨_,h1⟩:=of hi;rw[hpt,h.eq h1];omega
 .unfold zr;by_cases e:k=p
  .subst e;simp only[if_true,hp]
  .simp only[e,if_false]
end
def Tn(N:Tb)(x y i:Int)(d:Nd):Prop:=N i=some d/\d.v=x/\(MU N y d.lo∨MU N y d.hi)
structure W6(n:Int)(lv:Int->Int)(N:Tb)(x y:Int)(D:Int->Prop)(M:Tb):Prop where
 stay:∀{i d},N i=some d->¬(Tn N x y i d/\D i)->M i=some d
 SY:∀{i d},Tn N x y i d->D i->∃lo hi,M i=some ⟨y,lo,hi⟩/\Ri M x (sp N y d.lo).1 (sp N y d.hi).1 lo/\Ri M x (sp N y d.lo).2 (sp N y d.hi).2 hi
 new:∀{i d},N i=none->M i=some d->0<i/\d.v=x/\Ok N d.lo/\Ok N d.hi/\lv y<el n lv N d.lo/\lv y<el n lv N d.hi/\d.lo≠d.hi/\d.hi%2=0
 XD:∀{i j d},d.v=x->M i=some d->M j=some d->i=j
section
variable {n:Int} {lv:Int->Int} {N:Tb} {x y:Int} {D:Int->Prop} {M:Tb}
theorem W6.swp(h:W6 n lv N x y D M)(hD:∀{i d},Tn N x y i d->D i):Swp n lv N x y M where
 stay hd hc:=h.stay hd λ⟨k,_⟩=>hc k.2
 SY hd h1 h2:=h.SY ⟨hd,h1,h2⟩ (hD ⟨hd,h1,h2⟩)
 new:=h.new
 XD:=h.XD
theorem W6.start(g:Good n lv N):W6 n lv N x y (λ_=>False) N where
 stay hd _:=hd
 SY _ h:=h.elim
 new h k:=by rw[h]at k;cases k
 XD _ h k:=g.XD h k
variable {i:Int} {d:Nd}
theorem W6.KB(h:W6 n lv N x y D M)(hd:N i=some d):∃d',M i=some d'/\(d'=d∨(d.v=x/\d'.v=y)):=by
 by_cases hc:Tn N x y i d/\D i
 .obtain⟨lo,hi,h1,_⟩:=h.SY hc.1 hc.2;exact⟨_,h1,.inr ⟨hc.1.2.1,rfl⟩⟩
 .exact⟨d,h.stay hd hc,.inl rfl⟩
variable {e:Int}
theorem W6.ok(h:W6 n lv N x y D M)(he:Ok N e):Ok M e:=⟨he.1,he.2.imp id λ⟨_,hd⟩=>by obtain⟨d',h1,_⟩:=h.KB hd;exact⟨d',h1⟩⟩
theorem W6.RM(g:Good n lv N)(PH:lv y=lv x+1)(h:W6 n lv N x y D M)(he:Ok N e)(hl:lv y<el n lv N e)(hd:M (e/2)=some d):d.v≠x:=by
 by_cases h0:e/2=0
 .rw[h0]at hd;cases hz:N 0 with
  |some d0=>have:=(g.var hz).1;omega
  |none=>exact absurd (h.new hz hd).1 (by omega)
 .obtain⟨d0,hd0⟩:=he.2.resolve_left h0;rw[Bl h0 hd0]at hl;obtain⟨d',h1,h2⟩:=h.KB hd0;rw[hd]at h1;cases h1;rcases h2 with rfl|⟨h2,_⟩
  .intro e;rw[e]at hl;omega
  .rw[h2]at hl;omega
theorem Good.four(g:Good n lv N)(hn:0<=n)(hy:0<=y/\y<n)(PH:lv y=lv x+1)(hd:N i=some d)(hv:d.v=x):(∀k,k=d.lo∨k=d.hi->Ok N (sp N y k).1/\Ok N (sp N y k).2/\lv y<el n lv N (sp N y k).1/\lv y<el n lv N (sp N y k).2/\∀a,den N k a=if a y=true then den N (sp N y k).2 a else den N (sp N y k).1 a):=by
 intro k hk;obtain⟨l1,l2⟩:=g.lo hd;obtain⟨u1,u2⟩:=g.hi hd;rw[hv]at l2 u2;have hok:Ok N k/\lv y<=el n lv N k:=by
  rcases hk with rfl|rfl
  .exact⟨l1,by omega⟩
  .exact⟨u1,by omega⟩
 obtain⟨a1,a2,a3,a4,a5,_⟩:=g.It hn hy hok.1 hok.2;exact⟨a1,a2,a3,a4,a5⟩
theorem Good.Ady(g:Good n lv N)(hn:0<=n){f:Int}(he:Ok N e)(hf:Ok N f)(de:∀a,den N e a=if a y=true then den N (sp N y e).2 a else den N (sp N y e).1 a)(df:∀a,den N f a=if a y=true then den N (sp N y f).2 a else den N (sp N y f).1 a)(h1:(sp N y e).1=(sp N y f).1)(h2:(sp N y e).2=(sp N y f).2):e=f:=
 g.eq hn he hf (by funext a;rw[de,df,h1,h2])
theorem W6.A1u(g:Good n lv N)(hn:0<=n)(hx:0<=x/\x<n)(hy:0<=y/\y<n)(PH:lv y=lv x+1)(h:W6 n lv N x y D M)(hi:Tn N x y i d)(hD:¬D i){lo hh:Int}(b1:Ri M x (sp N y d.lo).1 (sp N y d.hi).1 lo)(b2:Ri M x (sp N y d.lo).2 (sp N y d.hi).2 hh)(j:Int):M j≠some ⟨y,lo,hh⟩:=by
 intro hj;have hne:x≠y:=λe=>by rw[e]at PH;omega
 obtain⟨hd,hv,hc⟩:=hi;have fl:=g.four hn hy PH hd hv _ (.inl rfl);have fh:=g.four hn hy PH hd hv _ (.inr rfl);cases hN:N j with
 |none=>exact hne (h.new hN hj).2.1.symm
 |some dj=>
  by_cases hcj:Tn N x y j dj/\D j
  .obtain⟨lo',hi',h1,k1,k2⟩:=h.SY hcj.1 hcj.2;rw[hj]at h1;injection h1 with h1
   obtain⟨rfl,rfl⟩:lo=lo'/\hh=hi':=⟨congrArg Nd.lo h1,congrArg Nd.hi h1⟩
   obtain⟨hdj,hvj,_⟩:=hcj.1;have kl:=g.four hn hy PH hdj hvj _ (.inl rfl);have kh:=g.four hn hy PH hdj hvj _ (.inr rfl);obtain⟨e1,e2⟩:=b1.inj k1 (λ_=>h.RM g PH fl.1 fl.2.2.1) (λ_=>h.RM g PH kl.1 kl.2.2.1);obtain⟨e3,e4⟩:=b2.inj k2 (λ_=>h.RM g PH fl.2.1 fl.2.2.2.1) (λ_=>h.RM g PH kl.2.1 kl.2.2.2.1);have e5:d.lo=dj.lo:=g.Ady hn (g.lo hd).1 (g.lo hdj).1 fl.2.2.2.2 kl.2.2.2.2 e1 e3;have e6:d.hi=dj.hi:=g.Ady hn (g.hi hd).1 (g.hi hdj).1 fh.2.2.2.2 kh.2.2.2.2 e2 e4;have e7:d=dj:=by cases d;cases dj;simp only at e5 e6 hv hvj;subst hv;subst e5;subst e6;rw[hvj]
   rw[<-e7]at hdj;exact hD (by rw[g.XD hd hdj];exact hcj.2)
  .have h1:=h.stay hN hcj;rw[hj]at h1;injection h1 with h1
   have hjl:=g.lo hN;have hjh:=g.hi hN;rw[<-h1]at hjl hjh;simp only at hjl hjh;have nx:∀{a b e:Int},Ok N e->lv y<el n lv N e->Ri M x a b e->a=b/\e=a:=λ{a b e}he hl hb=>by
    rcases hb with hb|⟨_,_,_,_,h5⟩
    .exact hb
    .exact absurd rfl (h.RM g PH he hl h5)
   have n1:=nx hjl.1 hjl.2 b1;have n2:=nx hjh.1 hjh.2 b2;exact g.ne hd (g.Ady hn (g.lo hd).1 (g.hi hd).1 fl.2.2.2.2 fh.2.2.2.2 n1.1 n2.1)
noncomputable def JY(lv:Int->Int)(N:Tb)(x y i:Int):Int:=open Classical in match N i with
 |some d=>if d.v=x then (if MU N y d.lo∨MU N y d.hi then 3*lv x else 3*lv x+2) else if d.v=y then 3*lv x+1 else 3*lv d.v
 |none=>3*lv x+2
theorem W6.dag(g:Good n lv N)(hn:0<=n)(hx:0<=x/\x<n)(hy:0<=y/\y<n)(PH:lv y=lv x+1)(h:W6 n lv N x y D M):Dag M (JY lv N x y) (3*n):=by
 have hne:x≠y:=λe=>by rw[e]at PH;omega
 have rx:=g.od.MT x hx.1 hx.2;have ry:=g.od.MT y hy.1 hy.2;have rN:∀{i d},N i=some d->0<=lv d.v/\lv d.v<n:=λhd=>g.od.MT _ (g.var hd).2.1 (g.var hd).2.2;have lev:∀{i d},N i=some d->d.v≠x->d.v≠y->lv d.v<lv x∨lv y<lv d.v:=λ{i d}hd a b=>by have hv:=(g.var hd).2;have h5:lv d.v≠lv x:=λe=>a (g.od.inj _ _ hv.1 hv.2 hx.1 hx.2 e);have h6:lv d.v≠lv y:=λe=>b (g.od.inj _ _ hv.1 hv.2 hy.1 hy.2 e);omega
 have low:∀{e},Ok N e->lv y<el n lv N e->e/2≠0->3*lv x+6<=JY lv N x y (e/2):=λ{e}he hl h0=>by obtain⟨d,hd⟩:=he.2.resolve_left h0;rw[Bl h0 hd]at hl;unfold JY;rw[hd];simp only;rw[if_neg (λe=>by rw[e]at hl;omega),if_neg (λe=>by rw[e]at hl;omega)];omega
 have mrng:∀i,(∃d,M i=some d)->0<=JY lv N x y i/\JY lv N x y i<3*n:=λi⟨d,hi⟩=>by
  unfold JY;cases hd:N i with
  |none=>simp only;omega
  |some d=>have:=rN hd;simp only;split<;>(try split)<;>(try split)<;>omega
 have stay:∀{i d e},N i=some d->¬(Tn N x y i d/\D i)->Ok N e->lv d.v<el n lv N e->(MU N y e->MU N y d.lo∨MU N y d.hi)->e/2≠0->JY lv N x y i<JY lv N x y (e/2):=λ{i d e}hd hs he hl hy0 h0=>by
  obtain⟨d',hd'⟩:=he.2.resolve_left h0;rw[Bl h0 hd']at hl;have r1:=rN hd;unfold JY;rw[hd,hd'];simp only;have l1:d.v≠x->d.v≠y->_:=lev hd;have l2:d'.v≠x->d'.v≠y->_:=lev hd';by_cases a1:d.v=x
  .rw[a1]at hl;have a2:d'.v≠x:=λe=>by rw[e]at hl;omega
   rw[if_pos a1,if_neg a2];by_cases a3:d'.v=y
   .rw[if_pos a3,if_pos (hy0 ⟨d',hd',a3⟩)];omega
   .rw[if_neg a3];have:=l2 a2 a3;split<;>omega
  .rw[if_neg a1];by_cases b1:d.v=y
   .rw[b1]at hl;have a2:d'.v≠x:=λe=>by rw[e]at hl;omega
    have a3:d'.v≠y:=λe=>by rw[e]at hl;omega
    rw[if_pos b1,if_neg a2,if_neg a3];have:=l2 a2 a3;omega
   .have:=l1 a1 b1;rw[if_neg b1];by_cases a2:d'.v=x
    .rw[a2]at hl;rw[if_pos a2];split<;>omega
    .rw[if_neg a2];by_cases a3:d'.v=y
     .rw[a3]at hl;rw[if_pos a3];omega
     .rw[if_neg a3];omega
 have xrk:∀{j d},M j=some d->d.v=x->Ok N d.lo->lv y<el n lv N d.lo->Ok N d.hi->lv y<el n lv N d.hi->JY lv N x y j=3*lv x+2:=λ{j d}hj hv h1 h2 h3 h4=>by
  unfold JY;cases hd:N j with
  |none=>rfl
  |some d0=>
   simp only;by_cases hc:Tn N x y j d0/\D j
   .obtain⟨_,_,k,_⟩:=h.SY hc.1 hc.2;rw[hj]at k;cases k;exact absurd hv.symm hne
   .have:=h.stay hd hc;rw[hj]at this;cases this;have no:∀e,Ok N e->lv y<el n lv N e->¬MU N y e:=λe he hl⟨dy,hy1,hy2⟩=>by
     by_cases h0:e/2=0
     .rw[h0,g.zero]at hy1;cases hy1
     .rw[Bl h0 hy1,hy2]at hl;omega
    rw[if_pos hv,if_neg (λo=>o.elim (no _ h1 h2) (no _ h3 h4))]
 have bel:∀{a b e i},Ok N a->Ok N b->lv y<el n lv N a->lv y<el n lv N b->Ri M x a b e->JY lv N x y i=3*lv x->Ok M e/\(e/2≠0->JY lv N x y i<JY lv N x y (e/2)):=λ{a b e i}ha hb la lb hB hi=>by
  rcases hB with ⟨h1,rfl⟩|⟨h1,h2,h3,h4,h5⟩
  .exact⟨h.ok ha,λh0=>by have:=low ha la h0;omega⟩
  .refine⟨⟨h2,.inr ⟨_,h5⟩⟩,λ_=>?_⟩;rw[hi,xrk h5 rfl ha.fl (by rw[Kt];exact la) hb.fl (by rw[Kt];exact lb)];omega
 have both:∀{i d'},M i=some d'->(Ok M d'.lo/\(d'.lo/2≠0->JY lv N x y i<JY lv N x y (d'.lo/2)))/\(Ok M d'.hi/\(d'.hi/2≠0->JY lv N x y i<JY lv N x y (d'.hi/2))):=λ{i d'}hi=>by
  cases hd:N i with
  |none=>
   obtain⟨h1,h2,h3,h4,h5,h6,_⟩:=h.new hd hi;have e:=xrk hi h2 h3 h5 h4 h6;exact⟨⟨h.ok h3,λh0=>by have:=low h3 h5 h0;omega⟩,h.ok h4,λh0=>by have:=low h4 h6 h0;omega⟩
  |some d=>
   by_cases hc:Tn N x y i d/\D i
   .obtain⟨lo,hh,h1,k1,k2⟩:=h.SY hc.1 hc.2;rw[hi]at h1;cases h1;have ri:JY lv N x y i=3*lv x:=by unfold JY;rw[hd];simp only;rw[if_pos hc.1.2.1,if_pos hc.1.2.2]
    have fl:=g.four hn hy PH hd hc.1.2.1 _ (.inl rfl);have fh:=g.four hn hy PH hd hc.1.2.1 _ (.inr rfl);exact⟨bel fl.1 fh.1 fl.2.2.1 fh.2.2.1 k1 ri,bel fl.2.1 fh.2.1 fl.2.2.2.1 fh.2.2.2.1 k2 ri⟩
   .have:=h.stay hd hc;rw[hi]at this;cases this;obtain⟨l1,l2⟩:=g.lo hd;obtain⟨u1,u2⟩:=g.hi hd;exact⟨⟨h.ok l1,stay hd hc l1 l2 .inl⟩,h.ok u1,stay hd hc u1 u2 .inr⟩
 exact⟨λhi=>mrng _ ⟨_,hi⟩,λhi=>(both hi).1,λhi=>(both hi).2⟩
theorem Ri.ext{M':Tb}(hM:∀j d,M j=some d->M' j=some d){a b:Int}(h:Ri M x a b e):Ri M' x a b e:=by
 rcases h with h|⟨h1,h2,h3,h4,h5⟩
 .exact .inl h
 .exact .inr ⟨h1,h2,h3,h4,hM _ _ h5⟩
theorem noY(g:Good n lv N)(hl:lv y<el n lv N e):¬MU N y e:=λ⟨dy,h1,h2⟩=>by
 by_cases h0:e/2=0
 .rw[h0,g.zero]at h1;cases h1
 .rw[Bl h0 h1,h2]at hl;omega
theorem W6.add(g:Good n lv N)(h:W6 n lv N x y D M){a b:Int}(hi0:0<i)(hf:M i=none)(ha:Ok N a)(hb:Ok N b)(la:lv y<el n lv N a)(lb:lv y<el n lv N b)(hab:a≠b)(hreg:b%2=0)(hno:∀j,M j≠some ⟨x,a,b⟩):W6 n lv N x y D (IQ M i ⟨x,a,b⟩):=by
 have ext:=SH (d:=⟨x,a,b⟩) hf;refine⟨λhd hc=>ext _ _ (h.stay hd hc),λht hD=>?_,λ{j d}hn hd=>?_,λ{j k d}hv h1 h2=>?_⟩
 .obtain⟨lo,hi,h1,h2,h3⟩:=h.SY ht hD;exact⟨lo,hi,ext _ _ h1,h2.ext ext,h3.ext ext⟩
 .unfold IQ at hd;split at hd
  .rename_i e;cases hd;subst e;exact⟨hi0,rfl,ha,hb,la,lb,hab,hreg⟩
  .exact h.new hn hd
 .unfold IQ at h1 h2;split at h1
  .rename_i e1;cases h1;split at h2
   .rename_i e2;rw[e1,e2]
   .exact absurd h2 (hno _)
  .split at h2
   .cases h2;exact absurd h1 (hno _)
   .exact h.XD hv h1 h2
theorem W6.set(g:Good n lv N)(hn:0<=n)(hx:0<=x/\x<n)(hy:0<=y/\y<n)(PH:lv y=lv x+1)(h:W6 n lv N x y D M)(hi:Tn N x y i d)(hD:¬D i){lo hh:Int}(b1:Ri M x (sp N y d.lo).1 (sp N y d.hi).1 lo)(b2:Ri M x (sp N y d.lo).2 (sp N y d.hi).2 hh):W6 n lv N x y (λj=>D j∨j=i) (λj=>if j=i then some ⟨y,lo,hh⟩ else M j):=by
 have hne:x≠y:=λe=>by rw[e]at PH;omega
 have hMi:=h.stay hi.1 (λk=>hD k.2);have BA:∀{a b e:Int},lv y<el n lv N a->lv y<el n lv N b->Ri M x a b e->Ri (λj=>if j=i then some ⟨y,lo,hh⟩ else M j) x a b e:=λ{a b e}la lb hB=>by
  rcases hB with hB|⟨h1,h2,h3,h4,h5⟩
  .exact .inl hB
  .refine .inr ⟨h1,h2,h3,h4,?_⟩;show (if e/2=i then _ else M (e/2))=_;rw[if_neg λe1=>?_]
   .exact h5
   .rw[e1,hMi]at h5;injection h5 with h5
    have e2:d.lo=fl a b:=congrArg Nd.lo h5;have e3:d.hi=fl b b:=congrArg Nd.hi h5;rcases hi.2.2 with k|k
    .rw[e2]at k;exact noY g (by rw[Kt];exact la) k
    .rw[e3]at k;exact noY g (by rw[Kt];exact lb) k
 refine⟨λ{j dj}hd hc=>?_,λ{j dj}ht hDj=>?_,λ{j dj}h0 hd=>?_,λ{j k dj}hv h1 h2=>?_⟩
 .have hj:j≠i:=λe=>hc (by subst e;rw[hi.1]at hd;cases hd;exact⟨hi,.inr rfl⟩);show (if j=i then _ else M j)=_;rw[if_neg hj];exact h.stay hd λ⟨k1,k2⟩=>hc ⟨k1,.inl k2⟩
 .have fl:=g.four hn hy PH ht.1 ht.2.1 _ (.inl rfl);have fh:=g.four hn hy PH ht.1 ht.2.1 _ (.inr rfl);by_cases hj:j=i
  .subst hj;have e:=ht.1.symm.trans hi.1;injection e with e
   subst e;exact⟨lo,hh,if_pos rfl,BA fl.2.2.1 fh.2.2.1 b1,BA fl.2.2.2.1 fh.2.2.2.1 b2⟩
  .obtain⟨lo',hi',h1,h2,h3⟩:=h.SY ht (hDj.resolve_right hj);refine⟨lo',hi',?_,BA fl.2.2.1 fh.2.2.1 h2,BA fl.2.2.2.1 fh.2.2.2.1 h3⟩;show (if j=i then _ else M j)=_;rw[if_neg hj];exact h1
 .have hj:j≠i:=λe=>by subst e;rw[hi.1]at h0;cases h0
  have hd:(if j=i then _ else M j)=some dj:=hd;rw[if_neg hj]at hd;exact h.new h0 hd
 .have ne:∀{q},(if q=i then some ⟨y,lo,hh⟩ else M q)=some dj->M q=some dj:=λ{q}hq=>by
   split at hq
   .cases hq;exact absurd hv (Ne.symm hne)
   .exact hq
  exact h.XD hv (ne h1) (ne h2)
end
end
end Go.B
