/-
  slices.SortFunc as a call that is walked into. (Merged by program out of 7 texts.)
-/
import Derived.Test.YtcbkbpjlbmalmaaGreatDoorpar
import Derived.Recover
import Derived.Test.YtcbkbpjlbmalmaaGreatDoorpan
import Derived.Shelf.SlSortCmp.NoneTotal
namespace Go.Proofs.YtcbkbpjlbmalmaaGreatDoor
open Go Go.X Go.Y
theorem Avl{n k:Int}{lv:Int->Int}{N:B.Tb}{e:Int}{t:Bool}(h:At n lv N k e):At n lv N k (A7 e t):=by
 unfold A7;split
 .exact h.flip
 .exact h
theorem Aq4{N:B.Tb}{e:Int}{t:Bool}(h:B.Ok N e):B.den N (A7 e t)=λa=>(t ^^ B.den N e a):=by
 unfold A7;cases t
 .simp
 .simp only[if_true];rw[B.Rw h];funext a;simp
theorem Wv(a b:Bool):not (decide (a=true)==decide (b=true))=(a ^^ b):=by cases a<;>cases b<;>rfl
theorem Ayc{c b:Nat}:∀d,Atw c b d:=by
 intro d;induction d using Nat.strongRecOn with
 |_ d ih=>
 intro k M H f g h F X Q hC hI hV hd hk hf hg hh hcof hx hq;refine Amm _ _ _ _ _ _ _ ?_;unfold Acp;refine⟨λn x H'=>H'=H/\M.At k x.1/\M.At k x.2.1/\M.At k x.2.2.1/\(∀a,Gd (B.den M.T x.1) (B.den M.T x.2.1) (B.den M.T x.2.2.1) a=(x.2.2.2.1 ^^ Gd (B.den M.T f) (B.den M.T g) (B.den M.T h) a))/\n=3-x.2.2.2.2.1/\x.2.2.2.2.1<=3/\(0<x.2.2.2.2.1->x.1/2≠0),⟨3,rfl,hf,hg,hh,λa=>by simp,rfl,Nat.zero_le _,λh=>absurd h (Nat.lt_irrefl 0)⟩,?_⟩;rintro n ⟨f1,g1,h1,t1,m,_⟩ H' ⟨rfl,a1,a2,a3,hT,hn0,hm0,hnc0⟩;have hn:n=3-m:=hn0;have hm:m<=3:=hm0;have hnc:0<m->f1/2≠0:=hnc0;replace a1:M.At k f1:=a1;replace a2:M.At k g1:=a2;replace a3:M.At k h1:=a3;replace hT:∀a,Gd (B.den M.T f1) (B.den M.T g1) (B.den M.T h1) a=(t1 ^^ Gd (B.den M.T f) (B.den M.T g) (B.den M.T h) a):=hT;clear hn0 hm0 hnc0;have cof1:B.Cof M.lv k F (Gd (B.den M.T f1) (B.den M.T g1) (B.den M.T h1)):=by rw[show Gd (B.den M.T f1) (B.den M.T g1) (B.den M.T h1)=λa=>(t1 ^^ Gd (B.den M.T f) (B.den M.T g) (B.den M.T h) a) from funext hT];exact hcof.sign t1
 have back:∀e M' H2,CxH H2 c b M'->Stp M M'->R3 M M' F->FrM b M H' H2->M'.ws=M.ws->M'.At k e->B.den M'.T e=Gd (B.den M.T f1) (B.den M.T g1) (B.den M.T h1)->Q (A7 e t1,()) () H2:=λe M' H2 c1 c2 c3 c4 c5 c6 c7=>by refine hq _ M' H2 c1 c2 c3 c4 c5 (Avl c6) ?_;rw[Aq4 c6.1,c7];funext a;rw[hT a];cases t1<;>simp
 refine⟨λhlt=>Ao7 hk a1 a2 a3 (λr hr hden=>⟨λ_=>back r M H' hC (Stp.refl hI hV) R3.refl FrM.refl rfl hr hden,λh=>absurd rfl h⟩) (λa b' c' t ha hb hc hane hT2=>⟨λh=>(by cases h),λ_=>?_⟩),λhge=>?_⟩
 .have hlt':m<3:=hlt;have next:m+1<=9223372036854775807/\∃(m':Nat),m'<n/\(H'=H'/\M.At k a/\M.At k b'/\M.At k c'/\(∀x,Gd (B.den M.T a) (B.den M.T b') (B.den M.T c') x=((not (decide (t1=true)==decide (t=true))) ^^ Gd (B.den M.T f) (B.den M.T g) (B.den M.T h) x))/\m'=3-(m+1)/\m+1<=3/\(0<m+1->a/2≠0)):=
   ⟨by show m+1<=_;omega,3-(m+1),by omega,rfl,ha,hb,hc,λx=>by rw[hT2 x,hT x,Wv];cases t<;>cases t1<;>simp,rfl,by omega,λ_=>hane⟩
  refine⟨λe1=>⟨λe2=>⟨λe3=>?_,λ_=>next⟩,λ_=>next⟩,λ_=>next⟩;have e1:a=f1:=e1;have e2:b'=g1:=e2;have e3:c'=h1:=e3;have ht:t=false:=by
   have:=hT2 (λ_=>false);rw[e1,e2,e3]at this;cases t
   .rfl
   .simp at this
  subst ht;have et:(not (decide (t1=true) == decide (false=true)))=t1:=by rw[Wv];simp
  refine⟨c,rfl,⟨some b⟩,hC.cx,b,rfl,rfl,M.ob,hC.man.ob,rfl,?_⟩;exact Aor (t:=not (decide (t1=true) == decide (false=true))) ih hC hI hV hd a1 a2 a3 (e1▸hane) cof1 hx λe M' H2 c1 c2 c3 c4 c5 c6 c7=>by rw[et];exact back e M' H2 c1 c2 c3 c4 c5 c6 c7
 .have hge':¬m<3:=hge;refine⟨c,rfl,⟨some b⟩,hC.cx,b,rfl,rfl,M.ob,hC.man.ob,rfl,?_⟩;exact Aor (t:=t1) ih hC hI hV hd a1 a2 a3 (hnc (by omega)) cof1 hx back
theorem Ave{c b:Nat}{M:Mn}{f g h:Int}{H:HY}{X:PX}{Q:Int×Unit->UU}(hC:CxH H c b M)(hI:SI M.S)(hV:MV M)(hf:B.Ok M.T f)(hg:B.Ok M.T g)(hh:B.Ok M.T h)(hx:∀M' H' l,CxH H' c b M'->Stp M M'->R3 M M' (Gd (B.den M.T f) (B.den M.T g) (B.den M.T h))->FrM b M H H'->Aje M M' l->X 231 l H')(hq:∀e M' H',CxH H' c b M'->Stp M M'->R3 M M' (Gd (B.den M.T f) (B.den M.T g) (B.den M.T h))->FrM b M H H'->M'.ws=M.ws->B.Ok M'.T e->B.den M'.T e=Gd (B.den M.T f) (B.den M.T g) (B.den M.T h)->Q (e,()) () H'):Wp Y0 Ec Dv (some c,f,g,h,()) H Q X:=by
 have hn:0<=M.S.n:=Sto.P4;have at0:∀{e:Int},B.Ok M.T e->M.At 0 e:=λh=>⟨h,(hI.C6.Ahl h hn).1⟩
 exact Ayc M.S.n.toNat 0 M H f g h _ X Q hC hI hV (by omega) hn (at0 hf) (at0 hg) (at0 hh) (B.Cof.refl (Ag5 hI.C6 (at0 hf) (at0 hg) (at0 hh))) hx λe M' H' c1 c2 c3 c4 c5 c6 c7=>hq e M' H' c1 c2 c3 c4 c5 c6.1 c7
end Go.Proofs.YtcbkbpjlbmalmaaGreatDoor
namespace Go.Proofs.YtcbkbpjlbmalmaaGreatDoor
open Go Go.X Go.Y Go.RowKit
section
set_option maxRecDepth 20000
section
variable {P:Program} {N:Nat} {f:Fr} {w w':World} {cs cs':List Frame} {ops:Array Oper} {Q:Exit->Act->List Frame->World->Prop}
def WS(P:Program)(N:Nat)(ops:Array Oper)(Q:Exit->Act->List Frame->World->Prop)(l:List Nat)(f:Fr)(cs:List Frame)(w:World):Prop:=∀arr,Is N arr f->wpOpsS P ops Q l ⟨arr,[]⟩ cs w
def WC(P:Program)(N:Nat)(Q:Exit->Act->List Frame->World->Prop)(c:Code)(f:Fr)(cs:List Frame)(w:World):Prop:=∀arr,Is N arr f->c.wpS P Q ⟨arr,[]⟩ cs w
theorem A3q(h:∀arr,Is N arr f->Q .normal ⟨arr,[]⟩ cs w):WS P N ops Q [] f cs w:=λarr ha=>h arr ha
variable {y:Code}
theorem Aay(h:WC P N Q y f cs w):WS P N ops (Exit.thenS (λa cs w=>y.wpS P Q a cs w) Q) [] f cs w:=λarr ha=>h arr ha
variable {o:Oper}
theorem V6{y:Nat->Option Bool}(hg:o.guard=none):Region.wanted o y=true:=by simp [Region.wanted,hg]
variable {i:Nat} {l:List Nat} {d:Option Tmp} {v:Value}
theorem Ot(ho:ops[i]?=some o)(hd:o.dst=d)(hg:o.guard=none)(hr:(execOp (ev f) o).run P w=.ok (.value v) w')(h:WS P N ops Q l (put N f d v) cs w'):WS P N ops Q (i::l) f cs w:=λarr ha=>by
 subst hd;obtain⟨a',h1,h2⟩:=ha.put (ds:=[]) o.dst v;have hr':(execOp (Act.eval ⟨arr,[]⟩) o).run P w=.ok (.value v) w':=by rw[Kt ha];exact hr
 simp only[wpOpsS,ho,V6 hg,if_true,hr',Oper.upon,h1];exact h a' h2
theorem Ars(ho:ops[i]?=some o)(hd:o.dst=d)(hg:o.guard=none)(hr:(execOp (ev f) o).run P w=.ok .skip w')(h:WS P N ops Q l (put N f d undef) cs w'):WS P N ops Q (i::l) f cs w:=λarr ha=>by
 subst hd;obtain⟨a',h1,h2⟩:=ha.put (ds:=[]) o.dst undef;have hr':(execOp (Act.eval ⟨arr,[]⟩) o).run P w=.ok .skip w':=by rw[Kt ha];exact hr
 simp only[wpOpsS,ho,V6 hg,if_true,hr',Oper.upon,h1];exact h a' h2
theorem A3p(ho:ops[i]?=some o)(hd:o.dst=d)(hg:o.guard=none)(hr:(execOp (ev f) o).run P w=.ok .recover w')(hrec:recoverD cs=some (v,cs'))(h:WS P N ops Q l (put N f d v) cs' w'):WS P N ops Q (i::l) f cs w:=λarr ha=>by
 subst hd;obtain⟨a',h1,h2⟩:=ha.put (ds:=[]) o.dst v;have hr':(execOp (Act.eval ⟨arr,[]⟩) o).run P w=.ok .recover w':=by rw[Kt ha];exact hr
 simp only[wpOpsS,ho,V6 hg,if_true,hr',hrec,h1];exact h a' h2
theorem Q4{id:Nat}(h:WS P N ops Q (List.range ops.size) f cs w):WC P N Q (.region id ops false) f cs w:=λarr ha=>wpS_region (h arr ha)
theorem V5{x:Code}(h:WC P N (Exit.thenS (λa cs w=>y.wpS P Q a cs w) Q) x f cs w):WC P N Q (.seq x y) f cs w:=λarr ha=>wpS_seq (h arr ha)
theorem Ak1{c:Operand}{x:Code}{t:Bool}(hc:ev f c=.bool t)(h:WC P N Q (if t then x else y) f cs w):WC P N Q (.cond c x y) f cs w:=λarr ha=>wpS_cond (t:=t) (by rw[Kt ha];exact hc) (h arr ha)
theorem Aru(h:∀arr,Is N arr f->Q .normal ⟨arr,[]⟩ cs w):WC P N Q .skip f cs w:=λarr ha=>wpS_of_wp (wp_skip (h arr ha))
theorem A3s(h:∀arr,Is N arr f->Q .ret ⟨arr,[]⟩ cs w):WC P N Q .ret f cs w:=λarr ha=>wpS_of_wp (wp_ret (h arr ha))
theorem My{op:Op}{ty:TypeId}(h:∀(pos:String)(af:Array Edge)(K:Fr->World->Prop),K (put 1 f (some 0) v) w'->WL P 1 #[] (λ_ _=>False) true K [⟨some 0,op,ty,pos,af,none⟩] f w)(dst:Option Tmp)(pos:String)(af:Array Edge):(execOp (ev f) ⟨dst,op,ty,pos,af,none⟩).run P w=.ok (.value v) w':=by
 have h1:=h pos af (λf' w2=>f' 0=v/\w2=w') ⟨rfl,rfl⟩;simp only[WL,Region.wanted,if_true]at h1;obtain⟨v',w2,hr,e1,e2⟩:=Amw _ h1;have hv:v'=v:=by simpa [put,upd] using e1
 rw[hv,e2]at hr;exact hr
end
variable {v:Value}
theorem E7{N d:Nat}{f:Fr}(h:d<N):put N f (some d) v d=v:=by simp [put,upd,h]
theorem Bw{N d j:Nat}{f:Fr}(h:j≠d):put N f (some d) v j=f j:=by simp [put,upd,h]
theorem A5p{vs:List Value}{n:Nat}:Is (vs.length+n) (⟨vs⟩++Array.replicate n undef) (fr0 vs):=by
 refine⟨by simp,λi=>?_⟩;rw[<-Sg,Array.getD_eq_getD_getElem?,Array.getElem?_append];by_cases hi:i<vs.length
 .simp [hi]
 .simp only[List.size_toArray,hi,if_false];rw[List.getElem?_eq_none (by omega)];by_cases h2:i-vs.length<n
  .simp [h2]
  .simp [h2]
theorem Am7{P:Program}{N n:Nat}{Q:Exit->Act->List Frame->World->Prop}{c:Code}{vs:List Value}{cs:List Frame}{w:World}(hN:vs.length+n=N)(h:WC P N Q c (fr0 vs) cs w):c.wpS P Q {tmps:=⟨vs⟩++Array.replicate n undef,defers:=[]} cs w:=h _ (hN▸A5p)
theorem Awa{bd bs:Nat}{w:World}{ed:TypeId}{I:Reg}{T:Own}(hs:St I w ([(bd,.cells #[.bool true] ed (0,0))]++T)):CallsD Y0.P Xa ⟨[.pointer (some ⟨bd,0,none⟩),.pointer (some ⟨bs,0,none⟩)]⟩ .returning w λe u' w'=>e=.returned (.tuple #[])/\u'=.returning/\w'=w:=by refine callsD_of_wpS (fn:=Tryz.f256) (by kernel_rfl) rfl λc₀ cs hu=>?_;refine Am7 (N:=16) (n:=14) rfl ?_;refine V5 (V5 (Q4 (Ot (d:=some 5) (i:=0) (l:=[]) rfl rfl rfl (My (w':=w) (v:=.bool true) (λpos af K hk=>Afg (by kernel_rfl) hs rfl rfl hk) _ _ _) (Aay ?_))));refine Ak1 (t:=true) (E7 (by decide)) (A3s λarr' ha'=>?_);exact⟨rfl,.returning,by cases c₀;cases hu;rfl,.tuple #[],results_none rfl _ _ _,rfl,rfl,rfl⟩
theorem Ade{P:Program}{f:Fr}{w:World}{e:TypeId}{z:Value}(hz:zrB P e z)(dst:Option Tmp)(ty:TypeId)(pos:String)(af:Array Edge):(execOp (ev f) ⟨dst,.alloc e,ty,pos,af,none⟩).run P w=.ok (.value (.pointer (some ⟨w.heap.size,0,none⟩))) (w.alloc (.cells z.cells e)):=by
 unfold zrB at hz;cases hi:P.info? e with
 |none=>simp [hi]at hz
 |some i=>
  simp only[hi,Option.bind_some]at hz;simp [execOp,Instr.alloc,newVar,newRow,zeroValue,typeInfo,hi,hz]
variable {x:Operand}
theorem S9{P:Program}{f:Fr}{w:World}(h:ev f x=v)(dst:Option Tmp)(ty:TypeId)(pos:String)(af:Array Edge):(execOp (ev f) ⟨dst,.move x,ty,pos,af,none⟩).run P w=.ok (.value v) w:=by simp [execOp,h]
theorem Ux{P:Program}{f:Fr}{w:World}(h:ev f x=v)(dst:Option Tmp)(ty:TypeId)(pos:String)(af:Array Edge):(execOp (ev f) ⟨dst,.assign x,ty,pos,af,none⟩).run P w=.ok (.value v) w:=by simp [execOp,h]
theorem Alb{P:Program}{f:Fr}{w w':World}{t:TypeId}{y:Operand}{p:Value}(hx:ev f x=p)(hy:ev f y=v)(h:(Instr.storeAt t p v).run P w=.ok () w')(dst:Option Tmp)(ty:TypeId)(pos:String)(af:Array Edge):(execOp (ev f) ⟨dst,.store t x y,ty,pos,af,none⟩).run P w=.ok .skip w':=by simp [execOp,hx,hy,h]
theorem Awb{bd bs:Nat}{w:World}{ed es:TypeId}{ar:Array Value}{I:Reg}{T:Own}{u:Value}{st:Ik}(hs:St I w ([(bs,.cells ar es (0,0))]++([(bd,.cells #[.bool false] ed (0,0))]++T)))(has:ar.size=5)(hu:rp Y0.toUS (.u 15) I w u st):CallsD Y0.P Xa ⟨[.pointer (some ⟨bd,0,none⟩),.pointer (some ⟨bs,0,none⟩)]⟩ (.panicking [{v:=.iface 231 u,recovered:=false}]) w λe u' w'=>e=.returned (.tuple #[])/\u'=.panicking [{v:=.iface 231 u,recovered:=true}]/\Ext I w I w'/\∃row:Array Value,row.toList=u.cells.toList/\St I w' ([(bs,.cells row es (0,0))]++([(bd,.cells #[.bool false] ed (0,0))]++T)):=by
 obtain⟨us,rfl,hF⟩:=Lc.1 hu;have hus:us.length=5:=by rw[hF.len];rfl
 have huc:(Value.agg ⟨us⟩).cells=⟨us⟩:=rfl;have hone:∀v∈(Value.agg ⟨us⟩).cells.toList,v.oneCell'=true:=Ah7 hF X6;have h231:tyB Y0.P 231 true 5=true:=by kernel_rfl
 have hz:∃z,zrB Y0.P 231 z/\z.cells.size=5:=⟨.agg #[.int .i64 0,.bool false,.int .i64 0,.int .i64 0,.int .i64 0],by unfold zrB;kernel_rfl,rfl⟩
 obtain⟨z,hz1,hz2⟩:=hz;have hst:Ka Y0.P 231 Apd=true:=by kernel_rfl
 obtain⟨fs,hfs⟩:∃fs,Y0.P.underlying 231=some (.struct fs):=by
  unfold Ka at hst;split at hst
  .rename_i d hd;cases d<;>simp [Apd]at hst;exact⟨_,hd⟩
  .cases hst
 refine callsD_of_wpS (fn:=Tryz.f256) (by kernel_rfl) rfl λc₀ cs hm=>?_;refine Am7 (N:=16) (n:=14) rfl ?_;have hrec:recoverD (c₀::cs)=some (.iface 231 (.agg ⟨us⟩),{c₀ with mode:=.panicking [{v:=.iface 231 (.agg ⟨us⟩),recovered:=true}]}::cs):=by simp [recoverD,hm]
 generalize hf0:fr0 [.pointer (some ⟨bd,0,none⟩),.pointer (some ⟨bs,0,none⟩)]=f;have f0:f 0=.pointer (some ⟨bd,0,none⟩):=by rw[<-hf0];rfl
 have f1:f 1=.pointer (some ⟨bs,0,none⟩):=by rw[<-hf0];rfl
 clear hf0;refine V5 (V5 (Q4 (Ot (d:=some 5) (i:=0) (l:=[]) rfl rfl rfl (My (w':=w) (v:=.bool false) (λpos af K hk=>Afg (by kernel_rfl) hs.Aip (by exact f0) rfl hk) _ _ _) (Aay ?_))));refine Ak1 (t:=false) (E7 (by decide)) (Aru λarr ha=>?_);refine(?_:WC _ 16 _ _ _ _ _) arr ha;refine V5 (Q4 (A3p (d:=some 6) (i:=0) (l:=[1]) rfl rfl rfl (by simp [execOp,resolve,invoke,builtin];rfl) hrec ?_));refine Ot (d:=some 2) (i:=1) (l:=[]) (v:=.iface 231 (.agg ⟨us⟩)) rfl rfl rfl (Ux ?_ _ _ _ _) (Aay ?_)
 .exact E7 (by decide)
 generalize hg:put 16 (put 16 (put 16 f (some 5) (.bool false)) (some 6) (.iface 231 (.agg ⟨us⟩))) (some 2) (.iface 231 (.agg ⟨us⟩))=g;have g1:g 1=.pointer (some ⟨bs,0,none⟩):=by rw[<-hg,Bw (by decide),Bw (by decide),Bw (by decide),f1]
 have g2:g 2=.iface 231 (.agg ⟨us⟩):=by rw[<-hg];exact E7 (by decide)
 change WC _ _ _ _ g _ _;clear hg;refine V5 (Q4 (Ot (d:=some 8) (i:=0) (l:=[1,2,3,4,5,6,7]) (v:=.iface 231 (.agg ⟨us⟩)) rfl rfl rfl (S9 ?_ _ _ _ _) ?_))
 .exact g2
 refine Ot (w':=w) (d:=some 9) (i:=1) (v:=.tuple #[.agg ⟨us⟩,.bool true]) rfl rfl rfl ?_ ?_
 .have:ev (put 16 g (some 8) (.iface 231 (.agg ⟨us⟩))) (.tmp 8)=.iface 231 (.agg ⟨us⟩):=E7 (by decide);simp [execOp,Instr.typeAssert,this,run_underlying hfs]
 refine Ot (d:=some 7) (i:=2) (v:=.tuple #[.agg ⟨us⟩,.bool true]) rfl rfl rfl (S9 ?_ _ _ _ _) ?_
 .exact E7 (by decide)
 generalize hg2:put 16 (put 16 (put 16 g (some 8) (.iface 231 (.agg ⟨us⟩))) (some 9) (.tuple #[.agg ⟨us⟩,.bool true])) (some 7) (.tuple #[.agg ⟨us⟩,.bool true])=k;have k1:k 1=.pointer (some ⟨bs,0,none⟩):=by rw[<-hg2,Bw (by decide),Bw (by decide),Bw (by decide),g1]
 have k7:k 7=.tuple #[.agg ⟨us⟩,.bool true]:=by rw[<-hg2];exact E7 (by decide)
 change WS _ _ _ _ _ k _ _;clear hg2;refine Ot (w':=w) (d:=some 10) (i:=3) (v:=.agg ⟨us⟩) rfl rfl rfl ?_ ?_
 .have:ev k (.tmp 7)=.tuple #[.agg ⟨us⟩,.bool true]:=k7;simp [execOp,Instr.extract,this]
 refine Ot (w':=w) (d:=some 11) (i:=4) (v:=.bool true) rfl rfl rfl ?_ ?_
 .have:ev (put 16 k (some 10) (.agg ⟨us⟩)) (.tmp 7)=.tuple #[.agg ⟨us⟩,.bool true]:=by show put 16 k (some 10) _ 7=_;rw[Bw (by decide),k7]
  simp [execOp,Instr.extract,this]
 obtain⟨e1,s1⟩:=hs.alloc (.cells z.cells 231);refine Ot (d:=some 3) (i:=5) (v:=.pointer (some ⟨w.heap.size,0,none⟩)) rfl rfl rfl (Ade hz1 _ _ _ _) ?_;generalize hg3:put 16 (put 16 (put 16 k (some 10) (.agg ⟨us⟩)) (some 11) (.bool true)) (some 3) (.pointer (some ⟨w.heap.size,0,none⟩))=m;have m1:m 1=.pointer (some ⟨bs,0,none⟩):=by rw[<-hg3,Bw (by decide),Bw (by decide),Bw (by decide),k1]
 have m3:m 3=.pointer (some ⟨w.heap.size,0,none⟩):=by rw[<-hg3];exact E7 (by decide)
 have m10:m 10=.agg ⟨us⟩:=by rw[<-hg3,Bw (by decide),Bw (by decide)];exact E7 (by decide)
 have m11:m 11=.bool true:=by rw[<-hg3,Bw (by decide)];exact E7 (by decide)
 change WS _ _ _ _ _ m _ _;clear hg3;obtain⟨w2,row2,r2,e2,s2,hr2⟩:=Go.Y.storeCells (P:=Y0.P) (t:=231) (y:=.agg ⟨us⟩) (o:=0) (n:=5) h231 s1 (by rw[huc];exact hus) hone (by omega);refine Ars (d:=none) (i:=6) (w':=w2) rfl rfl rfl (Alb (p:=.pointer (some ⟨w.heap.size,0,none⟩)) (v:=.agg ⟨us⟩) ?_ ?_ r2 _ _ _ _) ?_
 .exact m3
 .exact m10
 have hr2':row2.toList=us:=by
  rw[hr2,huc];have:z.cells.toList.length=5:=by simpa using hz2
  simp [List.drop_eq_nil_of_le,this]
 refine Ot (d:=some 4) (i:=7) (l:=[]) (v:=.bool true) rfl rfl rfl (Ux ?_ _ _ _ _) (Aay ?_)
 .exact m11
 refine V5 (V5 (Q4 (Ot (d:=some 12) (i:=0) (l:=[1]) (v:=.bool true) rfl rfl rfl (S9 ?_ _ _ _ _) ?_)))
 .exact E7 (by decide)
 refine Ot (w':=w2) (d:=some 13) (i:=1) (l:=[]) (v:=.bool false) rfl rfl rfl ?_ (Aay ?_)
 .have:ev (put 16 (put 16 (put 16 m none undef) (some 4) (.bool true)) (some 12) (.bool true)) (.tmp 12)=.bool true:=E7 (by decide);simp only[execOp,this];rfl
 refine Ak1 (t:=false) (E7 (by decide)) (Aru λarr2 ha2=>?_);refine(?_:WC _ 16 _ _ _ _ _) arr2 ha2;generalize hg4:put 16 (put 16 (put 16 (put 16 m none undef) (some 4) (.bool true)) (some 12) (.bool true)) (some 13) (.bool false)=p;have p1:p 1=.pointer (some ⟨bs,0,none⟩):=by rw[<-hg4,Bw (by decide),Bw (by decide),Bw (by decide)];exact m1
 have p3:p 3=.pointer (some ⟨w.heap.size,0,none⟩):=by rw[<-hg4,Bw (by decide),Bw (by decide),Bw (by decide)];exact m3
 clear hg4;refine Q4 (Ot (d:=some 15) (i:=0) (l:=[1]) (v:=.agg ⟨us⟩) (w':=w2) rfl rfl rfl (My (λpos af K hk=>Abm (n:=5) h231 s2 (by exact p3) (vs:=us) (by rw[hr2',<-hus];simp) hus hk) _ _ _) ?_);have s3:St I w2 ([(bs,.cells ar es (0,0))]++([(w.heap.size,.cells row2 231 (0,0))]++([(bd,.cells #[.bool false] ed (0,0))]++T))):=s2.Aip;obtain⟨w3,row3,r3,e3,s4,hr3⟩:=Go.Y.storeCells (P:=Y0.P) (t:=231) (y:=.agg ⟨us⟩) (o:=0) (n:=5) h231 s3 (by rw[huc];exact hus) hone (by omega);refine Ars (d:=none) (i:=1) (l:=[]) (w':=w3) rfl rfl rfl (Alb (p:=.pointer (some ⟨bs,0,none⟩)) (v:=.agg ⟨us⟩) ?_ ?_ r3 _ _ _ _) (A3q λarr3 ha3=>?_)
 .show put 16 p (some 15) _ 1=_;rw[Bw (by decide),p1]
 .exact E7 (by decide)
 have hr3':row3.toList=us:=by
  rw[hr3,huc];have:ar.toList.length=5:=by simpa using has
  simp [List.drop_eq_nil_of_le,this]
 refine⟨rfl,.panicking [{v:=.iface 231 (.agg ⟨us⟩),recovered:=true}],rfl,.tuple #[],results_none rfl _ _ _,rfl,rfl,e1.trans (e2.trans e3),row3,by rw[hr3',huc],?_⟩;have:St I w3 ([(w.heap.size,.cells row2 231 (0,0))]++([(bs,.cells row3 es (0,0))]++([(bd,.cells #[.bool false] ed (0,0))]++T))):=s4.Aip;exact this.drop
end
section
set_option maxRecDepth 100000
set_option maxHeartbeats 1000000
noncomputable def Yn:Go.Y.Sys:={Y0 with gls:=λ_=>none}
theorem A8d(a:Tup Yn [I64])(F:Tup Yn [.bool]):((decide ¬a.1=a.1,PUnit.unit)=F)=pfP (Y:=Yn) (λ_=>none) Tryz.f265 [I64] [.bool] a F:=by kernel_rfl
noncomputable def A7k:PF Yn 265 where
 ta:=[I64]
 tr:=[.bool]
 dom:=none
 F a:=(false,())
 pa:=rfl
 pr:=rfl
 can:=by kernel_rfl
 ok a hr _ I w hG:=Rg (pf:=λ_=>none) (fn:=Tryz.f265) (by kernel_rfl) rfl rfl hr (Eq.mp (A8d a _) (by show (decide ¬a.1=a.1,())=(false,());simp)) I w hG
theorem A43(a:Tup Yn [I64])(F:Tup Yn [.bool]):((decide ¬a.1=a.1,PUnit.unit)=F)=pfP (Y:=Yn) (λ_=>none) Tryz.f280 [I64] [.bool] a F:=by kernel_rfl
noncomputable def A4h:PF Yn 280 where
 ta:=[I64]
 tr:=[.bool]
 dom:=none
 F a:=(false,())
 pa:=rfl
 pr:=rfl
 can:=by kernel_rfl
 ok a hr _ I w hG:=Rg (pf:=λ_=>none) (fn:=Tryz.f280) (by kernel_rfl) rfl rfl hr (Eq.mp (A43 a _) (by show (decide ¬a.1=a.1,())=(false,());simp)) I w hG
noncomputable def pfC:(q:FuncId)->Option (PF Yn q)
 |265=>some A7k
 |280=>some A4h
 |_=>none
def Nh(x y:Int):Int:=if x<y then -1 else if y<x then 1 else 0
theorem A8x(a:Tup Yn [I64,I64])(F:Tup Yn [I64]):((false=true->(false=true->((0:Int),PUnit.unit)=F)/\(¬false=true->((-1:Int),PUnit.unit)=F))/\(¬false=true->(false=true->((1:Int),PUnit.unit)=F)/\(¬false=true->(a.1<a.2.1->((-1:Int),PUnit.unit)=F)/\(¬a.1<a.2.1->(a.2.1<a.1->((1:Int),PUnit.unit)=F)/\(¬a.2.1<a.1->((0:Int),PUnit.unit)=F)))))=pfP (Y:=Yn) pfC Tryz.f272 [I64,I64] [I64] a F:=by kernel_rfl
theorem Avg(x y:Int)(hx:InK .i64 x)(hy:InK .i64 y)(w:World):Calls Y0.P 272 #[.int .i64 x,.int .i64 y] w λe w'=>e=.returned (.int .i64 (Nh x y))/\w'=w:=by
 have h:=Rg (Y:=Yn) (pf:=pfC) (fn:=Tryz.f272) (q:=272) (a:=(show Tup Yn [I64,I64] from (x,y,()))) (F:=(show Tup Yn [I64] from (Nh x y,()))) (by kernel_rfl) rfl rfl ⟨hx,hy,trivial⟩ (Eq.mp (A8x (x,y,()) (Nh x y,())) (by
  refine⟨λh=>absurd h (by simp),λ_=>⟨λh=>absurd h (by simp),λ_=>⟨λh=>?_,λh=>⟨λh2=>?_,λh2=>?_⟩⟩⟩⟩
  .have h':x<y:=h;show ((-1:Int),())=(Nh x y,());unfold Nh;rw[if_pos h']
  .have h':¬x<y:=h;have h2':y<x:=h2;show ((1:Int),())=(Nh x y,());unfold Nh;rw[if_neg h',if_pos h2']
  .have h':¬x<y:=h;have h2':¬y<x:=h2;show ((0:Int),())=(Nh x y,());unfold Nh;rw[if_neg h',if_neg h2'])) (λ_=>False) w ⟨λ_ h=>h.elim,λg q hq=>by cases hq⟩
 exact Calls.mono h λe w' he=>⟨he.1,he.2.1⟩
theorem A6m(a:Tup Yn [I64,I64])(F:Tup Yn [I64]):((false=true->(false=true->((0:Int),PUnit.unit)=F)/\(¬false=true->((-1:Int),PUnit.unit)=F))/\(¬false=true->(false=true->((1:Int),PUnit.unit)=F)/\(¬false=true->(a.1<a.2.1->((-1:Int),PUnit.unit)=F)/\(¬a.1<a.2.1->(a.2.1<a.1->((1:Int),PUnit.unit)=F)/\(¬a.2.1<a.1->((0:Int),PUnit.unit)=F)))))=pfP (Y:=Yn) pfC Tryz.f273 [I64,I64] [I64] a F:=by kernel_rfl
theorem Ahy(x y:Int)(hx:InK .i64 x)(hy:InK .i64 y)(w:World):Calls Y0.P 273 #[.int .i64 x,.int .i64 y] w λe w'=>e=.returned (.int .i64 (Nh x y))/\w'=w:=by
 have h:=Rg (Y:=Yn) (pf:=pfC) (fn:=Tryz.f273) (q:=273) (a:=(show Tup Yn [I64,I64] from (x,y,()))) (F:=(show Tup Yn [I64] from (Nh x y,()))) (by kernel_rfl) rfl rfl ⟨hx,hy,trivial⟩ (Eq.mp (A6m (x,y,()) (Nh x y,())) (by
  refine⟨λh=>absurd h (by simp),λ_=>⟨λh=>absurd h (by simp),λ_=>⟨λh=>?_,λh=>⟨λh2=>?_,λh2=>?_⟩⟩⟩⟩
  .have h':x<y:=h;show ((-1:Int),())=(Nh x y,());unfold Nh;rw[if_pos h']
  .have h':¬x<y:=h;have h2':y<x:=h2;show ((1:Int),())=(Nh x y,());unfold Nh;rw[if_neg h',if_pos h2']
  .have h':¬x<y:=h;have h2':¬y<x:=h2;show ((0:Int),())=(Nh x y,());unfold Nh;rw[if_neg h',if_neg h2'])) (λ_=>False) w ⟨λ_ h=>h.elim,λg q hq=>by cases hq⟩
 exact Calls.mono h λe w' he=>⟨he.1,he.2.1⟩
end
section
set_option maxRecDepth 100000
set_option maxHeartbeats 1000000
def orI(l:Nat->Int):Int:=if l 0=0 then if l 1=0 then l 2 else l 1 else l 0
theorem Axa{W:World}{rb:Nat}{e:TypeId}{fr:Nat×Nat}{cs:Array Value}{l:Nat->Int}(hb:W.heap[rb]?=some (.cells cs e fr))(hc:∀j,j<3->cs[j]?=some (.int .i64 (l j))):Calls Y0.P 271 #[.slice (some ⟨rb,0,none⟩) 3 3] W λe w'=>e=.returned (.int .i64 (orI l))/\w'=W:=by
 refine Nf (F:=Tryz.f271) (N:=18) (vs:=[.slice (some ⟨rb,0,none⟩) 3 3]) (by kernel_rfl) rfl rfl (by simp) ?_;have hs23:slB Y0.P 23 3 1 8=true:=by kernel_rfl
 have h3:tyB Y0.P 3 false 1=true:=by kernel_rfl
 generalize hf0:fr0 [.slice (some ⟨rb,0,none⟩) 3 3]=f0;have f00:f0 0=.slice (some ⟨rb,0,none⟩) 3 3:=by rw[<-hf0];rfl
 have ret:∀{f:Fr}{k:List Item},f 2=.int .i64 (orI l)->WT Y0.P ⟨271,none,[]⟩ 18 (.code .ret::k) (Avq Y0.P Tryz.f271 18 λe w'=>e=.returned (.int .i64 (orI l))/\w'=W) f W:=λ{f k}h2=>
  Ui ⟨.int .i64 (orI l),λa ha=>by refine Kh (vs:=[.int .i64 (orI l)]) ?_;have hR:Tryz.f271.results.toList=[.tmp 2]:=rfl;have h4:=ha.2 2;rw[h2,Array.getD_eq_getD_getElem?]at h4;rw[hR];simp [List.mapM_cons,Y3,h4],rfl,rfl⟩
 refine Fo (Ef (Ax (v:=.int .i64 0) (Ux rfl _ _ _ _) ?_));refine Fo (Ef (Ax (v:=.int .i64 0) (Ux rfl _ _ _ _) ?_));generalize hf1:put 18 (put 18 f0 (some 2) (.int .i64 0)) (some 3) (.int .i64 0)=f1;have f10:f1 0=.slice (some ⟨rb,0,none⟩) 3 3:=by rw[<-hf1];simp [put,upd,f00]
 have f13:f1 3=.int .i64 0:=by rw[<-hf1];simp [put,upd]
 clear hf1;refine Fo (Fo (Ef (Ax (v:=.slice (some ⟨rb,0,none⟩) 3 3) (S9 (x:=.tmp 0) f10 _ _ _ _) (Ax (w':=W) (v:=.int .i64 3) ?_ (Ax (v:=.int .i64 0) (S9 rfl _ _ _ _) ?_)))))
 .have:ev (put 18 f1 (some 6) (.slice (some ⟨rb,0,none⟩) 3 3)) (.tmp 6)=.slice (some ⟨rb,0,none⟩) 3 3:=by simp [ev,put,upd]
  simp [execOp,resolve,invoke,builtin,Builtin.len_,this,run_underlying (Hy hs23).under,goInt]
 generalize hf2:put 18 (put 18 (put 18 f1 (some 6) (.slice (some ⟨rb,0,none⟩) 3 3)) (some 7) (.int .i64 3)) (some 8) (.int .i64 0)=f2;have f23:f2 3=.int .i64 0:=by rw[<-hf2];simp [put,upd,f13]
 have f26:f2 6=.slice (some ⟨rb,0,none⟩) 3 3:=by rw[<-hf2];simp [put,upd]
 have f27:f2 7=.int .i64 3:=by rw[<-hf2];simp [put,upd]
 have f28:f2 8=.int .i64 0:=by rw[<-hf2];simp [put,upd]
 clear hf2;refine Q8 (Aky (λn f w=>w=W/\∃j:Nat,n=3-j/\j<=3/\f 3=.int .i64 0/\f 6=.slice (some ⟨rb,0,none⟩) 3 3/\f 7=.int .i64 3/\f 8=.int .i64 (j:Int)/\∀i,i<j->l i=0) 3 ⟨rfl,0,rfl,by omega,f23,f26,f27,f28,λi hi=>absurd hi (by omega)⟩ ?_);rintro n f w ⟨rfl,j,hn,hj,g3,g6,g7,g8,hz⟩ ih;refine Fo (Ef (Axl (a:=(j:Int)) (b:=3) (kd:=.i64) g8 g7 ?_));by_cases hlt:j<3
 .have hd:decide ((j:Int)<3)=true:=by simp;omega
  rw[hd];refine Fo (Aaw (by simp [ev,put,upd]) (Aax ?_));refine Fo (Q8 (Fo (Ef (Ax (w':=w) (v:=.pointer (some ⟨rb,j,none⟩)) ?_ (Ax (w':=w) (v:=.int .i64 (l j)) ?_ (Ax (w':=w) (v:=.int .i64 (l j)) ?_ ?_))))))
  .have e6:ev (put 18 f (some 9) (.bool true)) (.tmp 6)=.slice (some ⟨rb,0,none⟩) 3 3:=by simp [ev,put,upd,g6]
   have e8:ev (put 18 f (some 9) (.bool true)) (.tmp 8)=.int .i64 (j:Int):=by simp [ev,put,upd,g8]
   have h1:(0:Int)<=j/\(j:Int)<(3:Nat):=by omega
   have hsl:=Hy hs23;simp [execOp,Instr.indexAt,e6,e8,asIntOf,run_underlying hsl.under,hsl.size,Gv];omega
  .have e10:ev (put 18 (put 18 f (some 9) (.bool true)) (some 10) (.pointer (some ⟨rb,j,none⟩))) (.tmp 10)=.pointer (some ⟨rb,j,none⟩):=by simp [ev,put,upd]
   have hcell:w.cell? ⟨rb,j,none⟩=some (.int .i64 (l j)):=by rw[B6 hb];exact hc j hlt
   simp [execOp,Instr.loadAt,e10,Instr.sureAddr,loadVar,(K4 (w:=w) h3).1,hcell]
  .exact Ux (by simp [ev,put,upd]) _ _ _ _
  refine Fo (Ef (Ax (v:=.int .i64 (l j)) (S9 (by simp [ev,put,upd]) _ _ _ _) (Ax (v:=.int .i64 0) (S9 (by simp [ev,put,upd,g3]) _ _ _ _) (Axk (a:=l j) (b:=0) (kd:=.i64) (by simp [ev,put,upd]) (by simp [ev,put,upd]) ?_))));by_cases h0:l j=0
  .have hd2:(!decide (l j=0))=false:=by simp [h0]
   rw[hd2];refine V3 (by simp [ev,put,upd]) (Aax (Q7 ?_));refine Ef (Asm (a:=(j:Int)) (b:=1) (kd:=.i64) (by simp [ev,put,upd,g8]) rfl (Ax (v:=.int .i64 ((j+1:Nat):Int)) (S9 ?_ _ _ _ _) ?_))
   .have:IntKind.i64.wrap ((j:Int)+1)=((j+1:Nat):Int):=by have h2:InK .i64 ((j:Int)+1):=Bk.2 (by omega);rw[Hc h2];omega
    simp [ev,put,upd,this]
   .refine ih.out (3-(j+1)) _ _ (by omega) ⟨rfl,j+1,rfl,by omega,by simp [put,upd,g3],by simp [put,upd,g6],by simp [put,upd,g7],by simp [put,upd],λi hi=>?_⟩;by_cases e:i=j
    .rw[e];exact h0
    .exact hz i (by omega)
  .have hd2:(!decide (l j=0))=true:=by simp [h0]
   rw[hd2];have ho:orI l=l j:=by
    unfold orI;match j,hlt with
    |0,_=>rw[if_neg h0]
    |1,_=>rw[if_pos (hz 0 (by omega)),if_neg h0]
    |2,_=>rw[if_pos (hz 0 (by omega)),if_pos (hz 1 (by omega))]
   refine Aaw (by simp [ev,put,upd]) (Fo (Ef (Ax (v:=.int .i64 (l j)) (S9 (by simp [ev,put,upd]) _ _ _ _) (Ax (v:=.int .i64 (l j)) (Ux (by simp [ev,put,upd]) _ _ _ _) ?_))));exact ret (by rw[ho];simp [put,upd])
 .have hd:decide ((j:Int)<3)=false:=by simp;omega
  rw[hd];refine Fo (V3 (by simp [ev,put,upd]) (Afa (by simp [exitTo];rfl) ?_));have ho:orI l=0:=by unfold orI;rw[if_pos (hz 0 (by omega)),if_pos (hz 1 (by omega)),hz 2 (by omega)]
  refine Fo (Ef (Ax (v:=.int .i64 0) (S9 (by simp [ev,put,upd,g3]) _ _ _ _) (Ax (v:=.int .i64 0) (Ux (by simp [ev,put,upd]) _ _ _ _) ?_)));exact ret (by rw[ho];simp [put,upd])
end
section
set_option maxRecDepth 100000
set_option maxHeartbeats 2000000
section
variable {P:Program} {φ:FK} {N:Nat} {k:List Item} {R:Xit->World->Prop} {f:Fr} {w:World} {ops:Array Oper} {S:World->Prop} {n:Nat} {l:Array Bool} {E:List Nat}
theorem A3f{i:Nat}{o:Oper}(hi:ops[i]?=some o)(hr:Region.ready .any ops l=[i])(h:WL P N ops (φ.at R) false (λf' w'=>S w'/\WG P φ N ops k R S n (l.setIfInBounds i true) f' w') [o] f w):WG P φ N ops k R S (n+1) l f w:=λa ha=>by refine⟨λh0=>absurd (hr.symm.trans h0) (by simp),λj hj=>?_⟩;rw[hr,List.mem_singleton]at hj;subst hj;exact Xx ha hi (λf' w' a' h1 h2=>⟨h2.1,h2.2 a' h1⟩) h
theorem A8v{i:Nat}{o:Oper}(hi:ops[i]?=some o)(hE:E.contains i=true)(hr:Region.ready .any ops l=[i])(h:WL P N ops (φ.at R) false (λf' w'=>S w'/\WG P φ N ops k R S n (l.setIfInBounds i true) f' w') [o] f w):WE P φ N ops k R S E (n+1) l f w:=λa ha=>by refine⟨λh0=>absurd (hr.symm.trans h0) (by simp),λj hj=>?_⟩;rw[hr,List.mem_singleton]at hj;subst hj;refine(Xx (ds:=φ.ds) ha hi (K':=λa' w'=>S w'/\Aia P ops (φ.at R) (VG P φ N k R) S n (l.setIfInBounds j true) a' w') (λf' w' a' h1 h2=>⟨h2.1,h2.2 a' h1⟩) h).mono λa' w' h'=>?_;rw[if_pos hE];exact h'
theorem A50(hr:Region.ready .any ops l=[])(h:WT P φ N k R f w):WG P φ N ops k R S 0 l f w:=λa ha=>⟨hr,rfl,f,ha,h⟩
end
structure ClW(W:World)(ab ao tb mb:Nat)(m:List (K2×Int)):Prop where
 box:W.cell? ⟨ab,ao,none⟩=some (.pointer (some ⟨tb,0,none⟩))
 tab:W.cell? ⟨tb,0,none⟩=some (.map (some mb))
 map:∃es cl,W.heap[mb]?=some (.map es cl)/\OMp Y0 (.u 17) (.int .i64) (λ_=>False) W [(mb,.map es cl)] (.map (some mb)) m
variable {x:K2}
theorem Awq{I I':Reg}{w w':World}{v:Value}(h:rp Y0.toUS (.u 17) I w v x):rp Y0.toUS (.u 17) I' w' v x:=by obtain⟨cs,rfl,hF⟩:=Lc.1 h;refine Lc.2 ⟨cs,rfl,?_⟩;cases hF with|cons a b=>cases b with|cons c d=>cases d;exact .cons (Bq.2 (Bq.1 a)) (.cons (Bq.2 (Bq.1 c)) .nil)
theorem ClW.Cq{W W':World}{ab ao tb mb:Nat}{m:List (K2×Int)}(h:ClW W ab ao tb mb m)(e:∀b,b=ab∨b=tb∨b=mb->W'.heap[b]?=W.heap[b]?):ClW W' ab ao tb mb m:=by
 obtain⟨es,cl,h1,h2⟩:=h.map;refine⟨?_,?_,es,cl,?_,?_⟩
 .rw[cell?_of_heap (e ab (.inl rfl))];exact h.box
 .rw[cell?_of_heap (e tb (.inr (.inl rfl)))];exact h.tab
 .rw[e mb (.inr (.inr rfl))];exact h1
 .obtain⟨b,es',c,k1,k2,k3,k4⟩:=@Dz.ex _ _ (RT Y0.toUS (.u 17)) (RT Y0.toUS (.int .i64)) _ _ _ _ _ h2;exact @Dz.mk _ _ (RT Y0.toUS (.u 17)) (RT Y0.toUS (.int .i64)) _ _ _ _ _ ⟨b,es',c,k1,k2,k3,λj hj hj'=>⟨Awq (k4 j hj hj').1,Bq.2 (Bq.1 (k4 j hj hj').2)⟩⟩ (@Dz.bo _ _ (RT Y0.toUS (.u 17)) (RT Y0.toUS (.int .i64)) _ _ _ _ _ h2)
def idK(m:List (K2×Int))(x:K2):Int:=(Ac m x).getD 0
def Ua(x:K2):List Value:=[.int .i64 x.a0,.int .i64 x.a1]
def okK(x:K2):Prop:=InK .i64 x.a0/\InK .i64 x.a1
theorem Ar6{I:Reg}{w:World}(h:okK x):rp Y0.toUS (.u 17) I w (.agg ⟨Ua x⟩) x:=Lc.2 ⟨_,rfl,.cons (Bq.2 ⟨rfl,h.1⟩) (.cons (Bq.2 ⟨rfl,h.2⟩) .nil)⟩
def cfK(m:List (K2×Int))(x y:K2):Int:=orI λj=>match j with
 |0=>Nh (idK m x) (idK m y)
 |1=>Nh x.a0 y.a0
 |_=>Nh x.a1 y.a1
theorem Ahx{x y:Int}:InK .i64 (Nh x y):=by unfold Nh;split<;>(try split)<;>exact Bk.2 (by omega)
theorem Mz{P:Program}{f:Fr}{w:World}{t ty:TypeId}{x:Operand}{a:Addr}{v:Value}(ht:tyB P t false 1=true)(hx:ev f x=.pointer (some a))(hc:w.cell? a=some v)(dst:Option Tmp)(pos:String)(af:Array Edge):(execOp (ev f) ⟨dst,.load t x,ty,pos,af,none⟩).run P w=.ok (.value v) w:=by simp [execOp,Instr.loadAt,hx,Instr.sureAddr,loadVar,(K4 (w:=w) ht).1,hc]
theorem Aqd{q:FuncId}{f:Fr}{w:World}{a b:Operand}{x y:Value}{at_:Array TypeId}(hc:En Y0.P q=true)(ha:ev f a=x)(hb:ev f b=y)(dst:Option Tmp)(ty:TypeId)(pos:String)(af:Array Edge):(execOp (ev f) ⟨dst,.call ⟨.value (.func q),#[a,b],at_⟩,ty,pos,af,none⟩).run Y0.P w=.ok (.enter q #[x,y]) w:=by rw[Adc (Y:=Y0) hc];simp [ha,hb]
theorem A0o{f:Fr}{w:World}{a b c:Operand}{p q r:Int}(ha:ev f a=.int .i64 p)(hb:ev f b=.int .i64 q)(hc:ev f c=.int .i64 r)(hp:InK .i64 p)(hq:InK .i64 q)(hr:InK .i64 r)(dst:Option Tmp)(ty:TypeId)(pos:String)(af:Array Edge):(execOp (ev f) ⟨dst,.buildSlice 23 3 #[(0,a),(1,b),(2,c)],ty,pos,af,none⟩).run Y0.P w=.ok (.value (.slice (some ⟨w.heap.size,0,none⟩) 3 3)) (w.alloc (.cells #[.int .i64 p,.int .i64 q,.int .i64 r] 3)):=by
 have hs23:slB Y0.P 23 3 1 8=true:=by kernel_rfl
 letI:Rep (den Y0.D (.int .i64)):=RT Y0.toUS (.int .i64)
 have hrun:=Rc (P:=Y0.P) (I:=λ_=>False) (w:=w) (α:=den Y0.D (.int .i64)) (t:=23) (e:=3) (nb:=8) (ps:=#[(0,.int .i64 p),(1,.int .i64 q),(2,.int .i64 r)]) (vs:=[.int .i64 p,.int .i64 q,.int .i64 r]) (xs:=[p,q,r]) (Hy hs23) rfl rfl (λj h h'=>by
  match j,h with
  |0,_=>exact Bq.2 ⟨rfl,hp⟩
  |1,_=>exact Bq.2 ⟨rfl,hq⟩
  |2,_=>exact Bq.2 ⟨rfl,hr⟩) (by show 3*1<=16777216;decide)
 have hps:((#[(0,a),(1,b),(2,c)]:Array (Nat×Operand)).map λ(x:Nat×Operand)=>match x with|(i,x)=>(i,ev f x))=#[(0,.int .i64 p),(1,.int .i64 q),(2,.int .i64 r)]:=by simp [ha,hb,hc]
 simp only[execOp,Sem.run_bind];rw[hps];have hl:([p,q,r]:List (den Y0.D (.int .i64))).length=3:=rfl;rw[hl]at hrun;rw[hrun];rfl
theorem Avh{W:World}{ab ao tb mb:Nat}{m:List (K2×Int)}{y:K2}(hx:okK x)(hy:okK y)(hW:ClW W ab ao tb mb m):Calls Y0.P 270 #[.agg ⟨Ua x⟩,.agg ⟨Ua y⟩,.pointer (some ⟨ab,ao,none⟩)] W λe w'=>e=.returned (.int .i64 (cfK m x y))/\∃q os',w'=Sort.grow (W.drewN q) os':=by
 refine Nf (F:=Tryz.f270) (N:=31) (vs:=[.agg ⟨Ua x⟩,.agg ⟨Ua y⟩,.pointer (some ⟨ab,ao,none⟩)]) (by kernel_rfl) rfl rfl (by simp) ?_;have t201:tyB Y0.P 201 false 1=true:=by kernel_rfl
 have t248:tyB Y0.P 248 false 1=true:=by kernel_rfl
 have t140:tyB Y0.P 140 false 1=true:=by kernel_rfl
 have t288:tyB Y0.P 288 true 2=true:=by kernel_rfl
 have fl250:flB Y0.P 250 0 0=true:=by kernel_rfl
 have hm:Aad Y0.P 248=some (288,3):=by kernel_rfl
 have hkm:Y0.km 288 (.u 17)=true:=by kernel_rfl
 have hT:=Al0 (e:=.int .i64) hm hkm;have und288:Y0.P.underlying 288=some (.array 2 140):=by kernel_rfl
 have sz140:∀w,(Go.sizeOf 140).run Y0.P w=.ok 1 w:=λw=>(K4 (w:=w) t140).2;generalize hf0:fr0 [.agg ⟨Ua x⟩,.agg ⟨Ua y⟩,.pointer (some ⟨ab,ao,none⟩)]=f0;have f00:f0 0=.agg ⟨Ua x⟩:=by rw[<-hf0];rfl
 have f01:f0 1=.agg ⟨Ua y⟩:=by rw[<-hf0];rfl
 have f02:f0 2=.pointer (some ⟨ab,ao,none⟩):=by rw[<-hf0];rfl
 clear hf0;let bx:Obj:=.cells ⟨Ua x⟩ 288 (0,0);let b_y:Obj:=.cells ⟨Ua y⟩ 288 (0,0);refine Fo (Ef (Ax (w':=W.alloc bx) (v:=.pointer (some ⟨W.heap.size,0,none⟩)) ?_ (Ax (w':=(W.alloc bx).alloc b_y) (v:=.pointer (some ⟨W.heap.size+1,0,none⟩)) ?_ (Ax (v:=.int .i64 0) (Ux rfl _ _ _ _) ?_))))
 .have e0:ev f0 (.tmp 0)=.agg ⟨Ua x⟩:=f00;simp [execOp,Instr.box,newVar,newRow,e0];rfl
 .have e1:ev (put 31 f0 (some 3) (.pointer (some ⟨W.heap.size,0,none⟩))) (.tmp 1)=.agg ⟨Ua y⟩:=by simp [ev,put,upd,f01]
  simp [execOp,Instr.box,newVar,newRow,e1];rfl
 generalize hf1:put 31 (put 31 (put 31 f0 (some 3) (.pointer (some ⟨W.heap.size,0,none⟩))) (some 4) (.pointer (some ⟨W.heap.size+1,0,none⟩))) (some 5) (.int .i64 0)=f1;have f12:f1 2=.pointer (some ⟨ab,ao,none⟩):=by rw[<-hf1];simp [put,upd,f02]
 have f13:f1 3=.pointer (some ⟨W.heap.size,0,none⟩):=by rw[<-hf1];simp [put,upd]
 have f14:f1 4=.pointer (some ⟨W.heap.size+1,0,none⟩):=by rw[<-hf1];simp [put,upd]
 clear hf1;let wd:World:={(W.alloc bx).alloc b_y with drawn:=((W.alloc bx).alloc b_y).drawn+1}
 have hwd:wd=Sort.grow (W.drewN 1) #[bx,b_y]:=by show ({(W.alloc bx).alloc b_y with drawn:=((W.alloc bx).alloc b_y).drawn+1}:World)=_;rw[Sort.alloc_eq_grow,Sort.alloc_eq_grow,Sort.grow_grow];rfl
 let S:World->Prop:=λw=>∃os,w=Sort.grow wd os;have hS:S wd:=⟨#[],by simp⟩
 have old:∀w,S w->∀b,b<W.heap.size->w.heap[b]?=W.heap[b]?:=λw⟨os,e⟩b hb=>by rw[e,hwd,Sort.grow_grow];show (W.heap++_)[b]?=_;rw[Array.getElem?_append_left hb]
 have lt:∀{b:Nat}{o:Obj},W.heap[b]?=some o->b<W.heap.size:=λh=>(Array.getElem?_eq_some_iff.1 h).1;have ltc:∀{b o:Nat}{v:Value},W.cell? ⟨b,o,none⟩=some v->b<W.heap.size:=λ{b o v}h=>by
  rcases Nat.lt_or_ge b W.heap.size with h1|h1
  .exact h1
  .simp [World.cell?,Array.getElem?_eq_none h1]at h
 have cl:∀w,S w->ClW w ab ao tb mb m:=λw hw=>hW.Cq λb hb=>old w hw b (by
  obtain⟨es,c,h1,_⟩:=hW.map;rcases hb with rfl|rfl|rfl
  .exact ltc hW.box
  .exact ltc hW.tab
  .exact lt h1)
 have hbx:∀w,S w->w.heap[W.heap.size]?=some bx:=λw⟨os,e⟩=>by rw[e,hwd,Sort.grow_grow];show (W.heap++_)[W.heap.size]?=_;simp [Array.getElem?_append]
 have hby:∀w,S w->w.heap[W.heap.size+1]?=some b_y:=λw⟨os,e⟩=>by rw[e,hwd,Sort.grow_grow];show (W.heap++_)[W.heap.size+1]?=_;simp [Array.getElem?_append]
 have look:∀(z:K2),okK z->∀w,S w->∀(f:Fr)(a b:Operand)(dst:Option Tmp)(ty:TypeId)(pos:String)(af:Array Edge),ev f a=.map (some mb)->ev f b=.agg ⟨Ua z⟩->(execOp (ev f) ⟨dst,.lookup 248 a b false,ty,pos,af,none⟩).run Y0.P w=.ok (.value (.int .i64 (idK m z))) w:=λz hz w hw f a b dst ty pos af ha hb=>by
  obtain⟨es,c,h1,h2⟩:=(cl w hw).map;have hs:St (λ_=>False) w ([(mb,.map es c)]++[]):=⟨λ_ h=>h.elim,λp hp=>by simp at hp;subst hp;exact⟨h1,λh=>h⟩,by simp⟩
  refine My (P:=Y0.P) (f:=f) (w:=w) (w':=w) (v:=.int .i64 (idK m z)) (ty:=ty) (λpos af K hk=>?_) dst pos af;have hzr:(zeroValue 3).run Y0.P w=.ok (.int .i64 0) w:=by
   have:zrB Y0.P 3 (.int .i64 0):=by unfold zrB;kernel_rfl
   unfold zrB at this;cases hi:Y0.P.info? 3 with
   |none=>simp [hi]at this
   |some i=>simp only[hi,Option.bind_some]at this;simp [zeroValue,typeInfo,hi,this]
  letI:Rep (den Y0.D (.u 17)):=RT Y0.toUS (.u 17)
  letI:Rep (den Y0.D (.int .i64)):=RT Y0.toUS (.int .i64)
  letI:DecidableEq (den Y0.D (.u 17)):=L2 Y0 (.u 17)
  refine Agm (P:=Y0.P) (κ:=den Y0.D (.u 17)) (β:=den Y0.D (.int .i64)) (k:=z) (zd:=(0:Int)) hT h2 hs ha hb (Ar6 hz) hzr (Bq.2 ⟨rfl,Bk.2 (by omega)⟩) λu hu=>?_;have hu':=(Bq.1 (show rp Y0.toUS (.int .i64) _ _ u _ from hu)).1;rw[hu'];exact hk
 have ink:∀z,okK z->InK .i64 (idK m z):=λz hz=>by
  obtain⟨es,c,h1,h2⟩:=(cl wd hS).map;obtain⟨b,es',c',k1,k2,k3,k4⟩:=@Dz.ex _ _ (RT Y0.toUS (.u 17)) (RT Y0.toUS (.int .i64)) _ _ _ _ _ h2;unfold idK;cases hg:Ac m z with
  |none=>exact Bk.2 (by simp)
  |some v=>
   rw[Option.getD_some];have:∃j,∃(hj:j<m.length),m[j].2=v:=by
    rw[Abt]at hg;cases hi:(m.map (·.1)).findIdx? (· == z) with
    |none=>rw[hi]at hg;cases hg
    |some i=>
     rw[hi,Option.bind_some]at hg;cases hm:m[i]? with
     |none=>rw[hm]at hg;cases hg
     |some p=>
      rw[hm]at hg;obtain⟨hj,e⟩:=List.getElem?_eq_some_iff.1 hm;exact⟨i,hj,by rw[e];simpa using hg⟩
   obtain⟨j,hj,e⟩:=this;have:=Bq.1 (k4 j (by rw[k3];exact hj) hj).2;rw[<-e];exact this.2
 have arr:∀(b j:Nat)(w:World)(f:Fr)(a:Operand)(dst:Option Tmp)(ty:TypeId)(pos:String)(af:Array Edge),j<2->ev f a=.pointer (some ⟨b,0,none⟩)->(execOp (ev f) ⟨dst,.indexAddr 288 a (.const (.int .i64 (j:Int))),ty,pos,af,none⟩).run Y0.P w=.ok (.value (.pointer (some ⟨b,j,none⟩))) w:=λb j w f a dst ty pos af hj ha=>by
  have h1:(0:Int)<=j/\(j:Int)<(2:Nat):=by omega
  have ec:ev f (.const (.int .i64 (j:Int)))=.int .i64 (j:Int):=rfl;simp [execOp,Instr.indexAt,ha,ec,asIntOf,run_underlying und288,Instr.sureAddr,sz140,Gv];omega
 refine Fo (Arr (m:=26) S (by kernel_rfl) rfl rfl (Ami [23,24,25] hS ?_));refine Tp (i:=0) (d:=6) rfl rfl rfl (by kernel_rfl) rfl hS (λw hw=>Ax (v:=.pointer (some ⟨tb,0,none⟩)) (Mz t201 (a:=⟨ab,ao,none⟩) (by simp [ev,put,upd,f12,f13,f14]) (cl w hw).box _ _ _) ⟨rfl,rfl⟩) ?_;refine Tp (i:=1) (d:=7) rfl rfl rfl (by kernel_rfl) rfl hS (λw hw=>Z4 (a:=⟨tb,0,none⟩) (by simp [ev,put,upd,f12,f13,f14]) ⟨rfl,rfl⟩) ?_;refine Tp (i:=2) (d:=8) rfl rfl rfl (by kernel_rfl) rfl hS (λw hw=>Agn fl250 (b:=tb) (o:=0) (by simp [ev,put,upd,f12,f13,f14]) ⟨rfl,rfl⟩) ?_;refine Tp (i:=3) (d:=9) rfl rfl rfl (by kernel_rfl) rfl hS (λw hw=>Ax (v:=.map (some mb)) (Mz t248 (a:=⟨tb,0,none⟩) (by simp [ev,put,upd,f12,f13,f14]) (cl w hw).tab _ _ _) ⟨rfl,rfl⟩) ?_;refine Tp (i:=4) (d:=10) rfl rfl rfl (by kernel_rfl) rfl hS (λw hw=>Ax (v:=.agg ⟨Ua x⟩) (My (λpos af K hk=>Abm (n:=2) (I:=λ_=>False) (T:=[]) t288 (b:=W.heap.size) (o:=0) (cs:=⟨Ua x⟩) ⟨λ_ h=>h.elim,λp hp=>by simp at hp;subst hp;exact⟨hbx w hw,λh=>h⟩,by simp⟩ (by simp [ev,put,upd,f12,f13,f14]) rfl rfl hk) _ _ _) ⟨rfl,rfl⟩) ?_;refine Tp (i:=5) (d:=11) rfl rfl rfl (by kernel_rfl) rfl hS (λw hw=>Ax (v:=.int .i64 (idK m x)) (look x hx w hw _ _ _ _ _ _ _ (by simp [ev,put,upd,f12,f13,f14]) (by simp [ev,put,upd,f12,f13,f14])) ⟨rfl,rfl⟩) ?_;refine Tp (i:=6) (d:=12) rfl rfl rfl (by kernel_rfl) rfl hS (λw hw=>Ax (v:=.pointer (some ⟨tb,0,none⟩)) (Mz t201 (a:=⟨ab,ao,none⟩) (by simp [ev,put,upd,f12,f13,f14]) (cl w hw).box _ _ _) ⟨rfl,rfl⟩) ?_;refine Tp (i:=7) (d:=13) rfl rfl rfl (by kernel_rfl) rfl hS (λw hw=>Z4 (a:=⟨tb,0,none⟩) (by simp [ev,put,upd,f12,f13,f14]) ⟨rfl,rfl⟩) ?_;refine Tp (i:=8) (d:=14) rfl rfl rfl (by kernel_rfl) rfl hS (λw hw=>Agn fl250 (b:=tb) (o:=0) (by simp [ev,put,upd,f12,f13,f14]) ⟨rfl,rfl⟩) ?_;refine Tp (i:=9) (d:=15) rfl rfl rfl (by kernel_rfl) rfl hS (λw hw=>Ax (v:=.map (some mb)) (Mz t248 (a:=⟨tb,0,none⟩) (by simp [ev,put,upd,f12,f13,f14]) (cl w hw).tab _ _ _) ⟨rfl,rfl⟩) ?_;refine Tp (i:=10) (d:=16) rfl rfl rfl (by kernel_rfl) rfl hS (λw hw=>Ax (v:=.agg ⟨Ua y⟩) (My (λpos af K hk=>Abm (n:=2) (I:=λ_=>False) (T:=[]) t288 (b:=W.heap.size+1) (o:=0) (cs:=⟨Ua y⟩) ⟨λ_ h=>h.elim,λp hp=>by simp at hp;subst hp;exact⟨hby w hw,λh=>h⟩,by simp⟩ (by simp [ev,put,upd,f12,f13,f14]) rfl rfl hk) _ _ _) ⟨rfl,rfl⟩) ?_;refine Tp (i:=11) (d:=17) rfl rfl rfl (by kernel_rfl) rfl hS (λw hw=>Ax (v:=.int .i64 (idK m y)) (look y hy w hw _ _ _ _ _ _ _ (by simp [ev,put,upd,f12,f13,f14]) (by simp [ev,put,upd,f12,f13,f14])) ⟨rfl,rfl⟩) ?_;refine Atb (i:=12) (d:=18) (v:=.int .i64 (Nh (idK m x) (idK m y))) rfl rfl (by kernel_rfl) hS rfl (λw hw=>.inr ⟨272,#[.int .i64 (idK m x),.int .i64 (idK m y)],?_,Avg _ _ (ink x hx) (ink y hy) w⟩) ?_
 .have hcan:En Y0.P 272=true:=by kernel_rfl
  exact Aqd hcan (by simp [ev,put,upd,f12,f13,f14]) (by simp [ev,put,upd,f12,f13,f14]) _ _ _ _
 refine Tp (i:=13) (d:=19) rfl rfl rfl (by kernel_rfl) rfl hS (λw hw=>Ax (v:=.pointer (some ⟨W.heap.size,0,none⟩)) (arr (W.heap.size) 0 w _ _ _ _ _ _ (by decide) (by simp [ev,put,upd,f12,f13,f14])) ⟨rfl,rfl⟩) ?_;refine Tp (i:=14) (d:=20) rfl rfl rfl (by kernel_rfl) rfl hS (λw hw=>Ax (v:=.int .i64 x.a0) (Mz t140 (a:=⟨W.heap.size,0,none⟩) (by simp [ev,put,upd,f12,f13,f14]) (by rw[B6 (hbx w hw)];rfl) _ _ _) ⟨rfl,rfl⟩) ?_;refine Tp (i:=15) (d:=21) rfl rfl rfl (by kernel_rfl) rfl hS (λw hw=>Ax (v:=.pointer (some ⟨W.heap.size+1,0,none⟩)) (arr (W.heap.size+1) 0 w _ _ _ _ _ _ (by decide) (by simp [ev,put,upd,f12,f13,f14])) ⟨rfl,rfl⟩) ?_;refine Tp (i:=16) (d:=22) rfl rfl rfl (by kernel_rfl) rfl hS (λw hw=>Ax (v:=.int .i64 y.a0) (Mz t140 (a:=⟨W.heap.size+1,0,none⟩) (by simp [ev,put,upd,f12,f13,f14]) (by rw[B6 (hby w hw)];rfl) _ _ _) ⟨rfl,rfl⟩) ?_;refine Atb (i:=17) (d:=23) (v:=.int .i64 (Nh (x.a0) (y.a0))) rfl rfl (by kernel_rfl) hS rfl (λw hw=>.inr ⟨273,#[.int .i64 (x.a0),.int .i64 (y.a0)],?_,Ahy _ _ (hx.1) (hy.1) w⟩) ?_
 .have hcan:En Y0.P 273=true:=by kernel_rfl
  exact Aqd hcan (by simp [ev,put,upd,f12,f13,f14]) (by simp [ev,put,upd,f12,f13,f14]) _ _ _ _
 refine Tp (i:=18) (d:=24) rfl rfl rfl (by kernel_rfl) rfl hS (λw hw=>Ax (v:=.pointer (some ⟨W.heap.size,1,none⟩)) (arr (W.heap.size) 1 w _ _ _ _ _ _ (by decide) (by simp [ev,put,upd,f12,f13,f14])) ⟨rfl,rfl⟩) ?_;refine Tp (i:=19) (d:=25) rfl rfl rfl (by kernel_rfl) rfl hS (λw hw=>Ax (v:=.int .i64 x.a1) (Mz t140 (a:=⟨W.heap.size,1,none⟩) (by simp [ev,put,upd,f12,f13,f14]) (by rw[B6 (hbx w hw)];rfl) _ _ _) ⟨rfl,rfl⟩) ?_;refine Tp (i:=20) (d:=26) rfl rfl rfl (by kernel_rfl) rfl hS (λw hw=>Ax (v:=.pointer (some ⟨W.heap.size+1,1,none⟩)) (arr (W.heap.size+1) 1 w _ _ _ _ _ _ (by decide) (by simp [ev,put,upd,f12,f13,f14])) ⟨rfl,rfl⟩) ?_;refine Tp (i:=21) (d:=27) rfl rfl rfl (by kernel_rfl) rfl hS (λw hw=>Ax (v:=.int .i64 y.a1) (Mz t140 (a:=⟨W.heap.size+1,1,none⟩) (by simp [ev,put,upd,f12,f13,f14]) (by rw[B6 (hby w hw)];rfl) _ _ _) ⟨rfl,rfl⟩) ?_;refine Atb (i:=22) (d:=28) (v:=.int .i64 (Nh (x.a1) (y.a1))) rfl rfl (by kernel_rfl) hS rfl (λw hw=>.inr ⟨273,#[.int .i64 (x.a1),.int .i64 (y.a1)],?_,Ahy _ _ (hx.2) (hy.2) w⟩) ?_
 .have hcan:En Y0.P 273=true:=by kernel_rfl
  exact Aqd hcan (by simp [ev,put,upd,f12,f13,f14]) (by simp [ev,put,upd,f12,f13,f14]) _ _ _ _
 have hcan271:En Y0.P 271=true:=by kernel_rfl
 have hs23:slB Y0.P 23 3 1 8=true:=by kernel_rfl
 let lv:Nat->Int:=λj=>match j with
  |0=>Nh (idK m x) (idK m y)
  |1=>Nh x.a0 y.a0
  |_=>Nh x.a1 y.a1
 let row:Array Value:=#[.int .i64 (lv 0),.int .i64 (lv 1),.int .i64 (lv 2)];refine A8v (i:=23) rfl rfl (by kernel_rfl) (Ax (v:=.slice (some ⟨wd.heap.size,0,none⟩) 3 3) (w':=wd.alloc (.cells row 3)) ?_ ⟨⟨#[.cells row 3 (0,0)],Sort.alloc_eq_grow _ _⟩,?_⟩)
 .exact A0o (by simp [ev,put,upd]) (by simp [ev,put,upd]) (by simp [ev,put,upd]) Ahx Ahx Ahx _ _ _ _
 have hrow:(wd.alloc (.cells row 3)).heap[wd.heap.size]?=some (.cells row 3 (0,0)):=heap_alloc_new _ _;have hS2:S (wd.alloc (.cells row 3)):=⟨#[.cells row 3 (0,0)],Sort.alloc_eq_grow _ _⟩
 refine A3f (i:=24) rfl (by kernel_rfl) (Agp (vs:=[.slice (some ⟨wd.heap.size,0,none⟩) 3 3]) hcan271 (by simp [ev,put,upd]) (Calls.mono (Axa (l:=lv) hrow λj hj=>?_) ?_))
 .match j,hj with
  |0,_=>rfl
  |1,_=>rfl
  |2,_=>rfl
 rintro e w' ⟨rfl,rfl⟩;refine⟨hS2,?_⟩;refine A3f (i:=25) rfl (by kernel_rfl) (Ax (v:=.int .i64 (orI lv)) (Ux (by simp [ev,put,upd]) _ _ _ _) ⟨hS2,?_⟩);refine A50 (by kernel_rfl) (Ui ⟨.int .i64 (orI lv),λa ha=>?_,rfl,1,#[bx,b_y,.cells row 3 (0,0)],?_⟩)
 .refine Kh (vs:=[.int .i64 (orI lv)]) ?_;have hR:Tryz.f270.results.toList=[.tmp 5]:=rfl;have h4:=ha.2 5;rw[Array.getD_eq_getD_getElem?]at h4;rw[hR];have h5:(a[5]?).getD undef=.int .i64 (orI lv):=by rw[h4];simp [put,upd]
  simp [List.mapM_cons,Y3,h5]
 .rw[Sort.alloc_eq_grow,hwd,Sort.grow_grow];rfl
end
section
set_option maxRecDepth 100000
set_option maxHeartbeats 1000000
abbrev KS:Type:={x:K2 // okK x}
instance:Inhabited KS:=⟨⟨⟨0,0⟩,Bk.2 (by show _<=(0:Int)/\(0:Int)<=_;omega),Bk.2 (by show _<=(0:Int)/\(0:Int)<=_;omega)⟩⟩
def encS(x:KS):List Value:=Ua x.1
def cfS(m:List (K2×Int))(x y:KS):Int:=cfK m x.1 y.1
theorem ltS(m:List (K2×Int))(x y:KS):Go.Proofs.ltOf (cfS m) x y=decide (idK m x.1<idK m y.1∨idK m x.1=idK m y.1/\(x.1.a0<y.1.a0∨x.1.a0=y.1.a0/\x.1.a1<y.1.a1)):=by
 unfold Go.Proofs.ltOf cfS cfK orI Nh;simp only;repeat' split
 all_goals (refine decide_eq_decide.2 ?_;omega)
theorem A9b(m:List (K2×Int)):Sort.SWO (Go.Proofs.ltOf (cfS m)) where
 irrefl x:=by rw[ltS];simp
 trans x y z h1 h2:=by rw[ltS]at *;simp only[decide_eq_true_eq]at *;omega
 ntrans x y z h1 h2:=by rw[ltS]at *;simp only[decide_eq_false_iff_not]at *;omega
theorem Awg{I:Reg}{w:World}{T:Own}(os:Array Obj)(h:St I w T):Ext I w I (Sort.grow w os)/\St I (Sort.grow w os) T:=by
 have hlt:∀b,b<w.heap.size->(Sort.grow w os).heap[b]?=w.heap[b]?:=λb hb=>by show (w.heap++os)[b]?=_;rw[Array.getElem?_append_left hb]
 refine⟨⟨rfl,rfl,rfl,by simp,λ_ h=>h,λb hb=>hlt b (h.imm b hb)⟩,λb hb=>?_,λp hp=>⟨?_,(h.own p hp).2⟩,h.nodup⟩
 .have:=h.imm b hb;simp;omega
 .have:=(h.own p hp).1;rw[hlt p.1 (Array.getElem?_eq_some_iff.1 this).1];exact this
theorem Ap5{I:Reg}{W:World}{A T:Own}{v:Value}{xs:List K2}{ab ao tb mb:Nat}{m:List (K2×Int)}(ho:OSl Y0 (.u 17) I W A v xs)(hs:St I W (A++T))(hW:ClW W ab ao tb mb m)(hne:∀p∈A,p.1≠ab/\p.1≠tb/\p.1≠mb)(hmax:xs.length<4611686018427387904):Calls Y0.P 269 #[v,.func (.func 270) #[] #[.pointer (some ⟨ab,ao,none⟩)]] W λe w'=>e=.returned (.tuple #[])/\∃xs' A',xs'.Perm xs/\Ext I W I w'/\St I w' (A'++T)/\OSl Y0 (.u 17) I w' A' v xs':=by
 rcases @Cc.ex _ (RT Y0.toUS (.u 17)) _ _ _ _ _ ho with ⟨rfl,rfl,rfl⟩|⟨b,arr,cap,e0,off,rfl,rfl,h3,h4,h5,h6⟩
 .have key:=Go.Proofs.AnyF.slices_SortFunc_none (P:=Y0.P) {Anf with} none 0 (.func (.func 270) #[] #[.pointer (some ⟨ab,ao,none⟩)]) W;change Calls Y0.P 269 _ _ _ at key;refine Calls.mono key λe w'⟨he,hw⟩=>⟨he,[],[],.refl _,?_⟩
  subst hw;exact⟨Ext.refl _ _,hs,ho⟩
 .have hok:∀x∈xs,okK x:=λx hx=>by obtain⟨j,hj,rfl⟩:=List.mem_iff_getElem.1 hx;obtain⟨u,hu,_⟩:=h6 j hj;obtain⟨cs,rfl,hF⟩:=Lc.1 (show rp Y0.toUS (.u 17) _ _ u _ from hu);cases hF with|cons a c=>cases c with|cons d f=>exact⟨(Bq.1 a).2,(Bq.1 d).2⟩
  obtain⟨ys,hys⟩:∃ys:List KS,ys.map (·.1)=xs:=⟨xs.attach.map λx=>⟨x.1,hok x.1 x.2⟩,by simp⟩
  subst hys;let d:Array KS:=⟨ys⟩
  letI:Rep (den Y0.D (.u 17)):=RT Y0.toUS (.u 17)
  have hsz:Rep.size (den Y0.D (.u 17))=2:=rfl;have hlen:(ys.map (·.1)).length=ys.length:=by simp
  replace h3:ys.length<=cap:=hlen▸h3;have cell:∀j(hj:j<ys.length)(i:Nat)(hi:i<2),arr[off+(j*2+i)]?=some ((encS ys[j])[i]!):=λj hj i hi=>by
   obtain⟨u,hu,hc⟩:=h6 j (Nat.lt_of_lt_of_eq hj hlen.symm);have hu':rp Y0.toUS (.u 17) I W u ys[j].1:=by
    have e:(ys.map (·.1))[j]'(Nat.lt_of_lt_of_eq hj hlen.symm)=ys[j].1:=by simp
    rw[<-e];exact hu
   obtain⟨cs,rfl,hF⟩:=Lc.1 hu';have hcs:cs=encS ys[j]:=by cases hF with|cons a c=>cases c with|cons d f=>cases f;rw[(Bq.1 a).1,(Bq.1 d).1];rfl
   subst hcs;have:=hc i (by show i<(encS ys[j]).length;exact hi);rw[hsz]at this;refine(show arr[off+(j*2+i)]?=_ from this).trans ?_;match i,hi with
   |0,_=>rfl
   |1,_=>rfl
  have hb:=hs.heap;have hblk:b<W.heap.size:=(Array.getElem?_eq_some_iff.1 hb).1;have hH:Go.Sort.HoldsK encS 2 W b off d:=by
   intro t ht;have ht':t<ys.length*2:=by have:=ht;rw[Go.Sort.size_flatK]at this;exact this
   refine⟨?_,by simp [World.frozen?,hb]⟩;rw[B6 hb,id,Go.Sort.get_flatK _ _ _ _ (show t<d.size*2 from ht')];have h1:t/2<ys.length:=by omega
   have h2:=cell (t/2) h1 (t%2) (by omega);have e1:t/2*2+t%2=t:=by omega
   rw[e1]at h2;rw[h2];have e2:d[t/2]! = ys[t/2]:=by rw[getElem!_pos d (t/2) h1];rfl
   rw[e2]
  obtain⟨n1,n2,n3⟩:=hne _ (List.mem_singleton.2 rfl);have ltc:∀{b o:Nat}{v:Value},W.cell? ⟨b,o,none⟩=some v->b<W.heap.size:=λ{b o v}h=>by
   rcases Nat.lt_or_ge b W.heap.size with h1|h1
   .exact h1
   .simp [World.cell?,Array.getElem?_eq_none h1]at h
  have oth:∀(n:Nat)(dk:Array KS)(os:Array Obj)(c:Nat),c<W.heap.size->c≠b->(Go.Proofs.sortWorldK encS 2 W b off n dk os).heap[c]?=W.heap[c]?:=λn dk os c hc hcb=>by show ((W.heap.modify b _)++os)[c]?=_;rw[Array.getElem?_append_left (by simpa using hc),Array.getElem?_modify,if_neg (Ne.symm hcb)]
  have hcmp:Go.Proofs.CmpLays Y0.P 270 #[.pointer (some ⟨ab,ao,none⟩)] encS 2 (cfS m) b off d.size W:=by
   intro n os dk hdk x y;have hW':ClW (Go.Proofs.sortWorldK encS 2 W b off n dk os) ab ao tb mb m:=hW.Cq λc hc=>by
    obtain⟨es,cl,h1,_⟩:=hW.map;rcases hc with rfl|rfl|rfl
    .exact oth n dk os _ (ltc hW.box) (Ne.symm n1)
    .exact oth n dk os _ (ltc hW.tab) (Ne.symm n2)
    .exact oth n dk os _ (Array.getElem?_eq_some_iff.1 h1).1 (Ne.symm n3)
   exact Avh x.2 y.2 hW'
  have key:=Go.Proofs.AnyQ.slices_SortFunc (P:=Y0.P) Anf 2 (λw=>(K4 (w:=w) (show tyB Y0.P 288 true 2=true by kernel_rfl)).1) (λw=>(K4 (w:=w) (show tyB Y0.P 288 true 2=true by kernel_rfl)).2) encS (λ_=>rfl) (λx v hv=>by simp [encS,Ua]at hv;rcases hv with rfl|rfl<;>rfl) (cfS m) (A9b m) 270 #[.pointer (some ⟨ab,ao,none⟩)] b off cap d W (λargs w=>Tz (by kernel_rfl)) hcmp hH hblk (Nat.lt_of_le_of_lt (Nat.le_of_eq hlen.symm) hmax);change Calls Y0.P 269 _ _ _ at key;suffices hN:∀N,N=ys.length->Calls Y0.P 269 #[.slice (some ⟨b,off,none⟩) N cap,.func (.func 270) #[] #[.pointer (some ⟨ab,ao,none⟩)]] W λe w'=>e=.returned (.tuple #[])/\∃xs' A',xs'.Perm (ys.map (·.1))/\Ext I W I w'/\St I w' (A'++T)/\OSl Y0 (.u 17) I w' A' (.slice (some ⟨b,off,none⟩) N cap) xs' from hN _ hlen
  intro N hN;subst hN;refine key.mono λe w'⟨he,d',n,os,hp,_,hw⟩=>⟨he,d'.toList.map (·.1),?_⟩
  obtain⟨p1,_,p3⟩:=hp;have hd':d'.toList.Perm ys:=by
   have e1:d'.extract 0 d.size=d':=by rw[<-p1];simp
   have e2:d.extract 0 d.size=d:=by simp
   rw[e1,e2]at p3;exact p3
  have hl':d'.toList.length=ys.length:=hd'.length_eq;have hlm:(d'.toList.map (·.1)).length=ys.length:=by rw[List.length_map];exact hl'
  let arr':Array Value:=Go.Sort.putCells id off (Go.Sort.flatK encS 2 d') arr;have harr':arr'.size=arr.size:=by simp [arr',Go.Sort.putCells]
  refine⟨[(b,.cells arr' e0 (0,0))],hd'.map _,?_⟩;obtain⟨x1,s1⟩:=hs.write (w':=Go.Sort.putRowK encS 2 (Go.Sort.ahead W n) b off d') (o':=.cells arr' e0 (0,0)) rfl rfl rfl (by simp [Go.Sort.putRowK,Go.Sort.putRow,Go.Sort.mapBlock,Go.Sort.ahead]) (by
   show (W.heap.modify b _)[b]?=_;rw[Array.getElem?_modify,if_pos rfl,hb];rfl) (λc hc=>by
   show (W.heap.modify b _)[c]?=_;rw[Array.getElem?_modify,if_neg (Ne.symm hc)])
  obtain⟨x2,s2⟩:=Awg os s1;subst hw;refine⟨x1.trans x2,s2,⟨.inr ⟨b,arr',cap,e0,off,rfl,congrArg (λn=>Value.slice (some ⟨b,off,none⟩) n cap) hlm.symm,Nat.le_trans (Nat.le_of_eq hlm) h3,h4,by rw[harr'];exact h5,λj hj=>?_⟩⟩⟩;have hj':j<d'.toList.length:=Nat.lt_of_lt_of_eq hj (hlm.trans hl'.symm);have hjs:j<d'.size:=hj';refine⟨.agg ⟨encS d'.toList[j]⟩,?_,λi hi=>?_⟩
  .have e:(d'.toList.map (·.1))[j]'(by rw[List.length_map];exact hj')=d'.toList[j].1:=by simp
   exact cast (congrArg (λz=>rp Y0.toUS (.u 17) I _ _ z) e.symm) (Ar6 d'.toList[j].2)
  .have hi2:i<2:=hi;show arr'[off+(j*2+i)]?=(⟨encS d'.toList[j]⟩:Array Value)[i]?;have hlt:off+(j*2+i)<arr.size:=by
    rw[hsz]at h5;have:j*2+i<cap*2:=by omega
    omega
   simp only[arr',Go.Sort.putCells,Array.getElem?_mapIdx,Array.getElem?_eq_getElem hlt,Option.map_some];have hr:off<=off+(j*2+i)/\off+(j*2+i)<off+(Go.Sort.flatK encS 2 d').size:=by rw[Go.Sort.size_flatK];omega
   rw[if_pos hr];have e1:off+(j*2+i)-off=j*2+i:=by omega
   rw[e1,id,Go.Sort.get_flatK _ _ _ _ (by omega)];have e2:(j*2+i)/2=j:=by omega
   have e3:(j*2+i)%2=i:=by omega
   rw[e2,e3,getElem!_pos d' j hjs];match i,hi2 with
   |0,_=>rfl
   |1,_=>rfl
end
section
set_option maxRecDepth 100000
set_option maxHeartbeats 1000000
def A20(c:Cf Y0)(la:List (AV Y0))(_:PX)(k:AV Y0->Cf Y0->Prop):Prop:=match la with
 | [.own j,.own j2]=>match c.op,lkS c.sg j,lkS c.sg j2 with
  |none,some (.sl (.u 17) xs),some (.clo 270 [] [.del .ptr p 0])=>(∃tb y,p=some tb/\c.H tb=some (.st 7 y))/\xs.length<4611686018427387904/\∀xs':List (den Y0.D (.u 17)),xs'.Perm xs->k (.own c.nx) {c with sg:=(c.nx,.tp [])::(j,.sl (.u 17) xs')::Kc c.sg j,nx:=c.nx+1}
  |_,_,_=>False
 |_=>False
noncomputable def A1m:Inl Y0 269 where
 tr:=A20
 can:=by kernel_rfl
 ok {g0 g T AH A c f la vs X k} h ha hx R K _ next:=by
  unfold A20 at hx;split at hx
  .rename_i j j2;split at hx
   .rename_i xs p hop hj hj2;obtain⟨⟨tb,y,rfl,hH⟩,hlen,hx⟩:=hx;rcases ha with _|⟨a1,_|⟨a2,_|_⟩⟩
    obtain⟨hjn,rfl⟩:=a1;obtain⟨hj2n,rfl⟩:=a2;obtain⟨A1,A2,hp,_,hsl,hsg⟩:=h.sg.take hj;obtain⟨B1,B2,_,_,⟨rfl,vs,us,hm,hv1,hv2⟩,_⟩:=h.sg.take hj2;rcases hv1 with _|_
    rcases hv2 with _|⟨b1,_|_⟩
    obtain⟨ab,ao,u,hu,hpt,hI,rfl⟩:=b1;replace hu:u=.pointer (some ⟨tb,0,none⟩):=by have:=Re.1 hu;exact this
    subst hu;have hr:=h.hr;rw[hop]at hr;obtain⟨C1,C2,hob,hX,hst⟩:=HpR.take (T:=A++T) hr hH h.st;obtain⟨arr,e,A',rfl,hor⟩:=hob;obtain⟨cell,hcell,mA,hmp⟩:∃v,arr.toList=[v]/\∃A1,A'=A1/\OMp Y0 (.u 17) (.int .i64) g.I g.w A1 v y.ids:=by
     have hor:OR Y0 g.I g.w arr.toList [.map (.u 17) (.int .i64) y.ids] A':=hor;revert hor;cases arr.toList with
     |nil=>exact λhor=>hor.elim
     |cons v vs=>
      intro hor;obtain⟨D1,D2,rfl,hm,hn⟩:=hor;cases vs with
      |nil=>cases (show D2=[] from hn);exact⟨v,rfl,_,List.append_nil _,hm⟩
      |cons _ _=>exact hn.elim
    obtain⟨rfl,hmp⟩:=hmp;obtain⟨mb,es,cl,k1,k2,k3,k4⟩:=@Dz.ex _ _ (RT Y0.toUS (.u 17)) (RT Y0.toUS (.int .i64)) _ _ _ _ _ hmp;subst k1 k2;have st1:St g.I g.w (A1++(((tb,.cells arr e (0,0))::[(mb,.map es cl)])++(C2++(A2++T)))):=by refine hst.perm ?_;have:=Jj (T:=T) hp (((tb,Obj.cells arr e (0,0))::[(mb,Obj.map es cl)])++C2);simpa [List.append_assoc] using this
    have inT:∀p,p∈((tb,Obj.cells arr e (0,0))::[(mb,Obj.map es cl)])->g.w.heap[p.1]?=some p.2/\¬g.I p.1:=λp hm=>hst.own p (List.mem_append_left _ hm);have hbox:g.w.cell? ⟨ab,ao,none⟩=some (.pointer (some ⟨tb,0,none⟩)):=hpt.2 0 Nat.zero_lt_one;have hW:ClW g.w ab ao tb mb y.ids:=by
     refine⟨hbox,?_,es,cl,(inT (mb,.map es cl) (List.mem_cons_of_mem _ List.mem_cons_self)).1,?_⟩
     .rw[B6 (inT (tb,.cells arr e (0,0)) List.mem_cons_self).1];show arr[0]?=some (Value.map (some mb));rw[<-Array.getElem?_toList,hcell];rfl
     .exact @Dz.mk _ _ (RT Y0.toUS (.u 17)) (RT Y0.toUS (.int .i64)) _ _ _ _ _ ⟨mb,es,cl,rfl,rfl,k3,λj hj hj'=>⟨Awq (k4 j hj hj').1,Bq.2 (Bq.1 (k4 j hj hj').2)⟩⟩ (@Dz.bo _ _ (RT Y0.toUS (.u 17)) (RT Y0.toUS (.int .i64)) _ _ _ _ _ hmp)
    have nd:∀p∈A1,p.1≠ab/\p.1≠tb/\p.1≠mb:=λp hm=>by have h1:=(st1.own p (List.mem_append_left _ hm)).2;have h2:=st1.nodup;rw[List.map_append,List.nodup_append]at h2;have h3:=h2.2.2 p.1 (List.mem_map_of_mem hm);exact⟨λe'=>h1 (e'▸hI),h3 tb (by simp),h3 mb (by simp)⟩
    have key:=Ap5 (I:=g.I) (T:=((tb,.cells arr e (0,0))::[(mb,.map es cl)])++(C2++(A2++T))) (ao:=ao) hsl st1 hW nd hlen;rw[hm];refine Calls.mono key λen w'⟨he,xs',A1',hpm,hext,hst',hsl'⟩=>?_;subst he;have hle:Le g (g.new w' (.tuple #[])):=Le.new hext;refine next (.tuple #[]) (.own c.nx) _ (g.new w' (.tuple #[])) (((tb,.cells arr e (0,0))::[(mb,.map es cl)])++C2) (A1'++A2) hle ?_ ?_ (hx xs' hpm)
    .refine⟨by show g.n+1=c.nx+1;rw[h.n],h.le.trans hext,?_,?_,⟨[],A1'++A2,rfl,by show c.nx<g.n+1;rw[h.n];omega,⟨rfl,[],by rw[<-h.n];exact Gst.Cz _ _ _,.nil⟩,A1',A2,rfl,Nat.lt_succ_of_lt hjn,?_,hsg.mono hle⟩,h.hs.mono hle,hle.pt h.pt,λj a hj=>(h.fr j a hj).mono hle⟩
     .refine hst'.perm ?_;have:=(Jj (T:=T) (List.Perm.refl (A1'++A2)) (((tb,Obj.cells arr e (0,0))::[(mb,Obj.map es cl)])++C2)).symm;simpa [List.append_assoc] using this
     .show HR _ c.H _ _ c.op;rw[hop];exact HpR.mono (HpX.back hX hH ⟨arr,e,_,rfl,by show OR Y0 g.I g.w arr.toList [.map (.u 17) (.int .i64) y.ids] _;rw[hcell];exact⟨_,[],(List.append_nil _).symm,hmp,rfl⟩⟩) hext
     .show OSl Y0 (.u 17) g.I w' A1' ((g.new w' (.tuple #[])).μ j) xs';rw[hle.μ j hjn];exact hsl'
    .rw[<-h.n];exact J0 rfl
   .exact hx.elim
  .exact hx.elim
noncomputable def ilS:(q:FuncId)->Option (Inl Y0 q)
 |269=>some A1m
 |q=>ilT q
end
end Go.Proofs.YtcbkbpjlbmalmaaGreatDoor
