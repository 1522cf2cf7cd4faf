/- Lean texts of the claim. -/
import Derived.Test.YtboghahlhmnblaaGreatZv24
import Derived.Test.YtboghahlhmnblaaGreatZv22
import Derived.Test.YtboghahlhmnblaaGreatZv23
import Derived.Test.YtboghahlhmnblaaGreatZv21
import Derived.Maps.OwnSet
namespace Go.Proofs.YtboghahlhmnblaaGreat
set_option linter.all false
set_option maxRecDepth 100000
set_option maxHeartbeats 0
open Go.RowKit Go.Proofs.Tryz
variable{a o:World}{b j k:Nat}{c:List PlcP}{e:Array Value}{f:Value}{g:Int}{h:StyleP}{i:Exit->Act->World->Prop}{l:List Pt5}{m:Operand}{n:PieceP}{p:Act}{u x:Int}{A:Option Addr}{row:Option Nat}{w:World}
theorem ju(A B:Option Addr)(r s n:Nat)(l:LP)(D:n<=9223372036854775807)(o:SpS w A n l)(p:SpS w B n l):Calls prog 25 #[.slice A n r,.slice B n s] w (Bz w (.bool true)):=by
 have t:=Ea;have q:((n:Int) != (n:Int))=false:=aL
 go_in;go_wp2;go_loopw [5] (λi wr=>∃k:Nat,k<=n/\i=k/\Be w wr) λi _=>n-(intOf i).toNat
 case atStart=>exact⟨0,aB,rfl,bl0⟩
 obtain⟨k,C,rfl,b⟩:=hrel;by_cases a:k<n
 .obtain⟨v,F,rfl,-,e⟩:=(o.keep b).at_ a;obtain⟨z,G,rfl,-,f⟩:=(p.keep b).at_ a;let⟨g,h⟩:=e k a;let⟨j,m⟩:=f k a;generalize d:gt l k=u at g h j m;obtain⟨x,y⟩:=u;dsimp only at g h j m;clear d e f o p;have E:eqS (x,y) (x,y)=true:=(Ge _ _).2 rfl;go_wp2;go_quiet (fail);have c:=Bd b nq;clear b;go_wp2;exact aE c
 obtain rfl:n=k:=aK
 go_wp2;go_ret;exact⟨rfl,b⟩
theorem PuS.take(h:PuS w A b l){i:Nat}(f:i<=b):PuS w A i (l.take i):=by
 refine⟨by rw[bC,h.1];omega,?_⟩;obtain⟨e,h⟩:=h;rcases h with rfl|⟨c,a,rfl,h⟩
 .exact .inl aK
 refine .inr ⟨c,a,rfl,λk d=>?_⟩;rw[Afd d];exact h k aK
def iu(b:Bed4)(S:List Shp)(a:List Pt5)(k:Nat):Int:=Fh (λi=>Ha b S (a.take i) (pt a i)) k
theorem uo(b:Bed4)(S:List Shp)(a:List Pt5)(k:Nat):iu b S a (k+1)=if iu b S a k≠0 then iu b S a k else Ha b S (a.take k) (pt a k):=by
 unfold iu;rw[Fh];simp only[ite_not]
theorem Abt{a:Bed4}{S:List Shp}(h:iu a S l b=x)(c:x≠0)(m:Nat):iu a S l (b+m)=x:=by
 unfold iu at h ⊢;rw[Uv (by rw[h];exact c),h]
theorem uq(W Z:Option Addr)(C q n1 g:Nat)(b:Bed4)(S:List Shp)(j:List Pt5)(w:World)(ba:g<=9223372036854775807)(b7:g<=q)(b9:q<=9223372036854775807)(hS:ShS w W n1 S)(r:PuS w Z g j):Calls prog 37 #[Jw b,.slice W n1 C,.slice Z g q] w (Bz w (Zt b S j)):=by
 have u:=Ar (Bf.new w 62 #[b.len,b.wid,b.rx,b.ry]);have d:=Ar (show Be w (w.alloc (.cells #[b.len,b.wid,b.rx,b.ry] 62)) from (Ao (aV _ _)));obtain⟨len,a,rx,l⟩:=b;unfold Jw;dsimp only at u d ⊢;have L:=r.1;by_cases D:60<g
 .have J:=Ar (show Zt ⟨len,a,rx,l⟩ S j=5 by unfold Zt;rw[L,if_pos D]);clear L;go_enter func37,ntmps37;go_wp2;go_ret;exact⟨Bm J.out.symm,d.out⟩
 have J:=Ar (show Zt ⟨len,a,rx,l⟩ S j=iu ⟨len,a,rx,l⟩ S j g by unfold Zt iu;rw[L,if_neg D]);clear L;go_enter func37,ntmps37;go_wp2_with fail;refine Cu (λX=>Be w X/\Bf X w 62 #[len,a,rx,l]) ⟨d.out,u.out⟩ ?_;clear d u;rintro X ⟨d,u⟩;have T:=hS.keep d;have F:=r.keep d;have HB:=Ar u;clear hS r u;go_loopw [15] (λi wr=>∃k:Nat,k<=g/\i=k/\Hid (iu ⟨len,a,rx,l⟩ S j k=0)/\Be X wr) λi _=>g-(intOf i).toNat
 case atStart=>exact⟨0,aB,rfl,Ar rfl,bl0⟩
 obtain⟨k,hk,rfl,hz,K⟩:=hrel;by_cases V:k<g
 .have i2:(k:Int)<=(q:Int):=aK
  have i3:(k:Int)<=(g:Int):=aK
  obtain⟨b1,o1,rfl,-,C,q,N,O,P⟩:=(F.keep K).at_ V;have f:=Ar (show iu ⟨len,a,rx,l⟩ S j (k+1)=Ha ⟨len,a,rx,l⟩ S (j.take k) (pt j k) by rw[uo,if_neg (by rw[hz.out];simp)]);let⟨p,hp⟩:=gN (pt j k)
  rw[hp]at C q N O P f;clear hp;obtain⟨v,x,y,z,A⟩:=p;dsimp only at C q N O P;let⟨t,s⟩:=gN (Ha ⟨len,a,rx,l⟩ S (j.take k) ⟨v,x,y,z,A⟩)
  rw[s]at f;have M:=Ar s;clear s;have E:=Ar (Bf.new wr 72 #[v,.bool x,y,z,A]);have G:=Ar (Ao (aV _ wr) (o:=.cells #[v,.bool x,y,z,A] 72));have i1:(0:Int)<=(k:Int):=aK
  go_upto_region 6 with fail;refine Cu (λY=>Be wr Y/\Bf Y wr 72 #[v,.bool x,y,z,A]) ⟨G.out,E.out⟩ ?_;clear G E C q N O P;rintro Y ⟨H,Q⟩;obtain⟨e1,e2,e3,e4,e5,-⟩:=Q.cells5;let⟨d1,d2,d3,d4,d5⟩:=(HB.out.keep (An K H)).cells4;have h:=An K H;have U:=T.keep h;have R:=(F.keep h).take hk;go_cut [9] λv9 wx=>v9=t/\Be Y wx
  case first =>
   go_region_held3 (λn=>Cq n w 0 len/\Cq n w 1 a/\Cq n w 2 rx/\Cq n w 3 l/\Cq n wr 0 v/\Cq n wr 1 (.bool x)/\Cq n wr 2 y/\Cq n wr 3 z/\Cq n wr 4 A)
    (first
     | (go_keep;done)
     | exact⟨Aq c d1,Aq c d2,Aq c d3,Aq c d4,Aq c e1,Aq c e2,Aq c e3,Aq c e4,Aq c e5⟩)
    ((first
      | (go_at_call 59;refine rR (Sq ⟨len,a,rx,l⟩ S (j.take k) ⟨v,x,y,z,A⟩ (U.keep blD) (R.keep blD)) λw5 c=>?_;rw[M.out])))
   all_goals go_wp2
   all_goals go_meet
   all_goals exact⟨rfl,An blD c⟩
  clear d1 d2 d3 d4 d5 e1 e2 e3 e4 e5;obtain⟨rfl,I⟩:=hcut;by_cases m:t=0
  .subst m
   go_wp2_with fail;exact aE ⟨Ar f.out,An h I⟩
  have qf:(t != 0)=true:=by simpa using m
  have B:=Ar (show iu ⟨len,a,rx,l⟩ S j g=t by have:=Abt f.out m (g-(k+1));rwa [show k+1+(g-(k+1))=g by omega] at this);clear m;go_wp2;go_ret;exact⟨Bm (by rw[J.out,B.out]),An d (An h I)⟩
 obtain rfl:g=k:=aK
 go_wp2;go_ret;exact⟨Bm (by rw[J.out,hz.out]),An d K⟩
section
open Go.RowKit Go.Maps
def okC(p:Int×Int×Int):Prop:=inR p.1/\inR p.2.1/\inR p.2.2
def ir(p:Int×Int×Int):Value:=.agg #[p.1,p.2.1,p.2.2]
def klC(p:Int×Int×Int):Lit:=.string (keyBytes [.int .i64 p.1,.int .i64 p.2.1,.int .i64 p.2.2])
theorem Ahz:(match prog.underlying 96 with|some (.array _ _)|some (.struct _)=>true|_=>false)=true:=by rw[underlying96]
theorem Aou:(96:TypeId)<prog.types.size:=of_decide_eq_true aN
theorem Amp:Keyed prog 96:=Keyed.of_law (deep_law_laid (P:=prog) (k:=96) O8 (m:=3) aK Aou aN Ahz)
theorem uw:prog.cellsOf 96=3:=aN
theorem Amw:prog.keyType 96=true:=aN
theorem Af4(p:Int×Int×Int)(h:okC p):keyOf prog 96 (ir p)=some (klC p):=by
 obtain⟨m,d⟩:=Qm;have a:=Pe h.1;have b:=Pe h.2.1;have c:=Pe h.2.2;unfold keyOf ir klC;rw[d];simp[underlying96,Amw,Value.formed,uw,Program.keyLits,underlying3,cellsI,Value.cells,a,b,c]
theorem repC:KeyRep prog 96 ir okC klC where
 law:=Amp
 of:=Af4
 inj x y h:=by
  unfold ir at h;injection h with h
  injection h with h
  simp at h;exact Prod.ext h.1 (Prod.ext h.2.1 h.2.2)
def kI3(C:List PlcP)(x:Int×Int×Int):Nat->Int
 | 0 => -1
 | n+1=>if kt (plc C n)=x then (n:Int) else kI3 C x n
theorem Adz(C:List PlcP)(p:PlcP):∀n,kI3 C (kt p) n=Sf C p n
 | 0=>rfl
 | n+1=>by
   rw[kI3,Sf,Adz C p n];by_cases h:kt (plc C n)=kt p
   .rw[if_pos h,if_pos (Y8.2 h)]
   rw[if_neg h,if_neg λq=>h (Y8.1 q)]
theorem Ady(C:List PlcP)(x:Int×Int×Int):∀n,-1<=kI3 C x n/\kI3 C x n<n
 | 0=>by simp[kI3]
 | n+1=>by
   have:=Ady C x n;rw[kI3];split<;>omega
def Nh(w:World)(b n:Nat)(C:List PlcP)(k:Nat):Prop :=
 ∃D:DataW Unit,w.ownsMap prog 96 (plainElem prog 3) b n D/\∀x,okC x->(0<=kI3 C x k->Maps.has D (klC x)=true/\∀d,D.atKey (klC x) d=.lit (.int .i64 (kI3 C x k)))/\(kI3 C x k<0->Maps.has D (klC x)=false)
theorem Nh.made(w:World)(C:List PlcP):Nh (w.alloc (.map #[] 0)) w 0 C 0:=⟨.map [],World.ownsMap_made w _ _ _,λx _=>⟨λh=>by simp[kI3]at h,λ_=>rfl⟩⟩
theorem Nh.kept(h:Nh w b j c k)(g:w.grownBy a row)(d:some b≠row):Nh a b j c k:=by
 obtain⟨D,e,f⟩:=h;exact⟨D,e.kept g d,f⟩
theorem Nh.keep(h:Nh w b j c k)(d:Be w a):Nh a b j c k:=h.kept (row:=none) ⟨d.os,d.tape,d.output,d.size,λk e _=>d.block k e⟩ aL
theorem Nh.lt(h:Nh w b j c k):b<w.heap.size:=by obtain⟨D,a,_⟩:=h;exact a.lt
theorem Ahu:∀w,(zeroValue 3).run prog w=.ok (.int .i64 0) w:=λ_=>by kernel_rfl
theorem Nh.get(h:Nh w b j c k){x:Int×Int×Int}(f:okC x):
 ∃z,(Instr.lookup 94 (.map (some b)) (ir x) true).run prog w=.ok (.tuple #[.int .i64 z,.bool (decide (0<=kI3 c x k))]) w/\(0<=kI3 c x k->z=kI3 c x k):=by
 obtain⟨D,m,n⟩:=h;let⟨v,r,a,o⟩:=m.look_ok repC.law underlying94 (Ahu w) (plainElem_int underlying3 (by decide)) (repC.of x f);obtain⟨z,rfl,g,-⟩:=plainElem_int_inv underlying3 o;simp only[Prod.mk.injEq]at g;let⟨p,q⟩:=n x f;by_cases e:0<=kI3 c x k
 .obtain⟨i,l⟩:=p e;refine⟨z,by rw[a,i,bV e],λ_=>?_⟩;have d:=g.1;rw[l]at d;injection d with d
  injection d with _ d
  exact d.symm
 exact⟨z,by rw[a,q (by omega),decide_eq_false e],λh=>absurd h e⟩
theorem Nh.put(h:Nh w b j c k)(p:j<maxLen)(i:okC (kt (plc c k)))(u:k<=1000000):
 ∃g,(Instr.mapUpdate 94 (.map (some b)) (ir (kt (plc c k))) k).run prog w=.ok () g/\Nh g b (j+1) c (k+1)/\w.grownBy g (some b):=by
 obtain⟨D,n,m⟩:=h;let⟨g,f,q,r⟩:=n.update repC.law underlying94 p (repC.of _ i) (plainElem_int underlying3 (Pe (n:=(k:Int)) (by unfold inR;omega)));have o:IsMap D:=by obtain⟨t,s,_,_,_,rfl⟩:=n;exact⟨_,rfl⟩
 refine⟨g,f,⟨_,q,λy l=>?_⟩,r⟩;rw[kI3];by_cases e:kt (plc c k)=y
 .rw[if_pos e];subst e;exact⟨λ_=>⟨Maps.has_put_same o (repC.law.key (repC.of _ i)) _,λd=>Maps.atKey_put_same o (repC.law.key (repC.of _ i)) _ _⟩,λh=>by omega⟩
 rw[if_neg e];have a:klC y≠klC (kt (plc c k)):=λh=>e (repC.one l i h).symm
 rw[Maps.has_put_other a];refine⟨λh=>⟨((m y l).1 h).1,λd=>?_⟩,(m y l).2⟩;rw[Maps.atKey_put_other a];exact((m y l).1 h).2 d
theorem Rq{e:Array Oper}{a:List Oper}{o:Oper}(q:o.guard=none){x v:Operand}(l:o.op=Op.mapUpdate 94 m x v)
 (s:p.eval m=.map (some b)) (h:Nh w b j c k) (t:j<maxLen) (u:okC (kt (plc c k))) (r:k<=1000000) (z:p.eval x=ir (kt (plc c k))) (y:p.eval v=k)
 (n:∀f,Nh f b (j+1) c (k+1)->w.grownBy f (some b)->wpList prog e i a (p.put o.dst undef) f):wpList prog e i (o::a) p w:=by
 refine gT q λC g=>?_
 let⟨f,d,A,B⟩:=h.put t u r;unfold Oper.wp;simp[execOp,l,s,z,y,d,Result.andThen];exact g _ _ (n f A B)
theorem Ks{e:Array Oper}{a:List Oper}{o:Oper}(q:o.guard=none){x:Operand}(l:o.op=Op.lookup 94 m x true)
 (r:p.eval m=.map (some b)) (h:Nh w b j c k) (f:Int×Int×Int) (s:okC f) (t:p.eval x=ir f)
 (n:∀z,(0<=kI3 c f k->z=kI3 c f k)->wpList prog e i a (p.put o.dst (.tuple #[.int .i64 z,.bool (decide (0<=kI3 c f k))])) w):wpList prog e i (o::a) p w:=by
 refine gT q λv g=>?_
 let⟨z,d,u⟩:=h.get s;unfold Oper.wp;simp[execOp,l,r,t,d,Result.andThen];exact g _ _ (n z u)
theorem Yx(c:PlcP)(w:World):Calls prog 35 #[.agg #[c.ga,c.us,c.cp,.bool c.fl,c.qu,c.x,c.y]] w (Bz w (ir (kt c))):=by
 obtain⟨b,d,a,e,f,x,y⟩:=c;unfold ir kt;dsimp only;go_in;go_wp2;exact bR ⟨rfl,Ao blA⟩ rfl (by simp[results,results35,go_sem])
end
def M9:Array Value:=#[.string ⟨#[]⟩,.slice none 0 0,.int .i64 0,.slice none 0 0,.slice none 0 0,.slice none 0 0,.bool false]
def zPc:PieceP:=⟨⟨#[]⟩,[],0,[],[],[],false⟩
theorem Acq:PcV w M9 zPc:=⟨none,0,none,0,none,0,none,0,rfl,⟨aA,aK,rfl,.inl rfl⟩,⟨aA,aK,rfl,.inl rfl⟩,⟨aA,aK,rfl,.inl rfl⟩,aA,aK,rfl,.inl rfl⟩
def Qj(w:World)(r:List EdgeP×Int)(p:PieceP)(e:Ending)(a:World):Prop:=∃A c d b,e=.returned (.tuple #[.slice A r.1.length c,.agg d,r.2])/\r.1.length<=c/\c<=9223372036854775807/\EdS a A r.1.length r.1/\PcV a d b/\(r.2=0->b=p)/\Be w a
theorem Qj.none_(c:x≠0)(b:Be w a):Qj w ([],x) n (.returned (.tuple #[.slice none 0 0,.agg M9,x])) a:=⟨none,0,M9,zPc,rfl,aA,aK,⟨rfl,.inl rfl⟩,Acq,λh=>absurd h c,b⟩
theorem il(h:Below j a w)(g i c d e f k:Value)(hg:j<=b:=by omega):Below j a (((((((w.setCell ⟨b,0,none⟩ g).setCell ⟨b,1,none⟩ i).setCell ⟨b,2,none⟩ c).setCell ⟨b,3,none⟩ d).setCell ⟨b,4,none⟩ e).setCell ⟨b,5,none⟩ f).setCell ⟨b,6,none⟩ k):=cO (cO (cO (cO (cO (cO (cO h hg _) hg _) hg _) hg _) hg _) hg _) hg _
theorem Dv(h:k≠b):(w.setCell ⟨b,j,none⟩ f).heap[k]? = w.heap[k]? := dN w ⟨b,j,none⟩ f k h
theorem Amz(w:World)(j:Nat):w.drew.heap[j]? = w.heap[j]? := rfl
theorem Am0(w:World)(g:Nat){a c d e i k:Value}(h:b≠g):(World.drew (((((((w.setCell ⟨g,0,none⟩ f).setCell ⟨g,1,none⟩ a).setCell ⟨g,2,none⟩ c).setCell ⟨g,3,none⟩ d).setCell ⟨g,4,none⟩ e).setCell ⟨g,5,none⟩ i).setCell ⟨g,6,none⟩ k)).heap[b]? = w.heap[b]? := by
 rw[Amz,Dv h,Dv h,Dv h,Dv h,Dv h,Dv h,Dv h]
theorem Rr(b:Bv h=0):h.mu.length=h.sz.length/\∀i,i<h.us.length->0<=(use h.us i).pc/\(use h.us i).pc<h.pc.length/\1<=(use h.us i).ct/\(use h.us i).ct<=4:=by
 unfold Bv at b;split at b
 .rename_i g;exact absurd b g
 rename_i c;split at b
 .rename_i g;exact absurd b g
 split at b
 .cases b
 rename_i d;constructor
 .have a:C6 h=0:=by simpa using c
  unfold C6 at a;split at a
  .cases a
  split at a
  .cases a
  split at a
  .cases a
  rename_i k;refine bT λe=>k (Or.inl e)
 intro i j;cases hu:Ni h i with
 | true=>exact absurd (Bp.yes (f:=Ni h) j hu) d
 | false=>unfold Ni at hu;simp at hu;omega
def Qk(w:World)(r:List EdgeP×Int)(p:PieceP)(e:Ending)(a:World):Prop:=∃A c d b,e=.returned (.tuple #[.agg d,.slice A r.1.length c,r.2])/\r.1.length<=c/\c<=9223372036854775807/\EdS a A r.1.length r.1/\PcV a d b/\(r.2=0->b=p)/\Be w a
theorem Qk.none_(c:x≠0)(b:Be w a):Qk w ([],x) n (.returned (.tuple #[.agg M9,.slice none 0 0,x])) a:=⟨none,0,M9,zPc,rfl,aA,aK,⟨rfl,.inl rfl⟩,Acq,λh=>absurd h c,b⟩
theorem Akd(w:World)(g:Nat){a c d e i k:Value}(h:b≠g):(((((((w.setCell ⟨g,0,none⟩ f).setCell ⟨g,1,none⟩ a).setCell ⟨g,2,none⟩ c).setCell ⟨g,3,none⟩ d).setCell ⟨g,4,none⟩ e).setCell ⟨g,5,none⟩ i).setCell ⟨g,6,none⟩ k).heap[b]? = w.heap[b]? := by
 rw[Dv h,Dv h,Dv h,Dv h,Dv h,Dv h,Dv h]
theorem Aia{f:Nat}{R:World->List EdgeP×Int->PieceP->Ending->World->Prop}(C:f=90/\R=Qj\/f=42/\R=Qk)(x:Array Value)(s:StyleP)(z u:Int)(w:World)(j:SmS s)(m:StV w x s)(h:Bv s≠0):Calls prog f #[.agg x,z,u] w (R w ([],Bv s) (Cg s u)):=by
 rcases C with⟨rfl,rfl⟩|⟨rfl,rfl⟩
 have g:=@Fs
 rotate_left 1
 have g:=@N8
 rotate_left 1
 all_goals
  let⟨c,i⟩:=gN (Bv s)
  rw[i]at h ⊢;have y:=Ar i;have l:=Ar h
  have k:=m;obtain⟨O,V,P,W,Q,Y,S,Z,T,c5,U,c6,rfl,⟨v1,v2,v3⟩,⟨v4,v5,v6⟩,⟨v7,v8,v9⟩,⟨G,H,I⟩,⟨J,K,L⟩,M,N⟩:=m;go_in;go_upto_region 1 with fail;refine Eo λX d A B=>?_
  let⟨p0,p1,p2,p3,p4,p5,p6⟩:=st7 A
  go_wp2_with ((first|go_at_call 27|go_at_call 64);refine rR (g _ s _ j (k.keep d)) λw1 b=>?_;rw[y.out];have a:=B.keep b;have g0:=a.frozen 0;have g1:=a.frozen 1;have g2:=a.frozen 2;have g3:=a.frozen 3;have g4:=a.frozen 4;have g5:=a.frozen 5;have g6:=a.frozen 6;let⟨q0,q1,q2,q3,q4,q5,q6⟩:=st7 a)
  let⟨n,o,s2,p,q,r,t⟩:=st7 (((((((a.set_ 0 (.string ⟨#[]⟩)).set_ 1 (.slice none 0 0)).set_ 2 (.int .i64 0)).set_ 3 (.slice none 0 0)).set_ 4 (.slice none 0 0)).set_ 5 (.slice none 0 0)).set_ 6 (.bool false))
  first|(exact bR (Qj.none_ l.out (il (An d b) _ _ _ _ _ _ _)) rfl (by simp[results,results90,go_sem,n,o,s2,p,q,r,t,M9]))|(exact bR (Qk.none_ l.out (il (An d b) _ _ _ _ _ _ _)) rfl (by simp[results,results42,go_sem,n,o,s2,p,q,r,t,M9]))
def Ao2:=@Aia 90 Qj (.inl ⟨rfl,rfl⟩)
def Ao5:=@Aia 42 Qk (.inr ⟨rfl,rfl⟩)
theorem Ah9{f:Nat}{R:World->List EdgeP×Int->PieceP->Ending->World->Prop}(hf:f=90/\R=Qj\/f=42/\R=Qk)(J:Array Value)(s:StyleP)(z u:Int)(w:World)(g:SmS s)(B:StV w J s)(h:Bv s=0)(A:z<0\/(s.sz.length:Int)<=z\/u<0\/(s.us.length:Int)<=u):Calls prog f #[.agg J,z,u] w (R w ([],3) (Cg s u)):=by
 rcases hf with⟨rfl,rfl⟩|⟨rfl,rfl⟩
 have m:=@Fs;have ad:=trivial
 rotate_left 1
 have m:=@N8;have ai:=trivial
 rotate_left 1
 all_goals
  have S:=Ar h;have Q:=Ar A;clear h A;have l:=B;obtain⟨K,U,L,V,M,W,N,Y,O,Z,P,c6,rfl,⟨v1,v2,v3⟩,⟨v4,v5,v6⟩,⟨v7,v8,v9⟩,⟨t,b0,x⟩,⟨b1,b2,y⟩,b3,b4⟩:=B;go_in;go_upto_region 1 with fail;refine Eo λX i p hR=>?_
  let⟨p0,p1,p2,p3,p4,p5,p6⟩:=st7 p;have q:=g.sz;have r:=g.us;have k:=l.keep i;have o:=Ar g;let⟨C,b⟩:=gN s.sz.length
  let⟨n4,c⟩:=gN s.us.length
  have HV:=Ar k;have hB:=Q.out;rw[b,c]at hB;have T:=Ar (show StV X #[.string s.nm,.slice K C U,.slice L s.mu.length V,.slice M s.pc.length W,.slice N n4 Y,.slice O s.se.length Z,.slice P s.no c6] s by rw[<-b,<-c];exact k);rw[b]at p1 q v1;rw[c]at p4 r t;rw[b,c]at p;clear b c k l g v3 v6 v9 x y;by_cases h1:z<0
  case' neg =>
   obtain⟨z,rfl⟩:∃j:Nat,z=j:=⟨z.toNat,aK⟩
   by_cases h2:(C:Int)<=(z:Int)
   case' neg =>
    by_cases h3:u<0
    case' neg =>
     obtain⟨u,rfl⟩:∃j:Nat,u=j:=⟨u.toNat,aK⟩
     have h4:(n4:Int)<=(u:Int):=aK
  all_goals
   go_wp2_with ((first|go_at_call 27|go_at_call 64);refine rR (m _ s _ o.out T.out) λw1 d=>?_;rw[S.out];let⟨x0,x1,x2,x3,x4,x5,x6⟩:=st7 (p.keep d);have a:=hR.keep d;have g0:=a.frozen 0;have g1:=a.frozen 1;have g2:=a.frozen 2;have g3:=a.frozen 3;have g4:=a.frozen 4;have g5:=a.frozen 5;have g6:=a.frozen 6;let⟨q0,q1,q2,q3,q4,q5,q6⟩:=st7 a)
   all_goals let⟨D,E,s2,F,G,H,I⟩:=st7 (((((((a.set_ 0 (.string ⟨#[]⟩)).set_ 1 (.slice none 0 0)).set_ 2 (.int .i64 0)).set_ 3 (.slice none 0 0)).set_ 4 (.slice none 0 0)).set_ 5 (.slice none 0 0)).set_ 6 (.bool false))
   all_goals first|(exact bR (Qj.none_ aM (il (An i d) _ _ _ _ _ _ _)) rfl (by simp[results,results90,go_sem,D,E,s2,F,G,H,I,M9]))|(exact bR (Qk.none_ aM (il (An i d) _ _ _ _ _ _ _)) rfl (by simp[results,results42,go_sem,D,E,s2,F,G,H,I,M9]))
def Ao1:=@Ah9 90 Qj (.inl ⟨rfl,rfl⟩)
def Ao4:=@Ah9 42 Qk (.inr ⟨rfl,rfl⟩)
theorem Ah8{f:Nat}{R:World->List EdgeP×Int->PieceP->Ending->World->Prop}(hf:f=90/\R=Qj\/f=42/\R=Qk)(vs:Array Value)(s:StyleP)(z u:Nat)(w:World)(M:SmS s)(hv:StV w vs s)(h:Bv s=0)(hz:z<s.sz.length)(hu:u<s.us.length):Calls prog f #[.agg vs,(z:Int),(u:Int)] w (R w (Ch (Cg s u) (gi s.mu z)) (Cg s u)):=by
 rcases hf with⟨rfl,rfl⟩|⟨rfl,rfl⟩
 have c9:=@Fs;have ca:=@Fz;have hx:=trivial
 rotate_left 1
 have c9:=@N8;have ca:=@Mi;have hy:=trivial
 rotate_left 1
 all_goals
  have HC:=Ar h;have db:=Ar M;let⟨k1,k2⟩:=Rr h;have k3:=k2 u hu;have HU:=Ar k3;have HM:=Ar k1;have bt:z<s.mu.length:=aK
  have y1:=M.sz;have y3:=M.pc;have y4:=M.us;clear h M k1 k2 k3;have bq:=hv;obtain⟨A1,c1,A2,c2,A3,c3,A4,c4,A5,c5,A6,c6,rfl,⟨v1,v2,v3⟩,⟨v4,v5,v6⟩,⟨v7,v8,v9⟩,⟨b1,j8,cc⟩,⟨j9,jr,ev⟩,k9,kh⟩:=hv;go_in;go_upto_region 1 with fail;refine Eo λX O hP hR=>?_
  let⟨p0,p1,p2,p3,p4,p5,p6⟩:=st7 hP;have HX:=Ar (bq.keep O);have b5:=v6.keep O;have N:=cc.keep O;have a6:=Ar HU.out;let⟨n1,ai⟩:=gN s.sz.length
  let⟨n2,ak⟩:=gN s.mu.length
  let⟨n3,au⟩:=gN s.pc.length
  let⟨n4,aw⟩:=gN s.us.length
  rw[ai,ak,au,aw]at HX hP;rw[ai]at p1 hz y1 v1;rw[ak]at p2 bt b5 v4;rw[au]at p3 v9 a6 v7 y3;rw[aw]at p4 hu N b1 y4;have B1:(z:Int)<(n1:Int):=aK
  have B2:(u:Int)<(n4:Int):=aK
  have B3:(z:Int)<(n2:Int):=aK
  have bb:=hP;have e1:=hR
  go_upto_region 6 with ((first|go_at_call 27|go_at_call 64);refine rR (c9 _ s _ db.out HX.out) λZ o=>?_;rw[HC.out];let⟨x0,x1,x2,x3,x4,x5,x6⟩:=st7 (bb.keep o))
  have a7:=hP.keep o;have bd:=hR.keep o;have cd:=b5.keep o;have Y:=N.keep o;have I:=An O o;obtain⟨P,W,rfl,e2⟩:=cd.at_ bt;obtain⟨b4,o4,rfl,e4,-,-⟩:=Y.at_ hu;let⟨i,hi⟩:∃i:Nat,(use s.us u).pc=i:=⟨(use s.us u).pc.toNat,by have:=a6.out;omega⟩
  have e5:i<n3:=by have:=a6.out.2.1;rw[hi]at this;omega
  have a1:=Ar (show Cg s u=pce s.pc i by unfold Cg;rw[show ((u:Int)).toNat=u by omega,hi];rfl);rw[hi]at e4;obtain⟨g,l,rfl,kq,V,hc⟩:=v9.at_ e5;let⟨a,bm⟩:=gN (pce s.pc i)
  rw[bm]at V a1;obtain⟨t,C,x,D,y,E,A,F,rfl,bs⟩:=V;have K:PcV w #[.string a.nm,.slice t a.ed.length C,a.gr,.slice x a.nt.length D,.slice y a.cr.length E,.slice A a.wd.length F,.bool a.mt] a:=⟨t,C,x,D,y,E,A,F,rfl,bs⟩;have bp:=K.keep I;let⟨k0,k1,k2,k3,k4,k5,k6⟩:=c7 λj u h=>Aq I (hc j u h)
  have da:Hid (gi s.mu z=gi s.mu z):=Ar rfl;let⟨mm,ad⟩:=gN (gi s.mu z)
  rw[ad]at e2 ⊢;have b7:=Ar ad;have B4:(i:Int)<(n3:Int):=aK
  have KF:∀b,Be Z b->(Cq b w 2 (.slice (some ⟨P,W,none⟩) n2 c2)/\Cq b w 3 (.slice (some ⟨g,l,none⟩) n3 c3)/\Cq b w 4 (.slice (some ⟨b4,o4,none⟩) n4 c4)/\Cq b b4 (o4+u*3) (i:Int)/\Cq b P (W+z) mm/\Cq b g (l+i*7) (.string a.nm)/\Cq b g (l+i*7+1) (.slice t a.ed.length C)/\Cq b g (l+i*7+2) a.gr/\Cq b g (l+i*7+3) (.slice x a.nt.length D)/\Cq b g (l+i*7+4) (.slice y a.cr.length E)/\Cq b g (l+i*7+5) (.slice A a.wd.length F)/\Cq b g (l+i*7+6) (.bool a.mt)):=λb r=>by
   obtain⟨-,-,j2,j3,j4,-,-⟩:=st7 (a7.keep r);exact⟨j2,j3,j4,Aq r e4,Aq r e2,Aq r k0,Aq r k1,Aq r k2,Aq r k3,Aq r k4,Aq r k5,Aq r k6⟩
  have bl:=Aw (aV Z Z);go_cut [10] λb1 wx=>b1=.pointer (some ⟨Z,0,none⟩)/\Be Z wx/\Bf wx Z 50 #[.string a.nm,.slice t a.ed.length C,a.gr,.slice x a.nt.length D,.slice y a.cr.length E,.slice A a.wd.length F,.bool a.mt]
  case first =>
   go_region_held3 (λb=>Cq b w 2 (.slice (some ⟨P,W,none⟩) n2 c2)/\Cq b w 3 (.slice (some ⟨g,l,none⟩) n3 c3)/\Cq b w 4 (.slice (some ⟨b4,o4,none⟩) n4 c4)/\Cq b b4 (o4+u*3) (i:Int)/\Cq b P (W+z) mm/\Cq b g (l+i*7) (.string a.nm)/\Cq b g (l+i*7+1) (.slice t a.ed.length C)/\Cq b g (l+i*7+2) a.gr/\Cq b g (l+i*7+3) (.slice x a.nt.length D)/\Cq b g (l+i*7+4) (.slice y a.cr.length E)/\Cq b g (l+i*7+5) (.slice A a.wd.length F)/\Cq b g (l+i*7+6) (.bool a.mt))
    (first
     | with_reducible exact KF _ bl
     | with_reducible exact KF _ (Aw blA))
    (fail)
   all_goals go_wp2
   all_goals go_meet
   all_goals exact⟨rfl,Aw blA,Bf.drew (Bf.new _ _ _)⟩
  obtain⟨rfl,H,hQ⟩:=hcut;have L:=bp.keep H;have bc:=a7.keep H;have a8:=bd.keep H;have S:=a8.lt;have b9:=(KF _ H).2.2.2.2.1;have U:=An I H;have dx:w.heap.size<=Z.heap.size:=I.size;let⟨q,Q⟩:=gN Z.heap.size
  rw[Q]at hQ dx ⊢
  have b8:∀b,Be wc b->(Cq b q 0 (.string a.nm)/\Cq b q 1 (.slice t a.ed.length C)/\Cq b q 2 a.gr/\Cq b q 3 (.slice x a.nt.length D)/\Cq b q 4 (.slice y a.cr.length E)/\Cq b q 5 (.slice A a.wd.length F)/\Cq b q 6 (.bool a.mt)/\Cq b w 2 (.slice (some ⟨P,W,none⟩) n2 c2)/\Cq b P (W+z) mm):=λb r=>by
   let⟨j0,j1,j2,j3,j4,j5,j6⟩:=pc7 (hQ.keep r);exact⟨j0,j1,j2,j3,j4,j5,j6,(st7 (bc.keep r)).2.2.1,Aq r b9⟩
  have d:=Aw (aV wc wc);go_upto_region 7 with fail
  go_region_held3 (λb=>Cq b q 0 (.string a.nm)/\Cq b q 1 (.slice t a.ed.length C)/\Cq b q 2 a.gr/\Cq b q 3 (.slice x a.nt.length D)/\Cq b q 4 (.slice y a.cr.length E)/\Cq b q 5 (.slice A a.wd.length F)/\Cq b q 6 (.bool a.mt)/\Cq b w 2 (.slice (some ⟨P,W,none⟩) n2 c2)/\Cq b P (W+z) mm)
   (with_reducible exact b8 _ d)
   (((first|go_at_call 88|go_at_call 65);(with_reducible refine(ca _ a mm _ (L.keep d)).mono ?_);rintro e w5 ⟨A7,c7,rfl,⟨i1,i4⟩,i2,-,e3⟩;replace d:=An d e3))
  have dy:=hQ.keep d;have c:=a8.keep d;let⟨j0,j1,j2,j3,j4,j5,j6⟩:=pc7 dy;have g0:=c.frozen 0;have g1:=c.frozen 1;have g2:=c.frozen 2;have g3:=c.frozen 3;have g4:=c.frozen 4;have g5:=c.frozen 5;have g6:=c.frozen 6;let⟨q0,q1,q2,q3,q4,q5,q6⟩:=st7 c;have fv:=L.keep d;have T:=An U d;let⟨G,hG⟩:=gN (Ch a mm)
  have HG:=Ar hG;rw[hG]at i1 i4 ⊢;go_wp2_with fail
  first
   | go_region
     all_goals go_wp2_with fail
     let⟨s0,s1,s2,s3,s4,s5,s6⟩:=st7 (Bf.drew (((((((c.set_ 0 (.string a.nm)).set_ 1 (.slice t a.ed.length C)).set_ 2 a.gr).set_ 3 (.slice x a.nt.length D)).set_ 4 (.slice y a.cr.length E)).set_ 5 (.slice A a.wd.length F)).set_ 6 (.bool a.mt)));have J:=Aw (il T (hg:=show w.heap.size<=w.heap.size+1 by omega) (.string a.nm) (.slice t a.ed.length C) a.gr (.slice x a.nt.length D) (.slice y a.cr.length E) (.slice A a.wd.length F) (.bool a.mt));have e6:w.heap.size+1<wc.drew.heap.size:=S;refine cB (v:=.tuple #[.slice A7 G.1.length c7,.agg #[.string a.nm,.slice t a.ed.length C,a.gr,.slice x a.nt.length D,.slice y a.cr.length E,.slice A a.wd.length F,.bool a.mt],G.2]) (by simp[results,results90,go_sem,s0,s1,s2,s3,s4,s5,s6]) rfl ?_;rw[a1.out,b7.out,HG.out];refine⟨A7,c7,_,a,rfl,i1,i2,(i4.keepAbove λk hk=>?_).edsA,K.keep J,λ_=>rfl,J⟩;have b0:k≠w.heap.size+1:=aK
     exact Am0 w5 (w+1) b0
   | let⟨s0,s1,s2,s3,s4,s5,s6⟩:=st7 ((((((((c.set_ 0 (.string a.nm)).set_ 1 (.slice t a.ed.length C)).set_ 2 a.gr).set_ 3 (.slice x a.nt.length D)).set_ 4 (.slice y a.cr.length E)).set_ 5 (.slice A a.wd.length F)).set_ 6 (.bool a.mt)))
     have J:=(il T (hg:=show w.heap.size<=w.heap.size+1 by omega) (.string a.nm) (.slice t a.ed.length C) a.gr (.slice x a.nt.length D) (.slice y a.cr.length E) (.slice A a.wd.length F) (.bool a.mt));have e6:w.heap.size+1<wc.drew.heap.size:=S;refine cB (v:=.tuple #[.agg #[.string a.nm,.slice t a.ed.length C,a.gr,.slice x a.nt.length D,.slice y a.cr.length E,.slice A a.wd.length F,.bool a.mt],.slice A7 G.1.length c7,G.2]) (by simp[results,results42,go_sem,s0,s1,s2,s3,s4,s5,s6]) rfl ?_;rw[a1.out,b7.out,HG.out];refine⟨A7,c7,_,a,rfl,i1,i2,(i4.keepAbove λk hk=>?_).edsA,K.keep J,λ_=>rfl,J⟩;have b0:k≠w.heap.size+1:=aK
     exact Akd w5 (w+1) b0
def Ao0:=@Ah8 90 Qj (.inl ⟨rfl,rfl⟩)
def Ao3:=@Ah8 42 Qk (.inr ⟨rfl,rfl⟩)
theorem jh(s:StyleP)(z u:Int)(w:World)(a:SmS s)(c:StV w e s):Calls prog 42 #[.agg e,z,u] w (Qk w (Ii s z u) (Cg s u)):=by
 unfold Ii;by_cases h:Bv s=0
 .rw[if_neg (by rw[h];simp)];by_cases b:z<0\/(s.sz.length:Int)<=z\/u<0\/(s.us.length:Int)<=u
  .rw[if_pos b];exact Ao4 e s z u w a c h b
  rw[if_neg b];obtain⟨z,rfl⟩:∃j:Nat,z=j:=⟨z.toNat,aK⟩
  obtain⟨u,rfl⟩:∃j:Nat,u=j:=⟨u.toNat,aK⟩
  rw[cT];exact Ao3 e s z u w a c h aK aK
 rw[if_pos h];exact Ao5 e s z u w a c h
theorem Yo(s:StyleP)(z u:Int)(w:World)(a:SmS s)(c:StV w e s):Calls prog 90 #[.agg e,z,u] w (Qj w (Ii s z u) (Cg s u)):=by
 unfold Ii;by_cases h:Bv s=0
 .rw[if_neg (by rw[h];simp)];by_cases b:z<0\/(s.sz.length:Int)<=z\/u<0\/(s.us.length:Int)<=u
  .rw[if_pos b];exact Ao1 e s z u w a c h b
  rw[if_neg b];obtain⟨z,rfl⟩:∃j:Nat,z=j:=⟨z.toNat,aK⟩
  obtain⟨u,rfl⟩:∃j:Nat,u=j:=⟨u.toNat,aK⟩
  rw[cT];exact Ao0 e s z u w a c h aK aK
 rw[if_pos h];exact Ao2 e s z u w a c h
def Alb(w:World)(r:(Int×Int)×Int)(e:Ending)(a:World):Prop:=e=.returned (.tuple #[.agg #[r.1.1,r.1.2],r.2])/\Be w a
theorem tz(s:StyleP)(z u:Int)(x:SmS s)(Z:StV w e s):Calls prog 53 #[.agg e,z,u] w (Ng w (J5 s z u)):=by
 let⟨r,v⟩:=gN (Ii s z u)
 obtain⟨G,O,H,P,I,Q,J,R,K,S,L,T,rfl,-⟩:=id Z
 have m:=Ar (λ(X:World) (hX:StV X #[.string s.nm,.slice G s.sz.length O,.slice H s.mu.length P,.slice I s.pc.length Q,.slice J s.us.length R,.slice K s.se.length S,.slice L s.no T] s)=>show Calls prog 90 #[.agg #[.string s.nm,.slice G s.sz.length O,.slice H s.mu.length P,.slice I s.pc.length Q,.slice J s.us.length R,.slice K s.se.length S,.slice L s.no T],z,u] X (Qj X r (Cg s u)) by
  rw[<-v];exact Yo s z u X x hX)
 have n:=Ar (show J5 s z u=if r.2≠0 then ([],r.2) else Ff r.1 (Cg s u).wd by unfold J5;rw[v]);obtain⟨E,c⟩:=r;dsimp only at m n;clear v;go_enter func53,ntmps53;go_upto_region 1 with fail;refine Bq λX b W=>?_
 let⟨p0,p1,p2,p3,p4,p5,p6⟩:=st7 W;have f:=Z.keep b;by_cases h:c=0
 .subst h;have k:=Ar (show J5 s z u=Ff E (Cg s u).wd by rw[n.out,if_neg aL])
  go_upto_region 2 with (go_at_call 90;refine(m.out _ f).mono ?_;rintro V w1 ⟨M,c7,F,l,rfl,y,i2,i,A,B,a⟩;have t:=B rfl;subst t;clear B;obtain⟨E1,d1,E2,d2,E3,d3,N,U,rfl,-,-,-,k1,k2,C⟩:=A)
  let⟨l,g⟩:=gN (Cg s u)
  rw[g]at k1 C k ⊢;clear g;refine Bq λY d hQ=>?_
  let⟨y0,y1,y2,y3,y4,y5,y6⟩:=pc7 hQ;have j:=i.keep d;have D:=C.keep d;have hl:=i.1
  try dsimp only at y i2 i j hl ⊢
  clear i C p0 p1 p2 p3 p4 p5 p6 W f
  go_wp2_with (go_at_call 91;refine aF (vn M c7 E.length E N l.wd.length U l.wd y aK j D) λw2 v2 q o=>?_)
  go_ret2
  rw[k.out];exact⟨_,rfl,OwG.lower q (An (An b a) d).size,An (An (An b a) d) o⟩
 have k:=Ar (show J5 s z u=([],c) by rw[n.out,if_pos h]);have b1:(c != 0)=true:=by simpa using h
 clear h
 go_wp2_with (go_at_call 90;refine(m.out _ f).mono ?_;rintro V w1 ⟨M,c7,F,l,rfl,y,i2,i,A,B,a⟩;obtain⟨E1,d1,E2,d2,E3,d3,N,U,rfl,-⟩:=A)
 go_ret2
 rw[k.out];exact⟨_,rfl,OwG.nil,Ao (An b a)⟩
theorem Ry{s:StyleP}{z u:Int}{E:List EdgeP}(h:Ii s z u=(E,0)):Bv s=0/\0<=z/\z<s.sz.length/\0<=u/\u<s.us.length/\C7 E=0/\Ch (Cg s u) (gi s.mu z.toNat)=(E,0):=by
 unfold Ii at h;split at h
 .rename_i g;exact absurd (eB Prod.snd h) g
 rename_i c;split at h
 .exact absurd (eB Prod.snd h) aL
 rename_i d;obtain⟨a,-,b,-⟩:=Sk (show (Ch (Cg s u) (gi s.mu z.toNat)).2=0 by rw[h]);rw[h]at a;dsimp only at a;rw[<-a]at b;exact⟨by simpa using c,aK,aK,aK,aK,b,h⟩
theorem ic(s:StyleP)(z u:Int)(F:SmS s)(hv:StV w e s):Calls prog 54 #[.agg e,z,u] w (Alb w (Rn s z u)):=by
 let⟨r,x⟩:=gN (Ii s z u)
 obtain⟨N,T,O,U,P,V,Q,W,R,Z,S,c6,rfl,-⟩:=id hv
 have A:=Ar (λ(X:World) (hX:StV X #[.string s.nm,.slice N s.sz.length T,.slice O s.mu.length U,.slice P s.pc.length V,.slice Q s.us.length W,.slice R s.se.length Z,.slice S s.no c6] s)=>show Calls prog 90 #[.agg #[.string s.nm,.slice N s.sz.length T,.slice O s.mu.length U,.slice P s.pc.length V,.slice Q s.us.length W,.slice R s.se.length Z,.slice S s.no c6],z,u] X (Qj X r (Cg s u)) by
  rw[<-x];exact Yo s z u X F hX)
 have B:=Ar (show Rn s z u=if r.2≠0 then ((0,0),r.2) else (gt (edg r.1 0).ln 0,0) by unfold Rn;rw[x]);obtain⟨E,c⟩:=r;dsimp only at A B
 have HK:=Ar (λ(h:c=0)=>show 2<=E.length/\2<=(edg E 0).ln.length from by
  have o:=(Ry (E:=E) (by rw[x,h])).2.2.2.2.2.1;obtain⟨q1,-,q3,-⟩:=D5 o;exact⟨q1,(Er (q3 0 aK).2).1⟩)
 clear x;go_enter func54,ntmps54;go_upto_region 1 with fail;refine Eo λX j C hR=>?_
 let⟨p0,p1,p2,p3,p4,p5,p6⟩:=st7 C;have i:=hv.keep j;by_cases h:c=0
 .obtain⟨hl,D⟩:=HK.out h;subst h;have g:=Ar (show Rn s z u=(gt (edg E 0).ln 0,0) by rw[B.out,if_neg aL])
  go_upto_region 2 with (go_at_call 90;refine(A.out _ i).mono ?_;rintro bs M ⟨A7,c7,L,p7,rfl,y,i2,t,G,i5,f⟩;obtain⟨E1,d1,E2,d2,E3,d3,E4,d4,rfl,-⟩:=G)
  refine Cj (λY=>Be M Y) blA ?_;rintro Y d;have a:=(hR.keep f).keep d;let⟨x0,x1⟩:=Vs a;have f0:=a.frozen 0;have f1:=a.frozen 1
  try dsimp only at y t ⊢
  obtain⟨b,cd,rfl,hc⟩:=(t.keep d).at_ (show 0<E.length by omega);have k:=hc 0 aK;rw[eC,bU]at k;obtain⟨g0,Al,cl,g1,g2,g3,g4⟩:=k;obtain⟨bl,ol,rfl,-,l⟩:=g4.at_ (show 0<(edg E 0).ln.length by omega);let⟨H,I⟩:=l 0 aK;rw[eC,bU]at H I;let⟨n,hn⟩:=gN E.length
  let⟨m,hm⟩:=gN ((edg E 0).ln.length)
  let⟨q,hq⟩:=gN (gt (edg E 0).ln 0)
  rw[hn]at hl ⊢;rw[hm]at D g1;rw[hq]at H I g;obtain⟨qx,qy⟩:=q;dsimp only at H I;have B1:(0:Int)<(n:Int):=aK
  have B2:(0:Int)<(m:Int):=aK
  clear p0 p1 p2 p3 p4 p5 p6 C i t hc l hn hm hq g4 y;go_wp2_with fail;let⟨J,K⟩:=Vs ((a.set_ 0 qx).set_ 1 qy);exact cB (v:=.tuple #[.agg #[qx,qy],.int .i64 0]) (by simp[results,results54,go_sem,J,K]) rfl ⟨by rw[g.out],Ba (Ba (An (An j f) d) (p:=⟨w+1,0,none⟩) (by show w.heap.size<=w.heap.size+1;omega)) (p:=⟨w+1,1,none⟩) (by show w.heap.size<=w.heap.size+1;omega)⟩
 have g:=Ar (show Rn s z u=((0,0),c) by rw[B.out,if_pos h]);have ca:(c != 0)=true:=by simpa using h
 clear h
 go_upto_region 2 with (go_at_call 90;refine(A.out _ i).mono ?_;rintro bs M ⟨A7,c7,L,p7,rfl,y,i2,t,G,i5,f⟩;obtain⟨E1,d1,E2,d2,E3,d3,E4,d4,rfl,-⟩:=G)
 refine Cj (λY=>Be M Y) blA ?_;rintro Y d;have a:=(hR.keep f).keep d;let⟨x0,x1⟩:=Vs a;have f0:=a.frozen 0;have f1:=a.frozen 1;clear p0 p1 p2 p3 p4 p5 p6 C i t y;go_wp2_with fail;let⟨J,K⟩:=Vs ((a.set_ 0 (.int .i64 0)).set_ 1 (.int .i64 0));exact cB (v:=.tuple #[.agg #[.int .i64 0,.int .i64 0],c]) (by simp[results,results54,go_sem,J,K]) rfl ⟨by rw[g.out],Ba (Ba (An (An j f) d) (p:=⟨w+1,0,none⟩) (by show w.heap.size<=w.heap.size+1;omega)) (p:=⟨w+1,1,none⟩) (by show w.heap.size<=w.heap.size+1;omega)⟩
def plV(c:PlcP):Array Value:=#[c.ga,c.us,c.cp,.bool c.fl,c.qu,c.x,c.y]
def Acn(w:World)(r:Shp×Int)(e:Ending)(g:World):Prop:=∃A n c d f a b,e=.returned (.tuple #[.agg #[.slice A n c,.int .i64 d,.bool f,.int .i64 a,.int .i64 b],r.2])/\(r.2=0->ShV g w.heap.size ⟨A,n,c,d,f,a,b⟩ r.1)/\Be w g
theorem Zk{l:LP}(h:OwS w b f l):∃A c,f=.slice A l.length c/\c<=9223372036854775807/\l.length<=c/\SpS w A l.length l/\ElS w b (.slice A l.length c) l:=by
 rcases OwG.form h with⟨rfl,rfl⟩|⟨g,p,rfl,q,t,u,m⟩
 .exact⟨none,0,rfl,aK,aA,⟨rfl,.inl rfl⟩,none,0,rfl,aA,⟨rfl,.inl rfl⟩,(λ_=>rfl),(λa h=>by cases h)⟩
 let⟨A,c,e,n,o,v⟩:=OwS.sps h;injection e with e1 e2 e3
 subst e1 e3;refine⟨_,_,rfl,(by unfold maxLen at m;exact m),n,o,_,_,rfl,n,o,(λh=>by cases h),λa j=>?_⟩;injection j with j
 subst j;refine⟨q,?_⟩;rcases h.2 with⟨d,_⟩|⟨s,k,i,d,_,r,_⟩
 .cases d
 injection d with d
 injection d with d
 injection d with d
 subst d;exact⟨i,(0,0),r⟩
theorem sh5{t:TypeId}{a c d e:Value}(H:Bf w b t #[f,a,c,d,e]):Cq w b 0 f/\Cq w b 1 a/\Cq w b 2 c/\Cq w b 3 d/\Cq w b 4 e:=⟨(H.cell 0).trans rfl,(H.cell 1).trans rfl,(H.cell 2).trans rfl,(H.cell 3).trans rfl,(H.cell 4).trans rfl⟩
theorem Aol(k:Array Value)(s:StyleP)(z:Int)(c:PlcP)(w:World)(g:SmS s)(j:StV w k s)(h:(J5 s z c.us).2≠0):Calls prog 29 #[.agg k,z,.agg (plV c)] w (Acn w (Xm,(J5 s z c.us).2)):=by
 let⟨e,f⟩:=gN (J5 s z c.us)
 rw[f]at h ⊢;have m:=Ar f;obtain⟨l,x⟩:=e;dsimp only at h ⊢;have r:(x != 0)=true:=by simpa using h
 have n:=Ar h;clear f h;obtain⟨L,R,M,S,N,T,O,U,P,V,Q,W,rfl,⟨C,v2,v3⟩,⟨v4,v5,v6⟩,⟨v7,v8,v9⟩,⟨D,E,F⟩,⟨G,H,I⟩,J,K⟩:=id j;obtain⟨ga,B,Y,fl,qu,Z,cy⟩:=c;dsimp only at *
 unfold plV;go_enter func29,ntmps29;go_upto_region 1 with fail;refine Jy λX d p o q=>?_
 let⟨p0,p1,p2,p3,p4,p5,p6⟩:=st7 p;let⟨k0,k1,k2,k3,k4,k5,k6⟩:=st7 o;have i:=j.keep d
 go_upto_region 3 with (go_at_call 53;refine aF (tz s z B g i) λw1 C _ b=>?_;rw[m.out];have a:=q.keep b;let⟨q0,q1,q2,q3,q4⟩:=sh5 a;have g0:=a.frozen 0;have g1:=a.frozen 1;have g2:=a.frozen 2;have g3:=a.frozen 3;have g4:=a.frozen 4)
 go_wp2_with fail;let⟨t,u,s2,y,A⟩:=sh5 (((((a.set_ 0 (.slice none 0 0)).set_ 1 (.int .i64 0)).set_ 2 (.bool false)).set_ 3 (.int .i64 0)).set_ 4 (.int .i64 0));exact bR ⟨none,0,0,0,false,0,0,rfl,λh=>absurd h n.out,raw5 (An d b) aK 0⟩ rfl (by simp[results,results29,go_sem,t,u,s2,y,A])
theorem Aef(b:(J5 h g u).2=0):(Rn h g u).2=0/\(Ii h g u).2=0:=by
 unfold J5 at b;split at b
 .rename_i a;exact absurd b a
 rename_i a;unfold Rn;rw[if_neg a];exact⟨rfl,by simpa using a⟩
theorem Agw(a:(J5 h g u).2=0):Bg (J5 h g u).1 (J5 h g u).1.length=0:=by
 unfold J5 at a ⊢;split at a
 .rename_i b;exact absurd a b
 rename_i b;rw[if_neg b];unfold Ff at a ⊢;split at a
 .rename_i b;exact absurd a b
 rename_i d;split at a
 .cases a
 rename_i e;split at a
 .rename_i b;exact absurd a b
 rename_i c;split at a
 .cases a
 rename_i f;rw[if_neg d,if_neg e,if_neg c,if_neg f];simpa using c
theorem tu(a:(J5 h g u).2=0):(J5 h g u).1.length<=1000000:=by
 have:=(El (Agw a)).2;omega
theorem Aok(vs:Array Value)(s:StyleP)(z:Int)(c:PlcP)(w:World)(N:SmS s)(hv:StV w vs s)(h:(J5 s z c.us).2=0):Calls prog 29 #[.agg vs,z,.agg (plV c)] w (Acn w (Fq s z c)):=by
 let⟨o,h3⟩:=Aef h
 have HS:=Ar (show Fq s z c=(⟨if c.fl then F6 true 0 (J5 s z c.us).1 else (J5 s z c.us).1,(Cg s c.us).gr,(Cg s c.us).mt,if c.fl then Cd true 0 (Rn s z c.us).1 else (Rn s z c.us).1⟩,0) by
  unfold Fq;rw[if_neg (by rw[h];simp),if_neg (by rw[o];simp)])
 have b8:=Ar (tu h);have HO:=Ar (Ry (s:=s) (z:=z) (u:=c.us) (E:=(Ii s z c.us).1) (Prod.ext rfl h3));let⟨e,he⟩:=gN (J5 s z c.us)
 let⟨b,t⟩:=gN (Rn s z c.us)
 rw[he]at h HS b8;rw[t]at o HS;have HE:=Ar he;have HB:=Ar t;obtain⟨l,x⟩:=e;obtain⟨⟨bx,bY⟩,y⟩:=b;dsimp only at h o;subst h o;clear he t h3;obtain⟨A1,c1,A2,c2,A3,c3,A4,c4,A5,c5,A6,c6,rfl,⟨v1,v2,v3⟩,⟨v4,v5,v6⟩,⟨v7,v8,v9⟩,⟨h7,n1,O⟩,⟨n2,n5,h8⟩,n9,na⟩:=id hv;obtain⟨ga,us,cp,fl,qu,cx,cy⟩:=c;dsimp only at *
 unfold plV;go_enter func29,ntmps29;go_upto_region 1 with fail;refine Jy λX M hP hK hR=>?_
 let⟨p0,p1,p2,p3,p4,p5,p6⟩:=st7 hP;let⟨k0,k1,k2,k3,k4,k5,k6⟩:=st7 hK;have ak:=hv.keep M
 go_upto_region 4 with (go_at_call 53;refine aF (tz s z us N ak) λw1 v1 ai F=>?_;rw[HE.out]at ai ⊢;let⟨k0,k1,k2,k3,k4,k5,k6⟩:=st7 (hK.keep F);let⟨p0,p1,p2,p3,p4,p5,p6⟩:=st7 (hP.keep F))
 go_upto_region 7 with (go_at_call 54;refine rR (ic s z us N (ak.keep F)) λw2 L=>?_;rw[HB.out])
 refine Bq λY a hA=>?_
 have cc:=b8.out;obtain⟨Ap,cp,rfl,ev,fa,a7,V⟩:=Zk ai;let⟨np,ad⟩:=gN l.length
 rw[ad]at fa a7 V cc ⊢;have dx:=Ar ad;have j:=An F L;have W:=hK.keep j;have bu:=hP.keep j;have a6:=hR.keep j;have eo:=An M j;have ca:=(a7.keep L).keep a;have bq:=(V.keep L).keep a;have bt:=W.keep a;have cj:X.heap.size<=w2.heap.size:=j.size;have eg:w.heap.size<=X.heap.size:=M.size;have c9:w.heap.size+1+1<w2.heap.size:=a6.lt;have l3:w.heap.size+1+1<X.heap.size:=hR.lt;let⟨k0,k1,k2,k3,k4,k5,k6⟩:=st7 bt;let⟨BA,U⟩:=gN w2.heap.size
 replace a:Below w2 w2 Y:=a;rw[U]at hA a c9 cj ⊢;let⟨PL,a1⟩:=gN (if fl=true then F6 true 0 l else l)
 let⟨⟨ax,ay⟩,a8⟩:∃p,(if fl=true then Cd true 0 (bx,bY) else (bx,bY))=p:=⟨_,rfl⟩
 rw[a1,a8]at HS;have ds:=Ar U;have b9:=Ar a1;have b7:=Ar a8;clear a7 V ai M hK hP hR F L ad U a1 a8 ak
 go_upto_if 39 with fail
 go_cut [8,11] from 37 to 64 λv8 _ wx=>∃A' n' c',v8=.slice A' n' c'/\n'=PL.length/\c'<=9223372036854775807/\ElS wx X (.slice A' n' c') PL/\Bf wx BA 65 #[ax,ay]/\Below BA w2 wx
 case first =>
  cases fl with
  | false =>
    have h1:=b9.out;have o:=b7.out;simp only[Bool.false_eq_true,if_false]at h1 o;subst h1;injection o with o h3
    subst o h3;go_wp2;go_meet;exact⟨Ap,np,cp,rfl,dx.out.symm,ev,bq,hA,a⟩
  | true =>
    have h1:=b9.out;have o:=b7.out;simp only[if_true]at h1 o;subst h1;have dy:=Ar (show (Cd true 0 (bx,bY)).1=ax by rw[o]);have e0:=Ar (show (Cd true 0 (bx,bY)).2=ay by rw[o]);clear o;go_upto_region 9 with fail;refine Bq λZ H hM=>?_
    let⟨BM,e7⟩:=gN Y.heap.size
    have C:=hA.keep H;have ee:=ca.keep H;have Q:BA<=Z.heap.size:=cX C.lt;rw[e7]at hM ⊢;have l4:BM≠BA:=by have:=hA.lt;omega
    obtain⟨z0,z1,-,-,-⟩:=C.pair;obtain⟨m0,m1,-,-,-⟩:=hM.pair;have d:=Aw (aV Z Z)
    go_region_law ((first
     | (go_simp;go_at_call 55;(with_reducible refine(G8 (f:=true) (q:=0) (x:=bx) (y:=bY)).mono ?_);rintro e w6 ⟨rfl,cb⟩;rw[dy.out,e0.out];replace d:=An d cb;obtain⟨y0,y1,f0,f1,-⟩:=(C.keep d).pair)
     | (go_simp;go_at_call 41;(with_reducible refine(Ti true 0 Ap cp np l cc (ee.keep d)).mono ?_);rintro e w5 ⟨v5,rfl,fb,ek⟩;replace d:=An d ek;obtain⟨y0,y1,-,-,-⟩:=(C.keep d).pair;obtain⟨m0,m1,-,-,-⟩:=(hM.keep d).pair)))
    all_goals go_wp2
    all_goals go_meet
    all_goals obtain⟨A5,c5,rfl,q1,q2,q3,q4⟩:=Zk (OwG.keep fb cb)
    all_goals refine⟨A5,_,c5,rfl,rfl,q1,(q4.keepAbove λk cs fr hk _=>?_).lower (bB cj Q),((C.keep d).set_ 0 _).set_ 1 _,cO (cO ((a.trans (H.mono (cX hA.lt))).trans (d.mono Q)) aA _) aA _⟩
    all_goals have m:k≠BA:=by have h1:=C.lt;have o:Z.heap.size<=k:=hk;omega
    all_goals exact(Dv m).trans (Dv m)
 obtain⟨A8,n8,c8,rfl,-,er,bp,bm,D⟩:=hcut;rw[<-ds.out]at D;have K:=bu.keep D;have bs:=W.keep D;have c0:=a6.keep D;have G:=An eo D;have au:=v9.keep G;have I:=O.keep G;obtain⟨o1,-,-,o4,o5,-⟩:=HO.out;obtain⟨u,rfl⟩:∃u:Nat,us=u:=⟨us.toNat,aK⟩
 have hu:u<s.us.length:=aK
 have ck:=(Rr o1).2 u hu;have y3:=N.pc;have y4:=N.us;have J:=Ar ck;clear ck o1 o4 o5 k0 k1 k2 k3 k4 k5 k6 bu W a6 hA bt ca bq a v3 v6 v9 O h8;let⟨n3,cd⟩:=gN s.pc.length
 let⟨n4,cf⟩:=gN s.us.length
 rw[cd]at au J v7 y3 K;rw[cf]at I h7 y4 hu K;clear cd cf;obtain⟨b4,o4,rfl,e4,-,-⟩:=I.at_ hu;let⟨i,hi⟩:∃i:Nat,(use s.us u).pc=i:=⟨(use s.us u).pc.toNat,by have:=J.out;omega⟩
 have ey:i<n3:=by have:=J.out.2.1;rw[hi]at this;omega
 have ba:=Ar (show Cg s u=pce s.pc i by unfold Cg;rw[show ((u:Int)).toNat=u by omega,hi];rfl);rw[hi]at e4;obtain⟨P,T,rfl,nh,S,R⟩:=au.at_ ey;let⟨g,cg⟩:=gN (pce s.pc i)
 rw[cg]at S ba;rw[ba.out]at HS;obtain⟨E1,d1,E2,d2,E3,d3,E4,d4,rfl,-⟩:=S;have x0:=R 0 _ rfl;rw[bU]at x0;have x1:=R 1 _ rfl;have x2:=R 2 _ rfl;have x3:=R 3 _ rfl;have x4:=R 4 _ rfl;have x5:=R 5 _ rfl;have x6:=R 6 _ rfl;have B2:(u:Int)<(n4:Int):=aK
 have B4:(i:Int)<(n3:Int):=aK
 have KF:∀A,Be wc A->(Cq A w 3 (.slice (some ⟨P,T,none⟩) n3 c3)/\Cq A w 4 (.slice (some ⟨b4,o4,none⟩) n4 c4)/\Cq A (w+1) 1 (u:Int)/\Cq A b4 (o4+u*3) (i:Int)/\Cq A P (T+i*7) (.string g.nm)/\Cq A P (T+i*7+1) (.slice E1 g.ed.length d1)/\Cq A P (T+i*7+2) g.gr/\Cq A P (T+i*7+3) (.slice E2 g.nt.length d2)/\Cq A P (T+i*7+4) (.slice E3 g.cr.length d3)/\Cq A P (T+i*7+5) (.slice E4 g.wd.length d4)/\Cq A P (T+i*7+6) (.bool g.mt)):=λA t=>by
  obtain⟨-,-,-,j3,j4,-,-⟩:=st7 (K.keep t);exact⟨j3,j4,(st7 (bs.keep t)).2.1,Aq t e4,Aq t x0,Aq t x1,Aq t x2,Aq t x3,Aq t x4,Aq t x5,Aq t x6⟩
 have d:=Aw (aV wc wc);clear R cg hi e4 x0 x1 x2 x3 x4 x5 x6 au I J;go_upto_region 10 with fail;go_cut [12] λO wx=>O=.pointer (some ⟨wc,0,none⟩)/\Be wc wx/\Bf wx wc 50 #[.string g.nm,.slice E1 g.ed.length d1,g.gr,.slice E2 g.nt.length d2,.slice E3 g.cr.length d3,.slice E4 g.wd.length d4,.bool g.mt]
 case first =>
  go_region_held3 (sB KF)
   (first
    | with_reducible exact KF _ d
    | with_reducible exact KF _ (Aw blA))
   (fail)
  all_goals go_wp2
  all_goals go_meet
  all_goals exact⟨rfl,Aw blA,Bf.drew (Bf.new _ _ _)⟩
 obtain⟨rfl,a,hQ⟩:=hcut;have r:=c0.keep a;have e6:=bm.keep a;obtain⟨y0,y1,-,-,-⟩:=e6.pair;obtain⟨-,-,q2,-,-,-,q6⟩:=pc7 hQ;let⟨r0,r1,r2,r3,r4⟩:=sh5 r;have f0:=r.frozen 0;have f1:=r.frozen 1;have f2:=r.frozen 2;have f3:=r.frozen 3;have f4:=r.frozen 4;have H:=An G a;have e8:=bp.keep a;clear KF d K bs c0 bm D a bp;go_wp2_with fail;let⟨s0,s1,s2,s3,s4⟩:=sh5 (((((r.set_ 0 (.slice A8 n8 c8)).set_ 1 g.gr).set_ 2 (.bool g.mt)).set_ 3 ax).set_ 4 ay);refine cB (v:=.tuple #[.agg #[.slice A8 n8 c8,g.gr,.bool g.mt,ax,ay],.int .i64 0]) (by simp[results,results29,go_sem,s0,s1,s2,s3,s4]) rfl ⟨A8,n8,c8,g.gr,g.mt,ax,ay,by rw[HS.out],λ_=>?_,raw5 H aK 0⟩;rw[HS.out];refine⟨rfl,rfl,rfl,rfl,(e8.keepAbove λk cs fr hk _=>?_).lower eg,er⟩;have m:k≠w.heap.size+1+1:=aK
 exact(Dv m).trans ((Dv m).trans ((Dv m).trans ((Dv m).trans (Dv m))))
theorem Vw(s:StyleP)(z:Int)(c:PlcP)(w:World)(a:SmS s)(b:StV w e s):Calls prog 29 #[.agg e,z,.agg (plV c)] w (Acn w (Fq s z c)):=by
 by_cases h:(J5 s z c.us).2=0
 .exact Aok e s z c w a b h
 rw[show Fq s z c=(Xm,(J5 s z c.us).2) by unfold Fq;rw[if_pos h]];exact Aol e s z c w a b h
end Go.Proofs.YtboghahlhmnblaaGreat
