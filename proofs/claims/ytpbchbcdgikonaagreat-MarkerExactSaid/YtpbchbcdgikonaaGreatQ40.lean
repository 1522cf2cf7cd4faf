/- Lean texts of the claim. -/
import Derived.Test.YtpbchbcdgikonaaGreatQ39
import Derived.Maps.OwnSet
namespace Go.Proofs.YtpbchbcdgikonaaGreat
set_option linter.unusedVariables false
set_option linter.unusedSimpArgs false
set_option maxRecDepth 100000
set_option maxHeartbeats 4000000
open Go.RowKit
def Afi (z:Bool):List Value:=[.bool z]
theorem Yr (z:Bool):(Afi z).length=1:=rfl
def te (w:World) (base:Nat) (v:Value) (l:List Bool):Prop:=OwG 4 1 Afi w base v l
theorem Aha:(Tryz.prog.info? 4).map (fun i=>(i.zero,i.size,i.bytes))=some (some (.bool false),1,1):=by kernel_rfl
theorem yo {l:List Bool} {k:Nat} (h:k<l.length):l[k]? = some (gbo l k):=by
 unfold gbo;rw[List.getD,List.getElem?_eq_getElem h];rfl
theorem te.cellsB {w:World} {base g cap n:Nat} {l:List Bool} (h:te w base (.slice (some ⟨g,0,none⟩) n cap) l) (hn:l.length=n) {k:Nat} (hk:k<n):w.cell? ⟨g,k,none⟩=some (.bool (gbo l k))/\w.frozen? ⟨g,k,none⟩=false:=by
 subst hn;have c0:=OwG.cells h k (by omega)
 have f0:=Bp Yr l k 0 _ (yo hk) (by omega)
 rw[Nat.mul_one,Nat.add_zero] at f0;rw[f0] at c0;exact⟨c0,OwG.frozen h _⟩
theorem de {l:List Bool} {k:Nat} (x:Bool):(l.flatMap Afi).set k (.bool x)=(l.set k x).flatMap Afi:=by
 induction l generalizing k with
 | nil=>simp
 | cons a l ih =>
   cases k with
   | zero=>simp[Afi]
   | succ k=>rw[List.set_cons_succ,List.flatMap_cons,List.flatMap_cons,<-ih];simp[Afi]
theorem te.storeB {w:World} {base g cap n:Nat} {l:List Bool} (h:te w base (.slice (some ⟨g,0,none⟩) n cap) l) (hn:l.length=n) (k:Nat) (x:Bool):te (w.setCell ⟨g,k,none⟩ (.bool x)) base (.slice (some ⟨g,0,none⟩) n cap) (l.set k x):=by
 subst hn;have h1:=(World.ownsRow.stored h k (.bool x)).1;rw[de] at h1;unfold te OwG;rw[List.length_set];exact h1
theorem aq (n:Nat) (hn:n<=1000):∃Z:Array Value,(∀w,(Instr.makeSlice 118 (.int .i64 (n:Int)) (.int .i64 (n:Int))).run Tryz.prog w=.ok (.slice (some ⟨w.heap.size,0,none⟩) n n) (w.alloc (.cells Z 4)))/\∀w:World,te (w.alloc (.cells Z 4)) w.heap.size (.slice (some ⟨w.heap.size,0,none⟩) n n) (List.replicate n false):=by
 obtain⟨i,hi,hz0,hz1,hz2⟩:=info_parts Aha;refine⟨madeCells (Value.bool false).cells (n*1),fun w=>?_,fun w=>?_⟩
 ·have hr:=run_make (P:=Tryz.prog) w 118 4 i (.bool false) Tryz.underlying118 hi hz0 .i64 .i64 n n (by omega) (by omega) (by rw[hz2];omega) (by omega)
  rw[hz1] at hr;simpa using hr
 ·unfold te OwG
  rw[List.length_replicate,<-N0 Yr false n (Value.bool false).cells (by kernel_rfl) (by omega)]
  exact World.ownsRow_lit w _ n (Nat.le_refl _) (by unfold maxLen;omega) (size_madeCells _ _)
theorem br (g cap n:Nat) (l:List Bool) (w:World) (base:Nat) (hn:n<=1000000) (hl:l.length=n) (hs:te w base (.slice (some ⟨g,0,none⟩) n cap) l) :
 Calls Tryz.prog 68 #[.slice (some ⟨g,0,none⟩) n cap,.bool false] w fun e w'=>e=.returned (.int .i64 (Cx (fun i=>!gbo l i) n))/\Below w.heap.size w w':=by
 have HL:=Lib.hid hl;clear hl;go_enter Tryz.func68,Tryz.ntmps68;go_wp2_with fail;go_loopw [8] (fun i wr=>∃k:Nat,k<=n/\i=.int .i64 k/\Hid (Bq (fun i=>!gbo l i) k=false)/\Below w.heap.size w wr) (fun i _=>n-(intOf i).toNat)
 case atStart=>exact⟨0,Nat.zero_le _,rfl,Bq.zero _,Below.refl _ _⟩
 case round =>
  obtain⟨k,hk,rfl,hp,hb⟩:=hrel;by_cases hlt:k<n
  ·obtain⟨c0,-⟩:=te.cellsB (OwG.keep hs hb) HL.out hlt
   have HY:=Lib.hid (fun (h:gbo l k=true)=>Bq.succ (f:=fun i=>!gbo l i) hp.out (by rw[h];rfl))
   have HN:=Lib.hid (fun (h:gbo l k=false)=>Gv (f:=fun i=>!gbo l i) hlt hp.out (by rw[h];rfl))
   obtain⟨x,hx⟩:∃x,gbo l k=x:=⟨_,rfl⟩
   rw[hx] at c0 HY HN;clear hx;have B1:(k:Int)<(n:Int):=by omega
   cases x with
   | false =>
     have HN2:=Lib.hid (HN.out rfl);clear HY HN;go_wp2_with fail;go_ret;exact⟨Bh HN2.out.symm,hb⟩
   | true =>
     have HY2:=Lib.hid (HY.out rfl);clear HY HN;go_wp2_with fail;exact⟨⟨k+1,by omega,by go_num,HY2,hb⟩,by simp[intOf];omega⟩
  ·obtain rfl:n=k:=by omega
   go_wp2_with fail;go_ret;exact⟨Bh (Fa hp.out).symm,hb⟩
theorem Rm (g cap n:Nat) (l:List Bool) (w:World) (base:Nat) (hn:n<=1000000) (hl:l.length=n) (hs:te w base (.slice (some ⟨g,0,none⟩) n cap) l) :
 Calls Tryz.prog 45 #[.slice (some ⟨g,0,none⟩) n cap,.bool false] w fun e w'=>e=.returned (.bool (Bq (fun i=>!gbo l i) n))/\Below w.heap.size w w':=by
 have HL:=Lib.hid hl;clear hl;go_enter Tryz.func45,Tryz.ntmps45
 go_wp2_with (go_at_call 68;refine(br g cap n l _ base hn HL.out hs).mono ?_;rintro e w1 ⟨rfl,hb1⟩)
 go_ret;exact⟨Bn (Hg _ _),hb1⟩
section
open Go.RowKit Go.Maps
def okC (p:Int×Int×Int):Prop:=inR p.1/\inR p.2.1/\inR p.2.2
def eu (p:Int×Int×Int):Value:=.agg #[.int .i64 p.1,.int .i64 p.2.1,.int .i64 p.2.2]
def klC (p:Int×Int×Int):Lit:=.string (keyBytes [.int .i64 p.1,.int .i64 p.2.1,.int .i64 p.2.2])
theorem Afv:(match Tryz.prog.underlying 116 with|some (.array _ _)|some (.struct _)=>true|_=>false)=true:=by rw[Tryz.underlying116]
theorem Ak4:(116:TypeId)<Tryz.prog.types.size:=of_decide_eq_true (by kernel_rfl)
theorem Ajm:Keyed Tryz.prog 116:=Keyed.of_law (deep_law_laid (P:=Tryz.prog) (k:=116) Lp (m:=3) (by omega) Ak4 (by kernel_rfl) Afv)
theorem rf:Tryz.prog.cellsOf 116=3:=by kernel_rfl
theorem Ajp:Tryz.prog.keyType 116=true:=by kernel_rfl
theorem Adr (p:Int×Int×Int) (h:okC p):keyOf Tryz.prog 116 (eu p)=some (klC p):=by
 obtain⟨m,hm⟩:=O8;have h1:=N9 h.1;have h2:=N9 h.2.1;have h3:=N9 h.2.2;unfold keyOf eu klC;rw[hm];simp[Tryz.underlying116,Ajp,Value.formed,rf,Program.keyLits,Tryz.underlying3,cellsI,Value.cells,h1,h2,h3]
theorem Alf {xs:List Value} (h:xs.length=3):∃a b c,xs=[a,b,c]:=by
 match xs,h with
 | [a,b,c],_=>exact⟨a,b,c,rfl⟩
theorem Adn {d:Nat} {xs:List Value} {L:List Lit} (h:Tryz.prog.keyLits (d+2) 116 xs=some L):∃x y z,xs=[.int .i64 x,.int .i64 y,.int .i64 z]/\inR x/\inR y/\inR z:=by
 obtain⟨h1,⟨L1,h2⟩,⟨L2,h3⟩,L3,h4⟩:=Yf Tryz.underlying116 h;rw[rf] at h1;rw[cellsI] at h2 h3 h4;obtain⟨a,b,c,rfl⟩:=Alf h1;simp only[List.drop_zero,List.drop_succ_cons,List.take_succ_cons,List.take_zero] at h2 h3 h4;obtain⟨x,rfl,hx⟩:=Tn (P:=Tryz.prog) Tryz.underlying3 h2;obtain⟨y,rfl,hy⟩:=Tn (P:=Tryz.prog) Tryz.underlying3 h3;obtain⟨z,rfl,hz⟩:=Tn (P:=Tryz.prog) Tryz.underlying3 h4;exact⟨x,y,z,rfl,hx,hy,hz⟩
theorem yg (v:Value) (l:Lit) (h:keyOf Tryz.prog 116 v=some l):∃p,v=eu p/\okC p:=by
 obtain⟨m,hm⟩:=O8;obtain⟨xs,L,rfl,h1,rfl⟩:=keyOf_top (P:=Tryz.prog) (k:=116) Afv h;rw[hm] at h1;obtain⟨x,y,z,hxs,h2,h3,h4⟩:=Adn h1;refine⟨(x,y,z),?_,h2,h3,h4⟩;unfold eu;rw[show xs=#[.int .i64 x,.int .i64 y,.int .i64 z] by apply Array.ext';simpa using hxs]
theorem repC:KeyRep Tryz.prog 116 eu okC klC where
 law:=Ajm
 of:=Adr
 inv:=yg
 inj x y h:=by
  unfold eu at h;injection h with h
  injection h with h
  simp at h;exact Prod.ext h.1 (Prod.ext h.2.1 h.2.2)
def kI3 (C:List PlcP) (x:Int×Int×Int):Nat->Int
 | 0 => -1
 | n+1=>if kt (plc C n)=x then (n:Int) else kI3 C x n
theorem Abp (C:List PlcP) (p:PlcP):∀n,kI3 C (kt p) n=Pw C p n
 | 0=>rfl
 | n+1=>by
   rw[kI3,Pw,Abp C p n];by_cases h:kt (plc C n)=kt p
   ·rw[if_pos h,if_pos (Mv.2 h)]
   ·rw[if_neg h,if_neg (fun q=>h (Mv.1 q))]
theorem Abo (C:List PlcP) (x:Int×Int×Int):∀n,-1<=kI3 C x n/\kI3 C x n<n
 | 0=>by simp[kI3]
 | n+1=>by
   have:=Abo C x n;rw[kI3];split<;>omega
def Mp (w:World) (b n:Nat) (C:List PlcP) (k:Nat):Prop :=
 ∃D:DataW Unit,w.ownsMap Tryz.prog 116 (plainElem Tryz.prog 3) b n D/\∀x,okC x->(0<=kI3 C x k->Maps.has D (klC x)=true/\∀d,D.atKey (klC x) d=.lit (.int .i64 (kI3 C x k)))/\(kI3 C x k<0->Maps.has D (klC x)=false)
theorem Mp.made (w:World) (C:List PlcP):Mp (w.alloc (.map #[] 0)) w.heap.size 0 C 0 :=
 ⟨.map [],World.ownsMap_made w _ _ _,fun x _=>⟨fun h=>by simp[kI3] at h,fun _=>rfl⟩⟩
theorem Mp.kept {w w':World} {b n k:Nat} {C:List PlcP} {row:Option Nat} (h:Mp w b n C k) (hg:w.grownBy w' row) (hne:some b≠row):Mp w' b n C k:=by
 obtain⟨D,h1,h2⟩:=h;exact⟨D,h1.kept hg hne,h2⟩
theorem Mp.keep {w w':World} {b n k:Nat} {C:List PlcP} (h:Mp w b n C k) (hb:Below w.heap.size w w'):Mp w' b n C k :=
 h.kept (row:=none) ⟨hb.os,hb.tape,hb.output,hb.size,fun k hk _=>hb.block k hk⟩ (by simp)
theorem Afq:∀w,(zeroValue 3).run Tryz.prog w=.ok (.int .i64 0) w:=fun _=>by kernel_rfl
theorem Mp.get {w:World} {b n k:Nat} {C:List PlcP} (h:Mp w b n C k) {x:Int×Int×Int} (hx:okC x) :
 ∃z,(Instr.lookup 114 (.map (some b)) (eu x) true).run Tryz.prog w=.ok (.tuple #[.int .i64 z,.bool (decide (0<=kI3 C x k))]) w/\(0<=kI3 C x k->z=kI3 C x k):=by
 obtain⟨D,h1,h2⟩:=h;obtain⟨v,ps,hrun,hR⟩:=h1.look_ok repC.law Tryz.underlying114 (Afq w) (plainElem_int Tryz.underlying3 (by decide)) (repC.of x hx)
 obtain⟨z,rfl,hz,-⟩:=plainElem_int_inv Tryz.underlying3 hR;simp only[Prod.mk.injEq] at hz;obtain⟨q1,q2⟩:=h2 x hx;by_cases hk:0<=kI3 C x k
 ·obtain⟨g1,g2⟩:=q1 hk
  refine⟨z,by rw[hrun,g1,decide_eq_true hk],fun _=>?_⟩
  have h3:=hz.1;rw[g2] at h3;injection h3 with h3
  injection h3 with _ h3
  exact h3.symm
 ·exact⟨z,by rw[hrun,q2 (by omega),decide_eq_false hk],fun h=>absurd h hk⟩
theorem Mp.put {w:World} {b n k:Nat} {C:List PlcP} (h:Mp w b n C k) (hn:n<maxLen) (hx:okC (kt (plc C k))) (hk:k<=1000000) :
 ∃w',(Instr.mapUpdate 114 (.map (some b)) (eu (kt (plc C k))) (.int .i64 (k:Int))).run Tryz.prog w=.ok () w'/\Mp w' b (n+1) C (k+1)/\w.grownBy w' (some b):=by
 obtain⟨D,h1,h2⟩:=h;obtain⟨w',hrun,r1,r2⟩:=h1.update repC.law Tryz.underlying114 hn (repC.of _ hx) (plainElem_int Tryz.underlying3 (N9 (n:=(k:Int)) (by unfold inR;omega)))
 have hM:IsMap D:=by obtain⟨es,c,_,_,_,rfl⟩:=h1;exact⟨_,rfl⟩
 refine⟨w',hrun,⟨_,r1,fun y hy=>?_⟩,r2⟩
 rw[kI3];by_cases e:kt (plc C k)=y
 ·rw[if_pos e]
  subst e;exact⟨fun _=>⟨Maps.has_put_same hM (repC.law.key (repC.of _ hx)) _,fun d=>Maps.atKey_put_same hM (repC.law.key (repC.of _ hx)) _ _⟩,fun h=>by omega⟩
 ·rw[if_neg e]
  have hne:klC y≠klC (kt (plc C k)):=fun h=>e (repC.one hy hx h).symm
  rw[Maps.has_put_other hne];refine⟨fun h=>⟨((h2 y hy).1 h).1,fun d=>?_⟩,(h2 y hy).2⟩
  rw[Maps.atKey_put_other hne];exact((h2 y hy).1 h).2 d
theorem Ql {w:World} {b n k:Nat} {C:List PlcP} {ops:Array Oper} {rest:List Oper} {o:Oper} {a:Act} {Q:Exit->Act->World->Prop} (hg:o.guard=none) (m x v:Operand) (hop:o.op=Op.mapUpdate 114 m x v)
 (hm:a.eval m=.map (some b)) (h:Mp w b n C k) (hn:n<maxLen) (hp:okC (kt (plc C k))) (hk:k<=1000000) (hx:a.eval x=eu (kt (plc C k))) (hv:a.eval v=.int .i64 (k:Int))
 (hK:∀w',Mp w' b (n+1) C (k+1)->w.grownBy w' (some b)->wpList Tryz.prog ops Q rest (a.put o.dst undef) w'):wpList Tryz.prog ops Q (o::rest) a w:=by
 refine wpList_plain hg fun K' hK'=>?_
 obtain⟨w',hrun,r1,r2⟩:=h.put hn hp hk;unfold Oper.wp;simp[execOp,hop,hm,hx,hv,hrun,Result.andThen];exact hK' _ _ (hK w' r1 r2)
theorem Ke {w:World} {b n k:Nat} {C:List PlcP} {ops:Array Oper} {rest:List Oper} {o:Oper} {a:Act} {Q:Exit->Act->World->Prop} (hg:o.guard=none) (m x:Operand) (hop:o.op=Op.lookup 114 m x true)
 (hm:a.eval m=.map (some b)) (h:Mp w b n C k) (p:Int×Int×Int) (hp:okC p) (hx:a.eval x=eu p)
 (hK:∀z,(0<=kI3 C p k->z=kI3 C p k)->wpList Tryz.prog ops Q rest (a.put o.dst (.tuple #[.int .i64 z,.bool (decide (0<=kI3 C p k))])) w):wpList Tryz.prog ops Q (o::rest) a w:=by
 refine wpList_plain hg fun K' hK'=>?_
 obtain⟨z,hrun,hz⟩:=h.get hp;unfold Oper.wp;simp[execOp,hop,hm,hx,hrun,Result.andThen];exact hK' _ _ (hK z hz)
theorem X5 (c:PlcP) (w:World):Calls Tryz.prog 44 #[.agg #[.int .i64 c.ga,.int .i64 c.us,.int .i64 c.cp,.bool c.fl,.int .i64 c.qu,.int .i64 c.x,.int .i64 c.y]] w fun e w'=>e=.returned (eu (kt c))/\Below w.heap.size w w':=by
 obtain⟨ga,us,cp,fl,qu,x,y⟩:=c;unfold eu kt;dsimp only;go_enter Tryz.func44,Tryz.ntmps44;go_wp2;exact bodyPost_ret (v:=.agg #[.int .i64 ga,.int .i64 us,.int .i64 cp]) (by simp[results,Tryz.results44,go_sem]) rfl ⟨rfl,An (An (Below.refl _ _) _) _⟩
end
def Rz (w:World) (r:List (Int×Int)×Int) (e:Ending) (w':World):Prop:=∃v,e=.returned (.tuple #[v,.int .i64 r.2])/\OwS w' w.heap.size v r.1/\Below w.heap.size w w'
def Ll (E:List EdgeP):List (Int×Int)×Int:=if Fp E≠0 then ([],Fp E) else (Ck E,0)
theorem Kg (A:Option Addr) (cap n:Nat) (E:List EdgeP) (w:World) (hcap:n<=cap) (hn:n<=9223372036854775807) (hE:EdS w A n E) :
 Calls Tryz.prog 50 #[.slice A n cap] w (Rz w (Ll E)):=by
 have HEL:=hE.1;by_cases h:Fp E=0
 ·have HO:=Lib.hid h
  obtain⟨o1,o2,o3,-⟩:=Is h;have HPL:=Lib.hid (fun i (hi:i<n)=>Iq (o3 i (by omega)).2)
  have hn16:n<=16:=by omega
  rw[show Ll E=(Ck E,0) by unfold Ll;rw[if_neg (by simpa using h)]]
  clear h o1 o2 o3 HEL;go_enter Tryz.func50,Tryz.ntmps50
  go_wp2_with (first
   | (go_at_call 76;have hz:=hb1;refine(Ta _ cap n E _ (by omega) (hE.keep hb1) (fun i hi=>⟨by have:=(HPL.out i hi).1;omega,(HPL.out i hi).2⟩)).mono ?_;rintro e w2 ⟨v2,rfl,ho2,hb2⟩)
   | (go_at_call 71;refine(F4 A cap n E _ hcap hn hE).mono ?_;rintro e w1 ⟨rfl,hb1⟩;rw[HO.out]))
  go_ret2
  exact⟨_,rfl,OwG.lower ho2 hb1.size,Ao hb1 hb2⟩
 ·obtain⟨c,hc⟩:∃c,Fp E=c:=⟨_,rfl⟩
  rw[show Ll E=([],Fp E) by unfold Ll;rw[if_pos h],hc]
  rw[hc] at h;have hne:(c != 0)=true:=by simpa using h
  have HC:=Lib.hid hc;clear hc h HEL;go_enter Tryz.func50,Tryz.ntmps50
  go_wp2_with (go_at_call 71;refine(F4 A cap n E _ hcap hn hE).mono ?_;rintro e w1 ⟨rfl,hb1⟩;rw[HC.out])
  go_ret2
  exact⟨_,rfl,OwG.nil,hb1⟩
theorem Gp (A:Option Addr) (cap n:Nat) (l:List (Int×Int)) (w:World) (hl:n<=9223372036854775807) (hcap:n<=cap) (hs:SpS w A n l) :
 Calls Tryz.prog 55 #[.slice A n cap] w fun e w'=>e=.returned (.int .i64 (orW l))/\Below w.heap.size w w':=by
 have HR:=Lib.hid (show orW l=Er (if Bf l n=0 then Ma l n n else 0) 0 by unfold orW R7;rw[hs.1])
 obtain⟨r,hr⟩:∃r,(if Bf l n=0 then Ma l n n else 0)=r:=⟨_,rfl⟩
 rw[hr] at HR;have H2:=Lib.hid hr;clear hr;go_enter Tryz.func55,Tryz.ntmps55
 go_wp2_with (first
  | (go_at_call 81;have hz:=hb1;refine(J8 r 0 _).mono ?_;rintro e w2 ⟨rfl,hb2⟩)
  | (go_at_call 61;refine(Un A cap n l _ hl hcap hs).mono ?_;rintro e w1 ⟨rfl,hb1⟩;rw[H2.out]))
 go_ret;exact⟨by rw[HR.out];rfl,Ao hb1 hb2⟩
theorem Y9 (A:Option Addr) (cap n:Nat) (E:List EdgeP) (A2:Option Addr) (n2 c2:Nat) (wd:List Int) (w:World) (hn:n<=16) (hn2:n<=n2) (hE:EdS w A n E) (hW:InS w A2 n2 wd) (h2:∀k,k<n->1<=(edg E k).ln.length/\(edg E k).ln.length<=40) :
 Calls Tryz.prog 51 #[.slice A n cap,.slice A2 n2 c2] w (Aiy w (Kr E wd)):=by
 have HV:=Lib.hid (show Kr E wd=Fl E wd n by unfold Kr;rw[hE.1])
 have H2:=Lib.hid h2
 have HL:=Lib.hid (fun k (hk:k<=n)=>show (Fl E wd k).length<=k*40 by
  rw[Ly];exact O6 (fun i hi=>(h2 i (by omega)).2))
 have HS:=Lib.hid (fun k=>show Fl E wd (k+1)=Fl E wd k++List.replicate ((edg E k).ln.length-1) (gi wd k) from rfl)
 clear h2;go_enter Tryz.func51,Tryz.ntmps51;go_upto_region 3 with fail;go_loopw [5,6,7,10] (fun v _ _ i wr=>∃k:Nat,k<=n/\i=.int .i64 k/\OwI wr w.heap.size v (Fl E wd k)/\Below w.heap.size w wr) (fun _ _ _ i _=>n-(intOf i).toNat)
 case atStart=>exact⟨0,Nat.zero_le _,rfl,OwG.nil,Below.refl _ _⟩
 case round =>
  obtain⟨k,hk,rfl,ho,hb⟩:=hrel;by_cases hlt:k<n
  ·obtain⟨b0,off,rfl,hc⟩:=(hE.keep hb).at_ hlt
   obtain⟨e0,Al,cl,e1,q1,q2,q3⟩:=hc k hlt;obtain⟨b1,off1,rfl,hw⟩:=hW.at_ (Nat.lt_of_lt_of_le hlt hn2);have H3:=Lib.hid (H2.out k hlt);have HSk:=Lib.hid (HS.out k);obtain⟨m1,hm⟩:∃m,(edg E k).ln.length=m:=⟨_,rfl⟩
   obtain⟨m,hmm⟩:∃m,m1=m+1:=⟨m1-1,by have:=H3.out;omega⟩
   have hm40:m<=40:=by have:=H3.out;omega
   rw[hm] at e1 q1 HSk;rw[show m1-1=m by omega] at HSk
   have W1:IntKind.i64.wrap ((m1:Int)-1)=(m:Int):=by rw[IntKind.wrap_i64];omega
   clear hmm;obtain⟨nm,hnm⟩:∃x,(edg E k).nm=x:=⟨_,rfl⟩
   rw[hnm] at e0;obtain⟨x,hx⟩:∃x,gi wd k=x:=⟨_,rfl⟩
   rw[hx] at hw HSk;have HLk:=Lib.hid (HL.out k hk);clear hc hnm hx q3 hm;have B1:(k:Int)<(n:Int):=by omega
   have B1':(k:Int)<(n2:Int):=by omega
   obtain⟨sv,hsv⟩:∃sv,sv=u5:=⟨_,rfl⟩
   rw[<-hsv] at ho ⊢;clear hsv;go_upto_region 5 with fail;refine Ar (fun Y=>Below wr.heap.size wr Y/\Bb Y wr.heap.size 101 #[.string nm,.slice Al m1 cl]) ⟨An (Below.refl _ _) _,Bb.new _ _ _⟩ ?_
   rintro Y ⟨hbY,hP⟩;have p1:Y.cell? ⟨wr.heap.size,1,none⟩=some (.slice Al m1 cl):=(hP.cell 1).trans rfl;have hoY:=OwG.keep ho hbY;have hbE:=Ao hb hbY;clear e0 e1 ho;go_upto_region 6 with fail;clear p1 W1;go_loopw [5,19] (fun v i wx=>∃j:Nat,j<=m/\i=.int .i64 j/\OwI wx w.heap.size v (Fl E wd k++List.replicate j x)/\Below w.heap.size w wx) (fun _ i _=>m-(intOf i).toNat)
   case atStart=>exact⟨0,Nat.zero_le _,rfl,by rw[List.replicate_zero,List.append_nil];exact hoY,hbE⟩
   case round =>
    clear hoY hbE;obtain⟨j,hj,rfl,ho,hb⟩:=hrel;have hwx:=Aq hb hw;by_cases hjm:j<m
    ·have hlen:(Fl E wd k++List.replicate j x).length+1<=1000000:=by
      rw[List.length_append,List.length_replicate];have:=HLk.out;omega
     have HR:=Lib.hid (show Fl E wd k++List.replicate (j+1) x=(Fl E wd k++List.replicate j x)++[x] by rw[List.append_assoc,List.replicate_succ'])
     obtain⟨L,hL⟩:∃L,Fl E wd k++List.replicate j x=L:=⟨_,rfl⟩
     rw[hL] at hlen ho HR;clear hL;have B2:(j:Int)<(m:Int):=by omega
     obtain⟨tv,htv⟩:∃tv,tv=u5:=⟨_,rfl⟩
     rw[<-htv] at ho ⊢;clear htv
     go_wp2_with (at_builtin;refine Jr rfl _ _ rfl w.heap.size _ L rfl (OwG.alloc ho _) _ 1 1 [x] rfl (InS.new _ _ _) (fun h=>by cases h) (by simpa using hlen) (An hb _).size ?_;intro v7 w7 ho7 hg7 hat7)
     exact⟨⟨j+1,by omega,by go_num,by rw[HR.out];exact ho7,Bm (An hb _) (OwG.alloc ho _) hg7⟩,by simp[intOf];omega⟩
    ·obtain rfl:m=j:=by omega
     go_wp2_with fail;exact⟨⟨k+1,by omega,by go_num,by rw[HSk.out];exact ho,hb⟩,by simp[intOf];omega⟩
  ·obtain rfl:n=k:=by omega
   go_wp2_with fail;go_ret;exact⟨_,rfl,by rw[HV.out];exact ho,hb⟩
theorem fh {w:World} {g:Nat} {t:TypeId} {a b:Value} (h:Bb w g t #[a,b]):w.cell? ⟨g,0,none⟩=some a/\w.cell? ⟨g,1,none⟩=some b:=⟨(h.cell 0).trans rfl,(h.cell 1).trans rfl⟩
theorem pg {E:List EdgeP} {wd:List Int} {m:Nat} (h:∀k,k<m->0<=gi wd k/\gi wd k<=500):∀x∈Fl E wd m,0<=x/\x<=500:=by
 induction m with
 | zero=>intro x hx;simp[Fl] at hx
 | succ m ih =>
   intro x hx;rw[Fl,List.mem_append] at hx;rcases hx with hx|hx
   ·exact ih (fun k hk=>h k (by omega)) x hx
   ·rw[List.eq_of_mem_replicate hx];exact h m (by omega)
theorem Ahj {l:List Int} (h:∀x∈l,0<=x/\x<=500) (i:Nat):0<=gi l i/\gi l i<=500:=by
 unfold gi;by_cases hi:i<l.length
 ·simp only[List.getD,List.getElem?_eq_getElem hi,Option.getD_some];exact h _ (List.getElem_mem hi)
 ·simp only[List.getD,List.getElem?_eq_none (by omega:l.length<=i),Option.getD_none];omega
theorem Afw {wd:List Int} {n:Nat} (h:Bq (wdB wd) n=false):∀k,k<n->0<=gi wd k/\gi wd k<=500:=by
 intro k hk;cases hw:wdB wd k with
 | false=>unfold wdB at hw;simp at hw;omega
 | true=>rw[Bq.yes (f:=wdB wd) hk hw] at h;cases h
theorem Aky (A:Option Addr) (cap n:Nat) (E:List EdgeP) (A2:Option Addr) (n2 c2:Nat) (w:World) (hcap:n<=cap) (hn:n<=9223372036854775807) (hE:EdS w A n E) (h:Fp E≠0) :
 Calls Tryz.prog 49 #[.slice A n cap,.slice A2 n2 c2] w (Rz w ([],Fp E)):=by
 obtain⟨c,hc⟩:∃c,Fp E=c:=⟨_,rfl⟩
 have HP:=Lib.hid (show Ll E=([],c) by unfold Ll;rw[if_pos h,hc])
 rw[hc] at h ⊢;have hne:(c != 0)=true:=by simpa using h
 clear hc h;go_enter Tryz.func49,Tryz.ntmps49
 go_wp2_with (go_at_call 50;refine(Kg A cap n E _ hcap hn hE).mono ?_;rintro e w1 ⟨v1,rfl,-,hb1⟩;rw[HP.out])
 go_ret2
 exact⟨_,rfl,OwG.nil,hb1⟩
theorem Akx (A:Option Addr) (cap n:Nat) (E:List EdgeP) (A2:Option Addr) (n2 c2:Nat) (w:World) (hcap:n<=cap) (hn:n<=9223372036854775807) (hE:EdS w A n E) (h:Fp E=0) (hne:n2≠n) :
 Calls Tryz.prog 49 #[.slice A n cap,.slice A2 n2 c2] w (Rz w ([],1)):=by
 have HP:=Lib.hid (show Ll E=(Ck E,0) by unfold Ll;rw[if_neg (by simpa using h)])
 have hn:((n2:Int) != (n:Int))=true:=by rw[bne_iff_ne];omega
 clear h hne;go_enter Tryz.func49,Tryz.ntmps49
 go_wp2_with (go_at_call 50;refine(Kg A cap n E _ hcap (by assumption) hE).mono ?_;rintro e w1 ⟨v1,rfl,-,hb1⟩;rw[HP.out])
 go_ret2
 exact⟨_,rfl,OwG.nil,hb1⟩
theorem Akw (A:Option Addr) (cap n:Nat) (E:List EdgeP) (A2:Option Addr) (n2 c2:Nat) (wd:List Int) (w:World) (hcap:n<=cap) (hE:EdS w A n E) (hW:InS w A2 n2 wd) (h:Fp E=0) (hne:n2=n) :
 Calls Tryz.prog 49 #[.slice A n cap,.slice A2 n2 c2] w (Rz w (if Bq (wdB wd) n2 then ([],3) else (Es E wd,0))):=by
 have HN2:=Lib.hid hne;have hnn:((n2:Int) != (n:Int))=false:=by rw[hne];simp
 have hn22:n2<=16:=by rw[hne];have:=(Is h).2.1;rw[hE.1] at this;exact this
 clear hne;have HP:=Lib.hid (show Ll E=(Ck E,0) by unfold Ll;rw[if_neg (by simpa using h)])
 have HEL:=Lib.hid hE.1;obtain⟨o1,o2,o3,o4,o5⟩:=Is h;have hn:n<=16:=by rw[HEL.out] at o2;exact o2
 have HPL:=Lib.hid (show ∀k,k<n->1<=(edg E k).ln.length/\(edg E k).ln.length<=40 from fun k hk=>by have:=Iq (o3 k (by rw[HEL.out];exact hk)).2;omega)
 have HCK:=Lib.hid o5;have HEA:=Lib.hid (show (Kr E wd).length=(Ck E).length from Ly _)
 have HWI:=Lib.hid (show Bq (wdB wd) n2=false->∀i,0<=gi (Kr E wd) i/\gi (Kr E wd) i<=500 from fun h=>Ahj (pg (fun k hk=>Afw h k (by have:=HEL.out;have:=HN2.out;omega))))
 obtain⟨R,hR⟩:∃R:List (Int×Int)×Int,(if Bq (wdB wd) n2 then ([],3) else (Es E wd,0))=R:=⟨_,rfl⟩
 rw[hR];have HRR:=Lib.hid hR;clear h o1 o2 o3 o4 o5 hR;go_enter Tryz.func49,Tryz.ntmps49
 go_upto_region 7 with (go_at_call 50;refine(Kg A cap n E _ hcap (by omega) hE).mono ?_;rintro e w1 ⟨v1,rfl,ho1,hb1⟩;rw[HP.out] at ho1 ⊢)
 obtain⟨V,hV⟩:∃V,Ck E=V:=⟨_,rfl⟩
 rw[hV] at ho1;have HVV:=Lib.hid hV;obtain⟨Av,cv,rfl,hcv,hSv,-⟩:=ho1.sps;obtain⟨nv,hnv⟩:∃nv,V.length=nv:=⟨_,rfl⟩
 have hCK:=HCK.out;rw[hV,hnv] at hCK;obtain⟨hv3,hv40,HIN',-⟩:=L7 hCK;have HIN:=Lib.hid HIN';have HNE:=Lib.hid (fun i j (hi:i<nv) (hj:j<nv) (hne:i≠j)=>Yx hCK hi hj hne)
 have HNV:=Lib.hid hnv;rw[hnv] at hcv hSv ⊢;clear hV hnv hCK HIN' ho1 hnn;have hW1:=hW.keep hb1;have hE1:=hE.keep hb1;go_loopw [9,35] (fun _ c wr=>∃k:Nat,k<=n2/\c=.int .i64 k/\Hid (Bq (wdB wd) k=false)/\Hid (w1=wr)) (fun _ c _=>n2-(intOf c).toNat)
 case atStart=>exact⟨0,Nat.zero_le _,rfl,Lib.hid (Bq.zero _),Lib.hid rfl⟩
 case round =>
  obtain⟨k,hk,rfl,hz,hxx⟩:=hrel;obtain rfl:=hxx.out;by_cases hlt:k<n2
  ·obtain⟨b9,off9,rfl,hc9⟩:=hW1.at_ hlt
   have B1:(k:Int)<(n2:Int):=by omega
   obtain⟨x,hx⟩:∃x,gi wd k=x:=⟨_,rfl⟩
   rw[hx] at hc9;by_cases h0:x<0
   ·have HR:=Lib.hid (show R=([],3) by rw[<-HRR.out,Bq.yes (f:=wdB wd) hlt (by unfold wdB;rw[hx];simp;omega)];rfl)
    clear hx;go_wp2_with fail;all_goals go_ret2
    all_goals rw[HR.out]
    all_goals exact⟨_,rfl,OwG.nil,hb1⟩
   ·by_cases h5:500<x
    ·have HR:=Lib.hid (show R=([],3) by rw[<-HRR.out,Bq.yes (f:=wdB wd) hlt (by unfold wdB;rw[hx];simp;omega)];rfl)
     clear hx;go_wp2_with fail;all_goals go_ret2
     all_goals rw[HR.out]
     all_goals exact⟨_,rfl,OwG.nil,hb1⟩
    ·have HP:=Bq.succ (f:=wdB wd) hz.out (by unfold wdB;rw[hx];simp;omega)
     clear hx;go_wp2_with fail;all_goals exact⟨⟨k+1,by omega,by go_num,Lib.hid HP,by first|exact Lib.hid rfl|exact Lib.hid trivial⟩,by simp[intOf];omega⟩
  ·obtain rfl:n2=k:=by omega
   have HR:=Lib.hid (show R=(Es E wd,0) by rw[<-HRR.out,hz.out];rfl)
   have hWI:=HWI.out hz.out;obtain⟨D,hD⟩:∃D,Kr E wd=D:=⟨_,rfl⟩
   rw[hD] at hWI HEA;rw[HVV.out,HNV.out] at HEA;obtain⟨sg,hsg⟩:∃s,orW V=s:=⟨_,rfl⟩
   have hsgi:=Abi V;rw[hsg] at hsgi;have HSG:=Lib.hid hsg;have HD:=Lib.hid hD;have HWD:=Lib.hid hWI;obtain⟨Z,hmk,hZ⟩:=He nv (by omega)
   clear hz hWI hD hsg
   go_upto_region 16 with (first
    | (go_at_call 51;have hz:=hb2;refine(Y9 A cap n E A2 n2 c2 wd _ (by omega) (by have:=HN2.out;omega) (hE1.keep hb2) (hW1.keep hb2) (fun k hk=>HPL.out k hk)).mono ?_;rintro e w3 ⟨v3,rfl,ho3,hb3⟩;rw[HD.out] at ho3)
    | (go_at_call 55;refine(Gp Av cv nv V _ (by omega) (by omega) hSv).mono ?_;rintro e w2 ⟨rfl,hb2⟩;rw[HSG.out]))
   obtain⟨A3,c3,rfl,hc3,hI3,-⟩:=ho3.ins;rw[HEA.out] at hc3 hI3 ⊢;have HO3:=Lib.hid ho3;obtain⟨BZ,hBZ⟩:∃B,B=w3.heap.size:=⟨_,rfl⟩
   have hZ3:=hZ w3;have hb30:=An (Below.refl w3.heap.size w3) (.cells Z 49);rw[<-hBZ] at hZ3 ⊢;have HBZ:=Lib.hid hBZ;have hbW:=Ao hb1 (Ao hb2 hb3);have hS3:=hSv.keep (Ao hb2 hb3);clear ho3 hz hmk hZ hBZ hSv;go_loopw [13,14,15,16,17,18,19,56] (fun _ _ _ _ _ _ _ i wr=>∃(k:Nat) (z:List (Int×Int)),k<=nv/\i=.int .i64 k/\z.length=nv/\Hid (∀p,p<k->gt z p=shP V sg D p)/\OwS wr BZ (.slice (some ⟨BZ,0,none⟩) nv nv) z/\Below w3.heap.size w3 wr) (fun _ _ _ _ _ _ _ i _=>nv-(intOf i).toNat)
   case atStart=>exact⟨0,_,Nat.zero_le _,rfl,List.length_replicate,Lib.hid (fun p hp=>absurd hp (Nat.not_lt_zero _)),hZ3,hb30⟩
   case round =>
    clear hZ3 hb30;obtain⟨k,z,hk,rfl,hz,hp,ho,hb⟩:=hrel;by_cases hlt:k<nv
    ·have hmk:(k+1) % nv<nv:=Nat.mod_lt _ (by omega)
     have hmne:k≠(k+1) % nv:=by
      intro e;rcases Nat.lt_or_ge (k+1) nv with g|g
      ·rw[Nat.mod_eq_of_lt g] at e;omega
      ·rw[show k+1=nv by omega,Nat.mod_self] at e;omega
     have hne:=HNE.out k _ hlt hmk hmne;have i1:=HIN.out k hlt;have i2:=HIN.out _ hmk;have mf:=X4 ((k:Int)+1) (k+1) nv rfl (by omega)
     obtain⟨b0,off,rfl,-,hc⟩:=(hS3.keep hb).at_ hlt;obtain⟨e1,e2⟩:=hc k hlt;obtain⟨e3,e4⟩:=hc _ hmk;obtain⟨b5,off5,rfl,e5⟩:=(hI3.keep hb).at_ hlt;obtain⟨d1,d2⟩:=HWD.out k;have HSH:=Lib.hid (show shP V sg D k=(G8 (sg*gi D k*((gt V ((k+1) % nv)).2-(gt V k).2)) (Cf (sqd (gt V k) (gt V ((k+1) % nv)))),G8 (-(sg*gi D k)*((gt V ((k+1) % nv)).1-(gt V k).1)) (Cf (sqd (gt V k) (gt V ((k+1) % nv))))) by unfold shP;rw[HNV.out])
     obtain⟨p,hpp⟩:∃p,gt V k=p:=⟨_,rfl⟩
     obtain⟨q,hqq⟩:∃q,gt V ((k+1) % nv)=q:=⟨_,rfl⟩
     obtain⟨dk,hdk⟩:∃d,gi D k=d:=⟨_,rfl⟩
     rw[hpp] at hne i1 e1 e2 HSH;rw[hqq] at hne i2 e3 e4 HSH;rw[hdk] at e5 d1 d2 HSH;clear hpp hqq hdk hc;obtain⟨c,hcc⟩:∃c,sg*dk=c:=⟨_,rfl⟩
     have hcb : -500<=c/\c<=500:=by
      rcases(show sg = -1\/sg=0\/sg=1 by omega) with h|h|h<;>rw[h] at hcc<;>omega
     rw[hcc] at HSH;obtain⟨u1,u2,u3,u4',u5,u6,u7,u8⟩:=iw hcb.1 hcb.2 i1 i2 hne;obtain⟨f1,f2,f3,-,-,-,-⟩:=Xb i1 i2 hne;obtain⟨-,-,-,hsq⟩:=Aa0 p q;obtain⟨N,hN⟩:∃N,sqd p q=N:=⟨_,rfl⟩
     rw[hN] at u5 u6 u7 u8 f1 f2 f3 hsq HSH;obtain⟨px,py⟩:=p;obtain⟨qx,qy⟩:=q;obtain⟨a1,a2,a3,a4⟩:=i1;obtain⟨a5,a6,a7,a8⟩:=i2;dsimp only at *
     obtain⟨dx,hdx⟩:∃d,qx-px=d:=⟨_,rfl⟩
     obtain⟨dy,hdy⟩:∃d,qy-py=d:=⟨_,rfl⟩
     have s1:=Sj (d:=dx) (M:=2097152) (by omega) (by omega)
     have s2:=Sj (d:=dy) (M:=2097152) (by omega) (by omega)
     rw[hdx,hdy] at hsq;rw[hdx] at u3 u4' u7 u8 HSH;rw[hdy] at u1 u2 u5 u6 HSH;obtain⟨X,hX⟩:∃X,dx*dx=X:=⟨_,rfl⟩
     obtain⟨Y,hY⟩:∃X,dy*dy=X:=⟨_,rfl⟩
     obtain⟨U,hU⟩:∃X,c*dy=X:=⟨_,rfl⟩
     obtain⟨U',hU'⟩:∃X,-c*dx=X:=⟨_,rfl⟩
     rw[hX] at s1 hsq;rw[hY] at s2 hsq;rw[hU] at u1 u2 u5 u6 HSH;rw[hU'] at u3 u4' u7 u8 HSH;obtain⟨rt,hrt⟩:∃r,Cf N=r:=⟨_,rfl⟩
     rw[hrt] at f2 f3 u5 u6 u7 u8 HSH;have HRT:=Lib.hid hrt;have hr1:∀w2:World,Calls Tryz.prog 75 #[.int .i64 U,.int .i64 (rt:Int)] w2 fun e w'=>e=.returned (.int .i64 (G8 U rt))/\Below w2.heap.size w2 w':=fun w2=>Za U rt w2 (by omega) (by omega) (by omega) (by omega)
     have hr2:∀w2:World,Calls Tryz.prog 75 #[.int .i64 U',.int .i64 (rt:Int)] w2 fun e w'=>e=.returned (.int .i64 (G8 U' rt))/\Below w2.heap.size w2 w':=fun w2=>Za U' rt w2 (by omega) (by omega) (by omega) (by omega)
     obtain⟨x',hx'⟩:∃r,G8 U rt=r:=⟨_,rfl⟩
     obtain⟨y',hy'⟩:∃r,G8 U' rt=r:=⟨_,rfl⟩
     rw[hx'] at hr1 HSH;rw[hy'] at hr2 HSH;have W1:IntKind.i64.wrap (qx-px)=dx:=by rw[hdx,IntKind.wrap_i64];omega
     have W2:IntKind.i64.wrap (qy-py)=dy:=by rw[hdy,IntKind.wrap_i64];omega
     have W3:IntKind.i64.wrap (sg*dk)=c:=by rw[hcc,IntKind.wrap_i64];omega
     have W4:IntKind.i64.wrap (dx*dx)=X:=by rw[hX,IntKind.wrap_i64];omega
     have W5:IntKind.i64.wrap (dy*dy)=Y:=by rw[hY,IntKind.wrap_i64];omega
     have W6:IntKind.i64.wrap (X+Y)=(N:Int):=by rw[<-hsq,IntKind.wrap_i64];omega
     have W7:IntKind.i64.wrap (c*dy)=U:=by rw[hU,IntKind.wrap_i64];omega
     have W8:IntKind.i64.wrap (-c) = -c:=by rw[IntKind.wrap_i64];omega
     have W9:IntKind.i64.wrap (-c*dx)=U':=by rw[hU',IntKind.wrap_i64];omega
     have HN50:=Lib.hid f1;clear u1 u2 u3 u4' u5 u6 u7 u8 f1 f2 f3 s1 s2 hsq hrt hx' hy' hN hX hY hU hU' hdx hdy hcc hcb hne a1 a2 a3 a4 a5 a6 a7 a8 d1 d2;have B1:(k:Int)<(nv:Int):=by omega
     have m1:=mf.2;go_upto_region 18 with fail;refine Ar (fun Y=>Below wr.heap.size wr Y/\Bb Y wr.heap.size 49 #[.int .i64 px,.int .i64 py]) ⟨An (Below.refl _ _) _,Bb.new _ _ _⟩ ?_
     rintro Y1 ⟨hbY,hV⟩;have e3':=Aq hbY e3;have e4':=Aq hbY e4;have e5':=Aq hbY e5;clear e1 e2 e3 e4 e5;go_upto_region 19 with fail;refine Ar (fun Y=>Below Y1.heap.size Y1 Y/\Bb Y Y1.heap.size 49 #[.int .i64 qx,.int .i64 qy]) ⟨An (Below.refl _ _) _,Bb.new _ _ _⟩ ?_
     rintro Y2 ⟨hbY2,hV2⟩;obtain⟨z1,z2⟩:=fh (hV.keep hbY2);obtain⟨z3,z4⟩:=fh hV2;have e5'':=Aq hbY2 e5';have hbE:=Ao hb (Ao hbY hbY2);have hoE:=OwG.keep ho (Ao hbY hbY2);clear e3' e4' e5' hV hV2
     go_quiet (fail)
     clear z1 z2 z3 z4 e5'' W1 W2 W3;have hoQ:OwS (Y2.drewN nq) BZ (.slice (some ⟨BZ,0,none⟩) nv nv) z:=OwG.keep hoE (Bg (Below.refl _ _) _);have hbQ:Below w3.heap.size w3 (Y2.drewN nq):=Bg hbE _;have hBZ:w3.heap.size<=BZ:=Nat.le_of_eq HBZ.out.symm;clear hoE hbE ho hb
     go_wp2_with (first
      | (go_at_call 75;have hzz:=hb5;refine(hr2 _).mono ?_;rintro e w6 ⟨rfl,hb6⟩;obtain⟨x1,x2,y1,y2⟩:=OwS.cells (OwG.keep (OwG.keep hoQ hb5) hb6) hz hlt)
      | (go_at_call 75;refine(hr1 _).mono ?_;rintro e w5 ⟨rfl,hb5⟩)
      | (go_at_call 74;refine(rp N _ HN50.out).mono ?_;rintro e w4 ⟨rfl,rfl⟩;rw[HRT.out]))
     refine⟨⟨k+1,z.set k (x',y'),by omega,by go_num,by rw[List.length_set];exact hz,Lib.hid (fun p h=>?_),OwS.store (OwG.keep (OwG.keep hoQ hb5) hb6) hz hlt x' y',Bc (Bc (Ao (Ao hbQ hb5) hb6) (p:=⟨BZ,k*2,none⟩) hBZ _) (p:=⟨BZ,k*2+1,none⟩) hBZ _⟩,by simp[intOf];omega⟩
     rw[Kq (by rw[hz];exact hlt)]
     by_cases h2:k=p
     ·subst h2;rw[if_pos rfl,HSH.out]
     ·rw[if_neg h2];exact hp.out p (by omega)
    ·obtain rfl:nv=k:=by omega
     go_wp2_with fail
     go_ret2
     rw[HR.out];refine⟨_,rfl,?_,Ao hbW hb⟩
     have hsf:Es E wd=z:=by
      unfold Es;rw[HVV.out,HD.out,HSG.out];refine Fz (by rw[List.length_map,List.length_range,HNV.out,hz]) (fun p h=>?_)
      rw[List.length_map,List.length_range,HNV.out] at h;rw[hp.out p h];unfold gt;rw[List.getD,List.getElem?_map,List.getElem?_range (by rw[HNV.out];exact h)];rfl
     rw[hsf];exact ho.lower (by rw[HBZ.out];have:=hbW.size;omega)
theorem Qh (A:Option Addr) (cap n:Nat) (E:List EdgeP) (A2:Option Addr) (n2 c2:Nat) (wd:List Int) (w:World) (hcap:n<=cap) (hn:n<=9223372036854775807) (hE:EdS w A n E) (hW:InS w A2 n2 wd) :
 Calls Tryz.prog 49 #[.slice A n cap,.slice A2 n2 c2] w (Rz w (Et E wd)):=by
 by_cases h:Fp E=0
 ·by_cases h2:n2=n
  ·have e:Et E wd=if Bq (wdB wd) n2 then ([],3) else (Es E wd,0):=by
    unfold Et;rw[if_neg (by simpa using h),if_neg (by rw[hE.1,hW.1,h2];simp),hW.1]
   rw[e];exact Akw A cap n E A2 n2 c2 wd w hcap hE hW h h2
  ·rw[show Et E wd=([],1) by unfold Et;rw[if_neg (by simpa using h),if_pos (by rw[hE.1,hW.1];exact h2)]]
   exact Akx A cap n E A2 n2 c2 w hcap hn hE h h2
 ·rw[show Et E wd=([],Fp E) by unfold Et;rw[if_pos h]]
  exact Aky A cap n E A2 n2 c2 w hcap hn hE h
end Go.Proofs.YtpbchbcdgikonaaGreat
