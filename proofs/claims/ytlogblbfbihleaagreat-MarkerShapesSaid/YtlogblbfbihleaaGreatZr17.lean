/- Lean texts of the claim. -/
import Derived.Test.YtlogblbfbihleaaGreatZr16
import Derived.Maps.RangeWalk
import Derived.Maps.OwnOps
import Derived.Maps.Views
import Derived.DeepKeys5
import Derived.Laws.BitsLemmas
namespace Go.Proofs.YtlogblbfbihleaaGreat
set_option linter.all false
set_option maxRecDepth 100000
set_option maxHeartbeats 0
open Go.RowKit
variable{a m:Nat}{b p:World}{e:List LP}{f:Exit->Act->World->Prop}{g:Option Addr}{h:Value}{i:LP}{j:TypeId}{k:List Value}{l:Int}{n:Act}{o:Program}
def Gk (s:LP) (b a:List LP):Nat->Int×List LP
 | 0=>(0,a)
 | j+1=>if (Gk s b a j).1≠0 then Gk s b a j else if (Nz s (Qf (lt_ b j))).1≠0 then ((Nz s (Qf (lt_ b j))).1,[]) else (0,(Gk s b a j).2++[(Nz s (Qf (lt_ b j))).2])
def Df (b a:List LP):Nat->Int×List LP
 | 0=>(0,[])
 | k+1=>if (Df b a k).1≠0 then Df b a k else Gk (lt_ b k) a (Df b a k).2 a.length
def Cl (a b:LP):Int×List LP :=
 if (Bb a).1≠0 then ((Bb a).1,[]) else if (Bb b).1≠0 then ((Bb b).1,[])
 else if (Df (Bb a).2 (Bb b).2 (Bb a).2.length).1≠0 then ((Df (Bb a).2 (Bb b).2 (Bb a).2.length).1,[])
 else (0,Eg eqL [] (Gy (Df (Bb a).2 (Bb b).2 (Bb a).2.length).2))
theorem l8{b:List LP}  {x:Int} (h:(Gk i e b a).1=x) (c:x≠0):∀m,(Gk i e b (a+m)).1=x:=by
 intro m;induction m with
 | zero=>exact h
 | succ m ih=>rw[<-Nat.add_assoc,Gk,if_pos (by rw[ih];exact c)];exact ih
theorem l7{b:List LP}  {x:Int} (h:(Df e b a).1=x) (c:x≠0):∀m,(Df e b (a+m)).1=x:=by
 intro m;induction m with
 | zero=>exact h
 | succ m ih=>rw[<-Nat.add_assoc,Df,if_pos (by rw[ih];exact c)];exact ih
theorem Acl(a b:LP):(Nz a b).2.length<=160:=by
 unfold Nz;split
 .simp
 split
 .simp
 split
 .simp
 split
 .simp
 rename_i h;exact Nat.le_of_not_lt h
theorem Ol{s:LP} {ts:List LP} (h:∀t∈e,t.length<=160):∀j,(Gk s ts e j).2.length<=e.length+j/\∀t∈(Gk s ts e j).2,t.length<=160:=by
 intro j;induction j with
 | zero=>exact⟨Nat.le_refl _,h⟩
 | succ j ih =>
   rw[Gk];split
   .exact⟨by omega,ih.2⟩
   split
   .simp
   refine⟨by simp;omega,λt ht=>?_⟩;rcases List.mem_append.1 ht with ht|ht
   .exact ih.2 t ht
   simp at ht;subst ht;exact Acl _ _
theorem Kh{ss ts:List LP}:∀k,(Df ss ts k).2.length<=k*ts.length/\∀t∈(Df ss ts k).2,t.length<=160:=by
 intro k;induction k with
 | zero=>simp[Df]
 | succ k ih =>
   rw[Df];split
   .exact⟨by rw[Nat.add_mul];omega,ih.2⟩
   have:=Ol (s:=lt_ ss k) (ts:=ts) ih.2 ts.length;exact⟨by rw[Nat.add_mul];omega,this.2⟩
theorem br{b:LP} (h:¬(Bb i).1=0):Cl i b=((Bb i).1,[]):=by unfold Cl;rw[if_pos h]
theorem bo{b:LP} (h:(Bb i).1=0) (a:¬(Bb b).1=0):Cl i b=((Bb b).1,[]):=by unfold Cl;rw[if_neg (by simpa using h),if_pos a]
theorem bn{b:LP} (h:(Bb i).1=0) (a:(Bb b).1=0):Cl i b=if (Df (Bb i).2 (Bb b).2 (Bb i).2.length).1≠0 then ((Df (Bb i).2 (Bb b).2 (Bb i).2.length).1,[]) else (0,Eg eqL [] (Gy (Df (Bb i).2 (Bb b).2 (Bb i).2.length).2)):=by unfold Cl;rw[if_neg (by simpa using h),if_neg (by simpa using a)]
theorem U5(v:Value) (a:Nat) (l:List LP) (w:World) (p:l.length<=1000000) (d:∀t∈l,t.length<=1000000) (r:Iw w a v l) :
 Calls Tryz.prog 288 #[v,.func (.func 289) #[] #[]] w λe f=>∃i,e=.returned i/\Iw f a i (Eg eqL [] l)/\w.grownBy f v.ownBlock:=by
 obtain⟨j,h,b,k,n⟩:=r;rcases OwG.form h with⟨rfl,rfl⟩|⟨g,c,rfl,s,u,x,y⟩
 .have:l=[]:=List.eq_nil_of_length_eq_zero (by rw[<-b];rfl);subst this;go_in;go_wp2;go_ret;exact⟨_,rfl,Iw.nil,World.grownBy.refl _ _⟩
 refine(Sw g c j.length a l w (by rw[b];exact p) d b.symm ⟨j,h,b,k,n⟩).mono ?_;rintro e f ⟨m,rfl,z,q,o⟩;exact⟨_,rfl,q,o⟩
theorem G6{w:World}   (d:Be b w) (a:Iw w b.heap.size h e) (f:w.grownBy p h.ownBlock):Be b p:=by
 obtain⟨g,c,_⟩:=a;exact Bk d c f
theorem Iw.alloc{w:World}    (b:Iw w a h e) (o:Obj):Iw (w.alloc o) a h e:=b.keep blA
theorem Oi(A B:Option Addr) (ca cb na nb:Nat) (a b:LP) (w:World) (N:na<=9223372036854775807) (ak:nb<=9223372036854775807) (M:na<=ca) (a8:nb<=cb) (Q:SpS w A na a) (au:SpS w B nb b) :
 Calls Tryz.prog 229 #[.slice A na ca,.slice B nb cb] w (wg w (Cl a b)):=by
 by_cases h1:(Bb a).1=0
 .by_cases h2:(Bb b).1=0
  .have f:=Ar (bn h1 h2);have W:=Dg a;have sB:=Dg b;have HA:=Ar W.2;have HB:=Ar sB.2;replace W:=W.1;replace sB:=sB.1;let⟨d,S⟩:=gN ((Bb a).2)
   let⟨c,T⟩:=gN ((Bb b).2)
   rw[S]at f HA W;rw[T]at f HB sB;have b7:=Ar S;have b8:=Ar T;clear S T;go_in
   go_upto_region 8 with (go_at_call 246;first|(refine(Ei _ _ _ b _ ak a8 (au.keep m)).mono ?_;rintro e L ⟨v2,rfl,I,y⟩;rw[b8.out]at I)|(refine(Ei _ _ _ a _ N M Q).mono ?_;rintro e w1 ⟨v1,rfl,C,m⟩;rw[b7.out]at C))
   obtain⟨A1,c1,rfl,bq,Z,-⟩:=(C.keep y).spss;obtain⟨A2,c2,rfl,bs,a6,-⟩:=I.spss;have hb:=An m y;clear C I m y;let⟨n,O⟩:=gN d.length
   let⟨F,P⟩:=gN c.length
   rw[O]at Z bq W f ⊢;rw[P]at a6 bs sB ⊢;have b6:=Ar O;have u:=Ar P;clear O P;go_wp2;go_loopw [9,34] (λv i wr=>∃k:Nat,k<=n/\i=.int .i64 k/\Hid ((Df d c k).1=0)/\Iw wr L.heap.size v (Df d c k).2/\Be L wr) λ_ i _=>n-(intOf i).toNat
   case atStart=>exact⟨0,Nat.zero_le _,rfl,Ar rfl,Iw.nil,bl0⟩
   obtain⟨k,hk,rfl,hz,J,H⟩:=hrel;by_cases ai:k<n
   .obtain⟨b1,o1,Ak,ck,rfl,bp,e1,e2,e3,e4⟩:=Z.at_ ai;have l1:(lt_ d k).length<=3:=HA.out _ (I9 (by rw[b6.out];exact ai));have o:=Kh (ss:=d) (ts:=c) k;have aw:(Df d c k).2.length<=1681:=Nat.le_trans o.1 (Nat.le_trans (Nat.mul_le_mul (show k<=41 by omega) (show c.length<=41 by rw[u.out];exact sB)) (by omega));have G:=Ar o.2;clear o;generalize c3:(lt_ d k).length=nk at e1 e2 e3 l1;clear c3;have ba:=Aq H e1;clear e1 bp;go_wp2;clear ba;obtain⟨wo,rfl⟩:∃wo:World,wo=wr:=⟨_,rfl⟩
    go_loopw [9,40] (λv i wx=>∃j:Nat,j<=F/\i=.int .i64 j/\Hid ((Gk (lt_ d k) c (Df d c k).2 j).1=0)/\Iw wx L.heap.size v (Gk (lt_ d k) c (Df d c k).2 j).2/\Be L wx) λ_ i _=>F-(intOf i).toNat
    case atStart=>exact⟨0,Nat.zero_le _,rfl,Ar rfl,J,H⟩
    clear J H;obtain⟨j,hj,rfl,V,J,g⟩:=hrel;by_cases ad:j<F
    .obtain⟨b2,o2,Aj,cj,rfl,a7,g1,g2,g3,g4⟩:=a6.at_ ad;have l2:(lt_ c j).length<=3:=HB.out _ (I9 (by rw[u.out];exact ad));generalize ar:(lt_ c j).length=nj at g1 g2 g3 l2;have X:=Ar (show (Qf (lt_ c j)).length=nj by rw[R6,ar]);clear ar;have e5:=Aq g g1;clear g1 a7;have b0:=(Ol (s:=lt_ d k) (ts:=c) G.out j).1;have R:(Gk (lt_ d k) c (Df d c k).2 j).2.length<=1000000:=by omega
     clear b0;by_cases h:(Nz (lt_ d k) (Qf (lt_ c j))).1=0
     .have E:=Ar (show Gk (lt_ d k) c (Df d c k).2 (j+1)=(0,(Gk (lt_ d k) c (Df d c k).2 j).2++[(Nz (lt_ d k) (Qf (lt_ c j))).2]) by rw[Gk,if_neg (by rw[V.out];simp),if_neg (by rw[h];simp)])
      go_wp2_with (first|(go_at_call 284;refine(Q5 _ _ _ (lt_ c j) _ (by omega) (g3.keep g)).mono ?_;rintro e w5 ⟨v5,rfl,r,l⟩;obtain⟨A5,c5,rfl,bt,x,U,-⟩:=OwS.els r;rw[X.out]at x ⊢)|(go_at_call 283;refine(vw _ _ _ _ _ _ (lt_ d k) (Qf (lt_ c j)) _ (by omega) (by omega) (e3.keep (An g l)) x e4 U).mono ?_;rintro e w6 ⟨v6,rfl,D,p⟩;obtain⟨A6,c6,rfl,-,-,-,-⟩:=OwS.els D)|(at_builtin;refine Fo rfl _ _ rfl L.heap.size _ (Gk (lt_ d k) c (Df d c k).2 j).2 rfl (((J.keep l).keep p).alloc _) w6.heap.size 1 _ (Nz (lt_ d k) (Qf (lt_ c j))).2 46 rfl (Bf.new _ _ _) ((ElS.lower (OwS.els D) (An g l).size).keep blA) R (Ao (An (An g l) p) _).size ?_;intro v7 w7 c4 bx cw))
      exact⟨⟨j+1,by omega,by go_num,Ar (by rw[E.out]),by rw[E.out];exact c4,G6 (Ao (An (An g l) p) _) (((J.keep l).keep p).alloc _) bx⟩,by simp[intOf];omega⟩
     have q:((Nz (lt_ d k) (Qf (lt_ c j))).1 != 0)=true:=by simpa using h
     have z:(Df d c n).1=(Nz (lt_ d k) (Qf (lt_ c j))).1:=by
      have a1:(Gk (lt_ d k) c (Df d c k).2 (j+1)).1=(Nz (lt_ d k) (Qf (lt_ c j))).1:=by rw[Gk,if_neg (by rw[V.out];simp),if_pos h]
      have a2:=l8 a1 h (F-(j+1));rw[show j+1+(F-(j+1))=F by omega]at a2;have a3:(Df d c (k+1)).1=(Nz (lt_ d k) (Qf (lt_ c j))).1:=by rw[Df,if_neg (by rw[hz.out];simp),u.out];exact a2
      have a4:=l7 a3 h (n-(k+1))
      rwa [show k+1+(n-(k+1))=n by omega] at a4
     have K:Cl a b=((Nz (lt_ d k) (Qf (lt_ c j))).1,[]):=by rw[f.out,if_pos (by rw[z];exact h),z]
     have Y:=Ar K;clear K z
     go_wp2_with (first|(go_at_call 284;refine(Q5 _ _ _ (lt_ c j) _ (by omega) (g3.keep g)).mono ?_;rintro e w5 ⟨v5,rfl,r,l⟩;obtain⟨A5,c5,rfl,bt,x,U,-⟩:=OwS.els r;rw[X.out]at x ⊢)|(go_at_call 283;refine(vw _ _ _ _ _ _ (lt_ d k) (Qf (lt_ c j)) _ (by omega) (by omega) (e3.keep (An g l)) x e4 U).mono ?_;rintro e w6 ⟨v6,rfl,D,p⟩))
     go_ret2
     exact⟨_,by rw[Y.out];rfl,by rw[Y.out];exact Iw.nil,An hb (An (An g l) p)⟩
    obtain rfl:F=j:=by omega
    have e9:=Ar (show Df d c (k+1)=Gk (lt_ d k) c (Df d c k).2 F by rw[Df,if_neg (by rw[hz.out];simp),u.out]);go_wp2;exact⟨⟨k+1,by omega,by go_num,Ar (by rw[e9.out];exact V.out),by rw[e9.out];exact J,g⟩,by simp[intOf];omega⟩
   obtain rfl:n=k:=by omega
   have o:=Kh (ss:=d) (ts:=c) n;have aw:(Df d c n).2.length<=1681:=Nat.le_trans o.1 (Nat.le_trans (Nat.mul_le_mul W (show c.length<=41 by rw[u.out];exact sB)) (by omega));have G:=Ar (show ∀t∈(Df d c n).2,t.length<=1000000 from λt ht=>Nat.le_trans (o.2 t ht) (by omega));have Y:=Ar (show Cl a b=(0,Eg eqL [] (Gy (Df d c n).2)) by rw[f.out,if_neg (by rw[hz.out];simp)]);clear o
   go_wp2_with (first|(go_at_call 285;refine rR (kb _ L.heap.size (Df d c n).2 _ (by omega) G.out J) λw5⟨r,bu⟩=>?_)|(go_at_call 288;refine(U5 _ L.heap.size (Gy (Df d c n).2) _ (by rw[Lx];omega) (λt ht=>G.out t (Qs.1 ht)) r).mono ?_;rintro e w6 ⟨v6,rfl,D,bw⟩))
   go_ret2
   exact⟨v6,by rw[Y.out];rfl,by rw[Y.out];exact Iw.lower D hb.size,An hb (G6 (G6 H J bu) r bw)⟩
  have K:=Ar (bo h1 h2);have q2:((Bb b).1 != 0)=true:=by simpa using h2
  go_in
  go_wp2_with (go_at_call 246;first|(refine(Ei _ _ _ b _ ak a8 (au.keep m)).mono ?_;rintro e L ⟨v2,rfl,I,y⟩)|(refine(Ei _ _ _ a _ N M Q).mono ?_;rintro e w1 ⟨v1,rfl,C,m⟩))
  go_ret2
  exact⟨_,by rw[K.out];rfl,by rw[K.out];exact Iw.nil,An m y⟩
 have K:=Ar (br (b:=b) h1);have q2:((Bb a).1 != 0)=true:=by simpa using h1
 go_in
 go_wp2_with (go_at_call 246;refine(Ei _ _ _ a _ N M Q).mono ?_;rintro e w1 ⟨v1,rfl,C,m⟩)
 go_ret2
 exact⟨_,by rw[K.out];rfl,by rw[K.out];exact Iw.nil,m⟩
section
open Go.RowKit Go.Maps
section
variable {P : Program} {α : Type}
structure KeyRep (P:Program) (k:TypeId) (key:α->Value) (ok:α->Prop) (kl:α->Lit):Prop where
 law:Keyed P k
 of:∀x,ok x->keyOf P k (key x)=some (kl x)
 inv:∀v l,keyOf P k v=some l->∃x,v=key x/\ok x
 inj:∀x y,key x=key y->x=y
theorem KeyRep.one {k:TypeId} {key:α->Value} {ok:α->Prop} {kl:α->Lit} (K:KeyRep P k key ok kl) {x y:α} (hx:ok x) (hy:ok y) (h:kl x=kl y):x=y :=
 K.inj x y (K.law.inj (K.of x hx) (by rw[h];exact K.of y hy))
def Dd (P:Program) (k e:TypeId) (ok:α->Prop) (kl:α->Lit) (w:World) (b n:Nat) (S:List α):Prop :=
 ∃D:DataW Unit,w.ownsMap P k (plainElem P e) b n D/\(∀x∈S,ok x)/\(∀x,ok x->(x∈S->∀z,D.atKey (kl x) z=.lit (.bool true))/\(¬x∈S->Maps.has D (kl x)=false))
variable {k e t : TypeId} {key : α -> Value} {ok : α -> Prop} {kl : α -> Lit} {w : World} {b n : Nat} {S : List α}
theorem Dd.made (w:World):Dd P k e ok kl (w.alloc (.map #[] 0)) w.heap.size 0 ([]:List α) :=
 ⟨.map [],World.ownsMap_made w P k _,by simp,fun x _=>⟨by simp,fun _=>rfl⟩⟩
theorem Dd.kept {w':World} {row:Option Nat} (h:Dd P k e ok kl w b n S) (hg:w.grownBy w' row) (hne:some b≠row):Dd P k e ok kl w' b n S:=by
 obtain⟨D,h1,h2⟩:=h;exact⟨D,h1.kept hg hne,h2⟩
theorem Dd.alloc (h:Dd P k e ok kl w b n S) (o:Obj):Dd P k e ok kl (w.alloc o) b n S:=h.kept (World.grownBy_alloc w o none) (by simp)
theorem Dd.keep {w':World} (h:Dd P k e ok kl w b n S) (hb:Be w w'):Dd P k e ok kl w' b n S :=
 h.kept (row:=none) ⟨hb.os,hb.tape,hb.output,hb.size,fun k hk _=>hb.block k hk⟩ (by simp)
theorem Dd.mono {m:Nat} (h:Dd P k e ok kl w b n S) (hm:n<=m):Dd P k e ok kl w b m S:=by
 obtain⟨D,h1,h2⟩:=h;exact⟨D,h1.mono hm,h2⟩
theorem Dd.lt (h:Dd P k e ok kl w b n S):b<w.heap.size:=by obtain⟨D,h1,_⟩:=h;exact h1.lt
theorem Dd.isMap (h:Dd P k e ok kl w b n S):∃es c,w.heap[b]? = some (.map es c):=by
 obtain⟨D,⟨es,c,h1,_⟩,_⟩:=h;exact⟨es,c,h1⟩
theorem Fa {e:TypeId} (he:P.underlying e=some .bool) {v:Value} {z:DataW Unit×List MemPlace} (h:plainElem P e v=some z):∃c,v=.bool c/\z=(.lit (.bool c),[]):=by
 unfold plainElem at h;rw[he] at h;cases v<;>simp at h
 exact⟨_,rfl,h.symm⟩
theorem Dd.get [DecidableEq α] (K:KeyRep P k key ok kl) (ht:P.underlying t=some (.map k e)) (he:P.underlying e=some .bool) (hz:(zeroValue e).run P w=.ok (.bool false) w) (h:Dd P k e ok kl w b n S) {x:α} (hx:ok x) :
 (Instr.lookup t (.map (some b)) (key x) false).run P w=.ok (.bool (decide (x∈S))) w:=by
 obtain⟨D,h1,h2,h3⟩:=h;obtain⟨v,ps,hrun,hR⟩:=h1.lookup K.law ht hz (plainElem_bool he false) (K.of x hx);obtain⟨c,rfl,hc⟩:=Fa he hR;injection hc with hc _
 by_cases hxS:x∈S
 ·rw[(h3 x hx).1 hxS] at hc
  injection hc with hc;injection hc with hc
  rw[hrun,<-hc,decide_eq_true hxS]
 ·rw[Maps.atKey_of_not_has ((h3 x hx).2 hxS)] at hc
  injection hc with hc;injection hc with hc
  rw[hrun,<-hc,decide_eq_false hxS]
theorem Dd.put (K:KeyRep P k key ok kl) (ht:P.underlying t=some (.map k e)) (he:P.underlying e=some .bool) (h:Dd P k e ok kl w b n S) (hn:n<maxLen) {x:α} (hx:ok x) :
 ∃w',(Instr.mapUpdate t (.map (some b)) (key x) (.bool true)).run P w=.ok () w'/\Dd P k e ok kl w' b (n+1) (S++[x])/\w.grownBy w' (some b):=by
 obtain⟨D,h1,h2,h3⟩:=h;obtain⟨w',hrun,r1,r2⟩:=h1.update K.law ht hn (K.of x hx) (plainElem_bool he true);have hM:IsMap D:=by obtain⟨es,c,_,_,_,rfl⟩:=h1;exact⟨_,rfl⟩
 refine⟨w',hrun,⟨_,r1,fun y hy=>?_,fun y hy=>⟨fun hyS z=>?_,fun hyS=>?_⟩⟩,r2⟩
 ·rcases List.mem_append.1 hy with h|h
  ·exact h2 y h
  ·simp at h;subst h;exact hx
 ·by_cases e1:y=x
  ·subst e1;exact Maps.atKey_put_same hM (K.law.key (K.of y hx)) _ _
  ·rw[Maps.atKey_put_other (fun h=>e1 (K.one hy hx h))]
   rcases List.mem_append.1 hyS with h|h
   ·exact(h3 y hy).1 h z
   ·simp at h;exact absurd h e1
 ·have e1:y≠x:=fun h=>hyS (by rw[h];simp)
  rw[Maps.has_put_other (fun h=>e1 (K.one hy hx h))]
  exact(h3 y hy).2 (fun h=>hyS (List.mem_append_left _ h))
theorem D8 {ops:Array Oper} {rest:List Oper} {o:Oper} {a:Act} {Q:Exit->Act->World->Prop} (hg:o.guard=none) (m x v:Operand) (t:TypeId) (hop:o.op=Op.mapUpdate t m x v)
 (K:KeyRep P k key ok kl) (ht:P.underlying t=some (.map k e)) (he:P.underlying e=some .bool) (hm:a.eval m=.map (some b)) (h:Dd P k e ok kl w b n S) (hn:n<maxLen) (p:α) (hp:ok p) (hx:a.eval x=key p) (hv:a.eval v=.bool true)
 (hK:∀w',Dd P k e ok kl w' b (n+1) (S++[p])->w.grownBy w' (some b)->wpList P ops Q rest (a.put o.dst undef) w'):wpList P ops Q (o::rest) a w:=by
 refine wpList_plain hg fun K' hK'=>?_
 obtain⟨w',hrun,r1,r2⟩:=h.put K ht he hn hp;unfold Oper.wp;simp[execOp,hop,hm,hx,hv,hrun,Result.andThen];exact hK' _ _ (hK w' r1 r2)
def Py (P:Program) (k e:TypeId) (ok:α->Prop) (kl:α->Lit) (w:World) (b r n:Nat) (S L:List α) (cnt:Nat):Prop :=
 ∃(D:DataW Unit) (left:Lit->Bool),w.ranges P k (plainElem P e) b r n D left cnt/\(∀x∈S,ok x)/\L.Nodup/\(∀x∈L,x∈S)/\(∀x,ok x->(left (kl x)=true↔x∈S/\¬x∈L))/\(∀x,ok x->Maps.has D (kl x)=true->x∈S)/\(∀l,left l=true->Maps.has D l=true)
theorem Py.kept {w':World} {row:Option Nat} {r:Nat} {L:List α} {cnt:Nat} (h:Py P k e ok kl w b r n S L cnt) (hg:w.grownBy w' row) (hb':some b≠row) (hr':some r≠row):Py P k e ok kl w' b r n S L cnt:=by
 obtain⟨D,left,h1,h2⟩:=h;exact⟨D,left,h1.kept hg hb' hr',h2⟩
theorem Py.keep {w':World} {r:Nat} {L:List α} {cnt:Nat} (h:Py P k e ok kl w b r n S L cnt) (hb:Be w w'):Py P k e ok kl w' b r n S L cnt :=
 h.kept (row:=none) ⟨hb.os,hb.tape,hb.output,hb.size,fun k hk _=>hb.block k hk⟩ (by simp) (by simp)
theorem Py.left {r:Nat} {L:List α} {cnt:Nat} (h:Py P k e ok kl w b r n S L cnt):w.rangeLeft b r=cnt:=by
 obtain⟨D,left,h1,_⟩:=h;exact h1.left_eq
theorem N0 {ops:Array Oper} {rest:List Oper} {o:Oper} {a:Act} {Q:Exit->Act->World->Prop} (hg:o.guard=none) (m:Operand) (t:TypeId) (hop:o.op=Op.range t m)
 (K:KeyRep P k key ok kl) (ht:P.underlying t=some (.map k e)) (hm:a.eval m=.map (some b)) (h:Dd P k e ok kl w b n S)
 (hK:∀w' cnt,Py P k e ok kl w' b w.heap.size n S [] cnt->w.grownBy w' none->w'.heap.size=w.heap.size+1->wpList P ops Q rest (a.put o.dst (.pointer (some ⟨w.heap.size,0,none⟩))) w'):wpList P ops Q (o::rest) a w:=by
 obtain⟨D,h1,h2,h3⟩:=h;refine wpList_range_own w hg m t hop k e K.law ht (plainElem P e) b n D hm h1 fun w' hr hgr hsz=>?_
 refine hK w' _ ⟨D,_,hr,h2,List.nodup_nil,by simp,fun x hx=>⟨fun hh=>⟨?_,by simp⟩,fun hh=>?_⟩,fun x hx hh=>?_,fun l hl=>hl⟩ hgr hsz
 ·by_cases hS:x∈S
  ·exact hS
  ·rw[(h3 x hx).2 hS] at hh;cases hh
 ·exact Maps.has_true_of_atKey ((h3 x hx).1 hh.1)
 ·by_cases hS:x∈S
  ·exact hS
  ·rw[(h3 x hx).2 hS] at hh;cases hh
structure NextIs (P:Program) (k e:TypeId) (key:α->Value) (ok:α->Prop) (kl:α->Lit) (w:World) (b r n:Nat) (S L:List α) (cnt:Nat) where
 x:α
 c:Bool
 w':World
 cnt':Nat
 inS:x∈S
 new:¬x∈L
 rg:Py P k e ok kl w' b r n S (L++[x]) cnt'
 lt:cnt'<cnt
 gr:w.grownBy w' (some r)
 sz:w'.heap.size=w.heap.size
 en:(Instr.entry (.pointer (some ⟨r,0,none⟩))).run P w'=.ok (.tuple #[key x,.bool c]) w'
theorem Qc {ops:Array Oper} {rest:List Oper} {o:Oper} {a:Act} {Q:Exit->Act->World->Prop} {r:Nat} {L:List α} {cnt:Nat} (hg:o.guard=none) (it:Operand) (hop:o.op=Op.next it false)
 (K:KeyRep P k key ok kl) (he:P.underlying e=some .bool) (hit:a.eval it=.pointer (some ⟨r,0,none⟩)) (h:Py P k e ok kl w b r n S L cnt)
 (hDone:Hid (∀x,x∈S↔x∈L)->wpList P ops Q rest (a.put o.dst (.tuple #[.bool false])) w)
 (hMore:∀q:NextIs P k e key ok kl w b r n S L cnt,wpList P ops Q rest (a.put o.dst (.tuple #[.bool true,key q.x,.bool q.c])) q.w'):wpList P ops Q (o::rest) a w:=by
 obtain⟨D,left,h1,h2,h3,h4,h5,h6,h7⟩:=h;refine wpList_next_ranges w hg it hop k K.law (plainElem P e) key Value.bool (fun v l hv=>by obtain⟨x,hx,_⟩:=K.inv v l hv;exact⟨x,hx⟩) (fun v y hv=>by obtain⟨c,hc,_⟩:=Fa he hv;exact⟨c,hc⟩) b r n D left cnt hit h1 (fun _ hl=>hDone (Ar fun x=>⟨fun hx=>?_,h4 x⟩)) ?_
 ·have:=(h5 x (h2 x hx))
  rw[hl] at this;by_cases hL:x∈L
  ·exact hL
  ·exact absurd (this.2 ⟨hx,hL⟩) (by simp)
 ·intro x c l y w' cnt' hkey hlk hRv hat hrg hlt hgr hsz hen
  obtain⟨x',ex,hox⟩:=K.inv _ _ hkey;have:=K.inj _ _ ex;subst this
  have hkl:l=kl x:=by
   have:=K.of x hox;rw[hkey] at this;injection this
  subst hkl;obtain⟨hxS,hxL⟩:=(h5 x hox).1 hlk;refine hMore ⟨x,c,w',cnt',hxS,hxL,⟨D,_,hrg,h2,?_,?_,?_,h6,?_⟩,hlt,hgr,hsz,hen⟩
  ·rw[List.nodup_append]
   exact⟨h3,by simp,by simp;intro a ha e;exact hxL (e ▸ ha)⟩
  ·intro z hz
   rcases List.mem_append.1 hz with h|h
   ·exact h4 z h
   ·simp at h;subst h;exact hxS
  ·intro z hz
   simp only[Bool.and_eq_true,Bool.not_eq_true'];rw[h5 z hz];constructor
   ·rintro⟨⟨q1,q2⟩,q3⟩
    refine⟨q1,fun q=>?_⟩
    rcases List.mem_append.1 q with q|q
    ·exact q2 q
    ·simp at q;subst q
     rw[WideAt.sameKey_self (K.law.key hkey)] at q3;cases q3
   ·rintro⟨q1,q2⟩
    refine⟨⟨q1,fun q=>q2 (List.mem_append_left _ q)⟩,?_⟩
    refine Maps.sameKey_ne fun q=>q2 ?_
    rw[K.one hz hox q];simp
  ·intro l hl
   simp only[Bool.and_eq_true] at hl;exact h7 l hl.1
end
theorem O8:laidOutB Tryz.prog=true:=by kernel_rfl
def inR (n:Int):Prop := -9223372036854775808<=n/\n<=9223372036854775807
theorem Pe{n:Int} (h:inR n):(Lit.int .i64 n).wf=true:=by
 unfold inR at h;exact WalkArith.wf_i64 h
theorem Acu(h:(Lit.int .i64 l).wf=true):inR l:=by
 unfold inR;have a:IntKind.i64.min = -9223372036854775808:=by decide
 have b:IntKind.i64.max=9223372036854775807:=by decide
 simp only[Lit.wf,Bool.and_eq_true,decide_eq_true_eq,a,b]at h;exact h
def okS (p:Int×Int):Prop:=inR p.1/\inR p.2
def Af2 (p:Int×Int):Value:=.agg #[p.1,p.2]
def klS (p:Int×Int):Lit:=.string (keyBytes [.int .i64 p.1,.int .i64 p.2])
theorem Qm:∃m,Tryz.prog.types.size+1=m+5:=⟨Tryz.prog.types.size-4,by have:10<=Tryz.prog.types.size:=of_decide_eq_true (by kernel_rfl);omega⟩
theorem Ahx:(match Tryz.prog.underlying 60 with|some (.array _ _)|some (.struct _)=>true|_=>false)=true:=by rw[Tryz.underlying60]
theorem Aos:(60:TypeId)<Tryz.prog.types.size:=of_decide_eq_true (by kernel_rfl)
theorem Apc:Keyed Tryz.prog 60:=Keyed.of_law (deep_law_laid (P:=Tryz.prog) (k:=60) O8 (m:=3) (by omega) Aos (by kernel_rfl) Ahx)
theorem cellsI:Tryz.prog.cellsOf 3=1:=by kernel_rfl
theorem Ps:Tryz.prog.cellsOf 60=2:=by kernel_rfl
theorem Amu:Tryz.prog.keyType 60=true:=by kernel_rfl
theorem Af1(p:Int×Int) (h:okS p):keyOf Tryz.prog 60 (Af2 p)=some (klS p):=by
 obtain⟨m,c⟩:=Qm;have a:=Pe h.1;have b:=Pe h.2;unfold keyOf Af2 klS;rw[c];simp[Tryz.underlying60,Amu,Value.formed,Ps,Program.keyLits,Tryz.underlying3,cellsI,Value.cells,a,b]
section
variable {P : Program} {t : TypeId} {d : Nat} {cs : List Value} {L : List Lit}
theorem Uo (hu:P.underlying t=some (.int .i64)) {a:Value} (h:P.keyLits (d+1) t [a]=some L):∃n,a=.int .i64 n/\inR n:=by
 unfold Program.keyLits at h;rw[hu] at h;cases a<;>simp at h
 obtain⟨⟨rfl,h1⟩,_⟩:=h;exact⟨_,rfl,Acu h1⟩
theorem Ajs (hu:P.underlying t=some .bool) {a:Value} (h:P.keyLits (d+1) t [a]=some L):∃n,a=.bool n:=by
 unfold Program.keyLits at h;rw[hu] at h;cases a<;>simp at h
 exact⟨_,rfl⟩
theorem qt {f1 f2:Field} (hu:P.underlying t=some (.struct #[f1,f2])) (h:P.keyLits (d+1) t cs=some L) :
 cs.length=P.cellsOf t/\(∃L1,P.keyLits d f1.type ((cs.drop f1.offset).take (P.cellsOf f1.type))=some L1)/\∃L2,P.keyLits d f2.type ((cs.drop f2.offset).take (P.cellsOf f2.type))=some L2:=by
 unfold Program.keyLits at h;rw[hu] at h;simp only at h;split at h
 ·rename_i hc
  refine⟨hc.1,?_⟩;cases h1:P.keyLits d f1.type ((cs.drop f1.offset).take (P.cellsOf f1.type)) with
  | none=>simp[h1] at h
  | some L1 =>
    cases h2:P.keyLits d f2.type ((cs.drop f2.offset).take (P.cellsOf f2.type)) with
    | none=>simp[h1,h2] at h
    | some L2=>exact⟨⟨L1,rfl⟩,⟨L2,rfl⟩⟩
 ·cases h
theorem Y6 {f1 f2 f3:Field} (hu:P.underlying t=some (.struct #[f1,f2,f3])) (h:P.keyLits (d+1) t cs=some L) :
 cs.length=P.cellsOf t/\(∃L1,P.keyLits d f1.type ((cs.drop f1.offset).take (P.cellsOf f1.type))=some L1)/\(∃L2,P.keyLits d f2.type ((cs.drop f2.offset).take (P.cellsOf f2.type))=some L2)/\∃L3,P.keyLits d f3.type ((cs.drop f3.offset).take (P.cellsOf f3.type))=some L3:=by
 unfold Program.keyLits at h;rw[hu] at h;simp only at h;split at h
 ·rename_i hc
  refine⟨hc.1,?_⟩;cases h1:P.keyLits d f1.type ((cs.drop f1.offset).take (P.cellsOf f1.type)) with
  | none=>simp[h1] at h
  | some L1 =>
    cases h2:P.keyLits d f2.type ((cs.drop f2.offset).take (P.cellsOf f2.type)) with
    | none=>simp[h1,h2] at h
    | some L2 =>
      cases h3:P.keyLits d f3.type ((cs.drop f3.offset).take (P.cellsOf f3.type)) with
      | none=>simp[h1,h2,h3] at h
      | some L3=>exact⟨⟨L1,rfl⟩,⟨L2,rfl⟩,⟨L3,rfl⟩⟩
 ·cases h
end
theorem Anw(h:k.length=2):∃a b,k=[a,b]:=by
 match k,h with
 | [a,b],_=>exact⟨a,b,rfl⟩
theorem Apa(h:k.length=6):∃a b c d e f,k=[a,b,c,d,e,f]:=by
 match k,h with
 | [a,b,c,d,e,f],_=>exact⟨a,b,c,d,e,f,rfl⟩
theorem Adx{d:Nat}  {L:List Lit} (h:Tryz.prog.keyLits (d+2) 60 k=some L):∃x y,k=[.int .i64 x,.int .i64 y]/\inR x/\inR y:=by
 let⟨f,⟨j,c⟩,⟨l,e⟩⟩:=qt Tryz.underlying60 h;rw[Ps]at f;rw[cellsI]at c e;obtain⟨a,b,rfl⟩:=Anw f;simp only[List.drop_zero,List.drop_succ_cons,List.take_succ_cons,List.take_zero]at c e;obtain⟨x,rfl,g⟩:=Uo (P:=Tryz.prog) Tryz.underlying3 c;obtain⟨y,rfl,i⟩:=Uo (P:=Tryz.prog) Tryz.underlying3 e;exact⟨x,y,rfl,g,i⟩
theorem Aan(v:Value) (l:Lit) (h:keyOf Tryz.prog 60 v=some l):∃p,v=Af2 p/\okS p:=by
 obtain⟨m,e⟩:=Qm;obtain⟨f,L,rfl,b,rfl⟩:=keyOf_top (P:=Tryz.prog) (k:=60) Ahx h;rw[e]at b;let⟨x,y,a,c,d⟩:=Adx b;refine⟨(x,y),?_,c,d⟩;unfold Af2;rw[show f=#[.int .i64 x,.int .i64 y] by apply Array.ext';simpa using a]
theorem y7:KeyRep Tryz.prog 60 Af2 okS klS where
 law:=Apc
 of:=Af1
 inv:=Aan
 inj x y h:=by
  unfold Af2 at h;injection h with h
  injection h with h
  simp at h;exact Prod.ext h.1 h.2
end
section
open Go.RowKit Go.Maps
section
variable {α : Type} [DecidableEq α]
def uniq:List α->List α
 | []=>[]
 | x::l=>if x∈l then uniq l else x::uniq l
theorem Sa {l:List α} {x:α}:x∈uniq l↔x∈l:=by
 induction l with
 | nil=>simp[uniq]
 | cons a l ih =>
   unfold uniq;split
   ·rename_i h
    rw[ih];constructor
    ·exact fun h=>List.mem_cons_of_mem _ h
    ·intro h';rcases List.mem_cons.1 h' with rfl|h'
     ·exact h
     ·exact h'
   ·rw[List.mem_cons,List.mem_cons,ih]
theorem eh (l:List α):(uniq l).Nodup:=by
 induction l with
 | nil=>exact List.nodup_nil
 | cons a l ih =>
   unfold uniq;split
   ·exact ih
   ·rename_i h
    rw[List.nodup_cons];exact⟨fun h'=>h (Sa.1 h'),ih⟩
theorem Wd {l m:List α} (hl:l.Nodup) (hm:m.Nodup) (h:∀x,x∈l↔x∈m):l.Perm m:=by
 induction l generalizing m with
 | nil =>
   have:m=[]:=by
    cases m with
    | nil=>rfl
    | cons a m=>exact absurd ((h a).2 (by simp)) (by simp)
   rw[this]
 | cons a l ih =>
   have ha:a∈m:=(h a).1 (by simp)
   rw[List.nodup_cons] at hl;refine(List.Perm.cons a (ih hl.2 (hm.erase a) fun x=>?_)).trans (List.perm_cons_erase ha).symm
   rw[hm.mem_erase_iff];constructor
   ·intro hx
    exact⟨fun e=>hl.1 (e ▸ hx),(h x).1 (List.mem_cons_of_mem _ hx)⟩
   ·rintro⟨h1,h2⟩
    rcases List.mem_cons.1 ((h x).2 h2) with e|h'
    ·exact absurd e h1
    ·exact h'
end
theorem ah{m:LP} (h:i.Perm m):Ez i=Ez m:=by
 unfold Ez;refine List.Perm.eq_of_pairwise (le:=λx y=>(!ltOf H6 y x)=true) ?_ ?_ ?_ ((List.mergeSort_perm _ _).trans (h.trans (List.mergeSort_perm _ _).symm))
 .intro a b _ _ d e;exact Aij a b (by simpa using e) (by simpa using d)
 all_goals
  exact List.pairwise_mergeSort (λa b c d e=>by
   have:=Ano.ntrans c b a (by simpa using e) (by simpa using d);simpa using this) (λa b=>by
   rw[ltS,ltS];unfold G0;simp;omega) _
def Rs (a:List LP):LP:=Ez ((uniq a.flatten).filter λp=>!Cs a p)
def Eh (a b:LP):Int×LP:=if (Cl a b).1≠0 then ((Cl a b).1,[]) else (0,Rs (Cl a b).2)
theorem Ag9(a b:LP):∀p∈(Nz a b).2,Cc 4194304 p=false:=by
 unfold Nz;split
 .simp
 split
 .simp
 split
 .simp
 split
 .simp
 rename_i h _;intro p d;obtain⟨i,c,rfl⟩:=rk d;cases ho:Cc 4194304 (gt ((G2 (Gw (Dr a).2 (Dr b).2 (Dr a).2.length)).getD []) i) with
 | false=>rfl
 | true=>exact absurd (Bp.iff.2 ⟨i,c,ho⟩) h
theorem zc{a:List LP} (h:∀t∈a,∀p∈t,Cc 4194304 p=false):∀j,∀t∈(Gk i e a j).2,∀p∈t,Cc 4194304 p=false:=by
 intro j;induction j with
 | zero=>exact h
 | succ j ih =>
   rw[Gk];split
   .exact ih
   split
   .simp
   intro t ht;rcases List.mem_append.1 ht with ht|ht
   .exact ih t ht
   simp at ht;subst ht;exact Ag9 _ _
theorem y8{ss ts:List LP}:∀k,∀t∈(Df ss ts k).2,∀p∈t,Cc 4194304 p=false:=by
 intro k;induction k with
 | zero=>simp[Df]
 | succ k ih =>
   rw[Df];split
   .exact ih
   exact zc ih _
theorem Abo{b:Type} {c:b->b->Bool} {l:List b} {d:b}:∀(k:Nat),k<=l.length->∀x∈Lr c l d k,x∈l:=by
 intro k;induction k with
 | zero=>simp[Lr]
 | succ k ih =>
   intro e x a;rw[Lr]at a;split at a
   .exact ih (by omega) x a
   rcases List.mem_append.1 a with a|a
   .exact ih (by omega) x a
   simp at a;subst a;simp[show k<l.length by omega]
theorem ue{a:Type} {b:a->a->Bool} {l:List a} {d x:a} (h:x∈Eg b d l):x∈l:=Abo l.length (Nat.le_refl _) x h
theorem Oj(a b:LP):(Cl a b).2.length<=1681/\∀t∈(Cl a b).2,t.length<=160/\∀p∈t,Cc 4194304 p=false:=by
 unfold Cl;split
 .simp
 split
 .simp
 split
 .simp
 have c:=Kh (ss:=(Bb a).2) (ts:=(Bb b).2) (Bb a).2.length;have d:=y8 (ss:=(Bb a).2) (ts:=(Bb b).2) (Bb a).2.length;refine⟨?_,λt ht=>?_⟩
 .refine Nat.le_trans (Su _) ?_;rw[Lx];exact Nat.le_trans c.1 (Nat.le_trans (Nat.mul_le_mul (Dg a).1 (Dg b).1) (by omega))
 have:=Qs.1 (ue ht);exact⟨c.2 t this,d t this⟩
theorem Q4{p:Int×Int} (h:Cc 4194304 p=false):okS p:=by
 unfold Cc at h;simp at h;unfold okS inR;omega
theorem r9(h:a<e.length):(e.take (a+1)).flatten=(e.take a).flatten++lt_ e a:=by
 rw[List.take_succ_eq_append_getElem h,List.flatten_append];simp[lt_,h]
theorem Ya{w:World}  (c:Be b w) (d:w.grownBy p (some a)) (h:b.heap.size<=a):Be b p :=
 Below.grown c d c.size λk e=>by cases e;exact h
theorem Qb:∀w,(zeroValue 4).run Tryz.prog w=.ok (.bool false) w:=λ_=>by kernel_rfl
theorem OwG.notMap{d:Type}   {c:d->List Value} {w:World} {b:Nat}  {l:List d} (n:OwG j a c w m h l) (o:∀f t k,w.heap[b]? ≠ some (.cells f t k)):h.ownBlock≠some b:=by
 rcases n.2 with⟨rfl,_⟩|⟨g,e,i,rfl,_,p,_⟩
 .simp[Value.ownBlock]
 intro j;have:g=b:=by simpa[Value.ownBlock] using j
 subst this;exact o _ _ _ p
theorem Py.noCells{i:Type}  {e:TypeId} {ok:i->Prop} {q:i->Lit} {w:World} {n:Nat} {S L:List i} {f:Nat} (h:Py o j e ok q w a m n S L f):(∀b t c,w.heap[a]? ≠ some (.cells b t c))/\(∀b t c,w.heap[m]? ≠ some (.cells b t c))/\a<w.heap.size/\m<w.heap.size:=by
 obtain⟨D,left,⟨r,d,g,p,c0,k,_,_,_,l,_⟩,_⟩:=h;refine⟨?_,?_,D9 k,D9 l⟩
 .intro b t c h;rw[k]at h;cases h
 intro b t c h;rw[l]at h;cases h
theorem Py.small{f:Type}  {e:TypeId} {ok:f->Prop} {l:f->Lit} {w:World} {n:Nat} {S L:List f} {b:Nat} (h:Py o j e ok l w a m n S L b):b<=n:=by
 obtain⟨D,left,⟨p,c,d,g,c0,q,_,i,_,_,_,k,_⟩,_⟩:=h;rw[<-k];refine Nat.le_trans ?_ i;unfold leftOf;exact Array.size_filter_le
theorem Ago:∀args w,(callFunc 231 args).run Tryz.prog w=.ok (.enter 231 args) w:=by
 intro args w
 kernel_rfl
theorem To(A B:Option Addr) (ca cb na nb:Nat) (a b:LP) (w:World) (bd:na<=9223372036854775807) (bl:nb<=9223372036854775807) (b7:na<=ca) (b8:nb<=cb) (bu:SpS w A na a) (bw:SpS w B nb b) :
 Calls Tryz.prog 179 #[.slice A na ca,.slice B nb cb] w (Xh w (Eh a b)):=by
 by_cases h1:(Cl a b).1=0
 .have z:=Oj a b;let⟨d,I⟩:=gN ((Cl a b).2)
  have hW:=Ar (show Eh a b=(0,Rs d) by unfold Eh;rw[if_neg (by simpa using h1),I]);rw[I]at z;have c7:=Ar I;have da:=z.1;have c6:=Ar z.2;have K:=Ar (show ∀t∈d,t.length<=1000000 from λt ht=>Nat.le_trans (z.2 t ht).1 (by omega));clear I z;have cw:=@run_makeMap Tryz.prog;go_in
  go_upto_region 5 with (go_at_call 229;refine(Oi _ _ _ _ _ _ a b _ bd bl b7 b8 bu bw).mono ?_;rintro e g ⟨v1,rfl,H,G⟩;rw[c7.out]at H)
  clear cw;obtain⟨A1,c1,rfl,ch,F,-⟩:=H.spss;generalize bq:d.length=nr at F ch da ⊢;have T:=Ar bq;clear bq H;let⟨J,W⟩:∃J,J=g.heap.size:=⟨_,rfl⟩
  have bc:Dd Tryz.prog 60 4 okS klS (g.alloc (.map #[] 0)) J 0 []:=by rw[W];exact Dd.made g
  have b3:g.heap.size<=J:=by omega
  rw[<-W];have au:=Ar bc;have ak:=Ar (Ao (Below.refl g.heap.size g) (.map #[] 0));clear bc W;go_wp2;go_loopw [27] (λi wr=>∃k:Nat,k<=nr/\i=.int .i64 k/\Dd Tryz.prog 60 4 okS klS wr J (k*160) (d.take k).flatten/\Be g wr) λi _=>nr-(intOf i).toNat
  case atStart=>exact⟨0,Nat.zero_le _,rfl,au.out.mono (Nat.zero_le _),ak.out⟩
  clear au ak;obtain⟨k,hk,rfl,Q,n⟩:=hrel;by_cases a8:k<nr
  .obtain⟨b1,o1,Ak,ck,rfl,cg,e1,e2,e3,e4⟩:=F.at_ a8;have HT:=Ar (c6.out _ (I9 (ls:=d) (k:=k) (by rw[T.out];exact a8)));have l1:(lt_ d k).length<=160:=HT.out.1;generalize bp:(lt_ d k).length=nk at e1 e2 e3 l1;have aw:=Ar bp;clear bp;have cc:=Aq n e1;clear e1 cg;go_wp2;clear cc;obtain⟨wo,rfl⟩:∃wo:World,wo=wr:=⟨_,rfl⟩
   go_loopw [33] (λi S=>∃j:Nat,j<=nk/\i=.int .i64 j/\Dd Tryz.prog 60 4 okS klS S J (k*160+j) ((d.take k).flatten++(lt_ d k).take j)/\Be g S) λi _=>nk-(intOf i).toNat
   case atStart=>exact⟨0,Nat.zero_le _,rfl,by rw[List.take_zero,List.append_nil];exact Q,n⟩
   clear Q n;obtain⟨j,hj,rfl,Q,h⟩:=hrel;by_cases a7:j<nk
   .obtain⟨b2,o2,rfl,ek,hc⟩:=(e3.keep h).at_ a7;let⟨d1,d2⟩:=hc j a7;clear hc;have a6:j<(lt_ d k).length:=by rw[aw.out];exact a7
    have cz:okS (gt (lt_ d k) j):=Q4 (HT.out.2 _ (List.mem_of_getElem? (G3 a6)));have HE:=Ar (show (d.take k).flatten++(lt_ d k).take (j+1)=(d.take k).flatten++(lt_ d k).take j++[gt (lt_ d k) j] by rw[List.append_assoc,List.take_succ_eq_append_getElem a6];simp[gt,a6]);have cv:k*160+j<maxLen:=by unfold maxLen;omega
    go_wp2_with (at_mapUpdate;refine D8 rfl _ _ _ 211 rfl y7 Tryz.underlying211 Tryz.underlying4 rfl (Q.alloc _) cv (gt (lt_ d k) j) cz rfl rfl ?_;intro w5 cx cn)
    exact⟨⟨j+1,by omega,by go_num,by rw[HE.out];exact cx,Ya (Ao h _) cn b3⟩,by simp[intOf];omega⟩
   obtain rfl:nk=j:=by omega
   have HE:=Ar (show (d.take (k+1)).flatten=(d.take k).flatten++(lt_ d k).take nk by rw[r9 (by rw[T.out];exact a8),List.take_of_length_le (l:=lt_ d k) (by rw[aw.out];exact Nat.le_refl _)]);go_wp2;exact⟨⟨k+1,by omega,by go_num,by rw[HE.out];exact Q.mono (by omega),h⟩,by simp[intOf];omega⟩
  obtain rfl:nr=k:=by omega
  rw[List.take_of_length_le (by rw[T.out];exact Nat.le_refl _)] at Q;obtain⟨wo,rfl⟩:∃wo:World,wo=wr:=⟨_,rfl⟩
  go_wp2_with (at_range;refine N0 rfl _ 211 rfl y7 Tryz.underlying211 rfl Q ?_;intro w6 N m o db)
  let⟨BI,V⟩:∃BI,BI=wo.heap.size:=⟨_,rfl⟩
  rw[<-V]at m ⊢;have b5:Be g w6:=An n ⟨o.os,o.tape,o.output,o.size,λk hk=>o.block k hk (by simp)⟩;have b0:g.heap.size<=BI:=by rw[V];exact n.size
  have fs:=m.small;clear o db n Q V
  go_frame
  go_loopw [13] (λv S=>∃(L:LP) (U:Nat),Py Tryz.prog 60 4 okS klS S J BI (nr*160) d.flatten L U/\L.length+U<=N/\OwS S g.heap.size v (L.filter λp=>!Cs d p)/\Be g S) λ_ S=>S.rangeLeft J BI
  case atStart=>exact⟨[],N,m,by simp,OwG.nil,b5⟩
  clear m b5;obtain⟨L,U,E,er,ho,h⟩:=hrel
  go_wp2_with (at_next;refine Qc rfl _ rfl y7 Tryz.underlying4 rfl E ?_ ?_)
  .intro Y;obtain⟨D',dx,-,-,bm,-,-,-,-⟩:=E;have hP:(L.filter λp=>!Cs d p).Perm ((uniq d.flatten).filter λp=>!Cs d p):=(Wd bm (eh _) λx=>by obtain⟨x1,x2⟩:=x;rw[Sa];have:=Y.out x1 x2;simpa using this.symm).filter _;have hE:Ez (L.filter λp=>!Cs d p)=Rs d:=ah hP;have HE:=Ar hE;have bb:(L.filter λp=>!Cs d p).length<=L.length:=List.length_filter_le _ _;clear hP hE bm
   go_wp2_with (go_at_call 129;refine rR (Xz _ Ago (λ_ _ _ _ _=>Ox _ _ _ _ _) _ g.heap.size (L.filter λp=>!Cs d p) _ (by omega) ho) λw8⟨r,cu⟩=>?_;rw[HE.out]at r)
   go_ret2
   exact⟨_,by rw[hW.out];rfl,by rw[hW.out];exact OwG.lower r G.size,An G (Bk h ho cu)⟩
  intro q;obtain⟨⟨s,u⟩,c,w7,O,ds,dk,R,P,Z,dc,b9⟩:=q;dsimp only[Af2]at b9 ⊢;have y:Be g w7:=Ya h Z b0;have C:=E.noCells;have ad:OwS w7 g.heap.size u13 (L.filter λp=>!Cs d p):=OwG.kept ho Z (Or.inr (OwG.notMap ho C.2.1));have M:=Ar R;have bb:(L.filter λp=>!Cs d p).length<=L.length:=List.length_filter_le _ _;have b4:=E.left;clear ds dk Z dc R C ho E h;by_cases X:Cs d (s,u)=true
  .have hf:=Ar (show ((L++[(s,u)]).filter λp=>!Cs d p)=L.filter λp=>!Cs d p by rw[List.filter_append];simp[X])
   go_wp2_with (go_at_call 230;refine rR (Pw _ _ _ d _ _ _ (by omega) K.out (F.keep (Ao y _))) λw8 f=>?_)
   have D:=(M.out.keep blA).keep f;exact⟨⟨L++[(s,u)],O,D,by simp;omega,by rw[hf.out];exact OwG.keep (OwG.alloc ad _) f,An (Ao y _) f⟩,by rw[D.left,b4];exact P⟩
  have b6:Cs d (s,u)=false:=by simpa using X
  clear X;have hf:=Ar (show ((L++[(s,u)]).filter λp=>!Cs d p)=(L.filter λp=>!Cs d p)++[(s,u)] by rw[List.filter_append];simp[b6]);have cf:=Ar (Bf.new w7 60 #[s,u])
  go_wp2_with (first|(go_at_call 230;refine rR (Pw _ _ _ d _ _ _ (by omega) K.out (F.keep (Ao y _))) λw8 f=>?_;have k0:=cf.out.keep f;have a1:=k0.cell 0;have a2:=k0.cell 1;simp only[List.getElem?_toArray,List.getElem?_cons_zero,List.getElem?_cons_succ]at a1 a2)|(at_builtin;refine Dl rfl _ _ rfl g.heap.size _ (L.filter λp=>!Cs d p) rfl (OwG.alloc (OwG.keep (OwG.alloc ad _) f) _) w8.heap.size 1 (s,u) 60 rfl (Bf.new _ _ _) (by omega) (Ao (An (Ao y _) f) _).size ?_;intro v9 w9 cy ba eg))
  have D:=((M.out.keep blA).keep f).keep (Ao bl0 (.cells #[s,u] 60));have r:=OwG.alloc (OwG.keep (OwG.alloc ad (.cells #[s,u] 60)) f) (.cells #[s,u] 60);have C:=D.noCells;have bt:=D.kept ba (OwG.notMap r C.1).symm (OwG.notMap r C.2.1).symm;exact⟨⟨L++[(s,u)],O,bt,by simp;omega,by rw[hf.out];exact cy,Bk (Ao (An (Ao y _) f) _) r ba⟩,by rw[bt.left,b4];exact P⟩
 have hr:=Ar (show Eh a b=((Cl a b).1,[]) by unfold Eh;rw[if_pos h1]);have q2:((Cl a b).1 != 0)=true:=by simpa using h1
 go_in
 go_wp2_with (go_at_call 229;refine(Oi _ _ _ _ _ _ a b _ bd bl b7 b8 bu bw).mono ?_;rintro e g ⟨v1,rfl,H,G⟩)
 go_ret2
 exact⟨_,by rw[hr.out];rfl,by rw[hr.out];exact OwG.nil,G⟩
end
theorem An8(n:Int):bits .and .i64 n 3=n % 4:=by
 have b:(BitVec.ofInt 64 3).toNat=2 ^ 2-1:=by decide
 have a:(BitVec.ofInt 64 n &&& BitVec.ofInt 64 3).toNat=(n % ((2 ^ 64:Nat):Int)).toNat % 2 ^ 2:=by
  rw[BitVec.toNat_and,BitVec.toNat_ofInt,b,Nat.and_two_pow_sub_one_eq_mod]
 show IntKind.i64.wrap ((BitVec.ofInt 64 n &&& BitVec.ofInt 64 3).toNat:Nat)=n % 4
 rw[a,IntKind.wrap_i64];omega
theorem jg(f:Bool) (q:Int) (w:World) :
 Calls Tryz.prog 178 #[.agg #[.bool f,q]] w (Bz w (.agg #[.bool f,(q % 4:Int)])):=by
 have a:=An8 q;go_enter Tryz.func178,Tryz.ntmps178;go_wp2;exact bR ⟨rfl,Ao blA _⟩ rfl (by simp[results,Tryz.results178,go_sem])
def Aov (p:Int×Int):Int×Int:=(wrap64 (-p.2),p.1)
def Tc:Nat->Int×Int->Int×Int
 | 0,p=>p
 | k+1,p=>Aov (Tc k p)
def Am2 (f:Bool) (p:Int×Int):Int×Int:=if f then (wrap64 (-p.1),p.2) else p
def Cd (f:Bool) (q:Int) (p:Int×Int):Int×Int:=Tc (q % 4).toNat (Am2 f p)
theorem G8(f:Bool) (q x y:Int) (w:World) :
 Calls Tryz.prog 41 #[.agg #[.bool f,q],.agg #[x,y]] w (Bz w (.agg #[(Cd f q (x,y)).1,(Cd f q (x,y)).2])):=by
 let⟨m,n,z,g⟩:∃m:Nat,bits .and .i64 q 3=(m:Int)/\m<=3/\Hid ((q % 4).toNat=m):=⟨(q % 4).toNat,by rw[An8];omega,by omega,rfl⟩
 cases f with
 | true =>
   go_enter Tryz.func41,Tryz.ntmps41;go_wp2;go_loopw [14] (λi wr=>∃k:Nat,k<=m/\i=.int .i64 k/\Bf wr (w.heap.size+1) 60 #[(Tc k (wrap64 (-x),y)).1,(Tc k (wrap64 (-x),y)).2]/\Bf wr (w.heap.size+1+1) 60 #[.int .i64 0,.int .i64 0]/\Be w wr) λi _=>m-(intOf i).toNat
   case atStart=>exact⟨0,Nat.zero_le _,rfl,(Bf.new2 _ _ _ _).alloc _,Bf.new3 _ _ _ _ _,Ao (Ao blA _) _⟩
   clear n;obtain⟨k,u,rfl,a,b,e⟩:=hrel;have h:=a.cell 0;have j:=a.cell 1;have o:=a.frozen 0;have r:=a.frozen 1;have A:=a.lt;have c:=b.cell 0;have d:=b.cell 1;have s:=b.frozen 0;have t:=b.frozen 1;have B:=b.lt;simp only[List.getElem?_toArray,List.getElem?_cons_zero,List.getElem?_cons_succ]at h j c d;by_cases l:k<m
   .go_wp2_with fail
    exact⟨⟨k+1,by omega,by go_num,(a.set_ 0 _).set_ 1 _,(b.far (p:=⟨w.heap.size+1,0,none⟩) (by simp) _).far (p:=⟨w.heap.size+1,1,none⟩) (by simp) _,Ba (Ba e (p:=⟨w.heap.size+1,0,none⟩) (by simp) _) (p:=⟨w.heap.size+1,1,none⟩) (by simp) _⟩,by simp[intOf];omega⟩
   obtain rfl:m=k:=by omega
   go_wp2_with fail;refine bodyPost_ret (v:=.agg #[(Tc m (wrap64 (-x),y)).1,(Tc m (wrap64 (-x),y)).2]) (by simp[results,Tryz.results41,go_sem,c,d]) rfl ⟨by unfold Cd;rw[g.out];rfl,Ba (Ba e (p:=⟨w.heap.size+1+1,0,none⟩) (by simp;omega) _) (p:=⟨w.heap.size+1+1,1,none⟩) (by simp;omega) _⟩
 | false =>
   go_enter Tryz.func41,Tryz.ntmps41;go_wp2;go_loopw [14] (λi wr=>∃k:Nat,k<=m/\i=.int .i64 k/\Bf wr (w.heap.size+1) 60 #[(Tc k (x,y)).1,(Tc k (x,y)).2]/\Bf wr (w.heap.size+1+1) 60 #[.int .i64 0,.int .i64 0]/\Be w wr) λi _=>m-(intOf i).toNat
   case atStart=>exact⟨0,Nat.zero_le _,rfl,(Bf.new2 _ _ _ _).alloc _,Bf.new3 _ _ _ _ _,Ao (Ao blA _) _⟩
   clear n;obtain⟨k,u,rfl,a,b,e⟩:=hrel;have h:=a.cell 0;have j:=a.cell 1;have o:=a.frozen 0;have r:=a.frozen 1;have A:=a.lt;have c:=b.cell 0;have d:=b.cell 1;have s:=b.frozen 0;have t:=b.frozen 1;have B:=b.lt;simp only[List.getElem?_toArray,List.getElem?_cons_zero,List.getElem?_cons_succ]at h j c d;by_cases l:k<m
   .go_wp2_with fail
    exact⟨⟨k+1,by omega,by go_num,(a.set_ 0 _).set_ 1 _,(b.far (p:=⟨w.heap.size+1,0,none⟩) (by simp) _).far (p:=⟨w.heap.size+1,1,none⟩) (by simp) _,Ba (Ba e (p:=⟨w.heap.size+1,0,none⟩) (by simp) _) (p:=⟨w.heap.size+1,1,none⟩) (by simp) _⟩,by simp[intOf];omega⟩
   obtain rfl:m=k:=by omega
   go_wp2_with fail;refine bodyPost_ret (v:=.agg #[(Tc m (x,y)).1,(Tc m (x,y)).2]) (by simp[results,Tryz.results41,go_sem,c,d]) rfl ⟨by unfold Cd;rw[g.out];rfl,Ba (Ba e (p:=⟨w.heap.size+1+1,0,none⟩) (by simp;omega) _) (p:=⟨w.heap.size+1+1,1,none⟩) (by simp;omega) _⟩
def Acf (g:Int) (m f:Bool) (q:Int):Bool:=(f == m)&&(if g == 1 then q % 4 == 0 else if g == 2 then (q % 4 == 0 || q % 4 == 2) else g == 4)
theorem It(g:Int) (m f:Bool) (q:Int) (w:World) :
 Calls Tryz.prog 125 #[g,.bool m,.agg #[.bool f,q]] w (Bz w (.bool (Acf g m f q))):=by
 have h:=Ar (Bf.new w 59 #[.bool f,q]);go_enter Tryz.func125,Tryz.ntmps125
 go_wp2_with (go_at_call 178;refine rR (jg _ _ _) λl a=>?_;have b:=h.out.keep a;have c:=b.cell 0;have d:=b.cell 1;have i:=b.frozen 0;have j:=b.frozen 1;have k:=b.lt;simp only[List.getElem?_toArray,List.getElem?_cons_zero,List.getElem?_cons_succ]at c d)
 all_goals go_ret
 all_goals refine⟨Bn ?_,Ba (Ba (An blA a) (p:=⟨w.heap.size,0,none⟩) (by simp) _) (p:=⟨w.heap.size,1,none⟩) (by simp) _⟩
 all_goals clear a b c d i j k h
 all_goals (unfold Acf;simp_all)
abbrev Trn:=Bool×Int
def enT (p:Trn):List Value:=[.bool p.1,.int .i64 p.2]
theorem Wu(p:Trn):(enT p).length=2:=rfl
theorem Agq(p:Trn):∀u∈enT p,u.oneCell'=true:=by
 intro u a;simp[enT]at a;rcases a with rfl|rfl<;>rfl
theorem Amx:(Tryz.prog.info? 59).map (λi=>(i.zero,i.size,i.bytes))=some (some (.agg #[.bool false,.int .i64 0]),2,16):=by kernel_rfl
def Ko (g:Int) (m:Bool):Nat->List Trn
 | 0=>[]
 | k+1=>Ko g m k++(if Acf g m m (k:Int) then [(m,(k:Int))] else [])
def vp (g:Int) (m:Bool):List Trn:=Ko g m 4
theorem Px(g:Int) (m:Bool) (k:Nat):(Ko g m k).length<=k:=by
 induction k with
 | zero=>exact Nat.le_refl _
 | succ k ih=>rw[Ko,List.length_append];split<;>simp<;>omega
theorem Ag7(g:Int) (m:Bool) (w:World) :
 Calls Tryz.prog 83 #[g,.bool m] w λe p=>∃v,e=.returned v/\OwG 59 2 enT p w.heap.size v (vp g m)/\Be w p:=by
 go_enter Tryz.func83,Tryz.ntmps83;go_wp2_with fail;go_loopw [5,8] (λv i wr=>∃k:Nat,k<=4/\i=.int .i64 k/\OwG 59 2 enT wr w.heap.size v (Ko g m k)/\Be w wr) λ_ i _=>4-(intOf i).toNat
 case atStart=>exact⟨0,Nat.zero_le _,rfl,OwG.nil,bl0⟩
 obtain⟨k,y,rfl,d,c⟩:=hrel;by_cases x:k<4
 .have n:(k:Int)<4:=by omega
  have t:=Ar (Bf.new wr 59 #[.bool m,(k:Int)]);by_cases b:Acf g m m (k:Int)=true
  .have f:=Ar (show Ko g m (k+1)=Ko g m k++[(m,(k:Int))] by rw[Ko,if_pos b])
   go_wp2_with (first|(go_at_call 125;refine rR (It _ _ _ _ _) λq a=>?_;have o:=t.out.keep a;have r:=o.cell 0;have s:=o.cell 1;simp only[List.getElem?_toArray,List.getElem?_cons_zero,List.getElem?_cons_succ]at r s)|(at_builtin;refine Co rfl _ _ 148 rfl enT w.heap.size 59 (.agg #[.bool false,.int .i64 0]) 2 16 Tryz.underlying148 Amx rfl (by omega) Wu Agq _ (Ko g m k) rfl (((d.alloc _).keep a).alloc _) q.heap.size 1 (m,(k:Int)) 59 rfl (Bf.new _ _ _) (by have:=Px g m k;unfold maxLen;omega) (by have:=Px g m k;omega) (Ao (An (Ao c _) a) _).size ?_;intro z A j h l))
   exact⟨⟨k+1,by omega,by go_num,by rw[f.out];exact j,Bk (Ao (An (Ao c _) a) _) (((d.alloc _).keep a).alloc _) h⟩,by simp[intOf];omega⟩
  have u:Acf g m m (k:Int)=false:=by simpa using b
  have f:=Ar (show Ko g m (k+1)=Ko g m k by rw[Ko,if_neg b,List.append_nil]);clear b
  go_wp2_with (go_at_call 125;refine rR (It _ _ _ _ _) λq a=>?_)
  exact⟨⟨k+1,by omega,by go_num,by rw[f.out];exact(d.alloc _).keep a,An (Ao c _) a⟩,by simp[intOf];omega⟩
 obtain rfl:k=4:=by omega
 go_wp2_with fail;go_ret;exact⟨_,rfl,d,c⟩
def F6 (f:Bool) (q:Int) (l:LP):LP:=if f then (l.map (Cd f q)).reverse else l.map (Cd f q)
theorem E8(f:Bool) (q:Int) (l:LP):(F6 f q l).length=l.length:=by unfold F6;split<;>simp
theorem Ake(b:a<i.length):gt i.reverse a=gt i (i.length-1-a):=by
 unfold gt;rw[List.getD,List.getElem?_reverse b];rfl
theorem Xt{f:Bool}    (b:a<i.length):gt (F6 f l i) a=Cd f l (gt i (if f then i.length-1-a else a)):=by
 unfold F6;cases f
 .simp only[Bool.false_eq_true,if_false];exact Ad6 b
 simp only[if_true];rw[Ake (by simpa using b),List.length_map,Ad6 (by omega)]
theorem Ti(f:Bool) (q:Int) (A:Option Addr) (y n:Nat) (l:LP) (w:World) (U:n<=1000000) (v:SpS w A n l) :
 Calls Tryz.prog 40 #[.agg #[.bool f,q],.slice A n y] w (Vi w (F6 f q l)):=by
 let⟨Z,D,H⟩:=Ht n U;go_enter Tryz.func40,Tryz.ntmps40;go_wp2_with fail;go_loopw [13] (λi wr=>∃(k:Nat) (z:LP),k<=n/\i=.int .i64 k/\z.length=n/\(∀p,p<k->gt z (if f then n-1-p else p)=Cd f q (gt l p))/\Bf wr w.heap.size 59 #[.bool f,q]/\OwS wr (w.heap.size+1) (.slice (some ⟨w.heap.size+1,0,none⟩) n n) z/\Be w wr) λi _=>n-(intOf i).toNat
 case atStart=>exact⟨0,_,Nat.zero_le _,rfl,List.length_replicate,λp m=>absurd m (Nat.not_lt_zero _),(Bf.new _ _ _).alloc _,by have:=H (w.alloc (.cells #[.bool f,q] 59));simpa using this,Ao blA _⟩
 clear D H;obtain⟨k,z,X,rfl,g,m,t,E,u⟩:=hrel;by_cases j:k<n
 .obtain⟨b,V,rfl,Q,I⟩:=(v.keep u).at_ j;let⟨W,s⟩:=I k j;clear I;have o:Bf (wr.alloc (.cells #[(gt l k).1,(gt l k).2] 60)) w.heap.size 59 #[.bool f,q]:=t.alloc _;have L:=t.cell 0;have M:=t.cell 1;have P:=t.lt;simp only[List.getElem?_toArray,List.getElem?_cons_zero,List.getElem?_cons_succ]at L M;have G:=Ar m;clear m;have r:=Ar (OwG.alloc E (.cells #[(gt l k).1,(gt l k).2] 60));have S:w.heap.size+1<wr.heap.size:=Bi (E.cells g j).1;cases f with
  | true =>
    let⟨i,C,c⟩:∃i:Nat,n-1-k=i/\i<n:=⟨_,rfl,by omega⟩
    have T:(n:Int)-1-(k:Int)=(i:Int):=by omega
    have J:=Ar C;clear C
    go_wp2_with (go_at_call 41;refine rR (G8 _ _ _ _ _) λF a=>?_;have d:=OwG.keep r.out a;let⟨x,K,N,O⟩:=OwS.cells d g c;have B:w.heap.size+1<F.heap.size:=Bi x)
    refine⟨⟨k+1,z.set i (Cd true q ((gt l k).1,(gt l k).2)),by omega,by go_num,by rw[List.length_set];exact g,λp h=>?_,((o.keep a).far (p:=⟨w.heap.size+1,i*2,none⟩) (Nat.ne_of_lt (Nat.lt_succ_self _)) _).far (p:=⟨w.heap.size+1,i*2+1,none⟩) (Nat.ne_of_lt (Nat.lt_succ_self _)) _,OwS.store d g c _ _,Ba (Ba (An (Ao u _) a) (p:=⟨w.heap.size+1,i*2,none⟩) (Nat.le_succ _) _) (p:=⟨w.heap.size+1,i*2+1,none⟩) (Nat.le_succ _) _⟩,by simp[intOf];omega⟩;rw[Lg (by rw[g];exact c)];have C:=J.out
    try simp only[if_true,if_false,Bool.false_eq_true]
    by_cases s:k=p
    .subst s;rw[if_pos (by omega)]
    rw[if_neg (by omega)];have:=G.out p (by omega);simpa using this
  | false =>
    have c:=j
    go_wp2_with (go_at_call 41;refine rR (G8 _ _ _ _ _) λF a=>?_;have d:=OwG.keep r.out a;let⟨x,K,N,O⟩:=OwS.cells d g c;have B:w.heap.size+1<F.heap.size:=Bi x)
    refine⟨⟨k+1,z.set k (Cd false q ((gt l k).1,(gt l k).2)),by omega,by go_num,by rw[List.length_set];exact g,λp h=>?_,((o.keep a).far (p:=⟨w.heap.size+1,k*2,none⟩) (Nat.ne_of_lt (Nat.lt_succ_self _)) _).far (p:=⟨w.heap.size+1,k*2+1,none⟩) (Nat.ne_of_lt (Nat.lt_succ_self _)) _,OwS.store d g c _ _,Ba (Ba (An (Ao u _) a) (p:=⟨w.heap.size+1,k*2,none⟩) (Nat.le_succ _) _) (p:=⟨w.heap.size+1,k*2+1,none⟩) (Nat.le_succ _) _⟩,by simp[intOf];omega⟩;rw[Lg (by rw[g];exact c)]
    skip
    try simp only[if_true,if_false,Bool.false_eq_true]
    by_cases s:k=p
    .subst s;rw[if_pos (by omega)]
    rw[if_neg (by omega)];have:=G.out p (by omega);simpa using this
 obtain rfl:n=k:=by omega
 go_wp2_with fail;go_ret;refine⟨_,rfl,?_,u⟩
 have R:F6 f q l=z:=Gn (by rw[E8,v.1,g]) (λp h=>by
  rw[E8]at h;rw[Xt h,v.1];rw[v.1]at h;cases f
  .have:=m p h;simp only[Bool.false_eq_true,if_false]at this ⊢;exact this.symm
  have:=m (n-1-p) (by omega);simp only[if_true]at this ⊢;rw[<-this];congr 1;omega)
 rw[R];exact E.lower (Nat.le_succ _)
structure Shp where
 poly:LP
 grain:Int
 mat:Bool
 anc:Int×Int
structure Pt5 where
 sh:Int
 fl:Bool
 qu:Int
 x:Int
 y:Int
deriving DecidableEq
def shp (S:List Shp) (k:Nat):Shp:=S.getD k ⟨[],0,false,(0,0)⟩
def pt (a:List Pt5) (k:Nat):Pt5:=a.getD k ⟨0,false,0,0,0⟩
def L7 (p:Pt5):Value:=.agg #[p.sh,.bool p.fl,p.qu,p.x,p.y]
def enP (p:Pt5):List Value:=[.int .i64 p.sh,.bool p.fl,.int .i64 p.qu,.int .i64 p.x,.int .i64 p.y]
theorem Kl(p:Pt5):(enP p).length=5:=rfl
theorem tg(p:Pt5):∀u∈enP p,u.oneCell'=true:=by
 intro u a;simp[enP]at a;rcases a with rfl|rfl|rfl|rfl|rfl<;>rfl
def Alp (w:World) (b o:Nat) (s:Shp):Prop :=
 ∃c a,Cq w b o (.slice c s.poly.length a)/\s.poly.length<=a/\a<=9223372036854775807/\SpS w c s.poly.length s.poly/\(c=none->a=0) /\
  Cq w b (o+1) s.grain/\Cq w b (o+2) (.bool s.mat)/\Cq w b (o+3) s.anc.1/\Cq w b (o+4) s.anc.2
def ShS (w:World) (A:Option Addr) (n:Nat) (S:List Shp):Prop:=S.length=n/\n<=100000000000000/\(n=0\/∃b a,A=some ⟨b,a,none⟩/\∀k,k<n->Alp w b (a+k*5) (shp S k))
theorem Alp.keep{w:World}  {s:Shp} (h:Alp w a m s) (c:Be w b):Alp b a m s:=by
 obtain⟨d,e,f,g,i,j,k,l,n,o,p⟩:=h;exact⟨d,e,Aq c f,g,i,j.keep c,k,Aq c l,Aq c n,Aq c o,Aq c p⟩
theorem ShS.keep{w:World}   {S:List Shp} (h:ShS w g a S) (e:Be w b):ShS b g a S:=by
 refine⟨h.1,h.2.1,?_⟩;obtain⟨i,-,h⟩:=h;rcases h with rfl|⟨d,c,rfl,h⟩
 .exact .inl rfl
 exact .inr ⟨d,c,rfl,λk f=>(h k f).keep e⟩
theorem ShS.at_{w:World}   {S:List Shp} (h:ShS w g a S) {k:Nat} (d:k<a):∃b c,g=some ⟨b,c,none⟩/\b<w.heap.size/\Alp w b (c+k*5) (shp S k):=by
 obtain⟨j,-,h⟩:=h;rcases h with rfl|⟨b,c,rfl,h⟩
 .omega
 let⟨f,i,e,_⟩:=h k d;exact⟨b,c,rfl,Bi e,h k d⟩
def PuS (w:World) (A:Option Addr) (n:Nat) (c:List Pt5):Prop:=c.length=n/\(n=0\/∃b a,A=some ⟨b,a,none⟩/\∀k,k<n ->
 Cq w b (a+k*5) (pt c k).sh/\Cq w b (a+k*5+1) (.bool (pt c k).fl)/\Cq w b (a+k*5+2) (pt c k).qu/\Cq w b (a+k*5+3) (pt c k).x/\Cq w b (a+k*5+4) (pt c k).y)
theorem PuS.keep{w:World}   {e:List Pt5} (h:PuS w g a e) (c:Be w b):PuS b g a e:=by
 refine⟨h.1,?_⟩;obtain⟨p,h⟩:=h;rcases h with rfl|⟨n,d,rfl,h⟩
 .exact .inl rfl
 refine .inr ⟨n,d,rfl,λk o=>?_⟩;let⟨f,i,j,l,m⟩:=h k o;exact⟨Aq c f,Aq c i,Aq c j,Aq c l,Aq c m⟩
theorem PuS.at_{w:World}   {d:List Pt5} (h:PuS w g a d) {k:Nat} (e:k<a):∃b c,g=some ⟨b,c,none⟩/\b<w.heap.size/\Cq w b (c+k*5) (pt d k).sh/\Cq w b (c+k*5+1) (.bool (pt d k).fl)/\Cq w b (c+k*5+2) (pt d k).qu/\Cq w b (c+k*5+3) (pt d k).x/\Cq w b (c+k*5+4) (pt d k).y:=by
 obtain⟨f,h⟩:=h;rcases h with rfl|⟨b,c,rfl,h⟩
 .omega
 exact⟨b,c,rfl,Bi (h k e).1,h k e⟩
def wh (w:World) (r:Int×LP) (e:Ending) (a:World):Prop :=
 ∃v,e=.returned (.tuple #[v,r.1])/\OwS a w.heap.size v r.2/\Be w a
def La (l:LP) (p:Pt5):Int×LP :=
 if Bg l l.length≠0 then (Bg l l.length,[]) else if Bg (Yv (F6 p.fl p.qu l) (p.x,p.y)) l.length≠0 then (Bg (Yv (F6 p.fl p.qu l) (p.x,p.y)) l.length,[]) else (0,Yv (F6 p.fl p.qu l) (p.x,p.y))
def Br (S:List Shp) (p:Pt5):Int×LP:=if p.sh<0\/p.sh ≥ S.length\/Cc 1048576 (p.x,p.y)=true then (3,[]) else La (shp S p.sh.toNat).poly p
theorem me(A:Option Addr) (a n:Nat) (S:List Shp) (p:Pt5) (w:World) (f:ShS w A n S) (h:p.sh<0\/p.sh ≥ n\/Cc 1048576 (p.x,p.y)=true) :
 Calls Tryz.prog 34 #[.slice A n a,L7 p] w (wh w (3,[])):=by
 obtain⟨sh,g,k,x,y⟩:=p;unfold L7;dsimp only at h ⊢;have j:=f.2.1;go_in;by_cases c:sh<0
 .go_wp2
  go_ret2
  exact⟨_,rfl,OwG.nil,blA⟩
 by_cases d:sh ≥ n
 .go_wp2
  go_ret2
  exact⟨_,rfl,OwG.nil,blA⟩
 have i:Cc 1048576 (x,y)=true:=by rcases h with h|h|h;exact absurd h c;exact absurd h d;exact h
 go_wp2_with (go_at_call 56;refine rR (Dz _ _ _) λl b=>?_)
 go_ret2
 exact⟨_,rfl,OwG.nil,An blA b⟩
theorem zg(A:Option Addr) (X n:Nat) (S:List Shp) (p:Pt5) (k:Nat) (w:World) (hS:ShS w A n S) (hk:p.sh=(k:Int)) (Z:k<n) (G:Cc 1048576 (p.x,p.y)=false) :
 Calls Tryz.prog 34 #[.slice A n X,L7 p] w (wh w (La (shp S k).poly p)):=by
 obtain⟨sh,t,z,x,y⟩:=p;dsimp only at hk G;subst hk;unfold L7;dsimp only;have hn:=hS.2.1;obtain⟨b,b6,rfl,b3,Ak,ck,B,R,g3,D,g5,g6,g7,g8,g9⟩:=hS.at_ Z;generalize hl:(shp S k).poly=l at B R D ⊢;clear hl g6 g7 g8 g9;generalize hm:l.length=m at B R D;have L:=Ar hm;clear hm;have Y:=Ar (Bf.new w 92 #[.int .i64 (k:Int),.bool t,.int .i64 z,.int .i64 x,.int .i64 y]);by_cases o:Bg l m=0
 .have q:(Bg l m != 0)=false:=by rw[o];rfl
  have ak:=(El o).2;have HC:=Ar o;clear o;let⟨r,T⟩:=gN (Yv (F6 t z l) (x,y))
  have I:r.length=m:=by rw[<-T,Ld,E8,L.out]
  have u:=Ar (show La l ⟨(k:Int),t,z,x,y⟩=if Bg r m≠0 then (Bg r m,[]) else (0,r) by unfold La;rw[L.out,if_neg (by rw[HC.out];simp),T]);have W:=Ar T;have V:=Ar I;clear T I;go_in
  go_upto_region 7 with (first|(go_at_call 56;refine rR (Dz _ _ _) λw1 a=>?_;have J:=Y.out.keep a;have M:=J.cell 0;simp only[List.getElem?_toArray,List.getElem?_cons_zero,List.getElem?_cons_succ]at M;have C:=Aq (An blA a) B)|(go_at_call 57;refine rR (Dc _ _ _ l _ (by omega) R (D.keep (An blA a))) λw2 d=>?_))
  have j:=An (An blA a) d;have K:=J.keep d;have E:=D.keep j;have N:=K.cell 1;have O:=K.cell 2;have P:=K.cell 3;have Q:=K.cell 4;simp only[List.getElem?_toArray,List.getElem?_cons_zero,List.getElem?_cons_succ]at N O P Q;clear C M J a d B Y K;go_cut [8] λv wx=>OwS wx w.heap.size v r/\Below w.heap.size w wx
  case first =>
   go_region_held3 (λU=>U.cell? ⟨w.heap.size,1,none⟩=some (.bool t)/\U.cell? ⟨w.heap.size,2,none⟩=some (.int .i64 z)/\U.cell? ⟨w.heap.size,3,none⟩=some (.int .i64 x)/\U.cell? ⟨w.heap.size,4,none⟩=some (.int .i64 y))
    (first
     | (go_keep;done)
     | exact⟨Aq c N,Aq c O,Aq c P,Aq c Q⟩
     | exact⟨Aq f (Aq c N),Aq f (Aq c O),Aq f (Aq c P),Aq f (Aq c Q)⟩)
    ((first
      | (go_at_call 40;refine(Ti _ _ _ _ _ l _ (by omega) (E.keep blD)).mono ?_;rintro e w3 ⟨v3,rfl,a6,c⟩;obtain⟨A3,c3,rfl,b4,F,-,-⟩:=OwS.els a6;rw[E8,L.out]at F ⊢)
      | (go_at_call 58;refine(Aag _ _ _ (F6 t z l) _ _ _ (by omega) F).mono ?_;rintro e w4 ⟨v4,rfl,H,f⟩)))
   go_wp2;go_meet
   (rw[W.out]at H;exact⟨OwG.lower H (Nat.le_trans j.size c.size),An (An (Aw j) c) f⟩)
  clear j E N O P Q;obtain⟨G,j⟩:=hcut;obtain⟨A8,c8,rfl,s,i,-,-⟩:=OwS.els G;rw[V.out]at s i G ⊢;by_cases g:Bg r m=0
  .have q2:(Bg r m != 0)=false:=by rw[g];rfl
   rw[g]at u
   go_wp2_with (go_at_call 57;refine rR (Dc _ _ _ r _ (by omega) s i) λw5 h=>?_)
   go_ret2
   exact⟨_,by rw[u.out];rfl,by rw[u.out];exact OwG.keep G h,An j h⟩
  have q2:(Bg r m != 0)=true:=by simpa using g
  rw[if_pos g]at u;clear g
  go_wp2_with (go_at_call 57;refine rR (Dc _ _ _ r _ (by omega) s i) λw5 h=>?_)
  go_ret2
  exact⟨_,by rw[u.out];rfl,by rw[u.out];exact OwG.nil,An j h⟩
 have q:(Bg l m != 0)=true:=by simpa using o
 have HR:=Ar (show La l ⟨(k:Int),t,z,x,y⟩=(Bg l m,[]) by unfold La;rw[L.out,if_pos o]);clear o;go_in
 go_wp2_with (first|(go_at_call 56;refine rR (Dz _ _ _) λw1 a=>?_;have J:=Y.out.keep a;have M:=J.cell 0;simp only[List.getElem?_toArray,List.getElem?_cons_zero,List.getElem?_cons_succ]at M;have C:=Aq (An blA a) B)|(go_at_call 57;refine rR (Dc _ _ _ l _ (by omega) R (D.keep (An blA a))) λw2 d=>?_))
 go_ret2
 exact⟨_,by rw[HR.out];rfl,by rw[HR.out];exact OwG.nil,An (An blA a) d⟩
theorem Cf(A:Option Addr) (a n:Nat) (S:List Shp) (p:Pt5) (w:World) (b:ShS w A n S) :
 Calls Tryz.prog 34 #[.slice A n a,L7 p] w (wh w (Br S p)):=by
 by_cases h:p.sh<0\/p.sh ≥ n\/Cc 1048576 (p.x,p.y)=true
 .rw[show Br S p=(3,[]) by unfold Br;rw[b.1,if_pos h]];exact me A a n S p w b h
 rw[show Br S p=La (shp S p.sh.toNat).poly p by unfold Br;rw[b.1,if_neg h]];simp only[not_or]at h;exact zg A a n S p p.sh.toNat w b (by omega) (by omega) (by simpa using h.2.2)
end Go.Proofs.YtlogblbfbihleaaGreat
