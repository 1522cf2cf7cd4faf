/- Lean texts of the claim. -/
import Derived.Test.YtboghahlhmnblaaGreatZv03
import Derived.Laws.CopyRow
import Derived.Laws.MakeOwn
import Derived.Deep.RegionLaw
namespace Go.Proofs.YtboghahlhmnblaaGreat
set_option linter.all false
set_option maxRecDepth 100000
set_option maxHeartbeats 0
open Go.RowKit Go.Proofs.Tryz
variable{a i l:Nat}{b o:World}{c:Value}{e:LP}{f:Exit->Act->World->Prop}{g:Int×Int}{h:List LP}{j:TypeId}{k:Act}{m:Operand}{n:Program}{p:Int}{base base':Nat}{d x:Operand}{w w':World}
theorem Mm(a g n b k:Nat)(l:LP)(w:World)(D:n<=1000000)(h:n<=b)(q:Cq w a 0 (.slice (some ⟨g,0,none⟩) n b))(e:SpS w (some ⟨g,0,none⟩) n l)(r:k<n):Calls prog 280 #[k,.pointer (some ⟨a,0,none⟩)] w (Bz w (.tuple #[.agg #[(gt l ((k+n-1) % n)).1,(gt l ((k+n-1) % n)).2],.agg #[(gt l k).1,(gt l k).2],.agg #[(gt l ((k+1) % n)).1,(gt l ((k+1) % n)).2]])):=by
 have c:(k+1) % n<n:=bE _ aK;have d:(k+n-1) % n<n:=bE _ aK;let⟨f,i⟩:=e.cells r;let⟨j,m⟩:=e.cells c;let⟨o,p⟩:=e.cells d;simp only[dB]at f i j m o p;have E:a<w.heap.size:=Bi q;have F:g<w.heap.size:=Bi f
 have t:a<w.heap.size+1+1:=aK
 have x:g<w.heap.size+1+1:=aK
 go_in;go_wp2;have y:=Q6 ((k:Int)+1) (k+1) n;have z:=Q6 ((k:Int)+(n:Int)-1) (k+n-1) n (hz:=aK)
 go_region;go_wp2;exact bR ⟨rfl,Aw (Ao (Ao blA))⟩ rfl (by simp[results,results280,go_sem])
theorem Pk(F:Nat)(j:Array Value)(n:Nat)(f:Nat->Bool)(w:World)
 (o:∀args w,(callFunc F args).run prog w=.ok (.enter F args) w)
 (l:∀(k:Nat) (d:World),k<n->Below w w d->Calls prog F (#[.int .i64 k]++j) d λe h=>e=.returned (.bool (f k))/\Below d d h)  (q:n<=1000000:=by omega) :
 Calls prog 285 #[n,.func (.func F) #[] j] w (Bz w (Db f n)):=by
 have m:=Ar l;clear l;go_in;go_wp2;go_loopw [7] (λi wr=>∃k:Nat,k<=n/\i=k/\Hid (Bp f k=false)/\Below w w wr) λi _=>n-(intOf i).toNat
 case atStart=>exact⟨0,aB,rfl,Bp.zero _,bl0⟩
 obtain⟨k,p,rfl,g,c⟩:=hrel;by_cases b:k<n
 .go_wp2;refine rR (m.out k wr b c) λr a=>?_;go_wp2
  .go_ret;exact⟨Bm (Hf b g.out (by assumption)).symm,An c a⟩
  go_roundw
  case rel=>exact⟨k+1,by omega,by go_num,Bp.succ g.out (by simpa using ‹_›),An c a⟩
  case measure=>simp[intOf];omega
 obtain rfl:n=k:=by omega
 go_wp2;go_ret;exact⟨Bm (Fy g.out).symm,c⟩
def Tl(l:LP)(n k:Nat):Bool:=Bs (gt l ((k+n-1) % n)) (gt l k) (gt l ((k+1) % n)) == 0
def frW(l:LP)(n k i:Nat):Bool:=eqS (gt l i) (gt l ((k+n-1) % n)) || eqS (gt l i) (gt l k) || eqS (gt l i) (gt l ((k+1) % n)) || decide (Hz (gt l ((k+n-1) % n)) (gt l k) (gt l ((k+1) % n)) (gt l i)<0)
def Gp(l:LP)(n k:Nat):Bool:=decide (0<Bs (gt l ((k+n-1) % n)) (gt l k) (gt l ((k+1) % n)))&&Ix (frW l n k) n
theorem Mr(h c g n a k:Nat)(l:LP)(w:World)(b:n<=a)(p:Cq w h 0 (.func (.func 280) #[] #[.pointer (some ⟨c,0,none⟩)]))(i:Cq w c 0 (.slice (some ⟨g,0,none⟩) n a))(o:SpS w (some ⟨g,0,none⟩) n l)(j:k<n)(m:n<=1000000:=by omega):Calls prog 281 #[k,.pointer (some ⟨h,0,none⟩)] w (Bz w (.bool (Tl l n k))):=by
 go_in
 go_wp2_with (first|(go_at_call 280;refine rR (Mm c g n a k l _ m b i o j) λq d=>?_)|(go_at_call 282;refine rR (Ev) λr f=>?_))
 go_ret;exact⟨rfl,An d f⟩
theorem Agj(h:¬0<Bs (gt e ((i+a-1) % a)) (gt e i) (gt e ((i+1) % a))):Gp e a i=false:=by
 unfold Gp;simp[h]
theorem Aa6(b:l<a)(h:frW e a i l=false):Gp e a i=false:=by
 unfold Gp;rw[Ix.no b h,gL]
theorem Aa5(h:0<Bs (gt e ((i+a-1) % a)) (gt e i) (gt e ((i+1) % a)))(b:Ix (frW e a i) a=true):Gp e a i=true:=by
 unfold Gp;rw[b];simp[h]
theorem SpS.of3{b c d e f:Int}(h:Bf w a j #[p,b,c,d,e,f]):SpS w (some ⟨a,0,none⟩) 3 [(p,b),(c,d),(e,f)]:=by
 refine⟨rfl,.inr ⟨a,0,rfl,λk q=>?_⟩⟩;have g:=h.cell 0;have i:=h.cell 1;have l:=h.cell 2;have m:=h.cell 3;have n:=h.cell 4;have o:=h.cell 5;rcases(show k=0\/k=1\/k=2 by omega) with rfl|rfl|rfl
 .exact⟨g,i⟩
 .exact⟨l,m⟩
 exact⟨n,o⟩
theorem Apz(b:gt e ((i+a-1) % a)=g)(h:eqS (gt e l) g=true):frW e a i l=true:=by
 unfold frW;rw[b,h];rfl
theorem Apy(b:gt e i=g)(h:eqS (gt e l) g=true):frW e a i l=true:=by
 unfold frW;rw[b,h];simp
theorem Apx(b:gt e ((i+1) % a)=g)(h:eqS (gt e l) g=true):frW e a i l=true:=by
 unfold frW;rw[b,h];simp
theorem Apw{b c:Int×Int}(d:gt e ((i+a-1) % a)=g)(f:gt e i=b)(j:gt e ((i+1) % a)=c)(h:Hz g b c (gt e l)<0):frW e a i l=true:=by
 unfold frW;rw[d,f,j,bV h];simp
theorem Apv{b c:Int×Int}(k:gt e ((i+a-1) % a)=g)(m:gt e i=b)(n:gt e ((i+1) % a)=c)(d:¬eqS (gt e l) g=true)(f:¬eqS (gt e l) b=true)(j:¬eqS (gt e l) c=true)(h:0<=Hz g b c (gt e l)):frW e a i l=false:=by
 unfold frW;rw[k,m,n];simp only[gE]at d f j;rw[d,f,j];simp;omega
theorem Akb{b c d e f x y:Int}(h:Bf w a j #[p,b,c,d,e,f]):Calls prog 284 #[.slice (some ⟨a,0,none⟩) 3 3,.agg #[x,y]] w (Bz w (Hz (p,b) (c,d) (e,f) (x,y))) :=
 ri a 0 3 [(p,b),(c,d),(e,f)] x y w aA (SpS.of3 h)
theorem Aa7(I E g n f k:Nat)(l:LP)(w:World)(S:n<=1000000)(C:n<=f)(X:Cq w I 0 (.func (.func 280) #[] #[.pointer (some ⟨E,0,none⟩)]))(J:Cq w E 0 (.slice (some ⟨g,0,none⟩) n f))(K:SpS w (some ⟨g,0,none⟩) n l)(R:k<n):Calls prog 283 #[k,.pointer (some ⟨I,0,none⟩),.pointer (some ⟨E,0,none⟩)] w (Bz w (.bool (Gp l n k))):=by
 have Q:=Ea;have o:=Mm E g n f k l w S C J K R;let⟨t,u,H⟩:∃t u,gt l ((k+n-1) % n)=(t,u):=⟨_,_,rfl⟩
 let⟨v,x,h⟩:∃v x,gt l k=(v,x):=⟨_,_,rfl⟩
 let⟨y,z,m⟩:∃y z,gt l ((k+1) % n)=(y,z):=⟨_,_,rfl⟩
 rw[H,h,m]at o;have s:=Ar o;clear o;have p:=Ar H;have q:=Ar h;have r:=Ar m;clear H h m;by_cases T:0<Bs (t,u) (v,x) (y,z)
 .go_in
  go_upto_region 4 with (first|(go_at_call 280;refine s.out.mono ?_;rintro e d ⟨rfl,b⟩)|(go_at_call 282;refine rR (Ev) λM c=>?_))
  have a:Cls w [(⟨d,0,none⟩,.int .i64 t),(⟨d,1,none⟩,.int .i64 u),(⟨d+1,0,none⟩,.int .i64 v),(⟨d+1,1,none⟩,.int .i64 x),(⟨d+1+1,0,none⟩,.int .i64 y),(⟨d+1+1,1,none⟩,.int .i64 z)] M:=Cls.call ⟨Ao (Ao (Ao b)),aR⟩ c;let⟨B,F⟩:∃B,B=d.heap.size:=⟨_,rfl⟩
  have P:w.heap.size<=B:=by rw[F];exact b.size
  rw[<-F]at a ⊢;clear b c F;have G:=Aq a.1 J;go_wp2;go_loopw [24] (λi wr=>∃j:Nat,j<=n/\i=j/\Hid (Ix (frW l n k) j=true)/\Cls w [(⟨B,0,none⟩,.int .i64 t),(⟨B,1,none⟩,.int .i64 u),(⟨B+1,0,none⟩,.int .i64 v),(⟨B+1,1,none⟩,.int .i64 x),(⟨B+1+1,0,none⟩,.int .i64 y),(⟨B+1+1,1,none⟩,.int .i64 z)] wr) λi _=>n-(intOf i).toNat
  case atStart=>exact⟨0,aB,rfl,Ix.zero _,a⟩
  clear a G;obtain⟨j,Y,rfl,hq,a⟩:=hrel;by_cases D:j<n
  .obtain⟨N,O⟩:=(K.keep a.1).cells D;simp only[dB]at N O;have L:=a.2;simp only[AC]at L;obtain⟨U,x1,V,x3,W,x5⟩:=L;have Z:B<wr.heap.size:=Bi U;have l1:B+1<wr.heap.size:=Bi V;have l2:B+1+1<wr.heap.size:=Bi W
   go_wp2_with (go_at_call 284;refine rR (Akb (Bf.new2 _ _ _ _)) λw3 A=>?_)
   .exact aE ⟨Ix.succ hq.out (Apz p.out aQ),a.call blA⟩
   .exact aE ⟨Ix.succ hq.out (Apy q.out aQ),a.call blA⟩
   .exact aE ⟨Ix.succ hq.out (Apx r.out aQ),a.call blA⟩
   .go_ret;exact⟨Bn (Aa6 D (Apv p.out q.out r.out aQ aQ aQ aQ)).symm,(a.call (An (Ao blA) A)).1⟩
   exact aE ⟨Ix.succ hq.out (Apw p.out q.out r.out aQ),a.call (An (Ao blA) A)⟩
  obtain rfl:n=j:=aK
  go_wp2;go_ret;exact⟨Bn (Aa5 (by rw[p.out,q.out,r.out];exact T) hq.out).symm,a.1⟩
 go_in
 go_wp2_with (first|(go_at_call 280;refine s.out.mono ?_;rintro e d ⟨rfl,b⟩)|(go_at_call 282;refine rR (Ev) λM c=>?_))
 go_ret;exact⟨Bn (Agj (by rw[p.out,q.out,r.out];omega)).symm,An (Ao (Ao (Ao b))) c⟩
theorem Tu{P:Program}(w:World)(q B C d:TypeId)(f:Nat)(g o c k:Nat)(a:Addr)(e n:Nat)(b:Array Value)(t:TypeId)(h:List Value)
 (A:P.underlying q=some (.slice d)) (r:(P.info? d).map (·.size)=some f)
 (u:w.heap[g]? = some (.cells b t (0,0))) (z:h.length=Nat.min e c*f)
 (m:∀j v,h[j]? = some v->w.cell? (a.add j)=some v) (l:o+h.length<=b.size) (s:∀v∈h,v.oneCell'=true) :
 (Builtin.copy_ #[q,B] C #[.slice (some ⟨g,o,none⟩) c k,.slice (some a) e n]).run P w =
  .ok (goInt (Nat.min e c)) (w.setRow g (b.toList.take o++h++b.toList.drop (o+h.length)).toArray):=by
 have y:=run_loadCells_list (P:=P) w a h m;have p:=run_storeCells_at P g o t h 0 b w u (by simpa using l) s;cases hq:P.info? d with
 | none=>simp[hq]at r
 | some i =>
   have x:i.size=f:=by simpa[hq] using r
   simp[Builtin.copy_,run_underlying A,Builtin.lenOf,Builtin.firstCells,sizeOf,typeInfo,hq,x,<-z,y,p]
theorem Vp{P:Program}{o:Oper}{K:Act->World->Prop}(d s:Operand)(a e:TypeId){g i:Value}
 (l:o.op=.call { callee:=.builtin .copy,args:=#[d,s],argTypes:=#[a,e] }) (j:k.eval d=g) (n:k.eval s=i)
 (m:∀p,(Builtin.copy_ #[a,e] p #[g,i]).run P w=.ok c b) (h:K (k.put o.dst c) b):Oper.wp P o k w K f:=by
 unfold Oper.wp execOp;simp only[l,resolve,invoke,builtin,iP,iQ,gY,iF,eV,fO,j,n,m];exact h
theorem I2{P:Program}{e:Array Oper}{a:List Oper}{o:Oper}(i:o.guard=none)(g j:TypeId){l n:Value}
 (r:o.op=.call { callee:=.builtin .copy,args:=#[d,m],argTypes:=#[g,j] }) (q:k.eval d=l) (t:k.eval m=n)
 (s:∀u,(Builtin.copy_ #[g,j] u #[l,n]).run P w=.ok c b) (h:wpList P e f a (k.put o.dst c) b):wpList P e f (o::a) k w :=
 gT i λ_ p=>Vp d m g j r q t s (p _ _ h)
theorem Ae0:(prog.info? 65).map (·.size)=some 2:=aN
theorem te(l:LP):∀u∈l.flatMap enS,u.oneCell'=true:=by
 intro u b;let⟨p,_,a⟩:=gB.1 b;exact Io p u a
theorem Uw(l:LP)(i:Nat):(l.flatMap enS).take (i*2)=(l.take i).flatMap enS:=by
 induction l generalizing i with
 | nil=>simp
 | cons a l ih =>
   cases i with
   | zero=>simp
   | succ i =>
     rw[List.take_succ_cons,cM,cM,<-ih,show (i+1)*2=i*2+1+1 by omega];simp[enS]
theorem s9{A:List Value}(h:e.length=a)(f:A.take (a*2)=e.flatMap enS)(g:i<a):
 (A.take (i*2)++(e.drop (i+1)).flatMap enS++A.drop (i*2+((e.drop (i+1)).flatMap enS).length)).take ((a-1)*2)=(e.eraseIdx i).flatMap enS:=by
 have d:A.take (i*2)=(e.take i).flatMap enS:=by
  rw[<-Uw,<-f,List.take_take];congr 1;omega
 have b:((e.take i).flatMap enS).length=i*2:=by rw[Cz Cm,bC];omega
 have c:((e.drop (i+1)).flatMap enS).length=(a-1-i)*2:=by rw[Cz Cm,dF];omega
 rw[d,List.take_append_of_le_length (by rw[bA,b,c];omega),cW (by rw[bA,b,c];omega),<-dH,<-List.eraseIdx_eq_take_drop_succ]
theorem OwS.erase{c b:Nat}(h:OwS w a (.slice (some ⟨i,0,none⟩) l c) e)(C:e.length=l)(n:b<l)(o:Addr)(r:b+1<l->o=⟨i,(b+1)*2,none⟩):
 ∃W,(∀t,(Builtin.copy_ #[48,48] t #[.slice (some ⟨i,b*2,none⟩) (l-b) (c-b),.slice (some o) (l-(b+1)) (c-(b+1))]).run prog w=.ok (.int .i64 ((l-(b+1):Nat):Int)) W) /\
  OwS W a (.slice (some ⟨i,0,none⟩) (l-1) c) (e.eraseIdx b)/\w.grownBy W (some i):=by
 subst C
 have s:SpS w (some o) (e.length-(b+1)) (e.drop (b+1)):=by
  rcases bG (b+1) e.length with v|v
  .rw[r v];simpa using (h.spsg rfl).drop (i:=b+1) (by omega)
  exact⟨by rw[dF],.inl (by omega)⟩
 obtain⟨F,z⟩:=h;rcases z with⟨j,_⟩|⟨E,u,A,j,B,x,D,p,m,g⟩
 .cases j
 injection j with e1 e2 e3
 injection e1 with e1
 injection e1 with e1
 subst e1 e3;have d:=Cz Cm (e.drop (b+1));rw[dF]at d;have f:Nat.min (e.length-(b+1)) (e.length-b)=e.length-(b+1):=eR (by omega);have y:=λt=>Tu (P:=prog) w 48 48 t 65 2 i (b*2) (e.length-b) (c-b) o (e.length-(b+1)) (c-(b+1)) A 65 ((e.drop (b+1)).flatMap enS) underlying48 Ae0 x (by rw[d,f]) (Ij s) (by rw[d,m];omega) (te _)
 rw[f]at y;refine⟨_,y,⟨?_,.inr ⟨i,c,_,?_,B,setRow_heap w i A _ _ _ x,by rw[List.length_eraseIdx_of_lt n];omega,p,?_,?_⟩⟩,⟨rfl,rfl,rfl,by simp[World.setRow],λk _ q=>setRow_other w i k _ λj=>q (by rw[j])⟩⟩
 .rw[Cz Cm]
 .rw[List.length_eraseIdx_of_lt n]
 .rw[List.size_toArray,bA,bA,bC,dF,d,Array.length_toList,m];omega
 rw[List.length_eraseIdx_of_lt n];exact s9 rfl g n
def ElS(w:World)(b:Nat)(v:Value)(l:LP):Prop:=∃A c,v=.slice A l.length c/\l.length<=c/\SpS w A l.length l/\(A=none->c=0)/\(∀a,A=some a->b<=a.block/\∃d e,w.heap[a.block]? = some (.cells d 65 e))
def enV(v:Value):List Value:=[v]
def Iw(w:World)(a:Nat)(v:Value)(c:List LP):Prop :=
 ∃b:List Value,OwG 48 1 enV w a v b/\b.length=c.length/\(∀u∈b,u.oneCell'=true)/\∀(i:Nat) (u:Value) (l:LP),b[i]? = some u->c[i]? = some l->ElS w a u l
theorem D9{o:Obj}(h:w.heap[a]? = some o):a<w.heap.size:=(Array.getElem?_eq_some_iff.1 h).1
theorem ElS.keepAbove(h:ElS w a c e)(q:∀k g i,a<=k->w.heap[k]? = some (.cells g 65 i)->w'.heap[k]? = w.heap[k]?):ElS w' a c e:=by
 obtain⟨A,r,rfl,s,d,t,o⟩:=h;refine⟨A,r,rfl,s,⟨d.1,?_⟩,t,λn u=>?_⟩
 .obtain⟨_,d⟩:=d;rcases d with d|⟨b,f,rfl,d⟩
  .exact .inl d
  let⟨l,g,i,m⟩:=o _ rfl;have p:=q b g i l m;exact .inr ⟨b,f,rfl,λk j=>⟨(World.cell?_of_block (w:=w) (a:=⟨b,f+k*2,none⟩) p).trans (d k j).1,(World.cell?_of_block (w:=w) (a:=⟨b,f+k*2+1,none⟩) p).trans (d k j).2⟩⟩
 let⟨l,g,i,m⟩:=o _ u;exact⟨l,g,i,(q _ g i l m).trans m⟩
theorem ElS.keep(h:ElS w base c e)(a:Be w b):ElS b base c e:=h.keepAbove λk _ _ _ d=>a.block k (D9 d)
theorem ElS.grown{d:Option Nat}(h:ElS w a c e)(j:w.grownBy b d)(m:∀k f g,a<=k->w.heap[k]? = some (.cells f 65 g)->some k≠d):ElS b a c e:=h.keepAbove λk f g l i=>j.block k (D9 i) (m k f g l i)
theorem Iw.nil:Iw w a (.slice none 0 0) []:=⟨[],OwG.nil,rfl,aL,aL⟩
theorem Iw.keep(d:Iw w base c h)(a:Be w b):Iw b base c h:=by
 obtain⟨n,e,f,g,j⟩:=d;exact⟨n,e.keep a,f,g,λi u l m k=>(j i u l m k).keep a⟩
theorem OwG.keepAbove{p:Type}{b:p->List Value}{l:List p}(h:OwG j a b w i c l)(s:∀k,i<=k->k<w.heap.size->w'.heap[k]? = w.heap[k]?):OwG j a b w' i c l:=by
 have m:=h.lt;obtain⟨q,f⟩:=h;refine⟨q,?_⟩;rcases f with f|⟨g,d,e,o,n,t,r⟩
 .exact Or.inl f
 refine Or.inr ⟨g,d,e,o,n,?_,r⟩;rw[s g n (m g (by rw[o];rfl)).2];exact t
theorem Iw.keepAbove(d:Iw w a c h)(b:∀k,a<=k->k<w.heap.size->w'.heap[k]? = w.heap[k]?):Iw w' a c h:=by
 obtain⟨q,e,f,g,j⟩:=d;exact⟨q,e.keepAbove b,f,g,λi u l p o=>(j i u l p o).keepAbove λk _ _ n m=>b k n (D9 m)⟩
theorem Iw.lower(o:Iw w a c h)(g:base'<=a):Iw w base' c h:=by
 obtain⟨x,p,q,r,s⟩:=o
 exact⟨x,p.lower g,q,r,λi u l v t=>by
  let⟨A,j,e,k,m,n,d⟩:=s i u l v t;exact⟨A,j,e,k,m,n,λb f=>⟨bB g (d b f).1,(d b f).2⟩⟩⟩
theorem ElS.lower(h:ElS w a c e)(m:base'<=a):ElS w base' c e:=by
 obtain⟨A,g,i,j,k,l,d⟩:=h;exact⟨A,g,i,j,k,l,λb f=>⟨bB m (d b f).1,(d b f).2⟩⟩
theorem Aj2:(prog.info? 48).map (λi=>(i.zero,i.size,i.bytes))=some (some (.slice none 0 0),1,24):=aN
theorem Ss(v:Value):(enV v).length=1:=rfl
theorem Fo{E:Array Oper}{q:List Oper}{o:Oper}
 (ho:o.op=.call { callee:=.builtin .append,args:=#[m,x],argTypes:=#[37,37] })
 (a:Nat)  (J:List LP)  (D:Iw w a c J)
 (G K:Nat) (u:Value) (l:LP) (tb:TypeId)  (C:Bf w G tb #[u]) (hu:ElS w a u l)
  (s:a<=w.heap.size)
 (h:∀v F,Iw F a v (J++[l])->w.grownBy F c.ownBlock->(v.ownBlock=c.ownBlock\/v.ownBlock=some w)->wpList prog E f q (k.put o.dst v) F)  (R:o.guard=none:=by rfl) (hs:k.eval m=c:=by rfl) (hx:k.eval x=.slice (some ⟨G,0,none⟩) 1 K:=by rfl) (hlen:J.length<=1000000:=by omega) :
 wpList prog E f (o::q) k w:=by
 let⟨i,hi,U,V,W⟩:=dW Aj2;obtain⟨r,N,H,Y,Z⟩:=D;have p:u.oneCell'=true:=by obtain⟨A,K,rfl,_⟩:=hu;rfl
 have e:∀n L M,a<=n->w.heap[n]? = some (.cells L 65 M)->some n≠c.ownBlock:=by
  intro n L M _ I he;rcases N.2 with⟨rfl,_⟩|⟨g,a7,a8,rfl,_,z,_⟩
  .cases he
  have:n=g:=by simpa[Value.ownBlock] using he
  subst this;rw[z]at I;injection I with I
  injection I with _ ht
  exact absurd ht (by decide)
 have Q:r.flatMap enV=r:=by
  clear N H Y Z e;induction r with
  | nil=>rfl
  | cons k l ih=>rw[cM,ih];rfl
 refine eX (P:=prog) w R m x 37 ho a 48 i (.slice none 0 0) 1 24 underlying37 hi U V W rfl (by omega) c r.length (r.flatMap enV) hs N ⟨G,0,none⟩ 1 K [u] hx rfl ?_ (by simpa using p) (by rw[H];unfold maxLen;omega) (by rw[H];omega) s ?_
 .intro j y hj;exact eI (w:=w) (B:=G) (cs:=#[u]) (t:=tb) (fr:=(0,0)) C j y (by simpa using hj)
 intro v F T z _ O;refine h v F ⟨r++[u],?_,by rw[bA,bA,H];rfl,?_,?_⟩ z O
 .unfold OwG;rw[bA,dH];exact T
 .intro y b;rcases bD.1 b with b|b
  .exact Y y b
  rw[fQ.1 b];exact p
 intro n y l' b d;rcases bG n r.length with S|S
 .rw[cF S]at b;rw[cF (by omega)]at d;exact(Z n y l' b d).grown z e
 rw[cI S]at b;rw[cI (by omega)]at d;rcases bK (n-r.length) with X|X
 .rw[X]at b;rw[show n-J.length=0 by omega]at d;simp at b d;subst b d;exact hu.grown z e
 rw[bI (by simp;omega)]at b;cases b
end Go.Proofs.YtboghahlhmnblaaGreat
