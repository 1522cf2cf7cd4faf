/- Lean texts of the claim. -/
import Derived.Test.YtlogblbfbihleaaGreatZr01
import Derived.Laws.CopyRow
import Derived.Laws.MakeOwn
import Derived.Deep.RegionLaw
import Derived.Shelf.Abstract
import Derived.Laws.EntriesVeiled
namespace Go.Proofs.YtlogblbfbihleaaGreat
set_option linter.all false
set_option maxRecDepth 100000
set_option maxHeartbeats 0
open Go.RowKit
variable{a j q:Nat}{b o p:Int×Int}{e r:World}{f:LP}{g:Value}{h:Exit->Act->World->Prop}{i:List LP}{k:Program}{l:Act}{m:Int}{n:TypeId}
theorem Mm(a g n b k:Nat) (l:LP) (w:World) (D:n<=1000000) (h:n<=b) (q:Cq w a 0 (.slice (some ⟨g,0,none⟩) n b)) (e:SpS w (some ⟨g,0,none⟩) n l) (r:k<n) :
 Calls Tryz.prog 300 #[k,.pointer (some ⟨a,0,none⟩)] w (Bz w (.tuple #[.agg #[(gt l ((k+n-1) % n)).1,(gt l ((k+n-1) % n)).2],.agg #[(gt l k).1,(gt l k).2],.agg #[(gt l ((k+1) % n)).1,(gt l ((k+1) % n)).2]])):=by
 have c:(k+1) % n<n:=Nat.mod_lt _ (by omega);have d:(k+n-1) % n<n:=Nat.mod_lt _ (by omega);let⟨f,i⟩:=e.cells r;let⟨j,m⟩:=e.cells c;let⟨o,p⟩:=e.cells d;simp only[Nat.zero_add]at f i j m o p;have E:a<w.heap.size:=Bi q;have F:g<w.heap.size:=Bi f;have s:a<w.heap.size+1:=by omega
 have t:a<w.heap.size+1+1:=by omega
 have u:g<w.heap.size+1:=by omega
 have x:g<w.heap.size+1+1:=by omega
 go_in;go_wp2;have y:=Q6 ((k:Int)+1) (k+1) n rfl (by omega);have z:=Q6 ((k:Int)+(n:Int)-1) (k+n-1) n (by omega) (by omega);have A:IntKind.i64.wrap ((k:Int)+1)=(k:Int)+1:=Dx k 1 (by omega);have B:IntKind.i64.wrap ((k:Int)+(n:Int))=(k:Int)+(n:Int):=Dx k n (by omega);have C:IntKind.i64.wrap ((k:Int)+(n:Int)-1)=(k:Int)+(n:Int)-1:=Fm _ (by omega) (by omega);have G:¬n=0:=by omega
 go_region;clear y z A B C;go_wp2;exact bR ⟨rfl,Aw (Ao (Ao blA _) _)⟩ rfl (by simp[results,Tryz.results300,go_sem])
theorem Pk(F:Nat) (j:Array Value) (n:Nat) (f:Nat->Bool) (w:World) (q:n<=1000000)
 (o:∀args w,(callFunc F args).run Tryz.prog w=.ok (.enter F args) w)
 (l:∀(k:Nat) (d:World),k<n->Below w.heap.size w d->Calls Tryz.prog F (#[.int .i64 k]++j) d λe h=>e=.returned (.bool (f k))/\Below d.heap.size d h) :
 Calls Tryz.prog 305 #[.int .i64 n,.func (.func F) #[] j] w (Bz w (.int .i64 (Db f n))):=by
 have m:=Ar l;clear l;go_in;go_wp2;go_loopw [7] (λi wr=>∃k:Nat,k<=n/\i=.int .i64 k/\Hid (Bp f k=false)/\Below w.heap.size w wr) λi _=>n-(intOf i).toNat
 case atStart=>exact⟨0,Nat.zero_le _,rfl,Bp.zero _,bl0⟩
 obtain⟨k,p,rfl,g,c⟩:=hrel;by_cases b:k<n
 .go_wp2;refine rR (m.out k wr b c) λr a=>?_;go_wp2
  .go_ret;exact⟨Bm (Hf b g.out (by assumption)).symm,An c a⟩
  go_roundw
  case rel=>exact⟨k+1,by omega,by go_num,Bp.succ g.out (by simpa using ‹_›),An c a⟩
  case measure=>simp[intOf];omega
 obtain rfl:n=k:=by omega
 go_wp2;go_ret;exact⟨Bm (Fy g.out).symm,c⟩
def Tl (l:LP) (n k:Nat):Bool:=Bs (gt l ((k+n-1) % n)) (gt l k) (gt l ((k+1) % n)) == 0
def frW (l:LP) (n k i:Nat):Bool:=eqS (gt l i) (gt l ((k+n-1) % n)) || eqS (gt l i) (gt l k) || eqS (gt l i) (gt l ((k+1) % n)) || decide (Hz (gt l ((k+n-1) % n)) (gt l k) (gt l ((k+1) % n)) (gt l i)<0)
def Gp (l:LP) (n k:Nat):Bool:=decide (0<Bs (gt l ((k+n-1) % n)) (gt l k) (gt l ((k+1) % n)))&&Ix (frW l n k) n
theorem Mr(h c g n a k:Nat) (l:LP) (w:World) (m:n<=1000000) (b:n<=a) (p:Cq w h 0 (.func (.func 300) #[] #[.pointer (some ⟨c,0,none⟩)])) (i:Cq w c 0 (.slice (some ⟨g,0,none⟩) n a)) (o:SpS w (some ⟨g,0,none⟩) n l) (j:k<n) :
 Calls Tryz.prog 301 #[k,.pointer (some ⟨h,0,none⟩)] w (Bz w (.bool (Tl l n k))):=by
 go_in
 go_wp2_with (first|(go_at_call 300;refine rR (Mm c g n a k l _ m b i o j) λq d=>?_)|(go_at_call 302;refine rR (Ev _ _ _ _ _ _ _) λr f=>?_))
 go_ret;exact⟨rfl,An d f⟩
theorem Agj(h:¬0<Bs (gt f ((j+a-1) % a)) (gt f j) (gt f ((j+1) % a))):Gp f a j=false:=by
 unfold Gp;simp[h]
theorem Aa6(b:q<a) (h:frW f a j q=false):Gp f a j=false:=by
 unfold Gp;rw[Ix.no b h,Bool.and_false]
theorem Aa5(h:0<Bs (gt f ((j+a-1) % a)) (gt f j) (gt f ((j+1) % a))) (b:Ix (frW f a j) a=true):Gp f a j=true:=by
 unfold Gp;rw[b];simp[h]
theorem SpS.of3{w:World}   {b c d c0 e:Int} (h:Bf w a n #[m,b,c,d,c0,e]):SpS w (some ⟨a,0,none⟩) 3 [(m,b),(c,d),(c0,e)]:=by
 refine⟨rfl,.inr ⟨a,0,rfl,λk p=>?_⟩⟩;have f:=h.cell 0;have g:=h.cell 1;have i:=h.cell 2;have j:=h.cell 3;have l:=h.cell 4;have o:=h.cell 5;rcases(show k=0\/k=1\/k=2 by omega) with rfl|rfl|rfl
 .exact⟨f,g⟩
 .exact⟨i,j⟩
 exact⟨l,o⟩
theorem Apz(c:gt f ((j+a-1) % a)=b) (h:eqS (gt f q) b=true):frW f a j q=true:=by
 unfold frW;rw[c,h];rfl
theorem Apy(c:gt f j=b) (h:eqS (gt f q) b=true):frW f a j q=true:=by
 unfold frW;rw[c,h];simp
theorem Apx{c:Int×Int} (b:gt f ((j+1) % a)=c) (h:eqS (gt f q) c=true):frW f a j q=true:=by
 unfold frW;rw[b,h];simp
theorem Apw{c:Int×Int} (d:gt f ((j+a-1) % a)=b) (e:gt f j=o) (g:gt f ((j+1) % a)=c) (h:Hz b o c (gt f q)<0):frW f a j q=true:=by
 unfold frW;rw[d,e,g,decide_eq_true h];simp
theorem Apv{c:Int×Int} (i:gt f ((j+a-1) % a)=b) (k:gt f j=o) (l:gt f ((j+1) % a)=c) (d:¬eqS (gt f q) b=true) (e:¬eqS (gt f q) o=true) (g:¬eqS (gt f q) c=true) (h:0<=Hz b o c (gt f q)):frW f a j q=false:=by
 unfold frW;rw[i,k,l];simp only[Bool.not_eq_true]at d e g;rw[d,e,g];simp;omega
theorem Akb(g:Nat) (t:TypeId) (a b c d c0 e x y:Int) (w:World) (h:Bf w g t #[a,b,c,d,c0,e]) :
 Calls Tryz.prog 304 #[.slice (some ⟨g,0,none⟩) 3 3,.agg #[x,y]] w (Bz w (Hz (a,b) (c,d) (c0,e) (x,y))) :=
 ri g 0 3 [(a,b),(c,d),(c0,e)] x y w (Nat.le_refl _) (SpS.of3 h)
theorem Aa7(H D g n f k:Nat) (l:LP) (w:World) (R:n<=1000000) (A:n<=f) (W:Cq w H 0 (.func (.func 300) #[] #[.pointer (some ⟨D,0,none⟩)])) (I:Cq w D 0 (.slice (some ⟨g,0,none⟩) n f)) (J:SpS w (some ⟨g,0,none⟩) n l) (Q:k<n) :
 Calls Tryz.prog 303 #[k,.pointer (some ⟨H,0,none⟩),.pointer (some ⟨D,0,none⟩)] w (Bz w (.bool (Gp l n k))):=by
 have P:=Ea;have o:=Mm D g n f k l w R A I J Q;let⟨t,u,G⟩:∃t u,gt l ((k+n-1) % n)=(t,u):=⟨_,_,rfl⟩
 let⟨v,x,h⟩:∃v x,gt l k=(v,x):=⟨_,_,rfl⟩
 let⟨c0,y,m⟩:∃c0 y,gt l ((k+1) % n)=(c0,y):=⟨_,_,rfl⟩
 rw[G,h,m]at o;have s:=Ar o;clear o;have p:=Ar G;have q:=Ar h;have r:=Ar m;clear G h m;by_cases S:0<Bs (t,u) (v,x) (c0,y)
 .go_in
  go_upto_region 4 with (first|(go_at_call 300;refine s.out.mono ?_;rintro e d ⟨rfl,b⟩)|(go_at_call 302;refine rR (Ev _ _ _ _ _ _ _) λL c=>?_))
  have a:Cls w [(⟨d.heap.size,0,none⟩,.int .i64 t),(⟨d.heap.size,1,none⟩,.int .i64 u),(⟨d.heap.size+1,0,none⟩,.int .i64 v),(⟨d.heap.size+1,1,none⟩,.int .i64 x),(⟨d.heap.size+1+1,0,none⟩,.int .i64 c0),(⟨d.heap.size+1+1,1,none⟩,.int .i64 y)] L:=Cls.call ⟨Ao (Ao (Ao b _) _) _,by simp only[List.mem_cons,List.not_mem_nil,forall_eq_or_imp,or_false,forall_eq];go_simp⟩ c;let⟨B,E⟩:∃B,B=d.heap.size:=⟨_,rfl⟩
  have O:w.heap.size<=B:=by rw[E];exact b.size
  rw[<-E]at a ⊢;clear b c E;have F:=Aq a.1 I;go_wp2;go_loopw [24] (λi wr=>∃j:Nat,j<=n/\i=.int .i64 j/\Hid (Ix (frW l n k) j=true)/\Cls w [(⟨B,0,none⟩,.int .i64 t),(⟨B,1,none⟩,.int .i64 u),(⟨B+1,0,none⟩,.int .i64 v),(⟨B+1,1,none⟩,.int .i64 x),(⟨B+1+1,0,none⟩,.int .i64 c0),(⟨B+1+1,1,none⟩,.int .i64 y)] wr) λi _=>n-(intOf i).toNat
  case atStart=>exact⟨0,Nat.zero_le _,rfl,Ix.zero _,a⟩
  clear a F;obtain⟨j,X,rfl,hq,a⟩:=hrel;by_cases C:j<n
  .obtain⟨M,N⟩:=(J.keep a.1).cells C;simp only[Nat.zero_add]at M N;have K:=a.2;simp only[List.mem_cons,List.not_mem_nil,forall_eq_or_imp,or_false,forall_eq]at K;obtain⟨T,x1,U,x3,V,x5⟩:=K;have Y:B<wr.heap.size:=Bi T;have Z:B+1<wr.heap.size:=Bi U;have l2:B+1+1<wr.heap.size:=Bi V
   go_wp2_with (go_at_call 304;refine rR (Akb _ _ _ _ _ _ _ _ _ _ _ (Bf.new2 _ _ _ _)) λw3 z=>?_)
   .exact⟨⟨j+1,by omega,by go_num,Ix.succ hq.out (Apz p.out (by assumption)),a.call blA⟩,by simp[intOf];omega⟩
   .exact⟨⟨j+1,by omega,by go_num,Ix.succ hq.out (Apy q.out (by assumption)),a.call blA⟩,by simp[intOf];omega⟩
   .exact⟨⟨j+1,by omega,by go_num,Ix.succ hq.out (Apx r.out (by assumption)),a.call blA⟩,by simp[intOf];omega⟩
   .go_ret;exact⟨Bn (Aa6 C (Apv p.out q.out r.out (by assumption) (by assumption) (by assumption) (by assumption))).symm,(a.call (An (Ao blA _) z)).1⟩
   exact⟨⟨j+1,by omega,by go_num,Ix.succ hq.out (Apw p.out q.out r.out (by assumption)),a.call (An (Ao blA _) z)⟩,by simp[intOf];omega⟩
  obtain rfl:n=j:=by omega
  go_wp2;go_ret;exact⟨Bn (Aa5 (by rw[p.out,q.out,r.out];exact S) hq.out).symm,a.1⟩
 go_in
 go_wp2_with (first|(go_at_call 300;refine s.out.mono ?_;rintro e d ⟨rfl,b⟩)|(go_at_call 302;refine rR (Ev _ _ _ _ _ _ _) λL c=>?_))
 go_ret;exact⟨Bn (Agj (by rw[p.out,q.out,r.out];omega)).symm,An (Ao (Ao (Ao b _) _) _) c⟩
theorem Tu{P:Program} (w:World) (q B C d:TypeId) (f:Nat) (g o c k:Nat) (a:Addr) (e n:Nat) (b:Array Value) (t:TypeId) (h:List Value)
 (A:P.underlying q=some (.slice d)) (r:(P.info? d).map (·.size)=some f)
 (u:w.heap[g]? = some (.cells b t (0,0))) (z:h.length=Nat.min e c*f)
 (m:∀j v,h[j]? = some v->w.cell? (a.add j)=some v) (l:o+h.length<=b.size) (s:∀v∈h,v.oneCell'=true) :
 (Builtin.copy_ #[q,B] C #[.slice (some ⟨g,o,none⟩) c k,.slice (some a) e n]).run P w =
  .ok (goInt (Nat.min e c)) (w.setRow g (b.toList.take o++h++b.toList.drop (o+h.length)).toArray):=by
 have y:=run_loadCells_list (P:=P) w a h m;have p:=run_storeCells_at P g o t h 0 b w u (by simpa using l) s;cases hq:P.info? d with
 | none=>simp[hq]at r
 | some i =>
   have x:i.size=f:=by simpa[hq] using r
   simp[Builtin.copy_,run_underlying A,Builtin.lenOf,Builtin.firstCells,sizeOf,typeInfo,hq,x,<-z,y,p]
theorem Vp{o:Oper}  {w:World} {K:Act->World->Prop} {Q:Exit->Act->World->Prop} (d s:Operand) (a b:TypeId) {c f:Value}
 (j:o.op=.call { callee:=.builtin .copy,args:=#[d,s],argTypes:=#[a,b] }) (i:l.eval d=c) (n:l.eval s=f)
 (m:∀p,(Builtin.copy_ #[a,b] p #[c,f]).run k w=.ok g e) (h:K (l.put o.dst g) e):Oper.wp k o l w K Q:=by
 unfold Oper.wp execOp;simp only[j,resolve,invoke,builtin,Sem.run_bind,Sem.run_pure,Result.andThen_ok,List.map_toArray,List.map_cons,List.map_nil,i,n,m];exact h
theorem I2{w:World} {b:Array Oper} {a:List Oper} {o:Oper}  {Q:Exit->Act->World->Prop} (f:o.guard=none) (d s:Operand) (c i:TypeId) {j m:Value}
 (q:o.op=.call { callee:=.builtin .copy,args:=#[d,s],argTypes:=#[c,i] }) (p:l.eval d=j) (t:l.eval s=m)
 (r:∀u,(Builtin.copy_ #[c,i] u #[j,m]).run k w=.ok g e) (h:wpList k b Q a (l.put o.dst g) e):wpList k b Q (o::a) l w :=
 wpList_plain f λ_ n=>Vp d s c i q p t r (n _ _ h)
theorem Ae0:(Tryz.prog.info? 60).map (·.size)=some 2:=by kernel_rfl
theorem te(l:LP):∀u∈l.flatMap enS,u.oneCell'=true:=by
 intro u b;let⟨p,_,a⟩:=List.mem_flatMap.1 b;exact Io p u a
theorem Uw(l:LP) (i:Nat):(l.flatMap enS).take (i*2)=(l.take i).flatMap enS:=by
 induction l generalizing i with
 | nil=>simp
 | cons a l ih =>
   cases i with
   | zero=>simp
   | succ i =>
     rw[List.take_succ_cons,List.flatMap_cons,List.flatMap_cons,<-ih,show (i+1)*2=i*2+1+1 by omega];simp[enS]
theorem s9{A:List Value}   (h:f.length=a) (e:A.take (a*2)=f.flatMap enS) (g:j<a) :
 (A.take (j*2)++(f.drop (j+1)).flatMap enS++A.drop (j*2+((f.drop (j+1)).flatMap enS).length)).take ((a-1)*2)=(f.eraseIdx j).flatMap enS:=by
 have d:A.take (j*2)=(f.take j).flatMap enS:=by
  rw[<-Uw,<-e,List.take_take];congr 1;omega
 have b:((f.take j).flatMap enS).length=j*2:=by rw[Cz Cm,List.length_take];omega
 have c:((f.drop (j+1)).flatMap enS).length=(a-1-j)*2:=by rw[Cz Cm,List.length_drop];omega
 rw[d,List.take_append_of_le_length (by rw[List.length_append,b,c];omega),List.take_of_length_le (by rw[List.length_append,b,c];omega),<-List.flatMap_append,<-List.eraseIdx_eq_take_drop_succ]
theorem OwS.erase{w:World} {b i:Nat}  (h:OwS w a (.slice (some ⟨j,0,none⟩) q b) f) (C:f.length=q) (m:i<q) (n:Addr) (r:i+1<q->n=⟨j,(i+1)*2,none⟩) :
 ∃W,(∀t,(Builtin.copy_ #[46,46] t #[.slice (some ⟨j,i*2,none⟩) (q-i) (b-i),.slice (some n) (q-(i+1)) (b-(i+1))]).run Tryz.prog w=.ok (.int .i64 ((q-(i+1):Nat):Int)) W) /\
  OwS W a (.slice (some ⟨j,0,none⟩) (q-1) b) (f.eraseIdx i)/\w.grownBy W (some j):=by
 subst C
 have s:SpS w (some n) (f.length-(i+1)) (f.drop (i+1)):=by
  rcases Nat.lt_or_ge (i+1) f.length with v|v
  .rw[r v];simpa using (h.spsg rfl).drop (i:=i+1) (by omega)
  exact⟨by rw[List.length_drop],.inl (by omega)⟩
 obtain⟨F,z⟩:=h;rcases z with⟨e,_⟩|⟨E,u,A,e,B,x,D,o,l,g⟩
 .cases e
 injection e with e1 e2 e3
 injection e1 with e1
 injection e1 with e1
 subst e1 e3;have c:=Cz Cm (f.drop (i+1));rw[List.length_drop]at c;have d:Nat.min (f.length-(i+1)) (f.length-i)=f.length-(i+1):=Nat.min_eq_left (by omega);have y:=λt=>Tu (P:=Tryz.prog) w 46 46 t 60 2 j (i*2) (f.length-i) (b-i) n (f.length-(i+1)) (b-(i+1)) A 60 ((f.drop (i+1)).flatMap enS) Tryz.underlying46 Ae0 x (by rw[c,d]) (Ij s) (by rw[c,l];omega) (te _)
 rw[d]at y;refine⟨_,y,⟨?_,.inr ⟨j,b,_,?_,B,setRow_heap w j A _ _ _ x,by rw[List.length_eraseIdx_of_lt m];omega,o,?_,?_⟩⟩,⟨rfl,rfl,rfl,by simp[World.setRow],λk _ p=>setRow_other w j k _ λe=>p (by rw[e])⟩⟩
 .rw[Cz Cm]
 .rw[List.length_eraseIdx_of_lt m]
 .rw[List.size_toArray,List.length_append,List.length_append,List.length_take,List.length_drop,c,Array.length_toList,l];omega
 rw[List.length_eraseIdx_of_lt m];exact s9 rfl g m
def ElS (w:World) (b:Nat) (v:Value) (l:LP):Prop:=∃A c,v=.slice A l.length c/\l.length<=c/\SpS w A l.length l/\(A=none->c=0)/\(∀a,A=some a->b<=a.block/\∃d e,w.heap[a.block]? = some (.cells d 60 e))
def enV (v:Value):List Value:=[v]
def Iw (w:World) (a:Nat) (v:Value) (c:List LP):Prop :=
 ∃b:List Value,OwG 46 1 enV w a v b/\b.length=c.length/\(∀u∈b,u.oneCell'=true)/\∀(i:Nat) (u:Value) (l:LP),b[i]? = some u->c[i]? = some l->ElS w a u l
theorem D9{w:World}  {o:Obj} (h:w.heap[a]? = some o):a<w.heap.size:=(Array.getElem?_eq_some_iff.1 h).1
theorem ElS.keepAbove{w w':World}    (h:ElS w a g f) (r:∀k i j,a<=k->w.heap[k]? = some (.cells i 60 j)->w'.heap[k]? = w.heap[k]?):ElS w' a g f:=by
 obtain⟨A,c,rfl,s,d,t,p⟩:=h;refine⟨A,c,rfl,s,⟨d.1,?_⟩,t,λo u=>?_⟩
 .obtain⟨_,d⟩:=d;rcases d with d|⟨b,e,rfl,d⟩
  .exact .inl d
  let⟨m,i,j,n⟩:=p _ rfl;have q:=r b i j m n;exact .inr ⟨b,e,rfl,λk l=>⟨(World.cell?_of_block (w:=w) (a:=⟨b,e+k*2,none⟩) q).trans (d k l).1,(World.cell?_of_block (w:=w) (a:=⟨b,e+k*2+1,none⟩) q).trans (d k l).2⟩⟩
 let⟨m,i,j,n⟩:=p _ u;exact⟨m,i,j,(r _ i j m n).trans n⟩
theorem ElS.keep{w:World} {base:Nat}   (h:ElS w base g f) (a:Be w e):ElS e base g f :=
 h.keepAbove λk _ _ _ b=>a.block k (D9 b)
theorem ElS.grown{w:World}    {b:Option Nat} (h:ElS w a g f) (j:w.grownBy e b) (m:∀k c d,a<=k->w.heap[k]? = some (.cells c 60 d)->some k≠b):ElS e a g f :=
 h.keepAbove λk c d l i=>j.block k (D9 i) (m k c d l i)
theorem Iw.nil{w:World} :Iw w a (.slice none 0 0) []:=⟨[],OwG.nil,rfl,by simp,by simp⟩
theorem Iw.keep{w:World} {base:Nat}   (h:Iw w base g i) (a:Be w e):Iw e base g i:=by
 obtain⟨n,b,c,d,f⟩:=h;exact⟨n,b.keep a,c,d,λm u l k j=>(f m u l k j).keep a⟩
theorem OwG.keepAbove{p:Type}   {b:p->List Value} {w w':World}   {l:List p} (h:OwG n a b w j g l) (s:∀k,j<=k->k<w.heap.size->w'.heap[k]? = w.heap[k]?):OwG n a b w' j g l:=by
 have i:=h.lt;obtain⟨q,f⟩:=h;refine⟨q,?_⟩;rcases f with f|⟨e,c,d,o,m,t,r⟩
 .exact Or.inl f
 refine Or.inr ⟨e,c,d,o,m,?_,r⟩;rw[s e m (i e (by rw[o];rfl)).2];exact t
theorem Iw.keepAbove{w w':World}    (h:Iw w a g i) (b:∀k,a<=k->k<w.heap.size->w'.heap[k]? = w.heap[k]?):Iw w' a g i:=by
 obtain⟨q,c,d,e,f⟩:=h;exact⟨q,c.keepAbove b,d,e,λp u l o n=>(f p u l o n).keepAbove λk _ _ m j=>b k m (D9 j)⟩
theorem Iw.lower{w:World} {base':Nat}   (h:Iw w a g i) (j:base'<=a):Iw w base' g i:=by
 obtain⟨x,o,p,q,r⟩:=h
 exact⟨x,o.lower j,p,q,λv u l t s=>by
  let⟨A,c,e,k,m,n,d⟩:=r v u l t s;exact⟨A,c,e,k,m,n,λb f=>⟨Nat.le_trans j (d b f).1,(d b f).2⟩⟩⟩
theorem ElS.lower{w:World} {base':Nat}   (h:ElS w a g f) (m:base'<=a):ElS w base' g f:=by
 obtain⟨A,c,e,j,k,l,d⟩:=h;exact⟨A,c,e,j,k,l,λb i=>⟨Nat.le_trans m (d b i).1,(d b i).2⟩⟩
theorem Aj2:(Tryz.prog.info? 46).map (λi=>(i.zero,i.size,i.bytes))=some (some (.slice none 0 0),1,24):=by kernel_rfl
theorem Ss(v:Value):(enV v).length=1:=rfl
theorem Fo{w:World} {D:Array Oper} {m:List Oper} {o:Oper}  {Q:Exit->Act->World->Prop} (O:o.guard=none) (s x:Operand)
 (ho:o.op=.call { callee:=.builtin .append,args:=#[s,x],argTypes:=#[65,65] })
 (a:Nat) (v:Value) (I:List LP) (hs:l.eval s=v) (C:Iw w a v I)
 (F c:Nat) (u:Value) (W:LP) (tb:TypeId) (hx:l.eval x=.slice (some ⟨F,0,none⟩) 1 c) (z:Bf w F tb #[u]) (hu:ElS w a u W)
 (a6:I.length<=1000000) (p:a<=w.heap.size)
 (h:∀q E,Iw E a q (I++[W])->w.grownBy E v.ownBlock->(q.ownBlock=v.ownBlock\/q.ownBlock=some w.heap.size)->wpList Tryz.prog D Q m (l.put o.dst q) E) :
 wpList Tryz.prog D Q (o::m) l w:=by
 let⟨i,hi,T,U,V⟩:=info_parts Aj2;obtain⟨n,L,G,Y,Z⟩:=C;have f:u.oneCell'=true:=by obtain⟨A,c,rfl,_⟩:=hu;rfl
 have e:∀k J K,a<=k->w.heap[k]? = some (.cells J 60 K)->some k≠v.ownBlock:=by
  intro k J K _ H he;rcases L.2 with⟨rfl,_⟩|⟨g,ad,ai,rfl,_,r,_⟩
  .cases he
  have:k=g:=by simpa[Value.ownBlock] using he
  subst this;rw[r]at H;injection H with H
  injection H with _ ht
  exact absurd ht (by decide)
 have N:n.flatMap enV=n:=by
  clear L G Y Z e;induction n with
  | nil=>rfl
  | cons l W ih=>rw[List.flatMap_cons,ih];rfl
 refine wpList_append_own_at (P:=Tryz.prog) w O s x 65 ho a 46 i (.slice none 0 0) 1 24 Tryz.underlying65 hi T U V rfl (by omega) v n.length (n.flatMap enV) hs L ⟨F,0,none⟩ 1 c [u] hx rfl ?_ (by simpa using f) (by rw[G];unfold maxLen;omega) (by rw[G];omega) p ?_
 .intro j y hj;exact World.news_of_block (w:=w) (B:=F) (cs:=#[u]) (t:=tb) (fr:=(0,0)) z j y (by simpa using hj)
 intro q E S r _ M;refine h q E ⟨n++[u],?_,by rw[List.length_append,List.length_append,G];rfl,?_,?_⟩ r M
 .unfold OwG;rw[List.length_append,List.flatMap_append];exact S
 .intro y b;rcases List.mem_append.1 b with b|b
  .exact Y y b
  rw[List.mem_singleton.1 b];exact f
 intro k y l' b d;rcases Nat.lt_or_ge k n.length with R|R
 .rw[List.getElem?_append_left R]at b;rw[List.getElem?_append_left (by omega)]at d;exact(Z k y l' b d).grown r e
 rw[List.getElem?_append_right R]at b;rw[List.getElem?_append_right (by omega)]at d;rcases Nat.eq_zero_or_pos (k-n.length) with X|X
 .rw[X]at b;rw[show k-I.length=0 by omega]at d;simp at b d;subst b d;exact hu.grown r e
 rw[List.getElem?_eq_none (by simp;omega)]at b;cases b
def Ac6 (l:LP) (n k:Nat):LP:=[gt l ((k+n-1) % n),gt l k,gt l ((k+1) % n)]
def De:Nat->LP->List LP->Option (List LP)
 | 0,cur,ts=>some (ts++[cur])
 | f+1,cur,ts =>
   if cur.length<=3 then some (ts++[cur])
   else if 0<=Db (Tl cur cur.length) cur.length then De f (cur.eraseIdx (Db (Tl cur cur.length) cur.length).toNat) ts
   else if Db (Gp cur cur.length) cur.length<0 then none
   else De f (cur.eraseIdx (Db (Gp cur cur.length) cur.length).toNat) (ts++[Ac6 cur cur.length (Db (Gp cur cur.length) cur.length).toNat])
theorem Qq{f:Nat} {cur:LP} {ts:List LP} (h:cur.length<=3):De f cur ts=some (ts++[cur]):=by
 cases f with
 | zero=>rfl
 | succ f=>unfold De;rw[if_pos h]
theorem Qp{f:Nat} {b:LP} {ts:List LP}  (d:b.length=a) (h:¬a<=3) (c:Db (Tl b a) a=(j:Int)):De (f+1) b ts=De f (b.eraseIdx j) ts:=by
 subst d;rw[show De (f+1) b ts=if b.length<=3 then some (ts++[b]) else if 0<=Db (Tl b b.length) b.length then De f (b.eraseIdx (Db (Tl b b.length) b.length).toNat) ts else if Db (Gp b b.length) b.length<0 then none else De f (b.eraseIdx (Db (Gp b b.length) b.length).toNat) (ts++[Ac6 b b.length (Db (Gp b b.length) b.length).toNat]) from rfl,if_neg h,if_pos (by rw[c];omega),c,Int.toNat_natCast]
theorem Ob{f:Nat} {b:LP} {ts:List LP} (e:b.length=a) (h:¬a<=3) (c:¬0<=Db (Tl b a) a) (d:Db (Gp b a) a<0):De (f+1) b ts=none:=by
 subst e;rw[show De (f+1) b ts=if b.length<=3 then some (ts++[b]) else if 0<=Db (Tl b b.length) b.length then De f (b.eraseIdx (Db (Tl b b.length) b.length).toNat) ts else if Db (Gp b b.length) b.length<0 then none else De f (b.eraseIdx (Db (Gp b b.length) b.length).toNat) (ts++[Ac6 b b.length (Db (Gp b b.length) b.length).toNat]) from rfl,if_neg h,if_neg c,if_pos d]
theorem Qr{f:Nat} {b:LP} {ts:List LP}  (e:b.length=a) (h:¬a<=3) (d:¬0<=Db (Tl b a) a) (c:Db (Gp b a) a=(j:Int)):De (f+1) b ts=De f (b.eraseIdx j) (ts++[Ac6 b a j]):=by
 subst e;rw[show De (f+1) b ts=if b.length<=3 then some (ts++[b]) else if 0<=Db (Tl b b.length) b.length then De f (b.eraseIdx (Db (Tl b b.length) b.length).toNat) ts else if Db (Gp b b.length) b.length<0 then none else De f (b.eraseIdx (Db (Gp b b.length) b.length).toNat) (ts++[Ac6 b b.length (Db (Gp b b.length) b.length).toNat]) from rfl,if_neg h,if_neg d,if_neg (by rw[c];omega),c,Int.toNat_natCast]
theorem Ik(f:Nat->Bool) (n:Nat):Db f n = -1\/∃k:Nat,k<n/\Db f n=(k:Int):=by
 unfold Db;cases h:(List.range n).find? f with
 | none=>exact .inl rfl
 | some i=>exact .inr ⟨i,by simpa using List.mem_of_find?_eq_some h,rfl⟩
theorem qh(l:LP) (n:Nat):(Ct l n).length<=n:=by
 unfold Ct rot;have a:=Po l n;have b:=Pj (Km l n) (Km l n).length;rw[List.length_append,List.length_drop,List.length_take];omega
def Afy (w:World) (a:Addr):Nat:=match w.cell? a with|some (.slice _ m _)=>m|_=>0
theorem Le{w:World} {b:Addr} {A:Option Addr} {c:Nat} (h:w.cell? b=some (.slice A a c)):Afy w b=a:=by unfold Afy;rw[h]
def we (w:World) (r:Option (List LP)) (e:Ending) (a:World):Prop :=
 Be w a/\match r with
  | none=>e=.returned (.tuple #[.slice none 0 0,.int .i64 11])
  | some ts=>∃v,e=.returned (.tuple #[v,.int .i64 0])/\Iw a w.heap.size v ts
theorem OwS.els{w:World}    (h:OwS w a g f):ElS w a g f:=by
 obtain⟨A,c,rfl,k,l,r⟩:=h.sps;rcases h.2 with⟨e,i⟩|⟨q,n,d,e,o,p,_⟩
 .injection e with e1 i e3
  exact⟨A,c,rfl,k,l,λ_=>e3,λm b=>by rw[e1]at b;cases b⟩
 injection e with e1 i e3
 refine⟨A,c,rfl,k,l,λj=>?_,λm b=>?_⟩
 .rw[e1]at j;cases j
 rw[e1]at b;injection b with b;subst b;exact⟨o,d,(0,0),p⟩
theorem Zf:∀args w,(callFunc 301 args).run Tryz.prog w=.ok (.enter 301 args) w:=by
 exact enters_of Tryz.func301 (by kernel_rfl) rfl
theorem Abb:∀args w,(callFunc 303 args).run Tryz.prog w=.ok (.enter 303 args) w:=by
 exact enters_of Tryz.func303 (by kernel_rfl) rfl
theorem uc(a:World) (e h m:Nat) (Z:Array Value) (form:LP) (i:Z.size=m*2) (o:form.length=m) (f:SpS a (some ⟨e,0,none⟩) m form) (p:m<=1000) :
 ∃W,(∀g,(Builtin.copy_ #[46,46] g #[.slice (some ⟨a.heap.size,0,none⟩) m m,.slice (some ⟨e,0,none⟩) m h]).run Tryz.prog ((a.alloc (.cells Z 60)).alloc (.cells #[.slice (some ⟨a.heap.size,0,none⟩) m m] 46))=.ok (.int .i64 (m:Int)) W) /\
  OwS W a.heap.size (.slice (some ⟨a.heap.size,0,none⟩) m m) form/\Bf W (a.heap.size+1) 46 #[.slice (some ⟨a.heap.size,0,none⟩) m m]/\Be a W:=by
 subst o;have d:Be a ((a.alloc (.cells Z 60)).alloc (.cells #[.slice (some ⟨a.heap.size,0,none⟩) form.length form.length] 46)):=Ao blA _;have j:Bf ((a.alloc (.cells Z 60)).alloc (.cells #[.slice (some ⟨a.heap.size,0,none⟩) form.length form.length] 46)) a.heap.size 60 Z:=(Bf.new _ _ _).alloc _;have n:Bf ((a.alloc (.cells Z 60)).alloc (.cells #[.slice (some ⟨a.heap.size,0,none⟩) form.length form.length] 46)) (a.heap.size+1) 46 #[.slice (some ⟨a.heap.size,0,none⟩) form.length form.length]:=Bf.new2 _ _ _ _;generalize ((a.alloc (.cells Z 60)).alloc (.cells #[.slice (some ⟨a.heap.size,0,none⟩) form.length form.length] 46))=W0 at *
 have b:=Cz Cm form;have c:Nat.min form.length form.length=form.length:=Nat.min_self _;have l:=λg=>Tu (P:=Tryz.prog) W0 46 46 g 60 2 a.heap.size 0 form.length form.length ⟨e,0,none⟩ form.length h Z 60 (form.flatMap enS) Tryz.underlying46 Ae0 j (by rw[b,c]) (Ij (f.keep d)) (by rw[b,i];omega) (te _)
 rw[c]at l;refine⟨_,l,⟨b,.inr ⟨_,form.length,_,rfl,Nat.le_refl _,setRow_heap W0 _ Z _ _ _ j,Nat.le_refl _,by unfold maxLen;omega,?_,?_⟩⟩,?_,?_⟩
 .rw[List.size_toArray,List.length_append,List.length_append,List.length_take,List.length_drop,b,Array.length_toList,i];omega
 .simp only[List.take_zero,List.nil_append,Nat.zero_add];rw[List.take_append_of_le_length (by rw[b];omega),List.take_of_length_le (by rw[b];omega)]
 .exact(setRow_other W0 a.heap.size (a.heap.size+1) _ (by omega)).trans n
 exact d.trans ⟨rfl,rfl,rfl,by simp[World.setRow],λk q=>setRow_other W0 a.heap.size k _ (by omega)⟩
theorem Iw.own{w:World}    (h:Iw w a g i):OwG 46 1 enV w a g (Classical.choose h):=(Classical.choose_spec h).1
theorem Aoz{b:Nat} (h:(Value.slice (some ⟨a,0,none⟩) j q).ownBlock=some b):a=b:=by simpa[Value.ownBlock] using h
theorem Cu{c:Code} {Q:Exit->Act->World->Prop}  {w:World} (F:World->Prop) (a:F w) (h:∀X,F X->c.wp k Q l X):c.wp k Q l w:=h w a
theorem OwG.below{o:Type}   {b:o->List Value} {w:World}   {l:List o} (h:OwG n a b w j g l) (s:Below q w e) (v:∀k,g.ownBlock=some k->k<q):OwG n a b e j g l:=by
 obtain⟨p,m⟩:=h;refine⟨p,?_⟩;rcases m with m|⟨i,d,f,c,t,u,r⟩
 .exact Or.inl m
 refine Or.inr ⟨i,d,f,c,t,?_,r⟩;rw[s.block i (v i (by rw[c];rfl))];exact u
theorem ElS.tri{w:World}  {c:Int×Int} (h:Bf w j 60 #[b.1,b.2,o.1,o.2,c.1,c.2]) (f:a<=j):ElS w a (.slice (some ⟨j,0,none⟩) 3 3) [b,o,c]:=by
 refine⟨some ⟨j,0,none⟩,3,rfl,Nat.le_refl _,SpS.of3 h,(λe=>by cases e),λx d=>?_⟩;injection d with d
 subst d;exact⟨f,_,_,h⟩
theorem yj(b cb bq n:Nat) (l:LP) (w:World) (hl:n<=1000) (db:n<=bq) (hs:SpS w (some ⟨b,cb,none⟩) n l) (hc:Bg l n=0) :
 Calls Tryz.prog 246 #[.slice (some ⟨b,cb,none⟩) n bq] w (we w (De (Ct l n).length (Ct l n) [])):=by
 have dx:=qh l n;let⟨form,b0⟩:∃form,form=Ct l n:=⟨_,rfl⟩
 have c6:=pg b cb bq n l w hl db hs hc;rw[<-b0]at c6 dx ⊢;have e4:=Ar c6;clear c6 b0 hc;let⟨m,hm⟩:=gN form.length
 rw[hm]at dx ⊢;have HM:=Ar hm;clear hm;let⟨i,hi,e0,e1,e2⟩:=info_parts Si
 let⟨Z,hZ,c3⟩:∃Z:Array Value,Z.size=m*2/\∀w,(Instr.makeSlice 46 (.int .i64 (m:Int)) (.int .i64 (m:Int))).run Tryz.prog w=.ok (.slice (some ⟨w.heap.size,0,none⟩) m m) (w.alloc (.cells Z 60)):=by
  refine⟨madeCells (Value.agg #[Value.int IntKind.i64 0,Value.int IntKind.i64 0]).cells (m*2),size_madeCells _ _,λw=>?_⟩;have hr:=run_make (P:=Tryz.prog) w 46 60 i (.agg #[.int .i64 0,.int .i64 0]) Tryz.underlying46 hi e0 .i64 .i64 m m (by omega) (by omega) (by rw[e2];omega) (by omega);rw[e1]at hr;simpa using hr
 clear hi e0 e1 e2 i;go_enter Tryz.func246,Tryz.ntmps246
 go_upto_region 4 with (go_at_call 299;refine e4.out.mono ?_;rintro e M ⟨v1,rfl,b9,a7⟩)
 rcases OwG.form b9 with⟨rfl,dc⟩|⟨gf,cp,rfl,-,-,dk,-⟩
 .have er:m=0:=by rw[<-HM.out,dc];rfl
  subst er;subst dc;have fs:∀ty (W:World),(Builtin.copy_ #[46,46] ty #[.slice (some ⟨M.heap.size,0,none⟩) 0 0,.slice none 0 0]).run Tryz.prog W=.ok (goInt 0) W:=λty W=>run_copy_nil Tryz.prog W 46 46 ty 60 ⟨M.heap.size,0,none⟩ 0 0 Tryz.underlying46 (by rw[Ae0];rfl)
  have gw:∀w,(Instr.makeSlice 46 (.int .i64 0) (.int .i64 0)).run Tryz.prog w=.ok (.slice (some ⟨w.heap.size,0,none⟩) 0 0) (w.alloc (.cells Z 60)):=c3
  clear c3;go_wp2_with fail;go_loopw [10] (λcd wr=>cd=.slice none 0 0/\Bf wr M.heap.size 60 Z/\Bf wr (M.heap.size+1) 46 #[.slice (some ⟨M.heap.size,0,none⟩) 0 0]/\Be w wr) (λ_ _=>0)
  case atStart=>exact⟨rfl,((Bf.new _ _ _).alloc _).alloc _,(Bf.new2 _ _ _ _).alloc _,Ao (Ao (Ao a7 _) _) _⟩
  obtain⟨rfl,e7,D,hb⟩:=hrel;have cl:=D.cell 0;simp only[List.getElem?_toArray,List.getElem?_cons_zero]at cl;have eg:ElS wr w.heap.size (.slice (some ⟨M.heap.size,0,none⟩) 0 0) []:=⟨some ⟨M.heap.size,0,none⟩,0,rfl,Nat.le_refl _,⟨rfl,.inl rfl⟩,(λh=>by cases h),λa ha=>by injection ha with ha;subst ha;exact⟨a7.size,Z,(0,0),e7⟩⟩
  go_wp2_with (at_builtin;refine Fo rfl _ _ rfl w.heap.size _ [] rfl Iw.nil wr.heap.size 1 (.slice (some ⟨M.heap.size,0,none⟩) 0 0) [] 46 rfl (Bf.new _ _ _) (eg.keep blA) (by simp) (Ao hb _).size ?_;intro v' w' c9 ad au)
  go_ret2
  exact⟨Bk (Ao hb _) (Iw.own (Iw.nil (w:=wr.alloc _))) ad,v',rfl,c9⟩
 rw[HM.out]at dk b9 ⊢;have bd:=b9.spsg HM.out;let⟨W,r,K,bt,I⟩:=uc M gf cp m Z form hZ HM.out bd (by omega);clear b9 dk;have bb:Be w W:=An a7 I;go_wp2_with fail;clear r c3;have B:Bf (W.alloc (.cells #[.func (.func 300) #[] #[.pointer (some ⟨M.heap.size+1,0,none⟩)]] 325)) W.heap.size 325 #[.func (.func 300) #[] #[.pointer (some ⟨M.heap.size+1,0,none⟩)]]:=Bf.new _ _ _;have D:=bt.alloc (.cells #[.func (.func 300) #[] #[.pointer (some ⟨M.heap.size+1,0,none⟩)]] 325);have ca:OwS (W.alloc (.cells #[.func (.func 300) #[] #[.pointer (some ⟨M.heap.size+1,0,none⟩)]] 325)) w.heap.size (.slice (some ⟨M.heap.size,0,none⟩) m m) form:=(OwG.lower K a7.size).alloc _;have bw:=Ao bb (.cells #[.func (.func 300) #[] #[.pointer (some ⟨M.heap.size+1,0,none⟩)]] 325);have ds:M.heap.size+1<W.heap.size:=bt.lt;have ek:w.heap.size<=M.heap.size:=a7.size;let⟨g,hg⟩:∃g,g=M.heap.size:=⟨_,rfl⟩
 let⟨y,bu⟩:∃y,y=W.heap.size:=⟨_,rfl⟩
 rw[<-hg]at B D ca bw ds ek ⊢;rw[<-bu]at B ds ⊢;have ev:(W.alloc (.cells #[.func (.func 300) #[] #[.pointer (some ⟨g+1,0,none⟩)]] 325)).heap.size=y+1:=by rw[bu];simp
 generalize W.alloc (.cells #[.func (.func 300) #[] #[.pointer (some ⟨g+1,0,none⟩)]] 325)=WL at *
 clear hg bu bb I bt K a7 bd;have dy:y+1<=WL.heap.size:=by omega
 clear ev;go_loopw [10] (λcd wr=>∃(c:LP) (k f:Nat) (L:List LP),Hid (c.length=k)/\k<=m/\L.length+k<=m/\OwS wr w.heap.size (.slice (some ⟨g,0,none⟩) k m) c/\Bf wr (g+1) 46 #[.slice (some ⟨g,0,none⟩) k m]/\Bf wr y 325 #[.func (.func 300) #[] #[.pointer (some ⟨g+1,0,none⟩)]]/\Iw wr (y+1) cd L/\Be w wr/\k<=f/\Hid (De f c L=De m form [])) (λ_ wr=>Afy wr ⟨g+1,0,none⟩)
 case atStart=>exact⟨form,m,m,[],HM,Nat.le_refl _,by simp,ca,D,B,Iw.nil,bw,Nat.le_refl _,rfl⟩
 clear ca D B bw dy;obtain⟨c,k,f,L,N,b8,h8,ho,D,B,ai,hb,h5,S⟩:=hrel;have cl:=D.cell 0;have c7:=B.cell 0;simp only[List.getElem?_toArray,List.getElem?_cons_zero]at cl c7;have ak:=ho.spsg N.out;have b5:=Ar (Le cl);by_cases h4:3<k
 .rcases Ik (Tl c k) k with c4|⟨i,J,Y⟩
  .have a6:¬0<=Db (Tl c k) k:=by rw[c4];omega
   have V:=Pk 301 #[.pointer (some ⟨y,0,none⟩)] k (Tl c k) wr (by omega) Zf (λj w' x E=>Mr y (g+1) g k m j c w' (by omega) b8 (Aq E c7) (Aq E cl) (ak.keep E) x);rw[c4]at V;have b4:=Ar V;clear V c4;have a8:=λ(T:World) (t:Be wr T)=>Pk 303 #[.pointer (some ⟨y,0,none⟩),.pointer (some ⟨g+1,0,none⟩)] k (Gp c k) T (by omega) Abb (λj w' x E=>Aa7 y (g+1) g k m j c w' (by omega) b8 (Aq E (Aq t c7)) (Aq E (Aq t cl)) ((ak.keep t).keep E) x)
   rcases Ik (Gp c k) k with c5|⟨i,J,Y⟩
   .have H:=Ob (f:=f-1) (ts:=L) N.out (by omega) a6 (by rw[c5];omega);rw[show f-1+1=f by omega]at H;have O:=Ar (S.out.symm.trans H);rw[c5]at a8;have bm:=Ar a8;clear a8 H S c5 a6;go_wp2_with fail;refine b4.out.mono ?_;rintro e T ⟨rfl,t⟩;have bs:=Aq t cl;go_wp2_with fail;refine rR (bm.out T t) λw3 ec=>?_;go_wp2_with fail
    go_ret2
    refine⟨An (An hb t) ec,?_⟩;rw[O.out];rfl
   have H:=Qr (f:=f-1) (ts:=L) N.out (by omega) a6 Y;rw[show f-1+1=f by omega]at H;have O:=Ar (H.symm.trans S.out);rw[Y]at a8;have bm:=Ar a8;clear a8 H S a6 Y;go_wp2_with fail;refine b4.out.mono ?_;rintro e wa ⟨rfl,aw⟩;have cv:=Aq aw cl;go_wp2_with fail;refine rR (bm.out wa aw) λwb b6=>?_;have cw:=Aq b6 cv;have e5:=Aq b6 (Aq aw c7)
   go_upto_region 17 with (go_at_call 300;refine rR (Mm (g+1) g k m i c _ (by omega) b8 cw ((ak.keep aw).keep b6) J) λwd ee=>?_)
   have ba:Be wr wd:=An (An aw b6) ee;generalize cx:gt c ((i+k-1) % k)=p1;generalize cy:gt c i=p2;generalize cz:gt c ((i+1) % k)=p3
   have cu:Hid (Ac6 c k i=[p1,p2,p3]):=by
    show _=_
    unfold Ac6;rw[cx,cy,cz]
   clear cx cy cz;refine Cu (Cls wd [(⟨wd.heap.size,0,none⟩,.int .i64 p1.1),(⟨wd.heap.size,1,none⟩,.int .i64 p1.2),(⟨wd.heap.size+1,0,none⟩,.int .i64 p2.1),(⟨wd.heap.size+1,1,none⟩,.int .i64 p2.2),(⟨wd.heap.size+1+1,0,none⟩,.int .i64 p3.1),(⟨wd.heap.size+1+1,1,none⟩,.int .i64 p3.2)]) ⟨(Ao (Ao (Ao (Below.refl _ _) _) _) _),by simp only[List.mem_cons,List.not_mem_nil,forall_eq_or_imp,or_false,forall_eq];go_simp⟩ ?_;intro X hX;have hx:=hX.2;simp only[List.mem_cons,List.not_mem_nil,forall_eq_or_imp,or_false,forall_eq]at hx;have Q:Be wr X:=An ba hX.1;have a1:y+1<=wr.heap.size:=B.lt;have da:y+1<=X.heap.size:=Nat.le_trans a1 Q.size;clear hX ba cw e5 cv
   go_upto_region 18 with (at_builtin;refine Fo rfl _ _ rfl (y+1) _ L rfl (ai.keep (Ao (Ao Q _) _)) (X.heap.size+1) 1 (.slice (some ⟨X.heap.size,0,none⟩) 3 3) [p1,p2,p3] 46 rfl (Bf.new2 _ _ _ _) (ElS.tri ((Bf.new _ _ _).alloc _) da) (by omega) (Nat.le_trans a1 (Ao (Ao Q _) _).size) ?_;intro v' T z ad au)
   have R:Below (y+1) wr T:=Below.grown ((Ao (Ao Q _) _).mono a1) ad (Nat.le_trans a1 (Ao (Ao Q _) _).size) (λj x=>(OwG.lt (Iw.own ai) j x).1);have b1:OwS T w.heap.size (.slice (some ⟨g,0,none⟩) k m) c:=OwG.below ho R (λj x=>by have:=Aoz x;omega);have s:Bf T (g+1) 46 #[.slice (some ⟨g,0,none⟩) k m]:=(R.block (g+1) (by omega)).trans D;have u:Bf T y 325 #[.func (.func 300) #[] #[.pointer (some ⟨g+1,0,none⟩)]]:=(R.block y (by omega)).trans B;have v:Be w T:=hb.trans (R.mono (by omega));have bs:=s.cell 0;simp only[List.getElem?_toArray,List.getElem?_cons_zero]at bs;rw[cu.out]at O;clear ho D B ai hb cl c7 ak hx au ad R;have z1:(i:Int)<=(k:Int):=by omega
   have z2:(i:Int)+1<=(k:Int):=by omega
   have z3:(k:Int)<=(m:Int):=by omega
   have z4:(i:Int)<=(m:Int):=by omega
   have z5:(i:Int)+1<=(m:Int):=by omega
   have z6:(0:Int)<=(i:Int)+1:=by omega
   have z7:((i:Int)+1).toNat=i+1:=by omega
   have z8:¬m=i:=by omega
   by_cases bx:i+1=m
   .obtain rfl:m=k:=by omega
    have q1:IntKind.i64.wrap ((i:Int)+1)=(i:Int)+1:=Dx i 1 (by omega);let⟨A,r,K,o⟩:=OwS.erase (w:=T.drew) (OwS.drew b1) N.out J ⟨g,0,none⟩ (λh=>by omega);rw[show m-(i+1)=0 by omega]at r;go_region;clear r q1;have d:Bf A (g+1) 46 #[.slice (some ⟨g,0,none⟩) m m]:=(o.block (g+1) s.lt (by simp)).trans s;have C:Bf A y 325 #[.func (.func 300) #[] #[.pointer (some ⟨g+1,0,none⟩)]]:=(o.block y u.lt (by simp;omega)).trans u;have G:=z.keepAbove (w':=A) (λj x F=>o.block j F (by simp;omega));have I:Be w A:=Below.grown (Aw v) o v.size (λj x=>by injection x with x;omega);have U:=d.cell 0;have fW:=d.frozen 0;simp only[List.getElem?_toArray,List.getElem?_cons_zero]at U;have y1:(0:Int)<=(m:Int)-1:=by omega
    have y2:(m:Int)-1<=(m:Int):=by omega
    have y3:((m:Int)-1).toNat=m-1:=by omega
    go_wp2_with fail;have q:=d.set_ 0 (.slice (some ⟨g,0,none⟩) (m-1) m);refine⟨⟨c.eraseIdx i,m-1,f-1,(L++[[p1,p2,p3]]),?_,by omega,?_,OwG.far K (p:=⟨g+1,0,none⟩) (by simp[Value.ownBlock]) _,q,C.far (p:=⟨g+1,0,none⟩) (by simp;omega) _,G.keepAbove (λj x F=>Below.heap_setCell A ⟨g+1,0,none⟩ _ j (by simp;omega)),Ba I (p:=⟨g+1,0,none⟩) (by simp;omega) _,by omega,O⟩,?_⟩
    .show _=_
     rw[List.length_eraseIdx_of_lt (by rw[N.out];exact J),N.out]
    .rw[List.length_append];simp;omega
    rw[b5.out,Le (q.cell 0)];omega
   have z9:¬m=i+1:=by omega
   have q1:IntKind.i64.wrap ((i:Int)+1)=(i:Int)+1:=Dx i 1 (by omega);let⟨A,r,K,o⟩:=OwS.erase (w:=T.drew) (OwS.drew b1) N.out J ⟨g,(i+1)*2,none⟩ (λ_=>rfl);go_region;clear r q1;have d:Bf A (g+1) 46 #[.slice (some ⟨g,0,none⟩) k m]:=(o.block (g+1) s.lt (by simp)).trans s;have C:Bf A y 325 #[.func (.func 300) #[] #[.pointer (some ⟨g+1,0,none⟩)]]:=(o.block y u.lt (by simp;omega)).trans u;have G:=z.keepAbove (w':=A) (λj x F=>o.block j F (by simp;omega));have I:Be w A:=Below.grown (Aw v) o v.size (λj x=>by injection x with x;omega);have U:=d.cell 0;have fW:=d.frozen 0;simp only[List.getElem?_toArray,List.getElem?_cons_zero]at U;have y1:(0:Int)<=(k:Int)-1:=by omega
   have y2:(k:Int)-1<=(m:Int):=by omega
   have y3:((k:Int)-1).toNat=k-1:=by omega
   go_wp2_with fail;have q:=d.set_ 0 (.slice (some ⟨g,0,none⟩) (k-1) m);refine⟨⟨c.eraseIdx i,k-1,f-1,(L++[[p1,p2,p3]]),?_,by omega,?_,OwG.far K (p:=⟨g+1,0,none⟩) (by simp[Value.ownBlock]) _,q,C.far (p:=⟨g+1,0,none⟩) (by simp;omega) _,G.keepAbove (λj x F=>Below.heap_setCell A ⟨g+1,0,none⟩ _ j (by simp;omega)),Ba I (p:=⟨g+1,0,none⟩) (by simp;omega) _,by omega,O⟩,?_⟩
   .show _=_
    rw[List.length_eraseIdx_of_lt (by rw[N.out];exact J),N.out]
   .rw[List.length_append];simp;omega
   rw[b5.out,Le (q.cell 0)];omega
  have H:=Qp (f:=f-1) (ts:=L) N.out (by omega) Y;rw[show f-1+1=f by omega]at H;have O:=Ar (H.symm.trans S.out);clear H S;have V:=Pk 301 #[.pointer (some ⟨y,0,none⟩)] k (Tl c k) wr (by omega) Zf (λj w' x E=>Mr y (g+1) g k m j c w' (by omega) b8 (Aq E c7) (Aq E cl) (ak.keep E) x);rw[Y]at V;have b4:=Ar V;clear V Y
  go_upto_region 18 with (go_at_call 305;refine b4.out.mono ?_;rintro e T ⟨rfl,t⟩)
  have b1:OwS T _ _ _:=OwG.keep ho t;have s:=D.keep t;have u:=B.keep t;have z:=ai.keep t;have v:=An hb t;have bs:=Aq t cl;clear ho D B ai hb cl c7 ak t;have z1:(i:Int)<=(k:Int):=by omega
  have z2:(i:Int)+1<=(k:Int):=by omega
  have z3:(k:Int)<=(m:Int):=by omega
  have z4:(i:Int)<=(m:Int):=by omega
  have z5:(i:Int)+1<=(m:Int):=by omega
  have z6:(0:Int)<=(i:Int)+1:=by omega
  have z7:((i:Int)+1).toNat=i+1:=by omega
  have z8:¬m=i:=by omega
  by_cases bx:i+1=m
  .obtain rfl:m=k:=by omega
   have q1:IntKind.i64.wrap ((i:Int)+1)=(i:Int)+1:=Dx i 1 (by omega);let⟨A,r,K,o⟩:=OwS.erase (w:=T.drew) (OwS.drew b1) N.out J ⟨g,0,none⟩ (λh=>by omega);rw[show m-(i+1)=0 by omega]at r;go_region;clear r q1;have d:Bf A (g+1) 46 #[.slice (some ⟨g,0,none⟩) m m]:=(o.block (g+1) s.lt (by simp)).trans s;have C:Bf A y 325 #[.func (.func 300) #[] #[.pointer (some ⟨g+1,0,none⟩)]]:=(o.block y u.lt (by simp;omega)).trans u;have G:=z.keepAbove (w':=A) (λj x F=>o.block j F (by simp;omega));have I:Be w A:=Below.grown (Aw v) o v.size (λj x=>by injection x with x;omega);have U:=d.cell 0;have fW:=d.frozen 0;simp only[List.getElem?_toArray,List.getElem?_cons_zero]at U;have y1:(0:Int)<=(m:Int)-1:=by omega
   have y2:(m:Int)-1<=(m:Int):=by omega
   have y3:((m:Int)-1).toNat=m-1:=by omega
   go_wp2_with fail;have q:=d.set_ 0 (.slice (some ⟨g,0,none⟩) (m-1) m);refine⟨⟨c.eraseIdx i,m-1,f-1,L,?_,by omega,?_,OwG.far K (p:=⟨g+1,0,none⟩) (by simp[Value.ownBlock]) _,q,C.far (p:=⟨g+1,0,none⟩) (by simp;omega) _,G.keepAbove (λj x F=>Below.heap_setCell A ⟨g+1,0,none⟩ _ j (by simp;omega)),Ba I (p:=⟨g+1,0,none⟩) (by simp;omega) _,by omega,O⟩,?_⟩
   .show _=_
    rw[List.length_eraseIdx_of_lt (by rw[N.out];exact J),N.out]
   .omega
   rw[b5.out,Le (q.cell 0)];omega
  have z9:¬m=i+1:=by omega
  have q1:IntKind.i64.wrap ((i:Int)+1)=(i:Int)+1:=Dx i 1 (by omega);let⟨A,r,K,o⟩:=OwS.erase (w:=T.drew) (OwS.drew b1) N.out J ⟨g,(i+1)*2,none⟩ (λ_=>rfl);go_region;clear r q1;have d:Bf A (g+1) 46 #[.slice (some ⟨g,0,none⟩) k m]:=(o.block (g+1) s.lt (by simp)).trans s;have C:Bf A y 325 #[.func (.func 300) #[] #[.pointer (some ⟨g+1,0,none⟩)]]:=(o.block y u.lt (by simp;omega)).trans u;have G:=z.keepAbove (w':=A) (λj x F=>o.block j F (by simp;omega));have I:Be w A:=Below.grown (Aw v) o v.size (λj x=>by injection x with x;omega);have U:=d.cell 0;have fW:=d.frozen 0;simp only[List.getElem?_toArray,List.getElem?_cons_zero]at U;have y1:(0:Int)<=(k:Int)-1:=by omega
  have y2:(k:Int)-1<=(m:Int):=by omega
  have y3:((k:Int)-1).toNat=k-1:=by omega
  go_wp2_with fail;have q:=d.set_ 0 (.slice (some ⟨g,0,none⟩) (k-1) m);refine⟨⟨c.eraseIdx i,k-1,f-1,L,?_,by omega,?_,OwG.far K (p:=⟨g+1,0,none⟩) (by simp[Value.ownBlock]) _,q,C.far (p:=⟨g+1,0,none⟩) (by simp;omega) _,G.keepAbove (λj x F=>Below.heap_setCell A ⟨g+1,0,none⟩ _ j (by simp;omega)),Ba I (p:=⟨g+1,0,none⟩) (by simp;omega) _,by omega,O⟩,?_⟩
  .show _=_
   rw[List.length_eraseIdx_of_lt (by rw[N.out];exact J),N.out]
  .omega
  rw[b5.out,Le (q.cell 0)];omega
 have bc:=Qq (f:=f) (cur:=c) (ts:=L) (by rw[N.out];omega);have ck:=Ar (S.out.symm.trans bc);clear bc S;have z:=ai.lower (base':=w.heap.size) (by omega)
 go_wp2_with (at_builtin;refine Fo rfl _ _ rfl w.heap.size _ L rfl (z.keep blA) wr.heap.size 1 (.slice (some ⟨g,0,none⟩) k m) c 46 rfl (Bf.new _ _ _) ((OwS.els ho).keep blA) (by omega) (Ao hb _).size ?_;intro v' w' c9 ad au)
 go_ret2
 refine⟨Bk (Ao hb _) (Iw.own (z.keep blA)) ad,?_⟩;rw[ck.out];exact⟨v',rfl,c9⟩
theorem ef(A:Option Addr) (a n:Nat) (l:LP) (w:World) (f:n<=9223372036854775807) (b:n<=a) (g:SpS w A n l) (d:¬Bg l n=0) :
 Calls Tryz.prog 299 #[.slice A n a] w (Bz w (.tuple #[.slice none 0 0,(Bg l n)])):=by
 have q:(Bg l n != 0)=true:=by rw[bne_iff_ne];exact d
 clear d;go_in
 go_wp2_with (go_at_call 57;refine rR (Dc _ _ _ l _ f b g) λh c=>?_)
 go_ret2
 exact⟨rfl,c⟩
theorem jz(A:Option Addr) (a n:Nat) (l:LP) (w:World) (h:n<=9223372036854775807) (b:n<=a) (i:SpS w A n l) (g:¬Bg l n=0) :
 Calls Tryz.prog 246 #[.slice A n a] w (Bz w (.tuple #[.slice none 0 0,(Bg l n)])):=by
 have q:(Bg l n != 0)=true:=by rw[bne_iff_ne];exact g
 have c:=ef A a n l w h b i g;have d:=Ar c;clear c g;go_in
 go_wp2_with (go_at_call 299;refine d.out.mono ?_;rintro e j ⟨rfl,f⟩)
 go_ret2
 exact⟨rfl,f⟩
theorem El(h:Bg f a=0):3<=a/\a<=40:=by
 refine⟨?_,?_⟩
 .rcases Nat.lt_or_ge a 3 with b|b
  .rw[Jf b]at h;omega
  exact b
 rcases Nat.lt_or_ge 40 a with b|b
 .rw[Ir b]at h;omega
 exact b
def Acm (w:World) (l:LP) (n:Nat) (e:Ending) (b:World):Prop :=
 Be w b/\((¬Bg l n=0/\e=.returned (.tuple #[.slice none 0 0,(Bg l n)])) \/
  (Bg l n=0/\De (Ct l n).length (Ct l n) []=none/\e=.returned (.tuple #[.slice none 0 0,.int .i64 11])) \/
  (Bg l n=0/\∃a v,De (Ct l n).length (Ct l n) []=some a/\e=.returned (.tuple #[v,.int .i64 0])/\Iw b w.heap.size v a))
theorem ka(A:Option Addr) (a n:Nat) (l:LP) (w:World) (r:n<=9223372036854775807) (c:n<=a) (g:SpS w A n l) :
 Calls Tryz.prog 246 #[.slice A n a] w (Acm w l n):=by
 by_cases d:Bg l n=0
 .have t:=El d;obtain⟨b,i,rfl,-,-⟩:=g.at_ (k:=0) (by omega);refine(yj b i a n l w (by omega) c g d).mono ?_;intro e s h;obtain⟨j,f⟩:=h;refine⟨j,.inr ?_⟩;cases hsp:De (Ct l n).length (Ct l n) [] with
  | none=>rw[hsp]at f;exact .inl ⟨d,rfl,f⟩
  | some ts =>
    rw[hsp]at f;obtain⟨v,m,o⟩:=f;exact .inr ⟨d,ts,v,rfl,m,o⟩
 exact(jz A a n l w r c g d).mono λe s ⟨q,p⟩=>⟨p,.inl ⟨d,q⟩⟩
theorem Ad6{g:Int×Int->Int×Int}  (b:a<f.length):gt (f.map g) a=g (gt f a):=by
 unfold gt;rw[List.getD,List.getElem?_map,List.getD,List.getElem?_eq_getElem b];rfl
theorem rk(h:b∈f):∃i,i<f.length/\gt f i=b:=by
 obtain⟨i,a,rfl⟩:=List.getElem_of_mem h;exact⟨i,a,by unfold gt;simp[a]⟩
def Du (M:Int) (q:Int×Int):Prop := -M<=q.1/\q.1<=M /\ -M<=q.2/\q.2<=M
theorem Oy(h:Cc m b=false):Du m b:=by
 unfold Cc at h;simp at h;unfold Du;omega
theorem Adu(h:b∈f):∃i,i<f.length/\gt f i=b:=rk h
theorem fo{l:LP} {i:Nat} (h:i<l.length):gt l i∈l:=by
 unfold gt;rw[List.getD,List.getElem?_eq_getElem h];exact List.getElem_mem h
theorem gv(h:Bg f f.length=0):∀q∈f,Du 1048576 q:=by
 intro q hq;obtain⟨i,c,rfl⟩:=Adu hq;unfold Bg at h;split at h
 .cases h
 split at h
 .cases h
 split at h
 .cases h
 rename_i b;have a:Bp (λi=>Cc 1048576 (gt f i)) f.length=false:=by simpa using b
 apply Oy;cases ho:Cc 1048576 (gt f i) with
 | false=>rfl
 | true=>rw[Bp.yes c ho]at a;cases a
theorem F5{z:Int} (a : -100000000<=z) (b:z<=100000000):wrap64 z=z:=by unfold wrap64;omega
theorem Yu{x y:Int} (a : -2097152<=x) (b:x<=2097152) (c : -2097152<=y) (d:y<=2097152) : -4398046511104<=x*y/\x*y<=4398046511104:=by
 have h:=Nat.mul_le_mul (show x.natAbs<=2097152 by omega) (show y.natAbs<=2097152 by omega);rw[<-Int.natAbs_mul]at h;generalize x*y=z at h ⊢;omega
theorem Jk{z:Int} (a : -100000000000000<=z) (b:z<=100000000000000):wrap64 z=z:=by unfold wrap64;omega
def crP (a b c:Int×Int):Int:=(b.1-a.1)*(c.2-a.2)-(b.2-a.2)*(c.1-a.1)
theorem Jt{c:Int×Int} (a:Du 1048576 b) (d:Du 1048576 o) (e:Du 1048576 c):Bs b o c=crP b o c:=by
 unfold Du at a d e;unfold Bs crP;rw[F5 (z:=o.1-b.1) (by omega) (by omega),F5 (z:=c.2-b.2) (by omega) (by omega),F5 (z:=o.2-b.2) (by omega) (by omega),F5 (z:=c.1-b.1) (by omega) (by omega)];have f:=Yu (x:=o.1-b.1) (y:=c.2-b.2) (by omega) (by omega) (by omega) (by omega);have g:=Yu (x:=o.2-b.2) (y:=c.1-b.1) (by omega) (by omega) (by omega) (by omega);generalize (o.1-b.1)*(c.2-b.2)=u at f ⊢;generalize (o.2-b.2)*(c.1-b.1)=v at g ⊢;rw[Jk (z:=u) (by omega) (by omega),Jk (z:=v) (by omega) (by omega),Jk (by omega) (by omega)]
def dtP (a b c:Int×Int):Int:=(a.1-b.1)*(c.1-b.1)+(a.2-b.2)*(c.2-b.2)
theorem Wt{c:Int×Int} (a:Du 1048576 b) (d:Du 1048576 o) (e:Du 1048576 c):Il b o c=((crP b o c == 0)&&decide (dtP b o c > 0)):=by
 unfold Il;rw[Jt a d e];unfold Du at a d e;unfold dtP;rw[F5 (z:=b.1-o.1) (by omega) (by omega),F5 (z:=c.1-o.1) (by omega) (by omega),F5 (z:=b.2-o.2) (by omega) (by omega),F5 (z:=c.2-o.2) (by omega) (by omega)];have f:=Yu (x:=b.1-o.1) (y:=c.1-o.1) (by omega) (by omega) (by omega) (by omega);have g:=Yu (x:=b.2-o.2) (y:=c.2-o.2) (by omega) (by omega) (by omega) (by omega);generalize (b.1-o.1)*(c.1-o.1)=u at f ⊢;generalize (b.2-o.2)*(c.2-o.2)=v at g ⊢;rw[Jk (z:=u) (by omega) (by omega),Jk (z:=v) (by omega) (by omega),Jk (by omega) (by omega)]
def Lz (l:LP) (n i:Nat):Bool:=!(eqS (gt l i) (gt l ((i+1) % n)) || onW (gt l i) (gt l ((i+1) % n)) (gt l ((i+2) % n)) || onW (gt l ((i+1) % n)) (gt l ((i+2) % n)) (gt l i))&&Ix (Pc l n i) n
def bh (l:LP) (n:Nat):Bool:=Ix (Lz l n) n
theorem Mc{c:Int×Int} (a:Du 1048576 b) (d:Du 1048576 o) (e:Du 1048576 c):onW b o c=true↔crP b o c=0/\min b.1 o.1<=c.1/\c.1<=max b.1 o.1/\min b.2 o.2<=c.2/\c.2<=max b.2 o.2:=by
 unfold onW;rw[Jt a d e];simp[and_assoc]
theorem R8{x:Int} (h:(0<=x/\0<=m)\/(x<=0/\m<=0)):0<=x*m:=by
 rcases h with⟨c,d⟩|⟨c,d⟩
 .exact Int.mul_nonneg c d
 have:=Int.mul_nonneg (a := -x) (b := -m) (by omega) (by omega);rw[Int.neg_mul_neg]at this;exact this
theorem Ads{x:Int} (h:x*m=0):x=0\/m=0:=Int.mul_eq_zero.1 h
theorem Re{a b c:Int×Int} (f:crP a b c=0) (k:min a.1 b.1<=c.1/\c.1<=max a.1 b.1) (l:min a.2 b.2<=c.2/\c.2<=max a.2 b.2) (g:¬(c.1=b.1/\c.2=b.2)):dtP a b c > 0:=by
 unfold dtP;have m:0<=(a.1-b.1)*(c.1-b.1):=R8 (by omega);have n:0<=(a.2-b.2)*(c.2-b.2):=R8 (by omega);rcases Int.lt_or_le 0 ((a.1-b.1)*(c.1-b.1)+(a.2-b.2)*(c.2-b.2)) with h|h
 .exact h
 exfalso;have d:(a.1-b.1)*(c.1-b.1)=0:=by omega
 have e:(a.2-b.2)*(c.2-b.2)=0:=by omega
 have i:=Ads d;have j:=Ads e;omega
theorem Zm{c:Int×Int}:crP o c b=crP b o c:=by unfold crP;grind
theorem Abl{c:Int×Int}:dtP c o b=dtP b o c:=by unfold dtP;grind
theorem vv{u1 u2 v1 v2:Int} (h:u1*v2=u2*v1) (b:u1.natAbs > v1.natAbs) (c:v2.natAbs > u2.natAbs):False:=by
 have e:u1.natAbs*v2.natAbs=u2.natAbs*v1.natAbs:=by rw[<-Int.natAbs_mul,<-Int.natAbs_mul,h]
 have a:(v1.natAbs+1)*(u2.natAbs+1)<=u1.natAbs*v2.natAbs:=Nat.mul_le_mul b c;rw[e]at a;have:u2.natAbs*v1.natAbs=v1.natAbs*u2.natAbs:=Nat.mul_comm _ _;rw[this,Nat.add_mul,Nat.mul_add]at a;omega
theorem du{c:Int×Int} (v:crP b o c=0) (B:dtP b o c > 0):((min b.1 o.1<=c.1/\c.1<=max b.1 o.1)/\(min b.2 o.2<=c.2/\c.2<=max b.2 o.2))\/((min o.1 c.1<=b.1/\b.1<=max o.1 c.1)/\(min o.2 c.2<=b.2/\b.2<=max o.2 c.2)):=by
 let⟨u1,j⟩:=gN (b.1-o.1)
 let⟨u2,k⟩:=gN (b.2-o.2)
 let⟨d,l⟩:=gN (c.1-o.1)
 let⟨a,m⟩:=gN (c.2-o.2)
 have r:u1*a=u2*d:=by
  have:crP b o c=u2*d-u1*a:=by rw[<-j,<-k,<-l,<-m];unfold crP;grind
  omega
 have q:0<u1*d+u2*a:=by
  have:dtP b o c=u1*d+u2*a:=by rw[<-j,<-k,<-l,<-m];rfl
  omega
 have g:0<=(u1*d)*(u2*a):=by
  have e:(u1*d)*(u2*a)=(u1*a)*(u1*a):=by rw[show (u1*d)*(u2*a)=(u1*a)*(u2*d) by grind,<-r]
  rw[e];exact R8 (by omega)
 have s:∀{x y:Int},0<=x*y->0<x+y->0<=x:=λ{x y} n f=>by
  rcases Int.lt_or_le x 0 with h|h
  .exfalso;have:0 < -x*y:=Int.mul_pos (by omega) (by omega);rw[Int.neg_mul]at this;omega
  exact h
 have t:0<=u1*d:=s g q;have u:0<=u2*a:=s (x:=u2*a) (y:=u1*d) (by rw[Int.mul_comm];exact g) (by omega)
 have i:∀{x y:Int},0<=x*y->(0<=x/\0<=y)\/(x<=0/\y<=0):=λ{x y} h=>by
  rcases Int.lt_or_le x 0 with n|n
  .rcases Int.lt_or_le 0 y with f|f
   .exfalso;have:0 < -x*y:=Int.mul_pos (by omega) f;rw[Int.neg_mul]at this;omega
   exact .inr ⟨by omega,f⟩
  rcases Int.lt_or_le y 0 with f|f
  .rcases Int.lt_or_le 0 x with p|p
   .exfalso;have:0<x * -y:=Int.mul_pos p (by omega);rw[Int.mul_neg]at this;omega
   exact .inr ⟨p,by omega⟩
  exact .inl ⟨n,f⟩
 have C:=i t;have s2:=i u;by_cases w:u1.natAbs > d.natAbs
 .have:¬a.natAbs > u2.natAbs:=λh=>vv r w h
  left;omega
 by_cases z:u2.natAbs > a.natAbs
 .by_cases A:d.natAbs > u1.natAbs
  .exact(vv (u1:=u2) (u2:=u1) (v1:=a) (v2:=d) r.symm z A).elim
  left;omega
 right;omega
theorem lq(Q:∀q∈f,Du 1048576 q) (O:3<=f.length):bh f f.length=C8 f f.length:=by
 let⟨n,R⟩:=gN f.length
 have g:∀i,i<n->Du 1048576 (gt f i):=λi d=>Q _ (fo (by omega))
 rw[R]at O ⊢;have k:∀i,i % n<n:=λi=>Nat.mod_lt _ (by omega)
 have v:∀i,i<n->(Il (gt f i) (gt f ((i+1) % n)) (gt f ((i+2) % n))=true↔crP (gt f i) (gt f ((i+1) % n)) (gt f ((i+2) % n))=0/\dtP (gt f i) (gt f ((i+1) % n)) (gt f ((i+2) % n)) > 0):=λi d=>by
  rw[Wt (g i d) (g _ (k _)) (g _ (k _))];simp
 have m:∀a b:Int×Int,Du 1048576 a->Du 1048576 b->onW a b a=true:=λa b F P=>by
  rw[Mc F P F];refine⟨by unfold crP;grind,by omega,by omega,by omega,by omega⟩
 rw[Bool.eq_iff_iff];unfold bh C8;rw[Bool.and_eq_true,Ix.iff,Ix.iff,Ix.iff];constructor
 .intro h
  have p:∀i,i<n->eqS (gt f i) (gt f ((i+1) % n))=false/\onW (gt f i) (gt f ((i+1) % n)) (gt f ((i+2) % n))=false/\onW (gt f ((i+1) % n)) (gt f ((i+2) % n)) (gt f i)=false/\Ix (Pc f n i) n=true:=λi d=>by
   have:=h i d;unfold Lz at this;simp only[Bool.and_eq_true,Bool.not_eq_true',Bool.or_eq_false_iff]at this;exact⟨this.1.1.1,this.1.1.2,this.1.2,this.2⟩
  refine⟨λi d=>?_,λi d=>?_⟩
  ·-- no vertex twice
   rw[Bool.not_eq_true'];cases t:tp f i with
   | false=>rfl
   | true =>
     exfalso;unfold tp at t;let⟨j,x,A⟩:=Bp.iff.1 t;have l:=(Ge _ _).1 A;by_cases S:i=j+1
     .have:=(p j (by omega)).1;rw[show (j+1) % n=i by rw[<-S];exact Nat.mod_eq_of_lt d,l,(Ge _ _).2 rfl] at this;cases this
     by_cases T:(i+1) % n=j
     .have:=(p i d).1;rw[T,l,(Ge _ _).2 rfl]at this;cases this
     have:=Ix.iff.1 (p j (by omega)).2.2.2 i d;unfold Pc at this
     have C:Hs (gt f j) (gt f ((j+1) % n)) (gt f i) (gt f ((i+1) % n))=true:=by
      unfold Hs;rw[l,m _ _ (g j (by omega)) (g _ (k _))];rfl
     rw[C]at this;simp at this;omega
  unfold ao;rw[Bool.and_eq_true,Bool.not_eq_true'];refine⟨?_,(p i d).2.2.2⟩;cases hf:Il (gt f i) (gt f ((i+1) % n)) (gt f ((i+2) % n)) with
  | false=>rfl
  | true =>
    exfalso;let⟨o,L⟩:=(v i d).1 hf;rcases du o L with⟨r,s⟩|⟨r,s⟩
    .have:=(Mc (g i d) (g _ (k (i+1))) (g _ (k (i+2)))).2 ⟨o,r.1,r.2,s.1,s.2⟩;rw[(p i d).2.1]at this;cases this
    have:=(Mc (g _ (k (i+1))) (g _ (k (i+2))) (g i d)).2 ⟨by rw[Zm];exact o,r.1,r.2,s.1,s.2⟩;rw[(p i d).2.2.1]at this;cases this
 rintro⟨M,N⟩ i d
 have t:∀i j,i<n->j<i->¬gt f i=gt f j:=λi j d x e=>by
  have:=M i d;rw[Bool.not_eq_true']at this;unfold tp at this;rw[Bp.yes x ((Ge _ _).2 e)]at this;cases this
 have u:∀i j,i<n->j<n->i≠j->¬gt f i=gt f j:=λi j d x B e=>by
  rcases Nat.lt_or_gt_of_ne B with h|h
  .exact t j i x h e.symm
  exact t i j d h e
 have y:=N i d;unfold ao at y;rw[Bool.and_eq_true,Bool.not_eq_true']at y
 have U:(i+1) % n≠i:=λe=>by
  rcases Nat.lt_or_ge (i+1) n with h|h
  .rw[Nat.mod_eq_of_lt h]at e;omega
  rw[show i+1=n by omega,Nat.mod_self]at e;omega
 have V:(i+2) % n≠(i+1) % n:=λe=>by
  rcases Nat.lt_or_ge (i+2) n with h|h
  .rw[Nat.mod_eq_of_lt h,Nat.mod_eq_of_lt (by omega)]at e;omega
  rcases Nat.lt_or_ge (i+1) n with E|E
  .rw[show i+2=n by omega,Nat.mod_self,Nat.mod_eq_of_lt E]at e;omega
  rw[show i+2=n+1 by omega,show i+1=n by omega,Nat.mod_self,Nat.add_mod_left,Nat.mod_eq_of_lt (by omega)]at e;omega
 have G:¬(crP (gt f i) (gt f ((i+1) % n)) (gt f ((i+2) % n))=0/\dtP (gt f i) (gt f ((i+1) % n)) (gt f ((i+2) % n)) > 0):=λh=>by
  have:=(v i d).2 h;rw[y.1]at this;cases this
 have w:=u _ _ (k (i+1)) d U;have D:=u _ _ (k (i+2)) (k (i+1)) V;unfold Lz;simp only[Bool.and_eq_true,Bool.not_eq_true',Bool.or_eq_false_iff];refine⟨⟨⟨?_,?_⟩,?_⟩,y.2⟩
 .cases A:eqS (gt f i) (gt f ((i+1) % n)) with
  | false=>rfl
  | true=>exact absurd ((Ge _ _).1 A).symm w
 .cases ho:onW (gt f i) (gt f ((i+1) % n)) (gt f ((i+2) % n)) with
  | false=>rfl
  | true =>
    exfalso;let⟨z,H,I,J,K⟩:=(Mc (g i d) (g _ (k (i+1))) (g _ (k (i+2)))).1 ho;exact G ⟨z,Re z ⟨H,I⟩ ⟨J,K⟩ λe=>D (Prod.ext e.1 e.2)⟩
 cases ho:onW (gt f ((i+1) % n)) (gt f ((i+2) % n)) (gt f i) with
 | false=>rfl
 | true =>
   exfalso;let⟨z,H,I,J,K⟩:=(Mc (g _ (k (i+1))) (g _ (k (i+2))) (g i d)).1 ho;have o:crP (gt f i) (gt f ((i+1) % n)) (gt f ((i+2) % n))=0:=by rw[<-Zm];exact z
   refine G ⟨o,?_⟩;rw[<-Abl];refine Re (a:=gt f ((i+2) % n)) (b:=gt f ((i+1) % n)) (c:=gt f i) ?_ (by omega) (by omega) λe=>w (Prod.ext e.1.symm e.2.symm);unfold crP at o ⊢
   grind
end Go.Proofs.YtlogblbfbihleaaGreat
